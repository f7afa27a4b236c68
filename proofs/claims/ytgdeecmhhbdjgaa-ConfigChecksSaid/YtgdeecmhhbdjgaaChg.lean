/- The world may have changed in blocks of which X is so, and has grown. -/
import Derived.Test.YtgdeecmhhbdjgaaLib
namespace Go.Proofs.Ytgdeecmhhbdjgaa
set_option linter.unusedVariables false
open Go Go.RowKit

structure Chg (w w' : World) (X : Nat → Prop) : Prop where
  os : w'.os = w.os
  tape : w'.tape = w.tape
  output : w'.output = w.output
  size : w.heap.size ≤ w'.heap.size
  block : ∀ k, k < w.heap.size → ¬ X k → w'.heap[k]? = w.heap[k]?
section
variable {w w' w'' : World} {X Y : Nat → Prop}
theorem Chg.refl (w : World) (X : Nat → Prop) : Chg w w X := ⟨rfl, rfl, rfl, Nat.le_refl _, fun _ _ _ => rfl⟩
theorem Chg.trans (h : Chg w w' X) (k : Chg w' w'' Y) (hY : ∀ i, i < w.heap.size → Y i → X i) : Chg w w'' X :=
  ⟨k.os.trans h.os, k.tape.trans h.tape, k.output.trans h.output, Nat.le_trans h.size k.size, fun i hi hx => (k.block i (Nat.lt_of_lt_of_le hi h.size) fun hy => hx (hY i hi hy)).trans (h.block i hi hx)⟩
theorem Chg.of_grown {r : Nat} (h : w.grownBy w' (some r)) (hr : X r) : Chg w w' X :=
  ⟨h.os, h.tape, h.output, h.size, fun k hk hx => h.block k hk fun e => hx (by injection e with e; rw [e]; exact hr)⟩
theorem Chg.of_below (h : Below w.heap.size w w') : Chg w w' X := ⟨h.os, h.tape, h.output, h.size, fun k hk _ => h.block k hk⟩
theorem Chg.mono (h : Chg w w' X) (hXY : ∀ i, i < w.heap.size → X i → Y i) : Chg w w' Y := ⟨h.os, h.tape, h.output, h.size, fun k hk hy => h.block k hk fun hx => hy (hXY k hk hx)⟩
theorem Chg.blk {g : Nat} {T : TypeId} {cs : Array Value} (h : Chg w w' X) (hb : Blk w g T cs) (hg : ¬ X g) : Blk w' g T cs := by
  have := h.block g hb.lt hg
  unfold Blk at *
  rw [this]; exact hb
theorem Chg.ent {P : Program} {K : TypeId} {b : Nat} {l : List (Value × Value)} (h : Chg w w' X) (hb : Ent P K w b l) (hg : ¬ X b) : Ent P K w' b l := hb.keep (h.block b hb.lt hg)
theorem Chg.cell (h : Chg w w' X) {p : Addr} (hp : p.block < w.heap.size) (hx : ¬ X p.block) : w'.cell? p = w.cell? p := by
  unfold World.cell?
  rw [h.block p.block hp hx]
theorem Chg.seen {α : Type} {R : RK α} {S : Nat → Prop} {A : Option Addr} {n : Nat} {l : List α} (h : Chg w w' X) (hs : Seen R w S A n l) (hS : ∀ b, S b → b < w.heap.size ∧ ¬ X b) : Seen R w' S A n l :=
  hs.keep fun p hp => h.cell (hS _ hp).1 (hS _ hp).2
theorem Chg.own {base size n : Nat} {et : TypeId} {v : Value} {xs : List Value} (h : Chg w w' X) (ho : Own1 w base et size v n xs) (hv : ∀ k, v.ownBlock = some k → ¬ X k) : Own1 w' base et size v n xs := by
  obtain ⟨h1, h2 | ⟨g, cap, cur, e, hb, hh, hr⟩⟩ := ho
  · exact ⟨h1, .inl h2⟩
  · refine ⟨h1, .inr ⟨g, cap, cur, e, hb, ?_, hr⟩⟩
    rw [h.block g (Array.getElem?_eq_some_iff.1 hh).1 (hv g (by rw [e]; rfl))]
    exact hh
end
end Go.Proofs.Ytgdeecmhhbdjgaa
