/- Slices of bytes as lists. -/
import Derived.Test.YtlkammmadchjnaaBits
import Derived.Below
import Derived.Laws.OwnMore
import Derived.Deep.Draws
import Derived.RangeFuncBox
namespace Go.Proofs.Ytlkammmadchjnaa
set_option linter.unusedVariables false
open Go.RowKit

/-- the byte at a place, 0 beyond. -/
def byAt (l : List UInt8) (j : Nat) : Int := ((l[j]?.getD 0).toNat : Int)
theorem byAt_lo (l : List UInt8) (j : Nat) : 0 ≤ byAt l j := by unfold byAt; omega
theorem byAt_hi (l : List UInt8) (j : Nat) : byAt l j ≤ 255 := by
  unfold byAt; have := (l[j]?.getD 0).toNat_lt; omega
theorem byAt_out (l : List UInt8) (j : Nat) (h : l.length ≤ j) : byAt l j = 0 := by
  unfold byAt; rw [List.getElem?_eq_none h]; rfl

/-- the slice value '.slice A n c' holds the bytes l, in a block below B (if there are any). -/
def Byt (w : World) (B : Nat) (A : Option Addr) (n : Nat) (l : List UInt8) : Prop :=
  l.length = n ∧ (0 < n → ∃ b off, A = some ⟨b, off, none⟩ ∧ b < B ∧ ∀ j, j < n → w.cell? ⟨b, off + j, none⟩ = some (.int .u8 (byAt l j)))

section
variable {w w' : World} {B B' n : Nat} {A : Option Addr} {l : List UInt8}
theorem Byt.none_ : Byt w B A 0 [] := ⟨rfl, fun h => absurd h (by omega)⟩
theorem Byt.keep (h : Byt w B A n l) (hk : ∀ p : Addr, p.block < B → w'.cell? p = w.cell? p) : Byt w' B A n l :=
  ⟨h.1, fun hn => by
    obtain ⟨b, off, e, hb, hc⟩ := h.2 hn
    exact ⟨b, off, e, hb, fun j hj => (hk _ hb).trans (hc j hj)⟩⟩
theorem Byt.more (h : Byt w B A n l) (hB : B ≤ B') : Byt w B' A n l :=
  ⟨h.1, fun hn => by
    obtain ⟨b, off, e, hb, hc⟩ := h.2 hn
    exact ⟨b, off, e, by omega, hc⟩⟩
theorem Byt.below (h : Byt w B A n l) (hb : Below B w w') : Byt w' B A n l := h.keep fun _ hp => hb.cell hp
theorem Byt.drew (h : Byt w B A n l) : Byt w.drew B A n l := h
theorem Byt.drewN (h : Byt w B A n l) (k : Nat) : Byt (w.drewN k) B A n l := h
theorem Byt.alloc (h : Byt w B A n l) (hB : B ≤ w.heap.size) (o : Obj) : Byt (w.alloc o) B A n l := h.keep fun p hp => World.cell?_alloc_lt w o p (by omega)
theorem Byt.setCell (h : Byt w B A n l) {p : Addr} (hB : B ≤ p.block) (u : Value) : Byt (w.setCell p u) B A n l :=
  h.keep fun q hq => World.cell?_setCell_other w p q u (fun e => by subst e; omega)
end

theorem byAt_drop (l : List UInt8) (k j : Nat) : byAt (l.drop k) j = byAt l (k + j) := by unfold byAt; rw [List.getElem?_drop]
theorem byAt_take (l : List UInt8) (k j : Nat) (h : j < k) : byAt (l.take k) j = byAt l j := by unfold byAt; rw [List.getElem?_take_of_lt h]
theorem Byt.take {w : World} {B n m : Nat} {A : Option Addr} {l : List UInt8} (h : Byt w B A n l) (hm : m ≤ n) : Byt w B A m (l.take m) :=
  ⟨by rw [List.length_take, h.1]; omega, fun h0 => by
    obtain ⟨b, off, e, hb, hc⟩ := h.2 (by omega)
    exact ⟨b, off, e, hb, fun j hj => by rw [byAt_take _ _ _ hj]; exact hc j (by omega)⟩⟩
theorem Byt.drop {w : World} {B n m b off : Nat} {l : List UInt8} (h : Byt w B (some ⟨b, off, none⟩) n l) (hm : m ≤ n) : Byt w B (some ⟨b, off + m, none⟩) (n - m) (l.drop m) :=
  ⟨by rw [List.length_drop, h.1], fun h0 => by
    obtain ⟨b', off', e, hb, hc⟩ := h.2 (by omega)
    injection e with e
    injection e with e1 e2
    subst e1 e2
    exact ⟨b, off + m, rfl, hb, fun j hj => by rw [byAt_drop, Nat.add_assoc]; exact hc (m + j) (by omega)⟩⟩

theorem below_drewN {B : Nat} {a w : World} (h : Below B a w) (n : Nat) : Below B a (w.drewN n) := ⟨h.os, h.tape, h.output, h.size, h.block⟩

def byCells (l : List UInt8) : Array Value := (l.map fun c => Value.int .u8 (c.toNat : Int)).toArray
theorem byCells_get (l : List UInt8) (j : Nat) (h : j < l.length) : (byCells l)[j]? = some (.int .u8 (byAt l j)) := by
  unfold byCells byAt; simp [List.getElem?_eq_getElem h]
theorem cell_of_cells (w : World) (k i : Nat) (cs : Array Value) (t : TypeId) (m : Nat × Nat) (h : w.heap[k]? = some (.cells cs t m)) : w.cell? ⟨k, i, none⟩ = cs[i]? := by
  simp [World.cell?, h]
/-- a new block of the bytes l. -/
theorem Byt.new (w : World) (l : List UInt8) (t : TypeId) (m : Nat × Nat) : Byt (w.alloc (.cells (byCells l) t m)) (w.heap.size + 1) (some ⟨w.heap.size, 0, none⟩) l.length l :=
  ⟨rfl, fun _ => ⟨_, 0, rfl, by omega, fun j hj => by
    rw [cell_of_cells _ _ _ _ t m (World.alloc_heap_new w _), Nat.zero_add, byCells_get l j hj]⟩⟩

end Go.Proofs.Ytlkammmadchjnaa
