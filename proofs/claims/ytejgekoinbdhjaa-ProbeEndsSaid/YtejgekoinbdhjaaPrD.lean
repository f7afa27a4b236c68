/- probe: what the loops over ids keep. -/
import Derived.Test.YtejgekoinbdhjaaPrC
import Derived.Test.YtejgekoinbdhjaaInR
namespace Go.Proofs.Ytejgekoinbdhjaa
set_option linter.unusedVariables false
open Go Go.RowKit Go.Maps Go.Shelf

/-- probes as elements of rows. -/
def prK : RK (Int × Int) where
  size := 2
  cel p := [.int .i64 p.1, .int .i64 p.2]
  ok _ _ _ := True
  pos := by omega
  len _ := rfl
  one _ u hu := by simp at hu; rcases hu with rfl | rfl <;> rfl
  keep _ _ := trivial
  more _ _ := trivial
theorem pr_ok : ElemOk Try.prog 128 134 prK.size 16 (.agg #[.int .i64 0, .int .i64 0]) := ⟨Try.underlying128, by kernel_rfl, rfl, prK.pos⟩
/-- what a loop over ids turns. -/
structure PS where
  sq : Int
  fn : Int → Option Int
  fw : Int → Option (Int × Int)
  l : List (Int × Int)
def lostStep (no pa : Int) (s : PS) (id : Int) : PS :=
  match s.fw id with
  | some p => if pa ≤ no - p.2 then { s with fw := upd s.fw id none, l := s.l ++ [(id, p.1)] } else s
  | none => s
def askStep (no ev : Int) (s : PS) (id : Int) : PS :=
  if (s.fn id).getD 0 = no then { sq := s.sq + 1, fn := upd s.fn id (some (no + ev)), fw := upd s.fw id (some (s.sq + 1, no)), l := s.l ++ [(id, s.sq + 1)] } else s
def waitStep (s : PS) (id : Int) : PS :=
  match s.fw id with
  | some p => { s with l := s.l ++ [(id, p.1)] }
  | none => s
/-- what the walks want to know of a state. -/
structure PSok (no sq0 : Int) (k : Nat) (s : PS) : Prop where
  lo : sq0 ≤ s.sq
  hi : s.sq ≤ sq0 + k
  at_ : ∀ id p, s.fw id = some p → 0 ≤ p.2 ∧ p.2 ≤ no
  len : s.l.length ≤ k
theorem PSok.start {no sq0 : Int} {fn : Int → Option Int} {fw : Int → Option (Int × Int)} (h : ∀ id p, fw id = some p → 0 ≤ p.2 ∧ p.2 ≤ no) : PSok no sq0 0 ⟨sq0, fn, fw, []⟩ :=
  ⟨Int.le_refl _, by simp, h, Nat.le_refl _⟩
theorem PSok.less {no sq0 : Int} {k : Nat} {s : PS} (h : PSok no sq0 k s) : PSok no sq0 (k + 1) s := ⟨h.lo, by have := h.hi; omega, h.at_, Nat.le_succ_of_le h.len⟩
theorem PSok.lost {no sq0 pa : Int} {k : Nat} {s : PS} (h : PSok no sq0 k s) (id : Int) : PSok no sq0 (k + 1) (lostStep no pa s id) := by
  unfold lostStep
  split
  · split
    · refine ⟨h.lo, by have := h.hi; simp only; omega, fun j p hp => ?_, by simp only [List.length_append, List.length_singleton]; have := h.len; omega⟩
      simp only [upd] at hp
      split at hp
      · cases hp
      · exact h.at_ j p hp
    · exact h.less
  · exact h.less
theorem PSok.ask {no sq0 ev : Int} {k : Nat} {s : PS} (h : PSok no sq0 k s) (h0 : 0 ≤ no) (id : Int) : PSok no sq0 (k + 1) (askStep no ev s id) := by
  unfold askStep
  split
  · refine ⟨by have := h.lo; simp only; omega, by have := h.hi; simp only; omega, fun j p hp => ?_, by simp only [List.length_append, List.length_singleton]; have := h.len; omega⟩
    simp only [upd] at hp
    split at hp
    · injection hp with hp
      subst hp
      exact ⟨h0, Int.le_refl _⟩
    · exact h.at_ j p hp
  · exact h.less
theorem PSok.wait {no sq0 : Int} {k : Nat} {s : PS} (h : PSok no sq0 k s) (id : Int) : PSok no sq0 (k + 1) (waitStep s id) := by
  unfold waitStep
  split
  · exact ⟨h.lo, by have := h.hi; simp only; omega, h.at_, by simp only [List.length_append, List.length_singleton]; have := h.len; omega⟩
  · exact h.less
/-- between two rounds: w the call's world, B where the loop begins, Bs the iterator's box, sB the receiver's box, lB the list's. -/
structure LoopI (w : World) (g bn bw sB lB : Nat) (ev pa no sq0 : Int) (ks : List Int) (st : PS → Int → PS) (s0 : PS) (Bs : Nat) (v : Value) (pre : List (Int × Int)) (W : World) : Prop where
  pro : ProV W g bn bw ev pa no ((pre.map Prod.fst).foldl st s0).sq ((pre.map Prod.fst).foldl st s0).fn ((pre.map Prod.fst).foldl st s0).fw
  sbox : Boxed W sB 126 (.pointer (some ⟨g, 0, none⟩))
  ibox : Boxed W Bs 126 (.pointer (some ⟨g, 0, none⟩))
  lbox : Boxed W lB 128 v
  row : Rows prK W w.heap.size w.heap.size 134 v ((pre.map Prod.fst).foldl st s0).l
  ok : PSok no sq0 pre.length ((pre.map Prod.fst).foldl st s0)
  chg : Chg w W (fun k => k = g ∨ k = bn ∨ k = bw)
theorem own_cells {w : World} {base size n k : Nat} {et : TypeId} {v : Value} {xs : List Value} (h : Own1 w base et size v n xs) (hk : v.ownBlock = some k) : ∃ vs fz, w.heap[k]? = some (.cells vs et fz) := by
  rcases h.2 with ⟨e, h0⟩ | ⟨g, cap, cur, e, hb, hg, _⟩
  · rw [e] at hk; cases hk
  · rw [e] at hk
    injection hk with hk
    subst hk
    exact ⟨_, _, hg⟩
theorem Chg.of_grownO {w w' : World} {X : Nat → Prop} {row : Option Nat} (h : w.grownBy w' row) (hr : ∀ k, row = some k → X k) : Chg w w' X :=
  ⟨h.os, h.tape, h.output, h.size, fun k hk hx => h.block k hk fun e => hx (hr k e.symm)⟩
theorem Chg.of_row {A B : World} {row : Option Nat} (hg : A.grownBy B row) : Chg A B (fun k => row = some k) := Chg.of_grownO hg fun _ e => e
theorem loopI_own {w : World} {g bn bw sB lB B Bs : Nat} {ev pa no sq0 : Int} {ks : List Int} {st : PS → Int → PS} {s0 : PS} (h1 : g < B) (h2 : bn < B) (h3 : bw < B) (h4 : sB < B) (h5 : lB < B) (h6 : Bs < B) (h7 : w.heap.size ≤ B) :
    OwnFrom B (fun pre W => ∃ v, LoopI w g bn bw sB lB ev pa no sq0 ks st s0 Bs v pre W) := by
  rintro pre X Y row ⟨v, hI⟩ hg hr
  have hc := Chg.of_row hg
  have far : ∀ k, k < B → row ≠ some k := fun k hk e => by have := (hr k e).1; omega
  have hb : ∀ {k T u}, k < B → Boxed X k T u → Boxed Y k T u := fun hk hbx => hbx.kept hg (fun e => far _ hk e.symm)
  refine ⟨v, hI.pro.chg hc (far _ h1) (far _ h2) (far _ h3), hb h4 hI.sbox, hb h6 hI.ibox, hb h5 hI.lbox, ⟨hc.own hI.row.1 fun k hk e => ?_, fun _ _ => trivial⟩, hI.ok, hI.chg.trans hc fun i hi e => absurd e (far i (by omega))⟩
  obtain ⟨o, ho, hcell⟩ := (hr k e).2
  obtain ⟨vs, fz, q⟩ := own_cells hI.row.1 hk
  rw [q] at ho
  injection ho with ho
  subst ho
  cases hcell
theorem keepI_of {g bn Bs : Nat} {W W' : World} {X : Nat → Prop} (hc : Chg W W' X) (hB : Bs < W.heap.size) (h1 : ¬ X Bs) (hg : g < W.heap.size) (h2 : ¬ X g) (hn : ¬ X bn) (hi : ∀ k, X k → ∀ (vs : Array Value) (fz : Nat × Nat), W.heap[k]? ≠ some (Obj.cells vs 3 fz)) : KeepI g bn Bs W W' :=
  ⟨hc.size, fun k vs fz q => hc.block k (Array.getElem?_eq_some_iff.1 q).1 (fun x => hi k x vs fz q), hc.block Bs hB h1, hc.cell (p := ⟨g, 4, none⟩) hg h2, fun fn q => ⟨fn, q.chg hc hn⟩⟩
theorem keepsFrom_of {B : Nat} {W W' : World} {X : Nat → Prop} (hc : Chg W W' X) (h : ∀ k, X k → k < B ∨ ∃ vs T fz, W.heap[k]? = some (Obj.cells vs T fz)) : KeepsFrom B W W' :=
  ⟨hc.size, fun k o hB hk ho => (hc.block k (Array.getElem?_eq_some_iff.1 hk).1 fun x => by
    rcases h k x with q | ⟨vs, T, fz, q⟩
    · omega
    · rw [q] at hk; injection hk with hk; subst hk; cases ho).trans hk⟩
theorem FMap.no_cells {V : Type} {enc : V → Value} {w : World} {b : Nat} {f : Int → Option V} (h : FMap enc w b f) (vs : Array Value) (T : TypeId) (fz : Nat × Nat) : w.heap[b]? ≠ some (Obj.cells vs T fz) := by
  obtain ⟨l, ⟨es, c, e, _⟩, _⟩ := h
  rw [e]
  intro q
  cases q
theorem goodI_put {bn B : Nat} {ks : List Int} (hb : bn < B) (pre : List (Int × Int)) (x : Int × Int) (W : World) (l : Nat) (o o' : Obj) (h : GoodI bn ks pre x W) (hl : B ≤ l) (ho : W.heap[l]? = some o) (hc : o.isCells = false) : GoodI bn ks pre x (W.putObj l o') := by
  obtain ⟨h1, f, h2, h3⟩ := h
  exact ⟨h1, f, h2.keep (World.putObj_heap_other (by omega)), h3⟩
theorem keepI_put {g bn Bs B : Nat} (hb : bn < B) (hB : Bs < B) (hg : g < B) (W : World) (l : Nat) (o o' : Obj) (hl : B ≤ l) (ho : W.heap[l]? = some o) (hc : o.isCells = false) (hw : o.isWalk = false) : KeepI g bn Bs W (W.putObj l o') :=
  ⟨by simp [World.putObj], fun k vs fz q => World.putObj_heap_other (fun e => by subst e; rw [q] at ho; injection ho with ho; subst ho; cases hc), World.putObj_heap_other (by omega), World.cell?_of_block (w := W) (a := ⟨g, 4, none⟩) (World.putObj_heap_other (by simp only; omega)), fun fn q => ⟨fn, q.keep (World.putObj_heap_other (by omega))⟩⟩
end Go.Proofs.Ytejgekoinbdhjaa
