/- Byte slices that the call itself makes: over this program ([]byte is a known type of it). -/
import Derived.Test.YtlkammmadchjnaaRows
import Derived.Test.YtlkammmadchjnaaMem
import Derived.Maps.AppendAt
import Derived.Deep.AppendLies
import Derived.RegionTactic
import Derived.OwnWalk
namespace Go.Proofs.Ytlkammmadchjnaa
set_option linter.unusedVariables false
open Go.RowKit

def bvs (l : List UInt8) : List Value := l.map fun c => Value.int .u8 (c.toNat : Int)
theorem bvs_app (l k : List UInt8) : bvs (l ++ k) = bvs l ++ bvs k := List.map_append
theorem bvs_one (l : List UInt8) : ∀ u ∈ bvs l, u.oneCell' = true := by
  intro u hu
  simp only [bvs, List.mem_map] at hu
  obtain ⟨c, _, rfl⟩ := hu
  rfl
theorem bvs_get (l : List UInt8) (j : Nat) (h : j < l.length) : (bvs l)[j]? = some (.int .u8 (byAt l j)) := by
  unfold bvs byAt; simp [List.getElem?_eq_getElem h]
theorem bvs_len (l : List UInt8) : (bvs l).length = l.length := by simp [bvs]
theorem bvs_set (l : List UInt8) (j : Nat) (n : Int) : bvs (l.set j (byOf n)) = (bvs l).set j (.int .u8 (n % 256)) := by
  unfold bvs; rw [List.map_set, byOf_val]

/-- the slice value v of n bytes, from block 'base' on, is the call's own, and reads l. -/
def OwnB (w : World) (base : Nat) (v : Value) (n : Nat) (l : List UInt8) : Prop := w.ownsRow base 5 1 v n (bvs l)

section
variable {w w' : World} {base n cap g : Nat} {v : Value} {l : List UInt8}
theorem OwnB.len (h : OwnB w base v n l) : l.length = n := by have := h.1; rw [bvs_len] at this; omega
theorem OwnB.nil (w : World) (base : Nat) : OwnB w base (.slice none 0 0) 0 [] := World.ownsRow_nil w base _ _
theorem OwnB.form (h : OwnB w base v n l) (hn : 0 < n) : ∃ g cap, v = .slice (some ⟨g, 0, none⟩) n cap ∧ base ≤ g ∧ g < w.heap.size ∧ n ≤ cap ∧ cap ≤ maxLen := by
  rcases h.2 with ⟨_, h0⟩ | ⟨g, cap, cur, e, hb, hg, hnc, hm, _⟩
  · omega
  · exact ⟨g, cap, e, hb, (Array.getElem?_eq_some_iff.1 hg).1, hnc, hm⟩
/-- whatever its make. -/
theorem OwnB.any (h : OwnB w base v n l) : ∃ A cap, v = .slice A n cap ∧ n ≤ cap ∧ Byt w w.heap.size A n l ∧ (∀ a, A = some a → base ≤ a.block) := by
  rcases h.2 with ⟨e, h0⟩ | ⟨g, cap, cur, e, hb, hg, hnc, hm, hs, ht⟩
  · subst h0
    exact ⟨none, 0, e, Nat.le_refl _, ⟨h.len, fun h => absurd h (by omega)⟩, fun a h => by cases h⟩
  · refine ⟨_, cap, e, hnc, ⟨h.len, fun hn => ⟨g, 0, rfl, (Array.getElem?_eq_some_iff.1 hg).1, fun j hj => ?_⟩⟩, fun a h => by cases h; exact hb⟩
    subst e
    rw [Nat.zero_add, World.ownsRow.cellAt h j (by omega), bvs_get _ _ (by rw [h.len]; exact hj)]
theorem OwnB.byt (h : OwnB w base (.slice (some ⟨g, 0, none⟩) n cap) n l) : Byt w w.heap.size (some ⟨g, 0, none⟩) n l := by
  obtain ⟨A, c, e, _, hb, _⟩ := h.any
  injection e with e1 e2
  rw [e1]; exact hb
theorem OwnB.kept {row : Option Nat} (h : OwnB w base v n l) (hg : w.grownBy w' row) (hne : v.ownBlock = none ∨ v.ownBlock ≠ row) : OwnB w' base v n l := World.ownsRow.kept h hg hne
theorem grown_of_below {B : Nat} (hb : Below B w w') (hB : w.heap.size ≤ B) (row : Option Nat) : w.grownBy w' row :=
  ⟨hb.os, hb.tape, hb.output, hb.size, fun k hk _ => hb.block k (by omega)⟩
theorem OwnB.below (h : OwnB w base v n l) (hb : Below w.heap.size w w') : OwnB w' base v n l :=
  World.ownsRow.kept h (grown_of_below hb (Nat.le_refl _) none) (by cases hv : v.ownBlock <;> simp)
theorem OwnB.alloc (h : OwnB w base v n l) (o : Obj) : OwnB (w.alloc o) base v n l := World.ownsRow.alloc h o
theorem OwnB.drew (h : OwnB w base v n l) : OwnB w.drew base v n l := h
theorem OwnB.drewN (h : OwnB w base v n l) (k : Nat) : OwnB (w.drewN k) base v n l := h
/-- a byte stored. -/
theorem OwnB.store (h : OwnB w base (.slice (some ⟨g, 0, none⟩) n cap) n l) (j : Nat) (z : Int) (z1 : 0 ≤ z) (z2 : z ≤ 255) :
    OwnB (w.setCell ⟨g, j, none⟩ (.int .u8 z)) base (.slice (some ⟨g, 0, none⟩) n cap) n (l.set j (byOf z)) := by
  unfold OwnB
  rw [bvs_set, Int.emod_eq_of_lt z1 (by omega)]
  exact (World.ownsRow.stored h j _).1
theorem OwnB.free (h : OwnB w base (.slice (some ⟨g, 0, none⟩) n cap) n l) (j : Nat) : w.frozen? ⟨g, j, none⟩ = false := World.ownsRow.frozenAt h j
theorem OwnB.cell (h : OwnB w base (.slice (some ⟨g, 0, none⟩) n cap) n l) (j : Nat) (hj : j < n) : w.cell? ⟨g, j, none⟩ = some (.int .u8 (byAt l j)) := by
  rw [World.ownsRow.cellAt h j (by omega), bvs_get _ _ (by rw [h.len]; exact hj)]
/-- a literal []byte{..}. -/
theorem OwnB.lit (w : World) (l : List UInt8) (hb : base ≤ w.heap.size) (hm : l.length ≤ maxLen) :
    OwnB (w.alloc (.cells (byCells l) 5)) base (.slice (some ⟨w.heap.size, 0, none⟩) l.length l.length) l.length l := by
  have := World.ownsRow_lit (size := 1) (e := 5) w (byCells l) l.length hb hm (by simp [byCells])
  simpa [OwnB, byCells, bvs] using this
end

theorem info_u8 : (Try.prog.info? 5).map (fun i => (i.zero, i.size, i.bytes)) = some (some (.int .u8 0), 1, 1) := by kernel_rfl

section
variable (w : World)
theorem run_append_nilsrc (base : Nat) (ty : TypeId) (v : Value) (n : Nat) (l : List UInt8) (hown : OwnB w base v n l) (c : Nat) :
    (Builtin.append_ #[23, 23] ty #[v, .slice none 0 c]).run Try.prog w = .ok v w := by
  obtain ⟨i, hi, _, _, _⟩ := info_parts info_u8
  rcases hown.2 with ⟨rfl, rfl⟩ | ⟨g, cap, cur, rfl, _, _, hnc, _⟩
  · simp [Builtin.append_, run_underlying Try.underlying23, sizeOf, typeInfo, hi, Builtin.lenOf, Builtin.firstCells]
  · simp [Builtin.append_, run_underlying Try.underlying23, sizeOf, typeInfo, hi, Builtin.lenOf, Builtin.firstCells, hnc, storeCells]

/-- 'append(v, x...)': v the call's own, x whatever bytes. -/
theorem run_app (base : Nat) (ty : TypeId) (v : Value) (n : Nat) (l : List UInt8) (hown : OwnB w base v n l) (B : Nat) (X : Option Addr) (m c : Nat) (k : List UInt8) (hr : Byt w B X m k)
    (hlen : n + m ≤ 140737488355328) (hbase : base ≤ w.heap.size) :
    ∃ v' w', (Builtin.append_ #[23, 23] ty #[v, .slice X m c]).run Try.prog w = .ok v' w' ∧ OwnB w' base v' (n + m) (l ++ k) ∧ w.grownBy w' v.ownBlock ∧
      (v'.ownBlock = v.ownBlock ∨ v'.ownBlock = some w.heap.size) := by
  obtain ⟨i, hi, hz, hs, hb⟩ := info_parts info_u8
  rcases Nat.eq_zero_or_pos m with h0 | h0
  · subst h0
    obtain rfl : k = [] := List.eq_nil_of_length_eq_zero hr.1
    cases X with
    | none => exact ⟨v, w, run_append_nilsrc w base ty v n l hown c, by simpa using hown, World.grownBy.refl w _, .inl rfl⟩
    | some ad =>
      obtain ⟨v', w', e1, e2, e3, _, e5⟩ := run_append_own_at (P := Try.prog) w base 23 ty 5 i _ 1 1 Try.underlying23 hi hz hs hb rfl (by omega) v n (bvs l) hown ad 0 c [] rfl (by simp) (by simp) (by unfold maxLen; omega) (by omega) hbase
      exact ⟨v', w', e1, by simpa [OwnB] using e2, e3, e5⟩
  · obtain ⟨b, off, rfl, _, hc⟩ := hr.2 h0
    obtain ⟨v', w', e1, e2, e3, _, e5⟩ := run_append_own_at (P := Try.prog) w base 23 ty 5 i _ 1 1 Try.underlying23 hi hz hs hb rfl (by omega) v n (bvs l) hown ⟨b, off, none⟩ m c (bvs k) (by rw [bvs_len, hr.1]; omega)
      (fun j u hu => by
        have hj : j < m := by have := (List.getElem?_eq_some_iff.1 hu).1; rw [bvs_len, hr.1] at this; exact this
        rw [bvs_get k j (by rw [hr.1]; exact hj)] at hu
        rw [Go.WideShapes.add_plain, hc j hj]; exact hu) (bvs_one k) (by unfold maxLen; omega) (by omega) hbase
    exact ⟨v', w', e1, by rw [OwnB, bvs_app]; exact e2, e3, e5⟩

theorem wp_app {o : Oper} {a : Act} {K : Act → World → Prop} {Q : Exit → Act → World → Prop} (s x : Operand)
    (ho : o.op = .call { callee := .builtin .append, args := #[s, x], argTypes := #[23, 23] })
    (base : Nat) (v : Value) (n : Nat) (l : List UInt8) (hs : a.eval s = v) (hown : OwnB w base v n l) (B : Nat) (X : Option Addr) (m c : Nat) (k : List UInt8) (hx : a.eval x = .slice X m c) (hr : Byt w B X m k)
    (hlen : n + m ≤ 140737488355328) (hbase : base ≤ w.heap.size)
    (h : ∀ v' w', OwnB w' base v' (n + m) (l ++ k) → w.grownBy w' v.ownBlock → (v'.ownBlock = v.ownBlock ∨ v'.ownBlock = some w.heap.size) → K (a.put o.dst v') w') : o.wp Try.prog a w K Q := by
  obtain ⟨v', w', hrun, h2, h3, h4⟩ := run_app w base o.type v n l hown B X m c k hr hlen hbase
  unfold Oper.wp execOp
  simp only [ho, resolve, invoke, builtin, Sem.run_bind, Sem.run_pure, Result.andThen_ok, List.map_toArray, List.map_cons, List.map_nil, hs, hx, hrun]
  exact h v' w' h2 h3 h4

theorem wpList_app {ops : Array Oper} {rest : List Oper} {o : Oper} {a : Act} {Q : Exit → Act → World → Prop} (hgd : o.guard = none) (s x : Operand)
    (ho : o.op = .call { callee := .builtin .append, args := #[s, x], argTypes := #[23, 23] })
    (base : Nat) (v : Value) (n : Nat) (l : List UInt8) (hs : a.eval s = v) (hown : OwnB w base v n l) (B : Nat) (X : Option Addr) (m c : Nat) (k : List UInt8) (hx : a.eval x = .slice X m c) (hr : Byt w B X m k)
    (hlen : n + m ≤ 140737488355328) (hbase : base ≤ w.heap.size)
    (h : ∀ v' w', OwnB w' base v' (n + m) (l ++ k) → w.grownBy w' v.ownBlock → (v'.ownBlock = v.ownBlock ∨ v'.ownBlock = some w.heap.size) → wpList Try.prog ops Q rest (a.put o.dst v') w') : wpList Try.prog ops Q (o :: rest) a w :=
  wpList_plain hgd fun _ hK => wp_app w s x ho base v n l hs hown B X m c k hx hr hlen hbase fun v' w' h2 h3 h4 => hK _ _ (h v' w' h2 h3 h4)
end

section
variable (g off L c p q : Nat)
theorem elem_u8 : Try.prog.underlying 23 = some (.slice (Try.prog.elem 23)) := by kernel_rfl
theorem size_u8 (w : World) : (sizeOf (Try.prog.elem 23)).run Try.prog w = .ok 1 w := by kernel_rfl
theorem slice_hi (hp : p ≤ c) : ∀ w, (Instr.slice 23 (.slice (some ⟨g, off, none⟩) L c) none (some (.int .i64 (p : Int))) none).run Try.prog w = .ok (.slice (some ⟨g, off, none⟩) p c) w := by
  intro w
  rw [run_slice_h w 23 _ L c elem_u8 .i64 p (by omega) (by omega), size_u8]
  simp [Result.andThen, sliced, Addr.add]
theorem slice_lo (hp : p ≤ L) (hc : p < c) : ∀ w, (Instr.slice 23 (.slice (some ⟨g, off, none⟩) L c) (some (.int .i64 (p : Int))) none none).run Try.prog w = .ok (.slice (some ⟨g, off + p, none⟩) (L - p) (c - p)) w := by
  intro w
  rw [run_slice_l w 23 _ L c elem_u8 .i64 p (by omega) (by omega), size_u8]
  have h1 : c ≠ p := by omega
  simp [Result.andThen, sliced, h1, Go.WideShapes.add_plain]
theorem slice_lh (hp : p ≤ q) (hq : q ≤ c) (hc : p < c) : ∀ w, (Instr.slice 23 (.slice (some ⟨g, off, none⟩) L c) (some (.int .i64 (p : Int))) (some (.int .i64 (q : Int))) none).run Try.prog w = .ok (.slice (some ⟨g, off + p, none⟩) (q - p) (c - p)) w := by
  intro w
  rw [run_slice_lh w 23 _ L c elem_u8 .i64 .i64 p q (by omega) (by omega) (by omega), size_u8]
  have h1 : c ≠ p := by omega
  simp [Result.andThen, sliced, h1, Go.WideShapes.add_plain]
end

/-- an append onto a row from 'base' on turns nothing below base. -/
theorem OwnB.below_app {w w' : World} {base n : Nat} {v : Value} {l : List UInt8} (h : OwnB w base v n l) (hg : w.grownBy w' v.ownBlock) (hb : base ≤ w.heap.size) : Below base w w' :=
  (Below.refl base w).grown hg hb fun k e => (World.ownsRow.lt h k e).1

end Go.Proofs.Ytlkammmadchjnaa
