/- Own rows of structs, with what the memory they lead to may be said to lie in (X). -/
import Derived.Test.YtlpplclhjkbjbaaLib
namespace Go.Proofs.Ytlpplclhjkbjbaa
set_option linter.unusedVariables false
open Go.RowKit

section
variable {α : Type} (R : RK α)
/-- the call's own row of these elements: its block from base on, their memory in other blocks, of which X is so. -/
def RowsX (w : World) (X : Nat → Prop) (base : Nat) (et : TypeId) (v : Value) (l : List α) : Prop :=
  Own1 w base et R.size v l.length (l.flatMap R.cel) ∧ ∀ a ∈ l, R.ok w (fun b => X b ∧ b < w.heap.size ∧ v.ownBlock ≠ some b) a
variable {R} {w w' : World} {X Y : Nat → Prop} {S : Nat → Prop} {lo base n : Nat} {et : TypeId} {v : Value} {l : List α}
theorem RowsX.nil (w : World) (X : Nat → Prop) (base : Nat) (et : TypeId) : RowsX R w X base et (.slice (Option.none : Option Addr) 0 0) [] := ⟨Own1.nil w base et R.size, by simp⟩
theorem RowsX.below (h : RowsX R w X base et v l) (hb : Below w.heap.size w w') : RowsX R w' X base et v l :=
  ⟨h.1.below hb, fun a ha => R.more (R.keep (h.2 a ha) fun p hp => hb.cell hp.2.1) fun b q => ⟨q.1, Nat.lt_of_lt_of_le q.2.1 hb.size, q.2.2⟩⟩
/-- another block was written, in which nothing of these lies. -/
theorem RowsX.kept {k : Nat} (h : RowsX R w X base et v l) (hg : w.grownBy w' (some k)) (hr : ∀ b, X b → b ≠ k) (hk : v.ownBlock ≠ some k) : RowsX R w' X base et v l :=
  ⟨h.1.kept hg (.inr hk), fun a ha => R.more (R.keep (h.2 a ha) fun p hp => by
    unfold World.cell?
    rw [hg.block p.block hp.2.1 (fun e => by injection e with e; exact hr _ hp.1 e)]) fun b q => ⟨q.1, Nat.lt_of_lt_of_le q.2.1 hg.size, q.2.2⟩⟩
theorem RowsX.alloc (h : RowsX R w X base et v l) (o : Obj) : RowsX R (w.alloc o) X base et v l := h.below ((Below.refl _ _).alloc (Nat.le_refl _) o)
theorem RowsX.more (h : RowsX R w X base et v l) (hX : ∀ b, X b → b < w.heap.size → Y b) : RowsX R w Y base et v l :=
  ⟨h.1, fun a ha => R.more (h.2 a ha) fun b q => ⟨hX b q.1 q.2.1, q.2⟩⟩
theorem RowsX.rows (h : RowsX R w X base et v l) (hX : ∀ b, X b → lo ≤ b) : Rows R w lo base et v l :=
  ⟨h.1, fun a ha => R.more (h.2 a ha) fun b q => ⟨hX b q.1, q.2⟩⟩
theorem RowsX.own (h : RowsX R w X base et v l) (k : Nat) (hk : v.ownBlock = some k) : base ≤ k ∧ k < w.heap.size := h.1.lt k hk
theorem RowsX.below_app (h : RowsX R w X base et v l) (hg : w.grownBy w' v.ownBlock) (hb : base ≤ w.heap.size) : Below base w w' := h.1.below_app hg hb
theorem RowsX.any (h : RowsX R w X base et v l) : ∃ A cap, v = .slice A l.length cap := by
  obtain ⟨A, cap, e, _⟩ := h.1.any
  exact ⟨A, cap, e⟩
variable {P : Program} {st : TypeId} {bytes : Nat} {z : Value} {o : Oper} {a : Act} {Q : Exit → Act → World → Prop} {KQ : Act → World → Prop}
/-- 'append(v, x...)': x reads as the elements m. -/
theorem wp_rowsX (E : ElemOk P st et R.size bytes z) (s x : Operand)
    (ho : o.op = .call { callee := .builtin .append, args := #[s, x], argTypes := #[st, st] }) (h : RowsX R w X base et v l) (hs : a.eval s = v) {A : Option Addr} {k c : Nat} {m : List α} (hx : a.eval x = .slice A k c) (hm : Seen R w S A k m)
    (hok : ∀ e ∈ m, R.ok w (fun b => X b ∧ b < w.heap.size ∧ v.ownBlock ≠ some b) e) (h63 : l.length + k ≤ maxLen) (hbytes : (l.length + k) * bytes ≤ 140737488355328) (hbase : base ≤ w.heap.size)
    (hK : ∀ v' w', RowsX R w' X base et v' (l ++ m) → w.grownBy w' v.ownBlock → (v'.ownBlock = v.ownBlock ∨ v'.ownBlock = some w.heap.size) → KQ (a.put o.dst v') w') : o.wp P a w KQ Q := by
  have hml := hm.1
  refine wp_app1 w E s x ho base v l.length (l.flatMap R.cel) hs h.1 A k c (m.flatMap R.cel) hx (by rw [flat_len, hml]) (fun hk => ?_) ?_ h63 hbytes hbase ?_
  · obtain ⟨b, off, e, _, hc⟩ := hm.2.2 hk
    refine ⟨b, off, e, fun j hj => ?_⟩
    have hdiv : j / R.size < m.length := by rw [hml]; exact Nat.div_lt_of_lt_mul (by rw [Nat.mul_comm]; exact hj)
    have hmod : j % R.size < R.size := Nat.mod_lt _ R.pos
    have e1 : j / R.size * R.size + j % R.size = j := Nat.div_add_mod' j R.size
    have h1 := hc (j / R.size) _ (List.getElem?_eq_getElem hdiv) (j % R.size) hmod
    have h2 := flat_get R m (j / R.size) (j % R.size) _ (List.getElem?_eq_getElem hdiv) hmod
    rw [e1] at h1 h2
    rw [h1, h2]
  · intro u hu
    obtain ⟨a, _, hu⟩ := List.mem_flatMap.1 hu
    exact R.one a u hu
  · intro v' w' h1 h2 h3
    have h3' : v'.ownBlock = v.ownBlock ∨ v'.ownBlock = some w.heap.size := h3
    refine hK v' w' ⟨?_, ?_⟩ h2 h3'
    · rw [List.flatMap_append, List.length_append, hml]; exact h1
    · intro e he
      have hold : R.ok w (fun b => X b ∧ b < w.heap.size ∧ v.ownBlock ≠ some b) e := by
        rcases List.mem_append.1 he with he | he
        · exact h.2 e he
        · exact hok e he
      refine R.more (R.keep hold fun p hp => ?_) fun b q => ⟨q.1, Nat.lt_of_lt_of_le q.2.1 h2.size, ?_⟩
      · unfold World.cell?
        rw [h2.block p.block hp.2.1 (fun e => hp.2.2 e.symm)]
      · rcases h3 with e | e
        · rw [e]; exact q.2.2
        · rw [e]; intro e2; injection e2 with e2; have := q.2.1; omega
theorem wpList_rowsX (E : ElemOk P st et R.size bytes z) {ops : Array Oper} {rest : List Oper} (hgd : o.guard = none) (s x : Operand)
    (ho : o.op = .call { callee := .builtin .append, args := #[s, x], argTypes := #[st, st] }) (h : RowsX R w X base et v l) (hs : a.eval s = v) {A : Option Addr} {k c : Nat} {m : List α} (hx : a.eval x = .slice A k c) (hm : Seen R w S A k m)
    (hok : ∀ e ∈ m, R.ok w (fun b => X b ∧ b < w.heap.size ∧ v.ownBlock ≠ some b) e) (h63 : l.length + k ≤ maxLen) (hbytes : (l.length + k) * bytes ≤ 140737488355328) (hbase : base ≤ w.heap.size)
    (hK : ∀ v' w', RowsX R w' X base et v' (l ++ m) → w.grownBy w' v.ownBlock → (v'.ownBlock = v.ownBlock ∨ v'.ownBlock = some w.heap.size) → wpList P ops Q rest (a.put o.dst v') w') : wpList P ops Q (o :: rest) a w :=
  wpList_plain hgd fun _ hK' => wp_rowsX E s x ho h hs hx hm hok h63 hbytes hbase fun v' w' h1 h2 h3 => hK' _ _ (hK v' w' h1 h2 h3)
end
end Go.Proofs.Ytlpplclhjkbjbaa
