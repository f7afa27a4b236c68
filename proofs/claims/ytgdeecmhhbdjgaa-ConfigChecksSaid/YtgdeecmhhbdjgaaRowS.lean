/- An element of an own row of structs is stored. -/
import Derived.Test.YtgdeecmhhbdjgaaLib
namespace Go.Proofs.Ytgdeecmhhbdjgaa
set_option linter.unusedVariables false
open Go.RowKit

section
variable {α : Type} {R : RK α} {w w' : World} {lo base g cap n size : Nat} {et : TypeId} {l : List α} {xs : List Value}
theorem own_setCells : ∀ (vs : List Value) (o : Nat) (w : World) (xs : List Value), Own1 w base et size (.slice (some ⟨g, 0, none⟩) n cap) n xs → o + vs.length ≤ xs.length →
    Own1 (w.setCells g o vs) base et size (.slice (some ⟨g, 0, none⟩) n cap) n (xs.take o ++ vs ++ xs.drop (o + vs.length)) ∧ w.grownBy (w.setCells g o vs) (some g)
  | [], o, w, xs, h, hl => by
    rw [World.setCells, List.append_nil, List.length_nil, Nat.add_zero, List.take_append_drop]
    exact ⟨h, grown_refl w _⟩
  | v :: r, o, w, xs, h, hl => by
    rw [List.length_cons] at hl
    rw [World.setCells]
    obtain ⟨h2, h3⟩ := own_setCells r (o + 1) _ _ (h.store o v) (by rw [List.length_set]; omega)
    refine ⟨?_, grown_trans (grown_setCell (grown_refl w _) (.inl rfl) v) h3⟩
    have e : (xs.set o v).take (o + 1) ++ r ++ (xs.set o v).drop (o + 1 + r.length) = xs.take o ++ v :: r ++ xs.drop (o + (v :: r).length) := by
      rw [List.take_add_one, List.take_set_of_le (Nat.le_refl _), List.getElem?_set_self (by omega), List.drop_set_of_lt (by omega), List.length_cons, show o + (r.length + 1) = o + 1 + r.length by omega]
      simp
    rw [e] at h2
    exact h2
theorem flat_take (k : Nat) : ((l.flatMap R.cel).take (k * R.size)) = (l.take k).flatMap R.cel := by
  induction l generalizing k with
  | nil => simp
  | cons a l ih =>
    cases k with
    | zero => simp
    | succ k =>
      rw [List.take_succ_cons, List.flatMap_cons, List.flatMap_cons, ← ih k, List.take_append, R.len, List.take_of_length_le (by rw [R.len, Nat.succ_mul]; omega), show (k + 1) * R.size - R.size = k * R.size by rw [Nat.succ_mul]; omega]
theorem flat_drop (k : Nat) : ((l.flatMap R.cel).drop (k * R.size)) = (l.drop k).flatMap R.cel := by
  induction l generalizing k with
  | nil => simp
  | cons a l ih =>
    cases k with
    | zero => simp
    | succ k =>
      rw [List.drop_succ_cons, List.flatMap_cons, ← ih k, List.drop_append, R.len, List.drop_of_length_le (by rw [R.len, Nat.succ_mul]; omega), show (k + 1) * R.size - R.size = k * R.size by rw [Nat.succ_mul]; omega, List.nil_append]
theorem flat_set (k : Nat) (e : α) (hk : k < l.length) : (l.flatMap R.cel).take (k * R.size) ++ R.cel e ++ (l.flatMap R.cel).drop (k * R.size + (R.cel e).length) = (l.set k e).flatMap R.cel := by
  rw [R.len, show k * R.size + R.size = (k + 1) * R.size by rw [Nat.succ_mul], flat_take, flat_drop, List.set_eq_take_append_cons_drop, if_pos hk, List.flatMap_append, List.flatMap_cons, List.append_assoc]
variable {P : Program} {o : Oper} {a : Act} {Q : Exit → Act → World → Prop} {KQ : Act → World → Prop}
/-- 'x[k] = e'. -/
theorem wp_row_set (h : Rows R w lo base et (.slice (some ⟨g, 0, none⟩) l.length cap) l) {k : Nat} (hk : k < l.length) (e : α) (ty : TypeId) (x y : Operand) (ho : o.op = .store ty x y) {cells : Array Value}
    (hx : a.eval x = .pointer (some ⟨g, k * R.size, none⟩)) (hy : a.eval y = .agg cells) (hc : cells.toList = R.cel e) (hi : (P.info? ty).map (·.size) = some cells.size) (hok : R.ok w (fun b => lo ≤ b ∧ b < w.heap.size ∧ b ≠ g) e)
    (hK : ∀ w', Rows R w' lo base et (.slice (some ⟨g, 0, none⟩) l.length cap) (l.set k e) → w.grownBy w' (some g) → KQ (a.put o.dst undef) w') : o.wp P a w KQ Q := by
  have hcs : cells.size = R.size := by rw [← Array.length_toList, hc, R.len]
  have hfl := flat_len R l
  have hkl : k * R.size + R.size ≤ l.length * R.size := by
    have := Nat.mul_le_mul_right R.size (show k + 1 ≤ l.length by omega)
    rw [Nat.succ_mul] at this
    exact this
  refine wp_store_mid ty x y ho g (k * R.size) cells hx hy (fun j hj => ?_) hi ?_ ?_
  · refine ⟨?_, h.1.free _⟩
    rw [h.1.cell _ (by omega)]
    have := flat_get R l k j (l[k]'hk) (List.getElem?_eq_getElem hk) (by omega)
    rw [this, List.getElem?_eq_getElem (by rw [R.len]; omega)]
    rfl
  · rw [Array.all_eq_true_iff_forall_mem]
    intro u hu
    exact R.one e u (by rw [← hc]; simpa using hu)
  · obtain ⟨h1, h2⟩ := own_setCells cells.toList (k * R.size) w (l.flatMap R.cel) h.1 (by rw [Array.length_toList]; omega)
    refine hK _ ⟨?_, fun e' he' => ?_⟩ h2
    · rw [hc, flat_set k e hk] at h1
      rw [List.length_set, hc]
      exact h1
    · have hold : R.ok w (fun b => lo ≤ b ∧ b < w.heap.size ∧ b ≠ g) e' := by
        rcases List.mem_or_eq_of_mem_set he' with he' | rfl
        · exact R.more (h.2 e' he') fun b q => ⟨q.1, q.2.1, fun e => q.2.2 (by rw [e]; rfl)⟩
        · exact hok
      refine R.more (R.keep hold fun p hp => ?_) fun b q => ⟨q.1, Nat.lt_of_lt_of_le q.2.1 h2.size, fun e => q.2.2 (by injection e with e; exact e.symm)⟩
      unfold World.cell?
      rw [h2.block p.block hp.2.1 (fun e => hp.2.2 (by injection e))]
end
end Go.Proofs.Ytgdeecmhhbdjgaa
