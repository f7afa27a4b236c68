/- damp: the document's answer: Good, New, Flap, Tick. -/
import Derived.Test.YtgdeecmhhbdjgaaDampC
import Derived.BigGuardPart
namespace Go.Proofs.Ytgdeecmhhbdjgaa.dm
set_option linter.unusedVariables false
open Go.RowKit

set_option maxHeartbeats 1000000 in
theorem refGood_any (F S R C H : Int) (w : World) :
    Calls Try.prog 35 #[.agg #[.int .i64 F, .int .i64 S, .int .i64 R, .int .i64 C, .int .i64 H]] w fun e w' => e = .returned (.bool (goodR F S R C H)) ∧ Below w.heap.size w w' := by
  go_enter Try.func35, Try.ntmps35
  go_wp2
  all_goals go_ret
  all_goals exact ⟨ret_bool (by unfold goodR; rw [Bool.eq_iff_iff]; simp only [decide_eq_true_eq, Bool.false_eq_true, false_iff]; omega), (Below.refl _ _).alloc (Nat.le_refl _) _⟩

theorem stepP {w : World} {g : Nat} {T : TypeId} {F S R C H p : Int} {h : Bool} (hb : Blk w g T (dampCs F S R C H p h)) (q : Int) : Blk (w.setCell ⟨g, 5, none⟩ (.int .i64 q)) g T (dampCs F S R C H q h) ∧ w.grownBy (w.setCell ⟨g, 5, none⟩ (.int .i64 q)) (some g) :=
  ⟨by rw [← dampCs_p F S R C H p]; exact hb.set_ 5 _, grown_setCell (grown_refl _ _) (.inl rfl) _⟩
theorem stepH {w : World} {g : Nat} {T : TypeId} {F S R C H p : Int} {h : Bool} (hb : Blk w g T (dampCs F S R C H p h)) (k : Bool) : Blk (w.setCell ⟨g, 6, none⟩ (.bool k)) g T (dampCs F S R C H p k) ∧ w.grownBy (w.setCell ⟨g, 6, none⟩ (.bool k)) (some g) :=
  ⟨by rw [← dampCs_h F S R C H p h]; exact hb.set_ 6 _, grown_setCell (grown_refl _ _) (.inl rfl) _⟩

end Go.Proofs.Ytgdeecmhhbdjgaa.dm
