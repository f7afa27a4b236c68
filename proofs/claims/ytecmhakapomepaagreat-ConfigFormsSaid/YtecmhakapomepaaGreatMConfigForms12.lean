import Derived.Test.YtecmhakapomepaaGreatMConfigForms11
import Derived.BigGuardPart
/- damp: the document's answer: Good, New, Flap, Tick. -/
namespace Go.Proofs.YtecmhakapomepaaGreat.dm
set_option maxRecDepth 100000
set_option linter.unusedVariables false
open Go.RowKit

set_option maxHeartbeats 1000000 in
theorem refGood_any (F S R C H : Int) (w : World) :
    Calls Tryz.prog 79 #[.agg #[.int .i64 F, .int .i64 S, .int .i64 R, .int .i64 C, .int .i64 H]] w fun e w' => e = .returned (.bool (goodR F S R C H)) ∧ Below w.heap.size w w' := by
  go_enter Tryz.func79, Tryz.ntmps79
  go_wp2
  all_goals go_ret
  all_goals exact ⟨ret_bool (by unfold goodR; rw [Bool.eq_iff_iff]; simp only [decide_eq_true_eq, Bool.false_eq_true, false_iff]; omega), (Below.refl _ _).alloc (Nat.le_refl _) _⟩

end Go.Proofs.YtecmhakapomepaaGreat.dm

/- damp: Ticks, and the laws DampTicks, DampNone. -/
namespace Go.Proofs.YtecmhakapomepaaGreat.dm
set_option maxRecDepth 100000
set_option linter.unusedVariables false
open Go.RowKit

/-- how many ticks from p down to R, in at most so many. -/
def tk (R H : Int) : Nat → Int → Nat
  | 0, _ => 0
  | f + 1, p => if R < p then tk R H f (decay p H) + 1 else 0
/-- how many ticks from p on. -/
def ticks (R H p : Int) : Nat := tk R H p.toNat p
end Go.Proofs.YtecmhakapomepaaGreat.dm
