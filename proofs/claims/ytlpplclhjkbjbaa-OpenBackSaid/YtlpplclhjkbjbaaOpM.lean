/- open: the document's Parse. -/
import Derived.Test.YtlpplclhjkbjbaaOpK
import Derived.Test.YtlpplclhjkbjbaaRowX
import Derived.Test.YtlpplclhjkbjbaaAtE
namespace Go.Proofs.Ytlpplclhjkbjbaa
set_option linter.unusedVariables false
open Go.RowKit

theorem poH_hi (l : List UInt8) : poH l ≤ 65535 := by
  unfold poH numV
  split
  · decide
  · exact getN_2 _ _ (Nat.le_refl _)
theorem hold_bad (h : Int) (h0 : 0 ≤ h) (h1 : h ≤ 65535) : holdB h = false ↔ (h = 1 ∨ h = 2) := by
  unfold holdB
  constructor
  · intro e
    simp only [Bool.or_eq_false_iff, beq_eq_false_iff_ne, Bool.and_eq_false_imp, decide_eq_true_eq, decide_eq_false_iff_not] at e
    by_cases h3 : 3 ≤ h
    · have := e.2 h3; omega
    · have := e.1; omega
  · rintro (rfl | rfl) <;> rfl
end Go.Proofs.Ytlpplclhjkbjbaa
