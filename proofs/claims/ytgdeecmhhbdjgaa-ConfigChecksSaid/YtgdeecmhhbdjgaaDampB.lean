/- damp: rising, falling, to, and the methods. -/
import Derived.Test.YtgdeecmhhbdjgaaDampA
namespace Go.Proofs.Ytgdeecmhhbdjgaa.dm
set_option linter.unusedVariables false
open Go.RowKit

def lowest (p C : Int) : Int := if p ≤ C then p else C
theorem lowest_lo (p C : Int) (h : p ≤ C) : lowest p C = p := if_pos h
theorem lowest_hi (p C : Int) (h : C < p) : lowest p C = C := if_neg (by omega)

theorem dampCs_p (F S R C H p q : Int) (h : Bool) : (dampCs F S R C H p h).setIfInBounds 5 (.int .i64 q) = dampCs F S R C H q h := rfl
theorem dampCs_h (F S R C H p : Int) (h k : Bool) : (dampCs F S R C H p h).setIfInBounds 6 (.bool k) = dampCs F S R C H p k := rfl

end Go.Proofs.Ytgdeecmhhbdjgaa.dm
