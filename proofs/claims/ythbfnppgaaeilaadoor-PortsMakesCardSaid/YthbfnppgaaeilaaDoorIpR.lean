/- ip: Forward and Rewrite. -/
import Derived.Test.YthbfnppgaaeilaaDoorIpO
namespace Go.Proofs.YthbfnppgaaeilaaDoor
set_option linter.unusedVariables false
open Go.RowKit

def fwdE (l : List UInt8) : Int := if errV l ≠ 0 then errV l else if byAt l 8 ≤ 1 then 9 else 0
def fwdL (l : List UInt8) : List UInt8 := if errV l ≠ 0 then [] else if byAt l 8 ≤ 1 then [] else buildL (fT l) (fI l) (fF l) (fG l) (fL l - 1) (fP l) (fS l) (fD l) (optL l) (payL l)
def rewL (l : List UInt8) (dst : Int) : List UInt8 := if errV l ≠ 0 then [] else buildL (fT l) (fI l) (fF l) (fG l) (fL l) (fP l) (fS l) dst (optL l) (payL l)
theorem tuple2 {v : Value} {a b : Int} (h : a = b) : Ending.returned (.tuple #[v, .int .i64 a]) = .returned (.tuple #[v, .int .i64 b]) := by rw [h]
theorem OwnB.fit {w : World} {base n : Nat} {v : Value} {l l' : List UInt8} (h : OwnB w base v n l) (e : l = l') : OwnB w base v l'.length l' := by
  subst e; rw [h.len]; exact h

end Go.Proofs.YthbfnppgaaeilaaDoor
