/- pool: the document's Mark, Drain, Weigh, Copy, Remove. -/
import Derived.Test.YtgdeecmhhbdjgaaPoW
namespace Go.Proofs.Ytgdeecmhhbdjgaa
set_option linter.unusedVariables false
open Go Go.RowKit Go.Maps

def markR (L : List Mem) (id : Int) (up : Bool) : Int × List Mem := setR L id up (getM L id).dr (getM L id).wt
def drainR (L : List Mem) (id : Int) (dr : Bool) : Int × List Mem := setR L id (getM L id).up dr (getM L id).wt
def weighR (L : List Mem) (id : Int) (wt : Int) : Int × List Mem :=
  if (decide (0 ≤ findZ L id) && !wtB wt) = true then (2, L) else setR L id (getM L id).up (getM L id).dr wt
def remR (L : List Mem) (id : Int) : Bool × List Mem := match findF L id with
  | some k => (true, L.eraseIdx k)
  | none => (false, L)
end Go.Proofs.Ytgdeecmhhbdjgaa
