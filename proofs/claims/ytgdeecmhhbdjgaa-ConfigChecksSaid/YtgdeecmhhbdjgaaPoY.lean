/- pool: the document's Copy and Remove. -/
import Derived.Test.YtgdeecmhhbdjgaaPoX
import Derived.Test.YtgdeecmhhbdjgaaRowC
import Derived.Test.YtgdeecmhhbdjgaaDrawE
namespace Go.Proofs.Ytgdeecmhhbdjgaa
set_option linter.unusedVariables false
open Go Go.RowKit Go.Maps

theorem elem_row : Try.prog.underlying 167 = some (.slice (Try.prog.elem 167)) := by kernel_rfl
theorem size_row (w : World) : (sizeOf (Try.prog.elem 167)).run Try.prog w = .ok memK.size w := by kernel_rfl
theorem eraseIdx_td {α : Type} (l : List α) (k : Nat) : l.take k ++ l.drop (k + 1) = l.eraseIdx k := by
  rw [List.eraseIdx_eq_take_drop_succ]
end Go.Proofs.Ytgdeecmhhbdjgaa
