/- ports: the document's Parse. -/
import Derived.Test.YthbfnppgaaeilaaDoorPrtD
namespace Go.Proofs.YthbfnppgaaeilaaDoor
set_option linter.unusedVariables false
open Go.RowKit

end Go.Proofs.YthbfnppgaaeilaaDoor
