/- ip: the document's Parse. -/
import Derived.Test.YthbfnppgaaeilaaDoorIpL
namespace Go.Proofs.YthbfnppgaaeilaaDoor
set_option linter.unusedVariables false
open Go.RowKit

end Go.Proofs.YthbfnppgaaeilaaDoor
