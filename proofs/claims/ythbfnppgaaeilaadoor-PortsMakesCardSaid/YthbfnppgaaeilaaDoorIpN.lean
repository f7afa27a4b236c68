/- ip: the document's Parse of a packet that is one. -/
import Derived.Test.YthbfnppgaaeilaaDoorIpL
import Derived.Test.YthbfnppgaaeilaaDoorWirr
namespace Go.Proofs.YthbfnppgaaeilaaDoor
set_option linter.unusedVariables false
open Go.RowKit

end Go.Proofs.YthbfnppgaaeilaaDoor
