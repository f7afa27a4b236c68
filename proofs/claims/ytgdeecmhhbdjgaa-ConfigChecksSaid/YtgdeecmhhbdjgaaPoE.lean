/- pool: Total, Healthy, Quorate; the document's example. -/
import Derived.Test.YtgdeecmhhbdjgaaPoD
import Derived.Test.YtgdeecmhhbdjgaaLate
namespace Go.Proofs.Ytgdeecmhhbdjgaa
set_option linter.unusedVariables false
open Go Go.RowKit Go.Maps

end Go.Proofs.Ytgdeecmhhbdjgaa
