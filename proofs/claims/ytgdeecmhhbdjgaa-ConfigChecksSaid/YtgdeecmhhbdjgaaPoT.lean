/- pool: Remove, Copy. -/
import Derived.Test.YtgdeecmhhbdjgaaPoS
import Derived.Test.YtgdeecmhhbdjgaaPoG
namespace Go.Proofs.Ytgdeecmhhbdjgaa
set_option linter.unusedVariables false
open Go Go.RowKit Go.Maps

end Go.Proofs.Ytgdeecmhhbdjgaa
