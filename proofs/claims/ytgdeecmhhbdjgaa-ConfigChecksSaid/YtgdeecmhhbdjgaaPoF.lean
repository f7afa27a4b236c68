/- pool: the document's example; PoolQuorum. -/
import Derived.Test.YtgdeecmhhbdjgaaPoE
namespace Go.Proofs.Ytgdeecmhhbdjgaa
set_option linter.unusedVariables false
open Go Go.RowKit Go.Maps

end Go.Proofs.Ytgdeecmhhbdjgaa
