/- damp: to, Flap, Tick, Held, Penalty, Copy, New. -/
import Derived.Test.YtgdeecmhhbdjgaaDampB
import Derived.StillTailTactics
namespace Go.Proofs.Ytgdeecmhhbdjgaa.dm
set_option linter.unusedVariables false
open Go.RowKit

end Go.Proofs.Ytgdeecmhhbdjgaa.dm
