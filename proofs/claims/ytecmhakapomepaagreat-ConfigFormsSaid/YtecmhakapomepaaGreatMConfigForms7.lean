import Derived.Lib.SlKeysI
import Derived.Sort.WalkA
import Derived.Test.YtecmhakapomepaaGreatMConfigForms1
/- a stub: the shelf's sorting is not reached in this seat. -/
namespace Go.Shelf
end Go.Shelf

/- a stub: the shelf's sorting is not reached in this seat. -/
