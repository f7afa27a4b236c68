/- a stub: the shelf's sorting is not reached in this seat. -/
import Derived.Lib.SlKeysI
import Derived.Sort.WalkA
import Derived.Test.YtgdeecmhhbdjgaaLib
namespace Go.Shelf
end Go.Shelf
