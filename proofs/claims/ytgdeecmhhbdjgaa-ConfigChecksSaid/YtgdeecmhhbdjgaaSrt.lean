/- a stub: the shelf's sorting is not reached in this seat. -/
import Derived.Test.YtgdeecmhhbdjgaaSrtL
