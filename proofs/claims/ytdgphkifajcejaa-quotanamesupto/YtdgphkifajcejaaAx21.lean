import Derived.Test.YtdgphkifajcejaaAx7
import Derived.Test.YtdgphkifajcejaaAx19
import Derived.Test.YtdgphkifajcejaaAx20
/- AX, part 24a: what operations depend on. -/
namespace Go.AX

end Go.AX
