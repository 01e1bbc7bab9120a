import Derived.Test.YtfajnpnmghbdpaaAx7
import Derived.Test.YtfajnpnmghbdpaaAx19
import Derived.Test.YtfajnpnmghbdpaaAx20
/- AX, part 24a: what operations depend on. -/
namespace Go.AX

end Go.AX
