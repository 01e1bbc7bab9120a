import Derived.Test.YtlgieadebfdppaaAx7
import Derived.Test.YtlgieadebfdppaaAx19
import Derived.Test.YtlgieadebfdppaaAx20
/- AX, part 24a: what operations depend on. -/
namespace Go.AX

end Go.AX
