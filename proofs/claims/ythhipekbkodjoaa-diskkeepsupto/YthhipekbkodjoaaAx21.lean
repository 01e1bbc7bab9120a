import Derived.Test.YthhipekbkodjoaaAx7
import Derived.Test.YthhipekbkodjoaaAx19
import Derived.Test.YthhipekbkodjoaaAx20
/- AX, part 24a: what operations depend on. -/
namespace Go.AX
end Go.AX
