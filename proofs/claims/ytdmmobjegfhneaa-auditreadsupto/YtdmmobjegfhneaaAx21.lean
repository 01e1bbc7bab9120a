import Derived.Test.YtdmmobjegfhneaaAx7
import Derived.Test.YtdmmobjegfhneaaAx19
import Derived.Test.YtdmmobjegfhneaaAx20
/- AX, part 24a: what operations depend on. -/
namespace Go.AX
end Go.AX
