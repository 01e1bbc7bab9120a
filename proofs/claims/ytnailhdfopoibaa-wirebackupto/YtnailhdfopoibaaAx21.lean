import Derived.Test.YtnailhdfopoibaaAx7
import Derived.Test.YtnailhdfopoibaaAx19
import Derived.Test.YtnailhdfopoibaaAx20
/- AX, part 24a: what operations depend on. -/
namespace Go.AX

end Go.AX
