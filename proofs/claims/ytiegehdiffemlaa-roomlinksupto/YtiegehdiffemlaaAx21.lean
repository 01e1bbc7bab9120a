import Derived.Test.YtiegehdiffemlaaAx7
import Derived.Test.YtiegehdiffemlaaAx19
import Derived.Test.YtiegehdiffemlaaAx20
/- AX, part 24a: what operations depend on. -/
namespace Go.AX

end Go.AX
