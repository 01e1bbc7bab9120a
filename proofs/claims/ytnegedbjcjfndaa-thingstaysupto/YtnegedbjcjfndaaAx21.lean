import Derived.Test.YtnegedbjcjfndaaAx7
import Derived.Test.YtnegedbjcjfndaaAx19
import Derived.Test.YtnegedbjcjfndaaAx20
/- AX, part 24a: what operations depend on. -/
namespace Go.AX

end Go.AX
