/- texts joined -/
import Derived.Test.YtmdkhaoppklokaaDoorEvX
import Derived.RangeFuncBox
import Derived.RangeFuncLeaves
import Derived.RangeFuncFrom
import Derived.RangeFuncWrites
import Derived.Shelf.Abstract
import Derived.WalkKit
import Derived.OwnWalkIn
import Derived.TacticsInMore
import Derived.LoopNIn
import Derived.LoopIn
import Derived.BigFrameIn
import Derived.Test.YtmdkhaoppklokaaDoorKbyt
import Derived.Test.YtmdkhaoppklokaaDoorEvBelow
import Derived.Test.YtmdkhaoppklokaaDoorEvY
set_option linter.all false
namespace Go.Ev
open Go Go.Proofs Go.RowKit Go.Shelf
attribute [local go_sem] Oper.semAt_some
end Go.Ev

set_option linter.all false
namespace Go.Ev
open Go Go.Proofs Go.RowKit Go.Shelf
end Go.Ev
