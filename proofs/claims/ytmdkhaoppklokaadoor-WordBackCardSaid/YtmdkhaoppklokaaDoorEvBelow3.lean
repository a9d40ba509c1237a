/- Ev: a contract used within the kit's own walk, whatever memory it is called in. -/
import Derived.Test.YtmdkhaoppklokaaDoorEvBelow
set_option linter.all false
namespace Go.Ev
open Go Go.Proofs Go.RowKit Go.Shelf
end Go.Ev
