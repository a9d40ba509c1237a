/- dev: word.Of's contract -/
import Derived.Test.YtmdkhaoppklokaaDoorKgd
import Derived.Test.YtmdkhaoppklokaaDoorKof
set_option linter.all false
namespace Go.Ev
open Go Go.Proofs Go.RowKit Go.Shelf
end Go.Ev
