/- Ev: arguments that are slices of flat elements (whole numbers, bools, structs of them, nested too). -/
import Derived.Test.YtmdkhaoppklokaaDoorEvY
import Derived.WideShapes
import Derived.ChangeArms
import Derived.DataReads
set_option linter.all false
namespace Go.Ev
open Go.RowKit

section
variable {H : Type} {enc : TypeId × Value → H} {P : Program} {w : World} {base : Nat} {sp : Nat → Bool} {held : Bool}

end
theorem rd_all {H : List B} {i n : Nat} {cs : List V} (h : H[i]? = some (.ro cs)) (hn : cs.length = n) : rd H i 0 n = some cs := by
  unfold rd; rw [h]
  show cut cs _ _ = _
  unfold cut
  rw [if_pos (by omega), List.drop_zero, List.take_of_length_le (by omega)]
end Go.Ev
