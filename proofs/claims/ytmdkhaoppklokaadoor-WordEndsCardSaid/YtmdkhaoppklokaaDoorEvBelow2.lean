/- Ev: a contract out of the kit's own words: a call whose result lies in one new block, that is read alone. -/
import Derived.Test.YtmdkhaoppklokaaDoorEvBelow
set_option linter.all false
namespace Go.Ev
open Go Go.Proofs Go.RowKit Go.Shelf
def J.plus (j : J) (n g : Nat) : J := ⟨fun i => if i = n then g else j.b i, fun i => if i = n then 0 else j.o i⟩
theorem J.plus_eq (j : J) (n g : Nat) : J.Eq n j (j.plus n g) := ⟨fun i hi => if_neg (by omega), fun i hi => if_neg (by omega)⟩
end Go.Ev
