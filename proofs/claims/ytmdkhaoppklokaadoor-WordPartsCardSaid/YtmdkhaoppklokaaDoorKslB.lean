/- dev: a row of bytes as an argument -/
import Derived.Test.YtmdkhaoppklokaaDoorEvX
import Derived.Test.YtmdkhaoppklokaaDoorKbyt
import Derived.Test.YtmdkhaoppklokaaDoorEvSl
set_option linter.all false
namespace Go.Ev
open Go Go.Proofs
def okB (x : Int) : Prop := 0 ≤ x ∧ x < 256
theorem encB_typ (c : List Value) (h : CellsW [some .u8] c) : ∃ x, okB x ∧ ∀ j, c = (encB x).map (conc j) := by
  obtain ⟨a, c, rfl, ha, h⟩ := cellsW_int h
  obtain rfl := cellsW_nil h
  exact ⟨a, wf_u8 ha, fun _ => rfl⟩
theorem encB_lt1 (x : Int) (m : Nat) : V.ltL m (encB x) = true := rfl
theorem RdB_of {H : List B} {p : Option (Nat × Nat)} {ds : List Int} {g : Nat} (h : (p = none ∧ ds = []) ∨ p = some (g, 0)) (hr : rd H g 0 (ds.length * 1) = some (ds.flatMap encB)) : RdB H p ds := by
  rcases h with ⟨rfl, rfl⟩ | rfl
  · rfl
  · exact hr
end Go.Ev
