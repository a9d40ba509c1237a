/- dev: slots: a row of numbers as an argument -/
import Derived.Test.YtjabpdepaldkfaaKlaw17
import Derived.Test.YtjabpdepaldkfaaEvSl
set_option linter.all false
namespace Go.Ev
open Go Go.Proofs
def okI (x : Int) : Prop := (-9223372036854775808 ≤ x ∧ x < 9223372036854775808)
theorem encI_typ (c : List Value) (h : CellsW [some .i64] c) : ∃ d, okI d ∧ ∀ j, c = (encI d).map (conc j) := by
  obtain ⟨a, c, rfl, ha, h⟩ := cellsW_int h
  obtain rfl := cellsW_nil h
  exact ⟨a, wf_i64 ha, fun _ => rfl⟩
theorem encI_lt1 (d : Int) (m : Nat) : V.ltL m (encI d) = true := rfl
theorem RdI_of {H : List B} {p : Option (Nat × Nat)} {ds : List Int} {g : Nat} (h : (p = none ∧ ds = []) ∨ p = some (g, 0)) (hr : rd H g 0 (ds.length * 1) = some (ds.flatMap encI)) : RdI H p ds := by
  rcases h with ⟨rfl, rfl⟩ | rfl
  · rfl
  · exact hr
end Go.Ev
