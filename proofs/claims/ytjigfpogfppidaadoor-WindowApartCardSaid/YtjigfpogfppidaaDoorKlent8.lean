/- dev: rows of devices that are lent, kept -/
import Derived.Test.YtjigfpogfppidaaDoorKasks8
import Derived.Test.YtjigfpogfppidaaDoorEvSl
set_option linter.all false
namespace Go.Ev
open Go Go.Proofs
set_option maxRecDepth 4000
set_option maxHeartbeats 4000000
theorem encD_typ (c : List Value) (h : CellsW [some .i64, some .u32, some .i64, some .i64, some .i64] c) : ∃ d, okD d ∧ ∀ j, c = (encD d).map (conc j) := by
  obtain ⟨a, c, rfl, ha, h⟩ := cellsW_int h
  obtain ⟨b, c, rfl, hb, h⟩ := cellsW_int h
  obtain ⟨d, c, rfl, hd, h⟩ := cellsW_int h
  obtain ⟨e, c, rfl, he, h⟩ := cellsW_int h
  obtain ⟨f, c, rfl, hf, h⟩ := cellsW_int h
  obtain rfl := cellsW_nil h
  exact ⟨⟨a, b, d, e, f⟩, ⟨wf_u32 hb, wf_i64 hd, wf_i64 ha, wf_i64 he, wf_i64 hf⟩, fun _ => rfl⟩
theorem encD_lt (d : D5) (m : Nat) : V.ltL m (encD d) = true := rfl
theorem RdD_of {H : List B} {p : Option (Nat × Nat)} {ds : List D5} {g : Nat} (h : (p = none ∧ ds = []) ∨ p = some (g, 0)) (hr : rd H g 0 (ds.length * 5) = some (ds.flatMap encD)) : RdD H p ds := by
  rcases h with ⟨rfl, rfl⟩ | rfl
  · rfl
  · exact hr
def s3 : Sp := fun vs H Q => match vs with
  | [.sl p m c, .agg [.int .i64 k, .int .u32 b, .int .i64 n, .int .i64 ow, .int .i64 li], .agg [.int .i64 w, .bool wr, .int .u32 a, .int .i64 an, .int .u32 d], .int .u32 x] => (((0 ≤ b ∧ b < 4294967296) ∧ (-9223372036854775808 ≤ n ∧ n < 9223372036854775808) ∧ (-9223372036854775808 ≤ k ∧ k < 9223372036854775808) ∧ (-9223372036854775808 ≤ ow ∧ ow < 9223372036854775808) ∧ (-9223372036854775808 ≤ li ∧ li < 9223372036854775808)) ∧ (0 ≤ a ∧ a < 4294967296) ∧ (0 ≤ d ∧ d < 4294967296) ∧ (-9223372036854775808 ≤ an ∧ an < 9223372036854775808)) ∧ GLB H ∧ ∃ ds : List D5, m = ds.length ∧ (∀ d, d ∈ ds → okD d) ∧ RdD H p ds ∧ Q (.bool true) H false false
  | _ => False
end Go.Ev
