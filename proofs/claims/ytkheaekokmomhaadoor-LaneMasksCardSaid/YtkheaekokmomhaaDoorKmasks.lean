/- dev: LaneMasks' plain facts -/
import Derived.Test.YtkheaekokmomhaaDoorKlawb
import Derived.Test.YtkheaekokmomhaaDoorKones3
set_option linter.all false
set_option maxRecDepth 10000
namespace Go.Ev
open Go Go.Proofs
theorem masks_facts {n a : Int} (h : alP n a) (ha : 0 ≤ a) : firstB (lanesV n a) = true ∧ firstI (lanesV n a) = a % 4 ∧ onesL (lanesV n a) 32 ≠ [] ∧ ((onesL (lanesV n a) 32).length : Int) = n ∧ (onesL (lanesV n a) 32)[(onesL (lanesV n a) 32).length - 1]? = some (a % 4 + n - 1) ∧ lanesV n a ≤ 15 := by
  rcases al_facts h ha with ⟨rfl, hr, hl, h1, h2⟩ | ⟨rfl, hr, hl, h1, h2⟩ | ⟨rfl, hr, hl, h1, h2⟩ | ⟨rfl, hr, hl, h1, h2⟩ | ⟨rfl, hr, hl, h1, h2⟩ | ⟨rfl, hr, hl, h1, h2⟩ | ⟨rfl, hr, hl, h1, h2⟩ <;> rw [hl, hr] <;> decide
theorem al_next {n a : Int} (ha : 0 ≤ a ∧ a < 4294967296) : alP n ((a + 4) % 4294967296) ↔ alP n a := by
  unfold alP okS
  constructor <;> (rintro ⟨rfl | rfl | rfl, h⟩ <;> refine ⟨by decide, by omega⟩)
theorem lanes_next {n a : Int} (ha : 0 ≤ a ∧ a < 4294967296) : lanesV n ((a + 4) % 4294967296) = lanesV n a := by
  have e : (a + 4) % 4294967296 % 4 = a % 4 := by omega
  unfold lanesV
  rw [e]
/-- the word, put together of its bytes -/
theorem put_bytes {v w : Int} (k : Nat) (hk : k < 4) (hv : 0 ≤ v ∧ v < 4294967296) (hw : w = v % 256 ^ k) : putV 1 (k : Int) w (takeV 1 (k : Int) v) = v % 256 ^ (k + 1) := by
  have : k = 0 ∨ k = 1 ∨ k = 2 ∨ k = 3 := by omega
  subst hw
  rcases this with rfl | rfl | rfl | rfl <;> (simp [putV, takeV, pw, qn] <;> omega)
end Go.Ev
