/- Ev: bits of a word, as numbers. -/
import Derived.Test.YtngbaiiokdladaaDoorEvZ
set_option linter.all false
namespace Go.Ev
theorem bv_nat {n : Nat} (h : n < 4294967296) : (BitVec.ofInt 32 (n : Int)).toNat = n := by simp only [BitVec.toNat_ofInt]; omega
section
variable (s k M S T : Nat) (hM : M = (2 ^ k - 1) * 2 ^ s) (hS : 2 ^ s = S) (hT : 2 ^ k = T) (hl : M < 4294967296)
include hM hS hT hl
end
end Go.Ev
namespace Go.Ev
section
variable (s k M : Nat) (S T : Int) (hM : M = (2 ^ k - 1) * 2 ^ s) (hS : (2 : Int) ^ s = S) (hT : (2 : Int) ^ k = T) (hl : M < 4294967296)
include hM hS hT hl
end
/-- x[lo:hi] -/
theorem slcLH_eq {tm : List SV} {esz : Nat} {x i j : Opd} {b o len cp : Nat} {k k' : IntKind} {l h : Int} (hx : x.val tm = some (.sl (some (b, o)) len cp)) (hi : i.val tm = some (.int k l)) (hj : j.val tm = some (.int k' h)) (h0 : 0 ≤ l) (h1 : l ≤ h) (h2 : h ≤ (cp : Int)) (h3 : l < (cp : Int)) :
    pureOp tm (.slc esz x (some i) (some j)) = some (.v (.sl (some (b, o + l.toNat * esz)) (h.toNat - l.toNat) (cp - l.toNat))) := by
  have e : ¬ cp = l.toNat := by omega
  have e2 : 0 ≤ h ∧ h ≤ (cp : Int) := ⟨by omega, h2⟩
  have e3 : 0 ≤ l ∧ l ≤ (h.toNat : Int) := ⟨h0, by omega⟩
  simp only [pureOp, hx, optV, hi, hj, bnd, if_pos e2, if_pos e3, if_neg e]
end Go.Ev
namespace Go.Ev
section
variable (s k : Nat) (S T : Int) {M : Int} (hM : M = (((2 ^ k - 1) * 2 ^ s : Nat) : Int)) (hS : (2 : Int) ^ s = S) (hT : (2 : Int) ^ k = T) (hl : (2 ^ k - 1) * 2 ^ s < 4294967296)
include hM hS hT hl
end
end Go.Ev
namespace Go.Ev
end Go.Ev
namespace Go.Ev
/-! bytes in a block of one's own, written one by one -/
end Go.Ev
