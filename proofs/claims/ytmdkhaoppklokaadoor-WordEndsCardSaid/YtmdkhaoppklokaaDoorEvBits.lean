/- Ev: bits of a word, as numbers. -/
import Derived.Test.YtmdkhaoppklokaaDoorEvU
set_option linter.all false
namespace Go.Ev
theorem bv_nat {n : Nat} (h : n < 4294967296) : (BitVec.ofInt 32 (n : Int)).toNat = n := by simp only [BitVec.toNat_ofInt]; omega
section
variable (s k M S T : Nat) (hM : M = (2 ^ k - 1) * 2 ^ s) (hS : 2 ^ s = S) (hT : 2 ^ k = T) (hl : M < 4294967296)
include hM hS hT hl
end
end Go.Ev
namespace Go.Ev
section
variable (s k M : Nat) (S T : Int) (hM : M = (2 ^ k - 1) * 2 ^ s) (hS : (2 : Int) ^ s = S) (hT : (2 : Int) ^ k = T) (hl : M < 4294967296)
include hM hS hT hl
end
end Go.Ev
namespace Go.Ev
section
variable (s k : Nat) (S T : Int) {M : Int} (hM : M = (((2 ^ k - 1) * 2 ^ s : Nat) : Int)) (hS : (2 : Int) ^ s = S) (hT : (2 : Int) ^ k = T) (hl : (2 ^ k - 1) * 2 ^ s < 4294967296)
include hM hS hT hl
end
end Go.Ev
namespace Go.Ev
end Go.Ev
namespace Go.Ev
/-! bytes in a block of one's own, written one by one -/
end Go.Ev
