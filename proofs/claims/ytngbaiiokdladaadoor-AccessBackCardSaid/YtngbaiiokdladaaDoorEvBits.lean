/- Ev: bits of a word, as numbers. -/
import Derived.Test.YtngbaiiokdladaaDoorEvZ
set_option linter.all false
namespace Go.Ev
theorem nat_and_mask (a s k : Nat) : a &&& ((2 ^ k - 1) * 2 ^ s) = a / 2 ^ s % 2 ^ k * 2 ^ s := by
  apply Nat.eq_of_testBit_eq
  intro i
  simp only [Nat.testBit_and, Nat.testBit_mul_two_pow, Nat.testBit_two_pow_sub_one, Nat.testBit_mod_two_pow, Nat.testBit_div_two_pow]
  by_cases h : s ≤ i
  · have e : i - s + s = i := by omega
    simp [h, e, Bool.and_comm]
  · simp [h]
theorem bv_nat {n : Nat} (h : n < 4294967296) : (BitVec.ofInt 32 (n : Int)).toNat = n := by simp only [BitVec.toNat_ofInt]; omega
theorem wrap_nat {n : Nat} (h : n < 4294967296) : IntKind.u32.wrap (n : Int) = n := by rw [wrap_u32]; omega
section
variable (s k M S T : Nat) (hM : M = (2 ^ k - 1) * 2 ^ s) (hS : 2 ^ s = S) (hT : 2 ^ k = T) (hl : M < 4294967296)
include hM hS hT hl
theorem andM_nat {a : Nat} (h : a < 4294967296) : (BitVec.ofInt 32 (a : Int) &&& BitVec.ofInt 32 (M : Int)).toNat = a / S % T * S := by
  rw [BitVec.toNat_and, bv_nat h, bv_nat hl, hM, nat_and_mask, hS, hT]
theorem andM {a : Int} (h : 0 ≤ a ∧ a < 4294967296) : IntKind.u32.wrap (((BitVec.ofInt IntKind.u32.bits a &&& BitVec.ofInt IntKind.u32.bits (M : Int)).toNat : Nat) : Int) = a / S % T * S := by
  obtain ⟨a, rfl⟩ := Int.eq_ofNat_of_zero_le h.1
  have ha : a < 4294967296 := by omega
  have e := andM_nat s k M S T hM hS hT hl ha
  have hlt : (BitVec.ofInt 32 (a : Int) &&& BitVec.ofInt 32 (M : Int)).toNat < 4294967296 := (BitVec.ofInt 32 (a : Int) &&& BitVec.ofInt 32 (M : Int)).isLt
  show IntKind.u32.wrap (((BitVec.ofInt 32 (a : Int) &&& BitVec.ofInt 32 (M : Int)).toNat : Nat) : Int) = _
  rw [wrap_nat hlt, e]
  simp
theorem andNotM {a : Int} (h : 0 ≤ a ∧ a < 4294967296) : IntKind.u32.wrap (((BitVec.ofInt IntKind.u32.bits a &&& ~~~(BitVec.ofInt IntKind.u32.bits (M : Int))).toNat : Nat) : Int) = a - a / S % T * S := by
  obtain ⟨a, rfl⟩ := Int.eq_ofNat_of_zero_le h.1
  have ha : a < 4294967296 := by omega
  have e := andM_nat s k M S T hM hS hT hl ha
  let x := BitVec.ofInt 32 (a : Int)
  let m := BitVec.ofInt 32 (M : Int)
  have hx : x.toNat = a := bv_nat ha
  have hz : (x &&& m) &&& (x &&& ~~~m) = 0#32 := by
    ext i hi; simp; intro _ h2 _; exact h2
  have hs : (x &&& m) ||| (x &&& ~~~m) = x := by
    ext i hi; simp; cases x[i] <;> cases m[i] <;> simp
  have hadd := BitVec.add_eq_or_of_and_eq_zero (x &&& m) (x &&& ~~~m) hz
  rw [hs] at hadd
  have hn : ((x &&& m) + (x &&& ~~~m)).toNat = (x &&& m).toNat + (x &&& ~~~m).toNat := BitVec.toNat_add_of_and_eq_zero hz
  rw [hadd, hx] at hn
  have e' : (x &&& m).toNat = a / S % T * S := e
  show IntKind.u32.wrap (((x &&& ~~~m).toNat : Nat) : Int) = _
  rw [wrap_nat (x &&& ~~~m).isLt]
  have h1 : ((a / S % T * S : Nat) : Int) = (a : Int) / S % T * S := by simp
  rw [← h1]
  omega
/-- what stands outside the mask, and what stands within -/
theorem orM {x y : Int} (hx : 0 ≤ x ∧ x < 4294967296) (hy : 0 ≤ y ∧ y < 4294967296) (h1 : x / S % T * S = 0) (h2 : y / S % T * S = y) : IntKind.u32.wrap (((BitVec.ofInt IntKind.u32.bits x ||| BitVec.ofInt IntKind.u32.bits y).toNat : Nat) : Int) = x + y := by
  obtain ⟨x, rfl⟩ := Int.eq_ofNat_of_zero_le hx.1
  obtain ⟨y, rfl⟩ := Int.eq_ofNat_of_zero_le hy.1
  have ha : x < 4294967296 := by omega
  have hb : y < 4294967296 := by omega
  have e1 := andM_nat s k M S T hM hS hT hl ha
  have e2 := andM_nat s k M S T hM hS hT hl hb
  have g1 : x / S % T * S = 0 := by
    have : ((x / S % T * S : Nat) : Int) = 0 := by rw [← h1]; simp
    omega
  have g2 : y / S % T * S = y := by
    have : ((y / S % T * S : Nat) : Int) = y := by rw [← h2]; simp
    omega
  rw [g1] at e1
  rw [g2] at e2
  let X := BitVec.ofInt 32 (x : Int)
  let Y := BitVec.ofInt 32 (y : Int)
  let m := BitVec.ofInt 32 (M : Int)
  have f1 : X &&& m = 0#32 := by apply BitVec.eq_of_toNat_eq; exact e1
  have f2 : Y &&& m = Y := by apply BitVec.eq_of_toNat_eq; rw [show (Y &&& m).toNat = y from e2]; exact (bv_nat hb).symm
  have hz : X &&& Y = 0#32 := by
    rw [← f2, BitVec.and_comm Y m, ← BitVec.and_assoc, f1, BitVec.zero_and]
  have hadd := BitVec.add_eq_or_of_and_eq_zero X Y hz
  have hn : (X + Y).toNat = X.toNat + Y.toNat := BitVec.toNat_add_of_and_eq_zero hz
  rw [hadd] at hn
  have hX : X.toNat = x := bv_nat ha
  have hY : Y.toNat = y := bv_nat hb
  show IntKind.u32.wrap (((X ||| Y).toNat : Nat) : Int) = _
  rw [wrap_nat (X ||| Y).isLt, hn, hX, hY]
  omega
end
end Go.Ev
namespace Go.Ev
section
variable (s k M : Nat) (S T : Int) (hM : M = (2 ^ k - 1) * 2 ^ s) (hS : (2 : Int) ^ s = S) (hT : (2 : Int) ^ k = T) (hl : M < 4294967296)
include hM hS hT hl
theorem fI_andM {f : Nat} {a : Int} {K : Int → Prop} (h : 0 ≤ a ∧ a < 4294967296) (kk : ∀ z, z = a / S % T * S → K z) : fI f (IntKind.u32.wrap (((BitVec.ofInt IntKind.u32.bits a &&& BitVec.ofInt IntKind.u32.bits (M : Int)).toNat : Nat) : Int)) K := by
  refine (fI_eq f _ K).mpr (kk _ ?_)
  have := andM s k M _ _ hM rfl rfl hl h
  rw [this, ← hS, ← hT]; simp
theorem fI_andNotM {f : Nat} {a : Int} {K : Int → Prop} (h : 0 ≤ a ∧ a < 4294967296) (kk : ∀ z, z = a - a / S % T * S → K z) : fI f (IntKind.u32.wrap (((BitVec.ofInt IntKind.u32.bits a &&& ~~~(BitVec.ofInt IntKind.u32.bits (M : Int))).toNat : Nat) : Int)) K := by
  refine (fI_eq f _ K).mpr (kk _ ?_)
  have := andNotM s k M _ _ hM rfl rfl hl h
  rw [this, ← hS, ← hT]; simp
theorem fI_orM {f : Nat} {x y : Int} {K : Int → Prop} (h : (0 ≤ x ∧ x < 4294967296) ∧ (0 ≤ y ∧ y < 4294967296) ∧ x / S % T * S = 0 ∧ y / S % T * S = y) (kk : ∀ z, z = x + y → K z) : fI f (IntKind.u32.wrap (((BitVec.ofInt IntKind.u32.bits x ||| BitVec.ofInt IntKind.u32.bits y).toNat : Nat) : Int)) K := by
  refine (fI_eq f _ K).mpr (kk _ ?_)
  refine orM s k M (2 ^ s) (2 ^ k) hM rfl rfl hl h.1 h.2.1 ?_ ?_
  · have := h.2.2.1
    rw [← hS, ← hT] at this; simpa using this
  · have := h.2.2.2
    rw [← hS, ← hT] at this; simpa using this
end
theorem fI_shl32 {f : Nat} {a : Int} {n w : Nat} {K : Int → Prop} (c : Int) (hc : (2 : Int) ^ (min n w) = c) (k : ∀ z, z = a * c % 4294967296 → K z) : fI f (IntKind.u32.wrap (a * 2 ^ (min n w))) K := by
  rw [hc, wrap_u32]
  exact (fI_eq f _ K).mpr (k _ rfl)
/-- x[lo:hi] -/
theorem slcLH_eq {tm : List SV} {esz : Nat} {x i j : Opd} {b o len cp : Nat} {k k' : IntKind} {l h : Int} (hx : x.val tm = some (.sl (some (b, o)) len cp)) (hi : i.val tm = some (.int k l)) (hj : j.val tm = some (.int k' h)) (h0 : 0 ≤ l) (h1 : l ≤ h) (h2 : h ≤ (cp : Int)) (h3 : l < (cp : Int)) :
    pureOp tm (.slc esz x (some i) (some j)) = some (.v (.sl (some (b, o + l.toNat * esz)) (h.toNat - l.toNat) (cp - l.toNat))) := by
  have e : ¬ cp = l.toNat := by omega
  have e2 : 0 ≤ h ∧ h ≤ (cp : Int) := ⟨by omega, h2⟩
  have e3 : 0 ≤ l ∧ l ≤ (h.toNat : Int) := ⟨h0, by omega⟩
  simp only [pureOp, hx, optV, hi, hj, bnd, if_pos e2, if_pos e3, if_neg e]
end Go.Ev
namespace Go.Ev
section
variable (s k : Nat) (S T : Int) {M : Int} (hM : M = (((2 ^ k - 1) * 2 ^ s : Nat) : Int)) (hS : (2 : Int) ^ s = S) (hT : (2 : Int) ^ k = T) (hl : (2 ^ k - 1) * 2 ^ s < 4294967296)
include hM hS hT hl
theorem gI_andM {f : Nat} {a : Int} {K : Int → Prop} (h : 0 ≤ a ∧ a < 4294967296) (kk : ∀ z, z = a / S % T * S → K z) : fI f (IntKind.u32.wrap (((BitVec.ofInt IntKind.u32.bits a &&& BitVec.ofInt IntKind.u32.bits M).toNat : Nat) : Int)) K := by
  subst hM; exact fI_andM s k _ S T rfl hS hT hl h kk
theorem gI_andNotM {f : Nat} {a : Int} {K : Int → Prop} (h : 0 ≤ a ∧ a < 4294967296) (kk : ∀ z, z = a - a / S % T * S → K z) : fI f (IntKind.u32.wrap (((BitVec.ofInt IntKind.u32.bits a &&& ~~~(BitVec.ofInt IntKind.u32.bits M)).toNat : Nat) : Int)) K := by
  subst hM; exact fI_andNotM s k _ S T rfl hS hT hl h kk
end
theorem gI_orM (s k : Nat) (S T : Int) (hS : (2 : Int) ^ s = S) (hT : (2 : Int) ^ k = T) (hl : (2 ^ k - 1) * 2 ^ s < 4294967296) {f : Nat} {x y : Int} {K : Int → Prop} (h : (0 ≤ x ∧ x < 4294967296) ∧ (0 ≤ y ∧ y < 4294967296) ∧ x / S % T * S = 0 ∧ y / S % T * S = y) (kk : ∀ z, z = x + y → K z) : fI f (IntKind.u32.wrap (((BitVec.ofInt IntKind.u32.bits x ||| BitVec.ofInt IntKind.u32.bits y).toNat : Nat) : Int)) K := fI_orM s k _ S T rfl hS hT hl h kk
end Go.Ev
namespace Go.Ev
theorem rd4 {H : List B} {b : Nat} {ty : TypeId} {v : Int} {ws : List V} (h : H[b]? = some (.rw ty ((bytesV (4 : Int).toNat v).flatMap encB ++ ws))) (p q : Nat) (hpq : p + q ≤ 4) : rd H b (0 + p) q = some ((((bytesV 4 v).drop p).take q).flatMap encB) := by
  have h0 : rd H b 0 4 = some ((bytesV 4 v).flatMap encB) := rd_block h (by rw [flat_len encB_len, bytesV_len])
  have h1 := rd_sub h0 p q hpq
  have e1 := flat_drop encB_len (bytesV 4 v) p
  have e2 := flat_take encB_len ((bytesV 4 v).drop p) q
  rw [Nat.mul_one] at e1 e2
  rw [h1, e1, e2]
theorem bd4 (v : Int) (p q : Nat) : ∀ x, x ∈ ((bytesV 4 v).drop p).take q → 0 ≤ x ∧ x < 256 := fun x hx => bytesV_bd 4 v x (List.mem_of_mem_drop (List.mem_of_mem_take hx))
end Go.Ev
namespace Go.Ev
/-! bytes in a block of one's own, written one by one -/
theorem flatB_set : ∀ (l : List Int) (i : Nat) (x : Int), (l.flatMap encB).set i (.int .u8 x) = (l.set i x).flatMap encB
  | [], _, _ => by simp
  | a :: l, 0, x => by simp [encB]
  | a :: l, i + 1, x => by
    have := flatB_set l i x
    simp only [List.flatMap_cons, List.set_cons_succ, encB, List.cons_append, List.nil_append] at this ⊢
    rw [this]
theorem splice_set (cs ws : List V) (i : Nat) (v : V) (h : i < cs.length) : splice (cs ++ ws) i [v] = cs.set i v ++ ws := by
  unfold splice
  rw [List.take_append_of_le_length (by omega), List.length_singleton, List.drop_append_of_le_length (by omega), List.set_eq_take_append_cons_drop, if_pos h]
  simp
theorem wrB0 {M : List B} {b : Nat} {ty : TypeId} {l : List Int} {ws : List V} (h : M[b]? = some (.rw ty (l.flatMap encB ++ ws))) (i : Nat) (hi : i < l.length) (x : Int) : wr M b (0 + i) [.int .u8 x] = some (M.set b (.rw ty ((l.set i x).flatMap encB ++ ws))) := by
  have hl : (l.flatMap encB).length = l.length := by rw [flat_len encB_len, Nat.mul_one]
  unfold wr
  simp only [h]
  rw [if_pos (by simp [hl]; omega), Nat.zero_add, splice_set _ _ _ _ (by rw [hl]; exact hi), flatB_set]
theorem wrB1 {M : List B} {b : Nat} {ty : TypeId} {l : List Int} {ws : List V} (hb : b < M.length) (i : Nat) (hi : i < l.length) (x : Int) : wr (M.set b (.rw ty (l.flatMap encB ++ ws))) b (0 + i) [.int .u8 x] = some (M.set b (.rw ty ((l.set i x).flatMap encB ++ ws))) := by
  have := wrB0 (M := M.set b (.rw ty (l.flatMap encB ++ ws))) (b := b) (List.getElem?_set_self hb) i hi x
  rw [List.set_set] at this
  exact this
theorem rdB1 {M : List B} {b : Nat} {ty : TypeId} {l : List Int} {ws : List V} (hb : b < M.length) : rd (M.set b (.rw ty (l.flatMap encB ++ ws))) b 0 (l.length * 1) = some (l.flatMap encB) :=
  rd_block (List.getElem?_set_self hb) (by rw [flat_len encB_len])
theorem rdN {M : List B} {b b2 o n : Nat} {x : B} {r : List V} (hne : b ≠ b2) (h : rd M b2 o n = some r) : rd (M.set b x) b2 o n = some r := by
  unfold rd at h ⊢
  rw [List.getElem?_set_ne hne]
  exact h
theorem take_set {H X : List B} {b : Nat} {x : B} (hb : H.length ≤ b) : H = List.take H.length ((H ++ X).set b x) := by
  rw [List.set_append_right _ _ hb, List.take_left']
  rfl
end Go.Ev
