/- dev: word.bits, word.First by the kit's fourth law -/
import Derived.RangeFuncBox
import Derived.RangeFuncLeaves
import Derived.RangeFuncFrom
import Derived.Shelf.Abstract
import Derived.WalkKit
import Derived.OwnWalkIn
import Derived.TacticsInMore
import Derived.LoopNIn
import Derived.LoopIn
import Derived.BigFrameIn
import Derived.Test.YtmdkhaoppklokaaDoorKlaw01w
import Derived.Test.YtmdkhaoppklokaaDoorEvBelow
set_option linter.all false
namespace Go.Ev
open Go Go.Proofs Go.RowKit Go.Shelf
attribute [local go_sem] Oper.semAt_some
/-- the bits that are 1, below k -/
def onesL (v : Int) : Nat → List Int
  | 0 => []
  | k + 1 => if v / 2 ^ k % 2 = 1 then onesL v k ++ [(k : Int)] else onesL v k
theorem onesL_len (v : Int) : ∀ k, (onesL v k).length ≤ k
  | 0 => Nat.le_refl _
  | k + 1 => by
    have := onesL_len v k
    unfold onesL
    split
    · simp; omega
    · omega
theorem bits1 {a : Int} (h : 0 ≤ a ∧ a < 4294967296) : bits BinOp.and IntKind.u32 a 1 = a % 2 := by
  show IntKind.u32.wrap (((BitVec.ofInt IntKind.u32.bits a &&& BitVec.ofInt IntKind.u32.bits 1).toNat : Nat) : Int) = a % 2
  exact and1_u32 h
set_option maxRecDepth 100000 in
set_option maxHeartbeats 2000000 in
theorem bits1_in (F : Fence) (n : Nat) (h55 : F.fn 55) (hro : F.round = none) (hn : 1 ≤ n) (l Bs n₀ : Nat) (v : Int) (hv : 0 ≤ v ∧ v < 4294967296) (hb : Bs < n₀) (J Jx : List Int → World → Prop)
    (hY : ∀ pre x W, J pre W → pre.length < 32 → YieldAt F (n - 1) Tryd.prog l #[.int .i64 x] W fun e W' =>
      (e = .returned (.bool true) ∧ J (pre ++ [x]) W' ∧ Below n₀ W W') ∨ (e = .returned (.bool false) ∧ Jx (pre ++ [x]) W'))
    (W : World) (hBs : W.cell? ⟨Bs, 0, none⟩ = some (.int .u32 v)) (h0 : J [] W) :
    CallsIn F n Tryd.prog 55 #[.func (.yield l) #[] #[], .pointer (some ⟨Bs, 0, none⟩)] W fun e W' => (∃ v, e = .returned v) ∧
      ((∃ ys, ys = onesL v 32 ∧ J ys W') ∨ (∃ pre, (∃ k, k < 32 ∧ v / 2 ^ k % 2 = 1 ∧ pre = onesL v (k + 1)) ∧ Jx pre W')) := by
  refine callsIn_of_wp x55 rfl h55 ?_ hro
  simp only [show Tryd.f55.ntmps = 19 from rfl, List.size_toArray, List.length_cons, List.length_nil, Nat.reduceAdd, Nat.reduceSub, Array.replicate_succ, Array.replicate_zero, List.push_toArray, List.append_toArray, List.nil_append, List.cons_append]
  gi_wp2
  gi_loopw [4] (fun i wr => ∃ k : Nat, k ≤ 32 ∧ i = .int .i64 k ∧ J (onesL v k) wr ∧ Below n₀ W wr)
    (fun i _ => 32 - (intOf i).toNat)
  case atStart => exact ⟨0, Nat.zero_le _, rfl, h0, Below.refl _ _⟩
  case round =>
    obtain ⟨k, hk, rfl, hJs, hnx⟩ := hrel
    have hcx : wr.cell? ⟨Bs, 0, none⟩ = some (.int .u32 v) := (hnx.cell (p := ⟨Bs, 0, none⟩) hb).trans hBs
    by_cases hlt : k < 32
    · have hx : 0 ≤ v / 2 ^ k ∧ v / 2 ^ k < 4294967296 := by
        have q1 := Int.ediv_le_self (2 ^ k) hv.1
        have q2 : 0 ≤ v / 2 ^ k := Int.ediv_nonneg hv.1 (Int.pow_nonneg (by decide))
        omega
      have hbv : bits BinOp.and IntKind.u32 (v / 2 ^ k) 1 = v / 2 ^ k % 2 := bits1 hx
      by_cases hbit : v / 2 ^ k % 2 = 1
      · have hb1 : bits BinOp.and IntKind.u32 (v / 2 ^ k) 1 = 1 := hbv.trans hbit
        obtain ⟨fn, tmps, assign, body, hy, hR⟩ := hY _ (k : Int) wr hJs (by have := onesL_len v k; omega)
        have hon : onesL v (k + 1) = onesL v k ++ [(k : Int)] := by rw [onesL, if_pos hbit]
        clear hbv
        gi_wp2
        refine hR.mono ?_
        rintro e W3 (⟨rfl, hJ3, hk3⟩ | ⟨rfl, hJx3⟩)
        · gi_wp2
          go_roundw
          case rel => exact ⟨k + 1, by omega, by simp, by rw [hon]; exact hJ3, hnx.trans hk3⟩
          case measure => simp [intOf]; omega
        · gi_wp2
          refine bodyPost_ret (results_none rfl _ _ _) rfl ?_
          exact ⟨⟨_, rfl⟩, .inr ⟨_, ⟨k, hlt, hbit, rfl⟩, by rw [hon]; exact hJx3⟩⟩
      · have hb0 : bits BinOp.and IntKind.u32 (v / 2 ^ k) 1 = 0 := by rw [hbv]; omega
        have hon : onesL v (k + 1) = onesL v k := by rw [onesL, if_neg hbit]
        clear hbv
        have hbq : (bits BinOp.and IntKind.u32 (v / 2 ^ k) 1 == 1) = false := by rw [hb0]; rfl
        gi_wp2
        refine ⟨fun f h => (by cases h), ?_⟩
        gi_wp2
        go_roundw
        case rel => exact ⟨k + 1, by omega, by simp, by rw [hon]; exact hJs, hnx⟩
        case measure => simp [intOf]; omega
    · obtain rfl : k = 32 := by omega
      gi_wp2
      go_end0
      exact ⟨⟨_, rfl⟩, .inl ⟨_, rfl, hJs⟩⟩
end Go.Ev
