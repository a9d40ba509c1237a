/- texts joined -/
import Derived.Test.YtmdkhaoppklokaaDoorEvU
import Derived.Test.YtmdkhaoppklokaaDoorKstr4
import Derived.Test.YtmdkhaoppklokaaDoorKof
import Derived.RangeFuncBox
import Derived.RangeFuncLeaves
import Derived.RangeFuncFrom
import Derived.Shelf.Abstract
import Derived.WalkKit
import Derived.OwnWalkIn
import Derived.TacticsInMore
import Derived.LoopNIn
import Derived.LoopIn
import Derived.BigFrameIn
import Derived.Test.YtmdkhaoppklokaaDoorEvBelow
import Derived.RangeFuncWrites
set_option linter.all false
namespace Go.Ev
open Go Go.Proofs
set_option maxRecDepth 10000
set_option maxHeartbeats 4000000
end Go.Ev

set_option linter.all false
namespace Go.Ev
open Go Go.Proofs Go.RowKit Go.Shelf
attribute [local go_sem] Oper.semAt_some
/-- the bits that are 1, below k -/
def onesL (v : Int) : Nat → List Int
  | 0 => []
  | k + 1 => if v / 2 ^ k % 2 = 1 then onesL v k ++ [(k : Int)] else onesL v k
theorem onesL_len (v : Int) : ∀ k, (onesL v k).length ≤ k
  | 0 => Nat.le_refl _
  | k + 1 => by
    have := onesL_len v k
    unfold onesL
    split
    · simp; omega
    · omega
theorem bits1 {a : Int} (h : 0 ≤ a ∧ a < 4294967296) : bits BinOp.and IntKind.u32 a 1 = a % 2 := by
  show IntKind.u32.wrap (((BitVec.ofInt IntKind.u32.bits a &&& BitVec.ofInt IntKind.u32.bits 1).toNat : Nat) : Int) = a % 2
  exact and1_u32 h
set_option maxRecDepth 100000 in
set_option maxHeartbeats 2000000 in
theorem bits1_in (F : Fence) (n : Nat) (h55 : F.fn 55) (hro : F.round = none) (hn : 1 ≤ n) (l Bs n₀ : Nat) (v : Int) (hv : 0 ≤ v ∧ v < 4294967296) (hb : Bs < n₀) (J Jx : List Int → World → Prop)
    (hY : ∀ pre x W, J pre W → pre.length < 32 → YieldAt F (n - 1) Tryd.prog l #[.int .i64 x] W fun e W' =>
      (e = .returned (.bool true) ∧ J (pre ++ [x]) W' ∧ Below n₀ W W') ∨ (e = .returned (.bool false) ∧ Jx (pre ++ [x]) W'))
    (W : World) (hBs : W.cell? ⟨Bs, 0, none⟩ = some (.int .u32 v)) (h0 : J [] W) :
    CallsIn F n Tryd.prog 55 #[.func (.yield l) #[] #[], .pointer (some ⟨Bs, 0, none⟩)] W fun e W' => (∃ v, e = .returned v) ∧
      ((∃ ys, ys = onesL v 32 ∧ J ys W') ∨ (∃ pre, (∃ k, k < 32 ∧ v / 2 ^ k % 2 = 1 ∧ pre = onesL v (k + 1)) ∧ Jx pre W')) := by
  refine callsIn_of_wp x55 rfl h55 ?_ hro
  simp only [show Tryd.f55.ntmps = 19 from rfl, List.size_toArray, List.length_cons, List.length_nil, Nat.reduceAdd, Nat.reduceSub, Array.replicate_succ, Array.replicate_zero, List.push_toArray, List.append_toArray, List.nil_append, List.cons_append]
  gi_wp2
  gi_loopw [4] (fun i wr => ∃ k : Nat, k ≤ 32 ∧ i = .int .i64 k ∧ J (onesL v k) wr ∧ Below n₀ W wr)
    (fun i _ => 32 - (intOf i).toNat)
  case atStart => exact ⟨0, Nat.zero_le _, rfl, h0, Below.refl _ _⟩
  case round =>
    obtain ⟨k, hk, rfl, hJs, hnx⟩ := hrel
    have hcx : wr.cell? ⟨Bs, 0, none⟩ = some (.int .u32 v) := (hnx.cell (p := ⟨Bs, 0, none⟩) hb).trans hBs
    by_cases hlt : k < 32
    · have hx : 0 ≤ v / 2 ^ k ∧ v / 2 ^ k < 4294967296 := by
        have q1 := Int.ediv_le_self (2 ^ k) hv.1
        have q2 : 0 ≤ v / 2 ^ k := Int.ediv_nonneg hv.1 (Int.pow_nonneg (by decide))
        omega
      have hbv : bits BinOp.and IntKind.u32 (v / 2 ^ k) 1 = v / 2 ^ k % 2 := bits1 hx
      by_cases hbit : v / 2 ^ k % 2 = 1
      · have hb1 : bits BinOp.and IntKind.u32 (v / 2 ^ k) 1 = 1 := hbv.trans hbit
        obtain ⟨fn, tmps, assign, body, hy, hR⟩ := hY _ (k : Int) wr hJs (by have := onesL_len v k; omega)
        have hon : onesL v (k + 1) = onesL v k ++ [(k : Int)] := by rw [onesL, if_pos hbit]
        clear hbv
        gi_wp2
        refine hR.mono ?_
        rintro e W3 (⟨rfl, hJ3, hk3⟩ | ⟨rfl, hJx3⟩)
        · gi_wp2
          go_roundw
          case rel => exact ⟨k + 1, by omega, by simp, by rw [hon]; exact hJ3, hnx.trans hk3⟩
          case measure => simp [intOf]; omega
        · gi_wp2
          refine bodyPost_ret (results_none rfl _ _ _) rfl ?_
          exact ⟨⟨_, rfl⟩, .inr ⟨_, ⟨k, hlt, hbit, rfl⟩, by rw [hon]; exact hJx3⟩⟩
      · have hb0 : bits BinOp.and IntKind.u32 (v / 2 ^ k) 1 = 0 := by rw [hbv]; omega
        have hon : onesL v (k + 1) = onesL v k := by rw [onesL, if_neg hbit]
        clear hbv
        have hbq : (bits BinOp.and IntKind.u32 (v / 2 ^ k) 1 == 1) = false := by rw [hb0]; rfl
        gi_wp2
        refine ⟨fun f h => (by cases h), ?_⟩
        gi_wp2
        go_roundw
        case rel => exact ⟨k + 1, by omega, by simp, by rw [hon]; exact hJs, hnx⟩
        case measure => simp [intOf]; omega
    · obtain rfl : k = 32 := by omega
      gi_wp2
      go_end0
      exact ⟨⟨_, rfl⟩, .inl ⟨_, rfl, hJs⟩⟩
end Go.Ev

set_option linter.all false
namespace Go.Ev
open Go Go.Proofs Go.RowKit Go.Shelf
attribute [local go_sem] Oper.semAt_some
set_option maxHeartbeats 1000000 in
theorem bits_in (F : Fence) (n : Nat) (h43 : F.fn 43) (hro : F.round = none) (v : Int) (w : World) :
    CallsIn F n Tryd.prog 43 #[.int .u32 v] w fun e w' => e = .returned (.func (.func 55) #[] #[.pointer (some ⟨w.heap.size, 0, none⟩)]) ∧ w' = w.alloc (.cells #[.int .u32 v] 22) := by
  refine callsIn_of_wp x43 rfl h43 ?_ hro
  simp only [show Tryd.f43.ntmps = 4 from rfl, List.size_toArray, List.length_cons, List.length_nil, Nat.reduceAdd, Nat.reduceSub, Array.replicate_succ, Array.replicate_zero, List.push_toArray, List.append_toArray, List.nil_append, List.cons_append]
  gi_wp2
  go_ret
  exact ⟨rfl, rfl⟩
theorem bits_stops (F : Fence) (n : Nat) (h55 : F.fn 55) (hro : F.round = none) (hn : 1 ≤ n) (Bs n₀ : Nat) (v : Int) (hv : 0 ≤ v ∧ v < 4294967296) (w : World) (hBs : Bs < w.heap.size) (hb : Bs < n₀) (hc : w.cell? ⟨Bs, 0, none⟩ = some (.int .u32 v)) :
    SeqStopsK F n Tryd.prog 55 #[.pointer (some ⟨Bs, 0, none⟩)] (fun x : Int => #[Value.int .i64 x]) (Below n₀) (fun ys => ys = onesL v 32) (fun pre => ∃ k, k < 32 ∧ v / 2 ^ k % 2 = 1 ∧ pre = onesL v (k + 1)) 32 w := fun l J Jx W hW _ _ hY h0 =>
  bits1_in F n h55 hro hn l Bs n₀ v hv hb J Jx hY W ((hW.cell (p := ⟨Bs, 0, none⟩) hBs).trans hc) h0
theorem x26 : Tryd.prog.funcs[26]? = some Tryd.f26 := by kernel_rfl
def firstI (v : Int) : Int := (onesL v 32).head?.getD 0
def firstB (v : Int) : Bool := !(onesL v 32).isEmpty
theorem onesL_pre (v : Int) (k m : Nat) : onesL v k <+: onesL v (k + m) := by
  induction m with
  | zero => exact List.prefix_refl _
  | succ m ih =>
    refine ih.trans ?_
    show onesL v (k + m) <+: onesL v (k + m + 1)
    rw [onesL]
    split
    · exact List.prefix_append _ _
    · exact List.prefix_refl _
theorem first_one {v x : Int} {k : Nat} (hk : k < 32) (h : [x] = onesL v (k + 1)) : firstI v = x ∧ firstB v = true := by
  have h1 := onesL_pre v (k + 1) (32 - (k + 1))
  rw [← h, show k + 1 + (32 - (k + 1)) = 32 by omega] at h1
  obtain ⟨t, ht⟩ := h1
  unfold firstI firstB
  rw [← ht]
  exact ⟨rfl, rfl⟩
theorem two0 {W : World} {n : Nat} {a b : Value} (h1 : W.cell? ⟨n, 0, none⟩ = some a) (h2 : W.cell? ⟨n + 1, 0, none⟩ = some b) (x y : Value) : ((W.setCell ⟨n, 0, none⟩ x).setCell ⟨n + 1, 0, none⟩ y).cell? ⟨n, 0, none⟩ = some x :=
  (World.cell?_of_block (Below.heap_setCell _ ⟨n + 1, 0, none⟩ _ n (by simp))).trans (World.cell?_setCell_same' _ _ _ (by rw [h1]; rfl))
theorem two1 {W : World} {n : Nat} {a b : Value} (h1 : W.cell? ⟨n, 0, none⟩ = some a) (h2 : W.cell? ⟨n + 1, 0, none⟩ = some b) (x y : Value) : ((W.setCell ⟨n, 0, none⟩ x).setCell ⟨n + 1, 0, none⟩ y).cell? ⟨n + 1, 0, none⟩ = some y := by
  have h : (W.setCell ⟨n, 0, none⟩ x).cell? ⟨n + 1, 0, none⟩ = some b := (World.cell?_of_block (Below.heap_setCell _ ⟨n, 0, none⟩ _ (n + 1) (by simp))).trans h2
  exact World.cell?_setCell_same' _ _ _ (by rw [h]; rfl)
set_option maxRecDepth 100000 in
set_option maxHeartbeats 2000000 in
theorem First_in (F : Fence) (n : Nat) (h26 : F.fn 26) (h43 : F.fn 43) (h55 : F.fn 55) (hro : F.round = none) (hn : 3 ≤ n) (v : Int) (hv : 0 ≤ v ∧ v < 4294967296) (w : World) :
    CallsIn F n Tryd.prog 26 #[.int .u32 v] w fun e W' => e = .returned (.tuple #[.int .i64 (firstI v), .bool (firstB v)]) ∧ Below w.heap.size w W' := by
  have h1 : 1 ≤ n := by omega
  refine callsIn_of_wp_marks x26 rfl h26 ?_ hro
  simp only [show Tryd.f26.ntmps = 9 from rfl, List.size_toArray, List.length_cons, List.length_nil, Nat.reduceAdd, Nat.reduceSub, Array.replicate_succ, Array.replicate_zero, List.push_toArray, List.append_toArray, List.nil_append, List.cons_append]
  gi_wp2_with (gi_at_call 43; refine (bits_in F (n - 1) h43 hro _ _).mono ?_; rintro e w' ⟨rfl, rfl⟩)
  have b1 := Boxed.new w 3 (.int .i64 0)
  have b2 := Boxed.new (w.alloc (.cells #[.int .i64 0] 3)) 4 (.bool false)
  have b3 := Boxed.new ((w.alloc (.cells #[.int .i64 0] 3)).alloc (.cells #[.bool false] 4)) 22 (.int .u32 v)
  rw [World.size_alloc] at b2
  rw [World.size_alloc, World.size_alloc] at b3
  have hB0 : Below w.heap.size w (((w.alloc (.cells #[.int .i64 0] 3)).alloc (.cells #[.bool false] 4)).alloc (.cells #[.int .u32 v] 22)) := (((Below.refl _ w).alloc (Nat.le_refl _) _).alloc (by simp) _).alloc (by simp; omega) _
  refine wpIn_rangeFunc_ownG hro h1 (gf := 55) (lb := #[.pointer (some ⟨w.heap.size + 1 + 1, 0, none⟩)]) rfl h55 (enters_of x55 (by kernel_rfl) rfl)
    (bits_stops F (n - 1) h55 hro (by omega) (w.heap.size + 1 + 1) (w.heap.size + 1 + 1 + 1) v hv _ (by simp) (by omega) b3.cell) belowK_t (belowK_b (by simp)) (Below.refl _ _) (fun _ => rfl)
    (fun pre W => (pre = [] ∧ (W.cell? ⟨w.heap.size, 0, none⟩ = some (.int .i64 0) ∧ W.frozen? ⟨w.heap.size, 0, none⟩ = false) ∧ W.cell? ⟨w.heap.size + 1, 0, none⟩ = some (.bool false) ∧ W.frozen? ⟨w.heap.size + 1, 0, none⟩ = false) ∧ Below w.heap.size w W)
    (fun c pre W => (c = .ret ∧ ∃ x : Int, pre = [x] ∧ W.cell? ⟨w.heap.size, 0, none⟩ = some (.int .i64 x) ∧ W.cell? ⟨w.heap.size + 1, 0, none⟩ = some (.bool true)) ∧ Below w.heap.size w W)
    (OwnFrom.and (Own.from (fun s A B row hs hg hr => ⟨hs.1, ⟨cell_kept hs.2.1.1 hg hr, (frozen_kept hs.2.1.1 hg hr).trans hs.2.1.2⟩, cell_kept hs.2.2.1 hg hr, (frozen_kept hs.2.2.1 hg hr).trans hs.2.2.2⟩) _) (ownFrom_below (Nat.le_refl _) (by simp; omega)))
    (fun c => OwnFrom.and (Own.from (fun s A B row hs hg hr => by obtain ⟨hc, x, e1, e2, e3⟩ := hs; exact ⟨hc, x, e1, cell_kept e2 hg hr, cell_kept e3 hg hr⟩) _) (ownFrom_below (Nat.le_refl _) (by simp; omega)))
    ⟨⟨rfl, ⟨((b1.alloc _).alloc _).cell, ((b1.alloc _).alloc _).frozen⟩, (b2.alloc _).cell, (b2.alloc _).frozen⟩, hB0⟩
    (fun x => { tmps := #[.int .u32 v, undef, .pointer (some ⟨w.heap.size, 0, none⟩), .pointer (some ⟨w.heap.size + 1, 0, none⟩), .int .i64 x, .int .u32 v, .func (.func 55) #[] #[.pointer (some ⟨w.heap.size + 1 + 1, 0, none⟩)], .int .i64 x, undef], defers := [] }) ?assign ?body ?done ?stop
  case assign =>
    intro l x W K hK
    gi_wp2
    exact hK
  case body =>
    rintro l pre x W ⟨⟨rfl, ⟨hc1, hf1⟩, hc2, hf2⟩, hB⟩ _
    gi_wp2
    exact ⟨((KeepsOthers.setCell _ _ _).trans (KeepsOthers.setCell _ _ _)).from _, ⟨rfl, x, rfl, two0 hc1 hc2 _ _, two1 hc1 hc2 _ _⟩, (hB.setCell (p := ⟨w.heap.size, 0, none⟩) (Nat.le_refl _) _).setCell (p := ⟨w.heap.size + 1, 0, none⟩) (Nat.le_succ _) _⟩
  case done =>
    rintro D ys W hD rfl ⟨⟨hnil, ⟨hc1, hf1⟩, hc2, hf2⟩, hB⟩ hK
    gi_wp2
    have hK' := ((KeepsOthers.setCell W ⟨w.heap.size, 0, none⟩ (.int .i64 0)).trans (KeepsOthers.setCell _ ⟨w.heap.size + 1, 0, none⟩ (.bool false))).same D _ hK rfl
    refine ⟨by simp, .inl ⟨_, _, rfl, run_takeDeferred hK', ?_⟩⟩
    have hc5 := cell_kept (two0 hc1 hc2 (.int .i64 0) (.bool false)) (grownBy_putObj' _ D (.deferred none)) (fun r e => by cases e; exact ⟨_, hK', rfl⟩)
    have hc6 := cell_kept (two1 hc1 hc2 (.int .i64 0) (.bool false)) (grownBy_putObj' _ D (.deferred none)) (fun r e => by cases e; exact ⟨_, hK', rfl⟩)
    refine ⟨.tuple #[.int .i64 (firstI v), .bool (firstB v)], ?_, rfl, ((hB.setCell (p := ⟨w.heap.size, 0, none⟩) (Nat.le_refl _) _).setCell (p := ⟨w.heap.size + 1, 0, none⟩) (Nat.le_succ _) _).trans (belowK_b (w := w) (Nat.le_refl _) _ D _ _ (by simp at hD; omega) hK' rfl rfl)⟩
    simp [results, Tryd.f26, go_sem, hc5, hc6, firstI, firstB, hnil]
  case stop =>
    rintro D c pre W hD ⟨k, hk, hbit, rfl⟩ ⟨⟨rfl, x, e1, hc1, hc2⟩, hB⟩ hK
    obtain ⟨g1, g2⟩ := first_one hk e1.symm
    gi_wp2
    refine ⟨by simp, .inl ⟨_, _, rfl, run_takeDeferred hK, ?_⟩⟩
    have hc5 := cell_kept hc1 (grownBy_putObj' _ D (.deferred none)) (fun r e => by cases e; exact ⟨_, hK, rfl⟩)
    have hc6 := cell_kept hc2 (grownBy_putObj' _ D (.deferred none)) (fun r e => by cases e; exact ⟨_, hK, rfl⟩)
    refine ⟨.tuple #[.int .i64 (firstI v), .bool (firstB v)], ?_, rfl, hB.trans (belowK_b (w := w) (Nat.le_refl _) W D _ _ (by simp at hD; omega) hK rfl rfl)⟩
    simp [results, Tryd.f26, go_sem, hc5, hc6, g1, g2]
def s26 : Sp := fun vs H Q => match vs with
  | [.int .u32 v] => (0 ≤ v ∧ v < 4294967296) ∧ Q (.tup [.int .i64 (firstI v), .bool (firstB v)]) H false false
  | _ => False
theorem k26 : Snd Tryd.prog 2 26 s26 := by
  refine snd_of_below fun vs H Q h => ?_
  unfold s26 at h
  split at h
  · rename_i v
    refine ⟨⟨_, x26, by kernel_rfl, rfl⟩, _, rfl, h.2, fun j w _ => ?_⟩
    exact callsIn_wide.1 (First_in Fence.wide 3 trivial trivial trivial rfl (by omega) v h.1 w)
  · exact h.elim
end Go.Ev
