/- texts joined -/
import Derived.Test.YtmdkhaoppklokaaDoorEvU
import Derived.RangeFuncBox
import Derived.RangeFuncLeaves
import Derived.RangeFuncFrom
import Derived.RangeFuncWrites
import Derived.Shelf.Abstract
import Derived.WalkKit
import Derived.OwnWalkIn
import Derived.TacticsInMore
import Derived.LoopNIn
import Derived.LoopIn
import Derived.BigFrameIn
import Derived.Test.YtmdkhaoppklokaaDoorKbyt
import Derived.Test.YtmdkhaoppklokaaDoorEvBelow
import Derived.Test.YtmdkhaoppklokaaDoorEvY
set_option linter.all false
namespace Go.Ev
open Go Go.Proofs Go.RowKit Go.Shelf
attribute [local go_sem] Oper.semAt_some
theorem size_in {w w1 : World} {j : J} {H : List B} {vs0 : List V} (n : Nat) {k : Int} {b : Bool} (hok : decide (okS k) = b) (hg : GLB H) (hi : Inv 2 ⟨w, H, j⟩ j [] (vs0.map SV.v) [] H false false w) (hb : Below w.heap.size w w1) :
    CallsIn Fence.wide n Tryd.prog 36 #[.int .i64 k] w1 fun e w2 => e = .returned (.bool b) ∧ Below w1.heap.size w1 w2 :=
  callsIn_wide.2 (law_callsG k36 (vs := [.int .i64 k]) (hi.restart hb rfl) (v0 := .bool b) rfl ⟨hg, by rw [hok]; exact ⟨rfl, rfl, rfl, rfl⟩⟩)
def upto {α : Type} (f : Nat → α) (k : Nat) : List α := (List.range k).map f
theorem upto_succ {α : Type} (f : Nat → α) (k : Nat) : upto f (k + 1) = upto f k ++ [f k] := by simp [upto, List.range_succ]
theorem upto_length {α : Type} (f : Nat → α) (k : Nat) : (upto f k).length = k := by simp [upto]
def KB (n₀ Bs : Nat) (A B : World) : Prop := Below n₀ A B ∧ B.heap[Bs]? = A.heap[Bs]?
theorem KB_t {n₀ Bs : Nat} {A B C : World} (h : KB n₀ Bs A B) (k : KB n₀ Bs B C) : KB n₀ Bs A C := ⟨h.1.trans k.1, k.2.trans h.2⟩
theorem KB_b {n₀ Bs : Nat} {w : World} (hn : n₀ ≤ w.heap.size) (hB : Bs < w.heap.size) (W : World) (l : Nat) (o o' : Obj) (hl : w.heap.size ≤ l) (h : W.heap[l]? = some o) (h1 : o.isCells = false) (h2 : o.isWalk = false) : KB n₀ Bs W (W.putObj l o') :=
  ⟨belowK_b hn W l o o' hl h h1 h2, (belowK_b (Nat.le_refl _) W l o o' hl h h1 h2).block Bs hB⟩
/-- what comes, from behind -/
def bkF (zs : List Int) (k : Nat) : Nat × Int := (zs.length - 1 - k, zs.getD (zs.length - 1 - k) 0)
set_option maxRecDepth 100000 in
set_option maxHeartbeats 2000000 in
theorem back1_in (F : Fence) (n : Nat) (h46 : F.fn 51) (hro : F.round = none) (hn : 1 ≤ n) (l Bs n₀ b off cap : Nat) (zs : List Int) (hreach : zs.length ≤ 4096) (hpos : 1 ≤ zs.length) (hb : b < n₀) (J Jx : List (Nat × Int) → World → Prop)
    (hY : ∀ pre x W, J pre W → pre.length < zs.length → YieldAt F (n - 1) Tryd.prog l #[.int .i64 (x.1 : Int), .int .u8 x.2] W fun e W' =>
      (e = .returned (.bool true) ∧ J (pre ++ [x]) W' ∧ KB n₀ Bs W W') ∨ (e = .returned (.bool false) ∧ Jx (pre ++ [x]) W'))
    (W : World) (hBs : W.cell? ⟨Bs, 0, none⟩ = some (.slice (some ⟨b, off, none⟩) zs.length cap)) (hc : ∀ j, j < zs.length → W.cell? ⟨b, off + j, none⟩ = some (.int .u8 (zs.getD j 0))) (h0 : J [] W) :
    CallsIn F n Tryd.prog 51 #[.func (.yield l) #[] #[], .pointer (some ⟨Bs, 0, none⟩)] W fun e W' => (∃ v, e = .returned v) ∧
      ((∃ ys, ys = upto (bkF zs) zs.length ∧ J ys W') ∨ (∃ pre, (∃ k, k ≤ zs.length ∧ pre = upto (bkF zs) k) ∧ Jx pre W')) := by
  refine callsIn_of_wp x51 rfl h46 ?_ hro
  simp only [show Tryd.f51.ntmps = 19 from rfl, List.size_toArray, List.length_cons, List.length_nil, Nat.reduceAdd, Nat.reduceSub, Array.replicate_succ, Array.replicate_zero, List.push_toArray, List.append_toArray, List.nil_append, List.cons_append]
  gi_wp2
  gi_loopw [3] (fun i wr => ∃ k : Nat, k ≤ zs.length ∧ i = .int .i64 ((zs.length : Int) - 1 - (k : Int)) ∧ J (upto (bkF zs) k) wr ∧ KB n₀ Bs W wr)
    (fun i _ => (intOf i + 1).toNat)
  case atStart => exact ⟨0, Nat.zero_le _, by simp, h0, Below.refl _ _, rfl⟩
  case round =>
    obtain ⟨k, hk, rfl, hJs, hnx⟩ := hrel
    by_cases hlt : k < zs.length
    · obtain ⟨m, hm⟩ : ∃ m : Nat, m = zs.length - 1 - k := ⟨_, rfl⟩
      have hmi : (zs.length : Int) - 1 - (k : Int) = (m : Int) := by omega
      have hml : m < zs.length := by omega
      rw [hmi]
      have hcx : wr.cell? ⟨b, off + m, none⟩ = some (.int .u8 (zs.getD m 0)) := (hnx.1.cell (p := ⟨b, off + m, none⟩) hb).trans (hc m hml)
      have hcb : wr.cell? ⟨Bs, 0, none⟩ = some (.slice (some ⟨b, off, none⟩) zs.length cap) := (World.cell?_of_block hnx.2).trans hBs
      have hf : bkF zs k = (m, zs.getD m 0) := by unfold bkF; rw [← hm]
      have hkm : k + m + 1 = zs.length := by omega
      clear hm hmi
      obtain ⟨x, hx⟩ : ∃ x, x = zs.getD m 0 := ⟨_, rfl⟩
      rw [← hx] at hcx hf
      clear hx
      obtain ⟨fn, tmps, assign, body, hy, hR⟩ := hY _ (m, x) wr hJs (by rw [upto_length]; exact hlt)
      dsimp only at hy
      gi_wp2
      refine hR.mono ?_
      rintro e W3 (⟨rfl, hJ3, hk3⟩ | ⟨rfl, hJx3⟩)
      · gi_wp2
        go_roundw
        case rel => exact ⟨k + 1, by omega, by simp; omega, by rw [upto_succ, hf]; exact hJ3, KB_t hnx hk3⟩
        case measure => simp [intOf]
      · gi_wp2
        refine bodyPost_ret (results_none rfl _ _ _) rfl ?_
        exact ⟨⟨_, rfl⟩, .inr ⟨_, ⟨k + 1, by omega, by rw [upto_succ, hf]⟩, hJx3⟩⟩
    · obtain rfl : k = zs.length := by omega
      rw [show (zs.length : Int) - 1 - (zs.length : Int) = -1 by omega]
      gi_wp2
      go_end0
      exact ⟨⟨_, rfl⟩, .inl ⟨_, rfl, hJs⟩⟩
set_option maxHeartbeats 1000000 in
theorem back_in (F : Fence) (n : Nat) (h35 : F.fn 40) (hro : F.round = none) (a : Option Addr) (len cap : Nat) (w : World) :
    CallsIn F n Tryd.prog 40 #[.slice a len cap] w fun e w' => e = .returned (.func (.func 51) #[] #[.pointer (some ⟨w.heap.size, 0, none⟩)]) ∧ w' = w.alloc (.cells #[.slice a len cap] 27) := by
  refine callsIn_of_wp x40 rfl h35 ?_ hro
  simp only [show Tryd.f40.ntmps = 4 from rfl, List.size_toArray, List.length_cons, List.length_nil, Nat.reduceAdd, Nat.reduceSub, Array.replicate_succ, Array.replicate_zero, List.push_toArray, List.append_toArray, List.nil_append, List.cons_append]
  gi_wp2
  go_ret
  exact ⟨rfl, rfl⟩
theorem back_stops (F : Fence) (n : Nat) (h46 : F.fn 51) (hro : F.round = none) (hn : 1 ≤ n) (Bs n₀ b off cap : Nat) (zs : List Int) (hreach : zs.length ≤ 4096) (hpos : 1 ≤ zs.length) (w : World) (hBs : Bs < w.heap.size) (hb : b < n₀) (hbw : b < w.heap.size)
    (hc : w.cell? ⟨Bs, 0, none⟩ = some (.slice (some ⟨b, off, none⟩) zs.length cap)) (hI : ∀ j, j < zs.length → w.cell? ⟨b, off + j, none⟩ = some (.int .u8 (zs.getD j 0))) :
    SeqStopsK F n Tryd.prog 51 #[.pointer (some ⟨Bs, 0, none⟩)] (fun x : Nat × Int => #[Value.int .i64 (x.1 : Int), Value.int .u8 x.2]) (KB n₀ Bs) (fun ys => ys = upto (bkF zs) zs.length)
      (fun pre => ∃ k, k ≤ zs.length ∧ pre = upto (bkF zs) k) zs.length w := fun l J Jx W hW _ _ hY h0 =>
  back1_in F n h46 hro hn l Bs n₀ b off cap zs hreach hpos hb J Jx hY W ((hW.cell (p := ⟨Bs, 0, none⟩) hBs).trans hc) (fun j hj => (hW.cell (p := ⟨b, off + j, none⟩) hbw).trans (hI j hj)) h0
theorem x18 : Tryd.prog.funcs[18]? = some Tryd.f18 := by kernel_rfl
def stepW (s : Int) (x : Int) : Int := bits BinOp.or IntKind.u32 (s * 256 % 4294967296) (x % 4294967296)
def accW (l : List (Nat × Int)) : Int := l.foldl (fun s x => stepW s x.2) 0
theorem accW_snoc (pre : List (Nat × Int)) (x : Nat × Int) : accW (pre ++ [x]) = stepW (accW pre) x.2 := by simp [accW]
set_option maxRecDepth 100000 in
set_option maxHeartbeats 2000000 in
theorem Of_in {w : World} {j : J} {H : List B} {vs0 : List V} (n : Nat) (hn : 3 ≤ n) (hg : GLB H) (hi : Inv 2 ⟨w, H, j⟩ j [] (vs0.map SV.v) [] H false false w) (b off cap : Nat) (zs : List Int) (hok : okS (zs.length : Int)) (hbw : b < w.heap.size)
    (hI : ∀ j, j < zs.length → w.cell? ⟨b, off + j, none⟩ = some (.int .u8 (zs.getD j 0))) :
    CallsIn Fence.wide n Tryd.prog 18 #[.slice (some ⟨b, off, none⟩) zs.length cap] w fun e W' => e = .returned (.tuple #[.int .u32 (accW (upto (bkF zs) zs.length)), .bool true]) ∧ Below w.heap.size w W' := by
  have h1 : 1 ≤ n := by omega
  have hl : 1 ≤ zs.length ∧ zs.length ≤ 4096 := by unfold okS at hok; omega
  have h21 : Fence.wide.fn 36 := trivial
  have h35 : Fence.wide.fn 40 := trivial
  have h46 : Fence.wide.fn 51 := trivial
  have hro : Fence.wide.round = none := rfl
  refine callsIn_of_wp_marks x18 rfl trivial ?_ hro
  simp only [show Tryd.f18.ntmps = 20 from rfl, List.size_toArray, List.length_cons, List.length_nil, Nat.reduceAdd, Nat.reduceSub, Array.replicate_succ, Array.replicate_zero, List.push_toArray, List.append_toArray, List.nil_append, List.cons_append]
  have hBa : Below w.heap.size w (w.alloc (.cells #[.int .u32 0] 22)) := (Below.refl _ w).alloc (Nat.le_refl _) _
  gi_wp2_with (first
    | (gi_at_call 36; refine (size_in (n - 1) (decide_eq_true hok) hg hi hBa).mono ?_; rintro e w2 ⟨rfl, hB2⟩)
    | (gi_at_call 40; refine (back_in Fence.wide (n - 1) trivial rfl _ _ _ _).mono ?_; rintro e w3 ⟨rfl, rfl⟩))
  have bS : Boxed (w.alloc (.cells #[.int .u32 0] 22)) w.heap.size 22 (.int .u32 0) := Boxed.new w 22 (.int .u32 0)
  have bS2 : Boxed w2 w.heap.size 22 (.int .u32 0) := (hB2.block w.heap.size (by simp)).trans bS
  have bN := Boxed.new w2 27 (.slice (some ⟨b, off, none⟩) zs.length cap)
  have hsz : w.heap.size + 1 ≤ w2.heap.size := by have := hB2.size; simpa using this
  have hBw2 : Below w.heap.size w w2 := hBa.trans (hB2.mono (by simp))
  have hB0 : Below w.heap.size w (w2.alloc (.cells #[.slice (some ⟨b, off, none⟩) zs.length cap] 27)) := hBw2.alloc (by omega) _
  refine wpIn_rangeFunc_ownG hro h1 (gf := 51) (lb := #[.pointer (some ⟨w2.heap.size, 0, none⟩)]) rfl h46 (enters_of x51 (by kernel_rfl) rfl)
    (back_stops Fence.wide (n - 1) h46 hro (by omega) w2.heap.size w.heap.size b off cap zs hl.2 hl.1 _ (by simp) hbw (by simp; omega) bN.cell (fun j hj => (hB0.cell (p := ⟨b, off + j, none⟩) hbw).trans (hI j hj))) KB_t (KB_b (by simp; omega) (by simp)) (Below.refl _ _) (fun _ => rfl)
    (fun pre W => (W.cell? ⟨w.heap.size, 0, none⟩ = some (.int .u32 (accW pre)) ∧ W.frozen? ⟨w.heap.size, 0, none⟩ = false) ∧ Below w.heap.size w W)
    (fun _ _ _ => False)
    (OwnFrom.and (Own.from (fun s A B row hs hg hr => ⟨cell_kept hs.1 hg hr, (frozen_kept hs.1 hg hr).trans hs.2⟩) _) (ownFrom_below (Nat.le_refl _) (by simp; omega)))
    (fun _ _ _ _ _ hs _ _ => hs)
    ⟨⟨(bS2.alloc _).cell, (bS2.alloc _).frozen⟩, hB0⟩
    (fun x => { tmps := #[.slice (some ⟨b, off, none⟩) zs.length cap, undef, .pointer (some ⟨w.heap.size, 0, none⟩), .bool false, undef, .int .u8 x.2, .slice (some ⟨b, off, none⟩) zs.length cap, .int .i64 zs.length, .bool true, .bool false, .slice (some ⟨b, off, none⟩) zs.length cap, .func (.func 51) #[] #[.pointer (some ⟨w2.heap.size, 0, none⟩)], .int .i64 x.1, .int .u8 x.2, undef, undef, undef, undef, undef, undef], defers := [] }) ?assign ?body ?done ?stop
  case assign =>
    intro l x W K hK
    gi_wp2
    exact hK
  case body =>
    rintro l pre x W ⟨⟨hc, hf⟩, hB⟩ _
    gi_wp2
    exact ⟨(KeepsOthers.setCell _ _ _).from _, ⟨(Below.refl w.heap.size W).setCell (p := ⟨w.heap.size, 0, none⟩) (Nat.le_refl _) _, Below.heap_setCell W ⟨w.heap.size, 0, none⟩ _ w2.heap.size (by simp; omega)⟩,
      ⟨by rw [accW_snoc]; exact World.cell?_setCell_same' _ _ _ (by rw [hc]; rfl), by rw [World.frozen?_setCell]; exact hf⟩, hB.setCell (p := ⟨w.heap.size, 0, none⟩) (Nat.le_refl _) _⟩
  case done =>
    rintro D ys W hD rfl ⟨⟨hc, hf⟩, hB⟩ hK
    gi_wp2
    have hK' := (KeepsOthers.setCell W ⟨w.heap.size, 0, none⟩ (.int .u32 (accW (upto (bkF zs) zs.length)))).same D _ hK rfl
    refine ⟨by simp, .inl ⟨_, _, rfl, run_takeDeferred hK', ?_⟩⟩
    have hc4 : (W.setCell ⟨w.heap.size, 0, none⟩ (.int .u32 (accW (upto (bkF zs) zs.length)))).cell? ⟨w.heap.size, 0, none⟩ = some (.int .u32 (accW (upto (bkF zs) zs.length))) := World.cell?_setCell_same' _ _ _ (by rw [hc]; rfl)
    have hc5 := cell_kept hc4 (grownBy_putObj' _ D (.deferred none)) (fun r e => by cases e; exact ⟨_, hK', rfl⟩)
    refine ⟨.tuple #[.int .u32 (accW (upto (bkF zs) zs.length)), .bool true], ?_, rfl, (hB.setCell (p := ⟨w.heap.size, 0, none⟩) (Nat.le_refl _) _).trans (belowK_b (w := w) (Nat.le_refl _) _ D _ _ (by simp at hD; omega) hK' rfl rfl)⟩
    simp [results, Tryd.f18, go_sem, hc5]
  case stop =>
    rintro D c pre W _ _ h _
    exact h.elim
set_option maxRecDepth 100000 in
set_option maxHeartbeats 2000000 in
theorem Of_no {w : World} {j : J} {H : List B} {vs0 : List V} (n : Nat) (hn : 3 ≤ n) (hg : GLB H) (hi : Inv 2 ⟨w, H, j⟩ j [] (vs0.map SV.v) [] H false false w) (a : Option Addr) (len cap : Nat) (hok : ¬ okS (len : Int)) :
    CallsIn Fence.wide n Tryd.prog 18 #[.slice a len cap] w fun e W' => e = .returned (.tuple #[.int .u32 0, .bool false]) ∧ Below w.heap.size w W' := by
  have h1 : 1 ≤ n := by omega
  have h21 : Fence.wide.fn 36 := trivial
  have hro : Fence.wide.round = none := rfl
  refine callsIn_of_wp_marks x18 rfl trivial ?_ hro
  simp only [show Tryd.f18.ntmps = 20 from rfl, List.size_toArray, List.length_cons, List.length_nil, Nat.reduceAdd, Nat.reduceSub, Array.replicate_succ, Array.replicate_zero, List.push_toArray, List.append_toArray, List.nil_append, List.cons_append]
  have hBa : Below w.heap.size w (w.alloc (.cells #[.int .u32 0] 22)) := (Below.refl _ w).alloc (Nat.le_refl _) _
  have bS : Boxed (w.alloc (.cells #[.int .u32 0] 22)) w.heap.size 22 (.int .u32 0) := Boxed.new w 22 (.int .u32 0)
  gi_wp2_with (gi_at_call 36; refine (size_in (n - 1) (decide_eq_false hok) hg hi hBa).mono ?_; rintro e w2 ⟨rfl, hB2⟩; have bS2 : Boxed w2 w.heap.size 22 (.int .u32 0) := (hB2.block w.heap.size (by simp)).trans bS; have hc := bS2.cell; have hf := bS2.frozen)
  have hBw2 : Below w.heap.size w w2 := hBa.trans (hB2.mono (by simp))
  have hc4 : (w2.setCell ⟨w.heap.size, 0, none⟩ (.int .u32 0)).cell? ⟨w.heap.size, 0, none⟩ = some (.int .u32 0) := World.cell?_setCell_same' _ _ _ (by rw [hc]; rfl)
  refine ⟨.tuple #[.int .u32 0, .bool false], ?_, rfl, hBw2.setCell (p := ⟨w.heap.size, 0, none⟩) (Nat.le_refl _) _⟩
  simp [results, Tryd.f18, go_sem, hc4]
end Go.Ev

set_option linter.all false
namespace Go.Ev
open Go Go.Proofs Go.RowKit Go.Shelf
theorem encB_map (l : List Int) : l.flatMap encB = l.map (V.int .u8) := by
  induction l with
  | nil => rfl
  | cons a l ih => rw [List.flatMap_cons, ih]; rfl
theorem getD_get {w : List Int} {j : Nat} (hj : j < w.length) : w[j]? = some (w.getD j 0) := by
  rw [List.getD_eq_getElem?_getD, List.getElem?_eq_getElem hj]; rfl
theorem stepW_eq {s x : Int} (hs : 0 ≤ s ∧ s < 16777216) (hx : 0 ≤ x ∧ x < 256) : stepW s x = s * 256 + x := by
  obtain ⟨a, rfl⟩ := Int.eq_ofNat_of_zero_le hs.1
  obtain ⟨b, rfl⟩ := Int.eq_ofNat_of_zero_le hx.1
  unfold stepW
  have e1 : (a : Int) * 256 % 4294967296 = ((a * 256 : Nat) : Int) := by omega
  have e2 : (b : Int) % 4294967296 = (b : Int) := by omega
  rw [e1, e2]
  show IntKind.u32.wrap (((BitVec.ofInt 32 ((a * 256 : Nat) : Int) ||| BitVec.ofInt 32 (b : Int)).toNat : Nat) : Int) = _
  rw [BitVec.toNat_or, bv_nat (by omega), bv_nat (by omega), wrap_u32]
  have h := Nat.shiftLeft_add_eq_or_of_lt (show b < 2 ^ 8 by omega) a
  rw [Nat.shiftLeft_eq] at h
  rw [show a * 256 = a * 2 ^ 8 by rfl, ← h]
  omega
theorem acc_of {l : List Int} (hok : okS (l.length : Int)) (hb : ∀ x, x ∈ l → 0 ≤ x ∧ x < 256) : accW (upto (bkF l) l.length) = ofB l := by
  have hl : l.length = 1 ∨ l.length = 2 ∨ l.length = 4 := by unfold okS at hok; omega
  rcases hl with h1 | h1 | h1
  · obtain ⟨a, rfl⟩ := List.length_eq_one_iff.1 h1
    have ha := hb a (by simp)
    show stepW 0 a = _
    rw [stepW_eq (by decide) ha]
    simp only [ofB]; omega
  · obtain ⟨a, c, rfl⟩ := len2 h1
    have ha := hb a (by simp)
    have hc := hb c (by simp)
    show stepW (stepW 0 c) a = _
    rw [stepW_eq (by decide) hc, stepW_eq (by omega) ha]
    simp only [ofB]; omega
  · obtain ⟨a, c, d, e, rfl⟩ := len4 h1
    have ha := hb a (by simp)
    have hc := hb c (by simp)
    have hd := hb d (by simp)
    have he := hb e (by simp)
    show stepW (stepW (stepW (stepW 0 e) d) c) a = _
    rw [stepW_eq (by decide) he, stepW_eq (by omega) hd, stepW_eq (by omega) hc, stepW_eq (by omega) ha]
    simp only [ofB]; omega
def s18 : Sp := fun vs H Q => match vs with
  | [.sl p n cp] => GLB H ∧ ∃ (l : List Int), n = l.length ∧ (∀ x, x ∈ l → 0 ≤ x ∧ x < 256) ∧ RdB H p l ∧ Q (.tup [.int .u32 (if okS (n : Int) then ofB l else 0), .bool (decide (okS (n : Int)))]) H false false
  | _ => False
theorem k18 : Snd Tryd.prog 2 18 s18 := by
  refine snd_of_below fun vs H Q h => ?_
  unfold s18 at h
  split at h
  · rename_i p n cp
    obtain ⟨hg, l, rfl, hb, hr, hq⟩ := h
    refine ⟨⟨_, x18, by kernel_rfl, rfl⟩, _, rfl, hq, fun j w hi => ?_⟩
    by_cases hok : okS (l.length : Int)
    · have hpos : 0 < l.length := by unfold okS at hok; omega
      obtain ⟨b, o, rfl⟩ := hr.some hpos
      have hr' : rd H b o (l.length * 1) = some (l.flatMap encB) := hr
      have hbl : b < H.length := by
        unfold rd at hr'
        split at hr'
        · rename_i hh; exact (List.getElem?_eq_some_iff.1 hh).1
        · cases hr'
      have hbw := hi.lts b hbl
      have hc := rd_cell hi hr'
      have := callsIn_wide.1 (Of_in 3 (by omega) hg hi (j.b b) (j.o b + o) cp l hok hbw ?_)
      · rw [acc_of hok hb] at this
        rw [if_pos hok, decide_eq_true hok]
        exact this
      · intro i hil
        have h1 := hc.2.2 i (.int .u8 (l.getD i 0)) (by rw [encB_map, List.getElem?_map, getD_get hil]; rfl)
        rw [at_add] at h1
        simpa [J.at, conc, Nat.add_assoc] using h1
    · rw [if_neg hok, decide_eq_false hok]
      rcases p with _ | ⟨b, o⟩
      · exact callsIn_wide.1 (Of_no 3 (by omega) hg hi none l.length cp hok)
      · exact callsIn_wide.1 (Of_no 3 (by omega) hg hi (some (j.at b o)) l.length cp hok)
  · exact h.elim
end Go.Ev
