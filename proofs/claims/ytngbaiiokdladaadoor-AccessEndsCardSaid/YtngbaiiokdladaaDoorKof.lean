/- dev: word.Of by the kit's fourth law -/
import Derived.RangeFuncBox
import Derived.RangeFuncLeaves
import Derived.RangeFuncFrom
import Derived.RangeFuncWrites
import Derived.Shelf.Abstract
import Derived.WalkKit
import Derived.OwnWalkIn
import Derived.TacticsInMore
import Derived.LoopNIn
import Derived.LoopIn
import Derived.BigFrameIn
import Derived.Test.YtngbaiiokdladaaDoorKbyt
import Derived.Test.YtngbaiiokdladaaDoorEvBelow
import Derived.Test.YtngbaiiokdladaaDoorEvY
set_option linter.all false
namespace Go.Ev
open Go Go.Proofs Go.RowKit Go.Shelf
attribute [local go_sem] Oper.semAt_some
/-- the tables alone, in a world where all that lay lies as it lay -/
theorem tab_inv {w w1 : World} {j : J} {H : List B} {vs0 vs : List V} (hg : GLB H) (hi : Inv 1 ⟨w, H, j⟩ j [] (vs0.map SV.v) [] H false false w) (hb : Below w.heap.size w w1) (hv : V.ltL 1 vs = true) :
    Inv 1 ⟨w1, [GS], ⟨fun i => i, fun _ => 0⟩⟩ ⟨fun i => i, fun _ => 0⟩ [] (vs.map SV.v) [] [GS] false false w1 := by
  obtain ⟨T, rfl⟩ := hg
  have g0 := hi.glob 0 (by decide)
  have l0 := hi.lts 0 (by simp)
  have b0 := hi.br 0 GS rfl
  rw [g0.1] at l0
  refine inv_ros ?_ ?_ ?_ hv (by simp) (fun i _ => ⟨rfl, rfl⟩)
  · intro b hb
    simp only [List.mem_cons, List.not_mem_nil, or_false] at hb
    subst hb
    exact ⟨_, rfl, rfl⟩
  · intro i hi'
    have : i = 0 := by simp at hi'; omega
    subst this
    exact Nat.lt_of_lt_of_le l0 hb.size
  · intro i cs hcs x v hx
    have hlt : i < 1 := by have := (List.getElem?_eq_some_iff.1 hcs).1; simpa using this
    have : i = 0 := by omega
    subst this
    have hcs' : cs = [.int .i64 1, .int .i64 2, .int .i64 4] := by injection hcs with hcs; injection hcs with hcs; exact hcs.symm
    subst hcs'
    have h1 := b0 x v hx
    simp only [J.at, g0.1, g0.2, Nat.zero_add] at h1
    have h2 := (hb.cell (p := ⟨0, x, none⟩) l0).trans h1
    simp only [J.at, Nat.zero_add]
    rw [h2]
    rcases x with _ | _ | _ | x <;> simp at hx <;> subst hx <;> rfl
theorem size_in {w w1 : World} {j : J} {H : List B} {vs0 : List V} (n : Nat) {k : Int} (hok : okS k) (hg : GLB H) (hi : Inv 1 ⟨w, H, j⟩ j [] (vs0.map SV.v) [] H false false w) (hb : Below w.heap.size w w1) :
    CallsIn Fence.wide n Tryd.prog 45 #[.int .i64 k] w1 fun e w2 => e = .returned (.bool true) ∧ Below w1.heap.size w1 w2 :=
  callsIn_wide.2 (law_calls k45 (vs := [.int .i64 k]) (tab_inv hg hi hb rfl) (by intro b hb; simp only [List.mem_cons, List.not_mem_nil, or_false] at hb; subst hb; rfl) ⟨⟨[], rfl⟩, by rw [decide_eq_true hok]⟩)
def upto {α : Type} (f : Nat → α) (k : Nat) : List α := (List.range k).map f
theorem upto_succ {α : Type} (f : Nat → α) (k : Nat) : upto f (k + 1) = upto f k ++ [f k] := by simp [upto, List.range_succ]
theorem upto_length {α : Type} (f : Nat → α) (k : Nat) : (upto f k).length = k := by simp [upto]
def KB (n₀ Bs : Nat) (A B : World) : Prop := Below n₀ A B ∧ B.heap[Bs]? = A.heap[Bs]?
theorem KB_t {n₀ Bs : Nat} {A B C : World} (h : KB n₀ Bs A B) (k : KB n₀ Bs B C) : KB n₀ Bs A C := ⟨h.1.trans k.1, k.2.trans h.2⟩
theorem KB_b {n₀ Bs : Nat} {w : World} (hn : n₀ ≤ w.heap.size) (hB : Bs < w.heap.size) (W : World) (l : Nat) (o o' : Obj) (hl : w.heap.size ≤ l) (h : W.heap[l]? = some o) (h1 : o.isCells = false) (h2 : o.isWalk = false) : KB n₀ Bs W (W.putObj l o') :=
  ⟨belowK_b hn W l o o' hl h h1 h2, (belowK_b (Nat.le_refl _) W l o o' hl h h1 h2).block Bs hB⟩
/-- what comes, from behind -/
def bkF (zs : List Int) (k : Nat) : Nat × Int := (zs.length - 1 - k, zs.getD (zs.length - 1 - k) 0)
set_option maxRecDepth 100000 in
set_option maxHeartbeats 2000000 in
theorem back1_in (F : Fence) (n : Nat) (h46 : F.fn 77) (hro : F.round = none) (hn : 1 ≤ n) (l Bs n₀ b off cap : Nat) (zs : List Int) (hreach : zs.length ≤ 4096) (hpos : 1 ≤ zs.length) (hb : b < n₀) (J Jx : List (Nat × Int) → World → Prop)
    (hY : ∀ pre x W, J pre W → pre.length < zs.length → YieldAt F (n - 1) Tryd.prog l #[.int .i64 (x.1 : Int), .int .u8 x.2] W fun e W' =>
      (e = .returned (.bool true) ∧ J (pre ++ [x]) W' ∧ KB n₀ Bs W W') ∨ (e = .returned (.bool false) ∧ Jx (pre ++ [x]) W'))
    (W : World) (hBs : W.cell? ⟨Bs, 0, none⟩ = some (.slice (some ⟨b, off, none⟩) zs.length cap)) (hc : ∀ j, j < zs.length → W.cell? ⟨b, off + j, none⟩ = some (.int .u8 (zs.getD j 0))) (h0 : J [] W) :
    CallsIn F n Tryd.prog 77 #[.func (.yield l) #[] #[], .pointer (some ⟨Bs, 0, none⟩)] W fun e W' => (∃ v, e = .returned v) ∧
      ((∃ ys, ys = upto (bkF zs) zs.length ∧ J ys W') ∨ (∃ pre, (∃ k, k ≤ zs.length ∧ pre = upto (bkF zs) k) ∧ Jx pre W')) := by
  refine callsIn_of_wp x77 rfl h46 ?_ hro
  simp only [show Tryd.f77.ntmps = 19 from rfl, List.size_toArray, List.length_cons, List.length_nil, Nat.reduceAdd, Nat.reduceSub, Array.replicate_succ, Array.replicate_zero, List.push_toArray, List.append_toArray, List.nil_append, List.cons_append]
  gi_wp2
  gi_loopw [3] (fun i wr => ∃ k : Nat, k ≤ zs.length ∧ i = .int .i64 ((zs.length : Int) - 1 - (k : Int)) ∧ J (upto (bkF zs) k) wr ∧ KB n₀ Bs W wr)
    (fun i _ => (intOf i + 1).toNat)
  case atStart => exact ⟨0, Nat.zero_le _, by simp, h0, Below.refl _ _, rfl⟩
  case round =>
    obtain ⟨k, hk, rfl, hJs, hnx⟩ := hrel
    by_cases hlt : k < zs.length
    · obtain ⟨m, hm⟩ : ∃ m : Nat, m = zs.length - 1 - k := ⟨_, rfl⟩
      have hmi : (zs.length : Int) - 1 - (k : Int) = (m : Int) := by omega
      have hml : m < zs.length := by omega
      rw [hmi]
      have hcx : wr.cell? ⟨b, off + m, none⟩ = some (.int .u8 (zs.getD m 0)) := (hnx.1.cell (p := ⟨b, off + m, none⟩) hb).trans (hc m hml)
      have hcb : wr.cell? ⟨Bs, 0, none⟩ = some (.slice (some ⟨b, off, none⟩) zs.length cap) := (World.cell?_of_block hnx.2).trans hBs
      have hf : bkF zs k = (m, zs.getD m 0) := by unfold bkF; rw [← hm]
      have hkm : k + m + 1 = zs.length := by omega
      clear hm hmi
      obtain ⟨x, hx⟩ : ∃ x, x = zs.getD m 0 := ⟨_, rfl⟩
      rw [← hx] at hcx hf
      clear hx
      obtain ⟨fn, tmps, assign, body, hy, hR⟩ := hY _ (m, x) wr hJs (by rw [upto_length]; exact hlt)
      dsimp only at hy
      gi_wp2
      refine hR.mono ?_
      rintro e W3 (⟨rfl, hJ3, hk3⟩ | ⟨rfl, hJx3⟩)
      · gi_wp2
        go_roundw
        case rel => exact ⟨k + 1, by omega, by simp; omega, by rw [upto_succ, hf]; exact hJ3, KB_t hnx hk3⟩
        case measure => simp [intOf]
      · gi_wp2
        refine bodyPost_ret (results_none rfl _ _ _) rfl ?_
        exact ⟨⟨_, rfl⟩, .inr ⟨_, ⟨k + 1, by omega, by rw [upto_succ, hf]⟩, hJx3⟩⟩
    · obtain rfl : k = zs.length := by omega
      rw [show (zs.length : Int) - 1 - (zs.length : Int) = -1 by omega]
      gi_wp2
      go_end0
      exact ⟨⟨_, rfl⟩, .inl ⟨_, rfl, hJs⟩⟩
set_option maxHeartbeats 1000000 in
theorem back_in (F : Fence) (n : Nat) (h35 : F.fn 52) (hro : F.round = none) (a : Option Addr) (len cap : Nat) (w : World) :
    CallsIn F n Tryd.prog 52 #[.slice a len cap] w fun e w' => e = .returned (.func (.func 77) #[] #[.pointer (some ⟨w.heap.size, 0, none⟩)]) ∧ w' = w.alloc (.cells #[.slice a len cap] 22) := by
  refine callsIn_of_wp x52 rfl h35 ?_ hro
  simp only [show Tryd.f52.ntmps = 4 from rfl, List.size_toArray, List.length_cons, List.length_nil, Nat.reduceAdd, Nat.reduceSub, Array.replicate_succ, Array.replicate_zero, List.push_toArray, List.append_toArray, List.nil_append, List.cons_append]
  gi_wp2
  go_ret
  exact ⟨rfl, rfl⟩
theorem back_stops (F : Fence) (n : Nat) (h46 : F.fn 77) (hro : F.round = none) (hn : 1 ≤ n) (Bs n₀ b off cap : Nat) (zs : List Int) (hreach : zs.length ≤ 4096) (hpos : 1 ≤ zs.length) (w : World) (hBs : Bs < w.heap.size) (hb : b < n₀) (hbw : b < w.heap.size)
    (hc : w.cell? ⟨Bs, 0, none⟩ = some (.slice (some ⟨b, off, none⟩) zs.length cap)) (hI : ∀ j, j < zs.length → w.cell? ⟨b, off + j, none⟩ = some (.int .u8 (zs.getD j 0))) :
    SeqStopsK F n Tryd.prog 77 #[.pointer (some ⟨Bs, 0, none⟩)] (fun x : Nat × Int => #[Value.int .i64 (x.1 : Int), Value.int .u8 x.2]) (KB n₀ Bs) (fun ys => ys = upto (bkF zs) zs.length)
      (fun pre => ∃ k, k ≤ zs.length ∧ pre = upto (bkF zs) k) zs.length w := fun l J Jx W hW _ _ hY h0 =>
  back1_in F n h46 hro hn l Bs n₀ b off cap zs hreach hpos hb J Jx hY W ((hW.cell (p := ⟨Bs, 0, none⟩) hBs).trans hc) (fun j hj => (hW.cell (p := ⟨b, off + j, none⟩) hbw).trans (hI j hj)) h0
theorem x33 : Tryd.prog.funcs[33]? = some Tryd.f33 := by kernel_rfl
def stepW (s : Int) (x : Int) : Int := bits BinOp.or IntKind.u32 (s * 256 % 4294967296) (x % 4294967296)
def accW (l : List (Nat × Int)) : Int := l.foldl (fun s x => stepW s x.2) 0
theorem accW_snoc (pre : List (Nat × Int)) (x : Nat × Int) : accW (pre ++ [x]) = stepW (accW pre) x.2 := by simp [accW]
set_option maxRecDepth 100000 in
set_option maxHeartbeats 2000000 in
theorem Of_in {w : World} {j : J} {H : List B} {vs0 : List V} (n : Nat) (hn : 3 ≤ n) (hg : GLB H) (hi : Inv 1 ⟨w, H, j⟩ j [] (vs0.map SV.v) [] H false false w) (b off cap : Nat) (zs : List Int) (hok : okS (zs.length : Int)) (hbw : b < w.heap.size)
    (hI : ∀ j, j < zs.length → w.cell? ⟨b, off + j, none⟩ = some (.int .u8 (zs.getD j 0))) :
    CallsIn Fence.wide n Tryd.prog 33 #[.slice (some ⟨b, off, none⟩) zs.length cap] w fun e W' => e = .returned (.tuple #[.int .u32 (accW (upto (bkF zs) zs.length)), .bool true]) ∧ Below w.heap.size w W' := by
  have h1 : 1 ≤ n := by omega
  have hl : 1 ≤ zs.length ∧ zs.length ≤ 4096 := by unfold okS at hok; omega
  have h21 : Fence.wide.fn 45 := trivial
  have h35 : Fence.wide.fn 52 := trivial
  have h46 : Fence.wide.fn 77 := trivial
  have hro : Fence.wide.round = none := rfl
  refine callsIn_of_wp_marks x33 rfl trivial ?_ hro
  simp only [show Tryd.f33.ntmps = 20 from rfl, List.size_toArray, List.length_cons, List.length_nil, Nat.reduceAdd, Nat.reduceSub, Array.replicate_succ, Array.replicate_zero, List.push_toArray, List.append_toArray, List.nil_append, List.cons_append]
  have hBa : Below w.heap.size w (w.alloc (.cells #[.int .u32 0] 25)) := (Below.refl _ w).alloc (Nat.le_refl _) _
  gi_wp2_with (first
    | (gi_at_call 45; refine (size_in (n - 1) hok hg hi hBa).mono ?_; rintro e w2 ⟨rfl, hB2⟩)
    | (gi_at_call 52; refine (back_in Fence.wide (n - 1) trivial rfl _ _ _ _).mono ?_; rintro e w3 ⟨rfl, rfl⟩))
  have bS : Boxed (w.alloc (.cells #[.int .u32 0] 25)) w.heap.size 25 (.int .u32 0) := Boxed.new w 25 (.int .u32 0)
  have bS2 : Boxed w2 w.heap.size 25 (.int .u32 0) := (hB2.block w.heap.size (by simp)).trans bS
  have bN := Boxed.new w2 22 (.slice (some ⟨b, off, none⟩) zs.length cap)
  have hsz : w.heap.size + 1 ≤ w2.heap.size := by have := hB2.size; simpa using this
  have hBw2 : Below w.heap.size w w2 := hBa.trans (hB2.mono (by simp))
  have hB0 : Below w.heap.size w (w2.alloc (.cells #[.slice (some ⟨b, off, none⟩) zs.length cap] 22)) := hBw2.alloc (by omega) _
  refine wpIn_rangeFunc_ownG hro h1 (gf := 77) (lb := #[.pointer (some ⟨w2.heap.size, 0, none⟩)]) rfl h46 (enters_of x77 (by kernel_rfl) rfl)
    (back_stops Fence.wide (n - 1) h46 hro (by omega) w2.heap.size w.heap.size b off cap zs hl.2 hl.1 _ (by simp) hbw (by simp; omega) bN.cell (fun j hj => (hB0.cell (p := ⟨b, off + j, none⟩) hbw).trans (hI j hj))) KB_t (KB_b (by simp; omega) (by simp)) (Below.refl _ _) (fun _ => rfl)
    (fun pre W => (W.cell? ⟨w.heap.size, 0, none⟩ = some (.int .u32 (accW pre)) ∧ W.frozen? ⟨w.heap.size, 0, none⟩ = false) ∧ Below w.heap.size w W)
    (fun _ _ _ => False)
    (OwnFrom.and (Own.from (fun s A B row hs hg hr => ⟨cell_kept hs.1 hg hr, (frozen_kept hs.1 hg hr).trans hs.2⟩) _) (ownFrom_below (Nat.le_refl _) (by simp; omega)))
    (fun _ _ _ _ _ hs _ _ => hs)
    ⟨⟨(bS2.alloc _).cell, (bS2.alloc _).frozen⟩, hB0⟩
    (fun x => { tmps := #[.slice (some ⟨b, off, none⟩) zs.length cap, undef, .pointer (some ⟨w.heap.size, 0, none⟩), .bool false, undef, .int .u8 x.2, .slice (some ⟨b, off, none⟩) zs.length cap, .int .i64 zs.length, .bool true, .bool false, .slice (some ⟨b, off, none⟩) zs.length cap, .func (.func 77) #[] #[.pointer (some ⟨w2.heap.size, 0, none⟩)], .int .i64 x.1, .int .u8 x.2, undef, undef, undef, undef, undef, undef], defers := [] }) ?assign ?body ?done ?stop
  case assign =>
    intro l x W K hK
    gi_wp2
    exact hK
  case body =>
    rintro l pre x W ⟨⟨hc, hf⟩, hB⟩ _
    gi_wp2
    exact ⟨(KeepsOthers.setCell _ _ _).from _, ⟨(Below.refl w.heap.size W).setCell (p := ⟨w.heap.size, 0, none⟩) (Nat.le_refl _) _, Below.heap_setCell W ⟨w.heap.size, 0, none⟩ _ w2.heap.size (by simp; omega)⟩,
      ⟨by rw [accW_snoc]; exact World.cell?_setCell_same' _ _ _ (by rw [hc]; rfl), by rw [World.frozen?_setCell]; exact hf⟩, hB.setCell (p := ⟨w.heap.size, 0, none⟩) (Nat.le_refl _) _⟩
  case done =>
    rintro D ys W hD rfl ⟨⟨hc, hf⟩, hB⟩ hK
    gi_wp2
    have hK' := (KeepsOthers.setCell W ⟨w.heap.size, 0, none⟩ (.int .u32 (accW (upto (bkF zs) zs.length)))).same D _ hK rfl
    refine ⟨by simp, .inl ⟨_, _, rfl, run_takeDeferred hK', ?_⟩⟩
    have hc4 : (W.setCell ⟨w.heap.size, 0, none⟩ (.int .u32 (accW (upto (bkF zs) zs.length)))).cell? ⟨w.heap.size, 0, none⟩ = some (.int .u32 (accW (upto (bkF zs) zs.length))) := World.cell?_setCell_same' _ _ _ (by rw [hc]; rfl)
    have hc5 := cell_kept hc4 (grownBy_putObj' _ D (.deferred none)) (fun r e => by cases e; exact ⟨_, hK', rfl⟩)
    refine ⟨.tuple #[.int .u32 (accW (upto (bkF zs) zs.length)), .bool true], ?_, rfl, (hB.setCell (p := ⟨w.heap.size, 0, none⟩) (Nat.le_refl _) _).trans (belowK_b (w := w) (Nat.le_refl _) _ D _ _ (by simp at hD; omega) hK' rfl rfl)⟩
    simp [results, Tryd.f33, go_sem, hc5]
  case stop =>
    rintro D c pre W _ _ h _
    exact h.elim
end Go.Ev
