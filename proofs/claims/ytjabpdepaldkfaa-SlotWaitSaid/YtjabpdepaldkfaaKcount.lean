/- dev: slot.of, slot.Count by the kit's fourth law -/
import Derived.RangeFuncBox
import Derived.RangeFuncLeaves
import Derived.RangeFuncFrom
import Derived.RangeFuncWrites
import Derived.Shelf.Abstract
import Derived.WalkKit
import Derived.OwnWalkIn
import Derived.TacticsInMore
import Derived.LoopNIn
import Derived.LoopIn
import Derived.BigFrameIn
import Derived.Test.YtjabpdepaldkfaaKslot2
import Derived.Test.YtjabpdepaldkfaaEvBelow3
set_option linter.all false
namespace Go.Ev
open Go Go.Proofs Go.RowKit Go.Shelf
attribute [local go_sem] Oper.semAt_some
def KB2 (n₀ Bs Cs : Nat) (A B : World) : Prop := Below n₀ A B ∧ B.heap[Bs]? = A.heap[Bs]? ∧ B.heap[Cs]? = A.heap[Cs]?
theorem KB2_t {n₀ Bs Cs : Nat} {A B C : World} (h : KB2 n₀ Bs Cs A B) (k : KB2 n₀ Bs Cs B C) : KB2 n₀ Bs Cs A C := ⟨h.1.trans k.1, k.2.1.trans h.2.1, k.2.2.trans h.2.2⟩
theorem KB2_b {n₀ Bs Cs : Nat} {w : World} (hn : n₀ ≤ w.heap.size) (hB : Bs < w.heap.size) (hC : Cs < w.heap.size) (W : World) (l : Nat) (o o' : Obj) (hl : w.heap.size ≤ l) (h : W.heap[l]? = some o) (h1 : o.isCells = false) (h2 : o.isWalk = false) : KB2 n₀ Bs Cs W (W.putObj l o') :=
  ⟨belowK_b hn W l o o' hl h h1 h2, (belowK_b (Nat.le_refl _) W l o o' hl h h1 h2).block Bs hB, (belowK_b (Nat.le_refl _) W l o o' hl h h1 h2).block Cs hC⟩
/-- where a world's slots are, below k -/
def whichL (zs : List Int) (v : Int) : Nat → List Int
  | 0 => []
  | k + 1 => if zs.getD k 0 = v then whichL zs v k ++ [(k : Int)] else whichL zs v k
theorem whichL_len (zs : List Int) (v : Int) : ∀ k, (whichL zs v k).length ≤ k
  | 0 => Nat.le_refl _
  | k + 1 => by
    have := whichL_len zs v k
    unfold whichL
    split
    · simp; omega
    · omega
set_option maxRecDepth 100000 in
set_option maxHeartbeats 2000000 in
theorem of1_in (F : Fence) (n : Nat) (h23 : F.fn 23) (hro : F.round = none) (hn : 1 ≤ n) (l Bs Cs n₀ b off cap : Nat) (zs : List Int) (v : Int) (hmax : zs.length ≤ 4096) (hb : b < n₀) (J Jx : List Int → World → Prop)
    (hY : ∀ pre x W, J pre W → pre.length < zs.length → YieldAt F (n - 1) Try.prog l #[.int .i64 x] W fun e W' =>
      (e = .returned (.bool true) ∧ J (pre ++ [x]) W' ∧ KB2 n₀ Bs Cs W W') ∨ (e = .returned (.bool false) ∧ Jx (pre ++ [x]) W'))
    (W : World) (hBs : W.cell? ⟨Bs, 0, none⟩ = some (.slice (some ⟨b, off, none⟩) zs.length cap)) (hCs : W.cell? ⟨Cs, 0, none⟩ = some (.int .i64 v)) (hc : ∀ j, j < zs.length → W.cell? ⟨b, off + j, none⟩ = some (.int .i64 (zs.getD j 0))) (h0 : J [] W) :
    CallsIn F n Try.prog 23 #[.func (.yield l) #[] #[], .pointer (some ⟨Bs, 0, none⟩), .pointer (some ⟨Cs, 0, none⟩)] W fun e W' => (∃ v, e = .returned v) ∧
      ((∃ ys, ys = whichL zs v zs.length ∧ J ys W') ∨ (∃ pre, (∃ k, k < zs.length ∧ pre = whichL zs v (k + 1)) ∧ Jx pre W')) := by
  refine callsIn_of_wp x23 rfl h23 ?_ hro
  simp only [show Try.f23.ntmps = 23 from rfl, List.size_toArray, List.length_cons, List.length_nil, Nat.reduceAdd, Nat.reduceSub, Array.replicate_succ, Array.replicate_zero, List.push_toArray, List.append_toArray, List.nil_append, List.cons_append]
  gi_wp2
  gi_loopw [8] (fun i wr => ∃ k : Nat, k ≤ zs.length ∧ i = .int .i64 k ∧ J (whichL zs v k) wr ∧ KB2 n₀ Bs Cs W wr)
    (fun i _ => zs.length - (intOf i).toNat)
  case atStart => exact ⟨0, Nat.zero_le _, rfl, h0, Below.refl _ _, rfl, rfl⟩
  case round =>
    obtain ⟨k, hk, rfl, hJs, hnx⟩ := hrel
    have hcw : wr.cell? ⟨Cs, 0, none⟩ = some (.int .i64 v) := (World.cell?_of_block hnx.2.2).trans hCs
    by_cases hlt : k < zs.length
    · have hcx : wr.cell? ⟨b, off + k, none⟩ = some (.int .i64 (zs.getD k 0)) := (hnx.1.cell (p := ⟨b, off + k, none⟩) hb).trans (hc k hlt)
      by_cases hbit : zs.getD k 0 = v
      · obtain ⟨fn, tmps, assign, body, hy, hR⟩ := hY _ (k : Int) wr hJs (by have := whichL_len zs v k; omega)
        have hon : whichL zs v (k + 1) = whichL zs v k ++ [(k : Int)] := by rw [whichL, if_pos hbit]
        rw [hbit] at hcx
        gi_wp2
        refine hR.mono ?_
        rintro e W3 (⟨rfl, hJ3, hk3⟩ | ⟨rfl, hJx3⟩)
        · gi_wp2
          go_roundw
          case rel => exact ⟨k + 1, by omega, by simp, by rw [hon]; exact hJ3, KB2_t hnx hk3⟩
          case measure => simp [intOf]; omega
        · gi_wp2
          refine bodyPost_ret (results_none rfl _ _ _) rfl ?_
          exact ⟨⟨_, rfl⟩, .inr ⟨_, ⟨k, hlt, rfl⟩, by rw [hon]; exact hJx3⟩⟩
      · have hon : whichL zs v (k + 1) = whichL zs v k := by rw [whichL, if_neg hbit]
        obtain ⟨x, hx⟩ : ∃ x, x = zs.getD k 0 := ⟨_, rfl⟩
        rw [← hx] at hcx hbit
        have hne : (x == v) = false := by simpa using hbit
        clear hx
        gi_wp2
        refine ⟨fun f h => (by cases h), ?_⟩
        gi_wp2
        go_roundw
        case rel => exact ⟨k + 1, by omega, by simp, by rw [hon]; exact hJs, hnx⟩
        case measure => simp [intOf]; omega
    · obtain rfl : k = zs.length := by omega
      gi_wp2
      go_end0
      exact ⟨⟨_, rfl⟩, .inl ⟨_, rfl, hJs⟩⟩
set_option maxHeartbeats 1000000 in
theorem of_in (F : Fence) (n : Nat) (h17 : F.fn 17) (hro : F.round = none) (a : Option Addr) (len cap : Nat) (v : Int) (w : World) :
    CallsIn F n Try.prog 17 #[.slice a len cap, .int .i64 v] w fun e w' => e = .returned (.func (.func 23) #[] #[.pointer (some ⟨w.heap.size, 0, none⟩), .pointer (some ⟨w.heap.size + 1, 0, none⟩)]) ∧ w' = (w.alloc (.cells #[.slice a len cap] 22)).alloc (.cells #[.int .i64 v] 3) := by
  refine callsIn_of_wp x17 rfl h17 ?_ hro
  simp only [show Try.f17.ntmps = 6 from rfl, List.size_toArray, List.length_cons, List.length_nil, Nat.reduceAdd, Nat.reduceSub, Array.replicate_succ, Array.replicate_zero, List.push_toArray, List.append_toArray, List.nil_append, List.cons_append]
  gi_wp2
  go_ret
  exact ⟨by simp, rfl⟩
theorem of_stops (F : Fence) (n : Nat) (h23 : F.fn 23) (hro : F.round = none) (hn : 1 ≤ n) (Bs Cs n₀ b off cap : Nat) (zs : List Int) (v : Int) (hmax : zs.length ≤ 4096) (w : World) (hBs : Bs < w.heap.size) (hCs : Cs < w.heap.size) (hb : b < n₀) (hbw : n₀ ≤ w.heap.size)
    (hc : w.cell? ⟨Bs, 0, none⟩ = some (.slice (some ⟨b, off, none⟩) zs.length cap)) (hv : w.cell? ⟨Cs, 0, none⟩ = some (.int .i64 v)) (hI : ∀ j, j < zs.length → w.cell? ⟨b, off + j, none⟩ = some (.int .i64 (zs.getD j 0))) :
    SeqStopsK F n Try.prog 23 #[.pointer (some ⟨Bs, 0, none⟩), .pointer (some ⟨Cs, 0, none⟩)] (fun x : Int => #[Value.int .i64 x]) (KB2 n₀ Bs Cs) (fun ys => ys = whichL zs v zs.length)
      (fun pre => ∃ k, k < zs.length ∧ pre = whichL zs v (k + 1)) zs.length w := fun l J Jx W hW _ _ hY h0 =>
  of1_in F n h23 hro hn l Bs Cs n₀ b off cap zs v hmax hb J Jx hY W ((hW.cell (p := ⟨Bs, 0, none⟩) hBs).trans hc) ((hW.cell (p := ⟨Cs, 0, none⟩) hCs).trans hv) (fun j hj => (hW.cell (p := ⟨b, off + j, none⟩) (Nat.lt_of_lt_of_le hb hbw)).trans (hI j hj)) h0
theorem x9 : Try.prog.funcs[9]? = some Try.f9 := by kernel_rfl
set_option maxRecDepth 100000 in
set_option maxHeartbeats 2000000 in
theorem Count_no {w : World} (n : Nat) (hn : 3 ≤ n) (a : Option Addr) (len cap : Nat) (v : Int)
    (hmay : ∀ w1, Below w.heap.size w w1 → CallsIn Fence.wide (n - 1) Try.prog 15 #[.slice a len cap, .int .i64 v, .slice none 0 0] w1 fun e w2 => e = .returned (.bool false) ∧ Below w1.heap.size w1 w2) :
    CallsIn Fence.wide n Try.prog 9 #[.slice a len cap, .int .i64 v] w fun e W' => e = .returned (.int .i64 0) ∧ Below w.heap.size w W' := by
  have h1 : 1 ≤ n := by omega
  have h15 : Fence.wide.fn 15 := trivial
  have hro : Fence.wide.round = none := rfl
  refine callsIn_of_wp_marks x9 rfl trivial ?_ hro
  simp only [show Try.f9.ntmps = 16 from rfl, List.size_toArray, List.length_cons, List.length_nil, Nat.reduceAdd, Nat.reduceSub, Array.replicate_succ, Array.replicate_zero, List.push_toArray, List.append_toArray, List.nil_append, List.cons_append]
  have hBa : Below w.heap.size w (w.alloc (.cells #[.int .i64 0] 3)) := (Below.refl _ w).alloc (Nat.le_refl _) _
  have bS : Boxed (w.alloc (.cells #[.int .i64 0] 3)) w.heap.size 3 (.int .i64 0) := Boxed.new w 3 (.int .i64 0)
  gi_wp2_with (gi_at_call 15; refine (hmay _ hBa).mono ?_; rintro e w2 ⟨rfl, hB2⟩; have bS2 : Boxed w2 w.heap.size 3 (.int .i64 0) := (hB2.block w.heap.size (by simp)).trans bS; have hc := bS2.cell; have hf := bS2.frozen)
  have hBw2 : Below w.heap.size w w2 := hBa.trans (hB2.mono (by simp))
  have hc4 : (w2.setCell ⟨w.heap.size, 0, none⟩ (.int .i64 0)).cell? ⟨w.heap.size, 0, none⟩ = some (.int .i64 0) := World.cell?_setCell_same' _ _ _ (by rw [hc]; rfl)
  refine ⟨.int .i64 0, ?_, rfl, hBw2.setCell (p := ⟨w.heap.size, 0, none⟩) (Nat.le_refl _) _⟩
  simp [results, Try.f9, go_sem, hc4]
set_option maxRecDepth 100000 in
set_option maxHeartbeats 2000000 in
theorem Count_yes {w : World} (n : Nat) (hn : 3 ≤ n) (b off cap : Nat) (zs : List Int) (v : Int) (hmax : zs.length ≤ 4096) (hbw : b < w.heap.size)
    (hI : ∀ j, j < zs.length → w.cell? ⟨b, off + j, none⟩ = some (.int .i64 (zs.getD j 0)))
    (hmay : ∀ w1, Below w.heap.size w w1 → CallsIn Fence.wide (n - 1) Try.prog 15 #[.slice (some ⟨b, off, none⟩) zs.length cap, .int .i64 v, .slice none 0 0] w1 fun e w2 => e = .returned (.bool true) ∧ Below w1.heap.size w1 w2) :
    CallsIn Fence.wide n Try.prog 9 #[.slice (some ⟨b, off, none⟩) zs.length cap, .int .i64 v] w fun e W' => e = .returned (.int .i64 ((whichL zs v zs.length).length : Int)) ∧ Below w.heap.size w W' := by
  have h1 : 1 ≤ n := by omega
  have h15 : Fence.wide.fn 15 := trivial
  have h17 : Fence.wide.fn 17 := trivial
  have h23 : Fence.wide.fn 23 := trivial
  have hro : Fence.wide.round = none := rfl
  refine callsIn_of_wp_marks x9 rfl trivial ?_ hro
  simp only [show Try.f9.ntmps = 16 from rfl, List.size_toArray, List.length_cons, List.length_nil, Nat.reduceAdd, Nat.reduceSub, Array.replicate_succ, Array.replicate_zero, List.push_toArray, List.append_toArray, List.nil_append, List.cons_append]
  have hBa : Below w.heap.size w (w.alloc (.cells #[.int .i64 0] 3)) := (Below.refl _ w).alloc (Nat.le_refl _) _
  gi_wp2_with (first
    | (gi_at_call 15; refine (hmay _ hBa).mono ?_; rintro e w2 ⟨rfl, hB2⟩)
    | (gi_at_call 17; refine (of_in Fence.wide (n - 1) trivial rfl _ _ _ _ _).mono ?_; rintro e w3 ⟨rfl, rfl⟩))
  have bS : Boxed (w.alloc (.cells #[.int .i64 0] 3)) w.heap.size 3 (.int .i64 0) := Boxed.new w 3 (.int .i64 0)
  have bS2 : Boxed w2 w.heap.size 3 (.int .i64 0) := (hB2.block w.heap.size (by simp)).trans bS
  have bN := Boxed.new w2 22 (.slice (some ⟨b, off, none⟩) zs.length cap)
  have bV := Boxed.new (w2.alloc (.cells #[.slice (some ⟨b, off, none⟩) zs.length cap] 22)) 3 (.int .i64 v)
  rw [World.size_alloc] at bV
  have hsz : w.heap.size + 1 ≤ w2.heap.size := by have := hB2.size; simpa using this
  have hBw2 : Below w.heap.size w w2 := hBa.trans (hB2.mono (by simp))
  have hB0 : Below w.heap.size w ((w2.alloc (.cells #[.slice (some ⟨b, off, none⟩) zs.length cap] 22)).alloc (.cells #[.int .i64 v] 3)) := (hBw2.alloc (by omega) _).alloc (by simp; omega) _
  refine wpIn_rangeFunc_ownG hro h1 (gf := 23) (lb := #[.pointer (some ⟨w2.heap.size, 0, none⟩), .pointer (some ⟨w2.heap.size + 1, 0, none⟩)]) rfl h23 (enters_of x23 (by kernel_rfl) rfl)
    (of_stops Fence.wide (n - 1) h23 hro (by omega) w2.heap.size (w2.heap.size + 1) w.heap.size b off cap zs v hmax _ (by simp; omega) (by simp) hbw (by simp; omega) (bN.alloc _).cell bV.cell (fun j hj => (hB0.cell (p := ⟨b, off + j, none⟩) hbw).trans (hI j hj))) KB2_t (KB2_b (by simp; omega) (by simp; omega) (by simp)) (Below.refl _ _) (fun _ => rfl)
    (fun pre W => (W.cell? ⟨w.heap.size, 0, none⟩ = some (.int .i64 (pre.length : Int)) ∧ W.frozen? ⟨w.heap.size, 0, none⟩ = false) ∧ Below w.heap.size w W)
    (fun _ _ _ => False)
    (OwnFrom.and (Own.from (fun s A B row hs hg hr => ⟨cell_kept hs.1 hg hr, (frozen_kept hs.1 hg hr).trans hs.2⟩) _) (ownFrom_below (Nat.le_refl _) (by simp; omega)))
    (fun _ _ _ _ _ hs _ _ => hs)
    ⟨⟨((bS2.alloc _).alloc _).cell, ((bS2.alloc _).alloc _).frozen⟩, hB0⟩
    (fun x => { tmps := #[.slice (some ⟨b, off, none⟩) zs.length cap, .int .i64 v, undef, undef, .pointer (some ⟨w.heap.size, 0, none⟩), .slice (some ⟨b, off, none⟩) zs.length cap, .int .i64 v, .bool true, .bool false, .slice (some ⟨b, off, none⟩) zs.length cap, .int .i64 v, .func (.func 23) #[] #[.pointer (some ⟨w2.heap.size, 0, none⟩), .pointer (some ⟨w2.heap.size + 1, 0, none⟩)], .int .i64 x, undef, undef, undef], defers := [] }) ?assign ?body ?done ?stop
  case assign =>
    intro l x W K hK
    gi_wp2
    first
    | exact hK
    | simpa using hK
  case body =>
    rintro l pre x W ⟨⟨hc, hf⟩, hB⟩ hpl
    gi_wp2
    exact ⟨(KeepsOthers.setCell _ _ _).from _, ⟨(Below.refl w.heap.size W).setCell (p := ⟨w.heap.size, 0, none⟩) (Nat.le_refl _) _, Below.heap_setCell W ⟨w.heap.size, 0, none⟩ _ w2.heap.size (by simp; omega), Below.heap_setCell W ⟨w.heap.size, 0, none⟩ _ (w2.heap.size + 1) (by simp; omega)⟩,
      ⟨by rw [show ((pre ++ [x]).length : Int) = (pre.length : Int) + 1 by simp]; exact World.cell?_setCell_same' _ _ _ (by rw [hc]; rfl), by rw [World.frozen?_setCell]; exact hf⟩, hB.setCell (p := ⟨w.heap.size, 0, none⟩) (Nat.le_refl _) _⟩
  case done =>
    rintro D ys W hD rfl ⟨⟨hc, hf⟩, hB⟩ hK
    gi_wp2
    have hK' := (KeepsOthers.setCell W ⟨w.heap.size, 0, none⟩ (.int .i64 ((whichL zs v zs.length).length : Int))).same D _ hK rfl
    refine ⟨by simp, .inl ⟨_, _, rfl, run_takeDeferred hK', ?_⟩⟩
    have hc4 : (W.setCell ⟨w.heap.size, 0, none⟩ (.int .i64 ((whichL zs v zs.length).length : Int))).cell? ⟨w.heap.size, 0, none⟩ = some (.int .i64 ((whichL zs v zs.length).length : Int)) := World.cell?_setCell_same' _ _ _ (by rw [hc]; rfl)
    have hc5 := cell_kept hc4 (grownBy_putObj' _ D (.deferred none)) (fun r e => by cases e; exact ⟨_, hK', rfl⟩)
    refine ⟨.int .i64 ((whichL zs v zs.length).length : Int), ?_, rfl, (hB.setCell (p := ⟨w.heap.size, 0, none⟩) (Nat.le_refl _) _).trans (belowK_b (w := w) (Nat.le_refl _) _ D _ _ (by simp at hD; omega) hK' rfl rfl)⟩
    simp [results, Try.f9, go_sem, hc5]
  case stop =>
    rintro D c pre W _ _ h _
    exact h.elim
theorem rdI_lt {H : List B} {b o : Nat} {l : List Int} (hr : RdI H (some (b, o)) l) : b < H.length := by
  have hr' : rd H b o (l.length * 1) = some (l.flatMap encI) := hr
  unfold rd at hr'
  split at hr'
  · rename_i hh; exact (List.getElem?_eq_some_iff.1 hh).1
  · cases hr'
theorem rdI_cell {G : Nat} {j : J} {w : World} {vs : List V} {H : List B} (hi : Inv G ⟨w, H, j⟩ j [] (vs.map SV.v) [] H false false w) {b o : Nat} {l : List Int} (hr : RdI H (some (b, o)) l) :
    b < H.length ∧ ∀ i, i < l.length → w.cell? ⟨j.b b, j.o b + o + i, none⟩ = some (.int .i64 (l.getD i 0)) := by
  have hr' : rd H b o (l.length * 1) = some (l.flatMap encI) := hr
  have hbl : b < H.length := by
    unfold rd at hr'
    split at hr'
    · rename_i hh; exact (List.getElem?_eq_some_iff.1 hh).1
    · cases hr'
  refine ⟨hbl, fun i hil => ?_⟩
  have hc := rd_cell hi hr'
  have hm : l.flatMap encI = l.map fun x => V.int .i64 x := by
    clear hr hr' hc hil
    induction l with
    | nil => rfl
    | cons a l ih => rw [List.flatMap_cons, List.map_cons, ← ih]; rfl
  have h1 := hc.2.2 i (.int .i64 (l.getD i 0)) (by rw [hm, List.getElem?_map, List.getElem?_eq_getElem hil, List.getD_eq_getElem?_getD, List.getElem?_eq_getElem hil]; rfl)
  rw [at_add] at h1
  simpa [J.at, conc, Nat.add_assoc] using h1
def cntV (l : List Int) (w : Int) : Int := if mayP l w [] then ((whichL l w l.length).length : Int) else 0
def s9 : Sp := fun vs H Q => match vs with
  | [.sl p n c, .int .i64 w] => ∃ l : List Int, n = l.length ∧ RdI H p l ∧ Q (.int .i64 (cntV l w)) H false false
  | _ => False
theorem m9 : Mono s9 := by
  intro vs H Q Q' hQ h
  unfold s9 at h ⊢
  split at h
  · obtain ⟨l, h1, h2, h4⟩ := h
    exact ⟨l, h1, h2, hQ _ _ _ _ h4⟩
  · exact h.elim
theorem k9 : Snd Try.prog 0 9 s9 := by
  refine snd_of_below fun vs H Q h => ?_
  unfold s9 at h
  split at h
  · rename_i p m cp v
    obtain ⟨l, rfl, hr, hq⟩ := h
    have hlt : ∀ b o, p = some (b, o) → b < H.length := fun b o hp => by subst hp; exact (rdI_lt hr)
    refine ⟨⟨_, x9, by kernel_rfl, rfl⟩, _, rfl, hq, fun j w hi => ?_⟩
    have hvl : V.ltL H.length [.sl p l.length cp, .int .i64 v, .sl none 0 0] = true := by
      rw [ltL_iff]
      intro x hx
      simp only [List.mem_cons, List.not_mem_nil, or_false] at hx
      rcases hx with rfl | rfl | rfl
      · rcases p with _ | ⟨b, o⟩
        · rfl
        · simpa [V.lt] using hlt b o rfl
      · rfl
      · rfl
    have hmay : ∀ w1, Below w.heap.size w w1 → CallsIn Fence.wide 2 Try.prog 15 (concL j [.sl p l.length cp, .int .i64 v, .sl none 0 0]).toArray w1 fun e w2 => e = .returned (.bool (decide (mayP l v []))) ∧ Below w1.heap.size w1 w2 := fun w1 hb =>
      callsIn_wide.2 (law_callsG k15 (vs := [.sl p l.length cp, .int .i64 v, .sl none 0 0]) (hi.restart hb hvl) (v0 := .bool (decide (mayP l v []))) rfl ⟨l, [], rfl, hr, rfl, by decide, rfl, rfl, rfl, rfl, rfl⟩)
    by_cases hm : mayP l v []
    · rw [decide_eq_true hm] at hmay
      obtain ⟨b, o, rfl⟩ := hr.some (i := 0) hm.1.1
      obtain ⟨hbl, hc⟩ := rdI_cell hi hr
      have := callsIn_wide.1 (Count_yes 3 (by omega) (j.b b) (j.o b + o) cp l v (by have := hm.1.2.1; omega) (hi.lts b hbl) hc hmay)
      unfold cntV
      rw [if_pos hm]
      exact this
    · rw [decide_eq_false hm] at hmay
      unfold cntV
      rw [if_neg hm]
      rcases p with _ | ⟨b, o⟩
      · exact callsIn_wide.1 (Count_no 3 (by omega) none l.length cp v hmay)
      · exact callsIn_wide.1 (Count_no 3 (by omega) (some (j.at b o)) l.length cp v hmay)
  · exact h.elim
end Go.Ev
