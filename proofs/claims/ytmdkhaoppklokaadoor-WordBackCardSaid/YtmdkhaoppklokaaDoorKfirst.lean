/- dev: word.bits, word.First by the kit's fourth law -/
import Derived.Test.YtmdkhaoppklokaaDoorKbits
import Derived.RangeFuncWrites
set_option linter.all false
namespace Go.Ev
open Go Go.Proofs Go.RowKit Go.Shelf
attribute [local go_sem] Oper.semAt_some
set_option maxHeartbeats 1000000 in
theorem bits_in (F : Fence) (n : Nat) (h43 : F.fn 43) (hro : F.round = none) (v : Int) (w : World) :
    CallsIn F n Tryd.prog 43 #[.int .u32 v] w fun e w' => e = .returned (.func (.func 55) #[] #[.pointer (some ⟨w.heap.size, 0, none⟩)]) ∧ w' = w.alloc (.cells #[.int .u32 v] 22) := by
  refine callsIn_of_wp x43 rfl h43 ?_ hro
  simp only [show Tryd.f43.ntmps = 4 from rfl, List.size_toArray, List.length_cons, List.length_nil, Nat.reduceAdd, Nat.reduceSub, Array.replicate_succ, Array.replicate_zero, List.push_toArray, List.append_toArray, List.nil_append, List.cons_append]
  gi_wp2
  go_ret
  exact ⟨rfl, rfl⟩
theorem bits_stops (F : Fence) (n : Nat) (h55 : F.fn 55) (hro : F.round = none) (hn : 1 ≤ n) (Bs n₀ : Nat) (v : Int) (hv : 0 ≤ v ∧ v < 4294967296) (w : World) (hBs : Bs < w.heap.size) (hb : Bs < n₀) (hc : w.cell? ⟨Bs, 0, none⟩ = some (.int .u32 v)) :
    SeqStopsK F n Tryd.prog 55 #[.pointer (some ⟨Bs, 0, none⟩)] (fun x : Int => #[Value.int .i64 x]) (Below n₀) (fun ys => ys = onesL v 32) (fun pre => ∃ k, k < 32 ∧ v / 2 ^ k % 2 = 1 ∧ pre = onesL v (k + 1)) 32 w := fun l J Jx W hW _ _ hY h0 =>
  bits1_in F n h55 hro hn l Bs n₀ v hv hb J Jx hY W ((hW.cell (p := ⟨Bs, 0, none⟩) hBs).trans hc) h0
theorem x26 : Tryd.prog.funcs[26]? = some Tryd.f26 := by kernel_rfl
def firstI (v : Int) : Int := (onesL v 32).head?.getD 0
def firstB (v : Int) : Bool := !(onesL v 32).isEmpty
theorem onesL_pre (v : Int) (k m : Nat) : onesL v k <+: onesL v (k + m) := by
  induction m with
  | zero => exact List.prefix_refl _
  | succ m ih =>
    refine ih.trans ?_
    show onesL v (k + m) <+: onesL v (k + m + 1)
    rw [onesL]
    split
    · exact List.prefix_append _ _
    · exact List.prefix_refl _
theorem first_one {v x : Int} {k : Nat} (hk : k < 32) (h : [x] = onesL v (k + 1)) : firstI v = x ∧ firstB v = true := by
  have h1 := onesL_pre v (k + 1) (32 - (k + 1))
  rw [← h, show k + 1 + (32 - (k + 1)) = 32 by omega] at h1
  obtain ⟨t, ht⟩ := h1
  unfold firstI firstB
  rw [← ht]
  exact ⟨rfl, rfl⟩
theorem two0 {W : World} {n : Nat} {a b : Value} (h1 : W.cell? ⟨n, 0, none⟩ = some a) (h2 : W.cell? ⟨n + 1, 0, none⟩ = some b) (x y : Value) : ((W.setCell ⟨n, 0, none⟩ x).setCell ⟨n + 1, 0, none⟩ y).cell? ⟨n, 0, none⟩ = some x :=
  (World.cell?_of_block (Below.heap_setCell _ ⟨n + 1, 0, none⟩ _ n (by simp))).trans (World.cell?_setCell_same' _ _ _ (by rw [h1]; rfl))
theorem two1 {W : World} {n : Nat} {a b : Value} (h1 : W.cell? ⟨n, 0, none⟩ = some a) (h2 : W.cell? ⟨n + 1, 0, none⟩ = some b) (x y : Value) : ((W.setCell ⟨n, 0, none⟩ x).setCell ⟨n + 1, 0, none⟩ y).cell? ⟨n + 1, 0, none⟩ = some y := by
  have h : (W.setCell ⟨n, 0, none⟩ x).cell? ⟨n + 1, 0, none⟩ = some b := (World.cell?_of_block (Below.heap_setCell _ ⟨n, 0, none⟩ _ (n + 1) (by simp))).trans h2
  exact World.cell?_setCell_same' _ _ _ (by rw [h]; rfl)
set_option maxRecDepth 100000 in
set_option maxHeartbeats 2000000 in
theorem First_in (F : Fence) (n : Nat) (h26 : F.fn 26) (h43 : F.fn 43) (h55 : F.fn 55) (hro : F.round = none) (hn : 3 ≤ n) (v : Int) (hv : 0 ≤ v ∧ v < 4294967296) (w : World) :
    CallsIn F n Tryd.prog 26 #[.int .u32 v] w fun e W' => e = .returned (.tuple #[.int .i64 (firstI v), .bool (firstB v)]) ∧ Below w.heap.size w W' := by
  have h1 : 1 ≤ n := by omega
  refine callsIn_of_wp_marks x26 rfl h26 ?_ hro
  simp only [show Tryd.f26.ntmps = 9 from rfl, List.size_toArray, List.length_cons, List.length_nil, Nat.reduceAdd, Nat.reduceSub, Array.replicate_succ, Array.replicate_zero, List.push_toArray, List.append_toArray, List.nil_append, List.cons_append]
  gi_wp2_with (gi_at_call 43; refine (bits_in F (n - 1) h43 hro _ _).mono ?_; rintro e w' ⟨rfl, rfl⟩)
  have b1 := Boxed.new w 3 (.int .i64 0)
  have b2 := Boxed.new (w.alloc (.cells #[.int .i64 0] 3)) 4 (.bool false)
  have b3 := Boxed.new ((w.alloc (.cells #[.int .i64 0] 3)).alloc (.cells #[.bool false] 4)) 22 (.int .u32 v)
  rw [World.size_alloc] at b2
  rw [World.size_alloc, World.size_alloc] at b3
  have hB0 : Below w.heap.size w (((w.alloc (.cells #[.int .i64 0] 3)).alloc (.cells #[.bool false] 4)).alloc (.cells #[.int .u32 v] 22)) := (((Below.refl _ w).alloc (Nat.le_refl _) _).alloc (by simp) _).alloc (by simp; omega) _
  refine wpIn_rangeFunc_ownG hro h1 (gf := 55) (lb := #[.pointer (some ⟨w.heap.size + 1 + 1, 0, none⟩)]) rfl h55 (enters_of x55 (by kernel_rfl) rfl)
    (bits_stops F (n - 1) h55 hro (by omega) (w.heap.size + 1 + 1) (w.heap.size + 1 + 1 + 1) v hv _ (by simp) (by omega) b3.cell) belowK_t (belowK_b (by simp)) (Below.refl _ _) (fun _ => rfl)
    (fun pre W => (pre = [] ∧ (W.cell? ⟨w.heap.size, 0, none⟩ = some (.int .i64 0) ∧ W.frozen? ⟨w.heap.size, 0, none⟩ = false) ∧ W.cell? ⟨w.heap.size + 1, 0, none⟩ = some (.bool false) ∧ W.frozen? ⟨w.heap.size + 1, 0, none⟩ = false) ∧ Below w.heap.size w W)
    (fun c pre W => (c = .ret ∧ ∃ x : Int, pre = [x] ∧ W.cell? ⟨w.heap.size, 0, none⟩ = some (.int .i64 x) ∧ W.cell? ⟨w.heap.size + 1, 0, none⟩ = some (.bool true)) ∧ Below w.heap.size w W)
    (OwnFrom.and (Own.from (fun s A B row hs hg hr => ⟨hs.1, ⟨cell_kept hs.2.1.1 hg hr, (frozen_kept hs.2.1.1 hg hr).trans hs.2.1.2⟩, cell_kept hs.2.2.1 hg hr, (frozen_kept hs.2.2.1 hg hr).trans hs.2.2.2⟩) _) (ownFrom_below (Nat.le_refl _) (by simp; omega)))
    (fun c => OwnFrom.and (Own.from (fun s A B row hs hg hr => by obtain ⟨hc, x, e1, e2, e3⟩ := hs; exact ⟨hc, x, e1, cell_kept e2 hg hr, cell_kept e3 hg hr⟩) _) (ownFrom_below (Nat.le_refl _) (by simp; omega)))
    ⟨⟨rfl, ⟨((b1.alloc _).alloc _).cell, ((b1.alloc _).alloc _).frozen⟩, (b2.alloc _).cell, (b2.alloc _).frozen⟩, hB0⟩
    (fun x => { tmps := #[.int .u32 v, undef, .pointer (some ⟨w.heap.size, 0, none⟩), .pointer (some ⟨w.heap.size + 1, 0, none⟩), .int .i64 x, .int .u32 v, .func (.func 55) #[] #[.pointer (some ⟨w.heap.size + 1 + 1, 0, none⟩)], .int .i64 x, undef], defers := [] }) ?assign ?body ?done ?stop
  case assign =>
    intro l x W K hK
    gi_wp2
    exact hK
  case body =>
    rintro l pre x W ⟨⟨rfl, ⟨hc1, hf1⟩, hc2, hf2⟩, hB⟩ _
    gi_wp2
    exact ⟨((KeepsOthers.setCell _ _ _).trans (KeepsOthers.setCell _ _ _)).from _, ⟨rfl, x, rfl, two0 hc1 hc2 _ _, two1 hc1 hc2 _ _⟩, (hB.setCell (p := ⟨w.heap.size, 0, none⟩) (Nat.le_refl _) _).setCell (p := ⟨w.heap.size + 1, 0, none⟩) (Nat.le_succ _) _⟩
  case done =>
    rintro D ys W hD rfl ⟨⟨hnil, ⟨hc1, hf1⟩, hc2, hf2⟩, hB⟩ hK
    gi_wp2
    have hK' := ((KeepsOthers.setCell W ⟨w.heap.size, 0, none⟩ (.int .i64 0)).trans (KeepsOthers.setCell _ ⟨w.heap.size + 1, 0, none⟩ (.bool false))).same D _ hK rfl
    refine ⟨by simp, .inl ⟨_, _, rfl, run_takeDeferred hK', ?_⟩⟩
    have hc5 := cell_kept (two0 hc1 hc2 (.int .i64 0) (.bool false)) (grownBy_putObj' _ D (.deferred none)) (fun r e => by cases e; exact ⟨_, hK', rfl⟩)
    have hc6 := cell_kept (two1 hc1 hc2 (.int .i64 0) (.bool false)) (grownBy_putObj' _ D (.deferred none)) (fun r e => by cases e; exact ⟨_, hK', rfl⟩)
    refine ⟨.tuple #[.int .i64 (firstI v), .bool (firstB v)], ?_, rfl, ((hB.setCell (p := ⟨w.heap.size, 0, none⟩) (Nat.le_refl _) _).setCell (p := ⟨w.heap.size + 1, 0, none⟩) (Nat.le_succ _) _).trans (belowK_b (w := w) (Nat.le_refl _) _ D _ _ (by simp at hD; omega) hK' rfl rfl)⟩
    simp [results, Tryd.f26, go_sem, hc5, hc6, firstI, firstB, hnil]
  case stop =>
    rintro D c pre W hD ⟨k, hk, hbit, rfl⟩ ⟨⟨rfl, x, e1, hc1, hc2⟩, hB⟩ hK
    obtain ⟨g1, g2⟩ := first_one hk e1.symm
    gi_wp2
    refine ⟨by simp, .inl ⟨_, _, rfl, run_takeDeferred hK, ?_⟩⟩
    have hc5 := cell_kept hc1 (grownBy_putObj' _ D (.deferred none)) (fun r e => by cases e; exact ⟨_, hK, rfl⟩)
    have hc6 := cell_kept hc2 (grownBy_putObj' _ D (.deferred none)) (fun r e => by cases e; exact ⟨_, hK, rfl⟩)
    refine ⟨.tuple #[.int .i64 (firstI v), .bool (firstB v)], ?_, rfl, hB.trans (belowK_b (w := w) (Nat.le_refl _) W D _ _ (by simp at hD; omega) hK rfl rfl)⟩
    simp [results, Tryd.f26, go_sem, hc5, hc6, g1, g2]
def s26 : Sp := fun vs H Q => match vs with
  | [.int .u32 v] => (0 ≤ v ∧ v < 4294967296) ∧ Q (.tup [.int .i64 (firstI v), .bool (firstB v)]) H false false
  | _ => False
theorem m26 : Mono s26 := by
  intro vs H Q Q' hq h
  unfold s26 at h ⊢
  split at h
  · exact ⟨h.1, hq _ _ _ _ h.2⟩
  · exact h.elim
theorem k26 : Snd Tryd.prog 2 26 s26 := by
  refine snd_of_below fun vs H Q h => ?_
  unfold s26 at h
  split at h
  · rename_i v
    refine ⟨⟨_, x26, by kernel_rfl, rfl⟩, _, rfl, h.2, fun j w _ => ?_⟩
    exact callsIn_wide.1 (First_in Fence.wide 3 trivial trivial trivial rfl (by omega) v h.1 w)
  · exact h.elim
end Go.Ev
