/- 'LaneMasks': for every input the law returns true, and each argument reads behind the call as it read before; the card: the tables tied to the program's text. -/
import Derived.Test.YtkheaekokmomhaaDoorRows
import Derived.Test.YtkheaekokmomhaaDoorCards
import Derived.Test.YtkheaekokmomhaaDoorTie
import Derived.Test.YtkheaekokmomhaaDoorKlawm
import Derived.Test.YtkheaekokmomhaaDoorEvY
import Derived.WalkKit
import Derived.ProofKit
import Derived.OpenShut
import Derived.ShutString
import Derived.ChangeOld
import Derived.Below
import Derived.SizedLaws
import Derived.Lib.SmallJoins
import Derived.Carry
import Derived.LaidMore
import Derived.LaidLaws
import Derived.LaidHandle
import Derived.SevenTiedAt
import Derived.Stop.Joined
set_option linter.all false
namespace Go.Proofs.YtkheaekokmomhaaDoor.laneMasks
open Go.ChangeShapes Go.WideShapes Go.ChangeAt Go.RowKit
open Go.ChangeMaps (open_string shut_string)
open Go.Joins
theorem own : ownKnob Tryd.prog.godebug = none := by kernel_rfl
theorem laidOut : laidOutB Tryd.prog = true := by kernel_rfl
theorem door_met (os : Os) (args : Array Value) : laidMetH Tryd.prog [("septum/word.sizes", Rows.laid_septum_word_sizes), ("septum/lane.wide", Rows.laid_septum_lane_wide)] ((World.doorLaid Tryd.prog 19 os).forCall (fun _ _ => 0) ⟨#[], args, []⟩).memory :=
  laidMetH_of_parts3 (fuel := 8) (laidMet_of_run' 8 (by kernel_rfl) (by kernel_rfl)) (by kernel_rfl) (by kernel_rfl)
theorem tab0 {W : World} (h : laidMetH Tryd.prog [("septum/word.sizes", Rows.laid_septum_word_sizes), ("septum/lane.wide", Rows.laid_septum_lane_wide)] W) : ∀ (x : Nat) (z : Int), ([255, 65280, 16711680, 4278190080] : List Int)[x]? = some z → W.cell? ⟨0, x, none⟩ = some (.int .u32 z) := by
  have h' : laidMet Tryd.prog [("septum/word.sizes", Rows.laid_septum_word_sizes), ("septum/lane.wide", Rows.laid_septum_lane_wide)] W := h
  exact Ev.table_cells (name := "septum/lane.wide") (k := .u32) (zs := [255, 65280, 16711680, 4278190080]) (Go.Lib.laidMet.reads h' (by simp [Rows.laid_septum_word_sizes, Rows.laid_septum_lane_wide])) (by kernel_rfl) (by kernel_rfl) Tryd.underlying39 Tryd.underlying22 (by kernel_rfl) rfl
theorem tab1 {W : World} (h : laidMetH Tryd.prog [("septum/word.sizes", Rows.laid_septum_word_sizes), ("septum/lane.wide", Rows.laid_septum_lane_wide)] W) : ∀ (x : Nat) (z : Int), ([1, 2, 4] : List Int)[x]? = some z → W.cell? ⟨1, x, none⟩ = some (.int .i64 z) := by
  have h' : laidMet Tryd.prog [("septum/word.sizes", Rows.laid_septum_word_sizes), ("septum/lane.wide", Rows.laid_septum_lane_wide)] W := h
  exact Ev.table_cells (name := "septum/word.sizes") (k := .i64) (zs := [1, 2, 4]) (Go.Lib.laidMet.reads h' (by simp [Rows.laid_septum_word_sizes, Rows.laid_septum_lane_wide])) (by kernel_rfl) (by kernel_rfl) Tryd.underlying57 Tryd.underlying3 (by kernel_rfl) rfl
set_option maxRecDepth 100000 in
theorem lifted (os : Os) (started : os.Started) (H : Type) (enc : TypeId × Value → H) :
    ReturnsInHanded {} Tryd.checked os 7 .any (fun w args => (Rows.laneMasksSpec.pre enc Tryd.prog Tryd.f7 [] false w args ∧ laidMetH Tryd.prog [("septum/word.sizes", Rows.laid_septum_word_sizes), ("septum/lane.wide", Rows.laid_septum_lane_wide)] w) ∧ sizedMet enc Tryd.prog Tryd.f7 (OpenSpec.ofChange Rows.laneMasksSpec) false w args)
      (Rows.laneMasksSpec.post enc Tryd.prog Tryd.f7 false true false false) := by
  refine returnsInHanded_of_change_and (C := Tryd.checked) (X := fun w _ => laidMetH Tryd.prog [("septum/word.sizes", Rows.laid_septum_word_sizes), ("septum/lane.wide", Rows.laid_septum_lane_wide)] w) (fun _ _ _ hh h => h.of_heap hh) own started (by kernel_rfl) Tryd.func7
    (ChangeSpec.witness_shaped (enc := enc) (C := Tryd.checked) (os := os) (X := fun w _ => laidMetH Tryd.prog [("septum/word.sizes", Rows.laid_septum_word_sizes), ("septum/lane.wide", Rows.laid_septum_lane_wide)] w) false (World.doorLaid Tryd.prog 19 os) #[.int .u32 0, .int .u32 0, .int .i64 0] 8 rfl (World.shaped_of_RefB (by kernel_rfl) (by kernel_rfl)) (by kernel_rfl) (by kernel_rfl) (by kernel_rfl) (door_met os _)) ?_
  intro W base args ds gs before hval0 hW _ _ hL _
  have hval : ∀ (j : Nat) t v, Tryd.f7.params[j]? = some t → args[j]? = some v → Value.okWide Tryd.prog W .any base t v := hval0
  have hW' := hW
  obtain ⟨p, q, hA0, hV, rfl, hfz, hnd⟩ := hW
  have hA : DataW.TrodAll enc Tryd.prog W 0 (fun _ => true) true Tryd.f7.params.toList args.toList ds p := hA0
  rw [Tryd.params7] at hA hval
  obtain ⟨v0, vs0, d0, ds0, p0, q0, hargs, rfl, rfl, h0, r0⟩ := trodAll_cons hA
  obtain ⟨v1, vs1, d1, ds1, p1, q1, rfl, rfl, rfl, h1, r1⟩ := trodAll_cons r0
  obtain ⟨v2, vs2, d2, ds2, p2, q2, rfl, rfl, rfl, h2, r2⟩ := trodAll_cons r1
  obtain ⟨rfl, rfl, rfl⟩ := trodAll_nil r2
  obtain rfl : args = #[v0, v1, v2] := by cases args; simp_all
  obtain ⟨rfl, rfl⟩ := trodVars_none hV
  have k0 := h0
  have lt0 : ∀ x ∈ p0, x.block < W.heap.size := by obtain ⟨m, hm⟩ := k0; exact DataW.trod_lt m _ _ _ hm
  obtain ⟨z0, rfl, -, -, w0⟩ := open_int (k := .u32) Tryd.underlying22 (hval 0 22 v0 rfl rfl) h0
  have u0 := Ev.wf_u32 w0
  have k1 := h1
  have lt1 : ∀ x ∈ p1, x.block < W.heap.size := by obtain ⟨m, hm⟩ := k1; exact DataW.trod_lt m _ _ _ hm
  obtain ⟨z1, rfl, -, -, w1⟩ := open_int (k := .u32) Tryd.underlying22 (hval 1 22 v1 rfl rfl) h1
  have u1 := Ev.wf_u32 w1
  have k2 := h2
  have lt2 : ∀ x ∈ p2, x.block < W.heap.size := by obtain ⟨m, hm⟩ := k2; exact DataW.trod_lt m _ _ _ hm
  obtain ⟨z2, rfl, -, -, w2⟩ := open_int (k := .i64) Tryd.underlying3 (hval 2 3 v2 rfl rfl) h2
  have u2 := Ev.wf_i64 w2
  have hbnd : ∀ i, i < 2 → i < W.heap.size := by
    intro i hi
    have b0 : 0 < W.heap.size := by
      have := tab0 hL 0 _ rfl
      unfold World.cell? at this
      split at this
      · rename_i hh; exact (Array.getElem?_eq_some_iff.1 hh).1
      · cases this
    have b1 : 1 < W.heap.size := by
      have := tab1 hL 0 _ rfl
      unfold World.cell? at this
      split at this
      · rename_i hh; exact (Array.getElem?_eq_some_iff.1 hh).1
      · cases this
    omega
  have hinv : Ev.Inv 2 ⟨W, [Ev.GW, Ev.GS], ⟨fun i => i, fun _ => 0⟩⟩ ⟨fun i => i, fun _ => 0⟩ [] ([.int .u32 z0, .int .u32 z1, .int .i64 z2].map Ev.SV.v) [] [Ev.GW, Ev.GS] false false W := by
    refine Ev.inv_ros ?_ hbnd ?_ rfl (by decide) (fun i _ => ⟨rfl, rfl⟩)
    · intro b hb
      simp only [List.mem_cons, List.not_mem_nil, or_false] at hb
      rcases hb with rfl | rfl
      all_goals exact ⟨_, rfl, rfl⟩
    · intro i cs hi x v hx
      match i, hi with
      | 0, hi =>
        simp only [List.getElem?_cons_zero, List.getElem?_cons_succ, Option.some.injEq] at hi
        have hi' : cs = ([255, 65280, 16711680, 4278190080] : List Int).map (Ev.V.int .u32) := by injection hi with hi; exact hi.symm
        subst hi'
        rw [List.getElem?_map] at hx
        obtain ⟨z, hz, rfl⟩ := Option.map_eq_some_iff.1 hx
        have := tab0 hL x z hz
        simpa [Ev.J.at, Ev.conc] using this
      | 1, hi =>
        simp only [List.getElem?_cons_zero, List.getElem?_cons_succ, Option.some.injEq] at hi
        have hi' : cs = ([1, 2, 4] : List Int).map (Ev.V.int .i64) := by injection hi with hi; exact hi.symm
        subst hi'
        rw [List.getElem?_map] at hx
        obtain ⟨z, hz, rfl⟩ := Option.map_eq_some_iff.1 hx
        have := tab1 hL x z hz
        simpa [Ev.J.at, Ev.conc] using this
      | i + 2, hi => simp at hi
  have hc := Ev.law_calls Ev.k7 hinv (by intro b hb; simp only [List.mem_cons, List.not_mem_nil, or_false] at hb; rcases hb with rfl | rfl <;> rfl) (by first | exact ⟨⟨[], rfl⟩, rfl⟩ | exact ⟨by omega, ⟨[], rfl⟩, rfl⟩ | exact ⟨by omega, rfl⟩ | rfl)
  refine hc.mono fun e W' ⟨he, bel⟩ => ?_
  subst he
  exact ⟨_, rfl, _, _, _, [], _, [], hW', trodAll_mk1 (shut_bool Tryd.underlying4 _), (trodAll_cons_mk (Below.trod laidOut (by kernel_rfl) (of_decide_eq_true (by kernel_rfl)) k0 bel lt0) (trodAll_cons_mk (Below.trod laidOut (by kernel_rfl) (of_decide_eq_true (by kernel_rfl)) k1 bel lt1) (trodAll_cons_mk (Below.trod laidOut (by kernel_rfl) (of_decide_eq_true (by kernel_rfl)) k2 bel lt2) trodAll_mk0))), rfl, bel.frame _, fun h => by cases h⟩
theorem over : Rows.laneMasksRow.holds Tryd.pinned (OpenSpec.ofChange Rows.laneMasksSpec) :=
  OpenClaim.holds_of_wide 7 Tryd.f7 rfl rfl rfl rfl rfl rfl rfl ⟨rfl, rfl, rfl, rfl, rfl⟩ rfl rfl rfl rfl rfl (by kernel_rfl) Tryd.func7 (by kernel_rfl)
    (of_decide_eq_true (by kernel_rfl)) (by unfold Func.isWrapper; first | (rw [if_pos (by decide +kernel)]; kernel_rfl) | (rw [if_neg (by decide +kernel)]; exact ⟨rfl, rfl⟩))
    (fun os started H enc _ => lifted os started H enc)
theorem card_holds : Claim7.holds Tryd.pinned (.plain (OpenSpec.ofChange Rows.laneMasksSpec)) Rows.laneMasksCard :=
  Claim7.holds_tied_plain_at .later [] [.widerDeep, .data] true (true, "4be238cb31771d3d7efc704f3900ce6b6c62ede052faad4a756a1332e6f4c80f") false
    over (fun _ h => by cases h) (by kernel_rfl) (fun _ h => by cases h) laneMasks_row_tie rfl ⟨rfl, rfl⟩ (by kernel_rfl) rfl
    (fun f fn hf hfn => by
      obtain rfl : f = 7 := Option.some.inj ((show Tryd.prog.funcNamed "septum/septumlaw03.LaneMasks" = some 7 by kernel_rfl).symm.trans hf) |>.symm
      obtain rfl : fn = Tryd.f7 := (Option.some.inj (Tryd.func7.symm.trans hfn)).symm
      exact ⟨by kernel_rfl, fun j t ht => by
        rw [Tryd.params7] at ht
        have hm : t ∈ [22, 22, 3] := by simpa using Array.mem_of_getElem? ht
        have hall : ([22, 22, 3].all fun u => !Tryd.prog.wantsStandIn u) = true := by kernel_rfl
        exact (show Tryd.prog.wantsStandIn t = false by simpa using List.all_eq_true.1 hall t hm)⟩)
    (by kernel_rfl)
#print axioms card_holds
end Go.Proofs.YtkheaekokmomhaaDoor.laneMasks
namespace Go.Proofs.YtkheaekokmomhaaDoor
theorem laneMasks_holds : Rows.LaneMasksCardSaid := laneMasks.card_holds
end Go.Proofs.YtkheaekokmomhaaDoor
