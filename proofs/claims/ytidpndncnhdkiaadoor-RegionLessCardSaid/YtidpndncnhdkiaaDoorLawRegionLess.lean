/- 'RegionLess': for every input the law returns true, and each argument reads behind the call as it read before; the card: the tables tied to the program's text. -/
import Derived.Test.YtidpndncnhdkiaaDoorRows
import Derived.Test.YtidpndncnhdkiaaDoorCards
import Derived.Test.YtidpndncnhdkiaaDoorTie
import Derived.Test.YtidpndncnhdkiaaDoorKlawb
import Derived.Test.YtidpndncnhdkiaaDoorEvY
import Derived.WalkKit
import Derived.ProofKit
import Derived.OpenShut
import Derived.ShutString
import Derived.ChangeOld
import Derived.Below
import Derived.SizedLaws
import Derived.Lib.SmallJoins
import Derived.Carry
import Derived.LaidMore
import Derived.LaidLaws
import Derived.LaidHandle
import Derived.SevenTiedAt
import Derived.Stop.Joined
set_option linter.all false
namespace Go.Proofs.YtidpndncnhdkiaaDoor.regionLess
open Go.ChangeShapes Go.WideShapes Go.ChangeAt Go.RowKit
open Go.ChangeMaps (open_string shut_string)
open Go.Joins
theorem own : ownKnob Tryd.prog.godebug = none := by kernel_rfl
theorem laidOut : laidOutB Tryd.prog = true := by kernel_rfl
theorem door_met (os : Os) (args : Array Value) : laidMetH Tryd.prog [("septum/word.sizes", Rows.laid_septum_word_sizes)] ((World.doorLaid Tryd.prog 14 os).forCall (fun _ _ => 0) ⟨#[], args, []⟩).memory :=
  laidMetH_of_parts3 (fuel := 8) (laidMet_of_run' 8 (by kernel_rfl) (by kernel_rfl)) (by kernel_rfl) (by kernel_rfl)
theorem tab0 {W : World} (h : laidMetH Tryd.prog [("septum/word.sizes", Rows.laid_septum_word_sizes)] W) : ∀ (x : Nat) (z : Int), ([1, 2, 4] : List Int)[x]? = some z → W.cell? ⟨0, x, none⟩ = some (.int .i64 z) := by
  have h' : laidMet Tryd.prog [("septum/word.sizes", Rows.laid_septum_word_sizes)] W := h
  exact Ev.table_cells (name := "septum/word.sizes") (k := .i64) (zs := [1, 2, 4]) (Go.Lib.laidMet.reads h' (by simp [Rows.laid_septum_word_sizes])) (by kernel_rfl) (by kernel_rfl) Tryd.underlying78 Tryd.underlying3 (by kernel_rfl) rfl
set_option maxRecDepth 100000 in
theorem lifted (os : Os) (started : os.Started) (H : Type) (enc : TypeId × Value → H) :
    ReturnsInHanded {} Tryd.checked os 6 .any (fun w args => (Rows.regionLessSpec.pre enc Tryd.prog Tryd.f6 [] false w args ∧ laidMetH Tryd.prog [("septum/word.sizes", Rows.laid_septum_word_sizes)] w) ∧ sizedMet enc Tryd.prog Tryd.f6 (OpenSpec.ofChange Rows.regionLessSpec) false w args)
      (Rows.regionLessSpec.post enc Tryd.prog Tryd.f6 false true false false) := by
  refine returnsInHanded_of_change_and (C := Tryd.checked) (X := fun w _ => laidMetH Tryd.prog [("septum/word.sizes", Rows.laid_septum_word_sizes)] w) (fun _ _ _ hh h => h.of_heap hh) own started (by kernel_rfl) Tryd.func6
    (ChangeSpec.witness_shaped (enc := enc) (C := Tryd.checked) (os := os) (X := fun w _ => laidMetH Tryd.prog [("septum/word.sizes", Rows.laid_septum_word_sizes)] w) false (World.doorLaid Tryd.prog 14 os) #[.agg #[.bool false, .int .i64 0, .int .u32 0, .int .u32 0, .bool false, .bool false, .int .i64 0, .bool false], .agg #[.bool false, .int .i64 0, .int .u32 0, .int .u32 0, .bool false, .bool false, .int .i64 0, .bool false], .agg #[.int .i64 0, .bool false, .int .u32 0, .int .i64 0, .int .u32 0]] 8 rfl (World.shaped_of_RefB (by kernel_rfl) (by kernel_rfl)) (by kernel_rfl) (by kernel_rfl) (by kernel_rfl) (door_met os _)) ?_
  intro W base args ds gs before hval0 hW _ _ hL _
  have hval : ∀ (j : Nat) t v, Tryd.f6.params[j]? = some t → args[j]? = some v → Value.okWide Tryd.prog W .any base t v := hval0
  have hW' := hW
  obtain ⟨p, q, hA0, hV, rfl, hfz, hnd⟩ := hW
  have hA : DataW.TrodAll enc Tryd.prog W 0 (fun _ => true) true Tryd.f6.params.toList args.toList ds p := hA0
  rw [Tryd.params6] at hA hval
  obtain ⟨v0, vs0, d0, ds0, p0, q0, hargs, rfl, rfl, h0, r0⟩ := trodAll_cons hA
  obtain ⟨v1, vs1, d1, ds1, p1, q1, rfl, rfl, rfl, h1, r1⟩ := trodAll_cons r0
  obtain ⟨v2, vs2, d2, ds2, p2, q2, rfl, rfl, rfl, h2, r2⟩ := trodAll_cons r1
  obtain ⟨rfl, rfl, rfl⟩ := trodAll_nil r2
  obtain rfl : args = #[v0, v1, v2] := by cases args; simp_all
  obtain ⟨rfl, rfl⟩ := trodVars_none hV
  have k0 := h0
  have lt0 : ∀ x ∈ p0, x.block < W.heap.size := by obtain ⟨m, hm⟩ := k0; exact DataW.trod_lt m _ _ _ hm
  obtain ⟨l0, rfl, cs0⟩ := Ev.open_flat (ts := [4, 3, 22, 22, 4, 4, 3, 4]) (ks := [none, some .i64, some .u32, some .u32, none, none, some .i64, none]) Tryd.underlying26 (by kernel_rfl) (by kernel_rfl) (by kernel_rfl) (hval 0 26 v0 rfl rfl)
  obtain ⟨z0_0, _, rfl, z0_1, _, rfl, w0_1, z0_2, _, rfl, w0_2, z0_3, _, rfl, w0_3, z0_4, _, rfl, z0_5, _, rfl, z0_6, _, rfl, w0_6, z0_7, _, rfl, rfl⟩ := cs0
  have u0_1 := Ev.has_i64 w0_1
  have u0_2 := Ev.has_u32 w0_2
  have u0_3 := Ev.has_u32 w0_3
  have u0_6 := Ev.has_i64 w0_6
  have k1 := h1
  have lt1 : ∀ x ∈ p1, x.block < W.heap.size := by obtain ⟨m, hm⟩ := k1; exact DataW.trod_lt m _ _ _ hm
  obtain ⟨l1, rfl, cs1⟩ := Ev.open_flat (ts := [4, 3, 22, 22, 4, 4, 3, 4]) (ks := [none, some .i64, some .u32, some .u32, none, none, some .i64, none]) Tryd.underlying26 (by kernel_rfl) (by kernel_rfl) (by kernel_rfl) (hval 1 26 v1 rfl rfl)
  obtain ⟨z1_0, _, rfl, z1_1, _, rfl, w1_1, z1_2, _, rfl, w1_2, z1_3, _, rfl, w1_3, z1_4, _, rfl, z1_5, _, rfl, z1_6, _, rfl, w1_6, z1_7, _, rfl, rfl⟩ := cs1
  have u1_1 := Ev.has_i64 w1_1
  have u1_2 := Ev.has_u32 w1_2
  have u1_3 := Ev.has_u32 w1_3
  have u1_6 := Ev.has_i64 w1_6
  have k2 := h2
  have lt2 : ∀ x ∈ p2, x.block < W.heap.size := by obtain ⟨m, hm⟩ := k2; exact DataW.trod_lt m _ _ _ hm
  obtain ⟨l2, rfl, cs2⟩ := Ev.open_flat (ts := [3, 4, 22, 3, 22]) (ks := [some .i64, none, some .u32, some .i64, some .u32]) Tryd.underlying28 (by kernel_rfl) (by kernel_rfl) (by kernel_rfl) (hval 2 28 v2 rfl rfl)
  obtain ⟨z2_0, _, rfl, w2_0, z2_1, _, rfl, z2_2, _, rfl, w2_2, z2_3, _, rfl, w2_3, z2_4, _, rfl, w2_4, rfl⟩ := cs2
  have u2_0 := Ev.has_i64 w2_0
  have u2_2 := Ev.has_u32 w2_2
  have u2_3 := Ev.has_i64 w2_3
  have u2_4 := Ev.has_u32 w2_4
  have hbnd : ∀ i, i < 1 → i < W.heap.size := by
    intro i hi
    have b0 : 0 < W.heap.size := by
      have := tab0 hL 0 _ rfl
      unfold World.cell? at this
      split at this
      · rename_i hh; exact (Array.getElem?_eq_some_iff.1 hh).1
      · cases this
    omega
  have hinv : Ev.Inv 1 ⟨W, [Ev.GS], ⟨fun i => i, fun _ => 0⟩⟩ ⟨fun i => i, fun _ => 0⟩ [] ([.agg [.bool z0_0, .int .i64 z0_1, .int .u32 z0_2, .int .u32 z0_3, .bool z0_4, .bool z0_5, .int .i64 z0_6, .bool z0_7], .agg [.bool z1_0, .int .i64 z1_1, .int .u32 z1_2, .int .u32 z1_3, .bool z1_4, .bool z1_5, .int .i64 z1_6, .bool z1_7], .agg [.int .i64 z2_0, .bool z2_1, .int .u32 z2_2, .int .i64 z2_3, .int .u32 z2_4]].map Ev.SV.v) [] [Ev.GS] false false W := by
    refine Ev.inv_ros ?_ hbnd ?_ rfl (by decide) (fun i _ => ⟨rfl, rfl⟩)
    · intro b hb
      simp only [List.mem_cons, List.not_mem_nil, or_false] at hb
      subst hb
      all_goals exact ⟨_, rfl, rfl⟩
    · intro i cs hi x v hx
      match i, hi with
      | 0, hi =>
        simp only [List.getElem?_cons_zero, List.getElem?_cons_succ, Option.some.injEq] at hi
        have hi' : cs = ([1, 2, 4] : List Int).map (Ev.V.int .i64) := by injection hi with hi; exact hi.symm
        subst hi'
        rw [List.getElem?_map] at hx
        obtain ⟨z, hz, rfl⟩ := Option.map_eq_some_iff.1 hx
        have := tab0 hL x z hz
        simpa [Ev.J.at, Ev.conc] using this
      | i + 1, hi => simp at hi
  have hc := Ev.law_calls Ev.k6 hinv (by intro b hb; simp only [List.mem_cons, List.not_mem_nil, or_false] at hb; subst hb <;> rfl) (by first | exact ⟨⟨[], rfl⟩, rfl⟩ | exact ⟨by omega, ⟨[], rfl⟩, rfl⟩ | exact ⟨by omega, rfl⟩ | rfl)
  refine hc.mono fun e W' ⟨he, bel⟩ => ?_
  subst he
  exact ⟨_, rfl, _, _, _, [], _, [], hW', trodAll_mk1 (shut_bool Tryd.underlying4 _), (trodAll_cons_mk (Below.trod laidOut (by kernel_rfl) (of_decide_eq_true (by kernel_rfl)) k0 bel lt0) (trodAll_cons_mk (Below.trod laidOut (by kernel_rfl) (of_decide_eq_true (by kernel_rfl)) k1 bel lt1) (trodAll_cons_mk (Below.trod laidOut (by kernel_rfl) (of_decide_eq_true (by kernel_rfl)) k2 bel lt2) trodAll_mk0))), rfl, bel.frame _, fun h => by cases h⟩
theorem over : Rows.regionLessRow.holds Tryd.pinned (OpenSpec.ofChange Rows.regionLessSpec) :=
  OpenClaim.holds_of_wide 6 Tryd.f6 rfl rfl rfl rfl rfl rfl rfl ⟨rfl, rfl, rfl, rfl, rfl⟩ rfl rfl rfl rfl rfl (by kernel_rfl) Tryd.func6 (by kernel_rfl)
    (of_decide_eq_true (by kernel_rfl)) (by unfold Func.isWrapper; first | (rw [if_pos (by decide +kernel)]; kernel_rfl) | (rw [if_neg (by decide +kernel)]; exact ⟨rfl, rfl⟩))
    (fun os started H enc _ => lifted os started H enc)
theorem card_holds : Claim7.holds Tryd.pinned (.plain (OpenSpec.ofChange Rows.regionLessSpec)) Rows.regionLessCard :=
  Claim7.holds_tied_plain_at .later [] [.widerDeep] true (true, "b3b3a9a9c161fe625a420b5474acb590f7f13b23abef12663977cd5400f54534") false
    over (fun _ h => by cases h) (by kernel_rfl) (fun _ h => by cases h) regionLess_row_tie rfl ⟨rfl, rfl⟩ (by kernel_rfl) rfl
    (fun f fn hf hfn => by
      obtain rfl : f = 6 := Option.some.inj ((show Tryd.prog.funcNamed "septum/septumlaw06.RegionLess" = some 6 by kernel_rfl).symm.trans hf) |>.symm
      obtain rfl : fn = Tryd.f6 := (Option.some.inj (Tryd.func6.symm.trans hfn)).symm
      exact ⟨by kernel_rfl, fun j t ht => by
        rw [Tryd.params6] at ht
        have hm : t ∈ [26, 26, 28] := by simpa using Array.mem_of_getElem? ht
        have hall : ([26, 26, 28].all fun u => !Tryd.prog.wantsStandIn u) = true := by kernel_rfl
        exact (show Tryd.prog.wantsStandIn t = false by simpa using List.all_eq_true.1 hall t hm)⟩)
    (by kernel_rfl)
#print axioms card_holds
end Go.Proofs.YtidpndncnhdkiaaDoor.regionLess
namespace Go.Proofs.YtidpndncnhdkiaaDoor
theorem regionLess_holds : Rows.RegionLessCardSaid := regionLess.card_holds
end Go.Proofs.YtidpndncnhdkiaaDoor
