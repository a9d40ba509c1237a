/- 'ReachMeets': for every input the law returns true, and each argument reads behind the call as it read before. No further condition. -/
import Derived.Test.YtpfkniffkbajpaaRows
import Derived.Test.YtpfkniffkbajpaaKm
import Derived.WalkKit
import Derived.ProofKit
import Derived.OpenShut
import Derived.ShutString
import Derived.ChangeOld
import Derived.Below
import Derived.SizedLaws
import Derived.Lib.SmallJoins
import Derived.Carry
namespace Go.Proofs.Ytpfkniffkbajpaa.reachMeets
open Go.ChangeShapes Go.WideShapes Go.ChangeAt Go.RowKit
open Go.ChangeMaps (open_string shut_string)
open Go.Joins
theorem own : ownKnob Try.prog.godebug = none := by kernel_rfl
theorem laidOut : laidOutB Try.prog = true := by kernel_rfl
set_option maxRecDepth 100000 in
theorem lifted (os : Os) (started : os.Started) (H : Type) (enc : TypeId × Value → H) :
    ReturnsInHanded {} Try.checked os 7 .any (Rows.reachMeetsSpec.pre6 enc Try.prog Try.f7 Rows.reachMeetsRow.domain false) (Rows.reachMeetsSpec.post enc Try.prog Try.f7 false true false false) := by
  refine returnsInHanded_of_change_sized (C := Try.checked) own started (by kernel_rfl) Try.func7
    (ChangeSpec.witness6 (enc := enc) (C := Try.checked) false ⟨#[], #[.agg #[.int .u32 0, .int .u32 0], .agg #[.int .u32 0, .int .u32 0], .int .u32 0, .int .i64 0], []⟩ 8 (by kernel_rfl) (by kernel_rfl) (by kernel_rfl) (by kernel_rfl)) ?_
  intro W base args ds gs before hval0 hW hcnd hsz0 _
  have hval : ∀ (j : Nat) t v, Try.f7.params[j]? = some t → args[j]? = some v → Value.okWide Try.prog W .any base t v := hval0
  have hW' := hW
  obtain ⟨p, q, hA0, hV, rfl, hfz, hnd⟩ := hW
  have hA : DataW.TrodAll enc Try.prog W 0 (fun _ => true) true Try.f7.params.toList args.toList ds p := hA0
  rw [Try.params7] at hA hval
  obtain ⟨v0, vs0, d0, ds0, p0, q0, hargs, rfl, rfl, h0, r0⟩ := trodAll_cons hA
  obtain ⟨v1, vs1, d1, ds1, p1, q1, rfl, rfl, rfl, h1, r1⟩ := trodAll_cons r0
  obtain ⟨v2, vs2, d2, ds2, p2, q2, rfl, rfl, rfl, h2, r2⟩ := trodAll_cons r1
  obtain ⟨v3, vs3, d3, ds3, p3, q3, rfl, rfl, rfl, h3, r3⟩ := trodAll_cons r2
  obtain ⟨rfl, rfl, rfl⟩ := trodAll_nil r3
  obtain rfl : args = #[v0, v1, v2, v3] := by cases args; simp_all
  obtain ⟨rfl, rfl⟩ := trodVars_none hV
  have k0 := h0
  have lt0 : ∀ x ∈ p0, x.block < W.heap.size := by obtain ⟨m, hm⟩ := k0; exact DataW.trod_lt m _ _ _ hm
  obtain ⟨v0a, v0b, y0a, y0b, m0, rfl, -, -, g0a, g0b⟩ := open_agg2 Try.underlying24 (by kernel_rfl) (by kernel_rfl) (hval 0 24 v0 rfl rfl) h0
  obtain ⟨z0a, c0a, -, w0a⟩ := DataW.trod_int (k := .u32) Try.underlying22 g0a
  obtain rfl : v0a = .int .u32 z0a := by simpa using c0a
  have u0a := Ev.wf_u32 w0a
  obtain ⟨z0b, c0b, -, w0b⟩ := DataW.trod_int (k := .u32) Try.underlying22 g0b
  obtain rfl : v0b = .int .u32 z0b := by simpa using c0b
  have u0b := Ev.wf_u32 w0b
  have k1 := h1
  have lt1 : ∀ x ∈ p1, x.block < W.heap.size := by obtain ⟨m, hm⟩ := k1; exact DataW.trod_lt m _ _ _ hm
  obtain ⟨v1a, v1b, y1a, y1b, m1, rfl, -, -, g1a, g1b⟩ := open_agg2 Try.underlying24 (by kernel_rfl) (by kernel_rfl) (hval 1 24 v1 rfl rfl) h1
  obtain ⟨z1a, c1a, -, w1a⟩ := DataW.trod_int (k := .u32) Try.underlying22 g1a
  obtain rfl : v1a = .int .u32 z1a := by simpa using c1a
  have u1a := Ev.wf_u32 w1a
  obtain ⟨z1b, c1b, -, w1b⟩ := DataW.trod_int (k := .u32) Try.underlying22 g1b
  obtain rfl : v1b = .int .u32 z1b := by simpa using c1b
  have u1b := Ev.wf_u32 w1b
  have k2 := h2
  have lt2 : ∀ x ∈ p2, x.block < W.heap.size := by obtain ⟨m, hm⟩ := k2; exact DataW.trod_lt m _ _ _ hm
  obtain ⟨z2, rfl, -, -, w2⟩ := open_int (k := .u32) Try.underlying22 (hval 2 22 v2 rfl rfl) h2
  have u2 := Ev.wf_u32 w2
  have k3 := h3
  have lt3 : ∀ x ∈ p3, x.block < W.heap.size := by obtain ⟨m, hm⟩ := k3; exact DataW.trod_lt m _ _ _ hm
  obtain ⟨z3, rfl, -, -, w3⟩ := open_int (k := .i64) Try.underlying3 (hval 3 3 v3 rfl rfl) h3
  have u3 := Ev.wf_i64 w3
  have hc := Ev.law_calls Ev.k7 (w := W) (H := []) (j := ⟨fun _ => 0, fun _ => 0⟩) (vs := [.agg [.int .u32 z0a, .int .u32 z0b], .agg [.int .u32 z1a, .int .u32 z1b], .int .u32 z2, .int .i64 z3]) (Ev.inv_none rfl) (by intro b hb; cases hb) (by first | rfl | exact ⟨by omega, rfl⟩)
  refine hc.mono fun e W' ⟨he, bel⟩ => ?_
  subst he
  exact ⟨_, rfl, _, _, _, [], _, [], hW', trodAll_mk1 (shut_bool Try.underlying4 _), (trodAll_cons_mk (Below.trod laidOut (by kernel_rfl) (of_decide_eq_true (by kernel_rfl)) k0 bel lt0) (trodAll_cons_mk (Below.trod laidOut (by kernel_rfl) (of_decide_eq_true (by kernel_rfl)) k1 bel lt1) (trodAll_cons_mk (Below.trod laidOut (by kernel_rfl) (of_decide_eq_true (by kernel_rfl)) k2 bel lt2) (trodAll_cons_mk (Below.trod laidOut (by kernel_rfl) (of_decide_eq_true (by kernel_rfl)) k3 bel lt3) trodAll_mk0)))), rfl, bel.frame _, fun h => by cases h⟩
theorem over : Rows.reachMeetsRow.holds Try.pinned (OpenSpec.ofChange Rows.reachMeetsSpec) :=
  OpenClaim.holds_of_wide 7 Try.f7 rfl rfl rfl rfl rfl rfl rfl ⟨rfl, rfl, rfl, rfl, rfl⟩ rfl rfl rfl rfl rfl (by kernel_rfl) Try.func7 (by kernel_rfl)
    (of_decide_eq_true (by kernel_rfl)) (by unfold Func.isWrapper; first | (rw [if_pos (by decide +kernel)]; kernel_rfl) | (rw [if_neg (by decide +kernel)]; exact ⟨rfl, rfl⟩))
    (fun os started H enc _ => lifted os started H enc)
theorem proved : Rows.ReachMeetsSaid := over
#print axioms proved
end Go.Proofs.Ytpfkniffkbajpaa.reachMeets
namespace Go.Proofs.Ytpfkniffkbajpaa
theorem reachMeets_holds : Rows.ReachMeetsSaid := reachMeets.proved
end Go.Proofs.Ytpfkniffkbajpaa
