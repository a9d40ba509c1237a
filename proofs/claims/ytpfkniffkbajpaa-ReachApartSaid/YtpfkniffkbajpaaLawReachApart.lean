/- 'ReachApart': for every input the law returns true, and each argument reads behind the call as it read before. No further condition. -/
import Derived.Test.YtpfkniffkbajpaaRows
import Derived.Test.YtpfkniffkbajpaaKonsg
import Derived.Test.YtpfkniffkbajpaaEvU
import Derived.WalkKit
import Derived.ProofKit
import Derived.OpenShut
import Derived.ShutString
import Derived.ChangeOld
import Derived.Below
import Derived.SizedLaws
import Derived.Lib.SmallJoins
import Derived.Carry
namespace Go.Proofs.Ytpfkniffkbajpaa.reachApart
open Go.ChangeShapes Go.WideShapes Go.ChangeAt Go.RowKit
open Go.ChangeMaps (open_string shut_string)
open Go.Joins
theorem own : ownKnob Try.prog.godebug = none := by kernel_rfl
theorem laidOut : laidOutB Try.prog = true := by kernel_rfl
set_option maxRecDepth 100000 in
theorem lifted (os : Os) (started : os.Started) (H : Type) (enc : TypeId × Value → H) :
    ReturnsInHanded {} Try.checked os 6 .any (Rows.reachApartSpec.pre6 enc Try.prog Try.f6 Rows.reachApartRow.domain false) (Rows.reachApartSpec.post enc Try.prog Try.f6 false true false false) := by
  refine returnsInHanded_of_change_sized (C := Try.checked) own started (by kernel_rfl) Try.func6
    (ChangeSpec.witness6 (enc := enc) (C := Try.checked) false ⟨#[], #[.slice none 0 0], []⟩ 8 (by kernel_rfl) (by kernel_rfl) (by kernel_rfl) (by kernel_rfl)) ?_
  intro W base args ds gs before hval0 hW hcnd hsz0 _
  have hval : ∀ (j : Nat) t v, Try.f6.params[j]? = some t → args[j]? = some v → Value.okWide Try.prog W .any base t v := hval0
  have hW' := hW
  obtain ⟨p, q, hA0, hV, rfl, hfz, hnd⟩ := hW
  have hA : DataW.TrodAll enc Try.prog W 0 (fun _ => true) true Try.f6.params.toList args.toList ds p := hA0
  rw [Try.params6] at hA hval
  obtain ⟨v0, vs0, d0, ds0, p0, q0, hargs, rfl, rfl, h0, r0⟩ := trodAll_cons hA
  obtain ⟨rfl, rfl, rfl⟩ := trodAll_nil r0
  obtain rfl : args = #[v0] := by cases args; simp_all
  obtain ⟨rfl, rfl⟩ := trodVars_none hV
  have k0 := h0
  have lt0 : ∀ x ∈ p0, x.block < W.heap.size := by obtain ⟨m, hm⟩ := k0; exact DataW.trod_lt m _ _ _ hm
  rcases Ev.open_sl2 (k := .u32) Try.underlying35 Try.underlying24 (by kernel_rfl) rfl rfl (by kernel_rfl) (by kernel_rfl) Try.underlying22 Try.underlying22 (hval 0 35 v0 rfl rfl) h0 with rfl | ⟨a0, c0, l0, rfl, sp0, bl0, le0, ln0, rd0⟩
  · have hc := Ev.law_calls Ev.k6 (w := W) (H := []) (j := ⟨fun _ => 0, fun _ => 0⟩) (vs := [.sl none 0 0]) (Ev.inv_none rfl) (by intro b hb; cases hb) rfl
    refine hc.mono fun e W' ⟨he, bel⟩ => ?_
    subst he
    exact ⟨_, rfl, _, _, _, [], _, [], hW', trodAll_mk1 (shut_bool Try.underlying4 _), (trodAll_cons_mk (Below.trod laidOut (by kernel_rfl) (of_decide_eq_true (by kernel_rfl)) k0 bel lt0) trodAll_mk0), rfl, bel.frame _, fun h => by cases h⟩
  · have hsp : a0 = ⟨a0.block, a0.off, none⟩ := by obtain ⟨ab, ao, sq⟩ := a0; simp only at sp0; subst sp0; rfl
    have hc := Ev.law_calls Ev.k6 (w := W) (H := [.ro (l0.flatMap Ev.enc2)]) (j := ⟨fun _ => a0.block, fun _ => a0.off⟩) (vs := [.sl (some (0, 0)) l0.length c0]) (Ev.inv_ro rfl bl0 (Ev.enc2_lt l0) (fun x u hx => rd0 x u hx _)) (by intro b hb; have hb2 : b = .ro (l0.flatMap Ev.enc2) := (by simpa using hb); rw [hb2]; rfl) ⟨l0, rfl, rfl, le0, ln0, rfl⟩
    have hcc : (Ev.concL ⟨fun _ => a0.block, fun _ => a0.off⟩ [.sl (some (0, 0)) l0.length c0]).toArray = #[.slice (some a0) l0.length c0] := by rw [hsp]; rfl
    rw [hcc] at hc
    refine hc.mono fun e W' ⟨he, bel⟩ => ?_
    subst he
    exact ⟨_, rfl, _, _, _, [], _, [], hW', trodAll_mk1 (shut_bool Try.underlying4 _), (trodAll_cons_mk (Below.trod laidOut (by kernel_rfl) (of_decide_eq_true (by kernel_rfl)) k0 bel lt0) trodAll_mk0), rfl, bel.frame _, fun h => by cases h⟩
theorem over : Rows.reachApartRow.holds Try.pinned (OpenSpec.ofChange Rows.reachApartSpec) :=
  OpenClaim.holds_of_wide 6 Try.f6 rfl rfl rfl rfl rfl rfl rfl ⟨rfl, rfl, rfl, rfl, rfl⟩ rfl rfl rfl rfl rfl (by kernel_rfl) Try.func6 (by kernel_rfl)
    (of_decide_eq_true (by kernel_rfl)) (by unfold Func.isWrapper; first | (rw [if_pos (by decide +kernel)]; kernel_rfl) | (rw [if_neg (by decide +kernel)]; exact ⟨rfl, rfl⟩))
    (fun os started H enc _ => lifted os started H enc)
theorem proved : Rows.ReachApartSaid := over
#print axioms proved
end Go.Proofs.Ytpfkniffkbajpaa.reachApart
namespace Go.Proofs.Ytpfkniffkbajpaa
theorem reachApart_holds : Rows.ReachApartSaid := reachApart.proved
end Go.Proofs.Ytpfkniffkbajpaa
