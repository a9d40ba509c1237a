/- 'SlotWait': for every input the law returns true, and each argument reads behind the call as it read before. No further condition. -/
import Derived.Test.YtjabpdepaldkfaaRows
import Derived.Test.YtjabpdepaldkfaaKslI
import Derived.Test.YtjabpdepaldkfaaEvSl
import Derived.WalkKit
import Derived.ProofKit
import Derived.OpenShut
import Derived.ShutString
import Derived.ChangeOld
import Derived.Below
import Derived.SizedLaws
import Derived.Lib.SmallJoins
import Derived.Carry
set_option linter.all false
namespace Go.Proofs.Ytjabpdepaldkfaa.slotWait
open Go.ChangeShapes Go.WideShapes Go.ChangeAt Go.RowKit
open Go.ChangeMaps (open_string shut_string)
open Go.Joins
theorem own : ownKnob Try.prog.godebug = none := by kernel_rfl
theorem laidOut : laidOutB Try.prog = true := by kernel_rfl
set_option maxRecDepth 100000 in
theorem lifted (os : Os) (started : os.Started) (H : Type) (enc : TypeId × Value → H) :
    ReturnsInHanded {} Try.checked os 4 .any (Rows.slotWaitSpec.pre6 enc Try.prog Try.f4 Rows.slotWaitRow.domain false) (Rows.slotWaitSpec.post enc Try.prog Try.f4 false true false false) := by
  refine returnsInHanded_of_change_sized (C := Try.checked) own started (by kernel_rfl) Try.func4
    (ChangeSpec.witness6 (enc := enc) (C := Try.checked) false ⟨#[], #[.slice none 0 0, .int .i64 0], []⟩ 8 (by kernel_rfl) (by kernel_rfl) (by kernel_rfl) (by kernel_rfl)) ?_
  intro W base args ds gs before hval0 hW hcnd hsz0 _
  have hval : ∀ (j : Nat) t v, Try.f4.params[j]? = some t → args[j]? = some v → Value.okWide Try.prog W .any base t v := hval0
  have hW' := hW
  obtain ⟨p, q, hA0, hV, rfl, hfz, hnd⟩ := hW
  have hA : DataW.TrodAll enc Try.prog W 0 (fun _ => true) true Try.f4.params.toList args.toList ds p := hA0
  rw [Try.params4] at hA hval
  obtain ⟨v0, vs0, d0, ds0_, p0, q0, hargs, rfl, rfl, h0, r0⟩ := trodAll_cons hA
  obtain ⟨v1, vs1, d1, ds1_, p1, q1, rfl, rfl, rfl, h1, r1⟩ := trodAll_cons r0
  obtain ⟨rfl, rfl, rfl⟩ := trodAll_nil r1
  obtain rfl : args = #[v0, v1] := by cases args; simp_all
  obtain ⟨rfl, rfl⟩ := trodVars_none hV
  have k0 := h0
  have lt0 : ∀ x ∈ p0, x.block < W.heap.size := by obtain ⟨m, hm⟩ := k0; exact DataW.trod_lt m _ _ _ hm
  have k1 := h1
  have lt1 : ∀ x ∈ p1, x.block < W.heap.size := by obtain ⟨m, hm⟩ := k1; exact DataW.trod_lt m _ _ _ hm
  obtain ⟨z1, rfl, -, -, w1⟩ := open_int (k := .i64) Try.underlying3 (hval 1 3 v1 rfl rfl) h1
  have u1 := Ev.wf_i64 w1
  rcases Ev.open_slF (d := 8) (ks := [some .i64]) Try.underlying22 (by kernel_rfl) (by kernel_rfl) (hval 0 22 v0 rfl rfl) h0 with rfl | hs0
  · have hc := Ev.law_calls Ev.k4 (w := W) (H := []) (j := ⟨fun _ => 0, fun _ => 0⟩) (vs := [.sl none 0 0, .int .i64 z1]) (Ev.inv_none rfl) (by intro b hb; cases hb) (⟨[], rfl, Nat.le_refl _, rfl, rfl⟩)
    refine hc.mono fun e W' ⟨he, bel⟩ => ?_
    subst he
    exact ⟨_, rfl, _, _, _, [], _, [], hW', trodAll_mk1 (shut_bool Try.underlying4 _), (trodAll_cons_mk (Below.trod laidOut (by kernel_rfl) (of_decide_eq_true (by kernel_rfl)) k0 bel lt0) (trodAll_cons_mk (Below.trod laidOut (by kernel_rfl) (of_decide_eq_true (by kernel_rfl)) k1 bel lt1) trodAll_mk0)), rfl, bel.frame _, fun h => by cases h⟩
  · have sz0 : 0 < W.heap.size := by obtain ⟨a, cp, l, _, _, hb, _⟩ := hs0; omega
    obtain ⟨q0_, b0_, o0_, cp0, ds0, ok0, lc0, mx0, hb0, hcell0, hq0, hv0⟩ := Ev.slF_arg (enc := Ev.encI) (ok := Ev.okI) (ks := [some .i64]) 0 Ev.encI_len rfl Ev.encI_typ sz0 (Or.inr hs0)
    have e0 := hv0 ⟨fun _ => b0_, fun _ => o0_⟩ rfl rfl
    subst e0
    have hc := Ev.law_calls Ev.k4 (w := W) (H := [.ro (ds0.flatMap Ev.encI)]) (j := ⟨fun _ => b0_, fun _ => o0_⟩) (vs := [.sl q0_ ds0.length cp0, .int .i64 z1]) (Ev.inv_ro (by rcases hq0 with ⟨rfl, _⟩ | rfl <;> rfl) hb0 (Ev.ltL_flat Ev.encI_lt1 _ _) (fun x u hx => hcell0 x u hx _)) (by intro b hb; have hb2 : b = .ro (ds0.flatMap Ev.encI) := (by simpa using hb); rw [hb2]; rfl) (⟨ds0, rfl, lc0, Ev.RdI_of hq0 (Ev.rd_all rfl (Ev.flat_len Ev.encI_len _)), rfl⟩)
    refine hc.mono fun e W' ⟨he, bel⟩ => ?_
    subst he
    exact ⟨_, rfl, _, _, _, [], _, [], hW', trodAll_mk1 (shut_bool Try.underlying4 _), (trodAll_cons_mk (Below.trod laidOut (by kernel_rfl) (of_decide_eq_true (by kernel_rfl)) k0 bel lt0) (trodAll_cons_mk (Below.trod laidOut (by kernel_rfl) (of_decide_eq_true (by kernel_rfl)) k1 bel lt1) trodAll_mk0)), rfl, bel.frame _, fun h => by cases h⟩
theorem over : Rows.slotWaitRow.holds Try.pinned (OpenSpec.ofChange Rows.slotWaitSpec) :=
  OpenClaim.holds_of_wide 4 Try.f4 rfl rfl rfl rfl rfl rfl rfl ⟨rfl, rfl, rfl, rfl, rfl⟩ rfl rfl rfl rfl rfl (by kernel_rfl) Try.func4 (by kernel_rfl)
    (of_decide_eq_true (by kernel_rfl)) (by unfold Func.isWrapper; first | (rw [if_pos (by decide +kernel)]; kernel_rfl) | (rw [if_neg (by decide +kernel)]; exact ⟨rfl, rfl⟩))
    (fun os started H enc _ => lifted os started H enc)
theorem proved : Rows.SlotWaitSaid := over
#print axioms proved
end Go.Proofs.Ytjabpdepaldkfaa.slotWait
namespace Go.Proofs.Ytjabpdepaldkfaa
theorem slotWait_holds : Rows.SlotWaitSaid := slotWait.proved
end Go.Proofs.Ytjabpdepaldkfaa
