/- Ev: counting loops with other counters. -/
import Derived.Test.YtngbaiiokdladaaDoorEvX
set_option linter.all false
namespace Go.Ev
/-- a loop that counts in slot ctr by the values cv -/
theorem rLoop_ctrV {c : List SV → List LB → List B → Bool → Bool → KE → Prop} {Q : KE} {f : Nat} {tm : List SV} {L : List LB} {H : List B} {e g : Bool} {T : Nat → V} (N ctr : Nat) (mask : List Bool) (I : Nat → List SV → List LB → List B → Bool → Bool → Prop)
    (hf : N < f) (h0 : agree mask (tm.set ctr (.v (T 0))) tm) (hI : I 0 tm L H e g)
    (hstep : ∀ i : Nat, i ≤ N → havoc mask (tm.set ctr (.v (T i))) fun tm1 => Halt (∀ L H e g, I i tm1 L H e g → ∀ K : KE,
      (i < N → ∀ tm' L H e g, agree mask (tm.set ctr (.v (T (i + 1)))) tm' → I (i + 1) tm' L H e g → K .n tm' L H e g) →
      (∀ id tm L H e g, Q (.x id) tm L H e g → K (.x id) tm L H e g) → (∀ tm L H e g, Q .r tm L H e g → K .r tm L H e g) → c tm1 L H e g K)) : rLoop c f tm L H e g Q := by
  refine rLoop_for N (fun i tm1 L H e g => agree mask (tm.set ctr (.v (T i))) tm1 ∧ I i tm1 L H e g) ?_ N 0 f tm L H e g (by omega) hf ⟨h0, hI⟩
  intro i tm1 L H e g hi ⟨ha, hI⟩ K kn kx kr
  exact (havoc_agree (hstep i hi) ha).out L H e g hI K (fun hlt tm' L H e g h1 h2 => kn hlt tm' L H e g ⟨h1, h2⟩) kx kr
def cvM (i : Nat) : V := .int .i64 ((i : Int) - 1)
def cvU (i : Nat) : V := .int .u32 (i : Int)
theorem fLB_set {L : List LB} {b c : LB} {K : List LB → Prop} (h : K (L ++ [c])) : fLB ((L ++ [b]).set L.length c) K := by
  rw [fLB_eq, List.set_append_right _ _ (Nat.le_refl _), Nat.sub_self]; exact h
end Go.Ev
