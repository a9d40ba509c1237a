/- texts joined -/
import Derived.Test.YtngbaiiokdladaaDoorEvP
import Derived.Below
import Derived.DataShut
namespace Go.Ev
open Go.RowKit

theorem law_calls {P : Program} {G f : Nat} {s : Sp} (hs : Snd P G f s) {w : World} {H : List B} {j : J} {vs : List V} (hi : Inv G ⟨w, H, j⟩ j [] (vs.map SV.v) [] H false false w) (hro : ∀ b, b ∈ H → b.own = false)
    (hk : s vs H fun v _ _ _ => v = .bool true) : Calls P f (concL j vs).toArray w fun e w' => e = .returned (.bool true) ∧ Below w.heap.size w w' := by
  obtain ⟨_, h⟩ := hs vs H _ hk
  refine (h j w hi).mono ?_
  rintro r w' ⟨v, H', e, g, j', rfl, rfl, hinv⟩
  refine ⟨rfl, ⟨hinv.os, hinv.tape, hinv.output, hinv.size, fun k hk => hinv.frame k hk ?_⟩⟩
  intro i b hb ho
  rw [hro b (List.mem_of_getElem? hb)] at ho
  cases ho
end Go.Ev
namespace Go.Ev
end Go.Ev
namespace Go.Ev
theorem tq_not (b : Bool) : (true = !b) = (b = false) := by cases b <;> simp
theorem fq_not (b : Bool) : (false = !b) = (b = true) := by cases b <;> simp
theorem tq_and (a b : Bool) : (true = (a && b)) = (a = true ∧ b = true) := by cases a <;> cases b <;> simp
theorem fq_and (a b : Bool) : (false = (a && b)) = (a = false ∨ b = false) := by cases a <;> cases b <;> simp
theorem tq_or (a b : Bool) : (true = (a || b)) = (a = true ∨ b = true) := by cases a <;> cases b <;> simp
theorem fq_or (a b : Bool) : (false = (a || b)) = (a = false ∧ b = false) := by cases a <;> cases b <;> simp
theorem tq_beq {α : Type} [BEq α] (a b : α) : (true = (a == b)) = ((a == b) = true) := propext ⟨Eq.symm, Eq.symm⟩
theorem fq_beq {α : Type} [BEq α] (a b : α) : (false = (a == b)) = ((a == b) = false) := propext ⟨Eq.symm, Eq.symm⟩
theorem tq_bne {α : Type} [BEq α] (a b : α) : (true = (a != b)) = ((a != b) = true) := propext ⟨Eq.symm, Eq.symm⟩
theorem fq_bne {α : Type} [BEq α] (a b : α) : (false = (a != b)) = ((a != b) = false) := propext ⟨Eq.symm, Eq.symm⟩
theorem tq_dec (p : Prop) [Decidable p] : (true = decide p) = p := propext ⟨fun h => of_decide_eq_true h.symm, fun h => (decide_eq_true h).symm⟩
theorem fq_dec (p : Prop) [Decidable p] : (false = decide p) = ¬ p := propext ⟨fun h => of_decide_eq_false h.symm, fun h => (decide_eq_false h).symm⟩
end Go.Ev
namespace Go.Ev
theorem dec_trueH {d : Bool} {A B : Prop} (h : d = true) (a : d = true → A) : Bool.rec (motive := fun _ => Prop) B A d := by subst h; exact a rfl
theorem dec_falseH {d : Bool} {A B : Prop} (h : d = false) (b : d = false → B) : Bool.rec (motive := fun _ => Prop) B A d := by subst h; exact b rfl
end Go.Ev
namespace Go.Ev
theorem snd_or {P : Program} {G f : Nat} {s t : Sp} (h : Snd P G f s) (h' : Snd P G f t) : Snd P G f (fun vs H Q => s vs H Q ∨ t vs H Q) := by
  intro vs H Q hh
  rcases hh with hh | hh
  · exact h vs H Q hh
  · exact h' vs H Q hh
end Go.Ev

namespace Go.Ev

theorem ld_step {tm : List SV} {L : List LB} {H : List B} {e g : Bool} {agg : Bool} {n : Nat} {x : Opd} {K : KV} {i o : Nat} {cs : List V} {v : V} (hx : x.ev tm = .v (.ptr (some (i, o)))) (hr : rd H i o n = some cs) (hu : unV agg cs = some v)
    (hK : K (.v v) L H e g) : (match memOp tm L H e g (.ld agg n x) with
      | some (v, L', H', e', g') => K v L' H' e' g'
      | none => False) := by
  simp only [memOp, hx, hr, hu]
  exact hK

theorem lds_step {tm : List SV} {L : List LB} {H : List B} {e g : Bool} {agg : Bool} {n : Nat} {x : Opd} {K : SV → Prop} {i o : Nat} {cs : List V} {v : V} (hx : x.ev tm = .v (.ptr (some (i, o)))) (hr : rd H i o n = some cs) (hu : unV agg cs = some v)
    (hK : K (.v v)) : (match memOp tm L H e g (.ld agg n x) with
      | some (v, _) => K v
      | none => False) := by
  simp only [memOp, hx, hr, hu]
  exact hK
end Go.Ev
