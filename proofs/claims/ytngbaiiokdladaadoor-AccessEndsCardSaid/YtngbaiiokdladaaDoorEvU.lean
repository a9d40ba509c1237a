/- texts joined -/
import Derived.Test.YtngbaiiokdladaaDoorEvT
import Derived.WideShapes
import Derived.ChangeArms
import Derived.Lib.SmallJoins
namespace Go.Ev
open Go.RowKit

section
variable {H : Type} {enc : TypeId × Value → H} {P : Program} {w : World} {base : Nat} {sp : Nat → Bool} {held : Bool}

end
end Go.Ev

set_option linter.all false
namespace Go.Ev

def Mono (s : Sp) : Prop := ∀ vs H (Q Q' : Post), (∀ v H e g, Q v H e g → Q' v H e g) → s vs H Q → s vs H Q'
def MonoC (C : CT) : Prop := ∀ n, Mono (C n)

theorem monoC_nil : MonoC (tab []) := fun _ _ _ _ _ _ h => h.elim
theorem monoC_cons {n : Nat} {s : Sp} {l : List (Nat × Sp)} (h : Mono s) (hl : MonoC (tab l)) : MonoC (tab ((n, s) :: l)) := by
  intro f
  show Mono (if f = n then s else tab l f)
  split
  · exact h
  · exact hl f

/-! Cuts. -/

def merge : List Bool → List SV → List SV → List SV
  | [], l, _ => l
  | _ :: _, [], _ => []
  | _ :: _, a :: l, [] => a :: l
  | true :: m, _ :: l, a' :: l' => a' :: merge m l l'
  | false :: m, a :: l, _ :: l' => a :: merge m l l'

def agree (m : List Bool) (l l' : List SV) : Prop := merge m l l' = l'

def havoc (m : List Bool) : List SV → (List SV → Prop) → Prop :=
  @List.rec Bool (fun _ => List SV → (List SV → Prop) → Prop) (fun l K => K l)
    (fun b _ ih l K => match l with
      | [] => K []
      | a :: l => match b with
        | true => ∀ j : SV, ih l fun l => K (j :: l)
        | false => ih l fun l => K (a :: l)) m

theorem havoc_agree : ∀ {m : List Bool} {l l' : List SV} {K : List SV → Prop}, havoc m l K → agree m l l' → K l'
  | [], l, l', K, h, h' => by
    have e : l = l' := h'
    exact e ▸ h
  | b :: m, [], l', K, h, h' => by
    have e : [] = l' := h'
    exact e ▸ h
  | b :: m, a :: l, [], K, h, h' => by
    have e : a :: l = [] := h'
    cases e
  | true :: m, a :: l, a' :: l', K, h, h' => by
    have e : a' :: merge m l l' = a' :: l' := h'
    injection e with _ e
    exact havoc_agree (m := m) (K := fun l => K (a' :: l)) (h a') e
  | false :: m, a :: l, a' :: l', K, h, h' => by
    have e : a :: merge m l l' = a' :: l' := h'
    injection e with e1 e
    subst e1
    exact havoc_agree (m := m) (K := fun l => K (a :: l)) h e

/-- A halt between two parts. -/
inductive Halt (P : Prop) : Prop
  | mk : P → Halt P
theorem Halt.out {P : Prop} : Halt P → P := fun ⟨h⟩ => h
def haltP (C : CT) (k : Nat) (b : EC) (Q : KE) : KE := fun ex tm L H e g =>
  match ex with
  | .n => Halt (rC C k b tm L H e g Q)
  | .x id => Q (.x id) tm L H e g
  | .r => Q .r tm L H e g
theorem rC_seqH {C : CT} {k : Nat} {a b : EC} {tm : List SV} {L : List LB} {H : List B} {e g : Bool} {Q : KE} (h : rC C k a tm L H e g (haltP C k b Q)) : rC C k (.seq a b) tm L H e g Q := by
  have e1 : haltP C k b Q = fun ex tm L H e g =>
      match ex with
      | .n => rC C k b tm L H e g Q
      | .x id => Q (.x id) tm L H e g
      | .r => Q .r tm L H e g := by
    funext ex tm L H e g
    cases ex with
    | n => exact propext ⟨Halt.out, Halt.mk⟩
    | x id => rfl
    | r => rfl
  rw [e1] at h
  exact h

theorem evFun_in {C : CT} {k : Nat} {fn : EFun} {vs : List V} {H : List B} {Q : Post} {tm : List SV} (ht : enterS fn vs = tm) (h : rC C k fn.body tm [] H false false (leave fn H.length Q)) : evFun C k fn vs H Q := by
  subst ht
  unfold evFun
  rw [fT_eq]
  exact h
end Go.Ev
set_option linter.all false
namespace Go.Ev
end Go.Ev
set_option linter.all false
namespace Go.Ev
end Go.Ev
