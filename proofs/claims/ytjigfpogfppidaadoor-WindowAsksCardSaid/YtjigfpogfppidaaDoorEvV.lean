/- Ev: what holds is kept under weaker ends; cuts. -/
import Derived.Test.YtjigfpogfppidaaDoorEvU
set_option linter.all false
namespace Go.Ev

def Mono (s : Sp) : Prop := ∀ vs H (Q Q' : Post), (∀ v H e g, Q v H e g → Q' v H e g) → s vs H Q → s vs H Q'
def MonoC (C : CT) : Prop := ∀ n, Mono (C n)

theorem monoC_nil : MonoC (tab []) := fun _ _ _ _ _ _ h => h.elim
theorem monoC_cons {n : Nat} {s : Sp} {l : List (Nat × Sp)} (h : Mono s) (hl : MonoC (tab l)) : MonoC (tab ((n, s) :: l)) := by
  intro f
  show Mono (if f = n then s else tab l f)
  split
  · exact h
  · exact hl f

theorem dec_mono {t : Bool} {A B A' B' : Prop} (ha : A → A') (hb : B → B') (h : dec t A B) : dec t A' B' := by
  cases t
  · exact hb h
  · exact ha h

theorem evApp0_mono {tm : List SV} {L : List LB} {H : List B} {e g : Bool} {ty : TypeId} {esz bytes : Nat} {zs : List V} {x y : Opd} {K K' : KV} (hK : ∀ v L H e g, K v L H e g → K' v L H e g) (h : evApp0 tm L H e g ty esz bytes zs x y K) : evApp0 tm L H e g ty esz bytes zs x y K' := by
  unfold evApp0 at h ⊢
  split at h
  · split at h
    · split at h
      · rename_i hle
        rw [if_pos hle]
        split at h
        · exact hK _ _ _ _ _ h
        · split at h
          · exact hK _ _ _ _ _ h
          · exact h.elim
      · rename_i hle
        rw [if_neg hle]
        split at h
        · exact ⟨h.1, h.2.1, fun c h1 h2 => hK _ _ _ _ _ (h.2.2 c h1 h2)⟩
        · exact h.elim
    · exact h.elim
  · exact h.elim

theorem evApp_mono {tm : List SV} {L : List LB} {H : List B} {e g : Bool} {ty : TypeId} {esz bytes : Nat} {zs : List V} {x y : Opd} {K K' : KV} (hK : ∀ v L H e g, K v L H e g → K' v L H e g) (h : evApp tm L H e g ty esz bytes zs x y K) : evApp tm L H e g ty esz bytes zs x y K' := by
  cases esz with
  | zero =>
    show evAppz tm L H e ty bytes zs x y K'
    replace h : evAppz tm L H e ty bytes zs x y K := h
    unfold evAppz at h ⊢
    split at h
    · refine ⟨h.1, h.2.1, ?_⟩
      replace h := h.2.2
      split at h
      · exact ⟨h.1, h.2.1, fun c h1 h2 => hK _ _ _ _ _ (h.2.2 c h1 h2)⟩
      · exact h.elim
    · exact h.elim
  | succ n => exact evApp0_mono hK h

theorem evOp_mono {C : CT} (hC : MonoC C) {tm : List SV} {L : List LB} {H : List B} {e g : Bool} {op : EOp} {K K' : KV} (hK : ∀ v L H e g, K v L H e g → K' v L H e g) (h : evOp C tm L H e g op K) : evOp C tm L H e g op K' := by
  unfold evOp at h ⊢
  split at h
  · split at h
    · rename_i h1 h2
      refine hC _ _ _ _ _ ?_ h
      intro v H' e' g' hh
      rw [fC_eq] at hh ⊢
      rw [gO_eq] at hh ⊢
      exact hK _ _ _ _ _ hh
    · exact h.elim
  · exact AtApp.mk (evApp_mono hK h.out)
  · split at h
    · exact hK _ _ _ _ _ h
    · exact hK _ _ _ _ _ h
  · split at h
    · exact dec_mono (hK _ _ _ _ _) (hK _ _ _ _ _) h
    · exact h.elim
  · split at h
    · rw [fZ_eq] at h ⊢; exact hK _ _ _ _ _ h
    · split at h
      · rw [fS_eq] at h ⊢; rw [fM_eq] at h ⊢; rw [gO_eq] at h ⊢; exact hK _ _ _ _ _ h
      · exact h.elim

theorem evOps_mono {C : CT} (hC : MonoC C) : ∀ (l : List EOper) {tm : List SV} {L : List LB} {H : List B} {e g : Bool} {K K' : Kt} (_ : ∀ tm L H e g, K tm L H e g → K' tm L H e g) (_ : evOps C l tm L H e g K), evOps C l tm L H e g K'
  | [], _, _, _, _, _, _, _, hK, h => hK _ _ _ _ _ h
  | o :: r, tm, L, H, e, g, K, K', hK, h => by
    have step : ∀ (v : SV) L H e g, putS tm o.dst v (fun tm => evOps C r tm L H e g K) → putS tm o.dst v (fun tm => evOps C r tm L H e g K') := by
      intro v L H e g hh
      rw [putS_eq] at hh ⊢
      exact evOps_mono hC r hK hh
    unfold evOps at h ⊢
    split at h
    · exact evOp_mono hC step h
    · split at h
      · split at h
        · exact dec_mono (evOp_mono hC step) (step _ _ _ _ _) h
        · exact dec_mono (step _ _ _ _ _) (evOp_mono hC step) h
      · exact step _ _ _ _ _ h
      · exact h.elim

theorem evS_mono {C : CT} {tm : List SV} {L : List LB} {H : List B} {e g : Bool} {op : EOp} {K K' : SV → Prop} (hK : ∀ v, K v → K' v) (h : evS C tm L H e g op K) : evS C tm L H e g op K' := by
  unfold evS at h ⊢
  split at h
  · split at h
    · obtain ⟨v, h1, h2⟩ := h
      refine ⟨v, h1, ?_⟩
      rw [fC_eq] at h2 ⊢
      exact hK _ h2
    · exact h.elim
  · split at h
    · exact hK _ h
    · exact hK _ h
  · split at h
    · exact dec_mono (hK _) (hK _) h
    · exact h.elim
  · split at h
    · rw [fS_eq] at h ⊢; exact hK _ h
    · exact h.elim
  · split at h
    · rw [fZ_eq] at h ⊢; exact hK _ h
    · exact h.elim

theorem evAny_mono {C : CT} {L : List LB} {H : List B} {e g : Bool} : ∀ (l : List EOper) {tm : List SV} {K K' : List SV → Prop} (_ : ∀ tm, K tm → K' tm) (_ : evAny C L H e g l tm K), evAny C L H e g l tm K'
  | [], _, _, _, hK, h => hK _ h
  | o :: r, tm, K, K', hK, h => by
    have step : ∀ (v : SV), putS tm o.dst v (fun tm => evAny C L H e g r tm K) → putS tm o.dst v (fun tm => evAny C L H e g r tm K') := by
      intro v hh
      rw [putS_eq] at hh ⊢
      exact evAny_mono r hK hh
    unfold evAny at h ⊢
    split at h
    · exact evS_mono step h
    · split at h
      · split at h
        · exact dec_mono (evS_mono step) (step _) h
        · exact dec_mono (step _) (evS_mono step) h
      · exact step _ h
      · exact h.elim

theorem evEff_mono {n : Nat} : ∀ (l : List EOper) {tm : List SV} {L : List LB} {K K' : List SV → List LB → Prop} (_ : ∀ tm L, K tm L → K' tm L) (_ : evEff n l tm L K), evEff n l tm L K'
  | [], _, _, _, _, hK, h => hK _ _ h
  | o :: r, tm, L, K, K', hK, h => by
    unfold evEff at h ⊢
    split at h
    · exact h.elim
    · split at h
      · rw [putS_eq] at h ⊢; rw [gLB_eq] at h ⊢; exact evEff_mono r hK h
      · split at h
        · split at h
          · split at h
            · rename_i hh
              rw [if_pos hh]
              rw [putS_eq] at h ⊢; rw [gLB_eq] at h ⊢; exact evEff_mono r hK h
            · exact h.elim
          · exact h.elim
        · exact h.elim
      · exact h.elim

theorem evLoop_mono {c : List SV → List LB → List B → Bool → Bool → KE → Prop} (hc : ∀ tm L H e g (K K' : KE), (∀ ex tm L H e g, K ex tm L H e g → K' ex tm L H e g) → c tm L H e g K → c tm L H e g K') :
    ∀ (f : Nat) {tm : List SV} {L : List LB} {H : List B} {e g : Bool} {Q Q' : KE} (_ : ∀ ex tm L H e g, Q ex tm L H e g → Q' ex tm L H e g) (_ : evLoop c f tm L H e g Q), evLoop c f tm L H e g Q'
  | 0, _, _, _, _, _, _, _, _, h => h.elim
  | f + 1, tm, L, H, e, g, Q, Q', hQ, h => by
    refine hc _ _ _ _ _ _ _ ?_ h
    intro ex tm L H e g hh
    cases ex with
    | n => exact evLoop_mono hc f hQ hh
    | x id => exact hQ _ _ _ _ _ _ hh
    | r => exact hQ _ _ _ _ _ _ hh

theorem evP_mono {tm : List SV} {L : List LB} {op : EOp} {K K' : SV → Prop} (hK : ∀ v, K v → K' v) (h : evP tm L op K) : evP tm L op K' := by
  unfold evP at h ⊢
  repeat' split at h
  all_goals first
    | exact h.elim
    | exact hK _ h
    | exact dec_mono (hK _) (hK _) h
    | (simp only [fS_eq, fZ_eq] at h ⊢; exact hK _ h)

theorem evX_mono {C : CT} (hC : MonoC C) : ∀ (s : Sch) {tm : List SV} {L : List LB} {H : List B} {e g : Bool} {K K' : Kt} (_ : ∀ tm L H e g, K tm L H e g → K' tm L H e g) (_ : evX C s tm L H e g K), evX C s tm L H e g K'
  | .done, _, _, _, _, _, _, _, hK, h => hK _ _ _ _ _ h
  | .sil o r, tm, L, H, e, g, K, K', hK, h => by
    have kk : ∀ tm, evX C r tm L H e g K → evX C r tm L H e g K' := fun tm h => evX_mono hC r hK h
    have kp : ∀ v, (putS tm o.dst v fun tm => evX C r tm L H e g K) → (putS tm o.dst v fun tm => evX C r tm L H e g K') := fun v h => by
      rw [putS_eq] at h ⊢; exact kk _ h
    unfold evX at h ⊢
    repeat' split at h
    all_goals first
      | exact h.elim
      | exact evP_mono kp h
      | exact kp _ h
      | exact dec_mono (evP_mono kp) (kp _) h
      | exact dec_mono (kp _) (evP_mono kp) h
  | .op o r, tm, L, H, e, g, K, K', hK, h => by
    have kk : ∀ tm H e g, evX C r tm L H e g K → evX C r tm L H e g K' := fun tm H e g h => evX_mono hC r hK h
    have kp : ∀ v H e g, (putS tm o.dst v fun tm => evX C r tm L H e g K) → (putS tm o.dst v fun tm => evX C r tm L H e g K') := fun v H e g h => by
      rw [putS_eq] at h ⊢; exact kk _ _ _ _ h
    have ko : (evOp C tm L H e g o.op fun v L' H e g => L' = L ∧ putS tm o.dst v fun tm => evX C r tm L H e g K) → (evOp C tm L H e g o.op fun v L' H e g => L' = L ∧ putS tm o.dst v fun tm => evX C r tm L H e g K') :=
      evOp_mono hC (fun v L' H e g h => ⟨h.1, kp _ _ _ _ h.2⟩)
    unfold evX at h ⊢
    repeat' split at h
    all_goals first
      | exact h.elim
      | exact ko h
      | exact kp _ _ _ _ h
      | exact dec_mono ko (kp _ _ _ _) h
      | exact dec_mono (kp _ _ _ _) ko h
  | .both a b, _, _, _, _, _, _, _, hK, h => by
    unfold evX at h ⊢
    exact ⟨evX_mono hC a hK h.1, evX_mono hC b hK h.2⟩

theorem evC_mono {C : CT} (hC : MonoC C) (k : Nat) : ∀ (c : EC) {tm : List SV} {L : List LB} {H : List B} {e g : Bool} {Q Q' : KE} (_ : ∀ ex tm L H e g, Q ex tm L H e g → Q' ex tm L H e g) (_ : evC C k c tm L H e g Q), evC C k c tm L H e g Q'
  | .skip, _, _, _, _, _, _, _, hQ, h => hQ _ _ _ _ _ _ h
  | .ops false l, _, _, _, _, _, _, _, hQ, h => evOps_mono hC l (fun _ _ _ _ _ => hQ _ _ _ _ _ _) h
  | .ops true l, _, _, _, _, _, _, _, hQ, h => evAny_mono l (fun _ => hQ _ _ _ _ _ _) h
  | .opsT l m r, _, _, _, _, _, _, _, hQ, h => evAny_mono l (fun _ => evEff_mono m (fun _ _ => evOps_mono hC r (fun _ _ _ _ _ => hQ _ _ _ _ _ _))) h
  | .opsX s, _, _, _, _, _, _, _, hQ, h => evX_mono hC s (fun _ _ _ _ _ => hQ _ _ _ _ _ _) h
  | .seq a b, _, _, _, _, _, _, _, hQ, h => by
    refine evC_mono hC k a ?_ h
    intro ex tm L H e g hh
    cases ex with
    | n => exact evC_mono hC k b hQ hh
    | x id => exact hQ _ _ _ _ _ _ hh
    | r => exact hQ _ _ _ _ _ _ hh
  | .cond x a b, _, _, _, _, _, _, _, hQ, h => by
    unfold evC at h ⊢
    split at h
    · exact dec_mono (evC_mono hC k a hQ) (evC_mono hC k b hQ) h
    · exact h.elim
  | .block id c, _, _, _, _, _, _, _, hQ, h => by
    refine evC_mono hC k c ?_ h
    intro ex tm L H e g hh
    cases ex with
    | n => exact hQ _ _ _ _ _ _ hh
    | x i =>
      by_cases hi : i = id
      · simp only [if_pos hi] at hh ⊢; exact hQ _ _ _ _ _ _ hh
      · simp only [if_neg hi] at hh ⊢; exact hQ _ _ _ _ _ _ hh
    | r => exact hQ _ _ _ _ _ _ hh
  | .loop c, _, _, _, _, _, _, _, hQ, h => by
    unfold evC at h ⊢
    exact evLoop_mono (c := evC C k c) (fun tm L H e g K K' hK hh => evC_mono hC k c (Q := K) (Q' := K') hK hh) k hQ h
  | .exit _, _, _, _, _, _, _, _, hQ, h => hQ _ _ _ _ _ _ h
  | .ret, _, _, _, _, _, _, _, hQ, h => hQ _ _ _ _ _ _ h

theorem rC_mono {C : CT} (hC : MonoC C) {k : Nat} {c : EC} {tm : List SV} {L : List LB} {H : List B} {e g : Bool} {Q Q' : KE} (hQ : ∀ ex tm L H e g, Q ex tm L H e g → Q' ex tm L H e g) (h : rC C k c tm L H e g Q) : rC C k c tm L H e g Q' := by
  rw [rC_eq] at h ⊢
  exact evC_mono hC k c hQ h

theorem evFun_mono {C : CT} (hC : MonoC C) (k : Nat) (fn : EFun) : Mono (evFun C k fn) := by
  intro vs H Q Q' hQ h
  unfold evFun at h ⊢
  rw [fT_eq] at h ⊢
  refine rC_mono hC ?_ h
  intro ex tm L H' e g hh
  have key : (match evRes tm L H' fn.res with
      | some vs => fin H.length (one1 vs) H' e g Q
      | none => False) → (match evRes tm L H' fn.res with
      | some vs => fin H.length (one1 vs) H' e g Q'
      | none => False) := by
    intro hh
    split at hh
    · unfold fin at hh ⊢
      split at hh
      · exact hQ _ _ _ _ hh
      · split at hh
        · rename_i h1
          rw [if_pos h1]
          rw [gH_eq] at hh ⊢
          exact hQ _ _ _ _ hh
        · rename_i h1
          rw [if_neg h1]
          exact hQ _ _ _ _ hh
    · exact hh.elim
  cases ex with
  | n => exact key hh
  | x id => exact hh.elim
  | r => exact key hh

/-! Cuts. -/

def merge : List Bool → List SV → List SV → List SV
  | [], l, _ => l
  | _ :: _, [], _ => []
  | _ :: _, a :: l, [] => a :: l
  | true :: m, _ :: l, a' :: l' => a' :: merge m l l'
  | false :: m, a :: l, _ :: l' => a :: merge m l l'

def agree (m : List Bool) (l l' : List SV) : Prop := merge m l l' = l'

def havoc (m : List Bool) : List SV → (List SV → Prop) → Prop :=
  @List.rec Bool (fun _ => List SV → (List SV → Prop) → Prop) (fun l K => K l)
    (fun b _ ih l K => match l with
      | [] => K []
      | a :: l => match b with
        | true => ∀ j : SV, ih l fun l => K (j :: l)
        | false => ih l fun l => K (a :: l)) m

theorem havoc_agree : ∀ {m : List Bool} {l l' : List SV} {K : List SV → Prop}, havoc m l K → agree m l l' → K l'
  | [], l, l', K, h, h' => by
    have e : l = l' := h'
    exact e ▸ h
  | b :: m, [], l', K, h, h' => by
    have e : [] = l' := h'
    exact e ▸ h
  | b :: m, a :: l, [], K, h, h' => by
    have e : a :: l = [] := h'
    cases e
  | true :: m, a :: l, a' :: l', K, h, h' => by
    have e : a' :: merge m l l' = a' :: l' := h'
    injection e with _ e
    exact havoc_agree (m := m) (K := fun l => K (a' :: l)) (h a') e
  | false :: m, a :: l, a' :: l', K, h, h' => by
    have e : a :: merge m l l' = a' :: l' := h'
    injection e with e1 e
    subst e1
    exact havoc_agree (m := m) (K := fun l => K (a :: l)) h e

/-- what a part comes to: its end, or what is left by it -/
def cutP (mask : List Bool) (tm : List SV) (M : List SV → List LB → List B → Bool → Bool → Prop) (Q : KE) : KE := fun ex tm' L' H' e' g' =>
  match ex with
  | .n => M tm' L' H' e' g' ∧ agree mask tm tm'
  | .x id => Q (.x id) tm' L' H' e' g'
  | .r => Q .r tm' L' H' e' g'

theorem rC_cut {C : CT} (hC : MonoC C) {k : Nat} {a b : EC} {tm : List SV} {L : List LB} {H : List B} {e g : Bool} {Q : KE} (mask : List Bool) (M : List SV → List LB → List B → Bool → Bool → Prop)
    (h1 : rC C k a tm L H e g (cutP mask tm M Q))
    (h2 : havoc mask tm fun tm' => ∀ L' H' e' g', M tm' L' H' e' g' → rC C k b tm' L' H' e' g' Q) : rC C k (.seq a b) tm L H e g Q := by
  show rC C k a tm L H e g _
  refine rC_mono hC ?_ h1
  intro ex tm' L' H' e' g' h
  cases ex with
  | n => exact havoc_agree h2 h.2 _ _ _ _ h.1
  | x id => exact h
  | r => exact h

/-- a part alone -/
theorem rC_cut1 {C : CT} (hC : MonoC C) {k : Nat} {a : EC} {tm : List SV} {L : List LB} {H : List B} {e g : Bool} {Q : KE} (mask : List Bool) (M : List SV → List LB → List B → Bool → Bool → Prop)
    (h1 : rC C k a tm L H e g (cutP mask tm M Q))
    (h2 : havoc mask tm fun tm' => ∀ L' H' e' g', M tm' L' H' e' g' → Q .n tm' L' H' e' g') : rC C k a tm L H e g Q := by
  refine rC_mono hC ?_ h1
  intro ex tm' L' H' e' g' h
  cases ex with
  | n => exact havoc_agree h2 h.2 _ _ _ _ h.1
  | x id => exact h
  | r => exact h

/-- A halt between two parts. -/
inductive Halt (P : Prop) : Prop
  | mk : P → Halt P
theorem Halt.out {P : Prop} : Halt P → P := fun ⟨h⟩ => h
def haltP (C : CT) (k : Nat) (b : EC) (Q : KE) : KE := fun ex tm L H e g =>
  match ex with
  | .n => Halt (rC C k b tm L H e g Q)
  | .x id => Q (.x id) tm L H e g
  | .r => Q .r tm L H e g
theorem rC_seqH {C : CT} {k : Nat} {a b : EC} {tm : List SV} {L : List LB} {H : List B} {e g : Bool} {Q : KE} (h : rC C k a tm L H e g (haltP C k b Q)) : rC C k (.seq a b) tm L H e g Q := by
  have e1 : haltP C k b Q = fun ex tm L H e g =>
      match ex with
      | .n => rC C k b tm L H e g Q
      | .x id => Q (.x id) tm L H e g
      | .r => Q .r tm L H e g := by
    funext ex tm L H e g
    cases ex with
    | n => exact propext ⟨Halt.out, Halt.mk⟩
    | x id => rfl
    | r => rfl
  rw [e1] at h
  exact h

theorem evFun_in {C : CT} {k : Nat} {fn : EFun} {vs : List V} {H : List B} {Q : Post} {tm : List SV} (ht : enterS fn vs = tm) (h : rC C k fn.body tm [] H false false (leave fn H.length Q)) : evFun C k fn vs H Q := by
  subst ht
  unfold evFun
  rw [fT_eq]
  exact h
end Go.Ev
set_option linter.all false
namespace Go.Ev
def sameM (L : List LB) (H : List B) (e g : Bool) (_ : List SV) (L' : List LB) (H' : List B) (e' g' : Bool) : Prop := L' = L ∧ H' = H ∧ e' = e ∧ g' = g
end Go.Ev
set_option linter.all false
namespace Go.Ev
theorem rC_cutS {C : CT} (hC : MonoC C) {k : Nat} {a b : EC} {tm : List SV} {L : List LB} {H : List B} {e g : Bool} {Q : KE} (mask : List Bool)
    (h1 : rC C k a tm L H e g (cutP mask tm (sameM L H e g) Q))
    (h2 : havoc mask tm fun tm' => Halt (rC C k b tm' L H e g Q)) : rC C k (.seq a b) tm L H e g Q := by
  show rC C k a tm L H e g _
  refine rC_mono hC ?_ h1
  intro ex tm' L' H' e' g' h
  cases ex with
  | n =>
    obtain ⟨⟨rfl, rfl, rfl, rfl⟩, h3⟩ := h
    exact (havoc_agree h2 h3).out
  | x id => exact h
  | r => exact h
def keepL (L : List LB) (H : List B) (e g : Bool) (_ : List SV) (L' : List LB) (H' : List B) (e' g' : Bool) : Prop := L' = L ∧ e' = e ∧ (H' = H ∧ g' = g ∨ g' = true ∧ ∃ X, H' = H ++ X)
theorem rC_cutL {C : CT} (hC : MonoC C) {k : Nat} {a b : EC} {tm : List SV} {L : List LB} {H : List B} {e g : Bool} {Q : KE} (mask : List Bool)
    (h1 : rC C k a tm L H e g (cutP mask tm (keepL L H e g) Q))
    (h2 : havoc mask tm fun tm' => Halt (rC C k b tm' L H e g Q ∧ ∀ X, rC C k b tm' L (H ++ X) e true Q)) : rC C k (.seq a b) tm L H e g Q := by
  show rC C k a tm L H e g _
  refine rC_mono hC ?_ h1
  intro ex tm' L' H' e' g' h
  cases ex with
  | n =>
    obtain ⟨⟨rfl, rfl, h4⟩, h3⟩ := h
    rcases h4 with ⟨rfl, rfl⟩ | ⟨rfl, X, rfl⟩
    · exact (havoc_agree h2 h3).out.1
    · exact (havoc_agree h2 h3).out.2 X
  | x id => exact h
  | r => exact h
end Go.Ev
