/- Ev: more cuts. -/
import Derived.Test.YtidpndncnhdkiaaDoorEvX
set_option linter.all false
namespace Go.Ev
theorem rC_assoc {C : CT} {k : Nat} {a b c : EC} {tm : List SV} {L : List LB} {H : List B} {e g : Bool} {Q : KE} (h : rC C k (.seq (.seq a b) c) tm L H e g Q) : rC C k (.seq a (.seq b c)) tm L H e g Q := by
  have e1 : (fun ex tm L H e g => match ex with
      | .n => rC C k (.seq b c) tm L H e g Q
      | .x id => Q (.x id) tm L H e g
      | .r => Q .r tm L H e g : KE) = (fun ex tm L H e g => match ex with
      | .n => rC C k b tm L H e g (fun ex tm L H e g => match ex with
        | .n => rC C k c tm L H e g Q
        | .x id => Q (.x id) tm L H e g
        | .r => Q .r tm L H e g)
      | .x id => Q (.x id) tm L H e g
      | .r => Q .r tm L H e g : KE) := by
    funext ex tm L H e g
    cases ex <;> rfl
  show rC C k a tm L H e g _
  have h' : rC C k a tm L H e g (fun ex tm L H e g => match ex with
      | .n => rC C k b tm L H e g (fun ex tm L H e g => match ex with
        | .n => rC C k c tm L H e g Q
        | .x id => Q (.x id) tm L H e g
        | .r => Q .r tm L H e g)
      | .x id => (match (Ex.x id : Ex) with
        | .n => rC C k c tm L H e g Q
        | .x id => Q (.x id) tm L H e g
        | .r => Q .r tm L H e g)
      | .r => (match (Ex.r : Ex) with
        | .n => rC C k c tm L H e g Q
        | .x id => Q (.x id) tm L H e g
        | .r => Q .r tm L H e g)) := h
  have e2 : (fun ex tm L H e g => match ex with
      | .n => rC C k b tm L H e g (fun ex tm L H e g => match ex with
        | .n => rC C k c tm L H e g Q
        | .x id => Q (.x id) tm L H e g
        | .r => Q .r tm L H e g)
      | .x id => (match (Ex.x id : Ex) with
        | .n => rC C k c tm L H e g Q
        | .x id => Q (.x id) tm L H e g
        | .r => Q .r tm L H e g)
      | .r => (match (Ex.r : Ex) with
        | .n => rC C k c tm L H e g Q
        | .x id => Q (.x id) tm L H e g
        | .r => Q .r tm L H e g) : KE) = (fun ex tm L H e g => match ex with
      | .n => rC C k (.seq b c) tm L H e g Q
      | .x id => Q (.x id) tm L H e g
      | .r => Q .r tm L H e g : KE) := by
    funext ex tm L H e g
    cases ex <;> rfl
  rw [e2] at h'
  exact h'
end Go.Ev
namespace Go.Ev
theorem lgetX (L : List LB) (b : LB) (M : List LB) : (L ++ [b] ++ M)[L.length]? = some b := by
  rw [List.append_assoc, List.getElem?_append_right (Nat.le_refl _), Nat.sub_self]; rfl
theorem lgetX1 (L : List LB) (b : LB) (M : List LB) (c : LB) : (L ++ [b] ++ M ++ [c])[L.length]? = some b := by
  rw [List.append_assoc]; exact lgetX L b (M ++ [c])
theorem lgetX2 (L : List LB) (b : LB) (M : List LB) (c d : LB) : (L ++ [b] ++ M ++ [c] ++ [d])[L.length]? = some b := by
  rw [List.append_assoc, List.append_assoc]; exact lgetX L b _
theorem stl0_eq {tm : List SV} {L : List LB} {b : LB} {H : List B} {e g : Bool} {n : Nat} {x y : Opd} {o : Nat} {v : V} (hy : y.val tm = some v) (hx : x.ev tm = .lp L.length o) (hn : v.cells.length = n) (ho : v.cells.all V.one = true) (hl : o + n ≤ b.cs.length) :
    memOp tm (L ++ [b]) H e g (.st n x y) = some (undefV, L ++ [⟨b.ty, splice b.cs o v.cells⟩], H, e, g) := by
  rw [stl_eq hy hx (lget0 L b) hn ho hl, List.set_append_right _ _ (Nat.le_refl _), Nat.sub_self, List.set_cons_zero]
end Go.Ev
namespace Go.Ev
/-- a loop that counts up in slot ctr: what it puts is forgotten at its head, but the count and what I says. -/
theorem rLoop_ctr {c : List SV → List LB → List B → Bool → Bool → KE → Prop} {Q : KE} {f : Nat} {tm : List SV} {L : List LB} {H : List B} {e g : Bool} (N ctr : Nat) (mask : List Bool) (I : Nat → List SV → List LB → List B → Bool → Bool → Prop)
    (hf : N < f) (h0 : agree mask (tm.set ctr (.v (.int .i64 ((0 : Nat) : Int)))) tm) (hI : I 0 tm L H e g)
    (hstep : ∀ i : Nat, i ≤ N → havoc mask (tm.set ctr (.v (.int .i64 (i : Int)))) fun tm1 => Halt (∀ L H e g, I i tm1 L H e g → ∀ K : KE,
      (i < N → ∀ tm' L H e g, agree mask (tm.set ctr (.v (.int .i64 ((i + 1 : Nat) : Int)))) tm' → I (i + 1) tm' L H e g → K .n tm' L H e g) →
      (∀ id tm L H e g, Q (.x id) tm L H e g → K (.x id) tm L H e g) → (∀ tm L H e g, Q .r tm L H e g → K .r tm L H e g) → c tm1 L H e g K)) : rLoop c f tm L H e g Q := by
  refine rLoop_for N (fun i tm1 L H e g => agree mask (tm.set ctr (.v (.int .i64 (i : Int)))) tm1 ∧ I i tm1 L H e g) ?_ N 0 f tm L H e g (by omega) hf ⟨h0, hI⟩
  intro i tm1 L H e g hi ⟨ha, hI⟩ K kn kx kr
  exact (havoc_agree (hstep i hi) ha).out L H e g hI K (fun hlt tm' L H e g h1 h2 => kn hlt tm' L H e g ⟨h1, h2⟩) kx kr
end Go.Ev
