/- Ev: more cuts. -/
import Derived.Test.YtjigfpogfppidaaDoorEvX
set_option linter.all false
namespace Go.Ev
end Go.Ev
namespace Go.Ev
theorem lgetX (L : List LB) (b : LB) (M : List LB) : (L ++ [b] ++ M)[L.length]? = some b := by
  rw [List.append_assoc, List.getElem?_append_right (Nat.le_refl _), Nat.sub_self]; rfl
theorem lgetX1 (L : List LB) (b : LB) (M : List LB) (c : LB) : (L ++ [b] ++ M ++ [c])[L.length]? = some b := by
  rw [List.append_assoc]; exact lgetX L b (M ++ [c])
theorem lgetX2 (L : List LB) (b : LB) (M : List LB) (c d : LB) : (L ++ [b] ++ M ++ [c] ++ [d])[L.length]? = some b := by
  rw [List.append_assoc, List.append_assoc]; exact lgetX L b _
theorem stl0_eq {tm : List SV} {L : List LB} {b : LB} {H : List B} {e g : Bool} {n : Nat} {x y : Opd} {o : Nat} {v : V} (hy : y.val tm = some v) (hx : x.ev tm = .lp L.length o) (hn : v.cells.length = n) (ho : v.cells.all V.one = true) (hl : o + n ≤ b.cs.length) :
    memOp tm (L ++ [b]) H e g (.st n x y) = some (undefV, L ++ [⟨b.ty, splice b.cs o v.cells⟩], H, e, g) := by
  rw [stl_eq hy hx (lget0 L b) hn ho hl, List.set_append_right _ _ (Nat.le_refl _), Nat.sub_self, List.set_cons_zero]
end Go.Ev
namespace Go.Ev
/-- a loop that counts up in slot ctr: what it puts is forgotten at its head, but the count and what I says. -/
theorem rLoop_ctr {c : List SV → List LB → List B → Bool → Bool → KE → Prop} {Q : KE} {f : Nat} {tm : List SV} {L : List LB} {H : List B} {e g : Bool} (N ctr : Nat) (mask : List Bool) (I : Nat → List SV → List LB → List B → Bool → Bool → Prop)
    (hf : N < f) (h0 : agree mask (tm.set ctr (.v (.int .i64 ((0 : Nat) : Int)))) tm) (hI : I 0 tm L H e g)
    (hstep : ∀ i : Nat, i ≤ N → havoc mask (tm.set ctr (.v (.int .i64 (i : Int)))) fun tm1 => Halt (∀ L H e g, I i tm1 L H e g → ∀ K : KE,
      (i < N → ∀ tm' L H e g, agree mask (tm.set ctr (.v (.int .i64 ((i + 1 : Nat) : Int)))) tm' → I (i + 1) tm' L H e g → K .n tm' L H e g) →
      (∀ id tm L H e g, Q (.x id) tm L H e g → K (.x id) tm L H e g) → (∀ tm L H e g, Q .r tm L H e g → K .r tm L H e g) → c tm1 L H e g K)) : rLoop c f tm L H e g Q := by
  refine rLoop_for N (fun i tm1 L H e g => agree mask (tm.set ctr (.v (.int .i64 (i : Int)))) tm1 ∧ I i tm1 L H e g) ?_ N 0 f tm L H e g (by omega) hf ⟨h0, hI⟩
  intro i tm1 L H e g hi ⟨ha, hI⟩ K kn kx kr
  exact (havoc_agree (hstep i hi) ha).out L H e g hI K (fun hlt tm' L H e g h1 h2 => kn hlt tm' L H e g ⟨h1, h2⟩) kx kr
end Go.Ev
namespace Go.Ev
end Go.Ev
namespace Go.Ev
end Go.Ev
namespace Go.Ev
theorem fin_grow {H X : List B} {v : V} {g : Bool} {Q : Post} (hg : g = true ∨ X = []) (hv : v.lt H.length = true) (hq : Q v H false false) : (match (generalizing := false) g with
    | false => Q v (H ++ X) false false
    | true => if (!false && V.lt H.length v) = true then gH (List.take H.length (H ++ X)) fun H => Q v H false false else Q v (H ++ X) false true) := by
  have := fin_cut (g := g) hg hv hq
  unfold fin at this
  exact this
end Go.Ev
namespace Go.Ev
end Go.Ev
namespace Go.Ev
end Go.Ev
namespace Go.Ev
end Go.Ev
