/- Ev: more cuts. -/
import Derived.Test.YtjigfpogfppidaaDoorEvX
set_option linter.all false
namespace Go.Ev
theorem rC_assoc {C : CT} {k : Nat} {a b c : EC} {tm : List SV} {L : List LB} {H : List B} {e g : Bool} {Q : KE} (h : rC C k (.seq (.seq a b) c) tm L H e g Q) : rC C k (.seq a (.seq b c)) tm L H e g Q := by
  have e1 : (fun ex tm L H e g => match ex with
      | .n => rC C k (.seq b c) tm L H e g Q
      | .x id => Q (.x id) tm L H e g
      | .r => Q .r tm L H e g : KE) = (fun ex tm L H e g => match ex with
      | .n => rC C k b tm L H e g (fun ex tm L H e g => match ex with
        | .n => rC C k c tm L H e g Q
        | .x id => Q (.x id) tm L H e g
        | .r => Q .r tm L H e g)
      | .x id => Q (.x id) tm L H e g
      | .r => Q .r tm L H e g : KE) := by
    funext ex tm L H e g
    cases ex <;> rfl
  show rC C k a tm L H e g _
  have h' : rC C k a tm L H e g (fun ex tm L H e g => match ex with
      | .n => rC C k b tm L H e g (fun ex tm L H e g => match ex with
        | .n => rC C k c tm L H e g Q
        | .x id => Q (.x id) tm L H e g
        | .r => Q .r tm L H e g)
      | .x id => (match (Ex.x id : Ex) with
        | .n => rC C k c tm L H e g Q
        | .x id => Q (.x id) tm L H e g
        | .r => Q .r tm L H e g)
      | .r => (match (Ex.r : Ex) with
        | .n => rC C k c tm L H e g Q
        | .x id => Q (.x id) tm L H e g
        | .r => Q .r tm L H e g)) := h
  have e2 : (fun ex tm L H e g => match ex with
      | .n => rC C k b tm L H e g (fun ex tm L H e g => match ex with
        | .n => rC C k c tm L H e g Q
        | .x id => Q (.x id) tm L H e g
        | .r => Q .r tm L H e g)
      | .x id => (match (Ex.x id : Ex) with
        | .n => rC C k c tm L H e g Q
        | .x id => Q (.x id) tm L H e g
        | .r => Q .r tm L H e g)
      | .r => (match (Ex.r : Ex) with
        | .n => rC C k c tm L H e g Q
        | .x id => Q (.x id) tm L H e g
        | .r => Q .r tm L H e g) : KE) = (fun ex tm L H e g => match ex with
      | .n => rC C k (.seq b c) tm L H e g Q
      | .x id => Q (.x id) tm L H e g
      | .r => Q .r tm L H e g : KE) := by
    funext ex tm L H e g
    cases ex <;> rfl
  rw [e2] at h'
  exact h'
end Go.Ev
namespace Go.Ev
theorem lgetX (L : List LB) (b : LB) (M : List LB) : (L ++ [b] ++ M)[L.length]? = some b := by
  rw [List.append_assoc, List.getElem?_append_right (Nat.le_refl _), Nat.sub_self]; rfl
theorem lgetX1 (L : List LB) (b : LB) (M : List LB) (c : LB) : (L ++ [b] ++ M ++ [c])[L.length]? = some b := by
  rw [List.append_assoc]; exact lgetX L b (M ++ [c])
theorem lgetX2 (L : List LB) (b : LB) (M : List LB) (c d : LB) : (L ++ [b] ++ M ++ [c] ++ [d])[L.length]? = some b := by
  rw [List.append_assoc, List.append_assoc]; exact lgetX L b _
theorem stl0_eq {tm : List SV} {L : List LB} {b : LB} {H : List B} {e g : Bool} {n : Nat} {x y : Opd} {o : Nat} {v : V} (hy : y.val tm = some v) (hx : x.ev tm = .lp L.length o) (hn : v.cells.length = n) (ho : v.cells.all V.one = true) (hl : o + n ≤ b.cs.length) :
    memOp tm (L ++ [b]) H e g (.st n x y) = some (undefV, L ++ [⟨b.ty, splice b.cs o v.cells⟩], H, e, g) := by
  rw [stl_eq hy hx (lget0 L b) hn ho hl, List.set_append_right _ _ (Nat.le_refl _), Nat.sub_self, List.set_cons_zero]
end Go.Ev
namespace Go.Ev
/-- a loop that counts up in slot ctr: what it puts is forgotten at its head, but the count and what I says. -/
theorem rLoop_ctr {c : List SV → List LB → List B → Bool → Bool → KE → Prop} {Q : KE} {f : Nat} {tm : List SV} {L : List LB} {H : List B} {e g : Bool} (N ctr : Nat) (mask : List Bool) (I : Nat → List SV → List LB → List B → Bool → Bool → Prop)
    (hf : N < f) (h0 : agree mask (tm.set ctr (.v (.int .i64 ((0 : Nat) : Int)))) tm) (hI : I 0 tm L H e g)
    (hstep : ∀ i : Nat, i ≤ N → havoc mask (tm.set ctr (.v (.int .i64 (i : Int)))) fun tm1 => Halt (∀ L H e g, I i tm1 L H e g → ∀ K : KE,
      (i < N → ∀ tm' L H e g, agree mask (tm.set ctr (.v (.int .i64 ((i + 1 : Nat) : Int)))) tm' → I (i + 1) tm' L H e g → K .n tm' L H e g) →
      (∀ id tm L H e g, Q (.x id) tm L H e g → K (.x id) tm L H e g) → (∀ tm L H e g, Q .r tm L H e g → K .r tm L H e g) → c tm1 L H e g K)) : rLoop c f tm L H e g Q := by
  refine rLoop_for N (fun i tm1 L H e g => agree mask (tm.set ctr (.v (.int .i64 (i : Int)))) tm1 ∧ I i tm1 L H e g) ?_ N 0 f tm L H e g (by omega) hf ⟨h0, hI⟩
  intro i tm1 L H e g hi ⟨ha, hI⟩ K kn kx kr
  exact (havoc_agree (hstep i hi) ha).out L H e g hI K (fun hlt tm' L H e g h1 h2 => kn hlt tm' L H e g ⟨h1, h2⟩) kx kr
end Go.Ev
namespace Go.Ev
/-- an element of a list just laid, at a number that is not known -/
theorem ld_list0 {tm : List SV} {L : List LB} {H : List B} {e g : Bool} {x : Opd} {K : KV} {ty : TypeId} {cs : List V} {o : Nat} (hx : x.ev tm = .v (.ptr (some (H.length, o)))) (ho : o < cs.length) (hK : ∀ v, v ∈ cs → K (.v v) L (H ++ [.rw ty cs]) e g) :
    (match memOp tm L (H ++ [.rw ty cs]) e g (.ld false 1 x) with
      | some (v, L', H', e', g') => K v L' H' e' g'
      | none => False) := by
  have h1 : rd (H ++ [.rw ty cs]) H.length o 1 = some [cs[o]] := by
    rw [rd_x0]
    unfold cut
    rw [if_pos (by omega), List.drop_eq_getElem_cons ho]
    rfl
  simp only [memOp, hx, h1, unV]
  exact hK _ (List.getElem_mem ho)
end Go.Ev
namespace Go.Ev
theorem fI_wquo64 {f : Nat} {a b : Int} {K : Int → Prop} (h : (0 ≤ a ∧ a < 9223372036854775808) ∧ 0 < b) (k : ∀ z, z = a / b → K z) : fI f (IntKind.i64.wrap (a.tdiv b)) K := by
  rw [Int.tdiv_eq_ediv_of_nonneg h.1.1]
  have h1 : 0 ≤ a / b := Int.ediv_nonneg h.1.1 (by omega)
  have h2 : a / b ≤ a := Int.ediv_le_self b h.1.1
  exact fI_i64 ⟨by omega, by omega⟩ k
theorem fI_wquo32 {f : Nat} {a b : Int} {K : Int → Prop} (h : (0 ≤ a ∧ a < 4294967296) ∧ 0 < b) (k : ∀ z, z = a / b → K z) : fI f (IntKind.u32.wrap (a.tdiv b)) K := by
  rw [Int.tdiv_eq_ediv_of_nonneg h.1.1]
  have h1 : 0 ≤ a / b := Int.ediv_nonneg h.1.1 (by omega)
  have h2 : a / b ≤ a := Int.ediv_le_self b h.1.1
  exact fI_u32 ⟨by omega, by omega⟩ k
end Go.Ev
namespace Go.Ev
def keepG (L : List LB) (H : List B) (e g : Bool) (_ : List SV) (L' : List LB) (H' : List B) (e' g' : Bool) : Prop := (∃ M, L' = L ++ M) ∧ (∃ X, H' = H ++ X ∧ (g' = true ∨ g' = g ∧ X = [])) ∧ e' = e
/-- a part behind which there are more variables, more blocks -/
theorem rC_cutG {C : CT} (hC : MonoC C) {k : Nat} {a b : EC} {tm : List SV} {L : List LB} {H : List B} {e g : Bool} {Q : KE} (mask : List Bool)
    (h1 : rC C k a tm L H e g (cutP mask tm (keepG L H e g) Q))
    (h2 : havoc mask tm fun tm' => Halt (∀ M X g', (g' = true ∨ g' = g ∧ X = []) → rC C k b tm' (L ++ M) (H ++ X) e g' Q)) : rC C k (.seq a b) tm L H e g Q := by
  show rC C k a tm L H e g _
  refine rC_mono hC ?_ h1
  intro ex tm' L' H' e' g' h
  cases ex with
  | n =>
    obtain ⟨⟨⟨M, rfl⟩, ⟨X, rfl, hx⟩, rfl⟩, h3⟩ := h
    exact (havoc_agree h2 h3).out M X g' hx
  | x id => exact h
  | r => exact h
theorem grow2 {g g1 : Bool} {X X1 : List B} (h : g = true ∨ X = []) (h1 : g1 = true ∨ g1 = g ∧ X1 = []) : g1 = true ∨ X ++ X1 = [] := by
  rcases h1 with h1 | ⟨rfl, rfl⟩
  · exact Or.inl h1
  · rcases h with h | rfl
    · exact Or.inl h
    · exact Or.inr rfl
theorem fin_grow {H X : List B} {v : V} {g : Bool} {Q : Post} (hg : g = true ∨ X = []) (hv : v.lt H.length = true) (hq : Q v H false false) : (match (generalizing := false) g with
    | false => Q v (H ++ X) false false
    | true => if (!false && V.lt H.length v) = true then gH (List.take H.length (H ++ X)) fun H => Q v H false false else Q v (H ++ X) false true) := by
  have := fin_cut (g := g) hg hv hq
  unfold fin at this
  exact this
end Go.Ev
namespace Go.Ev
theorem fI_shr {f : Nat} {a : Int} {n w : Nat} {K : Int → Prop} (h : 0 ≤ a) (c : Int) (hc : (2 : Int) ^ (min n w) = c) (k : ∀ z, z = a / c → K z) : fI f (a.fdiv (2 ^ (min n w))) K := by
  rw [hc, Int.fdiv_eq_ediv_of_nonneg _ (by rw [← hc]; exact Int.pow_nonneg (by omega))]
  exact (fI_eq f _ K).mpr (k _ rfl)
theorem and1_u32 {a : Int} (h : 0 ≤ a ∧ a < 4294967296) : IntKind.u32.wrap (((BitVec.ofInt IntKind.u32.bits a &&& BitVec.ofInt IntKind.u32.bits 1).toNat : Nat) : Int) = a % 2 := by
  have := and_ones 1 (by omega) a h.1 h.2 1 (by decide)
  simpa using this
theorem fI_and1 {f : Nat} {a : Int} {K : Int → Prop} (h : 0 ≤ a ∧ a < 4294967296) (k : ∀ z, z = a % 2 → K z) : fI f (IntKind.u32.wrap (((BitVec.ofInt IntKind.u32.bits a &&& BitVec.ofInt IntKind.u32.bits 1).toNat : Nat) : Int)) K := (fI_eq f _ K).mpr (k _ (and1_u32 h))
theorem fI_and3 {f : Nat} {a : Int} {K : Int → Prop} (h : 0 ≤ a ∧ a < 4294967296) (k : ∀ z, z = a % 4 → K z) : fI f (IntKind.u32.wrap (((BitVec.ofInt IntKind.u32.bits a &&& BitVec.ofInt IntKind.u32.bits 3).toNat : Nat) : Int)) K := (fI_eq f _ K).mpr (k _ (by have := and_ones 2 (by omega) a h.1 h.2 3 (by decide); simpa using this))
end Go.Ev
namespace Go.Ev
theorem fI_known {f : Nat} {n c : Int} {K : Int → Prop} (h : n = c) (k : fI f c K) : fI f n K := h ▸ k
end Go.Ev
namespace Go.Ev
theorem fI_tmodk {f : Nat} {a b : Int} {K : Int → Prop} (c : Int) (h : 0 ≤ a ∧ a % b = c) (k : fI f c K) : fI f (a.tmod b) K := by
  rw [Int.tmod_eq_emod_of_nonneg h.1, h.2]; exact k
end Go.Ev
