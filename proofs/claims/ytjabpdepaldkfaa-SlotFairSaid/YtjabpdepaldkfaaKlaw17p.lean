/- dev: slots: what is plain -/
import Derived.Test.YtjabpdepaldkfaaKslot3
set_option linter.all false
namespace Go.Ev
open Go Go.Proofs
set_option maxRecDepth 4000
set_option maxHeartbeats 4000000
theorem rotL_len (l : List Int) {k : Nat} (hk : k ≤ l.length) : (rotL l k).length = l.length := by
  unfold rotL; rw [List.length_append, List.length_drop, List.length_take]; omega
theorem rotL_get {l : List Int} {k j : Nat} (hk : k < l.length) (hj : j < (rotL l k).length) : (rotL l k)[j] = l.getD ((k + j) % l.length) 0 := by
  rw [rotL_len l (by omega)] at hj
  have hm : (k + j) % l.length < l.length := Nat.mod_lt _ (by omega)
  rw [List.getD_eq_getElem?_getD, List.getElem?_eq_getElem hm, Option.getD_some]
  by_cases h : j < l.length - k
  · rw [List.getElem_append_left (by rw [List.length_drop]; exact h), List.getElem_drop]
    congr 1
    exact (Nat.mod_eq_of_lt (by omega)).symm
  · rw [List.getElem_append_right (by rw [List.length_drop]; omega), List.getElem_take]
    congr 1
    rw [List.length_drop]
    have e : k + j = (j - (l.length - k)) + l.length := by omega
    rw [e, Nat.add_mod_right, Nat.mod_eq_of_lt (by omega)]
theorem atL_rot {l : List Int} (h0 : 0 < l.length) (t j : Nat) (hj : j < (rotL l (t % l.length)).length) : (rotL l (t % l.length))[j] = atL l (t + j) := by
  rw [rotL_get (Nat.mod_lt _ h0) hj]
  unfold atL
  rw [Nat.mod_add_mod]
theorem atL_len {l : List Int} (t : Nat) : atL l (t + l.length) = atL l t := by unfold atL; rw [Nat.add_mod_right]
theorem ah_pos {l : List Int} {w : Int} {t : Nat} (h0 : 0 < l.length) (h : 0 ≤ ahV l w t) : ∃ a : Nat, a < l.length ∧ ahV l w t = (a : Int) ∧ atL l (t + a) = w ∧ ∀ j, j < a → atL l (t + j) ≠ w := by
  obtain ⟨i, hi, h1, h2, h3⟩ := fstI_pos h
  have hl := rotL_len l (Nat.le_of_lt (Nat.mod_lt t h0))
  refine ⟨i, by rw [hl] at hi; exact hi, h1, ?_, fun j hj => ?_⟩
  · rw [← atL_rot h0 t i hi]
    exact (beq_iff_eq.1 h2).symm
  · rw [← atL_rot h0 t j (by omega)]
    intro he
    have := h3 j hj
    rw [he] at this
    simp at this
theorem ah_mem {l : List Int} {w : Int} {t : Nat} : 0 ≤ ahV l w t ↔ w ∈ l := by
  have hp : (rotL l (t % l.length)).Perm l := by
    unfold rotL
    refine List.perm_append_comm.trans ?_
    rw [List.take_append_drop]
  constructor
  · intro h
    obtain ⟨i, hi, _, h2, _⟩ := fstI_pos h
    exact hp.mem_iff.1 ((beq_iff_eq.1 h2) ▸ List.getElem_mem hi)
  · intro h
    by_cases hn : 0 ≤ ahV l w t
    · exact hn
    · have := (fstI_neg hn).2 w (hp.mem_iff.2 h)
      simp at this
theorem ah_mod (l : List Int) (w : Int) (t : Nat) : ahV l w (t % l.length) = ahV l w t := by unfold ahV; rw [Nat.mod_mod]
theorem wt_ge (l : List Int) (w : Int) : ∀ n t, t < n → ahV l w t ≤ wtV l w n
  | 0, _, h => absurd h (Nat.not_lt_zero _)
  | n + 1, t, h => by
    unfold wtV
    by_cases ht : t < n
    · have := wt_ge l w n t ht
      split <;> omega
    · obtain rfl : t = n := by omega
      split <;> omega
theorem wt_neg (l : List Int) (w : Int) (h : ∀ t, ahV l w t = -1) : ∀ n, wtV l w n = -1
  | 0 => rfl
  | n + 1 => by
    unfold wtV
    rw [h n, wt_neg l w h n]; rfl
/-- how many below k are such -/
def manyF (f : Nat → Bool) : Nat → Nat
  | 0 => 0
  | k + 1 => if f k then manyF f k + 1 else manyF f k
theorem many_le (f : Nat → Bool) : ∀ k, manyF f k ≤ k
  | 0 => Nat.le_refl _
  | k + 1 => by have := many_le f k; unfold manyF; split <;> omega
theorem many_take (w : Int) (l : List Int) : ∀ k, k ≤ l.length → manyF (fun i => l.getD i 0 == w) k = (l.take k).countP (· == w)
  | 0, _ => by simp [manyF]
  | k + 1, h => by
    have ih := many_take w l k (by omega)
    have hk : k < l.length := h
    rw [List.take_succ, List.getElem?_eq_getElem hk, Option.toList_some, List.countP_append, ← ih]
    have hg : l.getD k 0 = l[k] := by rw [List.getD_eq_getElem?_getD, List.getElem?_eq_getElem hk, Option.getD_some]
    show (if (l.getD k 0 == w) = true then manyF (fun i => l.getD i 0 == w) k + 1 else manyF (fun i => l.getD i 0 == w) k) = _
    rw [hg]
    cases h1 : (l[k] == w) <;> simp [h1]
theorem which_many (l : List Int) (w : Int) : ∀ k, (whichL l w k).length = manyF (fun i => l.getD i 0 == w) k
  | 0 => rfl
  | k + 1 => by
    have ih := which_many l w k
    unfold whichL manyF
    by_cases h : l.getD k 0 = w
    · rw [if_pos h, if_pos (beq_iff_eq.2 h), List.length_append, ih]; rfl
    · rw [if_neg h, if_neg (by simpa using h), ih]
theorem many_congr {f g : Nat → Bool} : ∀ k, (∀ i, i < k → f i = g i) → manyF f k = manyF g k
  | 0, _ => rfl
  | k + 1, h => by
    unfold manyF
    rw [many_congr k (fun i hi => h i (by omega)), h k (by omega)]
theorem many_rot {l : List Int} (h0 : 0 < l.length) (w : Int) (t : Nat) : manyF (fun i => atL l (t + i) == w) l.length = (whichL l w l.length).length := by
  have hl := rotL_len l (Nat.le_of_lt (Nat.mod_lt t h0))
  have hp : (rotL l (t % l.length)).Perm l := by
    unfold rotL
    refine List.perm_append_comm.trans ?_
    rw [List.take_append_drop]
  have e1 : manyF (fun i => atL l (t + i) == w) l.length = manyF (fun i => (rotL l (t % l.length)).getD i 0 == w) l.length := by
    refine many_congr _ (fun i hi => ?_)
    have hi' : i < (rotL l (t % l.length)).length := by rw [hl]; exact hi
    rw [List.getD_eq_getElem?_getD, List.getElem?_eq_getElem hi', Option.getD_some, atL_rot h0 t i hi']
  rw [e1, which_many, many_take w l l.length (Nat.le_refl _), List.take_length]
  have e2 := many_take w (rotL l (t % l.length)) l.length (by rw [hl]; exact Nat.le_refl _)
  rw [e2, List.take_of_length_le (by rw [hl]; exact Nat.le_refl _)]
  exact hp.countP_eq _
theorem which_pos {l : List Int} (w : Int) : 0 < (whichL l w l.length).length ↔ w ∈ l := by
  rw [which_many, many_take w l l.length (Nat.le_refl _), List.take_length, List.countP_pos_iff]
  constructor
  · rintro ⟨a, ha, h⟩
    exact beq_iff_eq.1 h ▸ ha
  · intro h; exact ⟨w, h, by simp⟩
theorem may_of {l : List Int} {w t : Int} (hR : rightI l) (hw : 0 ≤ w ∧ w < 8) (ht : 0 ≤ t ∧ t ≤ 1099511627776) : mayP l w [t] :=
  ⟨hR, hw, by simp [okT]; omega⟩
theorem may_nil {l : List Int} {w : Int} (hR : rightI l) (hw : 0 ≤ w ∧ w < 8) : mayP l w [] := ⟨hR, hw, rfl⟩
theorem own_at {l : List Int} {t : Nat} (hR : rightI l) (ht : t ≤ 1099511627776) : ownV l (t : Int) = atL l t := by
  unfold ownV
  rw [if_pos (may_of hR (by decide) (by omega))]
  rfl
/-- a loop that counts up from T -/
theorem rLoop_ctrF {c : List SV → List LB → List B → Bool → Bool → KE → Prop} {Q : KE} {f : Nat} {tm : List SV} {L : List LB} {H : List B} {e g : Bool} {T : Nat} (N ctr : Nat) (mask : List Bool) (I : Nat → List SV → List LB → List B → Bool → Bool → Prop)
    (hf : N < f) (h0 : agree mask (tm.set ctr (.v (.int .i64 ((T + 0 : Nat) : Int)))) tm) (hI : I 0 tm L H e g)
    (hstep : ∀ i : Nat, i ≤ N → havoc mask (tm.set ctr (.v (.int .i64 ((T + i : Nat) : Int)))) fun tm1 => Halt (∀ L H e g, I i tm1 L H e g → ∀ K : KE,
      (i < N → ∀ tm' L H e g, agree mask (tm.set ctr (.v (.int .i64 ((T + (i + 1) : Nat) : Int)))) tm' → I (i + 1) tm' L H e g → K .n tm' L H e g) →
      (∀ id tm L H e g, Q (.x id) tm L H e g → K (.x id) tm L H e g) → (∀ tm L H e g, Q .r tm L H e g → K .r tm L H e g) → c tm1 L H e g K)) : rLoop c f tm L H e g Q := by
  refine rLoop_for N (fun i tm1 L H e g => agree mask (tm.set ctr (.v (.int .i64 ((T + i : Nat) : Int)))) tm1 ∧ I i tm1 L H e g) ?_ N 0 f tm L H e g (by omega) hf ⟨h0, hI⟩
  intro i tm1 L H e g hi ⟨ha, hI⟩ K kn kx kr
  exact (havoc_agree (hstep i hi) ha).out L H e g hI K (fun hlt tm' L H e g h1 h2 => kn hlt tm' L H e g ⟨h1, h2⟩) kx kr
end Go.Ev
