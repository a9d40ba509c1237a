/- dev: slots: what is plain -/
import Derived.Test.YtjabpdepaldkfaaKslot3
set_option linter.all false
namespace Go.Ev
open Go Go.Proofs
set_option maxRecDepth 4000
set_option maxHeartbeats 4000000
theorem ah_mem {l : List Int} {w : Int} {t : Nat} : 0 ≤ ahV l w t ↔ w ∈ l := by
  have hp : (rotL l (t % l.length)).Perm l := by
    unfold rotL
    refine List.perm_append_comm.trans ?_
    rw [List.take_append_drop]
  constructor
  · intro h
    obtain ⟨i, hi, _, h2, _⟩ := fstI_pos h
    exact hp.mem_iff.1 ((beq_iff_eq.1 h2) ▸ List.getElem_mem hi)
  · intro h
    by_cases hn : 0 ≤ ahV l w t
    · exact hn
    · have := (fstI_neg hn).2 w (hp.mem_iff.2 h)
      simp at this
def moV (l : List Int) (w : Int) : Nat → Int
  | 0 => 0
  | i + 1 => if moV l w i < ahV l w i then ahV l w i else moV l w i
theorem mo_wt (l : List Int) (w : Int) (h : ∀ t, 0 ≤ ahV l w t) : ∀ n, moV l w (n + 1) = wtV l w (n + 1)
  | 0 => by
    have := h 0
    unfold moV wtV
    unfold moV wtV
    split <;> split <;> omega
  | n + 1 => by
    have ih := mo_wt l w h n
    unfold moV wtV
    rw [ih]
/-- how many below k are such -/
def manyF (f : Nat → Bool) : Nat → Nat
  | 0 => 0
  | k + 1 => if f k then manyF f k + 1 else manyF f k
theorem many_take (w : Int) (l : List Int) : ∀ k, k ≤ l.length → manyF (fun i => l.getD i 0 == w) k = (l.take k).countP (· == w)
  | 0, _ => by simp [manyF]
  | k + 1, h => by
    have ih := many_take w l k (by omega)
    have hk : k < l.length := h
    rw [List.take_succ, List.getElem?_eq_getElem hk, Option.toList_some, List.countP_append, ← ih]
    have hg : l.getD k 0 = l[k] := by rw [List.getD_eq_getElem?_getD, List.getElem?_eq_getElem hk, Option.getD_some]
    show (if (l.getD k 0 == w) = true then manyF (fun i => l.getD i 0 == w) k + 1 else manyF (fun i => l.getD i 0 == w) k) = _
    rw [hg]
    cases h1 : (l[k] == w) <;> simp [h1]
theorem which_many (l : List Int) (w : Int) : ∀ k, (whichL l w k).length = manyF (fun i => l.getD i 0 == w) k
  | 0 => rfl
  | k + 1 => by
    have ih := which_many l w k
    unfold whichL manyF
    by_cases h : l.getD k 0 = w
    · rw [if_pos h, if_pos (beq_iff_eq.2 h), List.length_append, ih]; rfl
    · rw [if_neg h, if_neg (by simpa using h), ih]
theorem which_pos {l : List Int} (w : Int) : 0 < (whichL l w l.length).length ↔ w ∈ l := by
  rw [which_many, many_take w l l.length (Nat.le_refl _), List.take_length, List.countP_pos_iff]
  constructor
  · rintro ⟨a, ha, h⟩
    exact beq_iff_eq.1 h ▸ ha
  · intro h; exact ⟨w, h, by simp⟩
theorem may_of {l : List Int} {w t : Int} (hR : rightI l) (hw : 0 ≤ w ∧ w < 8) (ht : 0 ≤ t ∧ t ≤ 1099511627776) : mayP l w [t] :=
  ⟨hR, hw, by simp [okT]; omega⟩
theorem may_nil {l : List Int} {w : Int} (hR : rightI l) (hw : 0 ≤ w ∧ w < 8) : mayP l w [] := ⟨hR, hw, rfl⟩
end Go.Ev
