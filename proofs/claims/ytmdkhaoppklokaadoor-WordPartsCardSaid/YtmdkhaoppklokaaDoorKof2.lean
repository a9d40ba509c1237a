/- dev: word.Of's contract -/
import Derived.Test.YtmdkhaoppklokaaDoorEvX
import Derived.Test.YtmdkhaoppklokaaDoorKof
set_option linter.all false
namespace Go.Ev
open Go Go.Proofs Go.RowKit Go.Shelf
theorem encB_map (l : List Int) : l.flatMap encB = l.map (V.int .u8) := by
  induction l with
  | nil => rfl
  | cons a l ih => rw [List.flatMap_cons, ih]; rfl
theorem getD_get {w : List Int} {j : Nat} (hj : j < w.length) : w[j]? = some (w.getD j 0) := by
  rw [List.getD_eq_getElem?_getD, List.getElem?_eq_getElem hj]; rfl
theorem stepW_eq {s x : Int} (hs : 0 ≤ s ∧ s < 16777216) (hx : 0 ≤ x ∧ x < 256) : stepW s x = s * 256 + x := by
  obtain ⟨a, rfl⟩ := Int.eq_ofNat_of_zero_le hs.1
  obtain ⟨b, rfl⟩ := Int.eq_ofNat_of_zero_le hx.1
  unfold stepW
  have e1 : (a : Int) * 256 % 4294967296 = ((a * 256 : Nat) : Int) := by omega
  have e2 : (b : Int) % 4294967296 = (b : Int) := by omega
  rw [e1, e2]
  show IntKind.u32.wrap (((BitVec.ofInt 32 ((a * 256 : Nat) : Int) ||| BitVec.ofInt 32 (b : Int)).toNat : Nat) : Int) = _
  rw [BitVec.toNat_or, bv_nat (by omega), bv_nat (by omega), wrap_u32]
  have h := Nat.shiftLeft_add_eq_or_of_lt (show b < 2 ^ 8 by omega) a
  rw [Nat.shiftLeft_eq] at h
  rw [show a * 256 = a * 2 ^ 8 by rfl, ← h]
  omega
theorem acc_of {l : List Int} (hok : okS (l.length : Int)) (hb : ∀ x, x ∈ l → 0 ≤ x ∧ x < 256) : accW (upto (bkF l) l.length) = ofB l := by
  have hl : l.length = 1 ∨ l.length = 2 ∨ l.length = 4 := by unfold okS at hok; omega
  rcases hl with h1 | h1 | h1
  · obtain ⟨a, rfl⟩ := List.length_eq_one_iff.1 h1
    have ha := hb a (by simp)
    show stepW 0 a = _
    rw [stepW_eq (by decide) ha]
    simp only [ofB]; omega
  · obtain ⟨a, c, rfl⟩ := len2 h1
    have ha := hb a (by simp)
    have hc := hb c (by simp)
    show stepW (stepW 0 c) a = _
    rw [stepW_eq (by decide) hc, stepW_eq (by omega) ha]
    simp only [ofB]; omega
  · obtain ⟨a, c, d, e, rfl⟩ := len4 h1
    have ha := hb a (by simp)
    have hc := hb c (by simp)
    have hd := hb d (by simp)
    have he := hb e (by simp)
    show stepW (stepW (stepW (stepW 0 e) d) c) a = _
    rw [stepW_eq (by decide) he, stepW_eq (by omega) hd, stepW_eq (by omega) hc, stepW_eq (by omega) ha]
    simp only [ofB]; omega
def s18 : Sp := fun vs H Q => match vs with
  | [.sl p n cp] => GLB H ∧ ∃ (l : List Int), n = l.length ∧ (∀ x, x ∈ l → 0 ≤ x ∧ x < 256) ∧ RdB H p l ∧ Q (.tup [.int .u32 (if okS (n : Int) then ofB l else 0), .bool (decide (okS (n : Int)))]) H false false
  | _ => False
theorem k18 : Snd Tryd.prog 2 18 s18 := by
  refine snd_of_below fun vs H Q h => ?_
  unfold s18 at h
  split at h
  · rename_i p n cp
    obtain ⟨hg, l, rfl, hb, hr, hq⟩ := h
    refine ⟨⟨_, x18, by kernel_rfl, rfl⟩, _, rfl, hq, fun j w hi => ?_⟩
    by_cases hok : okS (l.length : Int)
    · have hpos : 0 < l.length := by unfold okS at hok; omega
      obtain ⟨b, o, rfl⟩ := hr.some hpos
      have hr' : rd H b o (l.length * 1) = some (l.flatMap encB) := hr
      have hbl : b < H.length := by
        unfold rd at hr'
        split at hr'
        · rename_i hh; exact (List.getElem?_eq_some_iff.1 hh).1
        · cases hr'
      have hbw := hi.lts b hbl
      have hc := rd_cell hi hr'
      have := callsIn_wide.1 (Of_in 3 (by omega) hg hi (j.b b) (j.o b + o) cp l hok hbw ?_)
      · rw [acc_of hok hb] at this
        rw [if_pos hok, decide_eq_true hok]
        exact this
      · intro i hil
        have h1 := hc.2.2 i (.int .u8 (l.getD i 0)) (by rw [encB_map, List.getElem?_map, getD_get hil]; rfl)
        rw [at_add] at h1
        simpa [J.at, conc, Nat.add_assoc] using h1
    · rw [if_neg hok, decide_eq_false hok]
      rcases p with _ | ⟨b, o⟩
      · exact callsIn_wide.1 (Of_no 3 (by omega) hg hi none l.length cp hok)
      · exact callsIn_wide.1 (Of_no 3 (by omega) hg hi (some (j.at b o)) l.length cp hok)
  · exact h.elim
end Go.Ev
