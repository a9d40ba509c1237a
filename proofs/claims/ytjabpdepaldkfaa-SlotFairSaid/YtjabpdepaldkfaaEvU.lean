/- Ev: rows whose argument is a slice of structs of two whole numbers. -/
import Derived.Test.YtjabpdepaldkfaaEvT
import Derived.WideShapes
import Derived.ChangeArms
import Derived.Lib.SmallJoins
namespace Go.Ev
open Go.RowKit

theorem inv_ro {w : World} {j : J} {cs : List V} {vs : List V} (hv : V.ltL 1 vs = true) (hb : j.b 0 < w.heap.size) (hc : V.ltL 1 cs = true) (hr : ∀ (x : Nat) v, cs[x]? = some v → w.cell? (j.at 0 x) = some (conc j v)) :
    Inv 0 ⟨w, [.ro cs], j⟩ j [] (vs.map SV.v) [] [.ro cs] false false w where
  os := rfl
  tape := rfl
  output := rfl
  size := Nat.le_refl _
  lts := by intro i hi; obtain rfl : i = 0 := by simpa using hi
            exact hb
  br := by
    intro i b hb'
    cases i with
    | zero => simp only [List.getElem?_cons_zero, Option.some.injEq] at hb'; subst hb'; exact hr
    | succ i => simp at hb'
  sep := by
    intro i b hb' ho
    cases i with
    | zero => simp only [List.getElem?_cons_zero, Option.some.injEq] at hb'; subst hb'; cases ho
    | succ i => simp at hb'
  ll := rfl
  lbr := by intro i b hi; simp at hi
  lnew := by intro k hk; simp at hk
  lnd := by intro k k' hk; simp at hk
  lsep := by intro k hk; simp at hk
  tml := by
    intro x hx
    obtain ⟨v, hv', rfl⟩ := List.mem_map.1 hx
    exact (ltL_iff _ _).1 hv v hv'
  Ll := by intro b hb; cases hb
  Hl := by intro b hb'; obtain rfl : b = .ro cs := by simpa using hb'
           exact hc
  n0 := Nat.le_refl _
  jold := J.Eq.refl _ _
  jnew := by intro i hi hi'; exact absurd hi' (Nat.not_lt.2 hi)
  frame := fun b hb hf => rfl
  kd := by
    intro i b hb'
    exact ⟨b, hb', by cases i with
      | zero => simp only [List.getElem?_cons_zero, Option.some.injEq] at hb'; subst hb'; rfl
      | succ i => simp at hb'⟩
  esc := by intro _ i b b' m h1 h2 hm; rw [h1] at h2; injection h2 with h2; subst h2; exact hm
  grow := fun _ => rfl
  glob := by intro i hi; cases hi
  gl := Nat.zero_le _

section
variable {H : Type} {enc : TypeId × Value → H} {P : Program} {w : World} {base : Nat} {sp : Nat → Bool} {held : Bool}

/-- a list out of single finds -/
theorem list_of {α : Type} {R : Nat → α → Prop} : ∀ n, (∀ i, i < n → ∃ a, R i a) → ∃ l : List α, l.length = n ∧ ∀ i (h : i < l.length), R i l[i]
  | 0, _ => ⟨[], rfl, fun i h => absurd h (Nat.not_lt_zero _)⟩
  | n + 1, h => by
    obtain ⟨l, hl, h2⟩ := list_of n (fun i hi => h i (Nat.lt_succ_of_lt hi))
    obtain ⟨a, ha⟩ := h n (Nat.lt_succ_self n)
    refine ⟨l ++ [a], by simp [hl], fun i hi => ?_⟩
    by_cases hlt : i < l.length
    · rw [List.getElem_append_left hlt]; exact h2 i hlt
    · have : i = n := by simp at hi; omega
      subst this
      rw [List.getElem_append_right (by omega)]
      simpa [hl] using ha

end
end Go.Ev
