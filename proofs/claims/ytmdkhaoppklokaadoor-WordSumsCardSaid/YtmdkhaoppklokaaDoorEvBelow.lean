/- texts joined -/
import Derived.Test.YtmdkhaoppklokaaDoorEvBits
import Derived.RangeFuncFrom
import Derived.RangeFuncBox
import Derived.Shelf.Abstract
set_option linter.all false
namespace Go.Ev
open Go Go.Proofs Go.RowKit Go.Shelf
theorem BR_below {j : J} {w w' : World} {i : Nat} {b : B} (h : BR j w i b) (hi : j.b i < w.heap.size) (hb : Below w.heap.size w w') : BR j w' i b := by
  have e := hb.block _ hi
  cases b with
  | ro cs =>
    intro x v hx
    rw [← h x v hx]
    simp only [World.cell?, J.at, e]
  | rw ty cs => exact ⟨h.1, e.trans h.2⟩
  | mp es => exact e.trans h
theorem Inv.below {G : Nat} {j : J} {w w' : World} {tm : List SV} {H : List B} (h : Inv G ⟨w, H, j⟩ j [] tm [] H false false w) (hb : Below w.heap.size w w') {v : V} (hv : v.lt H.length = true) : Inv G ⟨w, H, j⟩ j [] [.v v] [] H false false w' where
  os := hb.os
  tape := hb.tape
  output := hb.output
  size := hb.size
  lts := fun i hi => Nat.lt_of_lt_of_le (h.lts i hi) hb.size
  br := fun i b hi => BR_below (h.br i b hi) (h.lts i (List.getElem?_eq_some_iff.1 hi).1) hb
  sep := h.sep
  ll := rfl
  lbr := by intro i b hi; simp at hi
  lnew := by intro k hk; simp at hk
  lnd := by intro k k' hk; simp at hk
  lsep := by intro k hk; simp at hk
  tml := by
    intro x hx
    obtain rfl := List.mem_singleton.1 hx
    exact hv
  Ll := by intro b hb; simp at hb
  Hl := h.Hl
  n0 := Nat.le_refl _
  jold := J.Eq.refl _ _
  jnew := by intro i h1 h2; exact absurd h2 (Nat.not_lt.2 h1)
  frame := fun b hb' _ => hb.block b hb'
  kd := h.kd
  esc := h.esc
  grow := fun _ => rfl
  glob := h.glob
  gl := h.gl
theorem snd_of_below {P : Program} {G : Nat} {f : Nat} {s : Sp} (hs : ∀ vs H Q, s vs H Q → Has P f ∧ ∃ v : V, v.lt H.length = true ∧ Q v H false false ∧ ∀ j w, Inv G ⟨w, H, j⟩ j [] (vs.map SV.v) [] H false false w → Calls P f (concL j vs).toArray w fun r w' => r = .returned (conc j v) ∧ Below w.heap.size w w') : Snd P G f s := by
  intro vs H Q h
  obtain ⟨h1, v, hv, hq, hc⟩ := hs vs H Q h
  refine ⟨h1, fun j w hi => ?_⟩
  refine (hc j w hi).mono fun r w' hr => ?_
  exact ⟨v, H, false, false, j, hq, hr.1, hi.below hr.2 hv⟩
end Go.Ev

set_option linter.all false
namespace Go.Ev
open Go Go.Proofs Go.RowKit Go.Shelf
end Go.Ev
