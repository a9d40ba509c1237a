/- texts joined -/
import Derived.Test.YtmdkhaoppklokaaDoorEvBits
import Derived.RangeFuncFrom
import Derived.RangeFuncBox
import Derived.Shelf.Abstract
set_option linter.all false
namespace Go.Ev
open Go Go.Proofs Go.RowKit Go.Shelf
theorem BR_below {j : J} {w w' : World} {i : Nat} {b : B} (h : BR j w i b) (hi : j.b i < w.heap.size) (hb : Below w.heap.size w w') : BR j w' i b := by
  have e := hb.block _ hi
  cases b with
  | ro cs =>
    intro x v hx
    rw [← h x v hx]
    simp only [World.cell?, J.at, e]
  | rw ty cs => exact ⟨h.1, e.trans h.2⟩
  | mp es => exact e.trans h
theorem Inv.below {G : Nat} {j : J} {w w' : World} {tm : List SV} {H : List B} (h : Inv G ⟨w, H, j⟩ j [] tm [] H false false w) (hb : Below w.heap.size w w') {v : V} (hv : v.lt H.length = true) : Inv G ⟨w, H, j⟩ j [] [.v v] [] H false false w' where
  os := hb.os
  tape := hb.tape
  output := hb.output
  size := hb.size
  lts := fun i hi => Nat.lt_of_lt_of_le (h.lts i hi) hb.size
  br := fun i b hi => BR_below (h.br i b hi) (h.lts i (List.getElem?_eq_some_iff.1 hi).1) hb
  sep := h.sep
  ll := rfl
  lbr := by intro i b hi; simp at hi
  lnew := by intro k hk; simp at hk
  lnd := by intro k k' hk; simp at hk
  lsep := by intro k hk; simp at hk
  tml := by
    intro x hx
    obtain rfl := List.mem_singleton.1 hx
    exact hv
  Ll := by intro b hb; simp at hb
  Hl := h.Hl
  n0 := Nat.le_refl _
  jold := J.Eq.refl _ _
  jnew := by intro i h1 h2; exact absurd h2 (Nat.not_lt.2 h1)
  frame := fun b hb' _ => hb.block b hb'
  kd := h.kd
  esc := h.esc
  grow := fun _ => rfl
  glob := h.glob
  gl := h.gl
theorem snd_of_below {P : Program} {G : Nat} {f : Nat} {s : Sp} (hs : ∀ vs H Q, s vs H Q → Has P f ∧ ∃ v : V, v.lt H.length = true ∧ Q v H false false ∧ ∀ j w, Inv G ⟨w, H, j⟩ j [] (vs.map SV.v) [] H false false w → Calls P f (concL j vs).toArray w fun r w' => r = .returned (conc j v) ∧ Below w.heap.size w w') : Snd P G f s := by
  intro vs H Q h
  obtain ⟨h1, v, hv, hq, hc⟩ := hs vs H Q h
  refine ⟨h1, fun j w hi => ?_⟩
  refine (hc j w hi).mono fun r w' hr => ?_
  exact ⟨v, H, false, false, j, hq, hr.1, hi.below hr.2 hv⟩
end Go.Ev

set_option linter.all false
namespace Go.Ev
open Go Go.Proofs Go.RowKit Go.Shelf
theorem Inv.restart {G : Nat} {j : J} {w w1 : World} {vs0 vs : List V} {H : List B} (h : Inv G ⟨w, H, j⟩ j [] (vs0.map SV.v) [] H false false w) (hb : Below w.heap.size w w1) (hv : V.ltL H.length vs = true) : Inv G ⟨w1, H, j⟩ j [] (vs.map SV.v) [] H false false w1 where
  os := rfl
  tape := rfl
  output := rfl
  size := Nat.le_refl _
  lts := fun i hi => Nat.lt_of_lt_of_le (h.lts i hi) hb.size
  br := fun i b hi => BR_below (h.br i b hi) (h.lts i (List.getElem?_eq_some_iff.1 hi).1) hb
  sep := h.sep
  ll := rfl
  lbr := by intro i b hi; simp at hi
  lnew := by intro k hk; simp at hk
  lnd := by intro k k' hk; simp at hk
  lsep := by intro k hk; simp at hk
  tml := by
    intro x hx
    obtain ⟨v, hv', rfl⟩ := List.mem_map.1 hx
    exact (ltL_iff _ _).1 hv v hv'
  Ll := by intro b hb; simp at hb
  Hl := h.Hl
  n0 := Nat.le_refl _
  jold := J.Eq.refl _ _
  jnew := by intro i h1 h2; exact absurd h2 (Nat.not_lt.2 h1)
  frame := fun b hb' _ => rfl
  kd := h.kd
  esc := h.esc
  grow := fun _ => rfl
  glob := h.glob
  gl := h.gl
theorem law_callsG {P : Program} {G f : Nat} {s : Sp} (hs : Snd P G f s) {w : World} {H : List B} {j : J} {vs : List V} (hi : Inv G ⟨w, H, j⟩ j [] (vs.map SV.v) [] H false false w) {v0 : V} (hv0 : v0.lt 0 = true)
    (hk : s vs H fun v H' e g => v = v0 ∧ H' = H ∧ e = false ∧ g = false) : Calls P f (concL j vs).toArray w fun e w' => e = .returned (conc j v0) ∧ Below w.heap.size w w' := by
  obtain ⟨_, h⟩ := hs vs H _ hk
  refine (h j w hi).mono ?_
  rintro r w' ⟨v, H', e, g, j', ⟨rfl, rfl, rfl, rfl⟩, rfl, hinv⟩
  have hj0 : J.Eq 0 j j' := ⟨fun i h => absurd h (Nat.not_lt_zero _), fun i h => absurd h (Nat.not_lt_zero _)⟩
  refine ⟨by rw [conc_eq hj0 v hv0], ⟨hinv.os, hinv.tape, hinv.output, hinv.size, fun k hk => ?_⟩⟩
  by_cases hx : ∃ i b, H'[i]? = some b ∧ b.own = true ∧ j.b i = k
  · obtain ⟨i, b, hb, ho, rfl⟩ := hx
    have hlt : i < H'.length := (List.getElem?_eq_some_iff.1 hb).1
    have e1 := hi.br i b hb
    have e2 := hinv.br i b hb
    have ej := hinv.jold.b i hlt
    have hl := hi.Hl b (List.mem_of_getElem? hb)
    cases b with
    | ro cs => cases ho
    | rw ty cs =>
      have h2 := e2.2
      rw [ej, concL_eq hinv.jold cs hl] at h2
      exact h2.trans e1.2.symm
    | mp es =>
      have h2 : w'.heap[j'.b i]? = some (.map (mpc j' es) es.length) := e2
      rw [ej, mpc_eq hinv.jold hl] at h2
      exact h2.trans (show w.heap[j.b i]? = some (.map (mpc j es) es.length) from e1).symm
  · exact hinv.frame k hk (fun i b hb ho he => hx ⟨i, b, hb, ho, he⟩)
end Go.Ev
