/- Ev: a contract used within the kit's own walk, whatever memory it is called in. -/
import Derived.Test.YtmdkhaoppklokaaDoorEvBelow
set_option linter.all false
namespace Go.Ev
open Go Go.Proofs Go.RowKit Go.Shelf
theorem Inv.restart {G : Nat} {j : J} {w w1 : World} {vs0 vs : List V} {H : List B} (h : Inv G ⟨w, H, j⟩ j [] (vs0.map SV.v) [] H false false w) (hb : Below w.heap.size w w1) (hv : V.ltL H.length vs = true) : Inv G ⟨w1, H, j⟩ j [] (vs.map SV.v) [] H false false w1 where
  os := rfl
  tape := rfl
  output := rfl
  size := Nat.le_refl _
  lts := fun i hi => Nat.lt_of_lt_of_le (h.lts i hi) hb.size
  br := fun i b hi => BR_below (h.br i b hi) (h.lts i (List.getElem?_eq_some_iff.1 hi).1) hb
  sep := h.sep
  ll := rfl
  lbr := by intro i b hi; simp at hi
  lnew := by intro k hk; simp at hk
  lnd := by intro k k' hk; simp at hk
  lsep := by intro k hk; simp at hk
  tml := by
    intro x hx
    obtain ⟨v, hv', rfl⟩ := List.mem_map.1 hx
    exact (ltL_iff _ _).1 hv v hv'
  Ll := by intro b hb; simp at hb
  Hl := h.Hl
  n0 := Nat.le_refl _
  jold := J.Eq.refl _ _
  jnew := by intro i h1 h2; exact absurd h2 (Nat.not_lt.2 h1)
  frame := fun b hb' _ => rfl
  kd := h.kd
  esc := h.esc
  grow := fun _ => rfl
  glob := h.glob
  gl := h.gl
theorem law_callsG {P : Program} {G f : Nat} {s : Sp} (hs : Snd P G f s) {w : World} {H : List B} {j : J} {vs : List V} (hi : Inv G ⟨w, H, j⟩ j [] (vs.map SV.v) [] H false false w) {v0 : V} (hv0 : v0.lt 0 = true)
    (hk : s vs H fun v H' e g => v = v0 ∧ H' = H ∧ e = false ∧ g = false) : Calls P f (concL j vs).toArray w fun e w' => e = .returned (conc j v0) ∧ Below w.heap.size w w' := by
  obtain ⟨_, h⟩ := hs vs H _ hk
  refine (h j w hi).mono ?_
  rintro r w' ⟨v, H', e, g, j', ⟨rfl, rfl, rfl, rfl⟩, rfl, hinv⟩
  have hj0 : J.Eq 0 j j' := ⟨fun i h => absurd h (Nat.not_lt_zero _), fun i h => absurd h (Nat.not_lt_zero _)⟩
  refine ⟨by rw [conc_eq hj0 v hv0], ⟨hinv.os, hinv.tape, hinv.output, hinv.size, fun k hk => ?_⟩⟩
  by_cases hx : ∃ i b, H'[i]? = some b ∧ b.own = true ∧ j.b i = k
  · obtain ⟨i, b, hb, ho, rfl⟩ := hx
    have hlt : i < H'.length := (List.getElem?_eq_some_iff.1 hb).1
    have e1 := hi.br i b hb
    have e2 := hinv.br i b hb
    have ej := hinv.jold.b i hlt
    have hl := hi.Hl b (List.mem_of_getElem? hb)
    cases b with
    | ro cs => cases ho
    | rw ty cs =>
      have h2 := e2.2
      rw [ej, concL_eq hinv.jold cs hl] at h2
      exact h2.trans e1.2.symm
    | mp es =>
      have h2 : w'.heap[j'.b i]? = some (.map (mpc j' es) es.length) := e2
      rw [ej, mpc_eq hinv.jold hl] at h2
      exact h2.trans (show w.heap[j.b i]? = some (.map (mpc j es) es.length) from e1).symm
  · exact hinv.frame k hk (fun i b hb ho he => hx ⟨i, b, hb, ho, he⟩)
end Go.Ev
