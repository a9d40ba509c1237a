/- Ev: a function's contract. -/
import Derived.Test.YtmdkhaoppklokaaDoorEvO
namespace Go.Ev
open Go.RowKit

section
variable {P : Program} {G : Nat} {hp : Nat → Bool} {C : CT} {c : Cx}

def resOf (tmps : Array Value) : ResultVar → Sem Value
  | .tmp t => pure (tmps.getD t undef)
  | .cell a t => do loadVar t (← asAddr (tmps.getD a undef))

theorem getD_tmps {j : J} {ls : List Nat} {tm : List SV} (t : Nat) : (tm.map (concS j ls)).toArray.getD t undef = concS j ls (gets tm t) := by
  unfold gets
  rw [Array.getD_eq_getD_getElem?, List.getElem?_toArray, List.getElem?_map, List.getD_eq_getElem?_getD]
  cases tm[t]? <;> rfl

theorem res_ok {j : J} {ls : List Nat} {tm : List SV} {L : List LB} {H : List B} {e g : Bool} {w : World} (h : Inv G c j ls tm L H e g w) : ∀ (l : List ResultVar) (el : List ERes), cRes P l = some el → ∀ vs, evRes tm L H el = some vs →
    (l.mapM (resOf (tm.map (concS j ls)).toArray)).run P w = .ok (concL j vs) w ∧ V.ltL H.length vs = true := by
  intro l
  induction l with
  | nil =>
    intro el hc vs hv
    simp only [cRes] at hc; injection hc with hc; subst hc
    simp only [evRes] at hv; injection hv with hv; subst hv
    exact ⟨rfl, rfl⟩
  | cons r l ih =>
    intro el hc vs hv
    have step : ∀ (er : ERes) (el' : List ERes), el = er :: el' → cRes P l = some el' → (∀ v, evRes1 tm L H er = some v → (resOf (tm.map (concS j ls)).toArray r).run P w = .ok (conc j v) w ∧ v.lt H.length = true) →
        ((r :: l).mapM (resOf (tm.map (concS j ls)).toArray)).run P w = .ok (concL j vs) w ∧ V.ltL H.length vs = true := by
      intro er el' he hl hr
      subst he
      unfold evRes at hv
      split at hv
      · rename_i v hv1
        split at hv
        · rename_i vs' hvs
          injection hv with hv; subst hv
          obtain ⟨r1, r2⟩ := hr v hv1
          obtain ⟨i1, i2⟩ := ih el' hl vs' hvs
          refine ⟨?_, by simp [V.ltL, r2, i2]⟩
          rw [List.mapM_cons]
          simp only [Sem.run_bind, r1, Result.andThen, i1, Sem.run_pure]
          rfl
        · cases hv
      · cases hv
    cases r with
    | tmp t =>
      simp only [cRes] at hc
      obtain ⟨el', hl, rfl⟩ := map_some hc
      refine step _ _ rfl hl ?_
      intro v hv1
      simp only [evRes1] at hv1
      split at hv1
      · rename_i u hu
        injection hv1 with hv1; subst hv1
        refine ⟨?_, ?_⟩
        · simp only [resOf, getD_tmps, hu]; rfl
        · have := h.gets t; rw [hu] at this; exact this
      · cases hv1
    | cell a t =>
      simp only [cRes] at hc
      split at hc
      · rename_i n el' hag hn hl
        injection hc with hc; subst hc
        refine step _ _ rfl hl ?_
        intro v hv1
        simp only [evRes1] at hv1
        split at hv1
        · rename_i i o hu
          split at hv1
          · rename_i cs hcs
            injection hv1 with hv1; subst hv1
            obtain ⟨c1, c2, c3⟩ := rd_cell h hcs
            refine ⟨?_, c2⟩
            simp only [resOf, getD_tmps, hu, concS, conc, asAddr, Sem.run_bind, Sem.run_pure, Result.andThen]
            exact r_load hag hn (cs := cs) (v := .agg cs) rfl c1 c3
          · cases hv1
        · rename_i i o hu
          split at hv1
          · rename_i b hb
            split at hv1
            · rename_i cs hcs
              injection hv1 with hv1; subst hv1
              obtain ⟨c1, c2, c3⟩ := local_cell h hb hcs
              refine ⟨?_, c2⟩
              simp only [resOf, getD_tmps, hu, concS, asAddr, Sem.run_bind, Sem.run_pure, Result.andThen]
              exact r_load hag hn (cs := cs) (v := .agg cs) rfl c1 c3
            · cases hv1
          · cases hv1
        · cases hv1
      · cases hc

theorem results_eq (fn : Func) (tmps : Array Value) : results fn tmps = (do let vs ← fn.results.mapM (resOf tmps); pure (if h : vs.size = 1 then vs[0] else .tuple vs)) := by
  unfold results
  congr 1
  first
    | (congr 1; funext r; cases r <;> rfl)
    | (funext r; cases r <;> rfl)
    | skip

theorem results_ok {j : J} {ls : List Nat} {tm : List SV} {L : List LB} {H : List B} {e g : Bool} {w : World} (h : Inv G c j ls tm L H e g w) {fn : Func} {el : List ERes} (hc : cRes P fn.results.toList = some el) {vs : List V} (hv : evRes tm L H el = some vs)
    {a : Act} (ha : a.tmps = (tm.map (concS j ls)).toArray) : (results fn a.tmps).run P w = .ok (conc j (one1 vs)) w ∧ (one1 vs).lt H.length = true := by
  obtain ⟨r1, r2⟩ := res_ok h _ _ hc _ hv
  have hlt : (one1 vs).lt H.length = true := by
    unfold one1
    split
    · rename_i v; simp only [V.ltL, Bool.and_true] at r2; exact r2
    · exact r2
  refine ⟨?_, hlt⟩
  rw [results_eq, ha]
  have hm : (fn.results.mapM (resOf (tm.map (concS j ls)).toArray)).run P w = .ok (concL j vs).toArray w := by
    rw [Array.mapM_eq_mapM_toList]
    simp only [map_eq_pure_bind, Sem.run_bind, r1, Result.andThen, Sem.run_pure]
  simp only [Sem.run_bind, hm, Result.andThen, Sem.run_pure]
  have key : (if h : (concL j vs).toArray.size = 1 then (concL j vs).toArray[0] else Value.tuple (concL j vs).toArray) = conc j (one1 vs) := by
    match vs with
    | [] => rfl
    | [v] => rfl
    | u :: v :: r => rfl
  rw [key]

/-- The variables of the call fall away. -/
theorem Inv.dropL {j : J} {ls : List Nat} {tm : List SV} {L : List LB} {H : List B} {e g : Bool} {w : World} (h : Inv G c j ls tm L H e g w) {v : V} (hv : v.lt H.length = true) : Inv G c j [] [.v v] [] H e g w :=
  { h with
    ll := rfl
    lbr := by intro i b hi; simp at hi
    lnew := by intro k hk; simp at hk
    lnd := by intro k k' hk; simp at hk
    lsep := by intro k hk; simp at hk
    tml := by intro x hx; simp only [List.mem_singleton] at hx; subst hx; exact hv
    Ll := by intro b hb; cases hb }

/-- What was made and isn't named falls away. -/
theorem Inv.cutH {w0 : World} {H0 : List B} {j0 j : J} {H : List B} {g : Bool} {w : World} {v : V} (h : Inv G ⟨w0, H0, j0⟩ j [] [.v v] [] H false g w) (h0 : ∀ b, b ∈ H0 → b.lt H0.length = true) (hG : G ≤ H0.length) (hv : v.lt H0.length = true) :
    Inv G ⟨w0, H0, j0⟩ j [] [.v v] [] (H.take H0.length) false false w := by
  have hlen : (H.take H0.length).length = H0.length := by
    rw [List.length_take]; exact Nat.min_eq_left h.n0
  have hget : ∀ i, i < H0.length → (H.take H0.length)[i]? = H[i]? := fun i hi => by rw [List.getElem?_take]; rw [if_pos hi]
  have hin : ∀ {i : Nat} {b : B}, (H.take H0.length)[i]? = some b → i < H0.length := fun {i b} hb => by
    have := (List.getElem?_eq_some_iff.1 hb).1; rw [hlen] at this; exact this
  have hle : H0.length ≤ H.length := h.n0
  have hb0 : ∀ {i : Nat} {b : B}, (H.take H0.length)[i]? = some b → b.lt H0.length = true := fun {i b} hb => by
    have hi := hin hb
    rw [hget i hi] at hb
    exact h.esc rfl i (H0[i]'hi) b H0.length (List.getElem?_eq_getElem hi) hb (h0 _ (List.getElem_mem hi))
  refine { h with lts := ?_, br := ?_, sep := ?_, lsep := ?_, tml := ?_, Ll := ?_, Hl := ?_, n0 := ?_, jnew := ?_, kd := ?_, esc := ?_, grow := ?_, gl := ?_ }
  · intro i hi; rw [hlen] at hi; exact h.lts i (Nat.lt_of_lt_of_le hi hle)
  · intro i b hb; rw [hget i (hin hb)] at hb; exact h.br i b hb
  · intro i b hb ho i' hi' hne
    rw [hlen] at hi'
    rw [hget i (hin hb)] at hb
    exact h.sep i b hb ho i' (Nat.lt_of_lt_of_le hi' hle) hne
  · intro k hk; simp at hk
  · intro x hx; simp only [List.mem_singleton] at hx; subst hx; rw [hlen]; exact hv
  · intro b hb; cases hb
  · intro b hb
    obtain ⟨i, hi⟩ := List.getElem?_of_mem hb
    rw [hlen]; exact hb0 hi
  · rw [hlen]; exact Nat.le_refl _
  · intro i hi hi'; rw [hlen] at hi'; exact absurd hi' (Nat.not_lt.2 hi)
  · intro i b hb
    have hi : i < H0.length := (List.getElem?_eq_some_iff.1 hb).1
    rw [hget i hi]; exact h.kd i b hb
  · intro _ i b b' m hb hb' hm
    have hi : i < H0.length := (List.getElem?_eq_some_iff.1 hb).1
    rw [hget i hi] at hb'; exact h.esc rfl i b b' m hb hb' hm
  · intro _; exact hlen
  · rw [hlen]; exact hG

theorem fun_ok (hm : P.follows .mixedOrders = true) (hC : SndC P G C) {f : Nat} {fn : Func} {ef : EFun} (hf : P.funcs[f]? = some fn) (hn : (fn.name == "runtime.NumGoroutine") = false) (hc : cFun P G hp fn = some ef)
    {k : Nat} {vs : List V} {H : List B} {Q : Post} (hev : evFun C k ef vs H Q) : Has P f ∧ ∀ j w, Inv G ⟨w, H, j⟩ j [] (vs.map SV.v) [] H false false w →
  Calls P f (concL j vs).toArray w fun r w' => ∃ v H' e g j', Q v H' e g ∧ r = .returned (conc j' v) ∧ Inv G ⟨w, H, j⟩ j' [] [.v v] [] H' e g w' := by
  unfold cFun at hc
  split at hc
  · rename_i code hb
    split at hc
    · rename_i ec er hec her
      injection hc with hc; subst hc
      refine ⟨⟨fn, hf, hn, by rw [hb]; rfl⟩, fun j w h => ?_⟩
      refine calls_of_wp hf hb ?_
      have htm : ((concL j vs).toArray ++ Array.replicate (fn.ntmps - (concL j vs).toArray.size) undef) = ((enterS { nt := fn.ntmps, res := er, body := ec } vs).map (concS j [])).toArray := by
        apply Array.toList_inj.mp
        simp only [enterS, Array.toList_append, Array.toList_replicate, List.map_append, List.map_replicate, List.size_toArray, concL_map, List.map_map, List.length_map]
        rfl
      rw [htm]
      have hR : R G ⟨w, H, j⟩ (enterS { nt := fn.ntmps, res := er, body := ec } vs) [] H false false { tmps := ((enterS { nt := fn.ntmps, res := er, body := ec } vs).map (concS j [])).toArray, defers := [] } w := by
        refine ⟨j, [], h.setTm ?_, rfl, rfl⟩
        intro x hx
        simp only [enterS, List.mem_append, List.mem_replicate] at hx
        rcases hx with hx | hx
        · exact h.tml x hx
        · rw [hx.2]; rfl
      refine Code.wp_mono ?_ (code_ok hm hC k code ec hec _ _ _ _ _ _ _ _ hR ((rC_eq C k ec) ▸ ((fT_eq _ _).mp hev)))
      rintro ex a' w' ⟨ex', tm', L', H', e', g', rfl, h1, h2⟩
      have fin_ok : (match evRes tm' L' H' er with
          | some vs => fin H.length (one1 vs) H' e' g' Q
          | none => False) → a'.defers = [] ∧ ∃ v, (results fn a'.tmps).run P w' = .ok v w' ∧ (fun r w' => ∃ v H' e g j', Q v H' e g ∧ r = Ending.returned (conc j' v) ∧ Inv G ⟨w, H, j⟩ j' [] [.v v] [] H' e g w') (.returned v) w' := by
        intro q1
        obtain ⟨j', ls', hinv, ha, hd⟩ := h2
        split at q1
        · rename_i vs' hvs
          obtain ⟨r1, r2⟩ := results_ok hinv her hvs ha
          refine ⟨hd, _, r1, ?_⟩
          have hL := hinv.dropL r2
          unfold fin at q1
          split at q1
          · exact ⟨_, _, _, _, j', q1, rfl, hL⟩
          · split at q1
            · rename_i he
              simp only [Bool.and_eq_true, Bool.not_eq_true'] at he
              obtain ⟨he1, he2⟩ := he
              subst he1
              rw [gH_eq] at q1
              exact ⟨_, _, _, _, j', q1, rfl, hL.cutH h.Hl h.gl he2⟩
            · exact ⟨_, _, _, _, j', q1, rfl, hL⟩
        · exact q1.elim
      cases ex' with
      | n => exact fin_ok h1
      | x id => exact h1.elim
      | r => exact fin_ok h1
    · cases hc
  · cases hc

theorem snd_of_ev (hm : P.follows .mixedOrders = true) (hC : SndC P G C) {f : Nat} {fn : Func} {ef : EFun} (hf : P.funcs[f]? = some fn) (hn : (fn.name == "runtime.NumGoroutine") = false) (hc : cFun P G hp fn = some ef)
    {s : Sp} (k : Nat) (hs : ∀ vs H Q, s vs H Q → evFun C k ef vs H Q) : Snd P G f s := fun vs H Q h => fun_ok hm hC hf hn hc (hs vs H Q h)

theorem sndC_nil : SndC P G (tab []) := fun _ _ _ _ h => h.elim
theorem sndC_cons {n : Nat} {s : Sp} {l : List (Nat × Sp)} (h : Snd P G n s) (hl : SndC P G (tab l)) : SndC P G (tab ((n, s) :: l)) := by
  intro f
  show Snd P G f (if f = n then s else tab l f)
  split
  · rename_i hf; subst hf; exact h
  · exact hl f
end
end Go.Ev
