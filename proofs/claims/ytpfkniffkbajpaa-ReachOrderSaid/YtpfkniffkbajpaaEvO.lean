/- Ev: a function's evaluation is what its code does. -/
import Derived.Test.YtpfkniffkbajpaaEvN
namespace Go.Ev
open Go.RowKit

theorem dec_elim {d : Bool} {A B R : Prop} (h : dec d A B) (a : d = true → A → R) (b : d = false → B → R) : R := by
  cases d
  · exact b rfl h
  · exact a rfl h

section
variable {P : Program} {G : Nat} {hp : Nat → Bool} {c : Cx} {C : CT}

theorem yielded_bool {all : Array Oper} {a : Act} {tm : List SV} {j : J} {ls : List Nat} (ha : a.tmps = (tm.map (concS j ls)).toArray) {i t : Nat} {q : Oper} (hq : all[i]? = some q) (hd : q.dst = some t) {x : Bool}
    (hg : gets tm t = .v (.bool x)) : yielded all a.tmps i = some x := by
  unfold yielded
  rw [hq]
  simp only [Option.bind_some, hd, ha, List.getElem?_toArray, List.getElem?_map]
  unfold gets at hg
  rw [List.getD_eq_getElem?_getD] at hg
  cases ht : tm[t]? with
  | none => rw [ht] at hg; simp at hg
  | some s => rw [ht] at hg; simp only [Option.getD_some] at hg; subst hg; rfl

theorem yielded_undef {all : Array Oper} {a : Act} {tm : List SV} {j : J} {ls : List Nat} (ha : a.tmps = (tm.map (concS j ls)).toArray) {i t : Nat} {q : Oper} (hq : all[i]? = some q) (hd : q.dst = some t)
    (hg : gets tm t = .v (.tup [])) : yielded all a.tmps i = none := by
  unfold yielded
  rw [hq]
  simp only [Option.bind_some, hd, ha, List.getElem?_toArray, List.getElem?_map]
  unfold gets at hg
  rw [List.getD_eq_getElem?_getD] at hg
  cases ht : tm[t]? with
  | none => rfl
  | some s => rw [ht] at hg; simp only [Option.getD_some] at hg; subst hg; rfl

theorem R.undef {tm L H e g} {a : Act} {w : World} (h : R G c tm L H e g a w) (d : Option Nat) : R G c (putL tm d undefV) L H e g (a.put d undef) w := by
  obtain ⟨j, ls, h, ha, hd⟩ := h
  exact ⟨j, ls, h.put (v := undefV) rfl d, put_tmps ha d undefV, put_defers hd d _⟩

theorem cOper_some {all : Array Oper} {o : Oper} {eo : EOper} (h : cOper P G hp all o = some eo) :
    cOp P G hp o = some eo.op ∧ eo.dst = o.dst ∧ ((o.guard = none ∧ eo.guard = none) ∨ ∃ i b q t, o.guard = some (i, b) ∧ all[i]? = some q ∧ q.dst = some t ∧ eo.guard = some (t, b)) := by
  unfold cOper at h
  split at h
  · rename_i op hop
    split at h
    · rename_i hg
      injection h with h; subst h
      exact ⟨hop, rfl, .inl ⟨hg, rfl⟩⟩
    · rename_i i b hg
      split at h
      · rename_i q hq
        split at h
        · rename_i t ht
          injection h with h; subst h
          exact ⟨hop, rfl, .inr ⟨i, b, q, t, hg, hq, ht, rfl⟩⟩
        · cases h
      · cases h
  · cases h

theorem cOpers_cons {all : Array Oper} {o : Oper} {l : List Oper} {el : List EOper} (h : cOpers P G hp all (o :: l) = some el) : ∃ a b, el = a :: b ∧ cOper P G hp all o = some a ∧ cOpers P G hp all l = some b := by
  unfold cOpers at h
  split at h
  · rename_i a b ha hb
    injection h with h; subst h
    exact ⟨a, b, rfl, ha, hb⟩
  · cases h

/-- A region in its order. -/
theorem ops_list {all : Array Oper} (hC : SndC P G C) {Q : Exit → Act → World → Prop} {K : Kt} (hK : ∀ tm L H e g a w, K tm L H e g → R G c tm L H e g a w → Q .normal a w) :
    ∀ (l : List Oper) (el : List EOper), cOpers P G hp all l = some el → ∀ tm L H e g a w, R G c tm L H e g a w → evOps C el tm L H e g K → wpList P all Q l a w := by
  intro l
  induction l with
  | nil =>
    intro el hc tm L H e g a w hR hev
    simp only [cOpers] at hc; injection hc with hc; subst hc
    exact hK _ _ _ _ _ _ _ hev hR
  | cons o l ih =>
    intro el hc tm L H e g a w hR hev
    obtain ⟨eo, el', rfl, ho, hl⟩ := cOpers_cons hc
    obtain ⟨hop, hdst, hgd⟩ := cOper_some ho
    have run : Region.wanted o (yielded all a.tmps) = true → (evOp C tm L H e g eo.op fun v L H e g => putS tm eo.dst v fun tm => evOps C el' tm L H e g K) → wpList P all Q (o :: l) a w := by
      intro hw hev
      unfold wpList
      rw [if_pos hw]
      left
      refine Oper.wp_mono ?_ (op_ok hC hR hop hev Q)
      rintro a' w' ⟨v, L', H', e', g', h1, h2⟩
      rw [hdst, putS_eq] at h1
      exact ih el' hl _ _ _ _ _ _ _ h2 h1
    have skip : Region.wanted o (yielded all a.tmps) = false → (putS tm eo.dst undefV fun tm => evOps C el' tm L H e g K) → wpList P all Q (o :: l) a w := by
      intro hw hev
      unfold wpList
      rw [if_neg (by rw [hw]; simp)]
      rw [hdst, putS_eq] at hev
      exact ih el' hl _ _ _ _ _ _ _ (hR.undef o.dst) hev
    unfold evOps at hev
    rcases hgd with ⟨h1, h2⟩ | ⟨i, b, q, t, h1, h2, h3, h4⟩
    · rw [h2] at hev
      exact run (by unfold Region.wanted; rw [h1]) hev
    · rw [h4] at hev
      simp only at hev
      obtain ⟨j, ls, hinv, ha, hd⟩ := id hR
      split at hev
      · rename_i x hx
        have hy := yielded_bool (all := all) ha h2 h3 hx
        have hw : Region.wanted o (yielded all a.tmps) = (x == b) := by
          unfold Region.wanted; rw [h1]; simp only [hy]; cases x <;> cases b <;> rfl
        cases b with
        | true =>
          refine dec_elim hev (fun hx1 h => run ?_ h) (fun hx1 h => skip ?_ h)
          · rw [hw, hx1]; rfl
          · rw [hw, hx1]; rfl
        | false =>
          refine dec_elim hev (fun hx1 h => skip ?_ h) (fun hx1 h => run ?_ h)
          · rw [hw, hx1]; rfl
          · rw [hw, hx1]; rfl
      · rename_i hx
        have hy := yielded_undef (all := all) ha h2 h3 hx
        refine skip ?_ hev
        unfold Region.wanted; rw [h1]; simp only [hy]; rfl
      · exact hev.elim

/-- A region whose order is drawn. -/
theorem any_list {all : Array Oper} (hC : SndC P G C) {j : J} {ls : List Nat} {L : List LB} {H : List B} {e g : Bool} {K : List SV → Prop} {K' : Act → Prop}
    (hK : ∀ tm a w, K tm → Inv G c j ls tm L H e g w → a.tmps = (tm.map (concS j ls)).toArray → a.defers = [] → K' a) :
    ∀ (l : List Oper) (el : List EOper), cOpers P G hp all l = some el → ∀ tm a w, Inv G c j ls tm L H e g w → a.tmps = (tm.map (concS j ls)).toArray → a.defers = [] → evAny C L H e g el tm K →
      silList P all (fun w => Inv G c j ls [] L H e g w) K' l a := by
  intro l
  induction l with
  | nil =>
    intro el hc tm a w hinv ha hd hev
    simp only [cOpers] at hc; injection hc with hc; subst hc
    exact hK _ _ _ hev hinv ha hd
  | cons o l ih =>
    intro el hc tm a w hinv ha hd hev
    obtain ⟨eo, el', rfl, ho, hl⟩ := cOpers_cons hc
    obtain ⟨hop, hdst, hgd⟩ := cOper_some ho
    have run : Region.wanted o (yielded all a.tmps) = true → (evS C tm L H e g eo.op fun v => putS tm eo.dst v fun tm => evAny C L H e g el' tm K) → silList P all (fun w => Inv G c j ls [] L H e g w) K' (o :: l) a := by
      intro hw hev
      obtain ⟨v, h1, h2, h3⟩ := op_sil hC hinv ha hop hev
      rw [hdst, putS_eq] at h1
      exact ⟨_, .inl ⟨hw, h3⟩, ih el' hl _ _ w (hinv.put h2 o.dst) (put_tmps ha o.dst v) (put_defers hd o.dst _) h1⟩
    have skip : Region.wanted o (yielded all a.tmps) = false → (putS tm eo.dst undefV fun tm => evAny C L H e g el' tm K) → silList P all (fun w => Inv G c j ls [] L H e g w) K' (o :: l) a := by
      intro hw hev
      rw [hdst, putS_eq] at hev
      exact ⟨_, .inr ⟨hw, rfl⟩, ih el' hl _ _ w (hinv.put (v := undefV) rfl o.dst) (put_tmps ha o.dst undefV) (put_defers hd o.dst _) hev⟩
    unfold evAny at hev
    rcases hgd with ⟨h1, h2⟩ | ⟨i, b, q, t, h1, h2, h3, h4⟩
    · rw [h2] at hev
      exact run (by unfold Region.wanted; rw [h1]) hev
    · rw [h4] at hev
      simp only at hev
      split at hev
      · rename_i x hx
        have hy := yielded_bool (all := all) ha h2 h3 hx
        have hw : Region.wanted o (yielded all a.tmps) = (x == b) := by
          unfold Region.wanted; rw [h1]; simp only [hy]; cases x <;> cases b <;> rfl
        cases b with
        | true =>
          refine dec_elim hev (fun hx1 h => run ?_ h) (fun hx1 h => skip ?_ h)
          · rw [hw, hx1]; rfl
          · rw [hw, hx1]; rfl
        | false =>
          refine dec_elim hev (fun hx1 h => skip ?_ h) (fun hx1 h => run ?_ h)
          · rw [hw, hx1]; rfl
          · rw [hw, hx1]; rfl
      · rename_i hx
        have hy := yielded_undef (all := all) ha h2 h3 hx
        refine skip ?_ hev
        unfold Region.wanted; rw [h1]; simp only [hy]; rfl
      · exact hev.elim

def exOf : Ex → Exit
  | .n => .normal
  | .x id => .exit id
  | .r => .ret

def QE (G : Nat) (c : Cx) (Q : KE) : Exit → Act → World → Prop := fun x a w => ∃ ex tm L H e g, x = exOf ex ∧ Q ex tm L H e g ∧ R G c tm L H e g a w

theorem code_ok (hm : P.follows .mixedOrders = true) (hC : SndC P G C) (k : Nat) : ∀ (code : Code) (ec : EC), cCode P G hp code = some ec → ∀ tm L H e g a w (Q : KE), R G c tm L H e g a w → evC C k ec tm L H e g Q →
    code.wp P (QE G c Q) a w := by
  intro code
  induction code with
  | skip =>
    intro ec hc tm L H e g a w Q hR hev
    simp only [cCode] at hc; injection hc with hc; subst hc
    exact wp_skip ⟨.n, tm, L, H, e, g, rfl, hev, hR⟩
  | region id ops d =>
    intro ec hc tm L H e g a w Q hR hev
    simp only [cCode] at hc
    split at hc
    · cases hc
    · rename_i hlex
      obtain ⟨el, hl, rfl⟩ := map_some hc
      cases d with
      | false =>
        simp only [evC] at hev
        exact wp_region_list (ops_list hC (K := fun tm L H e g => Q .n tm L H e g) (fun tm L H e g a w hq hR => ⟨.n, tm, L, H, e, g, rfl, hq, hR⟩) _ _ hl _ _ _ _ _ _ _ hR hev)
      | true =>
        simp only [evC] at hev
        obtain ⟨j, ls, hinv, ha, hd⟩ := hR
        have hB : Region.lexB .any ops = true := by simpa using hlex
        refine sil_region (S := fun w => Inv G c j ls [] L H e g w) (K := fun a => ∃ tm, Q .n tm L H e g ∧ (∀ x, x ∈ tm → x.ok H.length L.length = true) ∧ a.tmps = (tm.map (concS j ls)).toArray ∧ a.defers = []) hm hB ?_ ?_ ?_
        · rintro a' w' ⟨tm', h1, h2, h3, h4⟩ hS
          exact ⟨.n, tm', L, H, e, g, rfl, h1, j, ls, hS.setTm h2, h3, h4⟩
        · exact any_list hC (fun tm a w hq hi ha hd => ⟨tm, hq, hi.tml, ha, hd⟩) _ _ hl tm a w hinv ha hd hev
        · exact (hinv.setTm (tm' := []) (by simp)).drew
  | seq x y ihx ihy =>
    intro ec hc tm L H e g a w Q hR hev
    simp only [cCode] at hc
    split at hc
    · rename_i x' y' hx hy
      injection hc with hc; subst hc
      simp only [evC] at hev
      refine wp_seq (Code.wp_mono ?_ (ihx x' hx tm L H e g a w _ hR hev))
      rintro ex a' w' ⟨ex', tm', L', H', e', g', rfl, h1, h2⟩
      cases ex' with
      | n => exact ihy y' hy _ _ _ _ _ _ _ _ h2 h1
      | x id => exact ⟨.x id, tm', L', H', e', g', rfl, h1, h2⟩
      | r => exact ⟨.r, tm', L', H', e', g', rfl, h1, h2⟩
    · cases hc
  | cond x y z ihy ihz =>
    intro ec hc tm L H e g a w Q hR hev
    simp only [cCode] at hc
    split at hc
    · rename_i x' y' z' hx hy hz
      injection hc with hc; subst hc
      simp only [evC] at hev
      split at hev
      · rename_i t ht
        obtain ⟨j, ls, hinv, ha, hd⟩ := id hR
        obtain ⟨e1, _⟩ := opd_ok (hinv.ops ha) hx
        rw [ht] at e1
        refine wp_cond_split (t := t) (by rw [e1]; rfl) (fun h => ?_) (fun h => ?_)
        · subst h; exact ihy y' hy _ _ _ _ _ _ _ _ hR hev
        · subst h; exact ihz z' hz _ _ _ _ _ _ _ _ hR hev
      · exact hev.elim
    · cases hc
  | block id x ih =>
    intro ec hc tm L H e g a w Q hR hev
    simp only [cCode] at hc
    obtain ⟨x', hx, rfl⟩ := map_some hc
    simp only [evC] at hev
    refine wp_block (Code.wp_mono ?_ (ih x' hx tm L H e g a w _ hR hev))
    rintro ex a' w' ⟨ex', tm', L', H', e', g', rfl, h1, h2⟩
    cases ex' with
    | n => exact ⟨.n, tm', L', H', e', g', rfl, h1, h2⟩
    | x i =>
      simp only [exOf, Exit.inBlock]
      simp only at h1
      split
      · rename_i hi; rw [if_pos hi] at h1; exact ⟨.n, tm', L', H', e', g', rfl, h1, h2⟩
      · rename_i hi; rw [if_neg hi] at h1; exact ⟨.x i, tm', L', H', e', g', rfl, h1, h2⟩
    | r => exact ⟨.r, tm', L', H', e', g', rfl, h1, h2⟩
  | loop x ih =>
    intro ec hc tm L H e g a w Q hR hev
    simp only [cCode] at hc
    obtain ⟨x', hx, rfl⟩ := map_some hc
    simp only [evC] at hev
    have key : ∀ n tm L H e g a w, R G c tm L H e g a w → evLoop (evC C k x') n tm L H e g Q → Code.rounds P x (QE G c Q) n a w := by
      intro n
      induction n with
      | zero => intro tm L H e g a w _ h; exact h
      | succ n ihn =>
        intro tm L H e g a w hR h
        rw [rounds_succ]
        unfold evLoop at h
        refine Code.wp_mono ?_ (ih x' hx tm L H e g a w _ hR h)
        rintro ex a' w' ⟨ex', tm', L', H', e', g', rfl, h1, h2⟩
        cases ex' with
        | n => exact ihn _ _ _ _ _ _ _ h2 h1
        | x i => exact ⟨.x i, tm', L', H', e', g', rfl, h1, h2⟩
        | r => exact ⟨.r, tm', L', H', e', g', rfl, h1, h2⟩
    exact wp_loop_rounds k (key k _ _ _ _ _ _ _ hR hev)
  | exit id =>
    intro ec hc tm L H e g a w Q hR hev
    simp only [cCode] at hc; injection hc with hc; subst hc
    exact wp_exit ⟨.x id, tm, L, H, e, g, rfl, hev, hR⟩
  | ret =>
    intro ec hc tm L H e g a w Q hR hev
    simp only [cCode] at hc; injection hc with hc; subst hc
    exact wp_ret ⟨.r, tm, L, H, e, g, rfl, hev, hR⟩
  | _ => intro ec hc; simp only [cCode] at hc; cases hc
end
end Go.Ev
