/- Ev: a function's evaluation is what its code does. -/
import Derived.Test.YtmdkhaoppklokaaDoorEvR
import Derived.OrdersHeld
namespace Go.Ev
open Go.RowKit

theorem dec_elim {d : Bool} {A B R : Prop} (h : dec d A B) (a : d = true → A → R) (b : d = false → B → R) : R := by
  cases d
  · exact b rfl h
  · exact a rfl h

section
variable {P : Program} {G : Nat} {hp : Nat → Bool} {c : Cx} {C : CT}

theorem yielded_bool {all : Array Oper} {a : Act} {tm : List SV} {j : J} {ls : List Nat} (ha : a.tmps = (tm.map (concS j ls)).toArray) {i t : Nat} {q : Oper} (hq : all[i]? = some q) (hd : q.dst = some t) {x : Bool}
    (hg : gets tm t = .v (.bool x)) : yielded all a.tmps i = some x := by
  unfold yielded
  rw [hq]
  simp only [Option.bind_some, hd, ha, List.getElem?_toArray, List.getElem?_map]
  unfold gets at hg
  rw [List.getD_eq_getElem?_getD] at hg
  cases ht : tm[t]? with
  | none => rw [ht] at hg; simp at hg
  | some s => rw [ht] at hg; simp only [Option.getD_some] at hg; subst hg; rfl

theorem yielded_undef {all : Array Oper} {a : Act} {tm : List SV} {j : J} {ls : List Nat} (ha : a.tmps = (tm.map (concS j ls)).toArray) {i t : Nat} {q : Oper} (hq : all[i]? = some q) (hd : q.dst = some t)
    (hg : gets tm t = .v (.tup [])) : yielded all a.tmps i = none := by
  unfold yielded
  rw [hq]
  simp only [Option.bind_some, hd, ha, List.getElem?_toArray, List.getElem?_map]
  unfold gets at hg
  rw [List.getD_eq_getElem?_getD] at hg
  cases ht : tm[t]? with
  | none => rfl
  | some s => rw [ht] at hg; simp only [Option.getD_some] at hg; subst hg; rfl

theorem R.undef {tm L H e g} {a : Act} {w : World} (h : R G c tm L H e g a w) (d : Option Nat) : R G c (putL tm d undefV) L H e g (a.put d undef) w := by
  obtain ⟨j, ls, h, ha, hd⟩ := h
  exact ⟨j, ls, h.put (v := undefV) rfl d, put_tmps ha d undefV, put_defers hd d _⟩

theorem cOper_some {all : Array Oper} {o : Oper} {eo : EOper} (h : cOper P G hp all o = some eo) :
    cOp P G hp o = some eo.op ∧ eo.dst = o.dst ∧ ((o.guard = none ∧ eo.guard = none) ∨ ∃ i b q t, o.guard = some (i, b) ∧ all[i]? = some q ∧ q.dst = some t ∧ eo.guard = some (t, b)) := by
  unfold cOper at h
  split at h
  · rename_i op hop
    split at h
    · rename_i hg
      injection h with h; subst h
      exact ⟨hop, rfl, .inl ⟨hg, rfl⟩⟩
    · rename_i i b hg
      split at h
      · rename_i q hq
        split at h
        · rename_i t ht
          injection h with h; subst h
          exact ⟨hop, rfl, .inr ⟨i, b, q, t, hg, hq, ht, rfl⟩⟩
        · cases h
      · cases h
  · cases h

theorem cOpers_cons {all : Array Oper} {o : Oper} {l : List Oper} {el : List EOper} (h : cOpers P G hp all (o :: l) = some el) : ∃ a b, el = a :: b ∧ cOper P G hp all o = some a ∧ cOpers P G hp all l = some b := by
  unfold cOpers at h
  split at h
  · rename_i a b ha hb
    injection h with h; subst h
    exact ⟨a, b, rfl, ha, hb⟩
  · cases h

/-- A region in its order. -/
theorem ops_list {all : Array Oper} (hC : SndC P G C) {Q : Exit → Act → World → Prop} {K : Kt} (hK : ∀ tm L H e g a w, K tm L H e g → R G c tm L H e g a w → Q .normal a w) :
    ∀ (l : List Oper) (el : List EOper), cOpers P G hp all l = some el → ∀ tm L H e g a w, R G c tm L H e g a w → evOps C el tm L H e g K → wpList P all Q l a w := by
  intro l
  induction l with
  | nil =>
    intro el hc tm L H e g a w hR hev
    simp only [cOpers] at hc; injection hc with hc; subst hc
    exact hK _ _ _ _ _ _ _ hev hR
  | cons o l ih =>
    intro el hc tm L H e g a w hR hev
    obtain ⟨eo, el', rfl, ho, hl⟩ := cOpers_cons hc
    obtain ⟨hop, hdst, hgd⟩ := cOper_some ho
    have run : Region.wanted o (yielded all a.tmps) = true → (evOp C tm L H e g eo.op fun v L H e g => putS tm eo.dst v fun tm => evOps C el' tm L H e g K) → wpList P all Q (o :: l) a w := by
      intro hw hev
      unfold wpList
      rw [if_pos hw]
      left
      refine Oper.wp_mono ?_ (op_ok hC hR hop hev Q)
      rintro a' w' ⟨v, L', H', e', g', h1, h2⟩
      rw [hdst, putS_eq] at h1
      exact ih el' hl _ _ _ _ _ _ _ h2 h1
    have skip : Region.wanted o (yielded all a.tmps) = false → (putS tm eo.dst undefV fun tm => evOps C el' tm L H e g K) → wpList P all Q (o :: l) a w := by
      intro hw hev
      unfold wpList
      rw [if_neg (by rw [hw]; simp)]
      rw [hdst, putS_eq] at hev
      exact ih el' hl _ _ _ _ _ _ _ (hR.undef o.dst) hev
    unfold evOps at hev
    rcases hgd with ⟨h1, h2⟩ | ⟨i, b, q, t, h1, h2, h3, h4⟩
    · rw [h2] at hev
      exact run (by unfold Region.wanted; rw [h1]) hev
    · rw [h4] at hev
      simp only at hev
      obtain ⟨j, ls, hinv, ha, hd⟩ := id hR
      split at hev
      · rename_i x hx
        have hy := yielded_bool (all := all) ha h2 h3 hx
        have hw : Region.wanted o (yielded all a.tmps) = (x == b) := by
          unfold Region.wanted; rw [h1]; simp only [hy]; cases x <;> cases b <;> rfl
        cases b with
        | true =>
          refine dec_elim hev (fun hx1 h => run ?_ h) (fun hx1 h => skip ?_ h)
          · rw [hw, hx1]; rfl
          · rw [hw, hx1]; rfl
        | false =>
          refine dec_elim hev (fun hx1 h => skip ?_ h) (fun hx1 h => run ?_ h)
          · rw [hw, hx1]; rfl
          · rw [hw, hx1]; rfl
      · rename_i hx
        have hy := yielded_undef (all := all) ha h2 h3 hx
        refine skip ?_ hev
        unfold Region.wanted; rw [h1]; simp only [hy]; rfl
      · exact hev.elim

/-- A region whose order is drawn. -/
theorem any_list {all : Array Oper} (hC : SndC P G C) {j : J} {ls : List Nat} {L : List LB} {H : List B} {e g : Bool} {K : List SV → Prop} {K' : Act → Prop}
    (hK : ∀ tm a w, K tm → Inv G c j ls tm L H e g w → a.tmps = (tm.map (concS j ls)).toArray → a.defers = [] → K' a) :
    ∀ (l : List Oper) (el : List EOper), cOpers P G hp all l = some el → ∀ tm a w, Inv G c j ls tm L H e g w → a.tmps = (tm.map (concS j ls)).toArray → a.defers = [] → evAny C L H e g el tm K →
      silList P all (fun w => Inv G c j ls [] L H e g w) K' l a := by
  intro l
  induction l with
  | nil =>
    intro el hc tm a w hinv ha hd hev
    simp only [cOpers] at hc; injection hc with hc; subst hc
    exact hK _ _ _ hev hinv ha hd
  | cons o l ih =>
    intro el hc tm a w hinv ha hd hev
    obtain ⟨eo, el', rfl, ho, hl⟩ := cOpers_cons hc
    obtain ⟨hop, hdst, hgd⟩ := cOper_some ho
    have run : Region.wanted o (yielded all a.tmps) = true → (evS C tm L H e g eo.op fun v => putS tm eo.dst v fun tm => evAny C L H e g el' tm K) → silList P all (fun w => Inv G c j ls [] L H e g w) K' (o :: l) a := by
      intro hw hev
      obtain ⟨v, h1, h2, h3⟩ := op_sil hC hinv ha hop hev
      rw [hdst, putS_eq] at h1
      have h3' := h3 [] []
      simp only [List.append_nil] at h3'
      exact ⟨_, .inl ⟨hw, h3'⟩, ih el' hl _ _ w (hinv.put h2 o.dst) (put_tmps ha o.dst v) (put_defers hd o.dst _) h1⟩
    have skip : Region.wanted o (yielded all a.tmps) = false → (putS tm eo.dst undefV fun tm => evAny C L H e g el' tm K) → silList P all (fun w => Inv G c j ls [] L H e g w) K' (o :: l) a := by
      intro hw hev
      rw [hdst, putS_eq] at hev
      exact ⟨_, .inr ⟨hw, rfl⟩, ih el' hl _ _ w (hinv.put (v := undefV) rfl o.dst) (put_tmps ha o.dst undefV) (put_defers hd o.dst _) hev⟩
    unfold evAny at hev
    rcases hgd with ⟨h1, h2⟩ | ⟨i, b, q, t, h1, h2, h3, h4⟩
    · rw [h2] at hev
      exact run (by unfold Region.wanted; rw [h1]) hev
    · rw [h4] at hev
      simp only at hev
      split at hev
      · rename_i x hx
        have hy := yielded_bool (all := all) ha h2 h3 hx
        have hw : Region.wanted o (yielded all a.tmps) = (x == b) := by
          unfold Region.wanted; rw [h1]; simp only [hy]; cases x <;> cases b <;> rfl
        cases b with
        | true =>
          refine dec_elim hev (fun hx1 h => run ?_ h) (fun hx1 h => skip ?_ h)
          · rw [hw, hx1]; rfl
          · rw [hw, hx1]; rfl
        | false =>
          refine dec_elim hev (fun hx1 h => skip ?_ h) (fun hx1 h => run ?_ h)
          · rw [hw, hx1]; rfl
          · rw [hw, hx1]; rfl
      · rename_i hx
        have hy := yielded_undef (all := all) ha h2 h3 hx
        refine skip ?_ hev
        unfold Region.wanted; rw [h1]; simp only [hy]; rfl
      · exact hev.elim

/-- The same, a new variable there or not. -/
theorem anyB_list {all : Array Oper} (hC : SndC P G C) {j : J} {ls : List Nat} {L : List LB} {H : List B} {e g : Bool} {K : List SV → Prop} {K' : Act → Prop}
    (hK : ∀ tm a w, K tm → Inv G c j ls tm L H e g w → a.tmps = (tm.map (concS j ls)).toArray → a.defers = [] → K' a) :
    ∀ (l : List Oper) (el : List EOper), cOpers P G hp all l = some el → ∀ tm a w, Inv G c j ls tm L H e g w → a.tmps = (tm.map (concS j ls)).toArray → a.defers = [] → evAny C L H e g el tm K →
      silListB P all (fun (s : List LB × List Nat) w => Inv G c j (ls ++ s.2) [] (L ++ s.1) H e g w) K' l a := by
  intro l
  induction l with
  | nil =>
    intro el hc tm a w hinv ha hd hev
    simp only [cOpers] at hc; injection hc with hc; subst hc
    exact hK _ _ _ hev hinv ha hd
  | cons o l ih =>
    intro el hc tm a w hinv ha hd hev
    obtain ⟨eo, el', rfl, ho, hl⟩ := cOpers_cons hc
    obtain ⟨hop, hdst, hgd⟩ := cOper_some ho
    have run : Region.wanted o (yielded all a.tmps) = true → (evS C tm L H e g eo.op fun v => putS tm eo.dst v fun tm => evAny C L H e g el' tm K) → silListB P all (fun (s : List LB × List Nat) w => Inv G c j (ls ++ s.2) [] (L ++ s.1) H e g w) K' (o :: l) a := by
      intro hw hev
      obtain ⟨v, h1, h2, h3⟩ := op_sil hC hinv ha hop hev
      rw [hdst, putS_eq] at h1
      exact ⟨_, fun s => .inl ⟨hw, h3 s.1 s.2⟩, ih el' hl _ _ w (hinv.put h2 o.dst) (put_tmps ha o.dst v) (put_defers hd o.dst _) h1⟩
    have skip : Region.wanted o (yielded all a.tmps) = false → (putS tm eo.dst undefV fun tm => evAny C L H e g el' tm K) → silListB P all (fun (s : List LB × List Nat) w => Inv G c j (ls ++ s.2) [] (L ++ s.1) H e g w) K' (o :: l) a := by
      intro hw hev
      rw [hdst, putS_eq] at hev
      exact ⟨_, fun s => .inr ⟨hw, rfl⟩, ih el' hl _ _ w (hinv.put (v := undefV) rfl o.dst) (put_tmps ha o.dst undefV) (put_defers hd o.dst _) hev⟩
    unfold evAny at hev
    rcases hgd with ⟨h1, h2⟩ | ⟨i, b, q, t, h1, h2, h3, h4⟩
    · rw [h2] at hev
      exact run (by unfold Region.wanted; rw [h1]) hev
    · rw [h4] at hev
      simp only at hev
      split at hev
      · rename_i x hx
        have hy := yielded_bool (all := all) ha h2 h3 hx
        have hw : Region.wanted o (yielded all a.tmps) = (x == b) := by
          unfold Region.wanted; rw [h1]; simp only [hy]; cases x <;> cases b <;> rfl
        cases b with
        | true =>
          refine dec_elim hev (fun hx1 h => run ?_ h) (fun hx1 h => skip ?_ h)
          · rw [hw, hx1]; rfl
          · rw [hw, hx1]; rfl
        | false =>
          refine dec_elim hev (fun hx1 h => skip ?_ h) (fun hx1 h => run ?_ h)
          · rw [hw, hx1]; rfl
          · rw [hw, hx1]; rfl
      · rename_i hx
        have hy := yielded_undef (all := all) ha h2 h3 hx
        refine skip ?_ hev
        unfold Region.wanted; rw [h1]; simp only [hy]; rfl
      · exact hev.elim

def kindOf2 : EOp → Op → Prop
  | .alloc _ _ _, i => ∃ t, i = .alloc t
  | .st _ _ _, i => ∃ t x y, i = .store t x y
  | _, _ => True

theorem kind_pure2 {op : EOp} {i : Op} (h : isPure op = true) : kindOf2 op i := by
  cases op <;> first | trivial | cases h

theorem cOp_kind2 {o : Oper} {op : EOp} (hc : cOp P G hp o = some op) : kindOf2 op o.op := by
  obtain ⟨dst, oo, ty, pos, after, guard⟩ := o
  unfold cOp at hc
  cases oo with
  | move x0 => obtain ⟨_, _, rfl⟩ := map_some hc; trivial
  | assign x0 => obtain ⟨_, _, rfl⟩ := map_some hc; trivial
  | call cl => cases op <;> first | trivial | skip
               all_goals
                exfalso
                simp only at hc
                split at hc
                · obtain ⟨_, _, hc⟩ := map_some hc; cases hc
                · unfold cCallB at hc
                  repeat' (split at hc)
                  all_goals first
                    | (obtain ⟨_, _, hc⟩ := map_some hc; cases hc; done)
                    | (injection hc with hc; cases hc; done)
                    | (cases hc; done)
                · cases hc
  | binOp bo xt x y yt =>
    simp only at hc
    split at hc
    · exact kind_pure2 (cBin_pure hc)
    · cases hc
  | slice t x lo hi mx =>
    cases mx with
    | some y => cases hc
    | none =>
      simp only at hc
      split at hc
      · exact kind_pure2 (cSlice_pure hc)
      · cases hc
  | makeMap t r =>
    cases r with
    | some y => cases hc
    | none =>
      simp only at hc
      split at hc
      · injection hc with hc; subst hc; trivial
      · cases hc
  | makeFunc f x y =>
    cases f with
    | func f =>
      simp only at hc
      split at hc
      · injection hc with hc; subst hc; trivial
      · cases hc
    | _ => cases hc
  | pick x y z =>
    simp only at hc
    split at hc
    · injection hc with hc; subst hc; trivial
    · cases hc
  | load t x =>
    simp only at hc
    repeat' (split at hc)
    all_goals first
      | (cases hc; done)
      | (injection hc with hc; subst hc; trivial)
  | alloc t =>
    simp only at hc
    split at hc
    · injection hc with hc; subst hc; exact ⟨t, rfl⟩
    · cases hc
  | store t x y =>
    simp only at hc
    split at hc
    · injection hc with hc; subst hc; exact ⟨t, x, y, rfl⟩
    · cases hc
  | _ =>
    (try simp only at hc)
    repeat' (split at hc)
    all_goals first
      | (obtain ⟨_, _, hc⟩ := map_some hc; subst hc; trivial)
      | (injection hc with hc; subst hc; trivial)
      | (cases hc; done)

theorem cOp_alloc {o : Oper} {t : TypeId} {zs : List V} {b : Bool} (hc : cOp P G hp o = some (.alloc b t zs)) : o.op = .alloc t ∧ tzero P t = some zs := by
  have hk : ∃ t', o.op = .alloc t' := by
    have := cOp_kind2 hc
    exact this
  obtain ⟨t', ho⟩ := hk
  obtain ⟨dst, oo, ty, pos, after, guard⟩ := o
  simp only at ho; subst ho
  unfold cOp at hc
  simp only at hc
  split at hc
  · rename_i zs' hz
    injection hc with hc; injection hc with h1 h2 h3
    subst h2; subst h3
    exact ⟨rfl, hz⟩
  · cases hc

theorem cOp_store {o : Oper} {k : Nat} {x y : Opd} (hc : cOp P G hp o = some (.st k x y)) : ∃ t x0 y0, o.op = .store t x0 y0 ∧ cOpd G x0 = some x ∧ cOpd G y0 = some y ∧ tsz P t = some k := by
  have hk : ∃ t x0 y0, o.op = .store t x0 y0 := cOp_kind2 hc
  obtain ⟨t, x0, y0, ho⟩ := hk
  obtain ⟨dst, oo, ty, pos, after, guard⟩ := o
  simp only at ho; subst ho
  unfold cOp at hc
  simp only at hc
  split at hc
  · rename_i x' n y' hx hn hy
    injection hc with hc; injection hc with h1 h2 h3
    subst h1; subst h2; subst h3
    exact ⟨t, x0, y0, rfl, hx, hy, hn⟩
  · cases hc

theorem ext_last {L : List LB} {ls : List Nat} (h : ls.length = L.length) (k : Nat) : (ls ++ [k]).getD L.length 0 = k ∧ ∀ i, i < L.length → (ls ++ [k]).getD i 0 = ls.getD i 0 := by
  refine ⟨?_, fun i hi => ?_⟩
  · rw [List.getD_eq_getElem?_getD, ← h]; simp
  · rw [List.getD_eq_getElem?_getD, List.getD_eq_getElem?_getD, List.getElem?_append_left (by rw [h]; exact hi)]

theorem eff_list {all : Array Oper} {j : J} {ls : List Nat} {L : List LB} {H : List B} {e g : Bool} {Kf : List SV → List LB → Prop} {K' : Act → List LB × List Nat → Prop} (hll : ls.length = L.length)
    (hK : ∀ (tm : List SV) (a : Act) (s : List LB × List Nat), Kf tm (L ++ s.1) → (∀ x, x ∈ tm → x.ok H.length (L ++ s.1).length = true) → a.tmps = (tm.map (concS j (ls ++ s.2))).toArray → a.defers = [] → K' a s) :
    ∀ (l : List Oper) (el : List EOper), cOpers P G hp all l = some el → ∀ (tm : List SV) (a : Act) (s : List LB × List Nat), s.2.length = s.1.length → (∀ x, x ∈ tm → x.ok H.length (L ++ s.1).length = true) →
      a.tmps = (tm.map (concS j (ls ++ s.2))).toArray → a.defers = [] → evEff L.length el tm (L ++ s.1) Kf → effList P (fun (s : List LB × List Nat) w => Inv G c j (ls ++ s.2) [] (L ++ s.1) H e g w) K' l a s := by
  intro l
  induction l with
  | nil =>
    intro el hc tm a s hs htm ha hd hev
    simp only [cOpers] at hc; injection hc with hc; subst hc
    exact hK tm a s hev htm ha hd
  | cons o l ih =>
    intro el hc tm a s hs htm ha hd hev
    obtain ⟨eo, el', rfl, ho, hl⟩ := cOpers_cons hc
    obtain ⟨hop, hdst, hgd⟩ := cOper_some ho
    unfold evEff at hev
    split at hev
    · exact hev.elim
    · rename_i hg
      have hog : o.guard = none := by
        rcases hgd with ⟨h, _⟩ | ⟨i, b, q, t, _, _, _, h⟩
        · exact h
        · rw [hg] at h; cases h
      refine ⟨hog, fun w hw => ?_⟩
      have hlen : (ls ++ s.2).length = (L ++ s.1).length := by simp [hll, hs]
      have hw2 := hw.setTm htm
      split at hev
      · rename_i t zs heop
        rw [heop] at hop
        have hal : o.op = .alloc t ∧ tzero P t = some zs := by
          obtain ⟨dst, oo, ty, pos, after, guard⟩ := o
          have hk := cOp_alloc hop
          exact hk
        obtain ⟨i, z, hi, hz1, hz2, hz3⟩ := tzero_some hal.2
        have hzc : z.cells = (concL j zs).toArray := by rw [(toVs_ok hz2 j 0).1]
        have hlt := (zero_one hal.2 H.length).2
        have hext := ext_last hlen w.heap.size
        have hpush := hw2.pushL (ty := t) hlt
        rw [List.append_assoc, List.append_assoc] at hpush
        refine ⟨.pointer (some ⟨w.heap.size, 0, none⟩), w.alloc (.cells (concL j zs).toArray t), (s.1 ++ [⟨t, zs⟩], s.2 ++ [w.heap.size]), .inl ?_, hpush.setTm (tm' := []) (by simp), ?_⟩
        · obtain ⟨dst, oo, ty, pos, after, guard⟩ := o
          simp only at hal; rw [hal.1]
          simp only [execOp, Instr.alloc, Sem.run_bind, r_zero hi hz1, Result.andThen]
          rw [← hzc]
          rfl
        · rw [hdst, putS_eq, gLB_eq] at hev
          rw [List.append_assoc] at hev
          have hp2 : Inv G c j (ls ++ (s.2 ++ [w.heap.size])) (putL tm o.dst (.lp (L ++ s.1).length 0)) (L ++ (s.1 ++ [⟨t, zs⟩])) H e g (w.alloc (.cells (concL j zs).toArray t)) := hpush.put (by simp [SV.ok]) o.dst
          refine ih el' hl _ _ _ (by simp [hs]) hp2.tml ?_ (put_defers hd _ _) hev
          have ha2 : a.tmps = (tm.map (concS j (ls ++ (s.2 ++ [w.heap.size])))).toArray := by rw [ha, ← List.append_assoc, tmps_eq (J.Eq.refl _ _) hext.2 htm]
          have := put_tmps ha2 o.dst (.lp (L ++ s.1).length 0)
          rw [← this]
          simp only [concS]
          rw [← List.append_assoc, hext.1]
      · rename_i k x y heop
        rw [heop] at hop
        obtain ⟨t, x0, y0, ho1, hx, hy, hn⟩ := cOp_store hop
        split at hev
        · rename_i v i ad hv hxe
          split at hev
          · rename_i b hb
            split at hev
            · rename_i hcond
              obtain ⟨c1, c2, c3, c4⟩ := hcond
              have hm : memOp tm (L ++ s.1) H e g (.st k x y) = some (undefV, (L ++ s.1).set i ⟨b.ty, splice b.cs ad v.cells⟩, H, e, g) := by
                simp only [memOp, hv, hxe, hb, c2, c3, c4, and_self, if_true]
              obtain ⟨w', j', ls', nx, hrun, hnx, hinv, _, hj, hl2⟩ := store_ok (P := P) (o := o) hw2 ha ho1 hx hy hn hm
              have hset : (L ++ s.1).set i ⟨b.ty, splice b.cs ad v.cells⟩ = L ++ s.1.set (i - L.length) ⟨b.ty, splice b.cs ad v.cells⟩ := List.set_append_right _ _ c1
              have hlsx : ls' = ls ++ s.2 := list_getD (by rw [hinv.ll]; simp) (by rw [hlen]) hl2
              subst hlsx
              have hS := hinv.rej hj hw.glob
              rw [hset] at hS
              refine ⟨undef, w', (s.1.set (i - L.length) ⟨b.ty, splice b.cs ad v.cells⟩, s.2), ?_, hS.setTm (tm' := []) (by simp), ?_⟩
              · rcases hnx with rfl | ⟨rfl, _⟩
                · exact .inl hrun
                · exact .inr ⟨hrun, rfl⟩
              · rw [hdst, putS_eq, gLB_eq] at hev
                rw [hset] at hev
                have hp2 := hS.put (v := undefV) rfl o.dst
                exact ih el' hl _ _ _ (by simp [hs]) hp2.tml (put_tmps ha o.dst undefV) (put_defers hd _ _) hev
            · exact hev.elim
          · exact hev.elim
        · exact hev.elim
      · exact hev.elim

/-- A region whose order is drawn: silent ones, those that make and fill new variables, what waits for all. -/
theorem tail_list {id : Nat} {all : Array Oper} (hm : P.follows .mixedOrders = true) (hC : SndC P G C) {p n : Nat} (hB : tailOk all p n = true) {l m r : List EOper} (hl : cOpers P G hp all (all.toList.take p) = some l)
    (hml : cOpers P G hp all ((all.toList.drop p).take (n - p)) = some m) (hr : cOpers P G hp all (all.toList.drop n) = some r)
    {Q : Exit → Act → World → Prop} {K : Kt} (hK : ∀ tm L H e g a w, K tm L H e g → R G c tm L H e g a w → Q .normal a w) {tm L H e g} {a : Act} {w : World} (hR : R G c tm L H e g a w)
    (hev : evAny C L H e g l tm fun tm => evEff L.length m tm L fun tm L => evOps C r tm L H e g K) : (Code.region id all true).wp P Q a w := by
  obtain ⟨j, ls, hinv, ha, hd⟩ := hR
  refine tail_region (S := fun (s : List LB × List Nat) w => Inv G c j (ls ++ s.2) [] (L ++ s.1) H e g w) (s := ([], []))
    (K := fun a' s => ∃ tm, evOps C r tm (L ++ s.1) H e g K ∧ (∀ x, x ∈ tm → x.ok H.length (L ++ s.1).length = true) ∧ a'.tmps = (tm.map (concS j (ls ++ s.2))).toArray ∧ a'.defers = [])
    hm hB ?_ ?_ ?_
  · rintro a' s w' ⟨tm', h1, h2, h3, h4⟩ hS
    exact ops_list hC hK _ _ hr tm' _ H e g a' w' ⟨j, ls ++ s.2, hS.setTm h2, h3, h4⟩ h1
  · refine anyB_list hC (fun tm1 a1 w1 hq1 hi1 ha1 hd1 => ?_) _ _ hl tm a w hinv ha hd hev
    refine eff_list (Kf := fun tm L => evOps C r tm L H e g K) hinv.ll (fun tm a s h1 h2 h3 h4 => ⟨tm, h1, h2, h3, h4⟩) _ _ hml tm1 a1 ([], []) rfl ?_ ?_ hd1 ?_
    · simpa using hi1.tml
    · simpa using ha1
    · simpa using hq1
  · simpa using (hinv.setTm (tm' := []) (by simp)).drew

/-- The worlds of one region: the call's own variables lie as they lay. -/
def Fam (G : Nat) (c : Cx) (j0 : J) (ls : List Nat) (L : List LB) (n0 : Nat) (w : World) : Prop := ∃ j H e g, Inv G c j ls [] L H e g w ∧ J.Eq n0 j0 j ∧ n0 ≤ H.length

theorem J.Eq.trans {n : Nat} {a b c : J} (h : J.Eq n a b) (k : J.Eq n b c) : J.Eq n a c := ⟨fun i hi => (k.b i hi).trans (h.b i hi), fun i hi => (k.o i hi).trans (h.o i hi)⟩
theorem J.Eq.le {n m : Nat} {a b : J} (h : J.Eq n a b) (hm : m ≤ n) : J.Eq m a b := ⟨fun i hi => h.b i (Nat.lt_of_lt_of_le hi hm), fun i hi => h.o i (Nat.lt_of_lt_of_le hi hm)⟩
theorem J.Eq.symm {n : Nat} {a b : J} (h : J.Eq n a b) : J.Eq n b a := ⟨fun i hi => (h.b i hi).symm, fun i hi => (h.o i hi).symm⟩

theorem p_yields {j j0 : J} {ls : List Nat} {tm : List SV} {L : List LB} {H : List B} {e g : Bool} {w0 : World} {n0 : Nat} (h : Inv G c j ls tm L H e g w0) (hj : J.Eq n0 j0 j) (hL : ∀ b, b ∈ L → V.ltL n0 b.cs = true)
    {a : Act} (ha : a.tmps = (tm.map (concS j ls)).toArray) {o : Oper} {op : EOp} (hc : cOp P G hp o = some op) {K : SV → Prop} (hev : evP tm L op K) :
    ∃ v, K v ∧ v.ok H.length L.length = true ∧ ∀ w, Fam G c j0 ls L n0 w → (execOp a.eval o).run P w = .ok (.value (concS j ls v)) w := by
  have E := h.ops ha
  have rest : ∀ v, pureOp tm op = some v → K v → ∃ v, K v ∧ v.ok H.length L.length = true ∧ ∀ w, Fam G c j0 ls L n0 w → (execOp a.eval o).run P w = .ok (.value (concS j ls v)) w := by
    intro v hv hK
    refine ⟨v, hK, (pure_ok (P := P) (w := w0) (ls := ls) E hc hv).2, fun w' _ => ?_⟩
    exact (pure_ok (P := P) (w := w') (ls := ls) E hc hv).1
  have hk := cOp_kind hc
  obtain ⟨dst, oo, ty, pos, after, guard⟩ := o
  cases op
  case mv x =>
    have key : ∀ x0, (oo = .move x0 ∨ oo = .assign x0) → cOpd G x0 = some x → ∃ v, K v ∧ v.ok H.length L.length = true ∧ ∀ w, Fam G c j0 ls L n0 w →
        (execOp a.eval { dst := dst, op := oo, type := ty, pos := pos, after := after, guard := guard }).run P w = .ok (.value (concS j ls v)) w := by
      intro x0 hoo hx
      obtain ⟨e1, e2⟩ := opd_ok E hx
      have hK : K (x.ev tm) := by
        unfold evP at hev
        simp only at hev
        split at hev
        · rename_i v hv; rw [hv]; exact hev
        · rename_i i o hv; rw [hv]; exact hev
      refine ⟨_, hK, e2, fun w' _ => ?_⟩
      rcases hoo with rfl | rfl
      · simp only [execOp, e1]; rfl
      · simp only [execOp, e1]; rfl
    unfold cOp at hc
    rcases hk with ⟨x0, hx0⟩ | ⟨x0, hx0⟩ <;> (simp only at hx0; subst hx0)
    · obtain ⟨x', hx, hxx⟩ := map_some hc
      injection hxx with hxx; subst hxx
      exact key x0 (.inl rfl) hx
    · obtain ⟨x', hx, hxx⟩ := map_some hc
      injection hxx with hxx; subst hxx
      exact key x0 (.inr rfl) hx
  case pick c0 a0 b0 =>
    unfold evP at hev
    simp only at hev
    split at hev
    · rename_i b u v hb hu hv
      obtain ⟨x, y, z, hxyz⟩ := hk
      simp only at hxyz; subst hxyz
      unfold cOp at hc
      simp only at hc
      split at hc
      · rename_i x' y' z' hx hy hz
        injection hc with hc; injection hc with h1 h2 h3; subst h1; subst h2; subst h3
        obtain ⟨e1, _⟩ := val_ok E hx hb
        obtain ⟨e2, e2'⟩ := val_ok E hy hu
        obtain ⟨e3, e3'⟩ := val_ok E hz hv
        cases b with
        | true =>
          refine ⟨.v u, hev, e2', fun w' _ => ?_⟩
          simp only [execOp, e1, conc, asBool, Sem.run_bind, Sem.run_pure, Result.andThen, if_true, e2]; rfl
        | false =>
          refine ⟨.v v, hev, e3', fun w' _ => ?_⟩
          simp only [execOp, e1, conc, asBool, Sem.run_bind, Sem.run_pure, Result.andThen, Bool.false_eq_true, if_false, e3]; rfl
      · cases hc
    · exact hev.elim
  case ld ag n x =>
    unfold evP at hev
    simp only at hev
    split at hev
    · rename_i i off he
      split at hev
      · rename_i b hb
        split at hev
        · rename_i cs hcs
          split at hev
          · rename_i u hu
            rw [fS_eq] at hev
            obtain ⟨t, x0, hx0⟩ := hk
            simp only at hx0; subst hx0
            unfold cOp at hc
            simp only at hc
            split at hc
            · rename_i x' ag' n' hx hag hnn
              split at hc
              · injection hc with hc; injection hc with h1 h2 h3; subst h1; subst h2; subst h3
                obtain ⟨e1, _⟩ := opd_ok E hx
                rw [he] at e1
                have hult : u.lt n0 = true := unV_lt hu (cut_lt hcs (hL b (List.mem_of_getElem? hb)))
                refine ⟨.v u, hev, ?_, fun w' hw' => ?_⟩
                · obtain ⟨_, c2, _⟩ := local_cell h hb hcs
                  exact unV_lt hu c2
                · obtain ⟨j', H', e', g', h', hj', _⟩ := hw'
                  obtain ⟨c1, c2, c3⟩ := local_cell h' hb hcs
                  have hcu : concS j ls (.v u) = conc j' u := (conc_eq hj u hult).trans (conc_eq hj' u hult).symm
                  rw [hcu]
                  simp only [execOp, e1, concS]
                  refine run_value ?_
                  simp only [Instr.loadAt, Instr.sureAddr, Sem.run_bind, Sem.run_pure, Result.andThen]
                  exact r_load hag hnn hu c1 c3
              · cases hc
            · cases hc
          · exact hev.elim
        · exact hev.elim
      · exact hev.elim
    · exact hev.elim
  all_goals
    unfold evP at hev
    simp only at hev
    split at hev
    · rename_i v hv
      rw [fZ_eq] at hev
      exact rest v hv hev
    · exact hev.elim

theorem branchL_mem {F : Nat → Option Sch} : ∀ {rs : List Nat} {l : List Sch}, branchL F rs = some l → ∀ i, i ∈ rs → ∃ s, s ∈ l ∧ F i = some s
  | [], _, _, i, hi => by cases hi
  | k :: r, l, h, i, hi => by
    unfold branchL at h
    split at h
    · rename_i a b ha hb
      injection h with h; subst h
      rcases List.mem_cons.1 hi with rfl | hi
      · exact ⟨a, List.mem_cons_self, ha⟩
      · obtain ⟨s, h1, h2⟩ := branchL_mem hb i hi
        exact ⟨s, List.mem_cons_of_mem _ h1, h2⟩
    · cases h

theorem bothL_mem {tm : List SV} {L : List LB} {H : List B} {e g : Bool} {K : Kt} : ∀ {l : List Sch} {s : Sch}, bothL l = some s → evX C s tm L H e g K → ∀ t, t ∈ l → evX C t tm L H e g K
  | [], _, h, _, _, _ => by cases h
  | [a], s, h, hev, t, ht => by
    unfold bothL at h
    injection h with h; subst h
    obtain rfl := List.mem_singleton.1 ht
    exact hev
  | a :: b :: r, s, h, hev, t, ht => by
    unfold bothL at h
    simp only at h
    split at h
    · rename_i q hq
      injection h with h; subst h
      unfold evX at hev
      obtain ⟨h1, h2⟩ := hev
      rcases List.mem_cons.1 ht with rfl | ht
      · exact h1
      · exact bothL_mem hq h2 t ht
    · cases h

theorem schOne_some {all : Array Oper} {mk : EOper → Sch → Sch} {i : Nat} {r : Option Sch} {s : Sch} (h : schOne P G hp all mk i r = some s) : ∃ o eo t, all[i]? = some o ∧ cOper P G hp all o = some eo ∧ r = some t ∧ s = mk eo t := by
  unfold schOne at h
  split at h
  · rename_i o t ho
    split at h
    · rename_i eo he
      injection h with h
      exact ⟨o, eo, t, ho, he, rfl, h.symm⟩
    · cases h
  · cases h

/-- A drawn region, laid out. -/
theorem x_list {all : Array Oper} (hC : SndC P G C) (hns : Region.noSelect all = true) {j0 : J} {ls : List Nat} {L : List LB} {n0 : Nat} (hL : ∀ b, b ∈ L → V.ltL n0 b.cs = true) {Q : Exit → Act → World → Prop} {K : Kt}
    (hK : ∀ tm L H e g a w, K tm L H e g → R G c tm L H e g a w → Q .normal a w) (hp0 : ∀ x a w, ¬ Q (.panic x) a w) :
    ∀ (f : Nat) (listed : Array Bool) (sch : Sch), schX P G hp all f listed = some sch → ∀ j tm H e g a w, Inv G c j ls tm L H e g w → J.Eq n0 j0 j → n0 ≤ H.length → a.tmps = (tm.map (concS j ls)).toArray → a.defers = [] → evX C sch tm L H e g K →
      wpAnyH P .any all Q (Fam G c j0 ls L n0) f listed a w := by
  intro f
  induction f with
  | zero =>
    intro listed sch h j tm H e g a w hinv hj hn ha hd hev
    unfold schX at h
    split at h
    · rename_i hr
      injection h with h; subst h
      exact ⟨hr, hK _ _ _ _ _ _ _ hev ⟨j, ls, hinv, ha, hd⟩⟩
    · cases h
  | succ f ih =>
    intro listed sch h j tm H e g a w hinv hj hn ha hd hev
    have hS : Fam G c j0 ls L n0 w := ⟨j, H, e, g, hinv.setTm (tm' := []) (by simp), hj, hn⟩
    unfold schX at h
    split at h
    · rename_i hr
      injection h with h; subst h
      exact wpAnyH_done hr (hK _ _ _ _ _ _ _ hev ⟨j, ls, hinv, ha, hd⟩) _
    · rename_i i0 rs hr
      split at h
      · rename_i i hfind
        obtain ⟨o, eo, t, ho, he, ht, rfl⟩ := schOne_some h
        have hsil := List.find?_some hfind
        have hmem := List.mem_of_find?_eq_some hfind
        unfold silAt at hsil
        rw [ho] at hsil
        simp only [Bool.and_eq_true] at hsil
        obtain ⟨hop, hdst, hgd⟩ := cOper_some he
        have take : ∀ v, v.ok H.length L.length = true → YieldsIf P all (Fam G c j0 ls L n0) o (concS j ls v) a → (evX C t (putL tm o.dst v) L H e g K) → wpAnyH P .any all Q (Fam G c j0 ls L n0) (f + 1) listed a w := by
          intro v hv hy hev'
          refine wpAnyH_take ho hns hsil.2 (by rw [hr]; simpa using hmem) (fun x a w h => absurd h (hp0 _ _ _)) hy hS ?_
          exact ih _ t ht j _ H e g _ w (hinv.put hv o.dst) hj hn (put_tmps ha o.dst v) (put_defers hd o.dst _) hev'
        have run : Region.wanted o (yielded all a.tmps) = true → (evP tm L eo.op fun v => putS tm eo.dst v fun tm => evX C t tm L H e g K) → wpAnyH P .any all Q (Fam G c j0 ls L n0) (f + 1) listed a w := by
          intro hw hev'
          obtain ⟨v, h1, h2, h3⟩ := p_yields hinv hj hL ha hop hev'
          rw [hdst, putS_eq] at h1
          exact take v h2 (.inl ⟨hw, h3⟩) h1
        have skip : Region.wanted o (yielded all a.tmps) = false → (putS tm eo.dst undefV fun tm => evX C t tm L H e g K) → wpAnyH P .any all Q (Fam G c j0 ls L n0) (f + 1) listed a w := by
          intro hw hev'
          rw [hdst, putS_eq] at hev'
          exact take undefV rfl (.inr ⟨hw, rfl⟩) hev'
        unfold evX at hev
        rcases hgd with ⟨h1, h2⟩ | ⟨i, b, q, tt, h1, h2, h3, h4⟩
        · rw [h2] at hev
          exact run (by unfold Region.wanted; rw [h1]) hev
        · rw [h4] at hev
          simp only at hev
          split at hev
          · rename_i x hx
            have hy := yielded_bool (all := all) ha h2 h3 hx
            have hw : Region.wanted o (yielded all a.tmps) = (x == b) := by
              unfold Region.wanted; rw [h1]; simp only [hy]; cases x <;> cases b <;> rfl
            cases b with
            | true =>
              refine dec_elim hev (fun hx1 h => run ?_ h) (fun hx1 h => skip ?_ h)
              · rw [hw, hx1]; rfl
              · rw [hw, hx1]; rfl
            | false =>
              refine dec_elim hev (fun hx1 h => skip ?_ h) (fun hx1 h => run ?_ h)
              · rw [hw, hx1]; rfl
              · rw [hw, hx1]; rfl
          · rename_i hx
            have hy := yielded_undef (all := all) ha h2 h3 hx
            refine skip ?_ hev
            unfold Region.wanted; rw [h1]; simp only [hy]; rfl
          · exact hev.elim
      · split at h
        · rename_i l hl
          refine wpAnyH_all hr (by simp) fun i hi => ?_
          obtain ⟨s, hs, hF⟩ := branchL_mem hl i hi
          have hevs := bothL_mem h hev s hs
          obtain ⟨o, eo, t, ho, he, ht, rfl⟩ := schOne_some hF
          obtain ⟨hop, hdst, hgd⟩ := cOper_some he
          unfold wpOp
          simp only [ho]
          have run : Region.wanted o (yielded all a.tmps) = true → (evOp C tm L H e g eo.op fun v L' H e g => L' = L ∧ putS tm eo.dst v fun tm => evX C t tm L H e g K) →
              (if Region.wanted o (yielded all a.tmps) then o.wp P a w (fun a' w' => Fam G c j0 ls L n0 w' ∧ wpAnyH P .any all Q (Fam G c j0 ls L n0) f (listed.setIfInBounds i true) a' w') Q ∨ (o.asks P a w ∧ LetsOut Q) else Fam G c j0 ls L n0 w ∧ wpAnyH P .any all Q (Fam G c j0 ls L n0) f (listed.setIfInBounds i true) (a.put o.dst undef) w) := by
            intro hw hev'
            rw [if_pos hw]
            left
            refine Oper.wp_mono ?_ (op_ok2 hC hinv ha hd hop hev' Q)
            rintro a' w' ⟨v, L', H', e', g', ⟨rfl, h1⟩, j', ls', hinv', hj', hl', hHl, ha', hd'⟩
            have hlen := hinv'.ll
            have hls : ls' = ls := list_getD hinv'.ll hinv.ll hl'
            subst hls
            have hn' : n0 ≤ H'.length := Nat.le_trans hn hHl
            have hjj : J.Eq n0 j0 j' := hj.trans (hj'.le hn)
            rw [hdst, putS_eq] at h1
            exact ⟨⟨j', H', e', g', hinv'.setTm (tm' := []) (by simp), hjj, hn'⟩, ih _ t ht j' _ H' e' g' a' w' hinv' hjj hn' ha' hd' h1⟩
          have skip : Region.wanted o (yielded all a.tmps) = false → (putS tm eo.dst undefV fun tm => evX C t tm L H e g K) →
              (if Region.wanted o (yielded all a.tmps) then o.wp P a w (fun a' w' => Fam G c j0 ls L n0 w' ∧ wpAnyH P .any all Q (Fam G c j0 ls L n0) f (listed.setIfInBounds i true) a' w') Q ∨ (o.asks P a w ∧ LetsOut Q) else Fam G c j0 ls L n0 w ∧ wpAnyH P .any all Q (Fam G c j0 ls L n0) f (listed.setIfInBounds i true) (a.put o.dst undef) w) := by
            intro hw hev'
            rw [if_neg (by rw [hw]; simp)]
            rw [hdst, putS_eq] at hev'
            exact ⟨hS, ih _ t ht j _ H e g _ w (hinv.put (v := undefV) rfl o.dst) hj hn (put_tmps ha o.dst undefV) (put_defers hd o.dst _) hev'⟩
          unfold evX at hevs
          rcases hgd with ⟨h1, h2⟩ | ⟨i, b, q, tt, h1, h2, h3, h4⟩
          · rw [h2] at hevs
            exact run (by unfold Region.wanted; rw [h1]) hevs
          · rw [h4] at hevs
            simp only at hevs
            split at hevs
            · rename_i x hx
              have hy := yielded_bool (all := all) ha h2 h3 hx
              have hw : Region.wanted o (yielded all a.tmps) = (x == b) := by
                unfold Region.wanted; rw [h1]; simp only [hy]; cases x <;> cases b <;> rfl
              cases b with
              | true =>
                refine dec_elim hevs (fun hx1 h => run ?_ h) (fun hx1 h => skip ?_ h)
                · rw [hw, hx1]; rfl
                · rw [hw, hx1]; rfl
              | false =>
                refine dec_elim hevs (fun hx1 h => skip ?_ h) (fun hx1 h => run ?_ h)
                · rw [hw, hx1]; rfl
                · rw [hw, hx1]; rfl
            · rename_i hx
              have hy := yielded_undef (all := all) ha h2 h3 hx
              refine skip ?_ hevs
              unfold Region.wanted; rw [h1]; simp only [hy]; rfl
            · exact hevs.elim
        · cases h

def exOf : Ex → Exit
  | .n => .normal
  | .x id => .exit id
  | .r => .ret

def QE (G : Nat) (c : Cx) (Q : KE) : Exit → Act → World → Prop := fun x a w => ∃ ex tm L H e g, x = exOf ex ∧ Q ex tm L H e g ∧ R G c tm L H e g a w

theorem code_ok (hm : P.follows .mixedOrders = true) (hC : SndC P G C) (k : Nat) : ∀ (code : Code) (ec : EC), cCode P G hp code = some ec → ∀ tm L H e g a w (Q : KE), R G c tm L H e g a w → evC C k ec tm L H e g Q →
    code.wp P (QE G c Q) a w := by
  intro code
  induction code with
  | skip =>
    intro ec hc tm L H e g a w Q hR hev
    simp only [cCode] at hc; injection hc with hc; subst hc
    exact wp_skip ⟨.n, tm, L, H, e, g, rfl, hev, hR⟩
  | region id ops d =>
    intro ec hc tm L H e g a w Q hR hev
    cases d with
    | false =>
      simp only [cCode] at hc
      obtain ⟨el, hl, rfl⟩ := map_some hc
      · simp only [evC] at hev
        exact wp_region_list (ops_list hC (K := fun tm L H e g => Q .n tm L H e g) (fun tm L H e g a w hq hR => ⟨.n, tm, L, H, e, g, rfl, hq, hR⟩) _ _ hl _ _ _ _ _ _ _ hR hev)
    | true =>
      simp only [cCode] at hc
      split at hc
      · split at hc
        case isFalse => cases hc
        rename_i hB
        obtain ⟨s, hs, rfl⟩ := map_some hc
        simp only [evC] at hev
        obtain ⟨j, ls, hinv, ha, hd⟩ := hR
        refine wp_region_held (S := Fam G c j ls L H.length) hm ?_
        exact x_list (j0 := j) (n0 := H.length) hC hB (fun b hb => hinv.Ll b hb) (fun tm L H e g a w hq hR => ⟨.n, tm, L, H, e, g, rfl, hq, hR⟩) (fun x a w h => by obtain ⟨ex, _, _, _, _, _, hx, _⟩ := h; cases ex <;> cases hx)
          _ _ _ hs j tm H e g a _ hinv.drew (J.Eq.refl _ _) (Nat.le_refl _) ha hd hev
      split at hc
      · split at hc
        case isFalse => cases hc
        rename_i hB
        obtain ⟨el, hl, rfl⟩ := map_some hc
        simp only [evC] at hev
        obtain ⟨j, ls, hinv, ha, hd⟩ := hR
        refine sil_region (S := fun w => Inv G c j ls [] L H e g w) (K := fun a => ∃ tm, Q .n tm L H e g ∧ (∀ x, x ∈ tm → x.ok H.length L.length = true) ∧ a.tmps = (tm.map (concS j ls)).toArray ∧ a.defers = []) hm hB ?_ ?_ ?_
        · rintro a' w' ⟨tm', h1, h2, h3, h4⟩ hS
          exact ⟨.n, tm', L, H, e, g, rfl, h1, j, ls, hS.setTm h2, h3, h4⟩
        · exact any_list hC (fun tm a w hq hi ha hd => ⟨tm, hq, hi.tml, ha, hd⟩) _ _ hl tm a w hinv ha hd hev
        · exact (hinv.setTm (tm' := []) (by simp)).drew
      · rename_i p hp1
        split at hc
        case isFalse => cases hc
        rename_i hB
        split at hc
        · rename_i l m r hl hml hr
          injection hc with hc; subst hc
          simp only [evC] at hev
          exact tail_list hm hC hB hl hml hr (K := fun tm L H e g => Q .n tm L H e g) (fun tm L H e g a w hq hR => ⟨.n, tm, L, H, e, g, rfl, hq, hR⟩) hR hev
        · cases hc
  | seq x y ihx ihy =>
    intro ec hc tm L H e g a w Q hR hev
    simp only [cCode] at hc
    split at hc
    · rename_i x' y' hx hy
      injection hc with hc; subst hc
      simp only [evC] at hev
      refine wp_seq (Code.wp_mono ?_ (ihx x' hx tm L H e g a w _ hR hev))
      rintro ex a' w' ⟨ex', tm', L', H', e', g', rfl, h1, h2⟩
      cases ex' with
      | n => exact ihy y' hy _ _ _ _ _ _ _ _ h2 h1
      | x id => exact ⟨.x id, tm', L', H', e', g', rfl, h1, h2⟩
      | r => exact ⟨.r, tm', L', H', e', g', rfl, h1, h2⟩
    · cases hc
  | cond x y z ihy ihz =>
    intro ec hc tm L H e g a w Q hR hev
    simp only [cCode] at hc
    split at hc
    · rename_i x' y' z' hx hy hz
      injection hc with hc; subst hc
      simp only [evC] at hev
      split at hev
      · rename_i t ht
        obtain ⟨j, ls, hinv, ha, hd⟩ := id hR
        obtain ⟨e1, _⟩ := opd_ok (hinv.ops ha) hx
        rw [ht] at e1
        refine wp_cond_split (t := t) (by rw [e1]; rfl) (fun h => ?_) (fun h => ?_)
        · subst h; exact ihy y' hy _ _ _ _ _ _ _ _ hR hev
        · subst h; exact ihz z' hz _ _ _ _ _ _ _ _ hR hev
      · exact hev.elim
    · cases hc
  | block id x ih =>
    intro ec hc tm L H e g a w Q hR hev
    simp only [cCode] at hc
    obtain ⟨x', hx, rfl⟩ := map_some hc
    simp only [evC] at hev
    refine wp_block (Code.wp_mono ?_ (ih x' hx tm L H e g a w _ hR hev))
    rintro ex a' w' ⟨ex', tm', L', H', e', g', rfl, h1, h2⟩
    cases ex' with
    | n => exact ⟨.n, tm', L', H', e', g', rfl, h1, h2⟩
    | x i =>
      simp only [exOf, Exit.inBlock]
      simp only at h1
      split
      · rename_i hi; rw [if_pos hi] at h1; exact ⟨.n, tm', L', H', e', g', rfl, h1, h2⟩
      · rename_i hi; rw [if_neg hi] at h1; exact ⟨.x i, tm', L', H', e', g', rfl, h1, h2⟩
    | r => exact ⟨.r, tm', L', H', e', g', rfl, h1, h2⟩
  | loop x ih =>
    intro ec hc tm L H e g a w Q hR hev
    simp only [cCode] at hc
    obtain ⟨x', hx, rfl⟩ := map_some hc
    simp only [evC] at hev
    have key : ∀ n tm L H e g a w, R G c tm L H e g a w → evLoop (evC C k x') n tm L H e g Q → Code.rounds P x (QE G c Q) n a w := by
      intro n
      induction n with
      | zero => intro tm L H e g a w _ h; exact h
      | succ n ihn =>
        intro tm L H e g a w hR h
        rw [rounds_succ]
        unfold evLoop at h
        refine Code.wp_mono ?_ (ih x' hx tm L H e g a w _ hR h)
        rintro ex a' w' ⟨ex', tm', L', H', e', g', rfl, h1, h2⟩
        cases ex' with
        | n => exact ihn _ _ _ _ _ _ _ h2 h1
        | x i => exact ⟨.x i, tm', L', H', e', g', rfl, h1, h2⟩
        | r => exact ⟨.r, tm', L', H', e', g', rfl, h1, h2⟩
    exact wp_loop_rounds k (key k _ _ _ _ _ _ _ hR hev)
  | exit id =>
    intro ec hc tm L H e g a w Q hR hev
    simp only [cCode] at hc; injection hc with hc; subst hc
    exact wp_exit ⟨.x id, tm, L, H, e, g, rfl, hev, hR⟩
  | ret =>
    intro ec hc tm L H e g a w Q hR hev
    simp only [cCode] at hc; injection hc with hc; subst hc
    exact wp_ret ⟨.r, tm, L, H, e, g, rfl, hev, hR⟩
  | _ => intro ec hc; simp only [cCode] at hc; cases hc
end
end Go.Ev
