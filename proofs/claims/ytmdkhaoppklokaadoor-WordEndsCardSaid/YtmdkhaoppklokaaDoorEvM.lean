/- Ev: whatever is evaluated, the machine does. -/
import Derived.Test.YtmdkhaoppklokaaDoorEvKm
import Derived.LoopN
namespace Go.Ev
open Go.RowKit

/-- What a contract tells is what the machine does. -/
def Has (P : Program) (f : Nat) : Prop := ∃ fn, P.funcs[f]? = some fn ∧ (fn.name == "runtime.NumGoroutine") = false ∧ fn.body.isNone = false

theorem Has.run {P : Program} {f : Nat} (h : Has P f) (w : World) (args : Array Value) : (callFunc f args).run P w = .ok (.enter f args) w := by
  obtain ⟨fn, h1, h2, h3⟩ := h
  simp only [callFunc, program, Sem.run_bind]
  show (match P.funcs[f]? with | none => (stuck "call: no such function" : Sem Next) | some fn => _).run P w = _
  rw [h1]
  simp only [h2, h3, Bool.false_eq_true, if_false]
  rfl

def Snd (P : Program) (G : Nat) (f : Nat) (s : Sp) : Prop := ∀ vs H (Q : Post), s vs H Q → Has P f ∧ ∀ j w, Inv G ⟨w, H, j⟩ j [] (vs.map SV.v) [] H false false w →
  Calls P f (concL j vs).toArray w fun r w' => ∃ v H' e g j', Q v H' e g ∧ r = .returned (conc j' v) ∧ Inv G ⟨w, H, j⟩ j' [] [.v v] [] H' e g w'

def SndC (P : Program) (G : Nat) (C : CT) : Prop := ∀ f, Snd P G f (C f)

section
variable {P : Program} {G : Nat} {hp : Nat → Bool} {c : Cx} {j : J} {ls : List Nat} {tm : List SV} {L : List LB} {H : List B} {e g : Bool} {w : World}

theorem Inv.start (h : Inv G c j ls tm L H e g w) {vs : List V} (hv : V.ltL H.length vs = true) : Inv G ⟨w, H, j⟩ j [] (vs.map SV.v) [] H false false w where
  os := rfl
  tape := rfl
  output := rfl
  size := Nat.le_refl _
  lts := h.lts
  br := h.br
  sep := h.sep
  ll := rfl
  lbr := by intro i b hi; simp at hi
  lnew := by intro k hk; simp at hk
  lnd := by intro k k' hk; simp at hk
  lsep := by intro k hk; simp at hk
  tml := by
    intro x hx
    obtain ⟨v, hv', rfl⟩ := List.mem_map.1 hx
    exact (ltL_iff _ _).1 hv v hv'
  Ll := by intro b hb; cases hb
  Hl := h.Hl
  n0 := Nat.le_refl _
  jold := J.Eq.refl _ _
  jnew := by intro i hi hi'; exact absurd hi' (Nat.not_lt.2 hi)
  frame := fun b hb hf => rfl
  kd := fun i b hi => ⟨b, hi, knd.refl b⟩
  esc := by
    intro _ i b b' m hb hb' hm
    have : some b = some b' := hb.symm.trans hb'
    injection this with this; subst this; exact hm
  grow := fun _ => rfl
  glob := h.glob
  gl := h.gl

/-- Behind a call. -/
theorem Inv.back (h : Inv G c j ls tm L H e g w) {j' : J} {v : V} {H' : List B} {e' g' : Bool} {w' : World} (k : Inv G ⟨w, H, j⟩ j' [] [.v v] [] H' e' g' w') :
    Inv G c j' ls tm L H' (e || e') (g || g') w' where
  os := k.os.trans h.os
  tape := k.tape.trans h.tape
  output := k.output.trans h.output
  size := Nat.le_trans h.size k.size
  lts := k.lts
  br := k.br
  sep := k.sep
  ll := h.ll
  lbr := by
    intro i b hi
    have hil : i < ls.length := by rw [h.ll]; exact (List.getElem?_eq_some_iff.1 hi).1
    rw [k.frame _ (h.lnew i hil).2 (fun i' b' hb' _ => h.lsep i hil i' (List.getElem?_eq_some_iff.1 hb').1)]
    rw [h.lbr i b hi, concL_eq k.jold _ (h.Ll b (List.mem_of_getElem? hi))]
  lnew := fun i hi => ⟨(h.lnew i hi).1, Nat.lt_of_lt_of_le (h.lnew i hi).2 k.size⟩
  lnd := h.lnd
  lsep := by
    intro i hi i' hi'
    by_cases hlt : i' < H.length
    · rw [k.jold.b i' hlt]; exact h.lsep i hi i' hlt
    · have h1 := k.jnew i' (Nat.le_of_not_lt hlt) hi'
      have h2 := (h.lnew i hi).2
      exact Nat.ne_of_gt (Nat.lt_of_lt_of_le h2 h1)
  tml := fun x hx => SV.ok_le k.n0 (Nat.le_refl _) (h.tml x hx)
  Ll := fun b hb => V.ltL_le k.n0 _ (h.Ll b hb)
  Hl := k.Hl
  n0 := Nat.le_trans h.n0 k.n0
  jold := ⟨fun i hi => (k.jold.b i (Nat.lt_of_lt_of_le hi h.n0)).trans (h.jold.b i hi), fun i hi => (k.jold.o i (Nat.lt_of_lt_of_le hi h.n0)).trans (h.jold.o i hi)⟩
  jnew := by
    intro i hi hi'
    by_cases hlt : i < H.length
    · rw [k.jold.b i hlt]; exact h.jnew i hi hlt
    · exact Nat.le_trans h.size (k.jnew i (Nat.le_of_not_lt hlt) hi')
  frame := by
    intro b hb hf
    rw [k.frame b (Nat.lt_of_lt_of_le hb h.size) ?_]
    · exact h.frame b hb hf
    · intro i b' hb' ho
      by_cases hlt : i < c.H.length
      · obtain ⟨b0, hb0⟩ : ∃ b0, c.H[i]? = some b0 := ⟨_, List.getElem?_eq_getElem hlt⟩
        obtain ⟨b1, hb1, hkn⟩ := h.kd i b0 hb0
        have hb'' : H[i]? = some b' := hb'
        rw [hb1] at hb''; injection hb'' with hb''; subst hb''
        show j.b i ≠ b
        rw [h.jold.b i hlt]
        exact hf i b0 hb0 (by rw [← hkn.own]; exact ho)
      · have := h.jnew i (Nat.le_of_not_lt hlt) (List.getElem?_eq_some_iff.1 hb').1
        show j.b i ≠ b
        exact Nat.ne_of_gt (Nat.lt_of_lt_of_le hb this)
  kd := by
    intro i b hb
    obtain ⟨b1, hb1, k1⟩ := h.kd i b hb
    obtain ⟨b2, hb2, k2⟩ := k.kd i b1 hb1
    exact ⟨b2, hb2, k1.trans k2⟩
  esc := by
    intro he i b b' m hb hb' hm
    simp only [Bool.or_eq_false_iff] at he
    obtain ⟨b1, hb1, _⟩ := h.kd i b hb
    exact k.esc he.2 i b1 b' m hb1 hb' (h.esc he.1 i b b1 m hb hb1 hm)
  grow := by
    intro hg
    simp only [Bool.or_eq_false_iff] at hg
    exact (k.grow hg.2).trans (h.grow hg.1)
  glob := fun i hi => by
    have hlt : i < H.length := Nat.lt_of_lt_of_le hi h.gl
    rw [k.jold.b i hlt, k.jold.o i hlt]; exact h.glob i hi
  gl := k.gl

/-- What is told of what follows. -/
def After (G : Nat) (c : Cx) (tm : List SV) (dst : Option Nat) (K : KV) (a : Act) (w : World) : Prop :=
  ∃ v L H e g, K v L H e g ∧ R G c (putL tm dst v) L H e g a w

theorem memOp_len {tm : List SV} {L L' : List LB} {H H' : List B} {e g e' g' : Bool} {op : EOp} {v : SV} (h : memOp tm L H e g op = some (v, L', H', e', g')) : H.length ≤ H'.length := by
  cases op <;> simp only [memOp] at h
  all_goals
    repeat' (split at h)
    all_goals first
      | (cases h; done)
      | (injection h with h; injection h with _ h; injection h with _ h; injection h with h1 _; subst h1; first | exact Nat.le_refl _ | (simp; done) | (obtain ⟨_, _, _, _, hh⟩ := wr_some (show wr H _ _ _ = some _ by assumption); rw [hh]; simp; done))

/-- The same, told against the places that were known ahead. -/
def After2 (G : Nat) (c : Cx) (j0 : J) (ls0 : List Nat) (n m : Nat) (tm : List SV) (dst : Option Nat) (K : KV) (a : Act) (w : World) : Prop :=
  ∃ v L H e g, K v L H e g ∧ ∃ j ls, Inv G c j ls (putL tm dst v) L H e g w ∧ J.Eq n j0 j ∧ (∀ i, i < m → ls.getD i 0 = ls0.getD i 0) ∧ n ≤ H.length ∧ a.tmps = ((putL tm dst v).map (concS j ls)).toArray ∧ a.defers = []

theorem After2.after {G : Nat} {c : Cx} {j0 : J} {ls0 : List Nat} {n m : Nat} {tm : List SV} {dst : Option Nat} {K : KV} {a : Act} {w : World} (h : After2 G c j0 ls0 n m tm dst K a w) : After G c tm dst K a w := by
  obtain ⟨v, L, H, e, g, hK, j, ls, h1, _, _, _, h2, h3⟩ := h
  exact ⟨v, L, H, e, g, hK, j, ls, h1, h2, h3⟩

theorem after_put {j0 : J} {ls0 : List Nat} {n m : Nat} (h : Inv G c j ls tm L H e g w) {a : Act} (ha : a.tmps = (tm.map (concS j ls)).toArray) (hd : a.defers = []) {v : SV} (hv : v.ok H.length L.length = true)
    {dst : Option Nat} {K : KV} (hK : K v L H e g) (hj : J.Eq n j0 j) (hl : ∀ i, i < m → ls.getD i 0 = ls0.getD i 0) (hlen : n ≤ H.length) : After2 G c j0 ls0 n m tm dst K (a.put dst (concS j ls v)) w :=
  ⟨v, L, H, e, g, hK, j, ls, h.put hv dst, hj, hl, hlen, put_tmps ha dst v, put_defers hd dst _⟩

/-- a state on the machine's side, at another place of the blocks. -/
theorem tmps_at (h : Inv G c j ls tm L H e g w) {a : Act} (ha : a.tmps = (tm.map (concS j ls)).toArray) {j' : J} {ls' : List Nat} (hj : J.Eq H.length j j') (hl : ∀ i, i < L.length → ls'.getD i 0 = ls.getD i 0) :
    a.tmps = (tm.map (concS j' ls')).toArray := by
  rw [ha, tmps_eq hj hl h.tml]

theorem mem_after (h : Inv G c j ls tm L H e g w) {a : Act} (ha : a.tmps = (tm.map (concS j ls)).toArray) (hd : a.defers = []) {o : Oper} {v L' H' e' g'}
    (hm : MemOk P G c j ls tm L H a.eval o w v L' H' e' g') (hlen : H.length ≤ H'.length) {K : KV} (hK : K v L' H' e' g') (Q : Exit → Act → World → Prop) : o.wp P a w (After2 G c j ls H.length L.length tm o.dst K) Q := by
  obtain ⟨w', j', ls', nx, hrun, hnx, hinv, hok, hj, hl⟩ := hm
  unfold Oper.wp
  rw [hrun]
  have ha' := tmps_at h ha hj hl
  rcases hnx with rfl | ⟨rfl, rfl⟩
  · exact after_put hinv ha' hd hok hK hj hl hlen
  · exact after_put (v := undefV) hinv ha' hd hok hK hj hl hlen

theorem pure_after (h : Inv G c j ls tm L H e g w) {a : Act} (ha : a.tmps = (tm.map (concS j ls)).toArray) (hd : a.defers = []) {o : Oper} {v : SV}
    (hrun : (execOp a.eval o).run P w = .ok (.value (concS j ls v)) w) (hv : v.ok H.length L.length = true) {K : KV} (hK : K v L H e g) (Q : Exit → Act → World → Prop) : o.wp P a w (After2 G c j ls H.length L.length tm o.dst K) Q := by
  unfold Oper.wp
  rw [hrun]
  exact after_put h ha hd hv hK (J.Eq.refl _ _) (fun _ _ => rfl) (Nat.le_refl _)

theorem call_after {C : CT} (hC : SndC P G C) (h : Inv G c j ls tm L H e g w) {a : Act} (ha : a.tmps = (tm.map (concS j ls)).toArray) (hd : a.defers = []) {o : Oper} {n : Nat} {vs : List V}
    (hrun : Has P n → (execOp a.eval o).run P w = .ok (.enter n (concL j vs).toArray) w) (hvs : V.ltL H.length vs = true) {K : KV}
    (hcall : C n vs H fun v H' e' g' => K (.v v) L H' (e || e') (g || g')) (Q : Exit → Act → World → Prop) : o.wp P a w (After2 G c j ls H.length L.length tm o.dst K) Q := by
  obtain ⟨hh, hk⟩ := hC n vs H _ hcall
  unfold Oper.wp
  rw [hrun hh]
  show Calls P n (concL j vs).toArray w _
  refine (hk j w (h.start hvs)).mono ?_
  rintro r w' ⟨v, H', e', g', j', hK, rfl, hinv⟩
  show After2 G c j ls H.length L.length tm o.dst K (a.put o.dst (conc j' v)) w'
  have hb := h.back hinv
  have ha' : a.tmps = (tm.map (concS j' ls)).toArray := tmps_at h ha hinv.jold (fun _ _ => rfl)
  have hv : v.lt H'.length = true := hinv.tml (.v v) (by simp)
  exact after_put (v := .v v) hb ha' hd hv hK hinv.jold (fun _ _ => rfl) hinv.n0

/-! append -/

theorem news_ok (h : Inv G c j ls tm L H e g w) {esz : Nat} {b : V} {n : Nat} {cs : List V} (hn : news H esz b = some (n, cs)) :
    (Builtin.lenOf (conc j b)).run P w = .ok n w ∧ (Builtin.firstCells esz n (conc j b)).run P w = .ok (concL j cs).toArray w ∧ cs.all V.one = true ∧ V.ltL H.length cs = true := by
  unfold news at hn
  split at hn
  · injection hn with hn; injection hn with h1 h2; subst h1; subst h2
    exact ⟨rfl, rfl, rfl, rfl⟩
  · rename_i i o n' c'
    split at hn
    · rename_i cs' hcs
      split at hn
      · rename_i hone
        injection hn with hn; injection hn with h1 h2; subst h1; subst h2
        obtain ⟨c1, c2, c3⟩ := rd_cell h hcs
        exact ⟨rfl, firstCells_ok c1 c3, hone, c2⟩
      · cases hn
    · cases hn
  · rename_i s
    injection hn with hn; injection hn with h2 h3; subst h2; subst h3
    refine ⟨rfl, ?_, List.all_eq_true.2 (by intro v hv; obtain ⟨q, _, rfl⟩ := List.mem_map.1 hv; rfl), by rw [ltL_iff]; intro v hv; obtain ⟨q, _, rfl⟩ := List.mem_map.1 hv; rfl⟩
    simp only [conc, Builtin.firstCells, Sem.run_pure]
    congr 1
    apply Array.toList_inj.mp
    simp only [Array.toList_map, concL_map, List.map_map]
    have : (s.extract 0 s.size).data.toList = s.data.toList := by simp
    rw [this]
    rfl
  · cases hn

theorem olds_ok (h : Inv G c j ls tm L H e g w) {esz : Nat} {p : Option (Nat × Nat)} {n cp : Nat} {cs : List V} (hn : olds H esz p n = some cs) :
    (Builtin.firstCells esz n (conc j (.sl p n cp))).run P w = .ok (concL j cs).toArray w ∧ V.ltL H.length cs = true := by
  unfold olds at hn
  split at hn
  · injection hn with hn; subst hn; exact ⟨rfl, rfl⟩
  · rename_i i o
    split at hn
    · rename_i cs' hcs
      split at hn
      · injection hn with hn; subst hn
        obtain ⟨c1, c2, c3⟩ := rd_cell h hcs
        exact ⟨firstCells_ok c1 c3, c2⟩
      · cases hn
    · cases hn

theorem room_run (n : Nat) : (askRoom n).run P w = .ok () w := by
  unfold askRoom
  split <;> rfl

theorem app_run {ty t u el : TypeId} {i : TypeInfo} {z : Value} {sx sy : Value} {p : Option Addr} {len cp n : Nat} {new : Array Value}
    (hu : P.underlying t = some (.slice el)) (hy0 : ∃ d, P.underlying u = some d ∧ ∀ k, d ≠ .int k) (hi : P.info? el = some i) (hz : i.zero = some z)
    (hsx : sx = .slice p len cp) (hl : (Builtin.lenOf sy).run P w = .ok n w) (hf : (Builtin.firstCells i.size n sy).run P w = .ok new w) :
    (Builtin.append_ #[t, u] ty #[sx, sy]).run P w =
      if len + n ≤ cp then
        match p with
        | some a => (storeCells (a.add (len * i.size)) new.toList).run P w |>.andThen fun _ w' => .ok (.slice p (len + n) cp) w'
        | none => .ok (.slice p (len + n) cp) w
      else if Builtin.nextslicecap (len + n) cp * i.bytes > 2 ^ 48 then (Builtin.append_ #[t, u] ty #[sx, sy]).run P w
      else if ((len + n : Nat) : Int) > IntKind.i64.max then (Builtin.append_ #[t, u] ty #[sx, sy]).run P w
      else
        let cap := (Question.appendCap (len + n) cp el).cut (w.tape w.drawn (Question.appendCap (len + n) cp el))
        (Builtin.firstCells i.size len sx).run P w.drew |>.andThen fun old w1 => (Builtin.firstCells i.size n sy).run P w1 |>.andThen fun new w2 =>
          .ok (.slice (some ⟨w2.heap.size, 0, none⟩) (len + n) cap) (w2.alloc (.cells (old ++ new ++ Builtin.zeroCells z.cells (cap - (len + n))) el)) := by
  subst hsx
  obtain ⟨d, hd, hd2⟩ := hy0
  have hs : tsz P el = some i.size := by simp [tsz, hi]
  by_cases h1 : len + n ≤ cp
  · rw [if_pos h1]
    simp only [Builtin.append_, List.getElem?_toArray, List.getElem?_cons_zero, List.getElem?_cons_succ, Sem.run_bind, r_underlying hu, Result.andThen, r_size hs, r_underlying hd, Sem.run_pure]
    simp only [Bool.false_eq_true, if_false, Sem.run_bind, hl, Result.andThen, if_pos h1, Bool.not_false, if_true, hf]
    cases p with
    | none => rfl
    | some a => 
      simp only [Sem.run_bind]
      rfl
  · rw [if_neg h1]
    by_cases h2 : Builtin.nextslicecap (len + n) cp * i.bytes > 2 ^ 48
    · rw [if_pos h2]
    · rw [if_neg h2]
      by_cases h3 : ((len + n : Nat) : Int) > IntKind.i64.max
      · rw [if_pos h3]
      · rw [if_neg h3]
        simp only [Builtin.append_, List.getElem?_toArray, List.getElem?_cons_zero, List.getElem?_cons_succ, Sem.run_bind, r_underlying hu, Result.andThen, r_size hs, r_underlying hd, Sem.run_pure]
        simp only [Bool.false_eq_true, if_false, Sem.run_bind, hl, Result.andThen, if_neg h1, Bool.not_false, if_true, r_info hi]
        rw [if_neg (fun h => h3 h.1)]
        simp only [Sem.run_bind, r_info hi, Result.andThen]
        rw [if_neg h2]
        simp only [Sem.run_bind, r_info hi, Result.andThen, room_run, r_zero hi hz, run_choose]
        rw [if_neg (by simp [Question.forced])]
        dsimp only
        rw [show ({ heap := w.heap, tape := w.tape, drawn := w.drawn + 1, os := w.os, output := w.output } : World) = w.drew from rfl]
        cases h4 : (Builtin.firstCells i.size len (Value.slice p len cp)).run P w.drew with
        | halt h w => rfl
        | ok a1 w1 =>
          simp only
          cases h5 : (Builtin.firstCells i.size n sy).run P w1 with
          | halt h w => rfl
          | ok a2 w2 => rfl

theorem app_after (h : Inv G c j ls tm L H e g w) {a : Act} (ha : a.tmps = (tm.map (concS j ls)).toArray) (hd : a.defers = []) {dst ty pos after guard} {t u el : TypeId} {x y : Operand} {x' y' : Opd} {zs : List V} {i : TypeInfo}
    (hu : P.underlying t = some (.slice el)) (hy0 : ∃ d, P.underlying u = some d ∧ ∀ k, d ≠ .int k) (hx : cOpd G x = some x') (hy : cOpd G y = some y') (hz : tzero P el = some zs) (hi : P.info? el = some i)
    {K : KV} (hev : evApp0 tm L H e g el i.size i.bytes zs x' y' K) (Q : Exit → Act → World → Prop) :
    ({ dst := dst, op := .call { callee := .builtin .append, args := #[x, y], argTypes := #[t, u] }, type := ty, pos := pos, after := after, guard := guard } : Oper).wp P a w (After2 G c j ls H.length L.length tm dst K) Q := by
  unfold evApp0 at hev
  split at hev
  · rename_i p len cap b hsx hsy
    obtain ⟨e1, e1'⟩ := val_ok (h.ops ha) hx hsx
    obtain ⟨e2, _⟩ := val_ok (h.ops ha) hy hsy
    split at hev
    · rename_i n cs hn
      obtain ⟨n1, n2, n3, n4⟩ := news_ok (P := P) h hn
      obtain ⟨i', z, hi', hz1, hz2, hz3⟩ := tzero_some hz
      rw [hi] at hi'; injection hi' with hi'; subst hi'
      have hzc : z.cells = (concL j zs).toArray := by rw [(toVs_ok hz2 j 0).1]
      have hsl : ∃ q, a.eval x = .slice q len cap ∧ q = p.map fun r => j.at r.1 r.2 := by
        rw [e1]
        cases p with
        | none => exact ⟨_, rfl, rfl⟩
        | some r => exact ⟨_, rfl, rfl⟩
      obtain ⟨q, hq, rfl⟩ := hsl
      have hrun := app_run (P := P) (w := w) (ty := ty) (sy := a.eval y) hu hy0 hi hz1 hq (by rw [e2]; exact n1) (by rw [e2]; exact n2)
      have fin : ∀ (v : Value) w', (Builtin.append_ #[t, u] ty #[a.eval x, a.eval y]).run P w = .ok v w' →
          (execOp a.eval { dst := dst, op := .call { callee := .builtin .append, args := #[x, y], argTypes := #[t, u] }, type := ty, pos := pos, after := after, guard := guard }).run P w = .ok (.value v) w' := by
        intro v w' hr
        refine run_builtin ?_
        simp only [List.map_toArray, List.map_cons, List.map_nil]
        exact run_value hr
      split at hev
      · rename_i hle
        rw [if_pos hle] at hrun
        cases p with
        | none =>
          simp only at hev
          simp only [Option.map_none] at hrun
          exact pure_after h ha hd (v := .v (.sl none (len + n) cap)) (fin _ _ hrun) rfl hev Q
        | some r =>
          obtain ⟨k, off⟩ := r
          simp only at hev
          split at hev
          · rename_i H1 hH
            obtain ⟨ty1, ds, hb, h0, h1, hle1, hlen, hinv⟩ := wr_ok h hH n4 (e' := e || !V.ltL 0 cs) (by
              intro hh
              simp only [Bool.or_eq_false_iff, Bool.not_eq_false'] at hh
              exact hh)
            have hsc := run_storeCells_at P (j.b k) (off + len * i.size) ty1 (concL j cs) 0 (concL j ds).toArray w h1 (by simpa using hle1) (concL_one n3)
            simp only [Nat.add_zero] at hsc
            have had : (j.at k off).add (len * i.size) = ⟨j.b k, off + len * i.size, none⟩ := by rw [at_add]; simp [J.at, h0]
            simp only [Option.map_some, had] at hrun
            rw [hsc] at hrun
            simp only [Result.andThen] at hrun
            have hfin := fin _ _ hrun
            refine mem_after h ha hd (L' := L) (H' := H1) (e' := e || !V.ltL 0 cs) (g' := g) (v := .v (.sl (some (k, off)) (len + n) cap)) ⟨_, j, ls, _, hfin, .inl rfl, ?_, ?_, J.Eq.refl _ _, fun _ _ => rfl⟩ (by rw [hlen]; exact Nat.le_refl _) hev Q
            · rw [concL_splice] at hinv; simpa using hinv
            · rw [hlen]; exact e1'
          · exact hev.elim
      · rename_i hle
        rw [if_neg hle] at hrun
        split at hev
        · rename_i old hold
          obtain ⟨hb1, hb2, hall⟩ := hev
          have hcap : ¬ Builtin.nextslicecap (len + n) cap * i.bytes > 2 ^ 48 := by
            have h1 := nextslicecap_le (need := len + n) (old := cap) (by omega)
            have h2 : Builtin.nextslicecap (len + n) cap * i.bytes ≤ 2 * (len + n) * i.bytes := Nat.mul_le_mul_right _ h1
            have h3 : 2 * (len + n) * i.bytes = 2 * ((len + n) * i.bytes) := Nat.mul_assoc _ _ _
            have h4 : (2 : Nat) ^ 48 = 281474976710656 := by decide
            omega
          have hmax : ¬ ((len + n : Nat) : Int) > IntKind.i64.max := by
            have : IntKind.i64.max = 9223372036854775807 := rfl
            omega
          rw [if_neg hcap, if_neg hmax] at hrun
          have hd' := h.drew
          obtain ⟨o1, o2⟩ := olds_ok (P := P) hd' hold (cp := cap)
          obtain ⟨_, n2', _, _⟩ := news_ok (P := P) hd' hn
          rw [e1] at hrun
          simp only [o1, Result.andThen] at hrun
          rw [e2] at hrun
          simp only [n2'] at hrun
          generalize hc0 : (Question.appendCap (len + n) cap el).cut (w.tape w.drawn (Question.appendCap (len + n) cap el)) = cp' at hrun
          have hcb : len + n ≤ cp' ∧ cp' < 9223372036854775808 := by
            rw [← hc0]
            simp only [Question.cut]
            have : w.tape w.drawn (Question.appendCap (len + n) cap el) % (2 ^ 63 - (len + n)) < 2 ^ 63 - (len + n) := Nat.mod_lt _ (by omega)
            omega
          have hK := hall cp' hcb.1 hcb.2
          have hcells : (concL j old).toArray ++ (concL j cs).toArray ++ Builtin.zeroCells z.cells (cp' - (len + n)) = (concL j (old ++ cs ++ reps (cp' - (len + n)) zs)).toArray := by
            rw [zeroCells_eq hzc]; simp [concL_map]
          rw [hcells] at hrun
          have hnl : V.ltL H.length (old ++ cs ++ reps (cp' - (len + n)) zs) = true := by
            rw [ltL_iff]
            intro v hv
            simp only [List.mem_append] at hv
            rcases hv with (hv | hv) | hv
            · exact (ltL_iff _ _).1 o2 v hv
            · exact (ltL_iff _ _).1 n4 v hv
            · exact (ltL_iff _ _).1 (reps_lt (zero_one hz H.length).2) v hv
          rw [← e1, ← e2] at hrun
          have hfin := fin _ _ hrun
          refine mem_after h ha hd (v := .v (.sl (some (H.length, 0)) (len + n) cp')) ⟨_, j.push H.length w.drew.heap.size, ls, _, hfin, .inl ?_, new_ok hd' hnl (ty := el), by simp [SV.ok, V.lt], j.push_eq _ _, fun _ _ => rfl⟩ (by simp) hK Q
          simp only [concS, conc_newS]
        · exact hev.elim
    · exact hev.elim
  · exact hev.elim

theorem appz_run {ty t u el : TypeId} {ki : IntKind} {i : TypeInfo} {z : Value} {sx sy : Value} {p : Option Addr} {len cp : Nat} {kk : IntKind} {l : Int}
    (hu : P.underlying t = some (.slice el)) (hy0 : P.underlying u = some (.int ki)) (hi : P.info? el = some i) (hz : i.zero = some z) (hp : 0 < i.size)
    (hsx : sx = .slice p len cp) (hsy : sy = .int kk l) (hl : 0 < l) (hgr : cp < len + l.toNat) (hb : (len + l.toNat) * i.bytes ≤ 140737488355328) (hm : len + l.toNat ≤ 9223372036854775807) :
    (Builtin.append_ #[t, u] ty #[sx, sy]).run P w =
        let cap := (Question.appendCap (len + l.toNat) cp el).cut (w.tape w.drawn (Question.appendCap (len + l.toNat) cp el))
        (Builtin.firstCells i.size len sx).run P w.drew |>.andThen fun old w1 =>
          .ok (.slice (some ⟨w1.heap.size, 0, none⟩) (len + l.toNat) cap) (w1.alloc (.cells (old ++ Builtin.zeroCells z.cells l.toNat ++ Builtin.zeroCells z.cells (cap - (len + l.toNat))) el)) := by
  subst hsx; subst hsy
  have hs : tsz P el = some i.size := by simp [tsz, hi]
  have hw : IntKind.i64.wrap l = l := by
    show (if (true && decide (l % 18446744073709551616 ≥ 9223372036854775808)) = true then l % 18446744073709551616 - 18446744073709551616 else l % 18446744073709551616) = l
    simp only [Bool.true_and, decide_eq_true_eq, ge_iff_le]
    split <;> omega
  have h1 : ¬ (len + l.toNat ≤ cp) := by omega
  have h2 : ¬ Builtin.nextslicecap (len + l.toNat) cp * i.bytes > 2 ^ 48 := by
    have h1 := nextslicecap_le (need := len + l.toNat) (old := cp) (by omega)
    have h2 : Builtin.nextslicecap (len + l.toNat) cp * i.bytes ≤ 2 * (len + l.toNat) * i.bytes := Nat.mul_le_mul_right _ h1
    have h3 : 2 * (len + l.toNat) * i.bytes = 2 * ((len + l.toNat) * i.bytes) := Nat.mul_assoc _ _ _
    have h4 : (2 : Nat) ^ 48 = 281474976710656 := by decide
    omega
  have h3 : ¬ ((len + l.toNat : Nat) : Int) > IntKind.i64.max := by
    have : IntKind.i64.max = 9223372036854775807 := rfl
    omega
  have h4 : ¬ (l * (i.bytes : Int) > 2 ^ 48) := by
    have e1 : l = (l.toNat : Int) := by omega
    have e2 : l.toNat * i.bytes ≤ 140737488355328 := Nat.le_trans (Nat.mul_le_mul_right _ (by omega)) hb
    rw [e1]
    have e3 : ((l.toNat : Int) * (i.bytes : Int)) = ((l.toNat * i.bytes : Nat) : Int) := by simp
    rw [e3]
    have e4 : (2 : Int) ^ 48 = 281474976710656 := by decide
    omega
  have h5 : ¬ (l.toNat * i.size = 0) := by
    have : 0 < l.toNat * i.size := Nat.mul_pos (by omega) hp
    omega
  simp only [Builtin.append_, List.getElem?_toArray, List.getElem?_cons_zero, List.getElem?_cons_succ, Sem.run_bind, r_underlying hu, Result.andThen, r_size hs, r_underlying hy0, Sem.run_pure]
  simp only [if_true, Sem.run_bind, asInt, asIntOf, Sem.run_pure, Result.andThen, hw, if_neg (show ¬ l < 0 by omega), r_info hi]
  rw [if_neg h4]
  simp only [Sem.run_pure, Result.andThen, if_neg h1, Bool.not_true, Bool.false_eq_true, if_false, Sem.run_bind, r_info hi]
  rw [if_neg (fun h => h3 h.1)]
  simp only [Sem.run_bind, r_info hi, Result.andThen]
  rw [if_neg h2]
  simp only [Sem.run_bind, r_info hi, Result.andThen, room_run, r_zero hi hz, run_choose]
  rw [if_neg (by simp [Question.forced])]
  dsimp only
  rw [show ({ heap := w.heap, tape := w.tape, drawn := w.drawn + 1, os := w.os, output := w.output } : World) = w.drew from rfl]
  cases h6 : (Builtin.firstCells i.size len (Value.slice p len cp)).run P w.drew with
  | halt h w => rfl
  | ok a1 w1 =>
    simp only [if_neg h5, Sem.run_bind, r_zero hi hz, Sem.run_pure, Result.andThen]
    rfl

theorem appz_after (h : Inv G c j ls tm L H e g w) {a : Act} (ha : a.tmps = (tm.map (concS j ls)).toArray) (hd : a.defers = []) {dst ty pos after guard} {t u el : TypeId} {ki : IntKind} {x y : Operand} {x' y' : Opd} {zs : List V} {i : TypeInfo}
    (hu : P.underlying t = some (.slice el)) (hy0 : P.underlying u = some (.int ki)) (hx : cOpd G x = some x') (hy : cOpd G y = some y') (hz : tzero P el = some zs) (hi : P.info? el = some i) (hp : 0 < i.size)
    {K : KV} (hev : evAppz tm L H e el i.bytes zs x' y' K) (Q : Exit → Act → World → Prop) :
    ({ dst := dst, op := .call { callee := .builtin .append, args := #[x, y], argTypes := #[t, u] }, type := ty, pos := pos, after := after, guard := guard } : Oper).wp P a w (After2 G c j ls H.length L.length tm dst K) Q := by
  unfold evAppz at hev
  split at hev
  · rename_i p len cap kk l hsx hsy
    obtain ⟨hl, hgr, hev⟩ := hev
    obtain ⟨e1, e1'⟩ := val_ok (h.ops ha) hx hsx
    obtain ⟨e2, _⟩ := val_ok (h.ops ha) hy hsy
    split at hev
    · rename_i old hold
      obtain ⟨hb1, hb2, hall⟩ := hev
      obtain ⟨i', z, hi', hz1, hz2, hz3⟩ := tzero_some hz
      rw [hi] at hi'; injection hi' with hi'; subst hi'
      have hzc : z.cells = (concL j zs).toArray := by rw [(toVs_ok hz2 j 0).1]
      have hsl : ∃ q, a.eval x = .slice q len cap ∧ q = p.map fun r => j.at r.1 r.2 := by
        rw [e1]
        cases p with
        | none => exact ⟨_, rfl, rfl⟩
        | some r => exact ⟨_, rfl, rfl⟩
      obtain ⟨q, hq, rfl⟩ := hsl
      have hrun := appz_run (P := P) (w := w) (ty := ty) hu hy0 hi hz1 hp hq (show a.eval y = .int kk l by rw [e2]; rfl) hl hgr hb1 hb2
      have hd' := h.drew
      have hsz : zs.length = i.size := by
        first
          | exact hz3
          | omega
      obtain ⟨o1, o2⟩ := olds_ok (P := P) hd' hold (cp := cap)
      rw [hsz] at o1
      rw [e1] at hrun
      simp only [o1, Result.andThen] at hrun
      generalize hc0 : (Question.appendCap (len + l.toNat) cap el).cut (w.tape w.drawn (Question.appendCap (len + l.toNat) cap el)) = cp' at hrun
      have hcb : len + l.toNat ≤ cp' ∧ cp' < 9223372036854775808 := by
        rw [← hc0]
        simp only [Question.cut]
        have : w.tape w.drawn (Question.appendCap (len + l.toNat) cap el) % (2 ^ 63 - (len + l.toNat)) < 2 ^ 63 - (len + l.toNat) := Nat.mod_lt _ (by omega)
        omega
      have hK := hall cp' hcb.1 hcb.2
      have hcells : (concL j old).toArray ++ Builtin.zeroCells z.cells l.toNat ++ Builtin.zeroCells z.cells (cp' - (len + l.toNat)) = (concL j (old ++ reps l.toNat zs ++ reps (cp' - (len + l.toNat)) zs)).toArray := by
        rw [zeroCells_eq hzc, zeroCells_eq hzc]; simp [concL_map]
      rw [hcells] at hrun
      have hnl : V.ltL H.length (old ++ reps l.toNat zs ++ reps (cp' - (len + l.toNat)) zs) = true := by
        rw [ltL_iff]
        intro v hv
        simp only [List.mem_append] at hv
        rcases hv with (hv | hv) | hv
        · exact (ltL_iff _ _).1 o2 v hv
        · exact (ltL_iff _ _).1 (reps_lt (zero_one hz H.length).2) v hv
        · exact (ltL_iff _ _).1 (reps_lt (zero_one hz H.length).2) v hv
      rw [← e1] at hrun
      have fin : ∀ (v : Value) w', (Builtin.append_ #[t, u] ty #[a.eval x, a.eval y]).run P w = .ok v w' →
          (execOp a.eval { dst := dst, op := .call { callee := .builtin .append, args := #[x, y], argTypes := #[t, u] }, type := ty, pos := pos, after := after, guard := guard }).run P w = .ok (.value v) w' := by
        intro v w' hr
        refine run_builtin ?_
        simp only [List.map_toArray, List.map_cons, List.map_nil]
        exact run_value hr
      have hfin := fin _ _ hrun
      refine mem_after h ha hd (v := .v (.sl (some (H.length, 0)) (len + l.toNat) cp')) ⟨_, j.push H.length w.drew.heap.size, ls, _, hfin, .inl ?_, new_ok hd' hnl (ty := el), by simp [SV.ok, V.lt], j.push_eq _ _, fun _ _ => rfl⟩ (by simp) hK Q
      simp only [concS, conc_newS]
    · exact hev.elim
  · exact hev.elim

/-! every operation -/

/-- those that touch no memory -/
def isPure : EOp → Bool
  | .build _ _ | .nck _ | .bin _ _ _ | .eqb _ _ _ | .eqp _ _ _ | .eqs _ _ _ | .cmp _ _ _ _ | .un _ _ | .conv _ _ | .mkfn _ _ _ => true
  | .slc _ _ _ _ | .slcs _ _ _ | .slca _ _ _ _ _ | .fa _ _ | .fld _ _ _ _ | .ixs _ _ _ | .ixa _ _ _ _ | .idx _ _ _ _ _ | .ixstr _ _ | .ext _ _ | .len _ _ | .mm _ _ _ | .capo _ | .stuck => true
  | _ => false

theorem mem_none {op : EOp} (h : isPure op = true) : memOp tm L H e g op = none := by
  cases op <;> first | rfl | cases h

theorem cBin_pure {op : BinOp} {xt : TypeId} {x y : Opd} {eo : EOp} (h : cBin P op xt x y = some eo) : isPure eo = true := by
  have key : ∀ q, cBin.cEq P q xt x y = some eo → isPure eo = true := by
    intro q h
    rcases cEq_cases h with ⟨ks, rfl, _⟩ | rfl | ⟨rfl, _⟩ | ⟨rfl, _⟩ | ⟨rfl, _⟩ <;> rfl
  unfold cBin at h
  cases op <;> simp only at h <;> first | exact key _ h | (injection h with h; subst h; rfl)

theorem cSlice_pure {t : TypeId} {x : Opd} {lo hi : Option Opd} {eo : EOp} (h : cSlice P t x lo hi = some eo) : isPure eo = true := by
  unfold cSlice at h
  split at h
  · obtain ⟨_, _, rfl⟩ := map_some h; rfl
  · injection h with h; subst h; rfl
  · obtain ⟨_, _, rfl⟩ := map_some h; rfl
  · cases h

theorem op_ok2 {C : CT} (hC : SndC P G C) {a : Act} (h : Inv G c j ls tm L H e g w) (ha : a.tmps = (tm.map (concS j ls)).toArray) (hd : a.defers = []) {o : Oper} {op : EOp} (hc : cOp P G hp o = some op) {K : KV} (hev : evOp C tm L H e g op K) (Q : Exit → Act → World → Prop) :
    o.wp P a w (After2 G c j ls H.length L.length tm o.dst K) Q := by
  have E := h.ops ha
  -- what neither reads nor writes memory, and what does so in one way
  have rest : (∀ v, pureOp tm op = some v → K v L H e g → o.wp P a w (After2 G c j ls H.length L.length tm o.dst K) Q) := by
    intro v hv hK
    obtain ⟨r1, r2⟩ := pure_ok (P := P) (w := w) (ls := ls) E hc hv
    exact pure_after h ha hd r1 r2 hK Q
  have split1 : ∀ (hne : ∀ f xs, op ≠ .call f xs) (hna : ∀ a b c d x y, op ≠ .app a b c d x y) (hnp : ∀ a b c, op ≠ .pick a b c) (hnm : ∀ x, op ≠ .mv x)
      (hmem : ∀ v L' H' e' g', memOp tm L H e g op = some (v, L', H', e', g') → MemOk P G c j ls tm L H a.eval o w v L' H' e' g'), o.wp P a w (After2 G c j ls H.length L.length tm o.dst K) Q := by
    intro hne hna hnp hnm hmem
    have hev2 : (match pureOp tm op with
      | some v => K v L H e g
      | none => match memOp tm L H e g op with
        | some (v, L', H', e', g') => K v L' H' e' g'
        | none => False) := by
      unfold evOp at hev
      split at hev
      · exact absurd rfl (hne _ _)
      · exact absurd rfl (hna _ _ _ _ _ _)
      · exact absurd rfl (hnm _)
      · exact absurd rfl (hnp _ _ _)
      · simp only [fZ_eq, fS_eq, fM_eq, gO_eq] at hev
        exact hev
    cases hp1 : pureOp tm op with
    | some v => rw [hp1] at hev2; exact rest v hp1 hev2
    | none =>
      rw [hp1] at hev2
      simp only at hev2
      cases hm : memOp tm L H e g op with
      | none => rw [hm] at hev2; exact hev2.elim
      | some r =>
        obtain ⟨v, L', H', e', g'⟩ := r
        rw [hm] at hev2
        exact mem_after h ha hd (hmem v L' H' e' g' hm) (memOp_len hm) hev2 Q
  have pureK : isPure op = true → o.wp P a w (After2 G c j ls H.length L.length tm o.dst K) Q := by
    intro hp1
    refine split1 ?_ ?_ ?_ ?_ (fun v L' H' e' g' hm => by rw [mem_none hp1] at hm; cases hm)
    all_goals (intros; intro hh; subst hh; cases hp1)
  obtain ⟨dst, oo, ty, pos, after, guard⟩ := o
  unfold cOp at hc
  cases oo with
  | move x =>
    (try simp only at hc)
    obtain ⟨x', hx, rfl⟩ := map_some hc
    obtain ⟨e1, e2⟩ := opd_ok E hx
    simp only [evOp] at hev
    split at hev
    · rename_i v hv
      rw [hv] at e1 e2
      exact pure_after h ha hd (v := .v v) (by simp only [execOp, e1]; rfl) e2 hev Q
    · rename_i i o hv
      rw [hv] at e1 e2
      exact pure_after h ha hd (v := .lp i o) (by simp only [execOp, e1]; rfl) e2 hev Q
  | assign x =>
    (try simp only at hc)
    obtain ⟨x', hx, rfl⟩ := map_some hc
    obtain ⟨e1, e2⟩ := opd_ok E hx
    simp only [evOp] at hev
    split at hev
    · rename_i v hv
      rw [hv] at e1 e2
      exact pure_after h ha hd (v := .v v) (by simp only [execOp, e1]; rfl) e2 hev Q
    · rename_i i o hv
      rw [hv] at e1 e2
      exact pure_after h ha hd (v := .lp i o) (by simp only [execOp, e1]; rfl) e2 hev Q
  | pick x y z =>
    (try simp only at hc)
    split at hc
    · rename_i x' y' z' hx hy hz
      injection hc with hc; subst hc
      simp only [evOp] at hev
      split at hev
      · rename_i b u v hb hu hv
        obtain ⟨e1, _⟩ := val_ok E hx hb
        obtain ⟨e2, e2'⟩ := val_ok E hy hu
        obtain ⟨e3, e3'⟩ := val_ok E hz hv
        cases b with
        | true =>
          refine pure_after h ha hd (v := .v u) ?_ e2' hev Q
          simp only [execOp, e1, conc, asBool, Sem.run_bind, Sem.run_pure, Result.andThen, if_true, e2]; rfl
        | false =>
          refine pure_after h ha hd (v := .v v) ?_ e3' hev Q
          simp only [execOp, e1, conc, asBool, Sem.run_bind, Sem.run_pure, Result.andThen, Bool.false_eq_true, if_false, e3]; rfl
      · exact hev.elim
    · cases hc
  | alloc t =>
    (try simp only at hc)
    split at hc
    · rename_i zs hz
      injection hc with hc; subst hc
      refine split1 ?_ ?_ ?_ ?_ (fun v L' H' e' g' hm => alloc_ok h rfl hz _ hm)
      all_goals (intros; intro hh; cases hh)
    · cases hc
  | box t x =>
    (try simp only at hc)
    split at hc
    · rename_i x' hx
      injection hc with hc; subst hc
      refine split1 ?_ ?_ ?_ ?_ (fun v L' H' e' g' hm => box_ok h ha rfl hx _ hm)
      all_goals (intros; intro hh; cases hh)
    · cases hc
  | buildSlice t len ps =>
    (try simp only at hc)
    split at hc
    · rename_i el hu
      split at hc
      · rename_i zs hz
        split at hc
        · rename_i hb
          obtain ⟨l, hl, rfl⟩ := map_some hc
          refine split1 ?_ ?_ ?_ ?_ (fun v L' H' e' g' hm => bslice_ok h ha rfl hu hz hb hl hm)
          all_goals (intros; intro hh; cases hh)
        · cases hc
      · cases hc
    · cases hc
  | load t x =>
    (try simp only at hc)
    split at hc
    · rename_i x' ag n hx hag hn
      split at hc
      · injection hc with hc; subst hc
        refine split1 ?_ ?_ ?_ ?_ (fun v L' H' e' g' hm => load_ok h ha rfl hx hag hn hm)
        all_goals (intros; intro hh; cases hh)
      · cases hc
    · cases hc
  | store t x y =>
    (try simp only at hc)
    split at hc
    · rename_i x' n y' hx hn hy
      injection hc with hc; subst hc
      refine split1 ?_ ?_ ?_ ?_ (fun v L' H' e' g' hm => store_ok h ha rfl hx hy hn hm)
      all_goals (intros; intro hh; cases hh)
    · cases hc
  | makeSlice t x y =>
    (try simp only at hc)
    split at hc
    · rename_i el x' y' hu hx hy
      split at hc
      · rename_i zs i hz hi
        injection hc with hc; subst hc
        refine split1 ?_ ?_ ?_ ?_ (fun v L' H' e' g' hm => mksl_ok h ha rfl hu hx hy hz hi hm)
        all_goals (intros; intro hh; cases hh)
      · cases hc
    · cases hc
  | makeMap t r =>
    cases r with
    | some y => (try simp only at hc); cases hc
    | none =>
      (try simp only at hc)
      split at hc
      · injection hc with hc; subst hc
        refine split1 ?_ ?_ ?_ ?_ (fun v L' H' e' g' hm => mkmap_ok h rfl hm)
        all_goals (intros; intro hh; cases hh)
      · cases hc
  | call cl =>
    obtain ⟨callee, args, ats⟩ := cl
    (try simp only at hc)
    split at hc
    · rename_i f xs hxs
      obtain ⟨f', hf, rfl⟩ := map_some hc
      simp only [evOp, fC_eq, gO_eq] at hev
      split at hev
      · rename_i n fi cp vs hfv hvs
        obtain ⟨e1, e1'⟩ := val_ok E hf hfv
        obtain ⟨e2, e2'⟩ := opds_ok E hxs hvs
        simp only [V.lt, Bool.and_eq_true] at e1'
        refine call_after hC h ha hd (o := { dst := dst, op := .call { callee := .value f, args := args, argTypes := ats }, type := ty, pos := pos, after := after, guard := guard }) ?_ ?_ hev Q
        · intro hh
          have hargs : args.map a.eval = (concL j vs).toArray := by apply Array.toList_inj.mp; rw [Array.toList_map]; exact e2
          simp only [execOp, resolve, e1, conc, Deferred.ofValue, Sem.run_bind, Sem.run_pure, Result.andThen, invoke, hargs]
          rw [hh.run]
          congr 2
          simp [concL_map]
        · rw [ltL_iff]
          intro v hv
          simp only [List.mem_append] at hv
          rcases hv with (hv | hv) | hv
          · exact (ltL_iff _ _).1 e1'.1 v hv
          · exact (ltL_iff _ _).1 e2' v hv
          · exact (ltL_iff _ _).1 e1'.2 v hv
      · exact hev.elim
    · rename_i b xs hxs
      unfold cCallB at hc
      split at hc
      · split at hc
        · injection hc with hc; subst hc; exact pureK rfl
        · injection hc with hc; subst hc; exact pureK rfl
        · cases hc
      · split at hc
        · injection hc with hc; subst hc; exact pureK rfl
        · cases hc
      · injection hc with hc; subst hc; exact pureK rfl
      · injection hc with hc; subst hc; exact pureK rfl
      · rename_i t x hat
        split at hc
        · rename_i el hu
          obtain ⟨zs, hz, rfl⟩ := map_some hc
          obtain ⟨x0, hl, hx⟩ := cOpds_one hxs
          have hargs : args = #[x0] := Array.toList_inj.mp hl
          have hats : ats = #[t] := Array.toList_inj.mp hat
          subst hargs; subst hats
          refine split1 ?_ ?_ ?_ ?_ (fun v L' H' e' g' hm => clr_ok h ha hu hx hz hm)
          all_goals (intros; intro hh; cases hh)
        · cases hc
      · rename_i t u x y hat
        split at hc
        · rename_i el hu
          obtain ⟨n, hn, rfl⟩ := map_some hc
          obtain ⟨x0, y0, hl, hx, hy⟩ := cOpds_two hxs
          have hargs : args = #[x0, y0] := Array.toList_inj.mp hl
          have hats : ats = #[t, u] := Array.toList_inj.mp hat
          subst hargs; subst hats
          refine split1 ?_ ?_ ?_ ?_ (fun v L' H' e' g' hm => cpy_ok h ha hu hx hy hn hm)
          all_goals (intros; intro hh; cases hh)
        · cases hc
      · rename_i t u x y hat
        split at hc
        · rename_i el kd hu hd2
          split at hc
          · rename_i i z hi hz
            split at hc
            · injection hc with hc; subst hc
              obtain ⟨x0, y0, hl, hx, hy⟩ := cOpds_two hxs
              have hargs : args = #[x0, y0] := Array.toList_inj.mp hl
              have hats : ats = #[t, u] := Array.toList_inj.mp hat
              subst hargs; subst hats
              simp only [evOp] at hev
              exact appz_after h ha hd hu hd2 hx hy hz hi (by assumption) hev.out Q
            · cases hc
          · cases hc
        · rename_i el d hni hu hd2
          split at hc
          · rename_i i z hi hz
            split at hc
            · injection hc with hc; subst hc
              obtain ⟨x0, y0, hl, hx, hy⟩ := cOpds_two hxs
              have hargs : args = #[x0, y0] := Array.toList_inj.mp hl
              have hats : ats = #[t, u] := Array.toList_inj.mp hat
              subst hargs; subst hats
              simp only [evOp] at hev
              exact app_after h ha hd hu ⟨d, hd2, fun k hk => by first | exact (hni el k hu (hk ▸ hd2)).elim | exact hni k hk | exact hni _ _ rfl hk⟩ hx hy hz hi (evApp_pos (by assumption) ▸ hev.out) Q
            · cases hc
          · cases hc
        · cases hc
      · cases hc
    · cases hc
  | build t ps =>
    (try simp only at hc)
    refine pureK ?_
    split at hc
    · split at hc
      · obtain ⟨_, _, rfl⟩ := map_some hc; rfl
      · cases hc
    · split at hc
      · obtain ⟨_, _, rfl⟩ := map_some hc; rfl
      · cases hc
    · cases hc
  | nilCheck x =>
    (try simp only at hc)
    obtain ⟨_, _, rfl⟩ := map_some hc
    exact pureK rfl
  | binOp bo xt x y yt =>
    (try simp only at hc)
    split at hc
    · exact pureK (cBin_pure hc)
    · cases hc
  | unOp uo t x =>
    (try simp only at hc)
    obtain ⟨_, _, rfl⟩ := map_some hc
    exact pureK rfl
  | convert s d x =>
    (try simp only at hc)
    split at hc
    · injection hc with hc; subst hc; exact pureK rfl
    · injection hc with hc; subst hc; exact pureK rfl
  | insert t m k x =>
    (try simp only at hc)
    split at hc
    · rename_i kt et m' k' x' hu hm hk hx
      split at hc
      · rename_i kk hkt
        injection hc with hc; subst hc
        refine split1 ?_ ?_ ?_ ?_ (fun v L' H' e' g' hq => mset_ok h ha rfl hu hkt hm hk hx hq)
        all_goals (intros; intro hh; cases hh)
      · cases hc
    · cases hc
  | lookup t m k ok =>
    (try simp only at hc)
    split at hc
    · rename_i kt et m' k' hu hm hk
      split at hc
      · rename_i kk z hkt hz
        injection hc with hc; subst hc
        refine split1 ?_ ?_ ?_ ?_ (fun v L' H' e' g' hq => look_ok h ha rfl hu hkt hz hm hk hq)
        all_goals (intros; intro hh; cases hh)
      · cases hc
    · cases hc
  | makeInterface t x => injection hc with hc; subst hc; exact pureK rfl
  | panic x => injection hc with hc; subst hc; exact pureK rfl
  | makeFunc f x y =>
    cases f with
    | func f =>
      (try simp only at hc)
      split at hc
      · injection hc with hc; subst hc; exact pureK rfl
      · cases hc
    | _ => cases hc
  | slice t x lo hi mx =>
    cases mx with
    | some y => cases hc
    | none =>
      (try simp only at hc)
      split at hc
      · exact pureK (cSlice_pure hc)
      · cases hc
  | fieldAddr s x f =>
    (try simp only at hc)
    refine pureK ?_
    split at hc
    · split at hc
      · split at hc
        · split at hc
          · cases hc
          · injection hc with hc; subst hc; rfl
        · cases hc
      · cases hc
    · cases hc
  | field t x f =>
    (try simp only at hc)
    refine pureK ?_
    split at hc
    · split at hc
      · split at hc
        · split at hc
          · injection hc with hc; subst hc; rfl
          · cases hc
        · cases hc
      · cases hc
    · cases hc
  | indexAddr t x i =>
    (try simp only at hc)
    refine pureK ?_
    split at hc
    · obtain ⟨_, _, rfl⟩ := map_some hc; rfl
    · obtain ⟨_, _, rfl⟩ := map_some hc; rfl
    · cases hc
  | index t x i =>
    (try simp only at hc)
    refine pureK ?_
    split at hc
    · split at hc
      · split at hc
        · injection hc with hc; subst hc; rfl
        · cases hc
      · cases hc
    · injection hc with hc; subst hc; rfl
    · cases hc
  | extract x i =>
    (try simp only at hc)
    obtain ⟨_, _, rfl⟩ := map_some hc
    exact pureK rfl
  | _ => cases hc

theorem op_ok {C : CT} (hC : SndC P G C) {a : Act} (hR : R G c tm L H e g a w) {o : Oper} {op : EOp} (hc : cOp P G hp o = some op) {K : KV} (hev : evOp C tm L H e g op K) (Q : Exit → Act → World → Prop) :
    o.wp P a w (After G c tm o.dst K) Q := by
  obtain ⟨j, ls, h, ha, hd⟩ := hR
  exact Oper.wp_mono (fun _ _ h => h.after) (op_ok2 hC h ha hd hc hev Q)
end
end Go.Ev
