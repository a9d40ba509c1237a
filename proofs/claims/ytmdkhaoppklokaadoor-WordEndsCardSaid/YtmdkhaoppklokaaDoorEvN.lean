/- Ev: operations that leave the memory as it was, in whatever order. -/
import Derived.Test.YtmdkhaoppklokaaDoorEvM
import Derived.Still
namespace Go.Ev
open Go.RowKit

section
variable {P : Program} {ops : Array Oper} {md : Region.Mode} {S : World → Prop}

def silUpon (P : Program) (S : World → Prop) (v : Value) : Result Next → Prop
  | .ok (.value u) w' => u = v ∧ S w'
  | .ok .skip w' => v = undef ∧ S w'
  | .ok (.enter f args) w' => Calls P f args w' fun e w'' => e = .returned v ∧ S w''
  | _ => False

def Sil (P : Program) (ops : Array Oper) (S : World → Prop) (o : Oper) (v : Value) (a : Act) : Prop :=
  (Region.wanted o (yielded ops a.tmps) = true ∧ ∀ w, S w → silUpon P S v ((execOp a.eval o).run P w)) ∨ (Region.wanted o (yielded ops a.tmps) = false ∧ v = undef)

theorem Sil.of_same {o : Oper} {v : Value} {a a' : Act} (h : Sil P ops S o v a) (he : execOp a'.eval o = execOp a.eval o)
    (hw : Region.wanted o (yielded ops a'.tmps) = Region.wanted o (yielded ops a.tmps)) : Sil P ops S o v a' := by
  unfold Sil at *
  rw [he, hw]
  exact h

def silList (P : Program) (ops : Array Oper) (S : World → Prop) (K : Act → Prop) : List Oper → Act → Prop
  | [], a => K a
  | o :: r, a => ∃ v, Sil P ops S o v a ∧ silList P ops S K r (a.put o.dst v)

def silAny (P : Program) (md : Region.Mode) (ops : Array Oper) (S : World → Prop) (K : Act → Prop) : Nat → Array Bool → Act → Prop
  | 0, listed, a => Region.ready md ops listed = [] ∧ K a
  | f + 1, listed, a => (Region.ready md ops listed = [] → K a) ∧
    ∀ i ∈ Region.ready md ops listed, ∃ o v, ops[i]? = some o ∧ Sil P ops S o v a ∧ silAny P md ops S K f (listed.setIfInBounds i true) (a.put o.dst v)

theorem sil_put {oi oj : Oper} {v u : Value} {a : Act} (hap : oi.apart ops oj = true) (hsi : ∀ cs b, oi.op ≠ .select cs b) (hsj : ∀ cs b, oj.op ≠ .select cs b)
    (hi : Sil P ops S oi v a) (hj : Sil P ops S oj u (a.put oi.dst v)) :
    Sil P ops S oj u a ∧ Sil P ops S oi v (a.put oj.dst u) ∧ (a.put oi.dst v).put oj.dst u = (a.put oj.dst u).put oi.dst v := by
  obtain ⟨h1, h2, h3⟩ := Oper.apart_spec hap
  exact ⟨hj.of_same (execOp_put oj hsj a oi.dst v h1).symm (wanted_put oj a oi.dst v h1).symm, hi.of_same (execOp_put oi hsi a oj.dst u h3) (wanted_put oi a oj.dst u h3), Act.put_comm a v u h2⟩

theorem silAny_first {K : Act → Prop} {i : Nat} {oi : Oper} {v : Value} (hi : ops[i]? = some oi) (hsel : ∀ (j : Nat) (o : Oper) cs b, ops[j]? = some o → o.op ≠ .select cs b) :
    ∀ (fuel : Nat) (listed : Array Bool) (a : Act),
      (∀ j oj, ops[j]? = some oj → j ≠ i → listed.getD j true = false → (∀ e ∈ oj.after, Region.binds md e = true → e.on ≠ i) → oi.apart ops oj = true) →
      i ∈ Region.ready md ops listed → Sil P ops S oi v a →
      silAny P md ops S K fuel (listed.setIfInBounds i true) (a.put oi.dst v) → silAny P md ops S K (fuel + 1) listed a := by
  intro fuel
  induction fuel with
  | zero =>
    intro listed a _ hr hy H
    refine ⟨fun h => (by rw [h] at hr; cases hr), fun j hj => ?_⟩
    by_cases hji : j = i
    · subst hji; exact ⟨oi, v, hi, hy, H⟩
    · have := ready_mono hj hji
      rw [H.1] at this
      cases this
  | succ fuel ih =>
    intro listed a hfree hr hy H
    refine ⟨fun h => (by rw [h] at hr; cases hr), fun j hj => ?_⟩
    by_cases hji : j = i
    · subst hji; exact ⟨oi, v, hi, hy, H⟩
    · obtain ⟨oj', u, hoj', hs, hrest⟩ := H.2 j (ready_mono hj hji)
      obtain ⟨hjun, oj, hoj, hall⟩ := mem_ready.1 hj
      rw [hoj] at hoj'; injection hoj' with hoj'; subst hoj'
      have hnot : ∀ e ∈ oj.after, Region.binds md e = true → e.on ≠ i := fun e he hb heq => by
        have h1 := hall e he hb
        have h0 := (mem_ready.1 hr).1
        rw [heq] at h1
        rcases Nat.lt_or_ge i listed.size with h' | h'
        · simp [h'] at h0 h1; rw [h0] at h1; cases h1
        · simp [Array.getElem?_eq_none h'] at h1
      obtain ⟨s1, s2, s3⟩ := sil_put (hfree j oj hoj hji hjun hnot) (fun cs b => hsel i oi cs b hi) (fun cs b => hsel j oj cs b hoj) hy hs
      have hfree' : ∀ k ok, ops[k]? = some ok → k ≠ i → (listed.setIfInBounds j true).getD k true = false →
          (∀ e ∈ ok.after, Region.binds md e = true → e.on ≠ i) → oi.apart ops ok = true := fun k ok hk hki hun hno => by
        refine hfree k ok hk hki ?_ hno
        by_cases hjk : j = k
        · subst hjk; exact hjun
        · rw [getD_set_ne true hjk] at hun; exact hun
      refine ⟨oj, u, hoj, s1, ih (listed.setIfInBounds j true) _ hfree' (ready_mono hr (Ne.symm hji)) s2 ?_⟩
      rw [Array.setIfInBounds_comm _ _ hji, ← s3]
      exact hrest

theorem silAny_lex {K : Act → Prop} (hs : Region.noSelect ops = true) : ∀ (l : List Oper) (k : Nat) (listed : Array Bool) (a : Act), (∀ j, l[j]? = ops[k + j]?) →
    Region.lexFrom md ops l.length k listed = true → silList P ops S K l a → silAny P md ops S K l.length listed a
  | [], _, _, _, _, hB, h => ⟨by simpa [Region.lexFrom] using hB, h⟩
  | o :: l, k, listed, a, hl, hB, h => by
    have h0 : ops[k]? = some o := by simpa using (hl 0).symm
    simp only [List.length_cons, Region.lexFrom, Bool.and_eq_true] at hB
    obtain ⟨⟨hr, hf⟩, hB'⟩ := hB
    obtain ⟨v, hy, hK⟩ := h
    exact silAny_first h0 (Region.noSelect_spec hs) l.length listed a (Region.free_spec h0 hf) (by simpa using hr) hy
      (silAny_lex hs l (k + 1) _ _ (fun j => by have := hl (j + 1); simpa [Nat.add_assoc, Nat.add_comm 1 j] using this) hB' hK)

theorem sil_wp {Q : Exit → Act → World → Prop} {K : Act → World → Prop} {i : Nat} {o : Oper} {v : Value} {a : Act} {w : World} (hi : ops[i]? = some o) (hs : Sil P ops S o v a) (hS : S w)
    (hK : ∀ w, S w → K (a.put o.dst v) w) : wpOp P ops Q i K a w := by
  unfold wpOp
  simp only [hi]
  rcases hs with ⟨h1, h2⟩ | ⟨h1, rfl⟩
  · rw [if_pos h1]
    left
    have h3 := h2 w hS
    unfold Oper.wp
    generalize (execOp a.eval o).run P w = r at h3
    cases r with
    | ok n w' =>
      cases n <;> simp only [silUpon] at h3 <;> simp only [Oper.upon]
      case value u => obtain ⟨rfl, h4⟩ := h3; exact hK _ h4
      case skip => obtain ⟨rfl, h4⟩ := h3; exact hK _ h4
      case enter f args => exact h3.mono fun e w'' ⟨he, hw⟩ => by subst he; exact hK _ hw
    | halt x w' => simp only [silUpon] at h3
  · rw [if_neg (by rw [h1]; simp)]
    exact hK _ hS

theorem silAny_wp {K : Act → Prop} {Q : Exit → Act → World → Prop} (hQ : ∀ a w, K a → S w → Q .normal a w) : ∀ (fuel : Nat) (listed : Array Bool) (a : Act) (w : World),
    silAny P md ops S K fuel listed a → S w → wpAny P md ops Q fuel listed a w
  | 0, _, a, w, h, hS => ⟨h.1, hQ a w h.2 hS⟩
  | fuel + 1, _, a, w, h, hS => ⟨fun h0 => hQ a w (h.1 h0) hS, fun i hi => by
      obtain ⟨o, v, ho, hs, hr⟩ := h.2 i hi
      exact sil_wp ho hs hS fun w' hS' => silAny_wp hQ fuel _ _ w' hr hS'⟩

theorem sil_region {id : Nat} {K : Act → Prop} {Q : Exit → Act → World → Prop} {a : Act} {w : World} (hm : P.follows .mixedOrders = true) (hB : Region.lexB .any ops = true)
    (hQ : ∀ a w, K a → S w → Q .normal a w) (h : silList P ops S K ops.toList a) (hS : S { w with drawn := w.drawn + 1 }) : (Code.region id ops true).wp P Q a w := by
  simp only [Region.lexB, Bool.and_eq_true] at hB
  refine wp_region_any hm (silAny_wp hQ _ _ _ _ ?_ hS)
  have := silAny_lex (md := .any) hB.1 ops.toList 0 (Array.replicate ops.size false) a (by simp) (by simpa using hB.2) h
  simpa using this
end

section
variable {P : Program} {G : Nat} {hp : Nat → Bool} {c : Cx} {j : J} {ls : List Nat} {tm : List SV} {L : List LB} {H : List B} {e g : Bool} {w : World}

/-- The same memory, told at the old places. -/
theorem Inv.rej {j' : J} (h : Inv G c j' ls tm L H e g w) (hj : J.Eq H.length j j') (hg : ∀ i, i < G → j.b i = i ∧ j.o i = 0) : Inv G c j ls tm L H e g w := by
  have hj' : J.Eq H.length j' j := ⟨fun i hi => (hj.b i hi).symm, fun i hi => (hj.o i hi).symm⟩
  refine { h with lts := ?_, br := ?_, sep := ?_, lbr := ?_, lsep := ?_, jold := ?_, jnew := ?_, glob := hg }
  · intro i hi; rw [← hj.b i hi]; exact h.lts i hi
  · intro i b hb
    have hi : i < H.length := (List.getElem?_eq_some_iff.1 hb).1
    exact BR.same (h.br i b hb) hj' hi (h.Hl b (List.mem_of_getElem? hb)) rfl
  · intro i b hb ho i' hi' hne
    have hi : i < H.length := (List.getElem?_eq_some_iff.1 hb).1
    rw [← hj.b i hi, ← hj.b i' hi']; exact h.sep i b hb ho i' hi' hne
  · intro i b hi
    rw [h.lbr i b hi, concL_eq hj' _ (h.Ll b (List.mem_of_getElem? hi))]
  · intro k hk i hi
    rw [← hj.b i hi]; exact h.lsep k hk i hi
  · exact ⟨fun i hi => by rw [← h.jold.b i hi, hj.b i (Nat.lt_of_lt_of_le hi h.n0)], fun i hi => by rw [← h.jold.o i hi, hj.o i (Nat.lt_of_lt_of_le hi h.n0)]⟩
  · intro i hi hi'; rw [← hj.b i hi']; exact h.jnew i hi hi'

theorem list_getD {a b : List Nat} {n : Nat} (ha : a.length = n) (hb : b.length = n) (h : ∀ i, i < n → a.getD i 0 = b.getD i 0) : a = b := by
  apply List.ext_getElem (ha.trans hb.symm)
  intro i h1 h2
  have := h i (ha ▸ h1)
  simpa [List.getD_eq_getElem?_getD, h1, h2] using this

theorem mem_sil (h : Inv G c j ls tm L H e g w) {ρ : Operand → Value} {o : Oper} {v : SV} (hm : MemOk P G c j ls tm L H ρ o w v L H e g) :
    silUpon P (fun w => Inv G c j ls [] L H e g w) (concS j ls v) ((execOp ρ o).run P w) := by
  obtain ⟨w', j', ls', nx, hrun, hnx, hinv, hok, hj, hl⟩ := hm
  rw [hrun]
  have hls : ls' = ls := list_getD hinv.ll h.ll hl
  subst hls
  have hS : Inv G c j ls' [] L H e g w' := (hinv.setTm (tm' := []) (by simp)).rej hj h.glob
  rcases hnx with rfl | ⟨rfl, rfl⟩
  · exact ⟨concS_eq hj (fun _ _ => rfl) hok, hS⟩
  · exact ⟨rfl, hS⟩

def kindOf : EOp → Op → Prop
  | .call _ _, i => ∃ cl, i = .call cl
  | .mv _, i => (∃ x, i = .move x) ∨ ∃ x, i = .assign x
  | .pick _ _ _, i => ∃ x y z, i = .pick x y z
  | .ld _ _ _, i => ∃ t x, i = .load t x
  | _, _ => True

theorem kind_pure {op : EOp} {i : Op} (h : isPure op = true) : kindOf op i := by
  cases op <;> first | trivial | cases h

theorem cOp_kind {o : Oper} {op : EOp} (hc : cOp P G hp o = some op) : kindOf op o.op := by
  obtain ⟨dst, oo, ty, pos, after, guard⟩ := o
  unfold cOp at hc
  cases oo with
  | move x0 => obtain ⟨_, _, rfl⟩ := map_some hc; exact .inl ⟨_, rfl⟩
  | assign x0 => obtain ⟨_, _, rfl⟩ := map_some hc; exact .inr ⟨_, rfl⟩
  | call cl => cases op <;> first | trivial | exact ⟨cl, rfl⟩ | skip
               all_goals
                exfalso
                simp only at hc
                split at hc
                · obtain ⟨_, _, hc⟩ := map_some hc; cases hc
                · unfold cCallB at hc
                  repeat' (split at hc)
                  all_goals first
                    | (obtain ⟨_, _, hc⟩ := map_some hc; cases hc; done)
                    | (injection hc with hc; cases hc; done)
                    | (cases hc; done)
                · cases hc
  | binOp bo xt x y yt =>
    simp only at hc
    split at hc
    · exact kind_pure (cBin_pure hc)
    · cases hc
  | slice t x lo hi mx =>
    cases mx with
    | some y => cases hc
    | none =>
      simp only at hc
      split at hc
      · exact kind_pure (cSlice_pure hc)
      · cases hc
  | makeMap t r =>
    cases r with
    | some y => cases hc
    | none =>
      simp only at hc
      split at hc
      · injection hc with hc; subst hc; trivial
      · cases hc
  | makeFunc f x y =>
    cases f with
    | func f =>
      simp only at hc
      split at hc
      · injection hc with hc; subst hc; trivial
      · cases hc
    | _ => cases hc
  | pick x y z =>
    simp only at hc
    split at hc
    · injection hc with hc; subst hc; exact ⟨x, y, z, rfl⟩
    · cases hc
  | load t x =>
    simp only at hc
    repeat' (split at hc)
    all_goals first
      | (cases hc; done)
      | (injection hc with hc; subst hc; exact ⟨t, x, rfl⟩)
  | _ =>
    (try simp only at hc)
    repeat' (split at hc)
    all_goals first
      | (obtain ⟨_, _, hc⟩ := map_some hc; subst hc; trivial)
      | (injection hc with hc; subst hc; trivial)
      | (cases hc; done)

theorem op_sil {C : CT} (hC : SndC P G C) (h : Inv G c j ls tm L H e g w) {a : Act} (ha : a.tmps = (tm.map (concS j ls)).toArray) {o : Oper} {op : EOp} (hc : cOp P G hp o = some op) {K : SV → Prop} (hev : evS C tm L H e g op K) :
    ∃ v, K v ∧ v.ok H.length L.length = true ∧ ∀ (zs : List LB) (ks : List Nat) w, Inv G c j (ls ++ ks) [] (L ++ zs) H e g w → silUpon P (fun w => Inv G c j (ls ++ ks) [] (L ++ zs) H e g w) (concS j ls v) ((execOp a.eval o).run P w) := by
  have E := h.ops ha
  have htm := h.tml
  have htm' : ∀ zs : List LB, ∀ x, x ∈ tm → x.ok H.length (L ++ zs).length = true := fun zs x hx => SV.ok_le (Nat.le_refl _) (by simp) (htm x hx)
  have rest : ∀ v, pureOp tm op = some v → K v → ∃ v, K v ∧ v.ok H.length L.length = true ∧ ∀ (zs : List LB) (ks : List Nat) w, Inv G c j (ls ++ ks) [] (L ++ zs) H e g w → silUpon P (fun w => Inv G c j (ls ++ ks) [] (L ++ zs) H e g w) (concS j ls v) ((execOp a.eval o).run P w) := by
    intro v hv hK
    refine ⟨v, hK, (pure_ok (P := P) (w := w) (ls := ls) E hc hv).2, fun zs ks w' hw' => ?_⟩
    rw [(pure_ok (P := P) (w := w') (ls := ls) E hc hv).1]
    exact ⟨rfl, hw'⟩
  have hk := cOp_kind hc
  obtain ⟨dst, oo, ty, pos, after, guard⟩ := o
  cases op
  case call f xs =>
    unfold evS at hev
    simp only at hev
    split at hev
    · rename_i n fi cp vs hfv hvs
      obtain ⟨v, hcall, hK⟩ := hev
      rw [fC_eq] at hK
      obtain ⟨cl, hcl⟩ := hk
      simp only at hcl
      subst hcl
      obtain ⟨callee, args, ats⟩ := cl
      unfold cOp at hc
      simp only at hc
      split at hc
      · rename_i f0 xs0 hxs
        obtain ⟨f', hf, hff⟩ := map_some hc
        injection hff with h1 h2; subst h1; subst h2
        obtain ⟨e1, e1'⟩ := val_ok E hf hfv
        obtain ⟨e2, e2'⟩ := opds_ok E hxs hvs
        simp only [V.lt, Bool.and_eq_true] at e1'
        have hvs' : V.ltL H.length (fi ++ vs ++ cp) = true := by
          rw [ltL_iff]
          intro v hv
          simp only [List.mem_append] at hv
          rcases hv with (hv | hv) | hv
          · exact (ltL_iff _ _).1 e1'.1 v hv
          · exact (ltL_iff _ _).1 e2' v hv
          · exact (ltL_iff _ _).1 e1'.2 v hv
        obtain ⟨hh, hk⟩ := hC n _ H _ hcall
        have hargs : args.map a.eval = (concL j vs).toArray := by apply Array.toList_inj.mp; rw [Array.toList_map]; exact e2
        have hrun : ∀ w, (execOp a.eval { dst := dst, op := .call { callee := .value f0, args := args, argTypes := ats }, type := ty, pos := pos, after := after, guard := guard }).run P w = .ok (.enter n (concL j (fi ++ vs ++ cp)).toArray) w := by
          intro w
          simp only [execOp, resolve, e1, conc, Deferred.ofValue, Sem.run_bind, Sem.run_pure, Result.andThen, invoke, hargs]
          rw [hh.run]
          congr 2
          simp [concL_map]
        have hv : v.lt H.length = true := by
          have h0 := hk j w (h.start hvs') []
          obtain ⟨_, _, _, ⟨v', H', e', g', j', ⟨rfl, rfl, rfl, rfl⟩, _, hinv⟩, _⟩ := h0
          exact hinv.tml (.v v') (by simp)
        refine ⟨.v v, hK, hv, fun zs ks w' hw' => ?_⟩
        rw [hrun]
        refine (hk j w' ((hw'.setTm (tm' := tm) (htm' zs)).start hvs')).mono ?_
        rintro r w'' ⟨v', H', e', g', j', ⟨rfl, rfl, rfl, rfl⟩, rfl, hinv⟩
        have hb := hw'.back hinv
        simp only [Bool.or_false] at hb
        exact ⟨by rw [conc_eq hinv.jold _ hv]; rfl, hb.rej hinv.jold hw'.glob⟩
      · rename_i b0 xs0 hxs
        exfalso
        unfold cCallB at hc
        repeat' (split at hc)
        all_goals first
          | (obtain ⟨_, _, hc⟩ := map_some hc; cases hc; done)
          | (injection hc with hc; cases hc; done)
          | (cases hc; done)
      · cases hc
    · exact hev.elim
  case mv x =>
    have key : ∀ x0, (oo = .move x0 ∨ oo = .assign x0) → cOpd G x0 = some x → ∃ v, K v ∧ v.ok H.length L.length = true ∧ ∀ (zs : List LB) (ks : List Nat) w, Inv G c j (ls ++ ks) [] (L ++ zs) H e g w →
        silUpon P (fun w => Inv G c j (ls ++ ks) [] (L ++ zs) H e g w) (concS j ls v) ((execOp a.eval { dst := dst, op := oo, type := ty, pos := pos, after := after, guard := guard }).run P w) := by
      intro x0 hoo hx
      obtain ⟨e1, e2⟩ := opd_ok E hx
      have hK : K (x.ev tm) := by
        unfold evS at hev
        simp only at hev
        split at hev
        · rename_i v hv; rw [hv]; exact hev
        · rename_i i o hv; rw [hv]; exact hev
      refine ⟨_, hK, e2, fun zs ks w' hw' => ?_⟩
      rcases hoo with rfl | rfl
      · simp only [execOp, e1]; exact ⟨rfl, hw'⟩
      · simp only [execOp, e1]; exact ⟨rfl, hw'⟩
    unfold cOp at hc
    rcases hk with ⟨x0, hx0⟩ | ⟨x0, hx0⟩ <;> (simp only at hx0; subst hx0)
    · obtain ⟨x', hx, hxx⟩ := map_some hc
      injection hxx with hxx; subst hxx
      exact key x0 (.inl rfl) hx
    · obtain ⟨x', hx, hxx⟩ := map_some hc
      injection hxx with hxx; subst hxx
      exact key x0 (.inr rfl) hx
  case pick c0 a0 b0 =>
    unfold evS at hev
    simp only at hev
    split at hev
    · rename_i b u v hb hu hv
      obtain ⟨x, y, z, hxyz⟩ := hk
      simp only at hxyz; subst hxyz
      unfold cOp at hc
      simp only at hc
      split at hc
      · rename_i x' y' z' hx hy hz
        injection hc with hc; injection hc with h1 h2 h3; subst h1; subst h2; subst h3
        obtain ⟨e1, _⟩ := val_ok E hx hb
        obtain ⟨e2, e2'⟩ := val_ok E hy hu
        obtain ⟨e3, e3'⟩ := val_ok E hz hv
        cases b with
        | true =>
          refine ⟨.v u, hev, e2', fun zs ks w' hw' => ?_⟩
          simp only [execOp, e1, conc, asBool, Sem.run_bind, Sem.run_pure, Result.andThen, if_true, e2]; exact ⟨rfl, hw'⟩
        | false =>
          refine ⟨.v v, hev, e3', fun zs ks w' hw' => ?_⟩
          simp only [execOp, e1, conc, asBool, Sem.run_bind, Sem.run_pure, Result.andThen, Bool.false_eq_true, if_false, e3]; exact ⟨rfl, hw'⟩
      · cases hc
    · exact hev.elim
  case ld ag n x =>
    unfold evS at hev
    simp only at hev
    split at hev
    · rename_i v r hm
      rw [fS_eq] at hev
      obtain ⟨L', H', e', g'⟩ := r
      obtain ⟨rfl, rfl, rfl, rfl⟩ : L = L' ∧ H = H' ∧ e = e' ∧ g = g' := by
        simp only [memOp] at hm
        repeat' (split at hm)
        all_goals first
          | (injection hm with hm; injection hm with _ hm; injection hm with h1 hm; injection hm with h2 hm; injection hm with h3 h4; exact ⟨h1, h2, h3, h4⟩)
          | (cases hm; done)
      obtain ⟨t, x0, hx0⟩ := hk
      simp only at hx0; subst hx0
      unfold cOp at hc
      simp only at hc
      split at hc
      · rename_i x' ag' n' hx hag hn
        split at hc
        · injection hc with hc; injection hc with h1 h2 h3; subst h1; subst h2; subst h3
          refine ⟨v, hev, ?_, fun zs ks w' hw' => ?_⟩
          · obtain ⟨_, _, _, _, _, _, _, hok, _⟩ := load_ok (P := P) h (o := { dst := dst, op := .load t x0, type := ty, pos := pos, after := after, guard := guard }) ha rfl hx hag hn hm
            exact hok
          · have hls : ∀ i, i < L.length → (ls ++ ks).getD i 0 = ls.getD i 0 := fun i hi => by
              rw [List.getD_eq_getElem?_getD, List.getD_eq_getElem?_getD, List.getElem?_append_left (by rw [h.ll]; exact hi)]
            have ha' : a.tmps = (tm.map (concS j (ls ++ ks))).toArray := by rw [ha, tmps_eq (J.Eq.refl _ _) hls htm]
            have hm' : memOp tm (L ++ zs) H e g (.ld ag' n' x') = some (v, L ++ zs, H, e, g) := by
              simp only [memOp] at hm ⊢
              split at hm
              · rename_i i off he
                try rw [he]
                try simp only
                split at hm
                · rename_i cs hcs
                  try rw [hcs]
                  try simp only
                  split at hm
                  · rename_i u hu
                    try rw [hu]
                    try simp only
                    injection hm with hm; injection hm with h1 _; rw [h1]
                  · cases hm
                · cases hm
              · rename_i i off he
                try rw [he]
                try simp only
                split at hm
                · rename_i b hb
                  have hb' : (L ++ zs)[i]? = some b := by rw [List.getElem?_append_left (List.getElem?_eq_some_iff.1 hb).1]; exact hb
                  try rw [hb']
                  try simp only
                  split at hm
                  · rename_i cs hcs
                    try rw [hcs]
                    try simp only
                    split at hm
                    · rename_i u hu
                      try rw [hu]
                      try simp only
                      injection hm with hm; injection hm with h1 _; rw [h1]
                    · cases hm
                  · cases hm
                · cases hm
              · cases hm
            have hok : v.ok H.length L.length = true := by
              obtain ⟨_, _, _, _, _, _, _, hok, _⟩ := load_ok (P := P) h (o := { dst := dst, op := .load t x0, type := ty, pos := pos, after := after, guard := guard }) ha rfl hx hag hn hm
              exact hok
            have := mem_sil (hw'.setTm (htm' zs)) (load_ok (P := P) (o := { dst := dst, op := .load t x0, type := ty, pos := pos, after := after, guard := guard }) (hw'.setTm (htm' zs)) ha' rfl hx hag hn hm')
            rw [concS_eq (J.Eq.refl H.length j) hls hok] at this
            exact this
        · cases hc
      · cases hc
    · exact hev.elim
  all_goals
    unfold evS at hev
    simp only at hev
    split at hev
    · rename_i v hv
      rw [fZ_eq] at hev
      exact rest v hv hev
    · exact hev.elim
end
end Go.Ev
