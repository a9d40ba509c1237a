/- Ev: the operations that touch no memory: each. -/
import Derived.Test.YtmdkhaoppklokaaDoorEvF
namespace Go.Ev
open Go.RowKit

section
variable {P : Program} {w : World}

theorem binI_ok {op : BinOp} {k : IntKind} {a b : Int} {v : V} {t : TypeId} {j : J} {n : Nat} (hs : isSh op = false) (h : binI op k a b = some v) :
    (binOp op t (.int k a) (.int k b)).run P w = .ok (conc j v) w ∧ v.lt n = true := by
  cases op <;> simp only [binI, isSh] at h hs <;> first
    | (cases hs; done)
    | (injection h with h; subst h; exact ⟨by simp [binOp, Op.intArith, Op.intBits, Op.intCmp, conc], rfl⟩)
    | (split at h
       · cases h
       · injection h with h; subst h; exact ⟨by simp [binOp, Op.intDiv, conc, *], rfl⟩)

theorem shI_ok {op : BinOp} {k k' : IntKind} {a b : Int} {v : V} {t : TypeId} {j : J} {n : Nat} (h : shI op k a b = some v) :
    (binOp op t (.int k a) (.int k' b)).run P w = .ok (conc j v) w ∧ v.lt n = true := by
  unfold shI at h
  split at h
  · cases h
  · rename_i hb
    cases op <;> simp only at h <;> first
      | (cases h; done)
      | (injection h with h; subst h; exact ⟨by simp [binOp, Op.shift, conc, hb], rfl⟩)

theorem binV_ok {op : BinOp} {x y v : V} {t : TypeId} {j : J} {n : Nat} (h : binV op x y = some v) :
    (binOp op t (conc j x) (conc j y)).run P w = .ok (conc j v) w ∧ v.lt n = true := by
  unfold binV at h
  split at h
  · rename_i k a k' b
    split at h
    · exact shI_ok h
    · rename_i hs
      split at h
      · rename_i hk; subst hk; exact binI_ok (by simpa using hs) h
      · cases h
  · rename_i a b
    split at h
    · split at h
      · rename_i hl
        injection h with h; subst h
        refine ⟨?_, rfl⟩
        simp only [conc, binOp]
        rw [run_string_add_if, if_neg (by omega)]
      · cases h
    · injection h with h; subst h
      exact ⟨by simp [conc, binOp, Op.stringOp], rfl⟩
    · injection h with h; subst h
      exact ⟨by simp [conc, binOp, Op.stringOp], rfl⟩
    · cases h
  · cases h

/-- '==' or '!=' of one kind -/
def eqop (neq : Bool) : BinOp := match neq with | true => .neq | false => .eql

theorem eqb_ok {neq a b : Bool} {t : TypeId} (hu : P.underlying t = some .bool) :
    (binOp (eqop neq) t (.bool a) (.bool b)).run P w = .ok (.bool (match neq with | true => !(a == b) | false => a == b)) w := by
  cases neq with
  | false => exact run_eql_bool w t a b hu
  | true =>
    simp only [eqop, binOp, Op.equal, Op.maxDepth, Sem.run_bind, run_equalIn_bool w 9999 t a b hu, Result.andThen]
    rfl

theorem eqp_ok {neq : Bool} {a : Option (Nat × Nat)} {t e : TypeId} {j : J} (hu : P.underlying t = some (.pointer e)) :
    (binOp (eqop neq) t (conc j (.ptr a)) (.pointer none)).run P w = .ok (.bool (match neq with | true => !a.isNone | false => a.isNone)) w := by
  have hu' : P.underlying t = some (.pointer (P.pointee t)) := by simp [Program.pointee, hu]
  cases neq <;> cases a <;> simp only [conc, eqop] <;> first | rw [run_eql_pointer_nil w t _ hu'] | rw [run_neq_pointer_nil w t _ hu']
  all_goals rfl

theorem eqs_ok {neq : Bool} {a : Option (Nat × Nat)} {l c l' c' : Nat} {t e : TypeId} {j : J} (hu : P.underlying t = some (.slice e)) :
    (binOp (eqop neq) t (conc j (.sl a l c)) (.slice none l' c')).run P w = .ok (.bool (match neq with | true => !a.isNone | false => a.isNone)) w := by
  cases neq <;> cases a <;> simp only [conc, eqop] <;> first | rw [Lib.run_eql_slice_nil w t e _ _ _ _ _ hu] | rw [run_neq_slice_nil_any w t e _ _ _ _ _ hu]
  all_goals rfl

theorem unV_ok {op : UnOp} {x v : V} {j : J} {n : Nat} (h : unV' op x = some v) : (Op.unary op (conc j x)).run P w = .ok (conc j v) w ∧ v.lt n = true := by
  unfold unV' at h
  split at h
  · injection h with h; subst h; exact ⟨by simp [conc, Op.unary], rfl⟩
  · injection h with h; subst h; exact ⟨by simp [conc, Op.unary, Op.intArith], rfl⟩
  · injection h with h; subst h; exact ⟨by simp [conc, Op.unary, Op.intBits], rfl⟩
  · cases h

theorem guard_plain {op : BinOp} {t : TypeId} {x y : Operand} {j : J} {a b : V} (h : ∀ cs, a ≠ .agg cs) : (eqGuard op t x y (conc j a) (conc j b)).run P w = .ok () w := by
  unfold eqGuard
  cases a with
  | agg cs => exact absurd rfl (h cs)
  | ptr p => cases p <;> cases op <;> rfl
  | sl p _ _ => cases p <;> cases op <;> rfl
  | mp p => cases p <;> cases op <;> rfl
  | _ => cases op <;> rfl

/-! '==' of structs -/

theorem eqC_length {ks : List Bool} {a b : List V} {r : Bool} (h : eqC ks a b = some r) : a.length = ks.length ∧ b.length = ks.length := by
  induction ks generalizing a b r with
  | nil =>
    cases a with
    | nil => cases b with
      | nil => exact ⟨rfl, rfl⟩
      | cons y b => simp [eqC] at h
    | cons x a => simp [eqC] at h
  | cons k ks ih =>
    cases a with
    | nil => cases k <;> simp [eqC] at h
    | cons x a =>
      cases b with
      | nil => cases k <;> cases x <;> simp [eqC] at h
      | cons y b =>
        cases k <;> cases x <;> cases y <;> simp only [eqC] at h <;> first | (cases h; done) | skip
        · split at h
          · rename_i q hq; obtain ⟨p1, p2⟩ := ih hq; exact ⟨by simp [p1], by simp [p2]⟩
          · cases h
        · split at h
          · split at h
            · rename_i q hq; obtain ⟨p1, p2⟩ := ih hq; exact ⟨by simp [p1], by simp [p2]⟩
            · cases h
          · cases h

theorem eqC_append {ks ls : List Bool} {a c : List V} {r : Bool} (h : eqC (ks ++ ls) a c = some r) :
    ∃ r1 r2, eqC ks (a.take ks.length) (c.take ks.length) = some r1 ∧ eqC ls (a.drop ks.length) (c.drop ks.length) = some r2 ∧ r = (r1 && r2) := by
  induction ks generalizing a c r with
  | nil => exact ⟨true, r, by simp [eqC], by simpa using h, by simp⟩
  | cons k ks ih =>
    cases a with
    | nil => cases k <;> simp [eqC] at h
    | cons x a =>
      cases c with
      | nil => cases k <;> cases x <;> simp [eqC] at h
      | cons y c =>
        simp only [List.cons_append] at h
        cases k <;> cases x <;> cases y <;> simp only [eqC] at h <;> first | (cases h; done) | skip
        · split at h
          · rename_i q hq
            injection h with h
            obtain ⟨r1, r2, e1, e2, e3⟩ := ih hq
            exact ⟨_, r2, by simp only [List.length_cons, List.take_succ_cons, eqC, e1]; rfl, by simpa using e2, by rw [← h, e3]; simp [Bool.and_assoc]⟩
          · cases h
        · split at h
          · rename_i hk
            split at h
            · rename_i q hq
              injection h with h
              obtain ⟨r1, r2, e1, e2, e3⟩ := ih hq
              exact ⟨_, r2, by simp only [List.length_cons, List.take_succ_cons, eqC, hk, if_true, e1]; rfl, by simpa using e2, by rw [← h, e3]; simp [Bool.and_assoc]⟩
            · cases h
          · cases h

/-- The value of a type that has these cells. -/
def ofCells (agg : Bool) (j : J) (cs : List V) : Option Value :=
  match agg, cs with
  | true, cs => some (.agg (concL j cs).toArray)
  | false, [v] => some (conc j v)
  | false, _ => none

theorem r_part' {t : TypeId} {a : Bool} {k off : Nat} {j : J} {cs : List V} {v : Value} (ha : tagg P t = some a) (hn : tsz P t = some k)
    (hl : off + k ≤ cs.length) (hv : ofCells a j ((cs.drop off).take k) = some v) : (part t (concL j cs).toArray off).run P w = .ok v w := by
  cases a with
  | true =>
    simp only [ofCells, Option.some.injEq] at hv
    have := r_part (P := P) (w := w) (j := j) ha hn rfl (cs := cs) (off := off) (r := (cs.drop off).take k) (v := .agg ((cs.drop off).take k)) (by unfold cut; rw [if_pos hl]) rfl
    rw [this, ← hv]; rfl
  | false =>
    have hx : ∃ u, (cs.drop off).take k = [u] ∧ conc j u = v := by
      generalize (cs.drop off).take k = l at hv
      match l, hv with
      | [u], hv => simp only [ofCells, Option.some.injEq] at hv; exact ⟨u, rfl, hv⟩
      | [], hv => simp [ofCells] at hv
      | _ :: _ :: _, hv => simp [ofCells] at hv
    obtain ⟨u, hu, hv'⟩ := hx
    have hk : k = 1 := by
      have := congrArg List.length hu
      simp at this; omega
    subst hk
    have := r_part (P := P) (w := w) (j := j) ha hn rfl (cs := cs) (off := off) (r := [u]) (v := u) (by unfold cut; rw [if_pos hl, hu]) rfl
    rw [this, hv']

def FlatOk (P : Program) (w : World) (j : J) (d : Nat) : Prop := ∀ (t : TypeId) (ks : List Bool), flatK P d t = some ks →
  tsz P t = some ks.length ∧ ∃ a, tagg P t = some a ∧ ∀ (xs ys : List V) (r : Bool) (D : Nat), eqC ks xs ys = some r → d ≤ D →
    ∃ x y, ofCells a j xs = some x ∧ ofCells a j ys = some y ∧ (Op.equalIn D t x y).run P w = .ok r w

theorem flatF_ok {j : J} {d : Nat} (ih : FlatOk P w j d) : ∀ (fs : List Field) (o : Nat) (ks : List Bool), flatF P (flatK P d) fs o = some ks →
    ∀ (xs ys : List V) (r : Bool) (D : Nat), xs.length = o + ks.length → ys.length = o + ks.length → eqC ks (xs.drop o) (ys.drop o) = some r → d ≤ D →
    (Op.eqFields D (concL j xs).toArray (concL j ys).toArray fs).run P w = .ok r w := by
  intro fs
  induction fs with
  | nil =>
    intro o ks h xs ys r D hx hy he hD
    simp only [flatF] at h; injection h with h; subst h
    simp only [List.length_nil, Nat.add_zero] at hx hy
    rw [List.drop_of_length_le (by omega), List.drop_of_length_le (by omega)] at he
    simp only [eqC, Option.some.injEq] at he
    subst he
    simp [Op.eqFields]
  | cons f fs ihf =>
    intro o ks h xs ys r D hx hy he hD
    simp only [flatF] at h
    split at h
    · rename_i hn
      split at h
      · rename_i k1 hk1
        split at h
        · rename_i hsz
          split at h
          · rename_i l hl
            injection h with h; subst h
            obtain ⟨r1, r2, e1, e2, rfl⟩ := eqC_append he
            obtain ⟨_, a, ha, hq⟩ := ih f.type k1 hk1
            obtain ⟨x, y, ex, ey, er⟩ := hq _ _ r1 D e1 hD
            simp only [List.length_append] at hx hy
            have p1 := r_part' (P := P) (w := w) (j := j) ha hsz (cs := xs) (off := f.offset) (v := x) (by rw [hn.2]; omega) (by rw [hn.2]; exact ex)
            have p2 := r_part' (P := P) (w := w) (j := j) ha hsz (cs := ys) (off := f.offset) (v := y) (by rw [hn.2]; omega) (by rw [hn.2]; exact ey)
            have rest := ihf (o + k1.length) l hl xs ys r2 D (by omega) (by omega) (by rw [← List.drop_drop, ← List.drop_drop]; exact e2) hD
            unfold Op.eqFields
            rw [if_pos hn.1]
            simp only [Sem.run_bind, p1, p2, er, Result.andThen]
            cases r1 with
            | true => simpa using rest
            | false => simp
          · cases h
        · cases h
      · cases h
    · cases h

theorem flat_ok (j : J) : ∀ d, FlatOk P w j d := by
  intro d
  induction d with
  | zero => intro t ks h; simp [flatK] at h
  | succ d ih =>
    intro t ks h
    unfold flatK at h
    split at h
    · rename_i k hu
      split at h
      · rename_i hs
        injection h with h; subst h
        refine ⟨hs, false, by simp [tagg, hu], ?_⟩
        intro xs ys r D he hD
        obtain ⟨D, rfl⟩ : ∃ D', D = D' + 1 := ⟨D - 1, by omega⟩
        obtain ⟨l1, l2⟩ := eqC_length he
        match xs, ys, l1, l2, he with
        | [.int k1 a], [.int k2 b], _, _, he =>
          simp only [eqC] at he
          split at he
          · rename_i hk
            subst hk
            simp only [Bool.and_true, Option.some.injEq] at he
            subst he
            exact ⟨.int k1 a, .int k1 b, rfl, rfl, run_equalIn_int w D t k1 k a b hu⟩
          · cases he
        | [x], [y], _, _, he => 
          cases x <;> cases y <;> simp only [eqC] at he <;> first | (cases he; done) | skip
          split at he
          · rename_i hk
            subst hk
            simp only [Bool.and_true, Option.some.injEq] at he
            subst he
            exact ⟨_, _, rfl, rfl, run_equalIn_int w D t _ k _ _ hu⟩
          · cases he
      · cases h
    · rename_i hu
      split at h
      · rename_i hs
        injection h with h; subst h
        refine ⟨hs, false, by simp [tagg, hu], ?_⟩
        intro xs ys r D he hD
        obtain ⟨D, rfl⟩ : ∃ D', D = D' + 1 := ⟨D - 1, by omega⟩
        obtain ⟨l1, l2⟩ := eqC_length he
        match xs, ys, l1, l2, he with
        | [x], [y], _, _, he =>
          cases x <;> cases y <;> simp only [eqC] at he <;> first | (cases he; done) | skip
          simp only [Bool.and_true, Option.some.injEq] at he
          subst he
          exact ⟨_, _, rfl, rfl, run_equalIn_bool w D t _ _ hu⟩
      · cases h
    · rename_i fs hu
      split at h
      · cases h
      · rename_i hst
        split at h
        · rename_i ks' hf
          split at h
          · rename_i hs
            injection h with h; subst h
            refine ⟨hs, true, by simp [tagg, hu], ?_⟩
            intro xs ys r D he hD
            obtain ⟨D, rfl⟩ : ∃ D', D = D' + 1 := ⟨D - 1, by omega⟩
            obtain ⟨l1, l2⟩ := eqC_length he
            refine ⟨_, _, rfl, rfl, ?_⟩
            have hu' : P.underlying t = some (.struct (P.fieldsOf t)) := by simp [Program.fieldsOf, hu]
            have hfs : P.fieldsOf t = fs := by simp [Program.fieldsOf, hu]
            rw [run_equalIn_struct w D t _ _ hu' (by simpa using hst), hfs]
            exact flatF_ok ih fs.toList 0 ks' hf xs ys r D (by omega) (by omega) (by simpa using he) (by omega)
          · cases h
        · cases h
    · cases h
end

end Go.Ev
