/- Ev: the operations that touch no memory: all of them. -/
import Derived.Test.YtmdkhaoppklokaaDoorEvF
namespace Go.Ev
open Go.RowKit

section
variable {P : Program} {G n m : Nat} {j : J} {ls : List Nat} {tm : List SV} {ρ : Operand → Value} {hp : Nat → Bool} {w : World}

theorem map_some {α β : Type} {x : Option α} {f : α → β} {y : β} (h : x.map f = some y) : ∃ a, x = some a ∧ f a = y := by
  cases x with
  | none => cases h
  | some a => exact ⟨a, rfl, by simpa using h⟩

theorem run_value {x : Sem Value} {v : Value} {w' : World} (h : x.run P w = .ok v w') : (do pure (Next.value (← x)) : Sem Next).run P w = .ok (.value v) w' := by
  simp [h, Result.andThen]

/-- the comparison of a type -/
theorem cEq_cases {q : Bool} {xt : TypeId} {x y : Opd} {eo : EOp} (h : cBin.cEq P q xt x y = some eo) :
    (∃ ks, eo = .cmp q ks x y ∧ flatK P 20 xt = some ks ∧ P.eqGuardType P.depth xt = false ∧ tagg P xt = some true) ∨
    (eo = .bin (eqop q) x y) ∨ (eo = .eqb q x y ∧ P.underlying xt = some .bool) ∨ (eo = .eqp q x y ∧ ∃ e, P.underlying xt = some (.pointer e)) ∨
    (eo = .eqs q x y ∧ ∃ e, P.underlying xt = some (.slice e)) := by
  unfold cBin.cEq at h
  split at h
  · rename_i hu
    split at h
    · rename_i hk
      split at h
      · cases h
      · rename_i hg
        injection h with h
        exact .inl ⟨_, h.symm, hk, by simpa using hg, by simp [tagg, hu]⟩
    · cases h
  · injection h with h; right; left; rw [← h]; cases q <;> rfl
  · rename_i hu; injection h with h; exact .inr (.inr (.inl ⟨h.symm, hu⟩))
  · injection h with h; right; left; rw [← h]; cases q <;> rfl
  · rename_i e hu; injection h with h; exact .inr (.inr (.inr (.inl ⟨h.symm, e, hu⟩)))
  · rename_i e hu; injection h with h; exact .inr (.inr (.inr (.inr ⟨h.symm, e, hu⟩)))
  · cases h

theorem binop_ok (E : Ops G j ls n m tm ρ) {op : BinOp} {xt : TypeId} {x y : Operand} {x1 y1 : Opd} (hx : cOpd G x = some x1) (hy : cOpd G y = some y1)
    {v : SV} (hv : pureOp tm (.bin op x1 y1) = some v) :
    (do eqGuard op xt x y (ρ x) (ρ y); binOp op xt (ρ x) (ρ y) : Sem Value).run P w = .ok (concS j ls v) w ∧ v.ok n m = true := by
  simp only [pureOp] at hv
  split at hv
  · rename_i a b ha hb
    split at hv
    · rename_i r hr
      injection hv with hv; subst hv
      obtain ⟨e1, _⟩ := val_ok E hx ha
      obtain ⟨e2, _⟩ := val_ok E hy hb
      have hna : ∀ cs, a ≠ .agg cs := by
        intro cs e; subst e; cases b <;> simp [binV] at hr
      obtain ⟨r1, r2⟩ := binV_ok (P := P) (w := w) (t := xt) (j := j) (n := n) hr
      rw [e1, e2]
      simp only [Sem.run_bind, guard_plain hna, Result.andThen, r1]
      exact ⟨rfl, r2⟩
    · cases hv
  · cases hv

theorem cEq_ok (E : Ops G j ls n m tm ρ) {q : Bool} {xt : TypeId} {x y : Operand} {x1 y1 : Opd} {eo : EOp} (hx : cOpd G x = some x1) (hy : cOpd G y = some y1)
    (hc : cBin.cEq P q xt x1 y1 = some eo) {v : SV} (hv : pureOp tm eo = some v) :
    (do eqGuard (eqop q) xt x y (ρ x) (ρ y); binOp (eqop q) xt (ρ x) (ρ y) : Sem Value).run P w = .ok (concS j ls v) w ∧ v.ok n m = true := by
  rcases cEq_cases hc with ⟨ks, rfl, hk, hg, hagg⟩ | rfl | ⟨rfl, hu⟩ | ⟨rfl, e, hu⟩ | ⟨rfl, e, hu⟩
  · simp only [pureOp] at hv
    split at hv
    · rename_i a b ha hb
      split at hv
      · rename_i r hr
        injection hv with hv; subst hv
        obtain ⟨e1, _⟩ := val_ok E hx ha
        obtain ⟨e2, _⟩ := val_ok E hy hb
        obtain ⟨_, ag, hag, hq⟩ := flat_ok (P := P) (w := w) j 20 xt ks hk
        rw [hagg] at hag; injection hag with hag; subst hag
        obtain ⟨x', y', ex, ey, er⟩ := hq a b r 10000 hr (by omega)
        simp only [ofCells, Option.some.injEq] at ex ey
        subst ex; subst ey
        rw [e1, e2]
        simp only [conc, Sem.run_bind, run_eqGuard_agg w _ xt x y _ _ hg, Result.andThen]
        refine ⟨?_, rfl⟩
        cases q with
        | false => simp only [eqop, binOp, Op.equal, Op.maxDepth, Sem.run_bind, er, Result.andThen]; rfl
        | true => simp only [eqop, binOp, Op.equal, Op.maxDepth, Sem.run_bind, er, Result.andThen]; rfl
      · cases hv
    · cases hv
  · exact binop_ok E hx hy hv
  · simp only [pureOp] at hv
    split at hv
    · rename_i a b ha hb
      injection hv with hv; subst hv
      obtain ⟨e1, _⟩ := val_ok E hx ha
      obtain ⟨e2, _⟩ := val_ok E hy hb
      rw [e1, e2]
      have g := guard_plain (P := P) (w := w) (op := eqop q) (t := xt) (x := x) (y := y) (j := j) (a := .bool a) (b := .bool b) (by intro cs h; cases h)
      simp only [Sem.run_bind, g, Result.andThen]
      exact ⟨eqb_ok hu, rfl⟩
    · cases hv
  · simp only [pureOp] at hv
    split at hv
    · rename_i a ha hb
      injection hv with hv; subst hv
      obtain ⟨e1, _⟩ := val_ok E hx ha
      obtain ⟨e2, _⟩ := val_ok E hy hb
      rw [e1, e2]
      have g := guard_plain (P := P) (w := w) (op := eqop q) (t := xt) (x := x) (y := y) (j := j) (a := .ptr a) (b := .ptr none) (by intro cs h; cases h)
      simp only [Sem.run_bind, g, Result.andThen]
      exact ⟨eqp_ok hu, rfl⟩
    · cases hv
  · simp only [pureOp] at hv
    split at hv
    · rename_i a l c l' c' ha hb
      injection hv with hv; subst hv
      obtain ⟨e1, _⟩ := val_ok E hx ha
      obtain ⟨e2, _⟩ := val_ok E hy hb
      rw [e1, e2]
      have g := guard_plain (P := P) (w := w) (op := eqop q) (t := xt) (x := x) (y := y) (j := j) (a := .sl a l c) (b := .sl none l' c') (by intro cs h; cases h)
      simp only [Sem.run_bind, g, Result.andThen]
      exact ⟨eqs_ok hu, rfl⟩
    · cases hv

theorem bin_ok (E : Ops G j ls n m tm ρ) {op : BinOp} {xt : TypeId} {x y : Operand} {x1 y1 : Opd} {eo : EOp} (hx : cOpd G x = some x1) (hy : cOpd G y = some y1)
    (hc : cBin P op xt x1 y1 = some eo) {v : SV} (hv : pureOp tm eo = some v) :
    (do eqGuard op xt x y (ρ x) (ρ y); binOp op xt (ρ x) (ρ y) : Sem Value).run P w = .ok (concS j ls v) w ∧ v.ok n m = true := by
  unfold cBin at hc
  cases op <;> simp only at hc <;> first
    | exact cEq_ok (q := false) E hx hy hc hv
    | exact cEq_ok (q := true) E hx hy hc hv
    | (injection hc with hc; subst hc; exact binop_ok E hx hy hv)

theorem none_some {α : Type} {p : Prop} {a : α} (h : (none : Option α) = some a) : p := by cases h

theorem slice_ok {t : TypeId} {x : V} {lo hi : Option V} {a : Opd} {c d : Option Opd} {eo : EOp} (hc : cSlice P t a c d = some eo) {tm : List SV} (hx : a.val tm = some x)
    (hl : optV tm c = some lo) (hh : optV tm d = some hi) {v : SV} (hv : pureOp tm eo = some v) {k : Nat} (hk : x.lt k = true) {ls : List Nat} {m : Nat} :
    (Instr.sliceAt t (conc j x) (lo.map (conc j)) (hi.map (conc j)) none).run P w = .ok (concS j ls v) w ∧ v.ok k m = true := by
  unfold cSlice at hc
  split at hc
  · rename_i e hu
    obtain ⟨esz, hs, rfl⟩ := map_some hc
    have hu' : P.underlying t = some (.slice (P.elem t)) := by simp [Program.elem, hu]
    have hee : P.elem t = e := by simp [Program.elem, hu]
    simp only [pureOp, hx, hl, hh] at hv
    cases x <;> (try simp only at hv) <;> first | exact none_some hv | skip
    rename_i p len cap
    split at hv
    · rename_i h1 hb1
      split at hv
      · rename_i l1 hb2
        injection hv with hv; subst hv
        refine ⟨?_, ?_⟩
        · rw [run_sliceAt_slice w t _ _ _ _ hu']
          cases p with
          | none =>
            simp only [conc]
            rw [run_slice_any w t none len cap hu', r_bounds hb1 hb2]
            simp only [Result.andThen, hee, r_size hs]
            unfold sliced
            by_cases h : cap = l1
            · simp only [if_pos h]; rfl
            · simp only [if_neg h]; rfl
          | some q =>
            obtain ⟨i, o⟩ := q
            simp only [conc]
            rw [run_slice_any w t _ len cap hu', r_bounds hb1 hb2]
            simp only [Result.andThen, hee, r_size hs]
            unfold sliced
            by_cases h : cap = l1
            · simp only [if_pos h]; rfl
            · simp only [if_neg h, Option.map_some, at_add]; rfl
        · cases p with
          | none =>
            by_cases h : cap = l1
            · simp only [if_pos h]; rfl
            · simp only [if_neg h]; rfl
          | some q =>
            obtain ⟨i, o⟩ := q
            by_cases h : cap = l1
            · simp only [if_pos h]; exact hk
            · simp only [if_neg h]; exact hk
      · cases hv
    · cases hv
  · rename_i hu
    injection hc with hc; subst hc
    simp only [pureOp, hx, hl, hh] at hv
    cases x <;> (try simp only at hv) <;> first | exact none_some hv | skip
    rename_i s
    split at hv
    · rename_i h1 hb1
      split at hv
      · rename_i l1 hb2
        injection hv with hv; subst hv
        refine ⟨?_, rfl⟩
        simp only [Instr.sliceAt, Sem.run_bind, r_underlying hu, Result.andThen]
        simp only [Instr.slice, conc, Sem.run_bind, r_underlying hu, Result.andThen]
        simp only [Option.isSome_none, Bool.false_eq_true, if_false, Sem.run_bind, r_bounds hb1 hb2, Result.andThen]
        rfl
      · cases hv
    · cases hv
  · rename_i n e hu
    obtain ⟨esz, hs, rfl⟩ := map_some hc
    simp only [pureOp, hx, hl, hh] at hv
    cases x <;> (try simp only at hv) <;> first | exact none_some hv | skip
    rename_i p
    cases p with
    | none => simp only at hv; cases hv
    | some q =>
      obtain ⟨i, o⟩ := q
      simp only at hv
      split at hv
      · rename_i h1 hb1
        split at hv
        · rename_i l1 hb2
          injection hv with hv; subst hv
          refine ⟨?_, hk⟩
          simp only [Instr.sliceAt, conc, Sem.run_bind, r_underlying hu, Result.andThen, Instr.sureAddr, Sem.run_pure, r_bounds hb1 hb2, r_size hs]
          by_cases h : n = l1
          · simp only [if_pos h]; rfl
          · simp only [if_neg h, at_add]; rfl
        · cases hv
      · cases hv
  · cases hc

theorem cOpds_one {l : List Operand} {x : Opd} (h : cOpds G l = some [x]) : ∃ a, l = [a] ∧ cOpd G a = some x := by
  match l, h with
  | [], h => simp [cOpds] at h
  | [a], h =>
    simp only [cOpds] at h
    split at h
    · rename_i p q hp hq
      injection h with h; injection h with h1 h2; injection hq with hq; subst h1
      exact ⟨a, rfl, hp⟩
    · cases h
  | a :: b :: l, h =>
    exfalso
    simp only [cOpds] at h
    split at h
    · rename_i p q hp hq
      injection h with h; injection h with h1 h2; subst h2
      split at hq <;> cases hq
    · cases h

theorem cOpds_two {l : List Operand} {x y : Opd} (h : cOpds G l = some [x, y]) : ∃ a b, l = [a, b] ∧ cOpd G a = some x ∧ cOpd G b = some y := by
  match l, h with
  | [], h => simp [cOpds] at h
  | a :: r, h =>
    simp only [cOpds] at h
    split at h
    · rename_i p q hp hq
      injection h with h; injection h with h1 h2; subst h1; subst h2
      obtain ⟨b, rfl, hb⟩ := cOpds_one hq
      exact ⟨a, b, rfl, hp, hb⟩
    · cases h

theorem run_builtin {b : Builtin} {xs : Array Operand} {ats : Array TypeId} {dst ty pos after guard} {v : Value} {w' : World}
    (h : (builtin b ats ty (xs.map fun | .const _ => true | _ => false) (xs.map ρ)).run P w = .ok (.value v) w') :
    (execOp ρ { dst := dst, op := .call { callee := .builtin b, args := xs, argTypes := ats }, type := ty, pos := pos, after := after, guard := guard }).run P w = .ok (.value v) w' := by
  exact h

theorem callB_pure (E : Ops G j ls n m tm ρ) {c : Call} {b : Builtin} {xs : List Opd} {op : EOp} {dst ty pos after guard} (hcal : c.callee = .builtin b) (hxs : cOpds G c.args.toList = some xs)
    (hc : cCallB P b c.argTypes.toList xs = some op) {v : SV} (hv : pureOp tm op = some v) :
    (execOp ρ { dst := dst, op := .call c, type := ty, pos := pos, after := after, guard := guard }).run P w = .ok (.value (concS j ls v)) w ∧ v.ok n m = true := by
  obtain ⟨callee, args, ats⟩ := c
  subst hcal
  simp only at hxs hc
  unfold cCallB at hc
  split at hc
  · rename_i t x hat
    obtain ⟨a, hl, ha⟩ := cOpds_one hxs
    have hargs : args = #[a] := Array.toList_inj.mp hl
    have hats : ats = #[t] := Array.toList_inj.mp hat
    subst hargs; subst hats
    split at hc
    · rename_i e hu
      injection hc with hc; subst hc
      have hu' : P.underlying t = some (.slice (P.elem t)) := by simp [Program.elem, hu]
      simp only [pureOp] at hv
      split at hv
      · rename_i p k cp hx
        injection hv with hv; subst hv
        obtain ⟨e1, _⟩ := val_ok E ha hx
        refine ⟨?_, rfl⟩
        refine run_builtin ?_
        simp only [List.map_toArray, List.map_cons, List.map_nil, e1]
        refine run_value ?_
        cases p with
        | none => exact run_len_slice w t ty _ _ _ hu'
        | some q => exact run_len_slice w t ty _ _ _ hu'
      · cases hv
    · rename_i hu
      injection hc with hc; subst hc
      simp only [pureOp] at hv
      split at hv
      · rename_i s hx
        injection hv with hv; subst hv
        obtain ⟨e1, _⟩ := val_ok E ha hx
        refine ⟨?_, rfl⟩
        refine run_builtin ?_
        simp only [List.map_toArray, List.map_cons, List.map_nil, e1]
        exact run_value (run_len_string w t ty _ hu)
      · cases hv
    · cases hc
  · rename_i t x hat
    obtain ⟨a, hl, ha⟩ := cOpds_one hxs
    have hargs : args = #[a] := Array.toList_inj.mp hl
    have hats : ats = #[t] := Array.toList_inj.mp hat
    subst hargs; subst hats
    split at hc
    · rename_i e hu
      injection hc with hc; subst hc
      have hu' : P.underlying t = some (.slice (P.elem t)) := by simp [Program.elem, hu]
      simp only [pureOp] at hv
      split at hv
      · rename_i p k cp hx
        injection hv with hv; subst hv
        obtain ⟨e1, _⟩ := val_ok E ha hx
        refine ⟨?_, rfl⟩
        refine run_builtin ?_
        simp only [List.map_toArray, List.map_cons, List.map_nil, e1]
        refine run_value ?_
        cases p with
        | none => exact run_cap_slice w t ty _ _ _ hu'
        | some q => exact run_cap_slice w t ty _ _ _ hu'
      · cases hv
    · cases hc
  · rename_i x y hat
    injection hc with hc; subst hc
    obtain ⟨a, b, hl, ha, hb⟩ := cOpds_two hxs
    have hargs : args = #[a, b] := Array.toList_inj.mp hl
    subst hargs
    simp only [pureOp] at hv
    split at hv
    · rename_i k p k' q hx hy
      split at hv
      · rename_i hk; subst hk
        injection hv with hv; subst hv
        obtain ⟨e1, _⟩ := val_ok E ha hx
        obtain ⟨e2, _⟩ := val_ok E hb hy
        refine ⟨?_, rfl⟩
        refine run_builtin ?_
        simp only [List.map_toArray, List.map_cons, List.map_nil, e1, e2]
        exact run_value (run_min_int2 w ats ty k k p q)
      · cases hv
    · cases hv
  · rename_i x y hat
    injection hc with hc; subst hc
    obtain ⟨a, b, hl, ha, hb⟩ := cOpds_two hxs
    have hargs : args = #[a, b] := Array.toList_inj.mp hl
    subst hargs
    simp only [pureOp] at hv
    split at hv
    · rename_i k p k' q hx hy
      split at hv
      · rename_i hk; subst hk
        injection hv with hv; subst hv
        obtain ⟨e1, _⟩ := val_ok E ha hx
        obtain ⟨e2, _⟩ := val_ok E hb hy
        refine ⟨?_, rfl⟩
        refine run_builtin ?_
        simp only [List.map_toArray, List.map_cons, List.map_nil, e1, e2]
        exact run_value (run_max_int2 w ats ty k k p q)
      · cases hv
    · cases hv
  · split at hc
    · obtain ⟨_, _, rfl⟩ := map_some hc; simp [pureOp] at hv
    · cases hc
  · split at hc
    · obtain ⟨_, _, rfl⟩ := map_some hc; simp [pureOp] at hv
    · cases hc
  · split at hc
    · split at hc
      · split at hc
        · injection hc with hc; subst hc; simp [pureOp] at hv
        · cases hc
      · cases hc
    · split at hc
      · split at hc
        · injection hc with hc; subst hc; simp [pureOp] at hv
        · cases hc
      · cases hc
    · cases hc
  · cases hc

/-- Each operation that touches no memory. -/
theorem pure_ok (E : Ops G j ls n m tm ρ) {o : Oper} {op : EOp} (hc : cOp P G hp o = some op) {v : SV} (hv : pureOp tm op = some v) :
    (execOp ρ o).run P w = .ok (.value (concS j ls v)) w ∧ v.ok n m = true := by
  obtain ⟨dst, oo, ty, pos, after, guard⟩ := o
  unfold cOp at hc
  cases oo with
  | move x => (try simp only at hc); obtain ⟨a, _, rfl⟩ := map_some hc; simp [pureOp] at hv
  | assign x => (try simp only at hc); obtain ⟨a, _, rfl⟩ := map_some hc; simp [pureOp] at hv
  | pick c a b =>
    (try simp only at hc)
    split at hc
    · injection hc with hc; subst hc; simp [pureOp] at hv
    · cases hc
  | alloc t =>
    (try simp only at hc)
    split at hc
    · injection hc with hc; subst hc; simp [pureOp] at hv
    · cases hc
  | box t x =>
    (try simp only at hc)
    split at hc
    · injection hc with hc; subst hc; simp [pureOp] at hv
    · cases hc
  | build t ps =>
    (try simp only at hc)
    split at hc
    · rename_i zs fs hz hu
      split at hc
      · rename_i pl hpl
        obtain ⟨l, hl, rfl⟩ := map_some hc
        simp only [pureOp] at hv
        split at hv
        · rename_i cs hf
          injection hv with hv; subst hv
          obtain ⟨i, z, hi, hz1, hz2, hz3⟩ := tzero_some hz
          have hzl := (toVs_ok hz2 j n).2
          obtain ⟨f1, f2, _⟩ := fill_ok E _ ps.toList l zs cs hl hf hzl
          refine ⟨?_, f2⟩
          simp only [execOp]
          exact run_value (r_build hz (.inl ⟨fs, pl, hu, hpl, rfl⟩) (by simpa using f1))
        · cases hv
      · cases hc
    · rename_i zs q e hz hu
      split at hc
      · rename_i nn hn
        obtain ⟨l, hl, rfl⟩ := map_some hc
        simp only [pureOp] at hv
        split at hv
        · rename_i cs hf
          injection hv with hv; subst hv
          obtain ⟨i, z, hi, hz1, hz2, hz3⟩ := tzero_some hz
          have hzl := (toVs_ok hz2 j n).2
          obtain ⟨f1, f2, _⟩ := fill_ok E _ ps.toList l zs cs hl hf hzl
          refine ⟨?_, f2⟩
          simp only [execOp]
          exact run_value (r_build hz (.inr ⟨_, e, nn, hu, hn, rfl⟩) (by simpa using f1))
        · cases hv
      · cases hc
    · cases hc
  | buildSlice t len ps =>
    (try simp only at hc)
    split at hc
    · split at hc
      · split at hc
        · obtain ⟨l, hl, rfl⟩ := map_some hc; simp [pureOp] at hv
        · cases hc
      · cases hc
    · cases hc
  | load t x =>
    (try simp only at hc)
    split at hc
    · split at hc
      · injection hc with hc; subst hc; simp [pureOp] at hv
      · cases hc
    · cases hc
  | store t x y =>
    (try simp only at hc)
    split at hc
    · injection hc with hc; subst hc; simp [pureOp] at hv
    · cases hc
  | nilCheck x =>
    (try simp only at hc)
    obtain ⟨a, ha, rfl⟩ := map_some hc
    obtain ⟨e1, e2⟩ := opd_ok E ha
    simp only [pureOp] at hv
    split at hv
    · rename_i p he
      injection hv with hv; subst hv
      rw [he] at e1 e2
      obtain ⟨i, o⟩ := p
      exact ⟨by simp [execOp, e1, concS, conc], e2⟩
    · rename_i i o he
      injection hv with hv; subst hv
      rw [he] at e1 e2
      exact ⟨by simp [execOp, e1, concS], e2⟩
    · rename_i f p q he
      injection hv with hv; subst hv
      rw [he] at e1 e2
      exact ⟨by simp [execOp, e1, concS, conc], e2⟩
    · cases hv
  | binOp op xt x y yt =>
    (try simp only at hc)
    split at hc
    · rename_i a b ha hb
      obtain ⟨r1, r2⟩ := bin_ok (P := P) (w := w) E ha hb hc hv
      refine ⟨?_, r2⟩
      simp only [execOp]
      exact run_value r1
    · cases hc
  | unOp op t x =>
    (try simp only at hc)
    obtain ⟨a, ha, rfl⟩ := map_some hc
    simp only [pureOp] at hv
    split at hv
    · rename_i u hu
      split at hv
      · rename_i r hr
        injection hv with hv; subst hv
        obtain ⟨e1, _⟩ := val_ok E ha hu
        obtain ⟨r1, r2⟩ := unV_ok (P := P) (w := w) (j := j) (n := n) hr
        refine ⟨?_, r2⟩
        simp only [execOp, e1]
        exact run_value r1
      · cases hv
    · cases hv
  | convert s d x =>
    (try simp only at hc)
    split at hc
    · rename_i a k1 k ha hs hd
      injection hc with hc; subst hc
      simp only [pureOp] at hv
      split at hv
      · rename_i q z hz
        injection hv with hv; subst hv
        obtain ⟨e1, _⟩ := val_ok E ha hz
        refine ⟨?_, rfl⟩
        simp only [execOp, e1, conc]
        have hk : P.intKind d = k := by simp [Program.intKind, hd]
        have := run_convert_int (P := P) w s d q z (by simp [hs]) (by rw [hk]; exact hd)
        rw [hk] at this
        exact run_value this
      · cases hv
    · injection hc with hc; subst hc; cases hv
  | makeInterface t x => injection hc with hc; subst hc; cases hv
  | panic x => injection hc with hc; subst hc; cases hv
  | makeFunc f a b =>
    cases f <;> simp only at hc <;> first | exact none_some hc | skip
    rename_i f
    split at hc
    · rename_i a1 b1 ha hb
      injection hc with hc; subst hc
      simp only [pureOp] at hv
      split at hv
      · rename_i x y hx hy
        injection hv with hv; subst hv
        obtain ⟨p1, p2⟩ := opds_ok E ha hx
        obtain ⟨q1, q2⟩ := opds_ok E hb hy
        refine ⟨?_, by simp [SV.ok, V.lt, p2, q2]⟩
        simp only [execOp]
        refine run_value ?_
        have e1 : a.map ρ = (concL j x).toArray := by apply Array.toList_inj.mp; rw [Array.toList_map]; exact p1
        have e2 : b.map ρ = (concL j y).toArray := by apply Array.toList_inj.mp; rw [Array.toList_map]; exact q1
        rw [e1, e2]
        rfl
      · cases hv
    · cases hc
  | makeSlice t l c =>
    (try simp only at hc)
    split at hc
    · split at hc
      · injection hc with hc; subst hc; simp [pureOp] at hv
      · cases hc
    · cases hc
  | slice t x lo hi mx =>
    cases mx with
    | some y => (try simp only at hc); cases hc
    | none =>
      (try simp only at hc)
      split at hc
      · rename_i a b c ha hb hcc
        have hpre : ∃ x', a.val tm = some x' ∧ ∃ lo', optV tm b = some lo' ∧ ∃ hi', optV tm c = some hi' := by
          unfold cSlice at hc
          split at hc
          · obtain ⟨_, _, rfl⟩ := map_some hc
            simp only [pureOp] at hv
            split at hv
            · rename_i h1 h2 h3; exact ⟨_, h1, _, h2, _, h3⟩
            · cases hv
          · injection hc with hc; subst hc
            simp only [pureOp] at hv
            split at hv
            · rename_i h1 h2 h3; exact ⟨_, h1, _, h2, _, h3⟩
            · cases hv
          · obtain ⟨_, _, rfl⟩ := map_some hc
            simp only [pureOp] at hv
            split at hv
            · rename_i h1 h2 h3; exact ⟨_, h1, _, h2, _, h3⟩
            · cases hv
          · cases hc
        obtain ⟨x', hx', lo', hlo', hi', hhi'⟩ := hpre
        obtain ⟨e1, e2⟩ := val_ok E ha hx'
        obtain ⟨r1, r2⟩ := slice_ok (P := P) (w := w) (j := j) hc hx' hlo' hhi' hv e2 (ls := ls) (m := m)
        refine ⟨?_, r2⟩
        simp only [execOp, e1, opt_ok E hb hlo', opt_ok E hcc hhi', Option.map_none]
        exact run_value r1
      · cases hc
  | fieldAddr s x f =>
    (try simp only at hc)
    split at hc
    · rename_i fs a hu ha
      split at hc
      · rename_i fd hfd
        split at hc
        · rename_i nn hn
          split at hc
          · cases hc
          · rename_i hn0
            injection hc with hc; subst hc
            obtain ⟨e1, e2⟩ := opd_ok E ha
            have key : ∀ ad : Addr, ρ x = .pointer (some ad) → (Instr.fieldAt s (ρ x) f).run P w = .ok (.pointer (some (ad.add fd.offset))) w := by
              intro ad had
              simp only [Instr.fieldAt, Sem.run_bind, r_underlying hu, Result.andThen, hfd, had, Instr.sureAddr, Sem.run_pure, fieldPlace, r_size hn]
              rw [if_neg hn0]
              rfl
            simp only [pureOp] at hv
            split at hv
            · rename_i i o he
              injection hv with hv; subst hv
              rw [he] at e1 e2
              refine ⟨?_, e2⟩
              simp only [execOp]
              refine run_value ?_
              rw [key (j.at i o) (by rw [e1]; rfl), at_add]; rfl
            · rename_i i o he
              injection hv with hv; subst hv
              rw [he] at e1 e2
              refine ⟨?_, e2⟩
              simp only [execOp]
              refine run_value ?_
              rw [key _ (by rw [e1]; rfl)]
              simp only [concS, Addr.add]
              split
              · rename_i h0; rw [h0]; rfl
              · rfl
            · cases hv
        · cases hc
      · cases hc
    · cases hc
  | field t x f =>
    (try simp only at hc)
    split at hc
    · rename_i fs a hu ha
      split at hc
      · rename_i fd hfd
        split at hc
        · rename_i nn ag hn hag
          split at hc
          · rename_i h1
            injection hc with hc; subst hc
            simp only [pureOp] at hv
            split at hv
            · rename_i cs hcs
              split at hv
              · rename_i r hr
                split at hv
                · rename_i u hu2
                  injection hv with hv; subst hv
                  obtain ⟨e1, e2⟩ := val_ok E ha hcs
                  refine ⟨?_, unV_lt hu2 (cut_lt hr e2)⟩
                  simp only [execOp, e1]
                  refine run_value ?_
                  simp only [Instr.field, conc, Sem.run_bind, r_underlying hu, Result.andThen, hfd, asAgg, Sem.run_pure]
                  exact r_part hag hn h1 hr hu2
                · cases hv
              · cases hv
            · cases hv
          · cases hc
        · cases hc
      · cases hc
    · cases hc
  | indexAddr t x i =>
    (try simp only at hc)
    split at hc
    · rename_i e a b hu ha hb
      obtain ⟨esz, hs, rfl⟩ := map_some hc
      have hu' : P.underlying t = some (.slice (P.elem t)) := by simp [Program.elem, hu]
      have hee : P.elem t = e := by simp [Program.elem, hu]
      simp only [pureOp] at hv
      split at hv
      · rename_i bb o len cap k z hx hi
        split at hv
        · rename_i hbd
          injection hv with hv; subst hv
          obtain ⟨e1, e2⟩ := val_ok E ha hx
          obtain ⟨e3, _⟩ := val_ok E hb hi
          refine ⟨?_, e2⟩
          simp only [execOp, e1, e3, conc]
          refine run_value ?_
          rw [run_indexAt_slice w t _ _ _ _ _ hu', if_pos hbd, hee, r_size hs]
          simp [Result.andThen, concS, conc, at_add]
        · cases hv
      · cases hv
    · rename_i mm e a b hu ha hb
      obtain ⟨esz, hs, rfl⟩ := map_some hc
      have hu' : P.underlying t = some (.array (P.arrayLen t) (P.elem t)) := by simp [Program.elem, Program.arrayLen, hu]
      have hee : P.elem t = e := by simp [Program.elem, hu]
      have hml : P.arrayLen t = mm := by simp [Program.arrayLen, hu]
      obtain ⟨e1, e2⟩ := opd_ok E ha
      have key : ∀ (ad : Addr) (k : IntKind) (z : Int), 0 ≤ z ∧ z < (mm : Int) → (Instr.indexAt t (.pointer (some ad)) (.int k z)).run P w = .ok (.pointer (some (ad.add (z.toNat * esz)))) w := by
        intro ad k z hz
        rw [run_indexAt_array w t _ _ _ hu', hml, if_pos hz, hee, r_size hs]
        rfl
      simp only [pureOp] at hv
      split at hv
      · rename_i bb o k z hx hi
        split at hv
        · rename_i hbd
          injection hv with hv; subst hv
          rw [hx] at e1 e2
          obtain ⟨e3, _⟩ := val_ok E hb hi
          refine ⟨?_, e2⟩
          simp only [execOp, e1, e3, concS, conc]
          refine run_value ?_
          rw [key _ _ _ hbd, at_add]
        · cases hv
      · rename_i bb o k z hx hi
        split at hv
        · rename_i hbd
          injection hv with hv; subst hv
          rw [hx] at e1 e2
          obtain ⟨e3, _⟩ := val_ok E hb hi
          refine ⟨?_, e2⟩
          simp only [execOp, e1, e3, concS, conc]
          refine run_value ?_
          rw [key _ _ _ hbd]
          simp only [Addr.add]
          split
          · rename_i h0; simp [h0]
          · rfl
        · cases hv
      · cases hv
    · cases hc
  | index t x i =>
    (try simp only at hc)
    split at hc
    · rename_i mm e a b hu ha hb
      split at hc
      · rename_i nn ag hn hag
        split at hc
        · rename_i h1
          injection hc with hc; subst hc
          simp only [pureOp] at hv
          split at hv
          · rename_i cs k z hx hi
            split at hv
            · rename_i hbd
              split at hv
              · rename_i r hr
                split at hv
                · rename_i u hu2
                  injection hv with hv; subst hv
                  obtain ⟨e1, e2⟩ := val_ok E ha hx
                  obtain ⟨e3, _⟩ := val_ok E hb hi
                  refine ⟨?_, unV_lt hu2 (cut_lt hr e2)⟩
                  simp only [execOp, e1, e3, conc]
                  refine run_value ?_
                  simp only [Instr.index, asIntOf, Sem.run_bind, Sem.run_pure, Result.andThen, r_underlying hu]
                  rw [if_pos hbd]
                  simp only [Sem.run_bind, r_size hn, Result.andThen]
                  exact r_part hag hn h1 hr hu2
                · cases hv
              · cases hv
            · cases hv
          · cases hv
        · cases hc
      · cases hc
    · rename_i a b hu ha hb
      injection hc with hc; subst hc
      simp only [pureOp] at hv
      split at hv
      · rename_i s k z hx hi
        split at hv
        · rename_i hbd
          injection hv with hv; subst hv
          obtain ⟨e1, _⟩ := val_ok E ha hx
          obtain ⟨e3, _⟩ := val_ok E hb hi
          refine ⟨?_, rfl⟩
          simp only [execOp, e1, e3, conc]
          refine run_value ?_
          rw [run_index_string w t s k z hu, dif_pos hbd]
          rfl
        · cases hv
      · cases hv
    · cases hc
  | extract x i =>
    (try simp only at hc)
    obtain ⟨a, ha, rfl⟩ := map_some hc
    simp only [pureOp] at hv
    split at hv
    · rename_i cs hcs
      split at hv
      · rename_i u hu
        injection hv with hv; subst hv
        obtain ⟨e1, e2⟩ := val_ok E ha hcs
        refine ⟨?_, ?_⟩
        · simp only [execOp, e1, conc]
          refine run_value ?_
          simp only [Instr.extract]
          have : (concL j cs).toArray[i]? = some (conc j u) := by simp [concL_map, hu]
          rw [this]
          rfl
        · simp only [V.lt, ltL_iff] at e2
          exact e2 u (List.mem_of_getElem? hu)
      · cases hv
    · cases hv
  | call c =>
    (try simp only at hc)
    split at hc
    · rename_i f xs hcal hxs
      obtain ⟨a, _, rfl⟩ := map_some hc
      simp [pureOp] at hv
    · rename_i b xs hcal hxs
      exact callB_pure E hcal hxs hc hv
    · cases hc
  | makeMap t r =>
    cases r with
    | some y => (try simp only at hc); cases hc
    | none =>
      (try simp only at hc)
      split at hc
      · injection hc with hc; subst hc; simp [pureOp] at hv
      · cases hc
  | insert t m k x =>
    (try simp only at hc)
    split at hc
    · split at hc
      · injection hc with hc; subst hc; simp [pureOp] at hv
      · cases hc
    · cases hc
  | lookup t m k ok =>
    (try simp only at hc)
    split at hc
    · split at hc
      · injection hc with hc; subst hc; simp [pureOp] at hv
      · cases hc
    · cases hc
  | _ => (try simp only at hc); cases hc
end

end Go.Ev
