/- texts joined -/
import Derived.Test.YtmdkhaoppklokaaDoorEvD
import Derived.WalkSpells
namespace Go.Ev
open Go.RowKit

section
variable {P : Program} {w : World}

theorem r_underlying {t : TypeId} {d : TypeDesc} (h : P.underlying t = some d) : (underlying t).run P w = .ok d w := by
  simp [underlying, go_sem, h]

theorem r_info {t : TypeId} {i : TypeInfo} (h : P.info? t = some i) : (typeInfo t).run P w = .ok i w := by
  simp [typeInfo, go_sem, h]

theorem r_size {t : TypeId} {n : Nat} (h : tsz P t = some n) : (Go.sizeOf t).run P w = .ok n w := by
  unfold tsz at h
  cases hi : P.info? t with
  | none => rw [hi] at h; cases h
  | some i =>
    rw [hi] at h; simp only [Option.map_some, Option.some.injEq] at h
    simp only [Go.sizeOf, Sem.run_bind, r_info hi, Result.andThen]
    subst h; rfl

theorem tzero_some {t : TypeId} {zs : List V} (h : tzero P t = some zs) : ∃ i z, P.info? t = some i ∧ i.zero = some z ∧ toVs z.cells.toList = some zs ∧ zs.length = i.size := by
  unfold tzero at h
  split at h
  · rename_i i hi
    split at h
    · rename_i z hz
      split at h
      · rename_i vs hvs
        split at h
        · rename_i hl
          injection h with h; subst h
          exact ⟨i, z, hi, hz, hvs, hl⟩
        · cases h
      · cases h
    · cases h
  · cases h

theorem r_zero {t : TypeId} {i : TypeInfo} {z : Value} (h : P.info? t = some i) (hz : i.zero = some z) : (zeroValue t).run P w = .ok z w := by
  simp only [zeroValue, Sem.run_bind, r_info h, Result.andThen, hz]
  rfl

theorem r_agg {t : TypeId} {b : Bool} (h : tagg P t = some b) : (isAgg t).run P w = .ok b w := by
  unfold tagg at h
  split at h
  · rename_i hu; injection h with h; subst h; simp only [isAgg, Sem.run_bind, r_underlying hu, Result.andThen]; rfl
  · rename_i hu; injection h with h; subst h; simp only [isAgg, Sem.run_bind, r_underlying hu, Result.andThen]; rfl
  · rename_i d hd1 hd2 hu
    injection h with h; subst h
    simp only [isAgg, Sem.run_bind, r_underlying hu, Result.andThen]
    cases d <;> first | rfl | (exfalso; exact hd1 _ rfl) | (exfalso; exact hd2 _ _ rfl)
  · cases h

theorem mapM_places {fs : List Field} {pl : List (Nat × Nat)} (h : places P fs = some pl) :
    fs.mapM (fun f => (P.info? f.type).map fun i => (f.offset, i.size)) = some pl := by
  induction fs generalizing pl with
  | nil => simp only [places] at h; injection h with h; subst h; rfl
  | cons f fs ih =>
    simp only [places] at h
    split at h
    · rename_i n l hn hl
      injection h with h; subst h
      unfold tsz at hn
      cases hi : P.info? f.type with
      | none => rw [hi] at hn; cases hn
      | some i =>
        rw [hi] at hn; simp only [Option.map_some, Option.some.injEq] at hn
        rw [List.mapM_cons, ih hl, hi]
        simp [hn]
    · cases h

theorem r_build {t : TypeId} {zs : List V} {j : J} {ps : Array (Nat × Value)} {cs : Array Value} {place : Nat → Option (Nat × Nat)}
    (hz : tzero P t = some zs)
    (hd : (∃ fs pl, P.underlying t = some (.struct fs) ∧ places P fs.toList = some pl ∧ place = fun i => pl[i]?) ∨
      (∃ m e n, P.underlying t = some (.array m e) ∧ tsz P e = some n ∧ place = fun i => some (i * n, n)))
    (hf : Instr.fill place (concL j zs).toArray ps.toList = some cs) :
    (Instr.build t ps).run P w = .ok (.agg cs) w := by
  obtain ⟨i, z, hi, hz1, hz2, hz3⟩ := tzero_some hz
  have hzc : z.cells = (concL j zs).toArray := by
    have := (toVs_ok hz2 j 0).1
    rw [this]
  refine run_build w t ps cs ?_
  rcases hd with ⟨fs, pl, hu, hpl, rfl⟩ | ⟨m, e, n, hu, hn, rfl⟩
  · simp only [Program.built, hi, hu, hz1, mapM_places hpl, hzc]
    simpa using hf
  · unfold tsz at hn
    cases he : P.info? e with
    | none => rw [he] at hn; cases hn
    | some ie =>
      rw [he] at hn; simp only [Option.map_some, Option.some.injEq] at hn
      simp only [Program.built, hi, hu, hz1, he, hzc, hn]
      exact hf

theorem r_part {t : TypeId} {a : Bool} {n off : Nat} {j : J} {cs r : List V} {v : V} (ha : tagg P t = some a) (hn : tsz P t = some n) (h1 : (a || n == 1) = true)
    (hc : cut cs off n = some r) (hv : unV a r = some v) : (part t (concL j cs).toArray off).run P w = .ok (conc j v) w := by
  obtain ⟨hl, rfl⟩ := cut_some hc
  unfold part
  simp only [Sem.run_bind, r_agg ha, Result.andThen]
  cases a with
  | true =>
    simp only [if_true, Sem.run_bind, r_size hn, Result.andThen]
    simp only [unV, Option.some.injEq] at hv
    subst hv
    simp only [Sem.run_pure, conc]
    congr 2
    rw [concL_cut]
    simp
  | false =>
    simp only [Bool.false_or, beq_iff_eq] at h1
    subst h1
    simp only [Bool.false_eq_true, if_false]
    have hx : ((cs.drop off).take 1) = [v] := by
      unfold unV at hv
      split at hv
      · cases ‹false = true›
      · injection hv with hv; subst hv; assumption
      · cases hv
    have h0 : cs[off]? = some v := by
      have := congrArg (fun l => l[0]?) hx
      simpa [List.getElem?_take, List.getElem?_drop] using this
    simp [concL_map, h0]

theorem at_add (j : J) (i x n : Nat) : (j.at i x).add n = j.at i (x + n) := by
  unfold Addr.add J.at
  split
  · rename_i h; subst h; rfl
  · simp [Nat.add_assoc]

theorem r_bounds {b : Bool} {len cap hh ll : Nat} {j : J} {lo hi : Option V} (h1 : bnd hi len cap = some hh) (h2 : bnd lo 0 hh = some ll) :
    (Instr.sliceBounds b len cap (lo.map (conc j)) (hi.map (conc j)) none).run P w = .ok (ll, hh, cap) w := by
  unfold Instr.sliceBounds
  cases hi with
  | none =>
    simp only [bnd, Option.some.injEq] at h1
    subst h1
    cases lo with
    | none => simp only [bnd, Option.some.injEq] at h2; subst h2; simp [go_sem]
    | some x =>
      cases x <;> simp only [bnd] at h2 <;> first | (cases h2; done) | skip
      split at h2
      · rename_i hb
        injection h2 with h2; subst h2
        simp [go_sem, conc, hb]
      · cases h2
  | some x =>
    cases x <;> simp only [bnd] at h1 <;> first | (cases h1; done) | skip
    split at h1
    · rename_i hb
      injection h1 with h1; subst h1
      cases lo with
      | none => simp only [bnd, Option.some.injEq] at h2; subst h2; simp [go_sem, conc, hb]
      | some x =>
        cases x <;> simp only [bnd] at h2 <;> first | (cases h2; done) | skip
        split at h2
        · rename_i hb2
          injection h2 with h2; subst h2
          simp [go_sem, conc, hb, hb2]
          intro hlt
          have h1 := hb.1
          have h2 := hb2.2
          rw [Int.toNat_of_nonneg h1] at h2
          omega
        · cases h2
    · cases h1
end

end Go.Ev

namespace Go.Ev
open Go.RowKit

section
variable {P : Program} {w : World}

theorem binI_ok {op : BinOp} {k : IntKind} {a b : Int} {v : V} {t : TypeId} {j : J} {n : Nat} (hs : isSh op = false) (h : binI op k a b = some v) :
    (binOp op t (.int k a) (.int k b)).run P w = .ok (conc j v) w ∧ v.lt n = true := by
  cases op <;> simp only [binI, isSh] at h hs <;> first
    | (cases hs; done)
    | (injection h with h; subst h; exact ⟨by simp [binOp, Op.intArith, Op.intBits, Op.intCmp, conc], rfl⟩)
    | (split at h
       · cases h
       · injection h with h; subst h; exact ⟨by simp [binOp, Op.intDiv, conc, *], rfl⟩)

theorem shI_ok {op : BinOp} {k k' : IntKind} {a b : Int} {v : V} {t : TypeId} {j : J} {n : Nat} (h : shI op k a b = some v) :
    (binOp op t (.int k a) (.int k' b)).run P w = .ok (conc j v) w ∧ v.lt n = true := by
  unfold shI at h
  split at h
  · cases h
  · rename_i hb
    cases op <;> simp only at h <;> first
      | (cases h; done)
      | (injection h with h; subst h; exact ⟨by simp [binOp, Op.shift, conc, hb], rfl⟩)

theorem binV_ok {op : BinOp} {x y v : V} {t : TypeId} {j : J} {n : Nat} (h : binV op x y = some v) :
    (binOp op t (conc j x) (conc j y)).run P w = .ok (conc j v) w ∧ v.lt n = true := by
  unfold binV at h
  split at h
  · rename_i k a k' b
    split at h
    · exact shI_ok h
    · rename_i hs
      split at h
      · rename_i hk; subst hk; exact binI_ok (by simpa using hs) h
      · cases h
  · rename_i a b
    split at h
    · split at h
      · rename_i hl
        injection h with h; subst h
        refine ⟨?_, rfl⟩
        simp only [conc, binOp]
        rw [run_string_add_if, if_neg (by omega)]
      · cases h
    · injection h with h; subst h
      exact ⟨by simp [conc, binOp, Op.stringOp], rfl⟩
    · injection h with h; subst h
      exact ⟨by simp [conc, binOp, Op.stringOp], rfl⟩
    · cases h
  · cases h

/-- '==' or '!=' of one kind -/
def eqop (neq : Bool) : BinOp := match neq with | true => .neq | false => .eql

theorem eqb_ok {neq a b : Bool} {t : TypeId} (hu : P.underlying t = some .bool) :
    (binOp (eqop neq) t (.bool a) (.bool b)).run P w = .ok (.bool (match neq with | true => !(a == b) | false => a == b)) w := by
  cases neq with
  | false => exact run_eql_bool w t a b hu
  | true =>
    simp only [eqop, binOp, Op.equal, Op.maxDepth, Sem.run_bind, run_equalIn_bool w 9999 t a b hu, Result.andThen]
    rfl

theorem eqp_ok {neq : Bool} {a : Option (Nat × Nat)} {t e : TypeId} {j : J} (hu : P.underlying t = some (.pointer e)) :
    (binOp (eqop neq) t (conc j (.ptr a)) (.pointer none)).run P w = .ok (.bool (match neq with | true => !a.isNone | false => a.isNone)) w := by
  have hu' : P.underlying t = some (.pointer (P.pointee t)) := by simp [Program.pointee, hu]
  cases neq <;> cases a <;> simp only [conc, eqop] <;> first | rw [run_eql_pointer_nil w t _ hu'] | rw [run_neq_pointer_nil w t _ hu']
  all_goals rfl

theorem eqs_ok {neq : Bool} {a : Option (Nat × Nat)} {l c l' c' : Nat} {t e : TypeId} {j : J} (hu : P.underlying t = some (.slice e)) :
    (binOp (eqop neq) t (conc j (.sl a l c)) (.slice none l' c')).run P w = .ok (.bool (match neq with | true => !a.isNone | false => a.isNone)) w := by
  cases neq <;> cases a <;> simp only [conc, eqop] <;> first | rw [Lib.run_eql_slice_nil w t e _ _ _ _ _ hu] | rw [run_neq_slice_nil_any w t e _ _ _ _ _ hu]
  all_goals rfl

theorem unV_ok {op : UnOp} {x v : V} {j : J} {n : Nat} (h : unV' op x = some v) : (Op.unary op (conc j x)).run P w = .ok (conc j v) w ∧ v.lt n = true := by
  unfold unV' at h
  split at h
  · injection h with h; subst h; exact ⟨by simp [conc, Op.unary], rfl⟩
  · injection h with h; subst h; exact ⟨by simp [conc, Op.unary, Op.intArith], rfl⟩
  · injection h with h; subst h; exact ⟨by simp [conc, Op.unary, Op.intBits], rfl⟩
  · cases h

theorem guard_plain {op : BinOp} {t : TypeId} {x y : Operand} {j : J} {a b : V} (h : ∀ cs, a ≠ .agg cs) : (eqGuard op t x y (conc j a) (conc j b)).run P w = .ok () w := by
  unfold eqGuard
  cases a with
  | agg cs => exact absurd rfl (h cs)
  | ptr p => cases p <;> cases op <;> rfl
  | sl p _ _ => cases p <;> cases op <;> rfl
  | mp p => cases p <;> cases op <;> rfl
  | _ => cases op <;> rfl

/-! '==' of structs -/

theorem eqC_length {ks : List Bool} {a b : List V} {r : Bool} (h : eqC ks a b = some r) : a.length = ks.length ∧ b.length = ks.length := by
  induction ks generalizing a b r with
  | nil =>
    cases a with
    | nil => cases b with
      | nil => exact ⟨rfl, rfl⟩
      | cons y b => simp [eqC] at h
    | cons x a => simp [eqC] at h
  | cons k ks ih =>
    cases a with
    | nil => cases k <;> simp [eqC] at h
    | cons x a =>
      cases b with
      | nil => cases k <;> cases x <;> simp [eqC] at h
      | cons y b =>
        cases k <;> cases x <;> cases y <;> simp only [eqC] at h <;> first | (cases h; done) | skip
        · split at h
          · rename_i q hq; obtain ⟨p1, p2⟩ := ih hq; exact ⟨by simp [p1], by simp [p2]⟩
          · cases h
        · split at h
          · split at h
            · rename_i q hq; obtain ⟨p1, p2⟩ := ih hq; exact ⟨by simp [p1], by simp [p2]⟩
            · cases h
          · cases h

theorem eqC_append {ks ls : List Bool} {a c : List V} {r : Bool} (h : eqC (ks ++ ls) a c = some r) :
    ∃ r1 r2, eqC ks (a.take ks.length) (c.take ks.length) = some r1 ∧ eqC ls (a.drop ks.length) (c.drop ks.length) = some r2 ∧ r = (r1 && r2) := by
  induction ks generalizing a c r with
  | nil => exact ⟨true, r, by simp [eqC], by simpa using h, by simp⟩
  | cons k ks ih =>
    cases a with
    | nil => cases k <;> simp [eqC] at h
    | cons x a =>
      cases c with
      | nil => cases k <;> cases x <;> simp [eqC] at h
      | cons y c =>
        simp only [List.cons_append] at h
        cases k <;> cases x <;> cases y <;> simp only [eqC] at h <;> first | (cases h; done) | skip
        · split at h
          · rename_i q hq
            injection h with h
            obtain ⟨r1, r2, e1, e2, e3⟩ := ih hq
            exact ⟨_, r2, by simp only [List.length_cons, List.take_succ_cons, eqC, e1]; rfl, by simpa using e2, by rw [← h, e3]; simp [Bool.and_assoc]⟩
          · cases h
        · split at h
          · rename_i hk
            split at h
            · rename_i q hq
              injection h with h
              obtain ⟨r1, r2, e1, e2, e3⟩ := ih hq
              exact ⟨_, r2, by simp only [List.length_cons, List.take_succ_cons, eqC, hk, if_true, e1]; rfl, by simpa using e2, by rw [← h, e3]; simp [Bool.and_assoc]⟩
            · cases h
          · cases h

/-- The value of a type that has these cells. -/
def ofCells (agg : Bool) (j : J) (cs : List V) : Option Value :=
  match agg, cs with
  | true, cs => some (.agg (concL j cs).toArray)
  | false, [v] => some (conc j v)
  | false, _ => none

theorem r_part' {t : TypeId} {a : Bool} {k off : Nat} {j : J} {cs : List V} {v : Value} (ha : tagg P t = some a) (hn : tsz P t = some k)
    (hl : off + k ≤ cs.length) (hv : ofCells a j ((cs.drop off).take k) = some v) : (part t (concL j cs).toArray off).run P w = .ok v w := by
  cases a with
  | true =>
    simp only [ofCells, Option.some.injEq] at hv
    have := r_part (P := P) (w := w) (j := j) ha hn rfl (cs := cs) (off := off) (r := (cs.drop off).take k) (v := .agg ((cs.drop off).take k)) (by unfold cut; rw [if_pos hl]) rfl
    rw [this, ← hv]; rfl
  | false =>
    have hx : ∃ u, (cs.drop off).take k = [u] ∧ conc j u = v := by
      generalize (cs.drop off).take k = l at hv
      match l, hv with
      | [u], hv => simp only [ofCells, Option.some.injEq] at hv; exact ⟨u, rfl, hv⟩
      | [], hv => simp [ofCells] at hv
      | _ :: _ :: _, hv => simp [ofCells] at hv
    obtain ⟨u, hu, hv'⟩ := hx
    have hk : k = 1 := by
      have := congrArg List.length hu
      simp at this; omega
    subst hk
    have := r_part (P := P) (w := w) (j := j) ha hn rfl (cs := cs) (off := off) (r := [u]) (v := u) (by unfold cut; rw [if_pos hl, hu]) rfl
    rw [this, hv']

def FlatOk (P : Program) (w : World) (j : J) (d : Nat) : Prop := ∀ (t : TypeId) (ks : List Bool), flatK P d t = some ks →
  tsz P t = some ks.length ∧ ∃ a, tagg P t = some a ∧ ∀ (xs ys : List V) (r : Bool) (D : Nat), eqC ks xs ys = some r → d ≤ D →
    ∃ x y, ofCells a j xs = some x ∧ ofCells a j ys = some y ∧ (Op.equalIn D t x y).run P w = .ok r w

theorem flatF_ok {j : J} {d : Nat} (ih : FlatOk P w j d) : ∀ (fs : List Field) (o : Nat) (ks : List Bool), flatF P (flatK P d) fs o = some ks →
    ∀ (xs ys : List V) (r : Bool) (D : Nat), xs.length = o + ks.length → ys.length = o + ks.length → eqC ks (xs.drop o) (ys.drop o) = some r → d ≤ D →
    (Op.eqFields D (concL j xs).toArray (concL j ys).toArray fs).run P w = .ok r w := by
  intro fs
  induction fs with
  | nil =>
    intro o ks h xs ys r D hx hy he hD
    simp only [flatF] at h; injection h with h; subst h
    simp only [List.length_nil, Nat.add_zero] at hx hy
    rw [List.drop_of_length_le (by omega), List.drop_of_length_le (by omega)] at he
    simp only [eqC, Option.some.injEq] at he
    subst he
    simp [Op.eqFields]
  | cons f fs ihf =>
    intro o ks h xs ys r D hx hy he hD
    simp only [flatF] at h
    split at h
    · rename_i hn
      split at h
      · rename_i k1 hk1
        split at h
        · rename_i hsz
          split at h
          · rename_i l hl
            injection h with h; subst h
            obtain ⟨r1, r2, e1, e2, rfl⟩ := eqC_append he
            obtain ⟨_, a, ha, hq⟩ := ih f.type k1 hk1
            obtain ⟨x, y, ex, ey, er⟩ := hq _ _ r1 D e1 hD
            simp only [List.length_append] at hx hy
            have p1 := r_part' (P := P) (w := w) (j := j) ha hsz (cs := xs) (off := f.offset) (v := x) (by rw [hn.2]; omega) (by rw [hn.2]; exact ex)
            have p2 := r_part' (P := P) (w := w) (j := j) ha hsz (cs := ys) (off := f.offset) (v := y) (by rw [hn.2]; omega) (by rw [hn.2]; exact ey)
            have rest := ihf (o + k1.length) l hl xs ys r2 D (by omega) (by omega) (by rw [← List.drop_drop, ← List.drop_drop]; exact e2) hD
            unfold Op.eqFields
            rw [if_pos hn.1]
            simp only [Sem.run_bind, p1, p2, er, Result.andThen]
            cases r1 with
            | true => simpa using rest
            | false => simp
          · cases h
        · cases h
      · cases h
    · cases h

theorem flat_ok (j : J) : ∀ d, FlatOk P w j d := by
  intro d
  induction d with
  | zero => intro t ks h; simp [flatK] at h
  | succ d ih =>
    intro t ks h
    unfold flatK at h
    split at h
    · rename_i k hu
      split at h
      · rename_i hs
        injection h with h; subst h
        refine ⟨hs, false, by simp [tagg, hu], ?_⟩
        intro xs ys r D he hD
        obtain ⟨D, rfl⟩ : ∃ D', D = D' + 1 := ⟨D - 1, by omega⟩
        obtain ⟨l1, l2⟩ := eqC_length he
        match xs, ys, l1, l2, he with
        | [.int k1 a], [.int k2 b], _, _, he =>
          simp only [eqC] at he
          split at he
          · rename_i hk
            subst hk
            simp only [Bool.and_true, Option.some.injEq] at he
            subst he
            exact ⟨.int k1 a, .int k1 b, rfl, rfl, run_equalIn_int w D t k1 k a b hu⟩
          · cases he
        | [x], [y], _, _, he => 
          cases x <;> cases y <;> simp only [eqC] at he <;> first | (cases he; done) | skip
          split at he
          · rename_i hk
            subst hk
            simp only [Bool.and_true, Option.some.injEq] at he
            subst he
            exact ⟨_, _, rfl, rfl, run_equalIn_int w D t _ k _ _ hu⟩
          · cases he
      · cases h
    · rename_i hu
      split at h
      · rename_i hs
        injection h with h; subst h
        refine ⟨hs, false, by simp [tagg, hu], ?_⟩
        intro xs ys r D he hD
        obtain ⟨D, rfl⟩ : ∃ D', D = D' + 1 := ⟨D - 1, by omega⟩
        obtain ⟨l1, l2⟩ := eqC_length he
        match xs, ys, l1, l2, he with
        | [x], [y], _, _, he =>
          cases x <;> cases y <;> simp only [eqC] at he <;> first | (cases he; done) | skip
          simp only [Bool.and_true, Option.some.injEq] at he
          subst he
          exact ⟨_, _, rfl, rfl, run_equalIn_bool w D t _ _ hu⟩
      · cases h
    · rename_i fs hu
      split at h
      · cases h
      · rename_i hst
        split at h
        · rename_i ks' hf
          split at h
          · rename_i hs
            injection h with h; subst h
            refine ⟨hs, true, by simp [tagg, hu], ?_⟩
            intro xs ys r D he hD
            obtain ⟨D, rfl⟩ : ∃ D', D = D' + 1 := ⟨D - 1, by omega⟩
            obtain ⟨l1, l2⟩ := eqC_length he
            refine ⟨_, _, rfl, rfl, ?_⟩
            have hu' : P.underlying t = some (.struct (P.fieldsOf t)) := by simp [Program.fieldsOf, hu]
            have hfs : P.fieldsOf t = fs := by simp [Program.fieldsOf, hu]
            rw [run_equalIn_struct w D t _ _ hu' (by simpa using hst), hfs]
            exact flatF_ok ih fs.toList 0 ks' hf xs ys r D (by omega) (by omega) (by simpa using he) (by omega)
          · cases h
        · cases h
    · cases h
end

end Go.Ev
