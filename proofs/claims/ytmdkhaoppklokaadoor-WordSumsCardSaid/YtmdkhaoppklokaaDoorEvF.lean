/- Ev: the operations that touch no memory: what the machine does. -/
import Derived.Test.YtmdkhaoppklokaaDoorEvE
import Derived.WalkSpells
namespace Go.Ev
open Go.RowKit

section
variable {P : Program} {w : World}

theorem r_underlying {t : TypeId} {d : TypeDesc} (h : P.underlying t = some d) : (underlying t).run P w = .ok d w := by
  simp [underlying, go_sem, h]

theorem r_info {t : TypeId} {i : TypeInfo} (h : P.info? t = some i) : (typeInfo t).run P w = .ok i w := by
  simp [typeInfo, go_sem, h]

theorem r_size {t : TypeId} {n : Nat} (h : tsz P t = some n) : (Go.sizeOf t).run P w = .ok n w := by
  unfold tsz at h
  cases hi : P.info? t with
  | none => rw [hi] at h; cases h
  | some i =>
    rw [hi] at h; simp only [Option.map_some, Option.some.injEq] at h
    simp only [Go.sizeOf, Sem.run_bind, r_info hi, Result.andThen]
    subst h; rfl

theorem tzero_some {t : TypeId} {zs : List V} (h : tzero P t = some zs) : ∃ i z, P.info? t = some i ∧ i.zero = some z ∧ toVs z.cells.toList = some zs ∧ zs.length = i.size := by
  unfold tzero at h
  split at h
  · rename_i i hi
    split at h
    · rename_i z hz
      split at h
      · rename_i vs hvs
        split at h
        · rename_i hl
          injection h with h; subst h
          exact ⟨i, z, hi, hz, hvs, hl⟩
        · cases h
      · cases h
    · cases h
  · cases h

theorem r_zero {t : TypeId} {i : TypeInfo} {z : Value} (h : P.info? t = some i) (hz : i.zero = some z) : (zeroValue t).run P w = .ok z w := by
  simp only [zeroValue, Sem.run_bind, r_info h, Result.andThen, hz]
  rfl

theorem r_agg {t : TypeId} {b : Bool} (h : tagg P t = some b) : (isAgg t).run P w = .ok b w := by
  unfold tagg at h
  split at h
  · rename_i hu; injection h with h; subst h; simp only [isAgg, Sem.run_bind, r_underlying hu, Result.andThen]; rfl
  · rename_i hu; injection h with h; subst h; simp only [isAgg, Sem.run_bind, r_underlying hu, Result.andThen]; rfl
  · rename_i d hd1 hd2 hu
    injection h with h; subst h
    simp only [isAgg, Sem.run_bind, r_underlying hu, Result.andThen]
    cases d <;> first | rfl | (exfalso; exact hd1 _ rfl) | (exfalso; exact hd2 _ _ rfl)
  · cases h

theorem mapM_places {fs : List Field} {pl : List (Nat × Nat)} (h : places P fs = some pl) :
    fs.mapM (fun f => (P.info? f.type).map fun i => (f.offset, i.size)) = some pl := by
  induction fs generalizing pl with
  | nil => simp only [places] at h; injection h with h; subst h; rfl
  | cons f fs ih =>
    simp only [places] at h
    split at h
    · rename_i n l hn hl
      injection h with h; subst h
      unfold tsz at hn
      cases hi : P.info? f.type with
      | none => rw [hi] at hn; cases hn
      | some i =>
        rw [hi] at hn; simp only [Option.map_some, Option.some.injEq] at hn
        rw [List.mapM_cons, ih hl, hi]
        simp [hn]
    · cases h

theorem r_build {t : TypeId} {zs : List V} {j : J} {ps : Array (Nat × Value)} {cs : Array Value} {place : Nat → Option (Nat × Nat)}
    (hz : tzero P t = some zs)
    (hd : (∃ fs pl, P.underlying t = some (.struct fs) ∧ places P fs.toList = some pl ∧ place = fun i => pl[i]?) ∨
      (∃ m e n, P.underlying t = some (.array m e) ∧ tsz P e = some n ∧ place = fun i => some (i * n, n)))
    (hf : Instr.fill place (concL j zs).toArray ps.toList = some cs) :
    (Instr.build t ps).run P w = .ok (.agg cs) w := by
  obtain ⟨i, z, hi, hz1, hz2, hz3⟩ := tzero_some hz
  have hzc : z.cells = (concL j zs).toArray := by
    have := (toVs_ok hz2 j 0).1
    rw [this]
  refine run_build w t ps cs ?_
  rcases hd with ⟨fs, pl, hu, hpl, rfl⟩ | ⟨m, e, n, hu, hn, rfl⟩
  · simp only [Program.built, hi, hu, hz1, mapM_places hpl, hzc]
    simpa using hf
  · unfold tsz at hn
    cases he : P.info? e with
    | none => rw [he] at hn; cases hn
    | some ie =>
      rw [he] at hn; simp only [Option.map_some, Option.some.injEq] at hn
      simp only [Program.built, hi, hu, hz1, he, hzc, hn]
      exact hf

theorem r_part {t : TypeId} {a : Bool} {n off : Nat} {j : J} {cs r : List V} {v : V} (ha : tagg P t = some a) (hn : tsz P t = some n) (h1 : (a || n == 1) = true)
    (hc : cut cs off n = some r) (hv : unV a r = some v) : (part t (concL j cs).toArray off).run P w = .ok (conc j v) w := by
  obtain ⟨hl, rfl⟩ := cut_some hc
  unfold part
  simp only [Sem.run_bind, r_agg ha, Result.andThen]
  cases a with
  | true =>
    simp only [if_true, Sem.run_bind, r_size hn, Result.andThen]
    simp only [unV, Option.some.injEq] at hv
    subst hv
    simp only [Sem.run_pure, conc]
    congr 2
    rw [concL_cut]
    simp
  | false =>
    simp only [Bool.false_or, beq_iff_eq] at h1
    subst h1
    simp only [Bool.false_eq_true, if_false]
    have hx : ((cs.drop off).take 1) = [v] := by
      unfold unV at hv
      split at hv
      · cases ‹false = true›
      · injection hv with hv; subst hv; assumption
      · cases hv
    have h0 : cs[off]? = some v := by
      have := congrArg (fun l => l[0]?) hx
      simpa [List.getElem?_take, List.getElem?_drop] using this
    simp [concL_map, h0]

theorem at_add (j : J) (i x n : Nat) : (j.at i x).add n = j.at i (x + n) := by
  unfold Addr.add J.at
  split
  · rename_i h; subst h; rfl
  · simp [Nat.add_assoc]

theorem r_bounds {b : Bool} {len cap hh ll : Nat} {j : J} {lo hi : Option V} (h1 : bnd hi len cap = some hh) (h2 : bnd lo 0 hh = some ll) :
    (Instr.sliceBounds b len cap (lo.map (conc j)) (hi.map (conc j)) none).run P w = .ok (ll, hh, cap) w := by
  unfold Instr.sliceBounds
  cases hi with
  | none =>
    simp only [bnd, Option.some.injEq] at h1
    subst h1
    cases lo with
    | none => simp only [bnd, Option.some.injEq] at h2; subst h2; simp [go_sem]
    | some x =>
      cases x <;> simp only [bnd] at h2 <;> first | (cases h2; done) | skip
      split at h2
      · rename_i hb
        injection h2 with h2; subst h2
        simp [go_sem, conc, hb]
      · cases h2
  | some x =>
    cases x <;> simp only [bnd] at h1 <;> first | (cases h1; done) | skip
    split at h1
    · rename_i hb
      injection h1 with h1; subst h1
      cases lo with
      | none => simp only [bnd, Option.some.injEq] at h2; subst h2; simp [go_sem, conc, hb]
      | some x =>
        cases x <;> simp only [bnd] at h2 <;> first | (cases h2; done) | skip
        split at h2
        · rename_i hb2
          injection h2 with h2; subst h2
          simp [go_sem, conc, hb, hb2]
          intro hlt
          have h1 := hb.1
          have h2 := hb2.2
          rw [Int.toNat_of_nonneg h1] at h2
          omega
        · cases h2
    · cases h1
end

end Go.Ev
