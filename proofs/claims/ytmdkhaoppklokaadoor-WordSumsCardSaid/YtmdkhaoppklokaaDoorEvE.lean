/- Ev: the operations that touch no memory. -/
import Derived.Test.YtmdkhaoppklokaaDoorEvD
namespace Go.Ev
open Go.RowKit

theorem toV_ok {v : Value} {x : V} (h : toV v = some x) (j : J) (n : Nat) : conc j x = v ∧ x.lt n = true := by
  unfold toV at h
  split at h <;> first | (cases h; done) | (injection h with h; subst h; exact ⟨rfl, rfl⟩)

theorem toVs_ok {l : List Value} {r : List V} (h : toVs l = some r) (j : J) (n : Nat) : concL j r = l ∧ V.ltL n r = true := by
  induction l generalizing r with
  | nil => simp only [toVs] at h; injection h with h; subst h; exact ⟨rfl, rfl⟩
  | cons v l ih =>
    simp only [toVs] at h
    split at h
    · rename_i x y hx hy
      injection h with h; subst h
      obtain ⟨a, b⟩ := toV_ok hx j n
      obtain ⟨c, d⟩ := ih hy
      exact ⟨by simp [concL, a, c], by simp [V.ltL, b, d]⟩
    · cases h

theorem toC_ok {v : Value} {x : V} (h : toC v = some x) (j : J) (n : Nat) : conc j x = v ∧ x.lt n = true := by
  unfold toC at h
  split at h
  · rename_i cs
    cases hr : toVs cs.toList with
    | none => rw [hr] at h; cases h
    | some r =>
      rw [hr] at h; simp only [Option.map_some, Option.some.injEq] at h; subst h
      obtain ⟨a, b⟩ := toVs_ok hr j n
      exact ⟨by simp [conc, a], by simpa [V.lt] using b⟩
  · rename_i cs
    cases hr : toVs cs.toList with
    | none => rw [hr] at h; cases h
    | some r =>
      rw [hr] at h; simp only [Option.map_some, Option.some.injEq] at h; subst h
      obtain ⟨a, b⟩ := toVs_ok hr j n
      exact ⟨by simp [conc, a], by simpa [V.lt] using b⟩
  · exact toV_ok h j n

/-- The operands: what they are on both sides. -/
structure Ops (G : Nat) (j : J) (ls : List Nat) (n m : Nat) (tm : List SV) (ρ : Operand → Value) : Prop where
  tmp : ∀ t, ρ (.tmp t) = concS j ls (gets tm t)
  const : ∀ v, ρ (.const v) = v
  glob : ∀ g, ρ (.global g) = .pointer (some ⟨g, 0, none⟩)
  func : ∀ f, ρ (.func f) = .func (.func f) #[] #[]
  ok : ∀ t, (gets tm t).ok n m = true
  jg : ∀ i, i < G → j.b i = i ∧ j.o i = 0
  gn : G ≤ n

section
variable {G n m : Nat} {j : J} {ls : List Nat} {tm : List SV} {ρ : Operand → Value}

theorem opd_ok (E : Ops G j ls n m tm ρ) {x : Operand} {x' : Opd} (h : cOpd G x = some x') :
    ρ x = concS j ls (x'.ev tm) ∧ (x'.ev tm).ok n m = true := by
  cases x with
  | tmp t => simp only [cOpd] at h; injection h with h; subst h; exact ⟨E.tmp t, E.ok t⟩
  | const v =>
    simp only [cOpd] at h
    cases hv : toC v with
    | none => rw [hv] at h; cases h
    | some y =>
      rw [hv] at h; injection h with h; subst h
      obtain ⟨a, b⟩ := toC_ok hv j n
      exact ⟨by rw [E.const]; exact a.symm, b⟩
  | global g =>
    simp only [cOpd] at h
    split at h
    · rename_i hg
      injection h with h; subst h
      refine ⟨?_, ?_⟩
      · rw [E.glob]; simp [Opd.ev, concS, conc, J.at, (E.jg g hg).1, (E.jg g hg).2]
      · have := E.gn; simp [Opd.ev, SV.ok, V.lt]; omega
    · cases h
  | func f => simp only [cOpd] at h; injection h with h; subst h; exact ⟨by rw [E.func]; rfl, rfl⟩

theorem val_some {tm : List SV} {x : Opd} {v : V} (h : x.val tm = some v) : x.ev tm = .v v := by
  unfold Opd.val at h
  split at h
  · rename_i w hw; injection h with h; rw [hw, h]
  · cases h

theorem val_ok (E : Ops G j ls n m tm ρ) {x : Operand} {x' : Opd} (h : cOpd G x = some x') {v : V} (hv : x'.val tm = some v) :
    ρ x = conc j v ∧ v.lt n = true := by
  obtain ⟨a, b⟩ := opd_ok E h
  rw [val_some hv] at a b
  exact ⟨a, b⟩

theorem opds_ok (E : Ops G j ls n m tm ρ) {l : List Operand} {l' : List Opd} (h : cOpds G l = some l') {vs : List V} (hv : vals tm l' = some vs) :
    l.map ρ = concL j vs ∧ V.ltL n vs = true := by
  induction l generalizing l' vs with
  | nil => simp only [cOpds] at h; injection h with h; subst h; simp only [vals] at hv; injection hv with hv; subst hv; exact ⟨rfl, rfl⟩
  | cons x l ih =>
    simp only [cOpds] at h
    split at h
    · rename_i a b ha hb
      injection h with h; subst h
      simp only [vals] at hv
      split at hv
      · rename_i v hv1
        split at hv
        · rename_i r hr
          injection hv with hv; subst hv
          obtain ⟨p, q⟩ := val_ok E ha hv1
          obtain ⟨p', q'⟩ := ih hb hr
          exact ⟨by simp [concL, p, p'], by simp [V.ltL, q, q']⟩
        · cases hv
      · cases hv
    · cases h

theorem opt_ok (E : Ops G j ls n m tm ρ) {x : Option Operand} {x' : Option Opd} (h : cOpt G x = some x') {v : Option V} (hv : optV tm x' = some v) :
    x.map ρ = v.map (conc j) := by
  cases x with
  | none => simp only [cOpt] at h; injection h with h; subst h; simp only [optV] at hv; injection hv with hv; subst hv; rfl
  | some x =>
    simp only [cOpt] at h
    cases hc : cOpd G x with
    | none => rw [hc] at h; cases h
    | some y =>
      rw [hc] at h; injection h with h; subst h
      simp only [optV] at hv
      split at hv
      · rename_i u hu
        injection hv with hv; subst hv
        simp [(val_ok E hc hu).1]
      · cases hv
end

theorem cut_some {cs r : List V} {x n : Nat} (h : cut cs x n = some r) : x + n ≤ cs.length ∧ r = (cs.drop x).take n := by
  unfold cut at h
  split at h
  · injection h with h; exact ⟨by assumption, h.symm⟩
  · cases h

theorem cut_lt {cs r : List V} {x n k : Nat} (h : cut cs x n = some r) (hc : V.ltL k cs = true) : V.ltL k r = true := by
  obtain ⟨_, rfl⟩ := cut_some h
  rw [ltL_iff] at hc ⊢
  exact fun v hv => hc v (List.mem_of_mem_drop (List.mem_of_mem_take hv))

theorem unV_lt {b : Bool} {cs : List V} {v : V} (h : unV b cs = some v) {k : Nat} (hc : V.ltL k cs = true) : v.lt k = true := by
  unfold unV at h
  split at h
  · injection h with h; subst h; exact hc
  · injection h with h; subst h; simpa [V.ltL] using hc
  · cases h

theorem splice_length {cs vs : List V} {x : Nat} (h : x + vs.length ≤ cs.length) : (splice cs x vs).length = cs.length := by
  simp [splice]; omega

theorem splice_lt {cs vs : List V} {x k : Nat} (hc : V.ltL k cs = true) (hv : V.ltL k vs = true) : V.ltL k (splice cs x vs) = true := by
  rw [ltL_iff] at hc hv ⊢
  intro v h
  simp only [splice, List.mem_append] at h
  rcases h with (h | h) | h
  · exact hc v (List.mem_of_mem_take h)
  · exact hv v h
  · exact hc v (List.mem_of_mem_drop h)

theorem concL_splice (j : J) (cs vs : List V) (x : Nat) : concL j (splice cs x vs) = (concL j cs).take x ++ concL j vs ++ (concL j cs).drop (x + vs.length) := by
  simp [concL_map, splice, List.map_take, List.map_drop]

theorem concL_cut (j : J) (cs : List V) (x n : Nat) : concL j ((cs.drop x).take n) = ((concL j cs).drop x).take n := by
  simp [concL_map, List.map_take, List.map_drop]

/-- the parts of an aggregate, put in, on the machine's side -/
theorem fill_foldl (vs : List Value) : ∀ (i : Nat) (off : Nat) (cs : Array Value), off + i + vs.length ≤ cs.size →
    ((vs.zipIdx i).foldl (fun cs (c, j) => cs.setIfInBounds (off + j) c) cs).toList = cs.toList.take (off + i) ++ vs ++ cs.toList.drop (off + i + vs.length) := by
  induction vs with
  | nil => intro i off cs h; simp
  | cons v vs ih =>
    intro i off cs h
    simp only [List.length_cons] at h
    simp only [List.zipIdx_cons, List.foldl_cons]
    have hs : off + (i + 1) + vs.length ≤ (cs.setIfInBounds (off + i) v).size := by simp; omega
    have := ih (i + 1) off (cs.setIfInBounds (off + i) v) hs
    rw [this]
    have hlt : off + i < cs.toList.length := by simp; omega
    simp only [Array.toList_setIfInBounds, List.length_cons]
    rw [show off + (i + 1) = off + i + 1 by omega, show off + i + 1 + vs.length = off + i + (vs.length + 1) by omega]
    rw [List.set_eq_take_append_cons_drop, if_pos hlt]
    have e1 : (cs.toList.take (off + i)).length = off + i := by simp; omega
    rw [List.take_append, e1, List.drop_append, e1]
    rw [show off + i + 1 - (off + i) = 1 by omega, show off + i + (vs.length + 1) - (off + i) = vs.length + 1 by omega]
    rw [List.take_of_length_le (by omega), List.drop_of_length_le (l := cs.toList.take (off + i)) (by omega)]
    simp [List.drop_drop, Nat.add_comm, Nat.add_left_comm, Nat.add_assoc]

theorem fill_step (place : Nat → Option (Nat × Nat)) (cells : Array Value) (i off size : Nat) (v : Value) (rest : List (Nat × Value))
    (hp : place i = some (off, size)) (h1 : v.cells.size = size) (h2 : off + size ≤ cells.size) :
    Instr.fill place cells ((i, v) :: rest) =
      Instr.fill place (cells.toList.take off ++ v.cells.toList ++ cells.toList.drop (off + size)).toArray rest := by
  have hf : (Array.foldl (fun cs (x : Value × Nat) => match x with | (c, j) => cs.setIfInBounds (off + j) c) cells v.cells.zipIdx) =
      (cells.toList.take off ++ v.cells.toList ++ cells.toList.drop (off + size)).toArray := by
    rw [← Array.foldl_toList, Array.toList_zipIdx]
    apply Array.toList_inj.mp
    have := fill_foldl v.cells.toList 0 off cells (by simp; omega)
    simp only [Nat.add_zero] at this
    refine Eq.trans (show _ = (List.foldl (fun (cs : Array Value) (x : Value × Nat) => cs.setIfInBounds (off + x.snd) x.fst) cells v.cells.toList.zipIdx).toList from rfl) ?_
    rw [this]
    simp [h1]
  conv => lhs; unfold Instr.fill
  simp only [hp]
  rw [if_neg (by simp [h1]; omega)]
  exact congrArg (fun c => Instr.fill place c rest) hf

theorem fill_ok {G n m : Nat} {j : J} {ls : List Nat} {tm : List SV} {ρ : Operand → Value} (E : Ops G j ls n m tm ρ) (pl : Nat → Option (Nat × Nat)) :
    ∀ (l : List (Nat × Operand)) (l' : List (Nat × Nat × Opd)) (zs cs : List V), cParts G pl l = some l' → fillP tm zs l' = some cs → V.ltL n zs = true →
      Instr.fill pl (concL j zs).toArray (l.map fun (i, x) => (i, ρ x)) = some (concL j cs).toArray ∧ V.ltL n cs = true ∧ cs.length = zs.length := by
  intro l
  induction l with
  | nil =>
    intro l' zs cs h hf hz
    simp only [cParts] at h; injection h with h; subst h
    simp only [fillP] at hf; injection hf with hf; subst hf
    exact ⟨rfl, hz, rfl⟩
  | cons p l ih =>
    obtain ⟨i, x⟩ := p
    intro l' zs cs h hf hz
    simp only [cParts] at h
    split at h
    · rename_i off sz y l2 hp hx hl
      injection h with h; subst h
      simp only [fillP] at hf
      split at hf
      · rename_i v hv
        split at hf
        · rename_i hb
          obtain ⟨e1, e2⟩ := val_ok E hx hv
          have hcl : V.ltL n v.cells = true := by
            cases v with
            | agg cs => exact e2
            | _ => simpa [V.cells, V.ltL] using e2
          obtain ⟨r1, r2, r3⟩ := ih l2 (splice zs off v.cells) cs hl hf (splice_lt hz hcl)
          refine ⟨?_, r2, by rw [r3, splice_length (by omega)]⟩
          rw [List.map_cons]
          show Instr.fill pl (concL j zs).toArray ((i, ρ x) :: _) = _
          rw [fill_step pl _ i off sz (ρ x) _ hp (by rw [e1, conc_cells]; simpa using hb.1) (by simpa using hb.2)]
          rw [← r1, e1, conc_cells, concL_splice, hb.1]
        · cases hf
      · cases hf
    · cases h

end Go.Ev
