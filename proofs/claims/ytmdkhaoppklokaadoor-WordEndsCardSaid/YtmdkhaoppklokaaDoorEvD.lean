/- texts joined -/
import Derived.Test.YtmdkhaoppklokaaDoorEvC
namespace Go.Ev
open Go.RowKit

/-! values -/

structure J.Eq (n : Nat) (j j' : J) : Prop where
  b : ∀ i, i < n → j'.b i = j.b i
  o : ∀ i, i < n → j'.o i = j.o i

theorem J.Eq.refl (n : Nat) (j : J) : J.Eq n j j := ⟨fun _ _ => rfl, fun _ _ => rfl⟩
theorem J.Eq.at {n : Nat} {j j' : J} (h : J.Eq n j j') {i : Nat} (hi : i < n) (x : Nat) : j'.at i x = j.at i x := by
  unfold J.at; rw [h.b i hi, h.o i hi]

mutual
theorem conc_eq {n : Nat} {j j' : J} (h : J.Eq n j j') : ∀ v : V, v.lt n = true → conc j' v = conc j v
  | .int _ _, _ => rfl
  | .bool _, _ => rfl
  | .str _, _ => rfl
  | .ptr none, _ => rfl
  | .ptr (some (i, x)), hv => by simp only [V.lt, decide_eq_true_eq] at hv; simp only [conc, h.at hv]
  | .sl none _ _, _ => rfl
  | .sl (some (i, x)) _ _, hv => by simp only [V.lt, decide_eq_true_eq] at hv; simp only [conc, h.at hv]
  | .fn f a b, hv => by
    simp only [V.lt, Bool.and_eq_true] at hv
    simp only [conc, concL_eq h a hv.1, concL_eq h b hv.2]
  | .nilf, _ => rfl
  | .mp none, _ => rfl
  | .mp (some m), hv => by simp only [V.lt, decide_eq_true_eq] at hv; simp only [conc, h.b m hv]
  | .agg cs, hv => by simp only [V.lt] at hv; simp only [conc, concL_eq h cs hv]
  | .tup cs, hv => by simp only [V.lt] at hv; simp only [conc, concL_eq h cs hv]
theorem concL_eq {n : Nat} {j j' : J} (h : J.Eq n j j') : ∀ l : List V, V.ltL n l = true → concL j' l = concL j l
  | [], _ => rfl
  | a :: l, hv => by
    simp only [V.ltL, Bool.and_eq_true] at hv
    simp only [concL, conc_eq h a hv.1, concL_eq h l hv.2]
end

mutual
theorem V.lt_le {n m : Nat} (h : n ≤ m) : ∀ v : V, v.lt n = true → v.lt m = true
  | .int _ _, _ => rfl
  | .bool _, _ => rfl
  | .str _, _ => rfl
  | .ptr none, _ => rfl
  | .ptr (some (i, x)), hv => by simp only [V.lt, decide_eq_true_eq] at hv ⊢; omega
  | .sl none _ _, _ => rfl
  | .sl (some (i, x)) _ _, hv => by simp only [V.lt, decide_eq_true_eq] at hv ⊢; omega
  | .fn f a b, hv => by
    simp only [V.lt, Bool.and_eq_true] at hv ⊢
    exact ⟨V.ltL_le h a hv.1, V.ltL_le h b hv.2⟩
  | .nilf, _ => rfl
  | .mp none, _ => rfl
  | .mp (some m), hv => by simp only [V.lt, decide_eq_true_eq] at hv ⊢; omega
  | .agg cs, hv => by simp only [V.lt] at hv ⊢; exact V.ltL_le h cs hv
  | .tup cs, hv => by simp only [V.lt] at hv ⊢; exact V.ltL_le h cs hv
theorem V.ltL_le {n m : Nat} (h : n ≤ m) : ∀ l : List V, V.ltL n l = true → V.ltL m l = true
  | [], _ => rfl
  | a :: l, hv => by
    simp only [V.ltL, Bool.and_eq_true] at hv ⊢
    exact ⟨V.lt_le h a hv.1, V.ltL_le h l hv.2⟩
end

theorem ltL_iff (n : Nat) (l : List V) : V.ltL n l = true ↔ ∀ v, v ∈ l → v.lt n = true := by
  induction l with
  | nil => simp [V.ltL]
  | cons a l ih => simp [V.ltL, ih]

theorem concL_map (j : J) (l : List V) : concL j l = l.map (conc j) := by
  induction l with
  | nil => rfl
  | cons a l ih => simp [concL, ih]

@[simp] theorem concL_length (j : J) (l : List V) : (concL j l).length = l.length := by simp [concL_map]

theorem conc_cells (j : J) (v : V) : (conc j v).cells = (concL j v.cells).toArray := by
  cases v with
  | ptr p => cases p <;> rfl
  | sl p _ _ => cases p <;> rfl
  | mp p => cases p <;> rfl
  | agg cs => rfl
  | tup cs => rfl
  | _ => rfl

theorem one_cell (j : J) {v : V} (h : v.one = true) : (conc j v).oneCell' = true := by
  cases v with
  | ptr p => cases p <;> rfl
  | sl p _ _ => cases p <;> rfl
  | mp p => cases p <;> rfl
  | agg cs => cases h
  | tup cs => cases h
  | _ => rfl

def SV.ok (n m : Nat) : SV → Bool
  | .v x => x.lt n
  | .lp i _ => decide (i < m)

def concS (j : J) (ls : List Nat) : SV → Value
  | .v x => conc j x
  | .lp i o => .pointer (some ⟨ls.getD i 0, o, none⟩)

/-! blocks -/

def B.lt (n : Nat) : B → Bool
  | .ro cs => V.ltL n cs
  | .rw _ cs => V.ltL n cs
  | .mp es => V.ltL n (es.map (·.1)) && V.ltL n (es.map (·.2))

def B.own : B → Bool
  | .ro _ => false
  | _ => true

def mpc (j : J) (es : List (V × V)) : Array MapEntry :=
  (es.mapIdx fun i e => ({ key := conc j e.1, val := conc j e.2, born := i } : MapEntry)).toArray

/-- What a block is in the machine's memory. -/
def BR (j : J) (w : World) (i : Nat) : B → Prop
  | .ro cs => ∀ (x : Nat) v, cs[x]? = some v → w.cell? (j.at i x) = some (conc j v)
  | .rw ty cs => j.o i = 0 ∧ w.heap[j.b i]? = some (.cells (concL j cs).toArray ty)
  | .mp es => w.heap[j.b i]? = some (.map (mpc j es) es.length)

/-- Two blocks of one kind: what is read alone is the same, what is written has the same type and as many cells. -/
def knd : B → B → Prop
  | .ro cs, b => b = .ro cs
  | .rw ty cs, b => ∃ cs', b = .rw ty cs' ∧ cs'.length = cs.length
  | .mp _, b => ∃ es, b = .mp es

theorem knd.refl (b : B) : knd b b := by
  cases b with
  | ro cs => rfl
  | rw ty cs => exact ⟨cs, rfl, rfl⟩
  | mp es => exact ⟨es, rfl⟩

theorem knd.trans {a b c : B} (h : knd a b) (k : knd b c) : knd a c := by
  cases a with
  | ro cs => cases h; exact k
  | rw ty cs => obtain ⟨cs', rfl, e⟩ := h; obtain ⟨cs'', rfl, e'⟩ := k; exact ⟨cs'', rfl, e'.trans e⟩
  | mp es => obtain ⟨es', rfl⟩ := h; exact k

theorem knd.own {a b : B} (h : knd a b) : b.own = a.own := by
  cases a with
  | ro cs => cases h; rfl
  | rw ty cs => obtain ⟨cs', rfl, _⟩ := h; rfl
  | mp es => obtain ⟨es', rfl⟩ := h; rfl

/-- Where the call began: the world, the memory, where its blocks lie. -/
structure Cx where
  w : World
  H : List B
  j : J

structure Inv (G : Nat) (c : Cx) (j : J) (ls : List Nat) (tm : List SV) (L : List LB) (H : List B) (e g : Bool) (w : World) : Prop where
  os : w.os = c.w.os
  tape : w.tape = c.w.tape
  output : w.output = c.w.output
  size : c.w.heap.size ≤ w.heap.size
  lts : ∀ i, i < H.length → j.b i < w.heap.size
  br : ∀ (i : Nat) b, H[i]? = some b → BR j w i b
  sep : ∀ (i : Nat) b, H[i]? = some b → b.own = true → ∀ i', i' < H.length → i' ≠ i → j.b i' ≠ j.b i
  ll : ls.length = L.length
  lbr : ∀ (i : Nat) b, L[i]? = some b → w.heap[ls.getD i 0]? = some (.cells (concL j b.cs).toArray b.ty)
  lnew : ∀ k, k < ls.length → c.w.heap.size ≤ ls.getD k 0 ∧ ls.getD k 0 < w.heap.size
  lnd : ∀ k k', k < ls.length → k' < ls.length → k ≠ k' → ls.getD k 0 ≠ ls.getD k' 0
  lsep : ∀ k, k < ls.length → ∀ i, i < H.length → j.b i ≠ ls.getD k 0
  tml : ∀ x, x ∈ tm → x.ok H.length L.length = true
  Ll : ∀ b, b ∈ L → V.ltL H.length b.cs = true
  Hl : ∀ b, b ∈ H → b.lt H.length = true
  n0 : c.H.length ≤ H.length
  jold : J.Eq c.H.length c.j j
  jnew : ∀ i, c.H.length ≤ i → i < H.length → c.w.heap.size ≤ j.b i
  frame : ∀ b, b < c.w.heap.size → (∀ (i : Nat) b', c.H[i]? = some b' → b'.own = true → c.j.b i ≠ b) → w.heap[b]? = c.w.heap[b]?
  kd : ∀ (i : Nat) b, c.H[i]? = some b → ∃ b', H[i]? = some b' ∧ knd b b'
  esc : e = false → ∀ (i : Nat) (b b' : B) (m : Nat), c.H[i]? = some b → H[i]? = some b' → b.lt m = true → b'.lt m = true
  grow : g = false → H.length = c.H.length
  glob : ∀ i, i < G → j.b i = i ∧ j.o i = 0
  gl : G ≤ H.length

/-- The machine's state is the evaluator's. -/
def R (G : Nat) (c : Cx) (tm : List SV) (L : List LB) (H : List B) (e g : Bool) (a : Act) (w : World) : Prop :=
  ∃ j ls, Inv G c j ls tm L H e g w ∧ a.tmps = (tm.map (concS j ls)).toArray ∧ a.defers = []

end Go.Ev

namespace Go.Ev
open Go.RowKit

theorem toV_ok {v : Value} {x : V} (h : toV v = some x) (j : J) (n : Nat) : conc j x = v ∧ x.lt n = true := by
  unfold toV at h
  split at h <;> first | (cases h; done) | (injection h with h; subst h; exact ⟨rfl, rfl⟩)

theorem toVs_ok {l : List Value} {r : List V} (h : toVs l = some r) (j : J) (n : Nat) : concL j r = l ∧ V.ltL n r = true := by
  induction l generalizing r with
  | nil => simp only [toVs] at h; injection h with h; subst h; exact ⟨rfl, rfl⟩
  | cons v l ih =>
    simp only [toVs] at h
    split at h
    · rename_i x y hx hy
      injection h with h; subst h
      obtain ⟨a, b⟩ := toV_ok hx j n
      obtain ⟨c, d⟩ := ih hy
      exact ⟨by simp [concL, a, c], by simp [V.ltL, b, d]⟩
    · cases h

theorem toC_ok {v : Value} {x : V} (h : toC v = some x) (j : J) (n : Nat) : conc j x = v ∧ x.lt n = true := by
  unfold toC at h
  split at h
  · rename_i cs
    cases hr : toVs cs.toList with
    | none => rw [hr] at h; cases h
    | some r =>
      rw [hr] at h; simp only [Option.map_some, Option.some.injEq] at h; subst h
      obtain ⟨a, b⟩ := toVs_ok hr j n
      exact ⟨by simp [conc, a], by simpa [V.lt] using b⟩
  · rename_i cs
    cases hr : toVs cs.toList with
    | none => rw [hr] at h; cases h
    | some r =>
      rw [hr] at h; simp only [Option.map_some, Option.some.injEq] at h; subst h
      obtain ⟨a, b⟩ := toVs_ok hr j n
      exact ⟨by simp [conc, a], by simpa [V.lt] using b⟩
  · exact toV_ok h j n

/-- The operands: what they are on both sides. -/
structure Ops (G : Nat) (j : J) (ls : List Nat) (n m : Nat) (tm : List SV) (ρ : Operand → Value) : Prop where
  tmp : ∀ t, ρ (.tmp t) = concS j ls (gets tm t)
  const : ∀ v, ρ (.const v) = v
  glob : ∀ g, ρ (.global g) = .pointer (some ⟨g, 0, none⟩)
  func : ∀ f, ρ (.func f) = .func (.func f) #[] #[]
  ok : ∀ t, (gets tm t).ok n m = true
  jg : ∀ i, i < G → j.b i = i ∧ j.o i = 0
  gn : G ≤ n

section
variable {G n m : Nat} {j : J} {ls : List Nat} {tm : List SV} {ρ : Operand → Value}

theorem opd_ok (E : Ops G j ls n m tm ρ) {x : Operand} {x' : Opd} (h : cOpd G x = some x') :
    ρ x = concS j ls (x'.ev tm) ∧ (x'.ev tm).ok n m = true := by
  cases x with
  | tmp t => simp only [cOpd] at h; injection h with h; subst h; exact ⟨E.tmp t, E.ok t⟩
  | const v =>
    simp only [cOpd] at h
    cases hv : toC v with
    | none => rw [hv] at h; cases h
    | some y =>
      rw [hv] at h; injection h with h; subst h
      obtain ⟨a, b⟩ := toC_ok hv j n
      exact ⟨by rw [E.const]; exact a.symm, b⟩
  | global g =>
    simp only [cOpd] at h
    split at h
    · rename_i hg
      injection h with h; subst h
      refine ⟨?_, ?_⟩
      · rw [E.glob]; simp [Opd.ev, concS, conc, J.at, (E.jg g hg).1, (E.jg g hg).2]
      · have := E.gn; simp [Opd.ev, SV.ok, V.lt]; omega
    · cases h
  | func f => simp only [cOpd] at h; injection h with h; subst h; exact ⟨by rw [E.func]; rfl, rfl⟩

theorem val_some {tm : List SV} {x : Opd} {v : V} (h : x.val tm = some v) : x.ev tm = .v v := by
  unfold Opd.val at h
  split at h
  · rename_i w hw; injection h with h; rw [hw, h]
  · cases h

theorem val_ok (E : Ops G j ls n m tm ρ) {x : Operand} {x' : Opd} (h : cOpd G x = some x') {v : V} (hv : x'.val tm = some v) :
    ρ x = conc j v ∧ v.lt n = true := by
  obtain ⟨a, b⟩ := opd_ok E h
  rw [val_some hv] at a b
  exact ⟨a, b⟩

theorem opds_ok (E : Ops G j ls n m tm ρ) {l : List Operand} {l' : List Opd} (h : cOpds G l = some l') {vs : List V} (hv : vals tm l' = some vs) :
    l.map ρ = concL j vs ∧ V.ltL n vs = true := by
  induction l generalizing l' vs with
  | nil => simp only [cOpds] at h; injection h with h; subst h; simp only [vals] at hv; injection hv with hv; subst hv; exact ⟨rfl, rfl⟩
  | cons x l ih =>
    simp only [cOpds] at h
    split at h
    · rename_i a b ha hb
      injection h with h; subst h
      simp only [vals] at hv
      split at hv
      · rename_i v hv1
        split at hv
        · rename_i r hr
          injection hv with hv; subst hv
          obtain ⟨p, q⟩ := val_ok E ha hv1
          obtain ⟨p', q'⟩ := ih hb hr
          exact ⟨by simp [concL, p, p'], by simp [V.ltL, q, q']⟩
        · cases hv
      · cases hv
    · cases h

theorem opt_ok (E : Ops G j ls n m tm ρ) {x : Option Operand} {x' : Option Opd} (h : cOpt G x = some x') {v : Option V} (hv : optV tm x' = some v) :
    x.map ρ = v.map (conc j) := by
  cases x with
  | none => simp only [cOpt] at h; injection h with h; subst h; simp only [optV] at hv; injection hv with hv; subst hv; rfl
  | some x =>
    simp only [cOpt] at h
    cases hc : cOpd G x with
    | none => rw [hc] at h; cases h
    | some y =>
      rw [hc] at h; injection h with h; subst h
      simp only [optV] at hv
      split at hv
      · rename_i u hu
        injection hv with hv; subst hv
        simp [(val_ok E hc hu).1]
      · cases hv
end

theorem cut_some {cs r : List V} {x n : Nat} (h : cut cs x n = some r) : x + n ≤ cs.length ∧ r = (cs.drop x).take n := by
  unfold cut at h
  split at h
  · injection h with h; exact ⟨by assumption, h.symm⟩
  · cases h

theorem cut_lt {cs r : List V} {x n k : Nat} (h : cut cs x n = some r) (hc : V.ltL k cs = true) : V.ltL k r = true := by
  obtain ⟨_, rfl⟩ := cut_some h
  rw [ltL_iff] at hc ⊢
  exact fun v hv => hc v (List.mem_of_mem_drop (List.mem_of_mem_take hv))

theorem unV_lt {b : Bool} {cs : List V} {v : V} (h : unV b cs = some v) {k : Nat} (hc : V.ltL k cs = true) : v.lt k = true := by
  unfold unV at h
  split at h
  · injection h with h; subst h; exact hc
  · injection h with h; subst h; simpa [V.ltL] using hc
  · cases h

theorem splice_length {cs vs : List V} {x : Nat} (h : x + vs.length ≤ cs.length) : (splice cs x vs).length = cs.length := by
  simp [splice]; omega

theorem splice_lt {cs vs : List V} {x k : Nat} (hc : V.ltL k cs = true) (hv : V.ltL k vs = true) : V.ltL k (splice cs x vs) = true := by
  rw [ltL_iff] at hc hv ⊢
  intro v h
  simp only [splice, List.mem_append] at h
  rcases h with (h | h) | h
  · exact hc v (List.mem_of_mem_take h)
  · exact hv v h
  · exact hc v (List.mem_of_mem_drop h)

theorem concL_splice (j : J) (cs vs : List V) (x : Nat) : concL j (splice cs x vs) = (concL j cs).take x ++ concL j vs ++ (concL j cs).drop (x + vs.length) := by
  simp [concL_map, splice, List.map_take, List.map_drop]

theorem concL_cut (j : J) (cs : List V) (x n : Nat) : concL j ((cs.drop x).take n) = ((concL j cs).drop x).take n := by
  simp [concL_map, List.map_take, List.map_drop]

/-- the parts of an aggregate, put in, on the machine's side -/
theorem fill_foldl (vs : List Value) : ∀ (i : Nat) (off : Nat) (cs : Array Value), off + i + vs.length ≤ cs.size →
    ((vs.zipIdx i).foldl (fun cs (c, j) => cs.setIfInBounds (off + j) c) cs).toList = cs.toList.take (off + i) ++ vs ++ cs.toList.drop (off + i + vs.length) := by
  induction vs with
  | nil => intro i off cs h; simp
  | cons v vs ih =>
    intro i off cs h
    simp only [List.length_cons] at h
    simp only [List.zipIdx_cons, List.foldl_cons]
    have hs : off + (i + 1) + vs.length ≤ (cs.setIfInBounds (off + i) v).size := by simp; omega
    have := ih (i + 1) off (cs.setIfInBounds (off + i) v) hs
    rw [this]
    have hlt : off + i < cs.toList.length := by simp; omega
    simp only [Array.toList_setIfInBounds, List.length_cons]
    rw [show off + (i + 1) = off + i + 1 by omega, show off + i + 1 + vs.length = off + i + (vs.length + 1) by omega]
    rw [List.set_eq_take_append_cons_drop, if_pos hlt]
    have e1 : (cs.toList.take (off + i)).length = off + i := by simp; omega
    rw [List.take_append, e1, List.drop_append, e1]
    rw [show off + i + 1 - (off + i) = 1 by omega, show off + i + (vs.length + 1) - (off + i) = vs.length + 1 by omega]
    rw [List.take_of_length_le (by omega), List.drop_of_length_le (l := cs.toList.take (off + i)) (by omega)]
    simp [List.drop_drop, Nat.add_comm, Nat.add_left_comm, Nat.add_assoc]

theorem fill_step (place : Nat → Option (Nat × Nat)) (cells : Array Value) (i off size : Nat) (v : Value) (rest : List (Nat × Value))
    (hp : place i = some (off, size)) (h1 : v.cells.size = size) (h2 : off + size ≤ cells.size) :
    Instr.fill place cells ((i, v) :: rest) =
      Instr.fill place (cells.toList.take off ++ v.cells.toList ++ cells.toList.drop (off + size)).toArray rest := by
  have hf : (Array.foldl (fun cs (x : Value × Nat) => match x with | (c, j) => cs.setIfInBounds (off + j) c) cells v.cells.zipIdx) =
      (cells.toList.take off ++ v.cells.toList ++ cells.toList.drop (off + size)).toArray := by
    rw [← Array.foldl_toList, Array.toList_zipIdx]
    apply Array.toList_inj.mp
    have := fill_foldl v.cells.toList 0 off cells (by simp; omega)
    simp only [Nat.add_zero] at this
    refine Eq.trans (show _ = (List.foldl (fun (cs : Array Value) (x : Value × Nat) => cs.setIfInBounds (off + x.snd) x.fst) cells v.cells.toList.zipIdx).toList from rfl) ?_
    rw [this]
    simp [h1]
  conv => lhs; unfold Instr.fill
  simp only [hp]
  rw [if_neg (by simp [h1]; omega)]
  exact congrArg (fun c => Instr.fill place c rest) hf

theorem fill_ok {G n m : Nat} {j : J} {ls : List Nat} {tm : List SV} {ρ : Operand → Value} (E : Ops G j ls n m tm ρ) (pl : Nat → Option (Nat × Nat)) :
    ∀ (l : List (Nat × Operand)) (l' : List (Nat × Nat × Opd)) (zs cs : List V), cParts G pl l = some l' → fillP tm zs l' = some cs → V.ltL n zs = true →
      Instr.fill pl (concL j zs).toArray (l.map fun (i, x) => (i, ρ x)) = some (concL j cs).toArray ∧ V.ltL n cs = true ∧ cs.length = zs.length := by
  intro l
  induction l with
  | nil =>
    intro l' zs cs h hf hz
    simp only [cParts] at h; injection h with h; subst h
    simp only [fillP] at hf; injection hf with hf; subst hf
    exact ⟨rfl, hz, rfl⟩
  | cons p l ih =>
    obtain ⟨i, x⟩ := p
    intro l' zs cs h hf hz
    simp only [cParts] at h
    split at h
    · rename_i off sz y l2 hp hx hl
      injection h with h; subst h
      simp only [fillP] at hf
      split at hf
      · rename_i v hv
        split at hf
        · rename_i hb
          obtain ⟨e1, e2⟩ := val_ok E hx hv
          have hcl : V.ltL n v.cells = true := by
            cases v with
            | agg cs => exact e2
            | _ => simpa [V.cells, V.ltL] using e2
          obtain ⟨r1, r2, r3⟩ := ih l2 (splice zs off v.cells) cs hl hf (splice_lt hz hcl)
          refine ⟨?_, r2, by rw [r3, splice_length (by omega)]⟩
          rw [List.map_cons]
          show Instr.fill pl (concL j zs).toArray ((i, ρ x) :: _) = _
          rw [fill_step pl _ i off sz (ρ x) _ hp (by rw [e1, conc_cells]; simpa using hb.1) (by simpa using hb.2)]
          rw [← r1, e1, conc_cells, concL_splice, hb.1]
        · cases hf
      · cases hf
    · cases h

end Go.Ev
