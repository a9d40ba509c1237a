/- Ev: what holds between the evaluator's state and the machine's. -/
import Derived.Test.YtmdkhaoppklokaaDoorEvC
namespace Go.Ev
open Go.RowKit

/-! values -/

structure J.Eq (n : Nat) (j j' : J) : Prop where
  b : ∀ i, i < n → j'.b i = j.b i
  o : ∀ i, i < n → j'.o i = j.o i

theorem J.Eq.refl (n : Nat) (j : J) : J.Eq n j j := ⟨fun _ _ => rfl, fun _ _ => rfl⟩
theorem J.Eq.at {n : Nat} {j j' : J} (h : J.Eq n j j') {i : Nat} (hi : i < n) (x : Nat) : j'.at i x = j.at i x := by
  unfold J.at; rw [h.b i hi, h.o i hi]

mutual
theorem conc_eq {n : Nat} {j j' : J} (h : J.Eq n j j') : ∀ v : V, v.lt n = true → conc j' v = conc j v
  | .int _ _, _ => rfl
  | .bool _, _ => rfl
  | .str _, _ => rfl
  | .ptr none, _ => rfl
  | .ptr (some (i, x)), hv => by simp only [V.lt, decide_eq_true_eq] at hv; simp only [conc, h.at hv]
  | .sl none _ _, _ => rfl
  | .sl (some (i, x)) _ _, hv => by simp only [V.lt, decide_eq_true_eq] at hv; simp only [conc, h.at hv]
  | .fn f a b, hv => by
    simp only [V.lt, Bool.and_eq_true] at hv
    simp only [conc, concL_eq h a hv.1, concL_eq h b hv.2]
  | .nilf, _ => rfl
  | .mp none, _ => rfl
  | .mp (some m), hv => by simp only [V.lt, decide_eq_true_eq] at hv; simp only [conc, h.b m hv]
  | .agg cs, hv => by simp only [V.lt] at hv; simp only [conc, concL_eq h cs hv]
  | .tup cs, hv => by simp only [V.lt] at hv; simp only [conc, concL_eq h cs hv]
theorem concL_eq {n : Nat} {j j' : J} (h : J.Eq n j j') : ∀ l : List V, V.ltL n l = true → concL j' l = concL j l
  | [], _ => rfl
  | a :: l, hv => by
    simp only [V.ltL, Bool.and_eq_true] at hv
    simp only [concL, conc_eq h a hv.1, concL_eq h l hv.2]
end

mutual
theorem V.lt_le {n m : Nat} (h : n ≤ m) : ∀ v : V, v.lt n = true → v.lt m = true
  | .int _ _, _ => rfl
  | .bool _, _ => rfl
  | .str _, _ => rfl
  | .ptr none, _ => rfl
  | .ptr (some (i, x)), hv => by simp only [V.lt, decide_eq_true_eq] at hv ⊢; omega
  | .sl none _ _, _ => rfl
  | .sl (some (i, x)) _ _, hv => by simp only [V.lt, decide_eq_true_eq] at hv ⊢; omega
  | .fn f a b, hv => by
    simp only [V.lt, Bool.and_eq_true] at hv ⊢
    exact ⟨V.ltL_le h a hv.1, V.ltL_le h b hv.2⟩
  | .nilf, _ => rfl
  | .mp none, _ => rfl
  | .mp (some m), hv => by simp only [V.lt, decide_eq_true_eq] at hv ⊢; omega
  | .agg cs, hv => by simp only [V.lt] at hv ⊢; exact V.ltL_le h cs hv
  | .tup cs, hv => by simp only [V.lt] at hv ⊢; exact V.ltL_le h cs hv
theorem V.ltL_le {n m : Nat} (h : n ≤ m) : ∀ l : List V, V.ltL n l = true → V.ltL m l = true
  | [], _ => rfl
  | a :: l, hv => by
    simp only [V.ltL, Bool.and_eq_true] at hv ⊢
    exact ⟨V.lt_le h a hv.1, V.ltL_le h l hv.2⟩
end

theorem ltL_iff (n : Nat) (l : List V) : V.ltL n l = true ↔ ∀ v, v ∈ l → v.lt n = true := by
  induction l with
  | nil => simp [V.ltL]
  | cons a l ih => simp [V.ltL, ih]

theorem concL_map (j : J) (l : List V) : concL j l = l.map (conc j) := by
  induction l with
  | nil => rfl
  | cons a l ih => simp [concL, ih]

@[simp] theorem concL_length (j : J) (l : List V) : (concL j l).length = l.length := by simp [concL_map]

theorem conc_cells (j : J) (v : V) : (conc j v).cells = (concL j v.cells).toArray := by
  cases v with
  | ptr p => cases p <;> rfl
  | sl p _ _ => cases p <;> rfl
  | mp p => cases p <;> rfl
  | agg cs => rfl
  | tup cs => rfl
  | _ => rfl

theorem one_cell (j : J) {v : V} (h : v.one = true) : (conc j v).oneCell' = true := by
  cases v with
  | ptr p => cases p <;> rfl
  | sl p _ _ => cases p <;> rfl
  | mp p => cases p <;> rfl
  | agg cs => cases h
  | tup cs => cases h
  | _ => rfl

def SV.ok (n m : Nat) : SV → Bool
  | .v x => x.lt n
  | .lp i _ => decide (i < m)

def concS (j : J) (ls : List Nat) : SV → Value
  | .v x => conc j x
  | .lp i o => .pointer (some ⟨ls.getD i 0, o, none⟩)

/-! blocks -/

def B.lt (n : Nat) : B → Bool
  | .ro cs => V.ltL n cs
  | .rw _ cs => V.ltL n cs
  | .mp es => V.ltL n (es.map (·.1)) && V.ltL n (es.map (·.2))

def B.own : B → Bool
  | .ro _ => false
  | _ => true

def mpc (j : J) (es : List (V × V)) : Array MapEntry :=
  (es.mapIdx fun i e => ({ key := conc j e.1, val := conc j e.2, born := i } : MapEntry)).toArray

/-- What a block is in the machine's memory. -/
def BR (j : J) (w : World) (i : Nat) : B → Prop
  | .ro cs => ∀ (x : Nat) v, cs[x]? = some v → w.cell? (j.at i x) = some (conc j v)
  | .rw ty cs => j.o i = 0 ∧ w.heap[j.b i]? = some (.cells (concL j cs).toArray ty)
  | .mp es => w.heap[j.b i]? = some (.map (mpc j es) es.length)

/-- Two blocks of one kind: what is read alone is the same, what is written has the same type and as many cells. -/
def knd : B → B → Prop
  | .ro cs, b => b = .ro cs
  | .rw ty cs, b => ∃ cs', b = .rw ty cs' ∧ cs'.length = cs.length
  | .mp _, b => ∃ es, b = .mp es

theorem knd.refl (b : B) : knd b b := by
  cases b with
  | ro cs => rfl
  | rw ty cs => exact ⟨cs, rfl, rfl⟩
  | mp es => exact ⟨es, rfl⟩

theorem knd.trans {a b c : B} (h : knd a b) (k : knd b c) : knd a c := by
  cases a with
  | ro cs => cases h; exact k
  | rw ty cs => obtain ⟨cs', rfl, e⟩ := h; obtain ⟨cs'', rfl, e'⟩ := k; exact ⟨cs'', rfl, e'.trans e⟩
  | mp es => obtain ⟨es', rfl⟩ := h; exact k

theorem knd.own {a b : B} (h : knd a b) : b.own = a.own := by
  cases a with
  | ro cs => cases h; rfl
  | rw ty cs => obtain ⟨cs', rfl, _⟩ := h; rfl
  | mp es => obtain ⟨es', rfl⟩ := h; rfl

/-- Where the call began: the world, the memory, where its blocks lie. -/
structure Cx where
  w : World
  H : List B
  j : J

structure Inv (G : Nat) (c : Cx) (j : J) (ls : List Nat) (tm : List SV) (L : List LB) (H : List B) (e g : Bool) (w : World) : Prop where
  os : w.os = c.w.os
  tape : w.tape = c.w.tape
  output : w.output = c.w.output
  size : c.w.heap.size ≤ w.heap.size
  lts : ∀ i, i < H.length → j.b i < w.heap.size
  br : ∀ (i : Nat) b, H[i]? = some b → BR j w i b
  sep : ∀ (i : Nat) b, H[i]? = some b → b.own = true → ∀ i', i' < H.length → i' ≠ i → j.b i' ≠ j.b i
  ll : ls.length = L.length
  lbr : ∀ (i : Nat) b, L[i]? = some b → w.heap[ls.getD i 0]? = some (.cells (concL j b.cs).toArray b.ty)
  lnew : ∀ k, k < ls.length → c.w.heap.size ≤ ls.getD k 0 ∧ ls.getD k 0 < w.heap.size
  lnd : ∀ k k', k < ls.length → k' < ls.length → k ≠ k' → ls.getD k 0 ≠ ls.getD k' 0
  lsep : ∀ k, k < ls.length → ∀ i, i < H.length → j.b i ≠ ls.getD k 0
  tml : ∀ x, x ∈ tm → x.ok H.length L.length = true
  Ll : ∀ b, b ∈ L → V.ltL H.length b.cs = true
  Hl : ∀ b, b ∈ H → b.lt H.length = true
  n0 : c.H.length ≤ H.length
  jold : J.Eq c.H.length c.j j
  jnew : ∀ i, c.H.length ≤ i → i < H.length → c.w.heap.size ≤ j.b i
  frame : ∀ b, b < c.w.heap.size → (∀ (i : Nat) b', c.H[i]? = some b' → b'.own = true → c.j.b i ≠ b) → w.heap[b]? = c.w.heap[b]?
  kd : ∀ (i : Nat) b, c.H[i]? = some b → ∃ b', H[i]? = some b' ∧ knd b b'
  esc : e = false → ∀ (i : Nat) (b b' : B) (m : Nat), c.H[i]? = some b → H[i]? = some b' → b.lt m = true → b'.lt m = true
  grow : g = false → H.length = c.H.length
  glob : ∀ i, i < G → j.b i = i ∧ j.o i = 0
  gl : G ≤ H.length

/-- The machine's state is the evaluator's. -/
def R (G : Nat) (c : Cx) (tm : List SV) (L : List LB) (H : List B) (e g : Bool) (a : Act) (w : World) : Prop :=
  ∃ j ls, Inv G c j ls tm L H e g w ∧ a.tmps = (tm.map (concS j ls)).toArray ∧ a.defers = []

end Go.Ev
