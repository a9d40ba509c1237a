/- Ev: how the state's relation goes on: new blocks, written blocks. -/
import Derived.Test.YtmdkhaoppklokaaDoorEvH
namespace Go.Ev
open Go.RowKit

theorem setS_eq : ∀ (tm : List SV) (d : Nat) (v : SV) (K : List SV → Prop), setS tm d v K = K (tm.set d v) := by
  intro tm
  induction tm with
  | nil => intro d v K; rfl
  | cons a l ih =>
    intro d v K
    cases d with
    | zero => rfl
    | succ d => simp only [setS, List.set_cons_succ, ih]

def putL (tm : List SV) (d : Option Nat) (v : SV) : List SV :=
  match d with
  | some d => tm.set d v
  | none => tm

theorem putS_eq (tm : List SV) (d : Option Nat) (v : SV) (K : List SV → Prop) : putS tm d v K = K (putL tm d v) := by
  cases d with
  | none => rfl
  | some d => exact setS_eq tm d v K

section
variable {G : Nat} {c : Cx} {j : J} {ls : List Nat} {tm : List SV} {L : List LB} {H : List B} {e g : Bool} {w : World}

theorem Inv.gets (h : Inv G c j ls tm L H e g w) (t : Nat) : (Ev.gets tm t).ok H.length L.length = true := by
  unfold Ev.gets
  rw [List.getD_eq_getElem?_getD]
  cases hx : tm[t]? with
  | none => rfl
  | some x => exact h.tml x (List.mem_of_getElem? hx)

theorem Inv.ops (h : Inv G c j ls tm L H e g w) {a : Act} (ha : a.tmps = (tm.map (concS j ls)).toArray) : Ops G j ls H.length L.length tm a.eval where
  tmp t := by
    simp only [Act.eval, ha, Ev.gets]
    simp only [Array.getD_eq_getD_getElem?, List.getElem?_toArray, List.getElem?_map, List.getD_eq_getElem?_getD]
    cases tm[t]? with
    | none => rfl
    | some x => rfl
  const v := rfl
  glob g := rfl
  func f := rfl
  ok := h.gets
  jg := h.glob
  gn := h.gl

theorem Inv.setTm (h : Inv G c j ls tm L H e g w) {tm' : List SV} (ht : ∀ x, x ∈ tm' → x.ok H.length L.length = true) : Inv G c j ls tm' L H e g w :=
  { h with tml := ht }

theorem Inv.put (h : Inv G c j ls tm L H e g w) {v : SV} (hv : v.ok H.length L.length = true) (d : Option Nat) : Inv G c j ls (putL tm d v) L H e g w := by
  refine h.setTm ?_
  intro x hx
  cases d with
  | none => exact h.tml x hx
  | some d =>
    rcases List.mem_or_eq_of_mem_set hx with hx | rfl
    · exact h.tml x hx
    · exact hv

theorem put_tmps {a : Act} (ha : a.tmps = (tm.map (concS j ls)).toArray) (d : Option Nat) (v : SV) :
    (a.put d (concS j ls v)).tmps = ((putL tm d v).map (concS j ls)).toArray := by
  cases d with
  | none => exact ha
  | some d =>
    simp only [Act.put, putL, ha]
    rw [List.setIfInBounds_toArray, List.map_set]

theorem put_defers {a : Act} (ha : a.defers = []) (d : Option Nat) (v : Value) : (a.put d v).defers = [] := by
  cases d <;> exact ha

theorem concS_eq {n m : Nat} {j j' : J} {ls ls' : List Nat} (h : J.Eq n j j') (hl : ∀ i, i < m → ls'.getD i 0 = ls.getD i 0) {v : SV} (hv : v.ok n m = true) : concS j' ls' v = concS j ls v := by
  cases v with
  | v x => exact conc_eq h x hv
  | lp i o =>
    simp only [SV.ok, decide_eq_true_eq] at hv
    simp only [concS, hl i hv]

theorem tmps_eq {n m : Nat} {j j' : J} {ls ls' : List Nat} (h : J.Eq n j j') (hl : ∀ i, i < m → ls'.getD i 0 = ls.getD i 0) {tm : List SV} (ht : ∀ x, x ∈ tm → x.ok n m = true) :
    tm.map (concS j' ls') = tm.map (concS j ls) := List.map_congr_left fun x hx => concS_eq h hl (ht x hx)

theorem SV.ok_le {n n' m m' : Nat} (hn : n ≤ n') (hm : m ≤ m') {v : SV} (h : v.ok n m = true) : v.ok n' m' = true := by
  cases v with
  | v x => exact V.lt_le hn x h
  | lp i o => simp only [SV.ok, decide_eq_true_eq] at h ⊢; omega

theorem B.lt_le {n m : Nat} (h : n ≤ m) {b : B} (hb : b.lt n = true) : b.lt m = true := by
  cases b with
  | ro cs => exact V.ltL_le h cs hb
  | rw ty cs => exact V.ltL_le h cs hb
  | mp es => simp only [B.lt, Bool.and_eq_true] at hb ⊢; exact ⟨V.ltL_le h _ hb.1, V.ltL_le h _ hb.2⟩

theorem mpc_eq {n : Nat} {j j' : J} (h : J.Eq n j j') {es : List (V × V)} (he : (B.mp es).lt n = true) : mpc j' es = mpc j es := by
  simp only [B.lt, Bool.and_eq_true, ltL_iff] at he
  unfold mpc
  congr 1
  apply List.ext_getElem?
  intro k
  simp only [List.getElem?_mapIdx]
  cases hk : es[k]? with
  | none => rfl
  | some p =>
    have hm := List.mem_of_getElem? hk
    simp only [Option.map_some]
    rw [conc_eq h p.1 (he.1 _ (List.mem_map.2 ⟨p, hm, rfl⟩)), conc_eq h p.2 (he.2 _ (List.mem_map.2 ⟨p, hm, rfl⟩))]

/-- A block is what it was, where the machine's block and its place are. -/
theorem BR.same {n i : Nat} {j j' : J} {w w' : World} {b : B} (h : BR j w i b) (hj : J.Eq n j j') (hi : i < n) (hb : b.lt n = true) (hw : w'.heap[j.b i]? = w.heap[j.b i]?) : BR j' w' i b := by
  cases b with
  | ro cs =>
    intro x v hx
    have hv : v.lt n = true := (ltL_iff n cs).1 hb v (List.mem_of_getElem? hx)
    rw [hj.at hi, conc_eq hj v hv, ← h x v hx]
    exact World.cell?_of_block (w := w) (a := j.at i x) hw
  | rw ty cs =>
    refine ⟨(hj.o i hi).trans h.1, ?_⟩
    rw [hj.b i hi, hw, h.2, concL_eq hj cs hb]
  | mp es =>
    show w'.heap[j'.b i]? = _
    rw [hj.b i hi, hw, mpc_eq hj hb]
    exact h

theorem alloc_old (w : World) (o : Obj) {k : Nat} (h : k < w.heap.size) : (w.alloc o).heap[k]? = w.heap[k]? := Below.heap_alloc w o k h

theorem alloc_new (w : World) (o : Obj) : (w.alloc o).heap[w.heap.size]? = some o := by
  show (w.heap.push o)[w.heap.size]? = _
  rw [Array.getElem?_push, if_pos rfl]

/-- The next block's place. -/
def J.push (j : J) (n k : Nat) : J := { b := fun i => if i = n then k else j.b i, o := fun i => if i = n then 0 else j.o i }

theorem J.push_eq (j : J) (n k : Nat) : J.Eq n j (j.push n k) :=
  ⟨fun i hi => by simp [J.push]; omega, fun i hi => by simp [J.push]; omega⟩

/-- A new block of the memory: cells, or a map. -/
theorem Inv.push (h : Inv G c j ls tm L H e g w) {b : B} (hb : b.lt H.length = true) (o : Obj)
    (hbr : BR (j.push H.length w.heap.size) (w.alloc o) H.length b) :
    Inv G c (j.push H.length w.heap.size) ls tm L (H ++ [b]) e true (w.alloc o) := by
  have hj := j.push_eq H.length w.heap.size
  have hn : (j.push H.length w.heap.size).b H.length = w.heap.size := by simp [J.push]
  have hlen : (H ++ [b]).length = H.length + 1 := by simp
  have hget : ∀ (i : Nat) b', (H ++ [b])[i]? = some b' → (i < H.length ∧ H[i]? = some b') ∨ (i = H.length ∧ b' = b) := by
    intro i b' hi
    by_cases hlt : i < H.length
    · rw [List.getElem?_append_left hlt] at hi; exact .inl ⟨hlt, hi⟩
    · rw [List.getElem?_append_right (by omega)] at hi
      have : i - H.length = 0 := by
        have := (List.getElem?_eq_some_iff.1 hi).1
        simp at this; omega
      rw [this] at hi
      simp at hi
      exact .inr ⟨by omega, hi.symm⟩
  exact {
    os := h.os
    tape := h.tape
    output := h.output
    size := by simp; have := h.size; omega
    lts := by
      intro i hi
      rw [hlen] at hi
      by_cases hlt : i < H.length
      · rw [hj.b i hlt]; have := h.lts i hlt; simp; omega
      · have : i = H.length := by omega
        subst this; rw [hn]; simp
    br := by
      intro i b' hi
      rcases hget i b' hi with ⟨hlt, hi⟩ | ⟨rfl, rfl⟩
      · exact (h.br i b' hi).same hj hlt (h.Hl b' (List.mem_of_getElem? hi)) (alloc_old w o (h.lts i hlt))
      · exact hbr
    sep := by
      intro i b' hi ho i' hi' hne
      rw [hlen] at hi'
      rcases hget i b' hi with ⟨hlt, hi⟩ | ⟨rfl, rfl⟩
      · by_cases hlt' : i' < H.length
        · rw [hj.b i hlt, hj.b i' hlt']; exact h.sep i b' hi ho i' hlt' hne
        · have : i' = H.length := by omega
          subst this; rw [hn, hj.b i hlt]; have := h.lts i hlt; omega
      · have hlt' : i' < H.length := by omega
        rw [hn, hj.b i' hlt']; have := h.lts i' hlt'; omega
    ll := h.ll
    lbr := by
      intro i b' hi
      have hk : i < ls.length := by rw [h.ll]; exact (List.getElem?_eq_some_iff.1 hi).1
      rw [alloc_old w o (h.lnew i hk).2, h.lbr i b' hi, concL_eq hj _ (h.Ll b' (List.mem_of_getElem? hi))]
    lnew := fun k hk => ⟨(h.lnew k hk).1, Nat.lt_of_lt_of_le (h.lnew k hk).2 (by simp)⟩
    lnd := h.lnd
    lsep := by
      intro k hk i hi
      rw [hlen] at hi
      by_cases hlt : i < H.length
      · rw [hj.b i hlt]; exact h.lsep k hk i hlt
      · have : i = H.length := by omega
        subst this; rw [hn]; have := (h.lnew k hk).2; omega
    tml := fun x hx => SV.ok_le (by omega) (Nat.le_refl _) (h.tml x hx)
    Ll := fun b' hb' => V.ltL_le (by omega) _ (h.Ll b' hb')
    Hl := by
      intro b' hb'
      rcases List.mem_append.1 hb' with hb' | hb'
      · exact B.lt_le (by omega) (h.Hl b' hb')
      · rw [List.mem_singleton.1 hb']; exact B.lt_le (by omega) hb
    n0 := by have := h.n0; omega
    jold := ⟨fun i hi => by rw [hj.b i (by have := h.n0; omega)]; exact h.jold.b i hi, fun i hi => by rw [hj.o i (by have := h.n0; omega)]; exact h.jold.o i hi⟩
    jnew := by
      intro i hi hi'
      rw [hlen] at hi'
      by_cases hlt : i < H.length
      · rw [hj.b i hlt]; exact h.jnew i hi hlt
      · have : i = H.length := by omega
        subst this; rw [hn]; exact h.size
    frame := fun b' hb' hf => (alloc_old w o (by have := h.size; omega)).trans (h.frame b' hb' hf)
    kd := by
      intro i b' hi
      obtain ⟨b'', h1, h2⟩ := h.kd i b' hi
      exact ⟨b'', by rw [List.getElem?_append_left (List.getElem?_eq_some_iff.1 h1).1]; exact h1, h2⟩
    esc := by
      intro he i b0 b1 m h0 h1 hm
      have hlt : i < H.length := by have := (List.getElem?_eq_some_iff.1 h0).1; have := h.n0; omega
      rw [List.getElem?_append_left hlt] at h1
      exact h.esc he i b0 b1 m h0 h1 hm
    grow := fun hg => by cases hg
    glob := fun i hi => by
      have : i < H.length := by have := h.gl; omega
      rw [hj.b i this, hj.o i this]; exact h.glob i hi
    gl := by have := h.gl; omega }

/-- A new variable of this call. -/
theorem Inv.pushL (h : Inv G c j ls tm L H e g w) {ty : TypeId} {cs : List V} (hb : V.ltL H.length cs = true) :
    Inv G c j (ls ++ [w.heap.size]) tm (L ++ [⟨ty, cs⟩]) H e g (w.alloc (.cells (concL j cs).toArray ty)) := by
  have hll : (ls ++ [w.heap.size]).length = (L ++ [(⟨ty, cs⟩ : LB)]).length := by simp [h.ll]
  have hold : ∀ k, k < ls.length → (ls ++ [w.heap.size]).getD k 0 = ls.getD k 0 := by
    intro k hk
    rw [List.getD_eq_getElem?_getD, List.getD_eq_getElem?_getD, List.getElem?_append_left hk]
  have hnew : (ls ++ [w.heap.size]).getD ls.length 0 = w.heap.size := by
    rw [List.getD_eq_getElem?_getD, List.getElem?_append_right (Nat.le_refl _)]; simp
  exact {
    os := h.os
    tape := h.tape
    output := h.output
    size := by simp; have := h.size; omega
    lts := fun i hi => by have := h.lts i hi; simp; omega
    br := fun i b' hi => by
      have hlt := (List.getElem?_eq_some_iff.1 hi).1
      exact (h.br i b' hi).same (J.Eq.refl H.length j) hlt (h.Hl b' (List.mem_of_getElem? hi)) (alloc_old w _ (h.lts i hlt))
    sep := h.sep
    ll := hll
    lbr := by
      intro i b' hi
      by_cases hlt : i < L.length
      · rw [List.getElem?_append_left hlt] at hi
        have hk : i < ls.length := by rw [h.ll]; exact hlt
        rw [hold i hk, alloc_old w _ (h.lnew i hk).2]
        exact h.lbr i b' hi
      · rw [List.getElem?_append_right (by omega)] at hi
        have hi0 : i - L.length = 0 := by
          have := (List.getElem?_eq_some_iff.1 hi).1
          simp at this; omega
        rw [hi0] at hi
        simp at hi
        subst hi
        have : i = ls.length := by rw [h.ll]; omega
        subst this
        rw [hnew]
        exact alloc_new w _
    lnew := by
      intro k hk
      simp only [List.length_append, List.length_cons, List.length_nil] at hk
      by_cases hlt : k < ls.length
      · rw [hold k hlt]; exact ⟨(h.lnew k hlt).1, Nat.lt_of_lt_of_le (h.lnew k hlt).2 (by simp)⟩
      · have : k = ls.length := by omega
        subst this; rw [hnew]; exact ⟨h.size, by simp⟩
    lnd := by
      intro k k' hk hk' hne
      simp only [List.length_append, List.length_cons, List.length_nil] at hk hk'
      by_cases hlt : k < ls.length
      · by_cases hlt' : k' < ls.length
        · rw [hold k hlt, hold k' hlt']; exact h.lnd k k' hlt hlt' hne
        · have : k' = ls.length := by omega
          subst this; rw [hnew, hold k hlt]; have := (h.lnew k hlt).2; omega
      · have : k = ls.length := by omega
        subst this
        have hlt' : k' < ls.length := by omega
        rw [hnew, hold k' hlt']; have := (h.lnew k' hlt').2; omega
    lsep := by
      intro k hk i hi
      simp only [List.length_append, List.length_cons, List.length_nil] at hk
      by_cases hlt : k < ls.length
      · rw [hold k hlt]; exact h.lsep k hlt i hi
      · have : k = ls.length := by omega
        subst this; rw [hnew]; have := h.lts i hi; omega
    tml := fun x hx => SV.ok_le (Nat.le_refl _) (by simp) (h.tml x hx)
    Ll := by
      intro b' hb'
      rcases List.mem_append.1 hb' with hb' | hb'
      · exact h.Ll b' hb'
      · rw [List.mem_singleton.1 hb']; exact hb
    Hl := h.Hl
    n0 := h.n0
    jold := h.jold
    jnew := h.jnew
    frame := fun b' hb' hf => (alloc_old w _ (by have := h.size; omega)).trans (h.frame b' hb' hf)
    kd := h.kd
    esc := h.esc
    grow := h.grow
    glob := h.glob
    gl := h.gl }

/-- A block of the memory is written: it stays of its kind. -/
theorem Inv.set (h : Inv G c j ls tm L H e g w) {i : Nat} {b b' : B} (hi : H[i]? = some b) (ho : b.own = true) (hk : knd b b') (hb : b'.lt H.length = true) {w' : World}
    (hos : w'.os = w.os) (htape : w'.tape = w.tape) (hout : w'.output = w.output) (hsz : w'.heap.size = w.heap.size)
    (hoth : ∀ k, k ≠ j.b i → w'.heap[k]? = w.heap[k]?) (hbr : BR j w' i b') {e' : Bool} (he : e' = false → e = false ∧ ∀ m, b.lt m = true → b'.lt m = true) :
    Inv G c j ls tm L (H.set i b') e' g w' := by
  have hlt := (List.getElem?_eq_some_iff.1 hi).1
  have hlen : (H.set i b').length = H.length := by simp
  have hget : ∀ (k : Nat) b'', (H.set i b')[k]? = some b'' → (k = i ∧ b'' = b') ∨ (k ≠ i ∧ H[k]? = some b'') := by
    intro k b'' hk'
    rw [List.getElem?_set] at hk'
    by_cases hki : i = k
    · rw [if_pos hki, if_pos (by omega)] at hk'
      simp only [Option.some.injEq] at hk'
      exact .inl ⟨hki.symm, hk'.symm⟩
    · rw [if_neg hki] at hk'
      exact .inr ⟨fun e => hki e.symm, hk'⟩
  have hsepi : ∀ k, k < H.length → k ≠ i → j.b k ≠ j.b i := fun k hk' hne => h.sep i b hi ho k hk' hne
  exact {
    os := hos.trans h.os
    tape := htape.trans h.tape
    output := hout.trans h.output
    size := by rw [hsz]; exact h.size
    lts := fun k hk' => by rw [hlen] at hk'; rw [hsz]; exact h.lts k hk'
    br := by
      intro k b'' hk'
      rcases hget k b'' hk' with ⟨rfl, rfl⟩ | ⟨hne, hk'⟩
      · exact hbr
      · have hlt' := (List.getElem?_eq_some_iff.1 hk').1
        exact (h.br k b'' hk').same (J.Eq.refl H.length j) hlt' (h.Hl b'' (List.mem_of_getElem? hk')) (hoth _ (hsepi k hlt' hne))
    sep := by
      intro k b'' hk' ho' k' hk2 hne
      rw [hlen] at hk2
      rcases hget k b'' hk' with ⟨rfl, rfl⟩ | ⟨_, hk'⟩
      · exact hsepi k' hk2 hne
      · exact h.sep k b'' hk' ho' k' hk2 hne
    ll := h.ll
    lbr := by
      intro k b'' hk'
      have hkl : k < ls.length := by rw [h.ll]; exact (List.getElem?_eq_some_iff.1 hk').1
      rw [hoth _ (fun e => h.lsep k hkl i hlt e.symm)]
      exact h.lbr k b'' hk'
    lnew := fun k hk' => ⟨(h.lnew k hk').1, by rw [hsz]; exact (h.lnew k hk').2⟩
    lnd := h.lnd
    lsep := fun k hk' i' hi' => by rw [hlen] at hi'; exact h.lsep k hk' i' hi'
    tml := fun x hx => by rw [hlen]; exact h.tml x hx
    Ll := fun b'' hb' => by rw [hlen]; exact h.Ll b'' hb'
    Hl := by
      intro b'' hb''
      rw [hlen]
      rcases List.mem_or_eq_of_mem_set hb'' with hb'' | rfl
      · exact h.Hl b'' hb''
      · exact hb
    n0 := by rw [hlen]; exact h.n0
    jold := h.jold
    jnew := fun k hk' hk2 => by rw [hlen] at hk2; exact h.jnew k hk' hk2
    frame := by
      intro k hk' hf
      by_cases hin : i < c.H.length
      · obtain ⟨b0, hb0⟩ : ∃ b0, c.H[i]? = some b0 := ⟨_, List.getElem?_eq_getElem hin⟩
        obtain ⟨b1, hb1, hkn⟩ := h.kd i b0 hb0
        rw [hi] at hb1; injection hb1 with hb1; subst hb1
        have : c.j.b i ≠ k := hf i b0 hb0 (by rw [← hkn.own]; exact ho)
        rw [hoth k (by rw [h.jold.b i hin]; exact fun e => this e.symm)]
        exact h.frame k hk' hf
      · have := h.jnew i (by omega) hlt
        rw [hoth k (by omega)]
        exact h.frame k hk' hf
    kd := by
      intro k b0 hb0
      obtain ⟨b1, hb1, hkn⟩ := h.kd k b0 hb0
      by_cases hki : k = i
      · subst hki
        rw [hi] at hb1; injection hb1 with hb1; subst hb1
        exact ⟨b', by rw [List.getElem?_set]; simp [hlt], hkn.trans hk⟩
      · exact ⟨b1, by rw [List.getElem?_set, if_neg (fun e => hki e.symm)]; exact hb1, hkn⟩
    esc := by
      intro he' k b0 b1 m hb0 hb1 hm
      obtain ⟨h1, h2⟩ := he he'
      rcases hget k b1 hb1 with ⟨rfl, rfl⟩ | ⟨_, hb1⟩
      · exact h2 m (h.esc h1 k b0 b m hb0 hi hm)
      · exact h.esc h1 k b0 b1 m hb0 hb1 hm
    grow := fun hg => by rw [hlen]; exact h.grow hg
    glob := h.glob
    gl := by rw [hlen]; exact h.gl }

/-- A variable of this call is written. -/
theorem Inv.setL (h : Inv G c j ls tm L H e g w) {i : Nat} {b : LB} (hi : L[i]? = some b) {cs : List V} (hb : V.ltL H.length cs = true) :
    Inv G c j ls tm (L.set i ⟨b.ty, cs⟩) H e g (w.setRow (ls.getD i 0) (concL j cs).toArray) := by
  have hlt := (List.getElem?_eq_some_iff.1 hi).1
  have hil : i < ls.length := by rw [h.ll]; exact hlt
  have hlen : (L.set i (⟨b.ty, cs⟩ : LB)).length = L.length := by simp
  have hoth : ∀ k, k ≠ ls.getD i 0 → (w.setRow (ls.getD i 0) (concL j cs).toArray).heap[k]? = w.heap[k]? := fun k hk => setRow_other w _ k _ hk
  exact {
    os := h.os
    tape := h.tape
    output := h.output
    size := by simp; exact h.size
    lts := fun k hk => by simp; exact h.lts k hk
    br := by
      intro k b' hk
      have hlt' := (List.getElem?_eq_some_iff.1 hk).1
      exact (h.br k b' hk).same (J.Eq.refl H.length j) hlt' (h.Hl b' (List.mem_of_getElem? hk)) (hoth _ (h.lsep i hil k hlt'))
    sep := h.sep
    ll := by rw [hlen]; exact h.ll
    lbr := by
      intro k b' hk
      rw [List.getElem?_set] at hk
      by_cases hki : i = k
      · subst hki
        rw [if_pos rfl, if_pos hlt] at hk
        simp only [Option.some.injEq] at hk
        subst hk
        exact setRow_heap w _ _ _ _ _ (h.lbr i b hi)
      · rw [if_neg hki] at hk
        have hkl : k < ls.length := by rw [h.ll]; exact (List.getElem?_eq_some_iff.1 hk).1
        rw [hoth _ (h.lnd k i hkl hil (fun e => hki e.symm))]
        exact h.lbr k b' hk
    lnew := fun k hk => ⟨(h.lnew k hk).1, Nat.lt_of_lt_of_le (h.lnew k hk).2 (by simp)⟩
    lnd := h.lnd
    lsep := h.lsep
    tml := fun x hx => by rw [hlen]; exact h.tml x hx
    Ll := by
      intro b' hb'
      rcases List.mem_or_eq_of_mem_set hb' with hb' | rfl
      · exact h.Ll b' hb'
      · exact hb
    Hl := h.Hl
    n0 := h.n0
    jold := h.jold
    jnew := h.jnew
    frame := fun k hk hf => (hoth k (by have := (h.lnew i hil).1; omega)).trans (h.frame k hk hf)
    kd := h.kd
    esc := h.esc
    grow := h.grow
    glob := h.glob
    gl := h.gl }

/-- What hangs on the blocks alone. -/
theorem Inv.heapEq (h : Inv G c j ls tm L H e g w) {w' : World} (hh : w'.heap = w.heap) (hos : w'.os = w.os) (htape : w'.tape = w.tape) (hout : w'.output = w.output) :
    Inv G c j ls tm L H e g w' := by
  exact { h with
    os := hos.trans h.os, tape := htape.trans h.tape, output := hout.trans h.output
    size := by rw [hh]; exact h.size
    lts := fun k hk => by rw [hh]; exact h.lts k hk
    br := fun k b' hk => (h.br k b' hk).same (J.Eq.refl H.length j) (List.getElem?_eq_some_iff.1 hk).1 (h.Hl b' (List.mem_of_getElem? hk)) (by rw [hh])
    lbr := fun k b' hk => by rw [hh]; exact h.lbr k b' hk
    lnew := fun k hk => ⟨(h.lnew k hk).1, by rw [hh]; exact (h.lnew k hk).2⟩
    frame := fun k hk hf => by rw [hh]; exact h.frame k hk hf }

theorem Inv.drew (h : Inv G c j ls tm L H e g w) : Inv G c j ls tm L H e g w.drew := h.heapEq rfl rfl rfl rfl

end
end Go.Ev
