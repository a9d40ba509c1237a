/- Ev: the operations on memory: what the machine does. -/
import Derived.Test.YtmdkhaoppklokaaDoorEvI
namespace Go.Ev
open Go.RowKit

section
variable {P : Program} {w : World}

theorem r_load {t : TypeId} {ag : Bool} {n : Nat} {a : Addr} {j : J} {cs : List V} {v : V} (hag : tagg P t = some ag) (hn : tsz P t = some n) (hu : unV ag cs = some v)
    (hl : cs.length = n) (hc : ∀ (x : Nat) u, cs[x]? = some u → w.cell? (a.add x) = some (conc j u)) : (loadVar t a).run P w = .ok (conc j v) w := by
  simp only [loadVar, Sem.run_bind, r_agg hag, Result.andThen]
  cases ag with
  | true =>
    simp only [unV, Option.some.injEq] at hu
    subst hu
    simp only [if_true, Sem.run_bind, r_size hn, Result.andThen]
    have := run_loadCells_list (P := P) w a (concL j cs) (by
      intro x u hx
      simp only [concL_map, List.getElem?_map] at hx
      cases hq : cs[x]? with
      | none => rw [hq] at hx; cases hx
      | some q => rw [hq] at hx; simp only [Option.map_some, Option.some.injEq] at hx; subst hx; exact hc x q hq)
    rw [concL_length, hl] at this
    rw [this]
    rfl
  | false =>
    have hcs : cs = [v] := by
      unfold unV at hu
      split at hu
      · cases ‹false = true›
      · injection hu with hu; subst hu; rfl
      · cases hu
    subst hcs
    simp only [Bool.false_eq_true, if_false]
    have h0 := hc 0 v rfl
    rw [show a.add 0 = a from by simp [Addr.add]] at h0
    rw [run_load, h0]

theorem r_store {t : TypeId} {n : Nat} {b o : Nat} {j : J} {cs : List V} {v : V} {ty : TypeId} (hn : tsz P t = some n) (hl : v.cells.length = n) (ho : v.cells.all V.one = true)
    (hb : w.heap[b]? = some (.cells (concL j cs).toArray ty)) (hle : o + n ≤ cs.length) :
    (storeVar t ⟨b, o, none⟩ (conc j v)).run P w = .ok () (w.setRow b (concL j (splice cs o v.cells)).toArray) := by
  simp only [storeVar, Sem.run_bind, r_size hn, Result.andThen]
  rw [if_neg (by rw [conc_cells]; simp [hl])]
  rw [conc_cells]
  have h1 : ∀ u, u ∈ concL j v.cells → u.oneCell' = true := by
    intro u hu
    rw [concL_map] at hu
    obtain ⟨x, hx, rfl⟩ := List.mem_map.1 hu
    exact one_cell j (List.all_eq_true.1 ho x hx)
  have := run_storeCells_at P b o ty (concL j v.cells) 0 (concL j cs).toArray w hb (by simp; omega) h1
  simp only [Nat.add_zero] at this
  rw [show (concL j v.cells).toArray.toList = concL j v.cells from rfl, this, concL_splice, concL_length]

theorem made_reps (zl : List Value) (c : Nat) : (List.range (c * zl.length)).map (fun x => zl.toArray[x % zl.length]!) = (List.replicate c zl).flatten := by
  induction c with
  | zero => simp
  | succ c ih =>
    rw [Nat.succ_mul, List.range_add, List.map_append, ih, List.replicate_succ', List.flatten_append]
    congr 1
    simp only [List.map_map, List.flatten_cons, List.flatten_nil, List.append_nil]
    apply List.ext_getElem
    · simp
    · intro i h1 h2
      simp only [List.length_map, List.length_range] at h1
      simp [Nat.mod_eq_of_lt h1, h1]

theorem madeCells_eq {z : Array Value} {zs : List V} {j : J} (hz : z = (concL j zs).toArray) (c : Nat) : madeCells z (c * zs.length) = (concL j (reps c zs)).toArray := by
  subst hz
  apply Array.toList_inj.mp
  have := made_reps (concL j zs) c
  simp only [concL_length] at this
  simp only [madeCells, Array.toList_map, Array.toList_range, List.size_toArray, concL_length]
  rw [this]
  simp [concL_map, reps, List.map_flatten]

theorem zeroCells_eq {z : Array Value} {zs : List V} {j : J} (hz : z = (concL j zs).toArray) (c : Nat) : Builtin.zeroCells z c = (concL j (reps c zs)).toArray := by
  have := madeCells_eq hz c
  subst hz
  rw [← this]
  simp [Builtin.zeroCells, madeCells]

theorem reps_lt {n c : Nat} {zs : List V} (h : V.ltL n zs = true) : V.ltL n (reps c zs) = true := by
  rw [ltL_iff] at h ⊢
  intro v hv
  simp only [reps, List.mem_flatten, List.mem_replicate] at hv
  obtain ⟨l, ⟨_, rfl⟩, hv⟩ := hv
  exact h v hv

end

section
variable {P : Program} {G : Nat} {hp : Nat → Bool} {c : Cx} {j : J} {ls : List Nat} {tm : List SV} {L : List LB} {H : List B} {e g : Bool} {w : World}

/-- What an operation on memory comes to. -/
def MemOk (P : Program) (G : Nat) (c : Cx) (j : J) (ls : List Nat) (tm : List SV) (L : List LB) (H : List B) (ρ : Operand → Value) (o : Oper) (w : World) (v : SV) (L' : List LB) (H' : List B) (e' g' : Bool) : Prop :=
  ∃ w' j' ls' nx, (execOp ρ o).run P w = .ok nx w' ∧ (nx = .value (concS j' ls' v) ∨ (nx = .skip ∧ v = undefV)) ∧ Inv G c j' ls' tm L' H' e' g' w' ∧
    v.ok H'.length L'.length = true ∧ J.Eq H.length j j' ∧ (∀ i, i < L.length → ls'.getD i 0 = ls.getD i 0)

theorem zero_one {P : Program} {t : TypeId} {zs : List V} (h : tzero P t = some zs) (n : Nat) : zs.all V.one = true ∧ V.ltL n zs = true := by
  obtain ⟨i, z, hi, hz1, hz2, hz3⟩ := tzero_some h
  refine ⟨?_, (toVs_ok hz2 ⟨id, id⟩ n).2⟩
  clear hi hz1 hz3 h
  generalize z.cells.toList = l at hz2
  induction l generalizing zs with
  | nil => simp only [toVs] at hz2; injection hz2 with hz2; subst hz2; rfl
  | cons v l ih =>
    simp only [toVs] at hz2
    split at hz2
    · rename_i x y hx hy
      injection hz2 with hz2; subst hz2
      simp only [List.all_cons, ih hy, Bool.and_true]
      unfold toV at hx
      split at hx <;> first | (cases hx; done) | (injection hx with hx; subst hx; rfl)
    · cases hz2

theorem rw_br {j : J} {n k : Nat} {w : World} {ty : TypeId} {cs : List V} (hc : V.ltL n cs = true) (hk : k = w.heap.size) :
    BR (j.push n k) (w.alloc (.cells (concL j cs).toArray ty)) n (.rw ty cs) := by
  refine ⟨by simp [J.push], ?_⟩
  have : (j.push n k).b n = k := by simp [J.push]
  rw [this, hk, alloc_new, concL_eq (j.push_eq n _) cs hc]

/-- a new block of cells, by whatever operation -/
theorem new_ok (h : Inv G c j ls tm L H e g w) {ty : TypeId} {cs : List V} (hc : V.ltL H.length cs = true) :
    Inv G c (j.push H.length w.heap.size) ls tm L (H ++ [.rw ty cs]) e true (w.alloc (.cells (concL j cs).toArray ty)) :=
  h.push (b := .rw ty cs) hc _ (rw_br hc rfl)

theorem conc_new (j : J) (n k : Nat) : conc (j.push n k) (.ptr (some (n, 0))) = .pointer (some ⟨k, 0, none⟩) := by
  simp [conc, J.at, J.push]

theorem conc_newS (j : J) (n k l cp : Nat) : conc (j.push n k) (.sl (some (n, 0)) l cp) = .slice (some ⟨k, 0, none⟩) l cp := by
  simp [conc, J.at, J.push]

theorem conc_newM (j : J) (n k : Nat) : conc (j.push n k) (.mp (some n)) = .map (some k) := by
  simp [conc, J.push]

theorem getD_new (h : Inv G c j ls tm L H e g w) (k : Nat) : (ls ++ [k]).getD L.length 0 = k := by
  rw [← h.ll, List.getD_eq_getElem?_getD, List.getElem?_append_right (Nat.le_refl _)]; simp

theorem getD_old (h : Inv G c j ls tm L H e g w) (k : Nat) : ∀ i, i < L.length → (ls ++ [k]).getD i 0 = ls.getD i 0 := by
  intro i hi
  rw [List.getD_eq_getElem?_getD, List.getD_eq_getElem?_getD, List.getElem?_append_left (by rw [h.ll]; exact hi)]

theorem alloc_ok (h : Inv G c j ls tm L H e g w) {ρ : Operand → Value} {o : Oper} {t : TypeId} {zs : List V} (ho : o.op = .alloc t) (hz : tzero P t = some zs) (loc : Bool)
    {v L' H' e' g'} (hv : memOp tm L H e g (.alloc loc t zs) = some (v, L', H', e', g')) : MemOk P G c j ls tm L H ρ o w v L' H' e' g' := by
  obtain ⟨i, z, hi, hz1, hz2, hz3⟩ := tzero_some hz
  have hzc : z.cells = (concL j zs).toArray := by rw [(toVs_ok hz2 j 0).1]
  have hlt := (zero_one hz H.length).2
  have hrun : (execOp ρ o).run P w = .ok (.value (.pointer (some ⟨w.heap.size, 0, none⟩))) (w.alloc (.cells (concL j zs).toArray t)) := by
    obtain ⟨dst, oo, ty, pos, after, guard⟩ := o
    simp only at ho; subst ho
    simp only [execOp, Instr.alloc, Sem.run_bind, r_zero hi hz1, Result.andThen]
    rw [← hzc]
    rfl
  cases loc with
  | true =>
    simp only [memOp, Option.some.injEq, Prod.mk.injEq] at hv
    obtain ⟨rfl, rfl, rfl, rfl, rfl⟩ := hv
    refine ⟨_, j, ls ++ [w.heap.size], _, hrun, .inl ?_, h.pushL hlt, by simp [SV.ok], J.Eq.refl _ _, getD_old h _⟩
    simp only [concS, getD_new h]
  | false =>
    simp only [memOp, Option.some.injEq, Prod.mk.injEq] at hv
    obtain ⟨rfl, rfl, rfl, rfl, rfl⟩ := hv
    refine ⟨_, _, ls, _, hrun, .inl ?_, new_ok h hlt, by simp [SV.ok, V.lt], j.push_eq _ _, fun _ _ => rfl⟩
    simp only [concS, conc_new]

theorem cells_lt {n : Nat} {v : V} (h : v.lt n = true) : V.ltL n v.cells = true := by
  cases v with
  | agg cs => exact h
  | _ => simpa [V.cells, V.ltL] using h

theorem box_ok (h : Inv G c j ls tm L H e g w) {a : Act} (ha : a.tmps = (tm.map (concS j ls)).toArray) {o : Oper} {t : TypeId} {x : Operand} {x' : Opd} (ho : o.op = .box t x) (hx : cOpd G x = some x') (loc : Bool)
    {v L' H' e' g'} (hv : memOp tm L H e g (.box loc t x') = some (v, L', H', e', g')) : MemOk P G c j ls tm L H a.eval o w v L' H' e' g' := by
  have key : ∀ u, x'.val tm = some u → (execOp a.eval o).run P w = .ok (.value (.pointer (some ⟨w.heap.size, 0, none⟩))) (w.alloc (.cells (concL j u.cells).toArray t)) ∧ V.ltL H.length u.cells = true := by
    intro u hu
    obtain ⟨e1, e2⟩ := val_ok (h.ops ha) hx hu
    refine ⟨?_, cells_lt e2⟩
    obtain ⟨dst, oo, ty, pos, after, guard⟩ := o
    simp only at ho; subst ho
    simp only [execOp, e1]
    rw [← conc_cells]
    rfl
  cases loc with
  | true =>
    simp only [memOp] at hv
    split at hv
    · rename_i u hu
      split at hv
      · obtain ⟨hrun, hlt⟩ := key u hu
        simp only [Option.some.injEq, Prod.mk.injEq] at hv
        obtain ⟨rfl, rfl, rfl, rfl, rfl⟩ := hv
        refine ⟨_, j, ls ++ [w.heap.size], _, hrun, .inl ?_, h.pushL hlt, by simp [SV.ok], J.Eq.refl _ _, getD_old h _⟩
        simp only [concS, getD_new h]
      · cases hv
    · cases hv
  | false =>
    simp only [memOp] at hv
    split at hv
    · rename_i u hu
      split at hv
      · obtain ⟨hrun, hlt⟩ := key u hu
        simp only [Option.some.injEq, Prod.mk.injEq] at hv
        obtain ⟨rfl, rfl, rfl, rfl, rfl⟩ := hv
        refine ⟨_, _, ls, _, hrun, .inl ?_, new_ok h hlt, by simp [SV.ok, V.lt], j.push_eq _ _, fun _ _ => rfl⟩
        simp only [concS, conc_new]
      · cases hv
    · cases hv

theorem rd_some {H : List B} {i x n : Nat} {cs : List V} (h : rd H i x n = some cs) : ∃ b, H[i]? = some b ∧ x + n ≤ b.cells.length ∧ cs = (b.cells.drop x).take n := by
  unfold rd at h
  split at h
  · rename_i b hb; obtain ⟨h1, h2⟩ := cut_some h; exact ⟨b, hb, h1, h2⟩
  · cases h

theorem rd_cell (h : Inv G c j ls tm L H e g w) {i x n : Nat} {cs : List V} (hr : rd H i x n = some cs) :
    cs.length = n ∧ V.ltL H.length cs = true ∧ ∀ (k : Nat) u, cs[k]? = some u → w.cell? ((j.at i x).add k) = some (conc j u) := by
  obtain ⟨b, hb, hle, rfl⟩ := rd_some hr
  have hbl := h.Hl b (List.mem_of_getElem? hb)
  have hbr := h.br i b hb
  have hcells : V.ltL H.length b.cells = true := by
    cases b with
    | ro cs => exact hbl
    | rw ty cs => exact hbl
    | mp es => rfl
  refine ⟨by simp; omega, ?_, ?_⟩
  · rw [ltL_iff] at hcells ⊢
    exact fun v hv => hcells v (List.mem_of_mem_drop (List.mem_of_mem_take hv))
  · intro k u hk
    rw [List.getElem?_take] at hk
    split at hk
    · rw [List.getElem?_drop] at hk
      rw [at_add]
      cases b with
      | ro cs => exact hbr (x + k) u hk
      | rw ty cs =>
        obtain ⟨h0, h1⟩ := hbr
        unfold World.cell?
        simp only [J.at, h0, Nat.zero_add, h1]
        simp only [B.cells] at hk
        simp [concL_map, hk]
      | mp es => simp [B.cells] at hk
    · cases hk

theorem local_cell (h : Inv G c j ls tm L H e g w) {i x n : Nat} {b : LB} {cs : List V} (hb : L[i]? = some b) (hr : cut b.cs x n = some cs) :
    cs.length = n ∧ V.ltL H.length cs = true ∧ ∀ (k : Nat) u, cs[k]? = some u → w.cell? ((⟨ls.getD i 0, x, none⟩ : Addr).add k) = some (conc j u) := by
  obtain ⟨hle, rfl⟩ := cut_some hr
  have hbl := h.Ll b (List.mem_of_getElem? hb)
  have hbr := h.lbr i b hb
  refine ⟨by simp; omega, ?_, ?_⟩
  · rw [ltL_iff] at hbl ⊢
    exact fun v hv => hbl v (List.mem_of_mem_drop (List.mem_of_mem_take hv))
  · intro k u hk
    rw [List.getElem?_take] at hk
    split at hk
    · rw [List.getElem?_drop] at hk
      have : (⟨ls.getD i 0, x, none⟩ : Addr).add k = ⟨ls.getD i 0, x + k, none⟩ := by
        unfold Addr.add
        split
        · rename_i h0; subst h0; rfl
        · rfl
      rw [this]
      unfold World.cell?
      simp only [hbr]
      simp [concL_map, hk]
    · cases hk

theorem load_ok (h : Inv G c j ls tm L H e g w) {a : Act} (ha : a.tmps = (tm.map (concS j ls)).toArray) {o : Oper} {t : TypeId} {x : Operand} {x' : Opd} {ag : Bool} {n : Nat} (ho : o.op = .load t x)
    (hx : cOpd G x = some x') (hag : tagg P t = some ag) (hn : tsz P t = some n)
    {v L' H' e' g'} (hv : memOp tm L H e g (.ld ag n x') = some (v, L', H', e', g')) : MemOk P G c j ls tm L H a.eval o w v L' H' e' g' := by
  obtain ⟨dst, oo, ty, pos, after, guard⟩ := o
  simp only at ho; subst ho
  obtain ⟨e1, e2⟩ := opd_ok (h.ops ha) hx
  simp only [memOp] at hv
  split at hv
  · rename_i i off he
    rw [he] at e1
    split at hv
    · rename_i cs hcs
      split at hv
      · rename_i u hu
        simp only [Option.some.injEq, Prod.mk.injEq] at hv
        obtain ⟨rfl, rfl, rfl, rfl, rfl⟩ := hv
        obtain ⟨c1, c2, c3⟩ := rd_cell h hcs
        refine ⟨w, j, ls, _, ?_, .inl rfl, h, unV_lt hu c2, J.Eq.refl _ _, fun _ _ => rfl⟩
        simp only [execOp, e1, concS, conc]
        refine run_value ?_
        simp only [Instr.loadAt, Instr.sureAddr, Sem.run_bind, Sem.run_pure, Result.andThen]
        exact r_load hag hn hu c1 c3
      · cases hv
    · cases hv
  · rename_i i off he
    rw [he] at e1
    split at hv
    · rename_i b hb
      split at hv
      · rename_i cs hcs
        split at hv
        · rename_i u hu
          simp only [Option.some.injEq, Prod.mk.injEq] at hv
          obtain ⟨rfl, rfl, rfl, rfl, rfl⟩ := hv
          obtain ⟨c1, c2, c3⟩ := local_cell h hb hcs
          refine ⟨w, j, ls, _, ?_, .inl rfl, h, unV_lt hu c2, J.Eq.refl _ _, fun _ _ => rfl⟩
          simp only [execOp, e1, concS]
          refine run_value ?_
          simp only [Instr.loadAt, Instr.sureAddr, Sem.run_bind, Sem.run_pure, Result.andThen]
          exact r_load hag hn hu c1 c3
        · cases hv
      · cases hv
    · cases hv
  · cases hv

theorem wr_some {H H' : List B} {i x : Nat} {vs : List V} (h : wr H i x vs = some H') : ∃ ty cs, H[i]? = some (.rw ty cs) ∧ x + vs.length ≤ cs.length ∧ H' = H.set i (.rw ty (splice cs x vs)) := by
  unfold wr at h
  split at h
  · rename_i ty cs hb
    split at h
    · injection h with h; exact ⟨ty, cs, hb, by assumption, h.symm⟩
    · cases h
  · cases h

/-- cells written into a block of one's own -/
theorem wr_ok (h : Inv G c j ls tm L H e g w) {H' : List B} {i x : Nat} {vs : List V} (hw : wr H i x vs = some H') (hvs : V.ltL H.length vs = true) {e' : Bool} (he : e' = false → e = false ∧ V.ltL 0 vs = true) :
    ∃ ty cs, H[i]? = some (.rw ty cs) ∧ j.o i = 0 ∧ w.heap[j.b i]? = some (.cells (concL j cs).toArray ty) ∧ x + vs.length ≤ cs.length ∧ H'.length = H.length ∧
      Inv G c j ls tm L H' e' g (w.setRow (j.b i) (concL j (splice cs x vs)).toArray) := by
  obtain ⟨ty, cs, hb, hle, rfl⟩ := wr_some hw
  obtain ⟨h0, h1⟩ := h.br i _ hb
  have hcl : V.ltL H.length cs = true := h.Hl _ (List.mem_of_getElem? hb)
  refine ⟨ty, cs, hb, h0, h1, hle, by simp, ?_⟩
  refine h.set (w' := w.setRow (j.b i) (concL j (splice cs x vs)).toArray) hb rfl ⟨_, rfl, splice_length hle⟩ (splice_lt hcl hvs) rfl rfl rfl (by simp) (fun k hk => setRow_other w _ k _ hk) ⟨h0, setRow_heap w _ _ _ _ _ h1⟩ ?_
  intro he'
  obtain ⟨a1, a2⟩ := he he'
  refine ⟨a1, fun m hm => splice_lt hm (V.ltL_le (Nat.zero_le _) _ a2)⟩

theorem store_ok (h : Inv G c j ls tm L H e g w) {a : Act} (ha : a.tmps = (tm.map (concS j ls)).toArray) {o : Oper} {t : TypeId} {x y : Operand} {x' y' : Opd} {n : Nat} (ho : o.op = .store t x y)
    (hx : cOpd G x = some x') (hy : cOpd G y = some y') (hn : tsz P t = some n)
    {v L' H' e' g'} (hv : memOp tm L H e g (.st n x' y') = some (v, L', H', e', g')) : MemOk P G c j ls tm L H a.eval o w v L' H' e' g' := by
  obtain ⟨dst, oo, ty, pos, after, guard⟩ := o
  simp only at ho; subst ho
  obtain ⟨e1, e2⟩ := opd_ok (h.ops ha) hx
  simp only [memOp] at hv
  split at hv
  · rename_i u hu
    obtain ⟨f1, f2⟩ := val_ok (h.ops ha) hy hu
    split at hv
    · rename_i hcond
      obtain ⟨hl, hone⟩ := hcond
      have hrun : ∀ (ad : Addr) (w' : World), a.eval x = .pointer (some ad) → (storeVar t ad (conc j u)).run P w = .ok () w' →
          (execOp a.eval { dst := dst, op := .store t x y, type := ty, pos := pos, after := after, guard := guard }).run P w = .ok .skip w' := by
        intro ad w' had hst
        simp only [execOp, had, f1, Instr.storeAt, Instr.sureAddr, Sem.run_bind, Sem.run_pure, Result.andThen, hst]
      split at hv
      · rename_i i off he
        rw [he] at e1
        split at hv
        · rename_i H1 hH
          simp only [Option.some.injEq, Prod.mk.injEq] at hv
          obtain ⟨rfl, rfl, rfl, rfl, rfl⟩ := hv
          obtain ⟨ty1, cs, hb, h0, h1, hle, hlen, hinv⟩ := wr_ok h hH (cells_lt f2) (e' := e || !u.plain) (by
            intro hh
            simp only [Bool.or_eq_false_iff, Bool.not_eq_false'] at hh
            exact ⟨hh.1, cells_lt hh.2⟩)
          refine ⟨_, j, ls, _, hrun (j.at i off) _ (by rw [e1]; rfl) ?_, .inr ⟨rfl, rfl⟩, hinv, rfl, J.Eq.refl _ _, fun _ _ => rfl⟩
          have : j.at i off = ⟨j.b i, off, none⟩ := by simp [J.at, h0]
          rw [this]
          exact r_store hn hl hone h1 (by omega)
        · cases hv
      · rename_i i off he
        rw [he] at e1
        split at hv
        · rename_i b hb
          split at hv
          · rename_i hle
            simp only [Option.some.injEq, Prod.mk.injEq] at hv
            obtain ⟨rfl, rfl, rfl, rfl, rfl⟩ := hv
            refine ⟨_, j, ls, _, hrun ⟨ls.getD i 0, off, none⟩ _ (by rw [e1]; rfl) (r_store hn hl hone (h.lbr i b hb) hle), .inr ⟨rfl, rfl⟩,
              h.setL hb (splice_lt (h.Ll b (List.mem_of_getElem? hb)) (cells_lt f2)), rfl, J.Eq.refl _ _, fun _ _ => rfl⟩
          · cases hv
        · cases hv
      · cases hv
    · cases hv
  · cases hv

theorem bslice_ok (h : Inv G c j ls tm L H e g w) {a : Act} (ha : a.tmps = (tm.map (concS j ls)).toArray) {o : Oper} {t el : TypeId} {len : Nat} {ps : Array (Nat × Operand)} {zs : List V} {l : List (Nat × Nat × Opd)}
    (ho : o.op = .buildSlice t len ps) (hu : P.underlying t = some (.slice el)) (hz : tzero P el = some zs) (hb : 0 < zs.length ∧ len * zs.length ≤ 16777216)
    (hps : cParts G (fun i => some (i * zs.length, zs.length)) ps.toList = some l)
    {v L' H' e' g'} (hv : memOp tm L H e g (.bslice el len (reps len zs) l) = some (v, L', H', e', g')) : MemOk P G c j ls tm L H a.eval o w v L' H' e' g' := by
  obtain ⟨dst, oo, ty, pos, after, guard⟩ := o
  simp only at ho; subst ho
  simp only [memOp] at hv
  split at hv
  · rename_i cs hf
    split at hv
    · simp only [Option.some.injEq, Prod.mk.injEq] at hv
      obtain ⟨rfl, rfl, rfl, rfl, rfl⟩ := hv
      obtain ⟨i, z, hi, hz1, hz2, hz3⟩ := tzero_some hz
      have hzc : z.cells = (concL j zs).toArray := by rw [(toVs_ok hz2 j 0).1]
      have hzl := (zero_one hz H.length).2
      obtain ⟨f1, f2, f3⟩ := fill_ok (h.ops ha) _ ps.toList l (reps len zs) cs hps hf (reps_lt hzl)
      refine ⟨_, _, ls, _, ?_, .inl rfl, new_ok h f2 (ty := el), by simp [SV.ok, V.lt], j.push_eq _ _, fun _ _ => rfl⟩
      simp only [execOp]
      refine run_value ?_
      have hs : tsz P el = some zs.length := by simp [tsz, hi, hz3]
      simp only [Instr.buildSlice, Sem.run_bind, r_underlying hu, Result.andThen, r_size hs]
      rw [if_neg (by omega)]
      have hps' : (Array.map (fun x : Nat × Operand => match x with | (i, x) => (i, a.eval x)) ps).toList = ps.toList.map (fun (i, x) => (i, a.eval x)) := by simp
      by_cases hlen : len = 0
      · subst hlen
        rw [if_pos (by simp)]
        simp only [Sem.run_bind, Sem.run_pure, Result.andThen]
        have hm : (Array.map (fun x => (#[] : Array Value)[x % (#[] : Array Value).size]!) (Array.range (0 * zs.length))) = (concL j (reps 0 zs)).toArray := by simp [reps, concL]
        rw [hm, hps', f1]
        simp only [Sem.run_bind, concS, conc_newS]
        rfl
      · rw [if_neg (by have := Nat.mul_pos (Nat.pos_of_ne_zero hlen) hb.1; omega)]
        simp only [Sem.run_bind, r_zero hi hz1, Sem.run_pure, Result.andThen]
        have hm := madeCells_eq hzc len
        simp only [madeCells] at hm
        rw [hm, hps', f1]
        simp only [Sem.run_bind, concS, conc_newS]
        rfl
    · cases hv
  · cases hv

theorem mksl_ok (h : Inv G c j ls tm L H e g w) {a : Act} (ha : a.tmps = (tm.map (concS j ls)).toArray) {o : Oper} {t el : TypeId} {x y : Operand} {x' y' : Opd} {zs : List V} {i : TypeInfo}
    (ho : o.op = .makeSlice t x y) (hu : P.underlying t = some (.slice el)) (hx : cOpd G x = some x') (hy : cOpd G y = some y') (hz : tzero P el = some zs) (hi : P.info? el = some i)
    {v L' H' e' g'} (hv : memOp tm L H e g (.mksl el zs i.bytes x' y') = some (v, L', H', e', g')) : MemOk P G c j ls tm L H a.eval o w v L' H' e' g' := by
  obtain ⟨dst, oo, ty, pos, after, guard⟩ := o
  simp only at ho; subst ho
  simp only [memOp] at hv
  split at hv
  · rename_i k1 lo k2 cp hlo hcp
    split at hv
    · rename_i hb
      simp only [Option.some.injEq, Prod.mk.injEq] at hv
      obtain ⟨rfl, rfl, rfl, rfl, rfl⟩ := hv
      obtain ⟨e1, _⟩ := val_ok (h.ops ha) hx hlo
      obtain ⟨e2, _⟩ := val_ok (h.ops ha) hy hcp
      obtain ⟨i', z, hi', hz1, hz2, hz3⟩ := tzero_some hz
      rw [hi] at hi'; injection hi' with hi'; subst hi'
      have hzc : z.cells = (concL j zs).toArray := by rw [(toVs_ok hz2 j 0).1]
      have hzl := (zero_one hz H.length).2
      refine ⟨_, _, ls, _, ?_, .inl rfl, new_ok h (reps_lt hzl (c := cp.toNat)) (ty := el), by simp [SV.ok, V.lt], j.push_eq _ _, fun _ _ => rfl⟩
      simp only [execOp, e1, e2, conc]
      refine run_value ?_
      rw [run_makeSlice w t el i z hu hi hz1 k1 k2 lo cp hb.1 hb.2.1 (by rw [← hz3]; exact hb.2.2.1) hb.2.2.2.1 hb.2.2.2.2]
      rw [← hz3, madeCells_eq hzc]
      simp only [concS, conc_newS]
    · cases hv
  · cases hv

theorem mkmap_ok (h : Inv G c j ls tm L H e g w) {ρ : Operand → Value} {o : Oper} {t : TypeId} (ho : o.op = .makeMap t none)
    {v L' H' e' g'} (hv : memOp tm L H e g .mkmap = some (v, L', H', e', g')) : MemOk P G c j ls tm L H ρ o w v L' H' e' g' := by
  obtain ⟨dst, oo, ty, pos, after, guard⟩ := o
  simp only at ho; subst ho
  simp only [memOp, Option.some.injEq, Prod.mk.injEq] at hv
  obtain ⟨rfl, rfl, rfl, rfl, rfl⟩ := hv
  refine ⟨_, _, ls, _, ?_, .inl rfl, h.push (b := .mp []) rfl (.map #[] 0) ?_, by simp [SV.ok, V.lt], j.push_eq _ _, fun _ _ => rfl⟩
  · simp only [execOp, Option.map_none]
    refine run_value ?_
    rw [run_makeMap]
    simp only [concS, conc_newM]
  · show (w.alloc _).heap[(j.push H.length w.heap.size).b H.length]? = _
    have : (j.push H.length w.heap.size).b H.length = w.heap.size := by simp [J.push]
    rw [this, alloc_new]
    rfl

theorem clr_ok (h : Inv G c j ls tm L H e g w) {a : Act} (ha : a.tmps = (tm.map (concS j ls)).toArray) {dst ty pos after guard} {t el : TypeId} {x : Operand} {x' : Opd} {zs : List V}
    (hu : P.underlying t = some (.slice el)) (hx : cOpd G x = some x') (hz : tzero P el = some zs)
    {v L' H' e' g'} (hv : memOp tm L H e g (.clr zs x') = some (v, L', H', e', g')) :
    MemOk P G c j ls tm L H a.eval { dst := dst, op := .call { callee := .builtin .clear, args := #[x], argTypes := #[t] }, type := ty, pos := pos, after := after, guard := guard } w v L' H' e' g' := by
  obtain ⟨i, z, hi, hz1, hz2, hz3⟩ := tzero_some hz
  have hzc : z.cells = (concL j zs).toArray := by rw [(toVs_ok hz2 j 0).1]
  have hz0 := (zero_one hz 0).2
  have hzo := (zero_one hz 0).1
  simp only [memOp] at hv
  split at hv
  · rename_i l cp hs
    obtain ⟨e1, _⟩ := val_ok (h.ops ha) hx hs
    simp only [Option.some.injEq, Prod.mk.injEq] at hv
    obtain ⟨rfl, rfl, rfl, rfl, rfl⟩ := hv
    refine ⟨w, j, ls, _, ?_, .inl rfl, h, rfl, J.Eq.refl _ _, fun _ _ => rfl⟩
    refine run_builtin ?_
    simp only [List.map_toArray, List.map_cons, List.map_nil, e1, conc]
    refine run_value ?_
    simp [Builtin.clear_, r_underlying hu, concS, conc, concL]
  · rename_i b off n cp hs
    obtain ⟨e1, _⟩ := val_ok (h.ops ha) hx hs
    split at hv
    · rename_i H1 hH
      simp only [Option.some.injEq, Prod.mk.injEq] at hv
      obtain ⟨rfl, rfl, rfl, rfl, rfl⟩ := hv
      obtain ⟨ty1, cs, hb, h0, h1, hle, hlen, hinv⟩ := wr_ok h hH (V.ltL_le (Nat.zero_le _) _ (reps_lt hz0)) (e' := e) (fun he => ⟨he, reps_lt hz0⟩)
      refine ⟨_, j, ls, _, ?_, .inl rfl, hinv, rfl, J.Eq.refl _ _, fun _ _ => rfl⟩
      refine run_builtin ?_
      simp only [List.map_toArray, List.map_cons, List.map_nil, e1, conc]
      refine run_value ?_
      have hone : ∀ u, u ∈ concL j (reps n zs) → u.oneCell' = true := by
        intro u hu
        rw [concL_map] at hu
        obtain ⟨q, hq, rfl⟩ := List.mem_map.1 hu
        refine one_cell j ?_
        simp only [reps, List.mem_flatten, List.mem_replicate] at hq
        obtain ⟨l, ⟨_, rfl⟩, hq⟩ := hq
        exact List.all_eq_true.1 hzo q hq
      have hsc := run_storeCells_at P (j.b b) off ty1 (concL j (reps n zs)) 0 (concL j cs).toArray w h1 (by simpa using hle) hone
      simp only [Nat.add_zero] at hsc
      have had : j.at b off = ⟨j.b b, off, none⟩ := by simp [J.at, h0]
      cases n with
      | zero =>
        have hself : w.setRow (j.b b) (concL j (splice cs off (reps 0 zs))).toArray = w := by
          have : splice cs off (reps 0 zs) = cs := by simp [splice, reps]
          rw [this]
          exact setRow_self w _ _ _ _ h1
        rw [hself, had]
        simp [Builtin.clear_, r_underlying hu, concS, conc, concL]
      | succ n =>
        rw [had]
        have : (Builtin.clear_ #[t] ty #[Value.slice (some ⟨j.b b, off, none⟩) (n + 1) cp]).run P w = (do let z ← zeroValue el; storeCells ⟨j.b b, off, none⟩ (Builtin.zeroCells z.cells (n + 1)).toList; pure (Value.tuple #[]) : Sem Value).run P w := by
          simp [Builtin.clear_, r_underlying hu]
        rw [this]
        simp only [Sem.run_bind, r_zero hi hz1, Result.andThen]
        rw [zeroCells_eq hzc]
        rw [show (concL j (reps (n + 1) zs)).toArray.toList = concL j (reps (n + 1) zs) from rfl, hsc]
        rw [concL_splice, concL_length]
        rfl
    · cases hv
  · cases hv

theorem firstCells_ok {esz n : Nat} {ad : Addr} {j : J} {cs : List V} {l cp : Nat} (hl : cs.length = n * esz) (hc : ∀ (k : Nat) u, cs[k]? = some u → w.cell? (ad.add k) = some (conc j u)) :
    (Builtin.firstCells esz n (.slice (some ad) l cp)).run P w = .ok (concL j cs).toArray w := by
  have := run_loadCells_list (P := P) w ad (concL j cs) (by
    intro x u hx
    simp only [concL_map, List.getElem?_map] at hx
    cases hq : cs[x]? with
    | none => rw [hq] at hx; cases hx
    | some q => rw [hq] at hx; simp only [Option.map_some, Option.some.injEq] at hx; subst hx; exact hc x q hq)
  rw [concL_length, hl] at this
  exact this

theorem concL_one {j : J} {cs : List V} (h : cs.all V.one = true) : ∀ u, u ∈ concL j cs → u.oneCell' = true := by
  intro u hu
  rw [concL_map] at hu
  obtain ⟨q, hq, rfl⟩ := List.mem_map.1 hu
  exact one_cell j (List.all_eq_true.1 h q hq)

theorem cpy_ok (h : Inv G c j ls tm L H e g w) {a : Act} (ha : a.tmps = (tm.map (concS j ls)).toArray) {dst ty pos after guard} {t u el : TypeId} {x y : Operand} {x' y' : Opd} {esz : Nat}
    (hu : P.underlying t = some (.slice el)) (hx : cOpd G x = some x') (hy : cOpd G y = some y') (hs : tsz P el = some esz)
    {v L' H' e' g'} (hv : memOp tm L H e g (.cpy esz x' y') = some (v, L', H', e', g')) :
    MemOk P G c j ls tm L H a.eval { dst := dst, op := .call { callee := .builtin .copy, args := #[x, y], argTypes := #[t, u] }, type := ty, pos := pos, after := after, guard := guard } w v L' H' e' g' := by
  simp only [memOp] at hv
  split at hv
  · rename_i i off n cp k p m cq hsx hsy
    obtain ⟨e1, _⟩ := val_ok (h.ops ha) hx hsx
    obtain ⟨e2, _⟩ := val_ok (h.ops ha) hy hsy
    split at hv
    · rename_i cs hcs
      split at hv
      · rename_i hone
        split at hv
        · rename_i H1 hH
          simp only [Option.some.injEq, Prod.mk.injEq] at hv
          obtain ⟨rfl, rfl, rfl, rfl, rfl⟩ := hv
          obtain ⟨c1, c2, c3⟩ := rd_cell h hcs
          obtain ⟨ty1, ds, hb, h0, h1, hle, hlen, hinv⟩ := wr_ok h hH c2 (e' := e || !V.ltL 0 cs) (by
            intro hh
            simp only [Bool.or_eq_false_iff, Bool.not_eq_false'] at hh
            exact hh)
          refine ⟨_, j, ls, _, ?_, .inl rfl, hinv, rfl, J.Eq.refl _ _, fun _ _ => rfl⟩
          refine run_builtin ?_
          simp only [List.map_toArray, List.map_cons, List.map_nil, e1, e2, conc]
          refine run_value ?_
          have had : j.at i off = ⟨j.b i, off, none⟩ := by simp [J.at, h0]
          have hsc := run_storeCells_at P (j.b i) off ty1 (concL j cs) 0 (concL j ds).toArray w h1 (by simpa using hle) (concL_one hone)
          simp only [Nat.add_zero] at hsc
          have hmin : m.min n = min m n := rfl
          simp only [Builtin.copy_, List.getElem?_toArray, List.getElem?_cons_zero, List.getElem?_cons_succ, Sem.run_bind, r_underlying hu, Result.andThen, Builtin.lenOf, Sem.run_pure, r_size hs, hmin]
          rw [firstCells_ok (n := min m n) c1 c3]
          simp only [had]
          rw [hsc, concL_splice, concL_length]
          rfl
        · cases hv
      · cases hv
    · cases hv
  · rename_i p n cp m cq hsx hsy
    obtain ⟨e1, _⟩ := val_ok (h.ops ha) hx hsx
    obtain ⟨e2, _⟩ := val_ok (h.ops ha) hy hsy
    simp only [Option.some.injEq, Prod.mk.injEq] at hv
    obtain ⟨rfl, rfl, rfl, rfl, rfl⟩ := hv
    refine ⟨w, j, ls, _, ?_, .inl rfl, h, rfl, J.Eq.refl _ _, fun _ _ => rfl⟩
    refine run_builtin ?_
    simp only [List.map_toArray, List.map_cons, List.map_nil, e1, e2]
    refine run_value ?_
    have hmin : m.min n = min m n := rfl
    cases p with
    | none =>
      simp only [conc]
      simp only [Builtin.copy_, List.getElem?_toArray, List.getElem?_cons_zero, List.getElem?_cons_succ, Sem.run_bind, r_underlying hu, Result.andThen, Builtin.lenOf, Sem.run_pure, r_size hs, hmin, Builtin.firstCells]
      rfl
    | some q =>
      obtain ⟨i, off⟩ := q
      simp only [conc]
      simp only [Builtin.copy_, List.getElem?_toArray, List.getElem?_cons_zero, List.getElem?_cons_succ, Sem.run_bind, r_underlying hu, Result.andThen, Builtin.lenOf, Sem.run_pure, r_size hs, hmin, Builtin.firstCells]
      rfl
  · rename_i cp q m cq hsx hsy
    obtain ⟨e1, _⟩ := val_ok (h.ops ha) hx hsx
    obtain ⟨e2, _⟩ := val_ok (h.ops ha) hy hsy
    simp only [Option.some.injEq, Prod.mk.injEq] at hv
    obtain ⟨rfl, rfl, rfl, rfl, rfl⟩ := hv
    refine ⟨w, j, ls, _, ?_, .inl rfl, h, rfl, J.Eq.refl _ _, fun _ _ => rfl⟩
    refine run_builtin ?_
    obtain ⟨i, off⟩ := q
    simp only [List.map_toArray, List.map_cons, List.map_nil, e1, e2, conc]
    refine run_value ?_
    have hmin : m.min 0 = 0 := Nat.min_zero m
    have hf := firstCells_ok (P := P) (w := w) (esz := esz) (n := 0) (ad := j.at i off) (j := j) (cs := []) (l := m) (cp := cq) (by simp) (by simp)
    simp only [Builtin.copy_, List.getElem?_toArray, List.getElem?_cons_zero, List.getElem?_cons_succ, Sem.run_bind, r_underlying hu, Result.andThen, Builtin.lenOf, Sem.run_pure, r_size hs, hmin, hf]
    rfl
  · cases hv

end
end Go.Ev
