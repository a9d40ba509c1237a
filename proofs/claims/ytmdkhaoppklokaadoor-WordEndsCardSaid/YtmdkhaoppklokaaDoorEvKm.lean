/- Ev: maps whose keys are whole numbers. -/
import Derived.Test.YtmdkhaoppklokaaDoorEvK
import Derived.MapKept
set_option linter.all false
namespace Go.Ev
open Go
section
variable {P : Program} {G : Nat} {c : Cx} {j : J} {ls : List Nat} {tm : List SV} {L : List LB} {H : List B} {e g : Bool} {w : World}
theorem chk_int {kt : TypeId} {kk k : IntKind} {n : Int} (hd : P.underlying kt = some (.int kk)) (em : Bool) (m : Nat) : (Instr.checkKey em (m + 1) kt (.int k n)).run P w = .ok () w := by
  unfold Instr.checkKey
  simp only [Sem.run_bind, r_underlying hd, Result.andThen]
  rfl
theorem find_now (kk : IntKind) (k : IntKind) (n : Int) : ∀ (es : List (V × V)) (r : Option V) (f : Nat → V × V → MapEntry) (i : Nat), (∀ m x, (f m x).key = conc j x.1 ∧ (f m x).val = conc j x.2) → findK (.int k n) es = some r →
    (r = none → Instr.findNow (.int kk) (.int k n) (es.mapIdx f) i = some none) ∧ (∀ v, r = some v → ∃ q, Instr.findNow (.int kk) (.int k n) (es.mapIdx f) i = some (some (q, conc j v)))
  | [], r, f, i, hf, h => by
    simp only [findK, Option.some.injEq] at h
    subst h
    exact ⟨fun _ => rfl, fun v hv => by cases hv⟩
  | (a, v) :: es, r, f, i, hf, h => by
    rw [List.mapIdx_cons]
    unfold findK at h
    split at h
    · rename_i hk
      injection h with h; subst h
      refine ⟨fun h => (by cases h), fun v' hv => ?_⟩
      injection hv with hv; subst hv
      unfold keyEq at hk
      split at hk
      · rename_i k1 a1 k2 b1 e2
        injection e2 with e2 e3; subst e2; subst e3
        split at hk
        · rename_i hkk; subst hkk
          injection hk with hk
          have hk' : a1 = n := by simpa using hk
          subst hk'
          refine ⟨i, ?_⟩
          simp only [Instr.findNow, (hf 0 _).1, (hf 0 _).2, conc, Instr.sameNow, if_true, beq_self_eq_true]
        · cases hk
      · cases hk
    · rename_i hk
      unfold keyEq at hk
      split at hk
      · rename_i k1 a1 k2 b1 e2
        injection e2 with e2 e3; subst e2; subst e3
        split at hk
        · rename_i hkk; subst hkk
          injection hk with hk
          have hne : (n == a1) = false := by
            have : ¬ a1 = n := by simpa using hk
            simp only [beq_eq_false_iff_ne, ne_eq]
            exact fun hh => this hh.symm
          have ih := find_now kk k1 n es r (fun m => f (m + 1)) (i + 1) (fun m x => hf (m + 1) x) h
          simp only [Instr.findNow, (hf 0 _).1, conc, Instr.sameNow, if_true, hne]
          exact ih
        · cases hk
      · cases hk
    · cases h

theorem find_mem : ∀ (es : List (V × V)) {k u : V}, findK k es = some (some u) → u ∈ es.map (·.2)
  | [], k, u, h => by simp [findK] at h
  | (a, v) :: es, k, u, h => by
    unfold findK at h
    split at h
    · injection h with h; injection h with h; subst h; simp
    · have := find_mem es h; simp only [List.map_cons, List.mem_cons]; exact Or.inr this
    · cases h
theorem mset_ok (h : Inv G c j ls tm L H e g w) {a : Act} (ha : a.tmps = (tm.map (concS j ls)).toArray) {o : Oper} {t kt et : TypeId} {kk : IntKind} {m k x : Operand} {m' k' x' : Opd} (ho : o.op = .insert t m k x)
    (hu : P.underlying t = some (.map kt et)) (hk : P.underlying kt = some (.int kk)) (hm : cOpd G m = some m') (hkk : cOpd G k = some k') (hx : cOpd G x = some x')
    {v L' H' e' g'} (hv : memOp tm L H e g (.mset m' k' x') = some (v, L', H', e', g')) : MemOk P G c j ls tm L H a.eval o w v L' H' e' g' := by
  obtain ⟨dst, oo, ty, pos, after, guard⟩ := o
  simp only at ho; subst ho
  simp only [memOp] at hv
  split at hv
  · rename_i i kd n u h1 h2 h3
    obtain ⟨m1, m2⟩ := val_ok (h.ops ha) hm h1
    obtain ⟨k1, k2⟩ := val_ok (h.ops ha) hkk h2
    obtain ⟨x1, x2⟩ := val_ok (h.ops ha) hx h3
    split at hv
    · rename_i es hb
      split at hv
      · rename_i hf
        simp only [Option.some.injEq, Prod.mk.injEq] at hv
        obtain ⟨rfl, rfl, rfl, rfl, rfl⟩ := hv
        have hbr : w.heap[j.b i]? = some (.map (mpc j es) es.length) := h.br i _ hb
        have hfn := (find_now (j := j) kk kd n es none (fun i e => ({ key := conc j e.1, val := conc j e.2, born := i } : MapEntry)) 0 (fun _ _ => ⟨rfl, rfl⟩) hf).1 rfl
        have hlt : j.b i < w.heap.size := (Array.getElem?_eq_some_iff.1 hbr).1
        refine ⟨{ w with heap := w.heap.setIfInBounds (j.b i) (.map ((mpc j es).push { key := .int kd n, val := conc j u, born := es.length }) (es.length + 1)) }, j, ls, _, ?_, .inr ⟨rfl, rfl⟩, ?_, rfl, J.Eq.refl _ _, fun _ _ => rfl⟩
        · have hmp : (mpc j es).toList = es.mapIdx fun i e => ({ key := conc j e.1, val := conc j e.2, born := i } : MapEntry) := rfl
          simp only [execOp, m1, k1, x1, conc, Instr.mapUpdate, Sem.run_bind, r_underlying hu, Result.andThen, Go.MapKept.run_getObj_map hbr, chk_int hk, hmp, Go.MapKept.run_findKey hk hfn, Go.MapKept.run_setObj_map _ hbr]
          rfl
        · have hBl : B.lt H.length (.mp es) = true := h.Hl _ (List.mem_of_getElem? hb)
          refine h.set (w' := { w with heap := w.heap.setIfInBounds (j.b i) (.map ((mpc j es).push { key := .int kd n, val := conc j u, born := es.length }) (es.length + 1)) }) (b' := .mp (es ++ [(.int kd n, u)])) hb rfl ⟨_, rfl⟩ ?_ rfl rfl rfl (by simp) ?_ ?_ ?_
          · simp only [B.lt, Bool.and_eq_true, ltL_iff, List.map_append, List.mem_append, List.map_cons, List.map_nil, List.mem_cons, List.not_mem_nil, or_false] at hBl ⊢
            refine ⟨fun y hy => ?_, fun y hy => ?_⟩
            · rcases hy with hy | rfl
              · exact hBl.1 y hy
              · rfl
            · rcases hy with hy | rfl
              · exact hBl.2 y hy
              · exact x2
          · intro q hq
            simp [Ne.symm hq]
          · show (w.heap.setIfInBounds (j.b i) _)[j.b i]? = _
            have e1 : mpc j (es ++ [(V.int kd n, u)]) = (mpc j es).push { key := .int kd n, val := conc j u, born := es.length } := by
              unfold mpc
              rw [List.mapIdx_append]
              simp [conc]
            rw [e1, List.length_append]
            simp [hlt]
          · intro hh
            simp only [Bool.or_eq_false_iff, Bool.not_eq_false'] at hh
            refine ⟨hh.1, fun q hq => ?_⟩
            simp only [B.lt, Bool.and_eq_true, ltL_iff, List.map_append, List.mem_append, List.map_cons, List.map_nil, List.mem_cons, List.not_mem_nil, or_false] at hq ⊢
            refine ⟨fun y hy => ?_, fun y hy => ?_⟩
            · rcases hy with hy | rfl
              · exact hq.1 y hy
              · rfl
            · rcases hy with hy | rfl
              · exact hq.2 y hy
              · exact V.lt_le (Nat.zero_le _) _ hh.2
      · cases hv
    · cases hv
  · cases hv

theorem look_ok (h : Inv G c j ls tm L H e g w) {a : Act} (ha : a.tmps = (tm.map (concS j ls)).toArray) {o : Oper} {t kt et : TypeId} {kk : IntKind} {m k : Operand} {m' k' : Opd} {ok : Bool} {z : V} (ho : o.op = .lookup t m k ok)
    (hu : P.underlying t = some (.map kt et)) (hk : P.underlying kt = some (.int kk)) (hz : (P.info? et).bind (fun i => i.zero.bind toC) = some z) (hm : cOpd G m = some m') (hkk : cOpd G k = some k')
    {v L' H' e' g'} (hv : memOp tm L H e g (.look ok [z] m' k') = some (v, L', H', e', g')) : MemOk P G c j ls tm L H a.eval o w v L' H' e' g' := by
  obtain ⟨dst, oo, ty, pos, after, guard⟩ := o
  simp only at ho; subst ho
  simp only [memOp] at hv
  split at hv
  · rename_i i kd n h1 h2
    obtain ⟨m1, m2⟩ := val_ok (h.ops ha) hm h1
    obtain ⟨k1, k2⟩ := val_ok (h.ops ha) hkk h2
    split at hv
    · rename_i es hb
      have hbr : w.heap[j.b i]? = some (.map (mpc j es) es.length) := h.br i _ hb
      have hBl : B.lt H.length (.mp es) = true := h.Hl _ (List.mem_of_getElem? hb)
      have hmp : (mpc j es).toList = es.mapIdx fun i e => ({ key := conc j e.1, val := conc j e.2, born := i } : MapEntry) := rfl
      have hIs : (mpc j es).isEmpty = (mpc j es).isEmpty := rfl
      split at hv
      · rename_i u hf
        simp only [Option.some.injEq, Prod.mk.injEq] at hv
        obtain ⟨rfl, rfl, rfl, rfl, rfl⟩ := hv
        obtain ⟨q, hfn⟩ := (find_now (j := j) kk kd n es (some u) (fun i e => ({ key := conc j e.1, val := conc j e.2, born := i } : MapEntry)) 0 (fun _ _ => ⟨rfl, rfl⟩) hf).2 u rfl
        have hul : V.lt H.length u = true := by
          have := find_mem es hf
          simp only [B.lt, Bool.and_eq_true, ltL_iff] at hBl
          exact hBl.2 u this
        refine ⟨w, j, ls, .value (concS j ls (.v (if ok then .tup [u, .bool true] else u))), ?_, .inl rfl, h, ?_, J.Eq.refl _ _, fun _ _ => rfl⟩
        · simp only [execOp, m1, k1, conc]
          refine run_value ?_
          simp only [Instr.lookup, Sem.run_bind, r_underlying hu, Result.andThen, Go.MapKept.run_getObj_map hbr, Sem.run_pure, chk_int hk, hmp, Go.MapKept.run_findKey hk hfn]
          cases ok <;> rfl
        · cases ok
          · exact hul
          · simp [SV.ok, V.lt, V.ltL, hul]
      · rename_i hf
        simp only [Option.some.injEq, Prod.mk.injEq] at hv
        obtain ⟨rfl, rfl, rfl, rfl, rfl⟩ := hv
        have hfn := (find_now (j := j) kk kd n es none (fun i e => ({ key := conc j e.1, val := conc j e.2, born := i } : MapEntry)) 0 (fun _ _ => ⟨rfl, rfl⟩) hf).1 rfl
        obtain ⟨i', hi', hz⟩ := Option.bind_eq_some_iff.1 hz
        obtain ⟨zv, hzv, hz⟩ := Option.bind_eq_some_iff.1 hz
        obtain ⟨z1, z2⟩ := toC_ok hz j H.length
        refine ⟨w, j, ls, .value (concS j ls (.v (if ok then .tup [z, .bool false] else z))), ?_, .inl rfl, h, ?_, J.Eq.refl _ _, fun _ _ => rfl⟩
        · simp only [execOp, m1, k1, conc]
          refine run_value ?_
          simp only [Instr.lookup, Sem.run_bind, r_underlying hu, Result.andThen, Go.MapKept.run_getObj_map hbr, Sem.run_pure, chk_int hk, hmp, Go.MapKept.run_findKey hk hfn, r_zero hi' hzv]
          cases ok
          · simp [concS, z1]
          · simp [concS, conc, concL_map, z1]
        · cases ok
          · exact z2
          · simp [SV.ok, V.lt, V.ltL, z2]
      · cases hv
    · cases hv
  · cases hv
end
end Go.Ev
