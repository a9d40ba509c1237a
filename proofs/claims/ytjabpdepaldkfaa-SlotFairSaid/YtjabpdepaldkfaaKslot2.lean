/- dev: slots: whose a cycle is, the next one, the wait -/
import Derived.Test.YtjabpdepaldkfaaKslot1
set_option linter.all false
namespace Go.Ev
open Go Go.Proofs
set_option maxRecDepth 4000
set_option maxHeartbeats 4000000
theorem slcL_eq {tm : List SV} {esz : Nat} {x i : Opd} {b o len cp : Nat} {k : IntKind} {l : Int} (hx : x.val tm = some (.sl (some (b, o)) len cp)) (hi : i.val tm = some (.int k l)) (h0 : 0 ≤ l) (h1 : l ≤ (len : Int)) (h2 : len ≤ cp) (h3 : l < (cp : Int)) :
    pureOp tm (.slc esz x (some i) none) = some (.v (.sl (some (b, o + l.toNat * esz)) (len - l.toNat) (cp - l.toNat))) := by
  have e : ¬ cp = l.toNat := by omega
  have e3 : 0 ≤ l ∧ l ≤ (len : Int) := ⟨h0, h1⟩
  simp only [pureOp, hx, optV, hi, bnd, if_pos e3, if_neg e]
theorem rd_takeI {H : List B} {b o : Nat} {l : List Int} (h : RdI H (some (b, o)) l) (k : Nat) : RdI H (some (b, o)) (l.take k) := by
  have h' : rd H b o (l.length * 1) = some (l.flatMap encI) := h
  show rd H b o ((l.take k).length * 1) = some ((l.take k).flatMap encI)
  have h2 := rd_sub h' 0 ((l.take k).length * 1) (by rw [List.length_take]; omega)
  rw [Nat.add_zero, List.drop_zero] at h2
  rw [h2]
  congr 1
  have : l.flatMap encI = (l.take k).flatMap encI ++ (l.drop k).flatMap encI := by rw [← List.flatMap_append, List.take_append_drop]
  rw [this, List.take_left' (flat_len encI_len _)]
theorem rd_dropI {H : List B} {b o : Nat} {l : List Int} (h : RdI H (some (b, o)) l) (k : Nat) (hk : k ≤ l.length) : RdI H (some (b, o + k * 1)) (l.drop k) := by
  have h' : rd H b o (l.length * 1) = some (l.flatMap encI) := h
  show rd H b (o + k * 1) ((l.drop k).length * 1) = some ((l.drop k).flatMap encI)
  have h2 := rd_sub h' (k * 1) ((l.drop k).length * 1) (by rw [List.length_drop]; omega)
  rw [h2]
  congr 1
  have : l.flatMap encI = (l.take k).flatMap encI ++ (l.drop k).flatMap encI := by rw [← List.flatMap_append, List.take_append_drop]
  rw [this, List.drop_left' (by rw [flat_len encI_len, List.length_take]; omega)]
  rw [List.take_of_length_le (by rw [flat_len encI_len]; omega)]
theorem fstI_neg {α : Type} {P : α → Bool} {l : List α} (h : ¬ 0 ≤ fstI P l) : fstI P l = -1 ∧ ∀ x, x ∈ l → P x = false := by
  unfold fstI at h ⊢
  cases hf : l.findIdx? P with
  | none => rw [List.findIdx?_eq_none_iff] at hf; exact ⟨rfl, hf⟩
  | some i => rw [hf] at h; exact absurd (Int.natCast_nonneg i) h
theorem fstI_pos {α : Type} {P : α → Bool} {l : List α} (h : 0 ≤ fstI P l) : ∃ i, ∃ hi : i < l.length, fstI P l = (i : Int) ∧ P l[i] = true ∧ ∀ j (hj : j < i), P (l[j]'(by omega)) = false := by
  unfold fstI at h ⊢
  cases hf : l.findIdx? P with
  | none => rw [hf] at h; exact absurd h (by decide)
  | some i =>
    rw [List.findIdx?_eq_some_iff_getElem] at hf
    obtain ⟨hi, hp, hn⟩ := hf
    exact ⟨i, hi, rfl, hp, fun j hj => by have := hn j hj; simpa using this⟩
theorem fstI_app1 {α : Type} {P : α → Bool} {l m : List α} (h : 0 ≤ fstI P l) : fstI P (l ++ m) = fstI P l := by
  obtain ⟨i, hi, h1, h2, h3⟩ := fstI_pos h
  rw [h1]
  refine fstI_yes (by rw [List.length_append]; omega) (fun j hj hj' => ?_) ?_
  · rw [List.getElem_append_left (by omega)]; exact h3 j hj
  · rw [List.getElem_append_left hi]; exact h2
theorem fstI_app2 {α : Type} {P : α → Bool} {l m : List α} (h : ¬ 0 ≤ fstI P l) (h2 : 0 ≤ fstI P m) : fstI P (l ++ m) = (l.length : Int) + fstI P m := by
  obtain ⟨_, h0⟩ := fstI_neg h
  obtain ⟨i, hi, h3, h4, h5⟩ := fstI_pos h2
  rw [h3, ← Int.natCast_add]
  refine fstI_yes (by rw [List.length_append]; omega) (fun j hj hj' => ?_) ?_
  · by_cases hjl : j < l.length
    · rw [List.getElem_append_left hjl]; exact h0 _ (List.getElem_mem hjl)
    · rw [List.getElem_append_right (by omega)]; exact h5 _ (by omega)
  · rw [List.getElem_append_right (by omega)]
    simp only [Nat.add_sub_cancel_left]
    exact h4
theorem fstI_app3 {α : Type} {P : α → Bool} {l m : List α} (h : ¬ 0 ≤ fstI P l) (h2 : ¬ 0 ≤ fstI P m) : fstI P (l ++ m) = -1 := by
  obtain ⟨_, h0⟩ := fstI_neg h
  obtain ⟨_, h1⟩ := fstI_neg h2
  refine fstI_no (fun j hj => ?_)
  have := List.getElem_mem hj
  rcases List.mem_append.1 this with h | h
  · exact h0 _ h
  · exact h1 _ h
abbrev rotL (l : List Int) (k : Nat) : List Int := l.drop k ++ l.take k
/-- how far the next slot is -/
def ahV (l : List Int) (w : Int) (t : Nat) : Int := fstI (fun x => w == x) (rotL l (t % l.length))
def atL (l : List Int) (t : Nat) : Int := l.getD (t % l.length) 0
def ownV (l : List Int) (t : Int) : Int := if mayP l 0 [t] then atL l t.toNat else -1
theorem tmod_nat (t n : Nat) : ((t : Int)).tmod (n : Int) = ((t % n : Nat) : Int) := (Int.ofNat_tmod t n).symm
theorem may_t {l : List Int} {w t : Int} (h : mayP l w [t]) : 0 ≤ t ∧ t ≤ 1099511627776 := by
  have := h.2.2
  rw [List.all_cons] at this
  simp only [okT, List.all_nil, Bool.and_true, decide_eq_true_eq] at this
  exact this
def s7 : Sp := fun vs H Q => match vs with
  | [.sl p n c, .int .i64 t] => ∃ l : List Int, n = l.length ∧ RdI H p l ∧ Q (.int .i64 (ownV l t)) H false false
  | _ => False
theorem m7 : Mono s7 := by
  intro vs H Q Q' hQ h
  unfold s7 at h ⊢
  split at h
  all_goals first
    | exact h.elim
    | (repeat' (first | exact hQ _ _ _ _ h | refine And.imp_right (fun h => ?_) h | refine Exists.imp (fun _ h => ?_) h | (intro z; replace h := h z)))
theorem k7 : Snd Try.prog 0 7 s7 := by
  refine snd_of_ev (by kernel_rfl) (C := tab [(15, s15)]) (sndC_cons k15 (sndC_nil)) x7 n7 c7 30 ?_
  intro vs H Q hs
  unfold s7 at hs
  split at hs
  · rename_i p n c t
    obtain ⟨l, rfl, hr, hq⟩ := hs
    by_cases hm : mayP l 0 [t]
    · obtain ⟨T, rfl⟩ := Int.eq_ofNat_of_zero_le (may_t hm).1
      have h0 : 0 < l.length := hm.1.1
      have h32 := hm.1.2.1
      have hlt : T % l.length < l.length := Nat.mod_lt _ h0
      obtain ⟨b, o, rfl⟩ := hr.some hlt
      have ea : ∀ X p, p = o + (T % l.length) * 1 → rd (H ++ X) b p 1 = some (encI l[T % l.length]) := fun X p hp => rd_app (rd_el encI_len hr _ hlt p hp) X
      have hv : ownV l (T : Int) = l[T % l.length] := by
        unfold ownV atL
        rw [if_pos hm, List.getD_eq_getElem?_getD]
        rw [show ((T : Int)).toNat = T from rfl, List.getElem?_eq_getElem hlt]; rfl
      rw [hv] at hq
      repeat' (conv => whnf
               first
               | (refine Stop.mk ?_)
               | (refine fO_is (decide_eq_true hm) ?_)
               | (refine fI_is (tmod_nat _ _) ?_)
               | (with_reducible refine fI_is (a := (l.length : Int)) rfl ?_)
               | (with_reducible refine fI_is (a := (T : Int)) rfl ?_)
               | (with_reducible refine fI_is (a := ((T % l.length : Nat) : Int)) rfl ?_)
               | (refine fI_gen ?_; intro z hz)
               | (refine fO_gen ?_; intro z hz)
               | (refine Exists.intro l (Exists.intro [(T : Int)] (And.intro rfl (And.intro (hr.app _) (And.intro rfl (And.intro (by decide) (And.intro ((rd_x0 _ _ _ _ _).trans rfl) ?_)))))))
               | (refine pure_step (rem_eq rfl rfl (by omega)) ?_)
               | (refine pure_step (ixs_eq rfl rfl (by omega) (by omega)) ?_)
               | (refine ld_step rfl (ea _ _ (by first | omega | rfl)) rfl ?_)
               | (refine dec_true (by assumption) ?_)
               | (refine dec_false (by assumption) ?_)
               | (refine dec_split (fun h => ?_) (fun h => ?_))
               | (apply silE)
               | (refine Both.mk ?_ ?_)
               | (refine And.intro rfl ?_)
               | (exact And.intro rfl (And.intro rfl (And.intro rfl rfl)))
               | (refine And.intro (by first | omega | ((simp only [decide_eq_true_eq, decide_eq_false_iff_not, Bool.and_eq_true, beq_iff_eq, Bool.not_eq_true', Bool.not_eq_false'] at *); omega) | (subst_vars; simp only [Int.ofNat_eq_natCast, tq_not, fq_not, tq_and, fq_and, tq_or, fq_or, tq_beq, fq_beq, tq_bne, fq_bne, tq_dec, fq_dec, one1, V.tup.injEq, V.agg.injEq, List.cons.injEq, V.int.injEq, V.bool.injEq, true_and, and_true, decide_eq_true_eq, decide_eq_false_iff_not, Bool.and_eq_true, Bool.and_eq_false_iff, Bool.or_eq_true, Bool.or_eq_false_iff, Bool.not_eq_true', Bool.not_eq_false', beq_iff_eq, wrap_u32, wrap_i64, wrap_u8, beq_eq_false_iff_ne, ne_eq, bne_iff_ne, bne_eq_false_iff_eq, eq_self, and_self, splice, V.cells, List.take_succ_cons, List.take_zero, List.take_nil, List.drop_zero, List.drop_succ_cons, List.drop_nil, List.cons_append, List.nil_append, List.append_nil, List.length_cons, List.length_nil, Nat.zero_add, Nat.reduceAdd, if_true, if_false, Bool.false_eq_true, beq_self_eq_true, decide_eq_decide, Bool.true_eq_false, or_false, false_or, or_true, true_or, and_false, false_and, not_true_eq_false, not_false_eq_true, Bool.and_true, Bool.true_and, Bool.not_true, Bool.not_false] at *; omega)) ?_)
               | (refine Exists.intro _ (Exists.intro _ (And.intro rfl ?_)))
               | (refine Exists.intro _ (And.intro rfl ?_))
               | (refine Exists.intro _ (Exists.intro _ (Exists.intro _ (Exists.intro _ (And.intro rfl ?_)))))
               | (refine ld_step rfl (by assumption) rfl ?_)
               | (refine lds_step rfl (by assumption) rfl ?_)
               | (refine fL_mk ?_)
               | (refine fH_mk ?_)
               | (refine fN_mk ?_)
               | (refine fLB_mk ?_)
               | (refine And.intro (by repeat (first | assumption | refine GLB_app ?_)) ?_)
               | (refine ld_step rfl ((rd_x0 _ _ _ _ _).trans rfl) rfl ?_)
               | (refine ld_step rfl ((rd_x1 _ _ _ _ _ _).trans rfl) rfl ?_)
               | (refine ld_step rfl ((rd_x2 _ _ _ _ _ _ _).trans rfl) rfl ?_)
               | (refine lds_step rfl ((rd_x0 _ _ _ _ _).trans rfl) rfl ?_)
               | (refine lds_step rfl ((rd_x1 _ _ _ _ _ _).trans rfl) rfl ?_)
               | (refine lds_step rfl ((rd_x2 _ _ _ _ _ _ _).trans rfl) rfl ?_)
               | (refine mem_step (st_eq rfl rfl rfl rfl (wr_last _ _ _ _ rfl)) ?_)
               | (refine drec_yes (by omega) ?_)
               | (refine drec_no (by omega) ?_)
               | (intro _)
               | fail)
      all_goals (conv => whnf)
      all_goals exact leafH hq (by subst_vars; rfl) (take_app1 H _)
    · have hv : ownV l t = -1 := if_neg hm
      rw [hv] at hq
      repeat' (conv => whnf
               first
               | (refine Stop.mk ?_)
               | (refine fO_is (decide_eq_false hm) ?_)
               | (with_reducible refine fI_is (a := t) rfl ?_)
               | (refine fI_gen ?_; intro z hz)
               | (refine fO_gen ?_; intro z hz)
               | (refine Exists.intro l (Exists.intro [t] (And.intro rfl (And.intro (hr.app _) (And.intro rfl (And.intro (by decide) (And.intro ((rd_x0 _ _ _ _ _).trans rfl) ?_)))))))
               | (refine dec_true (by assumption) ?_)
               | (refine dec_false (by assumption) ?_)
               | (refine dec_split (fun h => ?_) (fun h => ?_))
               | (apply silE)
               | (refine Both.mk ?_ ?_)
               | (refine And.intro rfl ?_)
               | (exact And.intro rfl (And.intro rfl (And.intro rfl rfl)))
               | (refine And.intro (by first | omega | ((simp only [decide_eq_true_eq, decide_eq_false_iff_not, Bool.and_eq_true, beq_iff_eq, Bool.not_eq_true', Bool.not_eq_false'] at *); omega) | (subst_vars; simp only [Int.ofNat_eq_natCast, tq_not, fq_not, tq_and, fq_and, tq_or, fq_or, tq_beq, fq_beq, tq_bne, fq_bne, tq_dec, fq_dec, one1, V.tup.injEq, V.agg.injEq, List.cons.injEq, V.int.injEq, V.bool.injEq, true_and, and_true, decide_eq_true_eq, decide_eq_false_iff_not, Bool.and_eq_true, Bool.and_eq_false_iff, Bool.or_eq_true, Bool.or_eq_false_iff, Bool.not_eq_true', Bool.not_eq_false', beq_iff_eq, wrap_u32, wrap_i64, wrap_u8, beq_eq_false_iff_ne, ne_eq, bne_iff_ne, bne_eq_false_iff_eq, eq_self, and_self, splice, V.cells, List.take_succ_cons, List.take_zero, List.take_nil, List.drop_zero, List.drop_succ_cons, List.drop_nil, List.cons_append, List.nil_append, List.append_nil, List.length_cons, List.length_nil, Nat.zero_add, Nat.reduceAdd, if_true, if_false, Bool.false_eq_true, beq_self_eq_true, decide_eq_decide, Bool.true_eq_false, or_false, false_or, or_true, true_or, and_false, false_and, not_true_eq_false, not_false_eq_true, Bool.and_true, Bool.true_and, Bool.not_true, Bool.not_false] at *; omega)) ?_)
               | (refine Exists.intro _ (Exists.intro _ (And.intro rfl ?_)))
               | (refine Exists.intro _ (And.intro rfl ?_))
               | (refine Exists.intro _ (Exists.intro _ (Exists.intro _ (Exists.intro _ (And.intro rfl ?_)))))
               | (refine ld_step rfl (by assumption) rfl ?_)
               | (refine lds_step rfl (by assumption) rfl ?_)
               | (refine fL_mk ?_)
               | (refine fH_mk ?_)
               | (refine fN_mk ?_)
               | (refine fLB_mk ?_)
               | (refine And.intro (by repeat (first | assumption | refine GLB_app ?_)) ?_)
               | (refine ld_step rfl ((rd_x0 _ _ _ _ _).trans rfl) rfl ?_)
               | (refine ld_step rfl ((rd_x1 _ _ _ _ _ _).trans rfl) rfl ?_)
               | (refine ld_step rfl ((rd_x2 _ _ _ _ _ _ _).trans rfl) rfl ?_)
               | (refine lds_step rfl ((rd_x0 _ _ _ _ _).trans rfl) rfl ?_)
               | (refine lds_step rfl ((rd_x1 _ _ _ _ _ _).trans rfl) rfl ?_)
               | (refine lds_step rfl ((rd_x2 _ _ _ _ _ _ _).trans rfl) rfl ?_)
               | (refine mem_step (st_eq rfl rfl rfl rfl (wr_last _ _ _ _ rfl)) ?_)
               | (refine drec_yes (by omega) ?_)
               | (refine drec_no (by omega) ?_)
               | (intro _)
               | fail)
      all_goals (conv => whnf)
      all_goals exact leafH hq rfl (take_app1 H _)
  · exact hs.elim
def s16 : Sp := fun vs H Q => match vs with
  | [.sl p n c, .int .i64 w, .int .i64 t] => 0 ≤ t ∧ ∃ l : List Int, n = l.length ∧ n ≤ c ∧ (1 ≤ l.length ∧ l.length ≤ 32) ∧ RdI H p l ∧ Q (.int .i64 (ahV l w t.toNat)) H false false
  | _ => False
theorem m16 : Mono s16 := by
  intro vs H Q Q' hQ h
  unfold s16 at h ⊢
  split at h
  all_goals first
    | exact h.elim
    | (repeat' (first | exact hQ _ _ _ _ h | refine And.imp_right (fun h => ?_) h | refine Exists.imp (fun _ h => ?_) h | (intro z; replace h := h z)))
theorem k16 : Snd Try.prog 0 16 s16 := by
  refine snd_of_ev (by kernel_rfl) (C := tab [(22, s22)]) (sndC_cons k22 (sndC_nil)) x16 n16 c16 30 ?_
  intro vs H Q hs
  unfold s16 at hs
  split at hs
  · rename_i p n c w t
    obtain ⟨ht, l, rfl, hc, hl, hr, hq⟩ := hs
    obtain ⟨T, rfl⟩ := Int.eq_ofNat_of_zero_le ht
    obtain ⟨k, hk⟩ : ∃ k, k = T % l.length := ⟨_, rfl⟩
    have hlt : k < l.length := by rw [hk]; exact Nat.mod_lt _ (by omega)
    obtain ⟨b, o, rfl⟩ := hr.some hlt
    have htm : ((T : Int)).tmod (l.length : Int) = (k : Int) := by rw [hk]; exact tmod_nat _ _
    have hd : RdI H (some (b, o + k * 1)) (l.drop k) := rd_dropI hr k (by omega)
    have htk : RdI H (some (b, o)) (l.take k) := rd_takeI hr k
    have lD : (l.drop k).length = l.length - k := List.length_drop
    have lT : (l.take k).length = k := by rw [List.length_take]; omega
    have hq' : Q (.int .i64 (fstI (fun x => w == x) (rotL l k))) H false false := by rw [hk]; exact hq
    clear hq hk
    have b2 := fstI_bd (fun x => w == x) (l.take k)
    have b1 := fstI_bd (fun x => w == x) (l.drop k)
    rw [lT] at b2
    rw [lD] at b1
    obtain ⟨f1, hf1⟩ : ∃ z, z = fstI (fun x => w == x) (l.drop k) := ⟨_, rfl⟩
    obtain ⟨f2, hf2⟩ : ∃ z, z = fstI (fun x => w == x) (l.take k) := ⟨_, rfl⟩
    by_cases h1 : 0 ≤ fstI (fun x => w == x) (l.drop k)
    · have e1 : fstI (fun x => w == x) (rotL l k) = f1 := by rw [hf1]; exact fstI_app1 h1
      have t1 : decide (f1 ≥ 0) = true := decide_eq_true (by rw [hf1]; exact h1)
      rw [e1] at hq'
      repeat' (conv => whnf
               first
               | (refine Stop.mk ?_)
               | (refine fI_is htm ?_)
               | (refine fI_is hf1.symm ?_)
               | (refine fO_is t1 ?_)
               | (with_reducible refine fI_is (a := f1) rfl ?_)
               | (with_reducible refine fI_is (a := (k : Int)) rfl ?_)
               | (with_reducible refine fI_is (a := (l.length : Int)) rfl ?_)
               | (with_reducible refine fI_is (a := (T : Int)) rfl ?_)
               | (refine fI_gen ?_; intro z hz)
               | (refine fO_gen ?_; intro z hz)
               | (refine pure_step (rem_eq rfl rfl (by omega)) ?_)
               | (refine pure_step (slcL_eq rfl rfl (by omega) (by omega) hc (by omega)) ?_)
               | (refine Exists.intro (l.drop k) (And.intro lD.symm (And.intro (by omega) (And.intro hd ?_))))
               | (refine dec_true (by assumption) ?_)
               | (refine dec_false (by assumption) ?_)
               | (refine dec_split (fun h => ?_) (fun h => ?_))
               | (apply silE)
               | (refine Both.mk ?_ ?_)
               | (refine And.intro rfl ?_)
               | (exact And.intro rfl (And.intro rfl (And.intro rfl rfl)))
               | (refine And.intro (by first | omega | ((simp only [decide_eq_true_eq, decide_eq_false_iff_not, Bool.and_eq_true, beq_iff_eq, Bool.not_eq_true', Bool.not_eq_false'] at *); omega) | (subst_vars; simp only [Int.ofNat_eq_natCast, tq_not, fq_not, tq_and, fq_and, tq_or, fq_or, tq_beq, fq_beq, tq_bne, fq_bne, tq_dec, fq_dec, one1, V.tup.injEq, V.agg.injEq, List.cons.injEq, V.int.injEq, V.bool.injEq, true_and, and_true, decide_eq_true_eq, decide_eq_false_iff_not, Bool.and_eq_true, Bool.and_eq_false_iff, Bool.or_eq_true, Bool.or_eq_false_iff, Bool.not_eq_true', Bool.not_eq_false', beq_iff_eq, wrap_u32, wrap_i64, wrap_u8, beq_eq_false_iff_ne, ne_eq, bne_iff_ne, bne_eq_false_iff_eq, eq_self, and_self, splice, V.cells, List.take_succ_cons, List.take_zero, List.take_nil, List.drop_zero, List.drop_succ_cons, List.drop_nil, List.cons_append, List.nil_append, List.append_nil, List.length_cons, List.length_nil, Nat.zero_add, Nat.reduceAdd, if_true, if_false, Bool.false_eq_true, beq_self_eq_true, decide_eq_decide, Bool.true_eq_false, or_false, false_or, or_true, true_or, and_false, false_and, not_true_eq_false, not_false_eq_true, Bool.and_true, Bool.true_and, Bool.not_true, Bool.not_false] at *; omega)) ?_)
               | (refine Exists.intro _ (Exists.intro _ (And.intro rfl ?_)))
               | (refine Exists.intro _ (And.intro rfl ?_))
               | (refine Exists.intro _ (Exists.intro _ (Exists.intro _ (Exists.intro _ (And.intro rfl ?_)))))
               | (refine ld_step rfl (by assumption) rfl ?_)
               | (refine lds_step rfl (by assumption) rfl ?_)
               | (refine fL_mk ?_)
               | (refine fH_mk ?_)
               | (refine fN_mk ?_)
               | (refine fLB_mk ?_)
               | (refine And.intro (by repeat (first | assumption | refine GLB_app ?_)) ?_)
               | (refine ld_step rfl ((rd_x0 _ _ _ _ _).trans rfl) rfl ?_)
               | (refine ld_step rfl ((rd_x1 _ _ _ _ _ _).trans rfl) rfl ?_)
               | (refine ld_step rfl ((rd_x2 _ _ _ _ _ _ _).trans rfl) rfl ?_)
               | (refine lds_step rfl ((rd_x0 _ _ _ _ _).trans rfl) rfl ?_)
               | (refine lds_step rfl ((rd_x1 _ _ _ _ _ _).trans rfl) rfl ?_)
               | (refine lds_step rfl ((rd_x2 _ _ _ _ _ _ _).trans rfl) rfl ?_)
               | (refine mem_step (st_eq rfl rfl rfl rfl (wr_last _ _ _ _ rfl)) ?_)
               | (refine drec_yes (by omega) ?_)
               | (refine drec_no (by omega) ?_)
               | (intro _)
               | fail)
      all_goals (conv => whnf)
      all_goals exact leafE hq' rfl
    · have t1 : decide (f1 ≥ 0) = false := decide_eq_false (by rw [hf1]; exact h1)
      by_cases h2 : 0 ≤ fstI (fun x => w == x) (l.take k)
      · have e1 : fstI (fun x => w == x) (rotL l k) = ((l.length - k : Nat) : Int) + f2 := by rw [hf2, ← lD]; exact fstI_app2 h1 h2
        have t2 : decide (f2 ≥ 0) = true := decide_eq_true (by rw [hf2]; exact h2)
        rw [e1] at hq'
        rw [← hf2] at b2
        have w1 : IntKind.i64.wrap ((l.length : Int) - (k : Int)) = ((l.length - k : Nat) : Int) := by rw [wrap_i64_id (by omega) (by omega)]; omega
        have w2 : IntKind.i64.wrap (((l.length - k : Nat) : Int) + f2) = ((l.length - k : Nat) : Int) + f2 := wrap_i64_id (by omega) (by omega)
        repeat' (conv => whnf
                 first
                 | (refine Stop.mk ?_)
                 | (refine fI_is htm ?_)
                 | (refine fI_is hf1.symm ?_)
                 | (refine fI_is hf2.symm ?_)
                 | (refine fI_is w1 ?_)
                 | (refine fI_is w2 ?_)
                 | (refine fO_is t1 ?_)
                 | (refine fO_is t2 ?_)
                 | (with_reducible refine fI_is (a := f1) rfl ?_)
                 | (with_reducible refine fI_is (a := f2) rfl ?_)
                 | (with_reducible refine fI_is (a := (k : Int)) rfl ?_)
                 | (with_reducible refine fI_is (a := (l.length : Int)) rfl ?_)
                 | (with_reducible refine fI_is (a := (T : Int)) rfl ?_)
                 | (refine fI_gen ?_; intro z hz)
                 | (refine fO_gen ?_; intro z hz)
                 | (refine pure_step (rem_eq rfl rfl (by omega)) ?_)
                 | (refine pure_step (slcL_eq rfl rfl (by omega) (by omega) hc (by omega)) ?_)
                 | (refine pure_step (slcH_eq rfl rfl (by omega) (by omega)) ?_)
                 | (refine Exists.intro (l.drop k) (And.intro lD.symm (And.intro (by omega) (And.intro hd ?_))))
                 | (refine Exists.intro (l.take k) (And.intro lT.symm (And.intro (by omega) (And.intro htk ?_))))
                 | (refine dec_true (by assumption) ?_)
                 | (refine dec_false (by assumption) ?_)
                 | (refine dec_split (fun h => ?_) (fun h => ?_))
                 | (apply silE)
                 | (refine Both.mk ?_ ?_)
                 | (refine And.intro rfl ?_)
                 | (exact And.intro rfl (And.intro rfl (And.intro rfl rfl)))
                 | (refine And.intro (by first | omega | ((simp only [decide_eq_true_eq, decide_eq_false_iff_not, Bool.and_eq_true, beq_iff_eq, Bool.not_eq_true', Bool.not_eq_false'] at *); omega) | (subst_vars; simp only [Int.ofNat_eq_natCast, tq_not, fq_not, tq_and, fq_and, tq_or, fq_or, tq_beq, fq_beq, tq_bne, fq_bne, tq_dec, fq_dec, one1, V.tup.injEq, V.agg.injEq, List.cons.injEq, V.int.injEq, V.bool.injEq, true_and, and_true, decide_eq_true_eq, decide_eq_false_iff_not, Bool.and_eq_true, Bool.and_eq_false_iff, Bool.or_eq_true, Bool.or_eq_false_iff, Bool.not_eq_true', Bool.not_eq_false', beq_iff_eq, wrap_u32, wrap_i64, wrap_u8, beq_eq_false_iff_ne, ne_eq, bne_iff_ne, bne_eq_false_iff_eq, eq_self, and_self, splice, V.cells, List.take_succ_cons, List.take_zero, List.take_nil, List.drop_zero, List.drop_succ_cons, List.drop_nil, List.cons_append, List.nil_append, List.append_nil, List.length_cons, List.length_nil, Nat.zero_add, Nat.reduceAdd, if_true, if_false, Bool.false_eq_true, beq_self_eq_true, decide_eq_decide, Bool.true_eq_false, or_false, false_or, or_true, true_or, and_false, false_and, not_true_eq_false, not_false_eq_true, Bool.and_true, Bool.true_and, Bool.not_true, Bool.not_false] at *; omega)) ?_)
                 | (refine Exists.intro _ (Exists.intro _ (And.intro rfl ?_)))
                 | (refine Exists.intro _ (And.intro rfl ?_))
                 | (refine Exists.intro _ (Exists.intro _ (Exists.intro _ (Exists.intro _ (And.intro rfl ?_)))))
                 | (refine ld_step rfl (by assumption) rfl ?_)
                 | (refine lds_step rfl (by assumption) rfl ?_)
                 | (refine fL_mk ?_)
                 | (refine fH_mk ?_)
                 | (refine fN_mk ?_)
                 | (refine fLB_mk ?_)
                 | (refine And.intro (by repeat (first | assumption | refine GLB_app ?_)) ?_)
                 | (refine ld_step rfl ((rd_x0 _ _ _ _ _).trans rfl) rfl ?_)
                 | (refine ld_step rfl ((rd_x1 _ _ _ _ _ _).trans rfl) rfl ?_)
                 | (refine ld_step rfl ((rd_x2 _ _ _ _ _ _ _).trans rfl) rfl ?_)
                 | (refine lds_step rfl ((rd_x0 _ _ _ _ _).trans rfl) rfl ?_)
                 | (refine lds_step rfl ((rd_x1 _ _ _ _ _ _).trans rfl) rfl ?_)
                 | (refine lds_step rfl ((rd_x2 _ _ _ _ _ _ _).trans rfl) rfl ?_)
                 | (refine mem_step (st_eq rfl rfl rfl rfl (wr_last _ _ _ _ rfl)) ?_)
                 | (refine drec_yes (by omega) ?_)
                 | (refine drec_no (by omega) ?_)
                 | (intro _)
                 | fail)
        all_goals (conv => whnf)
        all_goals exact leafE hq' (by subst_vars; rfl)
      · have e1 : fstI (fun x => w == x) (rotL l k) = -1 := fstI_app3 h1 h2
        have t2 : decide (f2 ≥ 0) = false := decide_eq_false (by rw [hf2]; exact h2)
        rw [e1] at hq'
        repeat' (conv => whnf
                 first
                 | (refine Stop.mk ?_)
                 | (refine fI_is htm ?_)
                 | (refine fI_is hf1.symm ?_)
                 | (refine fI_is hf2.symm ?_)
                 | (refine fO_is t1 ?_)
                 | (refine fO_is t2 ?_)
                 | (with_reducible refine fI_is (a := f1) rfl ?_)
                 | (with_reducible refine fI_is (a := f2) rfl ?_)
                 | (with_reducible refine fI_is (a := (k : Int)) rfl ?_)
                 | (with_reducible refine fI_is (a := (l.length : Int)) rfl ?_)
                 | (with_reducible refine fI_is (a := (T : Int)) rfl ?_)
                 | (refine fI_gen ?_; intro z hz)
                 | (refine fO_gen ?_; intro z hz)
                 | (refine pure_step (rem_eq rfl rfl (by omega)) ?_)
                 | (refine pure_step (slcL_eq rfl rfl (by omega) (by omega) hc (by omega)) ?_)
                 | (refine pure_step (slcH_eq rfl rfl (by omega) (by omega)) ?_)
                 | (refine Exists.intro (l.drop k) (And.intro lD.symm (And.intro (by omega) (And.intro hd ?_))))
                 | (refine Exists.intro (l.take k) (And.intro lT.symm (And.intro (by omega) (And.intro htk ?_))))
                 | (refine dec_true (by assumption) ?_)
                 | (refine dec_false (by assumption) ?_)
                 | (refine dec_split (fun h => ?_) (fun h => ?_))
                 | (apply silE)
                 | (refine Both.mk ?_ ?_)
                 | (refine And.intro rfl ?_)
                 | (exact And.intro rfl (And.intro rfl (And.intro rfl rfl)))
                 | (refine And.intro (by first | omega | ((simp only [decide_eq_true_eq, decide_eq_false_iff_not, Bool.and_eq_true, beq_iff_eq, Bool.not_eq_true', Bool.not_eq_false'] at *); omega) | (subst_vars; simp only [Int.ofNat_eq_natCast, tq_not, fq_not, tq_and, fq_and, tq_or, fq_or, tq_beq, fq_beq, tq_bne, fq_bne, tq_dec, fq_dec, one1, V.tup.injEq, V.agg.injEq, List.cons.injEq, V.int.injEq, V.bool.injEq, true_and, and_true, decide_eq_true_eq, decide_eq_false_iff_not, Bool.and_eq_true, Bool.and_eq_false_iff, Bool.or_eq_true, Bool.or_eq_false_iff, Bool.not_eq_true', Bool.not_eq_false', beq_iff_eq, wrap_u32, wrap_i64, wrap_u8, beq_eq_false_iff_ne, ne_eq, bne_iff_ne, bne_eq_false_iff_eq, eq_self, and_self, splice, V.cells, List.take_succ_cons, List.take_zero, List.take_nil, List.drop_zero, List.drop_succ_cons, List.drop_nil, List.cons_append, List.nil_append, List.append_nil, List.length_cons, List.length_nil, Nat.zero_add, Nat.reduceAdd, if_true, if_false, Bool.false_eq_true, beq_self_eq_true, decide_eq_decide, Bool.true_eq_false, or_false, false_or, or_true, true_or, and_false, false_and, not_true_eq_false, not_false_eq_true, Bool.and_true, Bool.true_and, Bool.not_true, Bool.not_false] at *; omega)) ?_)
                 | (refine Exists.intro _ (Exists.intro _ (And.intro rfl ?_)))
                 | (refine Exists.intro _ (And.intro rfl ?_))
                 | (refine Exists.intro _ (Exists.intro _ (Exists.intro _ (Exists.intro _ (And.intro rfl ?_)))))
                 | (refine ld_step rfl (by assumption) rfl ?_)
                 | (refine lds_step rfl (by assumption) rfl ?_)
                 | (refine fL_mk ?_)
                 | (refine fH_mk ?_)
                 | (refine fN_mk ?_)
                 | (refine fLB_mk ?_)
                 | (refine And.intro (by repeat (first | assumption | refine GLB_app ?_)) ?_)
                 | (refine ld_step rfl ((rd_x0 _ _ _ _ _).trans rfl) rfl ?_)
                 | (refine ld_step rfl ((rd_x1 _ _ _ _ _ _).trans rfl) rfl ?_)
                 | (refine ld_step rfl ((rd_x2 _ _ _ _ _ _ _).trans rfl) rfl ?_)
                 | (refine lds_step rfl ((rd_x0 _ _ _ _ _).trans rfl) rfl ?_)
                 | (refine lds_step rfl ((rd_x1 _ _ _ _ _ _).trans rfl) rfl ?_)
                 | (refine lds_step rfl ((rd_x2 _ _ _ _ _ _ _).trans rfl) rfl ?_)
                 | (refine mem_step (st_eq rfl rfl rfl rfl (wr_last _ _ _ _ rfl)) ?_)
                 | (refine drec_yes (by omega) ?_)
                 | (refine drec_no (by omega) ?_)
                 | (intro _)
                 | fail)
        all_goals (conv => whnf)
        all_goals exact leafE hq' rfl
  · exact hs.elim
theorem ahV_bd (l : List Int) (w : Int) (t : Nat) : -1 ≤ ahV l w t ∧ ahV l w t < (l.length : Int) := by
  have h := fstI_bd (fun x => w == x) (rotL l (t % l.length))
  have e : (rotL l (t % l.length)).length = l.length := by
    by_cases h0 : l = []
    · subst h0; simp [rotL]
    · have hp := List.length_pos_iff.2 h0
      have hm := Nat.mod_lt t hp
      unfold rotL; rw [List.length_append, List.length_drop, List.length_take]; omega
  rw [e] at h
  exact h
def nxP (l : List Int) (w t : Int) : Prop := mayP l w [t] ∧ 0 ≤ ahV l w t.toNat
instance (l : List Int) (w t : Int) : Decidable (nxP l w t) := by unfold nxP; exact inferInstance
def s8 : Sp := fun vs H Q => match vs with
  | [.sl p n c, .int .i64 w, .int .i64 t] => ∃ l : List Int, n = l.length ∧ n ≤ c ∧ RdI H p l ∧ Q (.tup [.int .i64 (if nxP l w t then t + ahV l w t.toNat else 0), .bool (decide (nxP l w t))]) H false false
  | _ => False
theorem m8 : Mono s8 := by
  intro vs H Q Q' hQ h
  unfold s8 at h ⊢
  split at h
  all_goals first
    | exact h.elim
    | (repeat' (first | exact hQ _ _ _ _ h | refine And.imp_right (fun h => ?_) h | refine Exists.imp (fun _ h => ?_) h | (intro z; replace h := h z)))
theorem k8 : Snd Try.prog 0 8 s8 := by
  refine snd_of_ev (by kernel_rfl) (C := tab [(15, s15), (16, s16)]) (sndC_cons k15 (sndC_cons k16 (sndC_nil))) x8 n8 c8 30 ?_
  intro vs H Q hs
  unfold s8 at hs
  split at hs
  · rename_i p n c w t
    obtain ⟨l, rfl, hc, hr, hq⟩ := hs
    by_cases hm : mayP l w [t]
    · have hT := may_t hm
      have hl : 1 ≤ l.length ∧ l.length ≤ 32 := ⟨hm.1.1, hm.1.2.1⟩
      have hb := ahV_bd l w t.toNat
      obtain ⟨f, hf⟩ : ∃ z, z = ahV l w t.toNat := ⟨_, rfl⟩
      rw [← hf] at hb
      by_cases ha : 0 ≤ ahV l w t.toNat
      · have hn : nxP l w t := ⟨hm, ha⟩
        rw [if_pos hn, decide_eq_true hn, ← hf] at hq
        have t1 : decide (f < 0) = false := decide_eq_false (by rw [hf]; omega)
        have w1 : IntKind.i64.wrap (t + f) = t + f := wrap_i64_id (by omega) (by omega)
        repeat' (conv => whnf
                 first
                 | (refine Stop.mk ?_)
                 | (refine fO_is (decide_eq_true hm) ?_)
                 | (refine fI_is hf.symm ?_)
                 | (refine fO_is t1 ?_)
                 | (refine fI_is w1 ?_)
                 | (with_reducible refine fI_is (a := f) rfl ?_)
                 | (with_reducible refine fI_is (a := t) rfl ?_)
                 | (with_reducible refine fI_is (a := w) rfl ?_)
                 | (refine fI_gen ?_; intro z hz)
                 | (refine fO_gen ?_; intro z hz)
                 | (refine Exists.intro l (Exists.intro [t] (And.intro rfl (And.intro (hr.app _) (And.intro rfl (And.intro (by decide) (And.intro ((rd_x0 _ _ _ _ _).trans rfl) ?_)))))))
                 | (refine And.intro hT.1 (Exists.intro l (And.intro rfl (And.intro hc (And.intro hl (And.intro (hr.app _) ?_))))))
                 | (refine dec_true (by assumption) ?_)
                 | (refine dec_false (by assumption) ?_)
                 | (refine dec_split (fun h => ?_) (fun h => ?_))
                 | (apply silE)
                 | (refine Both.mk ?_ ?_)
                 | (refine And.intro rfl ?_)
                 | (exact And.intro rfl (And.intro rfl (And.intro rfl rfl)))
                 | (refine And.intro (by first | omega | ((simp only [decide_eq_true_eq, decide_eq_false_iff_not, Bool.and_eq_true, beq_iff_eq, Bool.not_eq_true', Bool.not_eq_false'] at *); omega) | (subst_vars; simp only [Int.ofNat_eq_natCast, tq_not, fq_not, tq_and, fq_and, tq_or, fq_or, tq_beq, fq_beq, tq_bne, fq_bne, tq_dec, fq_dec, one1, V.tup.injEq, V.agg.injEq, List.cons.injEq, V.int.injEq, V.bool.injEq, true_and, and_true, decide_eq_true_eq, decide_eq_false_iff_not, Bool.and_eq_true, Bool.and_eq_false_iff, Bool.or_eq_true, Bool.or_eq_false_iff, Bool.not_eq_true', Bool.not_eq_false', beq_iff_eq, wrap_u32, wrap_i64, wrap_u8, beq_eq_false_iff_ne, ne_eq, bne_iff_ne, bne_eq_false_iff_eq, eq_self, and_self, splice, V.cells, List.take_succ_cons, List.take_zero, List.take_nil, List.drop_zero, List.drop_succ_cons, List.drop_nil, List.cons_append, List.nil_append, List.append_nil, List.length_cons, List.length_nil, Nat.zero_add, Nat.reduceAdd, if_true, if_false, Bool.false_eq_true, beq_self_eq_true, decide_eq_decide, Bool.true_eq_false, or_false, false_or, or_true, true_or, and_false, false_and, not_true_eq_false, not_false_eq_true, Bool.and_true, Bool.true_and, Bool.not_true, Bool.not_false] at *; omega)) ?_)
                 | (refine Exists.intro _ (Exists.intro _ (And.intro rfl ?_)))
                 | (refine Exists.intro _ (And.intro rfl ?_))
                 | (refine Exists.intro _ (Exists.intro _ (Exists.intro _ (Exists.intro _ (And.intro rfl ?_)))))
                 | (refine ld_step rfl (by assumption) rfl ?_)
                 | (refine lds_step rfl (by assumption) rfl ?_)
                 | (refine fL_mk ?_)
                 | (refine fH_mk ?_)
                 | (refine fN_mk ?_)
                 | (refine fLB_mk ?_)
                 | (refine And.intro (by repeat (first | assumption | refine GLB_app ?_)) ?_)
                 | (refine ld_step rfl ((rd_x0 _ _ _ _ _).trans rfl) rfl ?_)
                 | (refine ld_step rfl ((rd_x1 _ _ _ _ _ _).trans rfl) rfl ?_)
                 | (refine ld_step rfl ((rd_x2 _ _ _ _ _ _ _).trans rfl) rfl ?_)
                 | (refine lds_step rfl ((rd_x0 _ _ _ _ _).trans rfl) rfl ?_)
                 | (refine lds_step rfl ((rd_x1 _ _ _ _ _ _).trans rfl) rfl ?_)
                 | (refine lds_step rfl ((rd_x2 _ _ _ _ _ _ _).trans rfl) rfl ?_)
                 | (refine mem_step (st_eq rfl rfl rfl rfl (wr_last _ _ _ _ rfl)) ?_)
                 | (refine drec_yes (by omega) ?_)
                 | (refine drec_no (by omega) ?_)
                 | (intro _)
                 | fail)
        all_goals (conv => whnf)
        all_goals exact leafH hq (by subst_vars; rfl) (take_app1 H _)
      · have hn : ¬ nxP l w t := fun h => ha h.2
        rw [if_neg hn, decide_eq_false hn] at hq
        have t1 : decide (f < 0) = true := decide_eq_true (by rw [hf]; omega)
        repeat' (conv => whnf
                 first
                 | (refine Stop.mk ?_)
                 | (refine fO_is (decide_eq_true hm) ?_)
                 | (refine fI_is hf.symm ?_)
                 | (refine fO_is t1 ?_)
                 | (with_reducible refine fI_is (a := f) rfl ?_)
                 | (with_reducible refine fI_is (a := t) rfl ?_)
                 | (with_reducible refine fI_is (a := w) rfl ?_)
                 | (refine fI_gen ?_; intro z hz)
                 | (refine fO_gen ?_; intro z hz)
                 | (refine Exists.intro l (Exists.intro [t] (And.intro rfl (And.intro (hr.app _) (And.intro rfl (And.intro (by decide) (And.intro ((rd_x0 _ _ _ _ _).trans rfl) ?_)))))))
                 | (refine And.intro hT.1 (Exists.intro l (And.intro rfl (And.intro hc (And.intro hl (And.intro (hr.app _) ?_))))))
                 | (refine dec_true (by assumption) ?_)
                 | (refine dec_false (by assumption) ?_)
                 | (refine dec_split (fun h => ?_) (fun h => ?_))
                 | (apply silE)
                 | (refine Both.mk ?_ ?_)
                 | (refine And.intro rfl ?_)
                 | (exact And.intro rfl (And.intro rfl (And.intro rfl rfl)))
                 | (refine And.intro (by first | omega | ((simp only [decide_eq_true_eq, decide_eq_false_iff_not, Bool.and_eq_true, beq_iff_eq, Bool.not_eq_true', Bool.not_eq_false'] at *); omega) | (subst_vars; simp only [Int.ofNat_eq_natCast, tq_not, fq_not, tq_and, fq_and, tq_or, fq_or, tq_beq, fq_beq, tq_bne, fq_bne, tq_dec, fq_dec, one1, V.tup.injEq, V.agg.injEq, List.cons.injEq, V.int.injEq, V.bool.injEq, true_and, and_true, decide_eq_true_eq, decide_eq_false_iff_not, Bool.and_eq_true, Bool.and_eq_false_iff, Bool.or_eq_true, Bool.or_eq_false_iff, Bool.not_eq_true', Bool.not_eq_false', beq_iff_eq, wrap_u32, wrap_i64, wrap_u8, beq_eq_false_iff_ne, ne_eq, bne_iff_ne, bne_eq_false_iff_eq, eq_self, and_self, splice, V.cells, List.take_succ_cons, List.take_zero, List.take_nil, List.drop_zero, List.drop_succ_cons, List.drop_nil, List.cons_append, List.nil_append, List.append_nil, List.length_cons, List.length_nil, Nat.zero_add, Nat.reduceAdd, if_true, if_false, Bool.false_eq_true, beq_self_eq_true, decide_eq_decide, Bool.true_eq_false, or_false, false_or, or_true, true_or, and_false, false_and, not_true_eq_false, not_false_eq_true, Bool.and_true, Bool.true_and, Bool.not_true, Bool.not_false] at *; omega)) ?_)
                 | (refine Exists.intro _ (Exists.intro _ (And.intro rfl ?_)))
                 | (refine Exists.intro _ (And.intro rfl ?_))
                 | (refine Exists.intro _ (Exists.intro _ (Exists.intro _ (Exists.intro _ (And.intro rfl ?_)))))
                 | (refine ld_step rfl (by assumption) rfl ?_)
                 | (refine lds_step rfl (by assumption) rfl ?_)
                 | (refine fL_mk ?_)
                 | (refine fH_mk ?_)
                 | (refine fN_mk ?_)
                 | (refine fLB_mk ?_)
                 | (refine And.intro (by repeat (first | assumption | refine GLB_app ?_)) ?_)
                 | (refine ld_step rfl ((rd_x0 _ _ _ _ _).trans rfl) rfl ?_)
                 | (refine ld_step rfl ((rd_x1 _ _ _ _ _ _).trans rfl) rfl ?_)
                 | (refine ld_step rfl ((rd_x2 _ _ _ _ _ _ _).trans rfl) rfl ?_)
                 | (refine lds_step rfl ((rd_x0 _ _ _ _ _).trans rfl) rfl ?_)
                 | (refine lds_step rfl ((rd_x1 _ _ _ _ _ _).trans rfl) rfl ?_)
                 | (refine lds_step rfl ((rd_x2 _ _ _ _ _ _ _).trans rfl) rfl ?_)
                 | (refine mem_step (st_eq rfl rfl rfl rfl (wr_last _ _ _ _ rfl)) ?_)
                 | (refine drec_yes (by omega) ?_)
                 | (refine drec_no (by omega) ?_)
                 | (intro _)
                 | fail)
        all_goals (conv => whnf)
        all_goals exact leafH hq rfl (take_app1 H _)
    · have hn : ¬ nxP l w t := fun h => hm h.1
      rw [if_neg hn, decide_eq_false hn] at hq
      repeat' (conv => whnf
               first
               | (refine Stop.mk ?_)
               | (refine fO_is (decide_eq_false hm) ?_)
               | (with_reducible refine fI_is (a := t) rfl ?_)
               | (with_reducible refine fI_is (a := w) rfl ?_)
               | (refine fI_gen ?_; intro z hz)
               | (refine fO_gen ?_; intro z hz)
               | (refine Exists.intro l (Exists.intro [t] (And.intro rfl (And.intro (hr.app _) (And.intro rfl (And.intro (by decide) (And.intro ((rd_x0 _ _ _ _ _).trans rfl) ?_)))))))
               | (refine dec_true (by assumption) ?_)
               | (refine dec_false (by assumption) ?_)
               | (refine dec_split (fun h => ?_) (fun h => ?_))
               | (apply silE)
               | (refine Both.mk ?_ ?_)
               | (refine And.intro rfl ?_)
               | (exact And.intro rfl (And.intro rfl (And.intro rfl rfl)))
               | (refine And.intro (by first | omega | ((simp only [decide_eq_true_eq, decide_eq_false_iff_not, Bool.and_eq_true, beq_iff_eq, Bool.not_eq_true', Bool.not_eq_false'] at *); omega) | (subst_vars; simp only [Int.ofNat_eq_natCast, tq_not, fq_not, tq_and, fq_and, tq_or, fq_or, tq_beq, fq_beq, tq_bne, fq_bne, tq_dec, fq_dec, one1, V.tup.injEq, V.agg.injEq, List.cons.injEq, V.int.injEq, V.bool.injEq, true_and, and_true, decide_eq_true_eq, decide_eq_false_iff_not, Bool.and_eq_true, Bool.and_eq_false_iff, Bool.or_eq_true, Bool.or_eq_false_iff, Bool.not_eq_true', Bool.not_eq_false', beq_iff_eq, wrap_u32, wrap_i64, wrap_u8, beq_eq_false_iff_ne, ne_eq, bne_iff_ne, bne_eq_false_iff_eq, eq_self, and_self, splice, V.cells, List.take_succ_cons, List.take_zero, List.take_nil, List.drop_zero, List.drop_succ_cons, List.drop_nil, List.cons_append, List.nil_append, List.append_nil, List.length_cons, List.length_nil, Nat.zero_add, Nat.reduceAdd, if_true, if_false, Bool.false_eq_true, beq_self_eq_true, decide_eq_decide, Bool.true_eq_false, or_false, false_or, or_true, true_or, and_false, false_and, not_true_eq_false, not_false_eq_true, Bool.and_true, Bool.true_and, Bool.not_true, Bool.not_false] at *; omega)) ?_)
               | (refine Exists.intro _ (Exists.intro _ (And.intro rfl ?_)))
               | (refine Exists.intro _ (And.intro rfl ?_))
               | (refine Exists.intro _ (Exists.intro _ (Exists.intro _ (Exists.intro _ (And.intro rfl ?_)))))
               | (refine ld_step rfl (by assumption) rfl ?_)
               | (refine lds_step rfl (by assumption) rfl ?_)
               | (refine fL_mk ?_)
               | (refine fH_mk ?_)
               | (refine fN_mk ?_)
               | (refine fLB_mk ?_)
               | (refine And.intro (by repeat (first | assumption | refine GLB_app ?_)) ?_)
               | (refine ld_step rfl ((rd_x0 _ _ _ _ _).trans rfl) rfl ?_)
               | (refine ld_step rfl ((rd_x1 _ _ _ _ _ _).trans rfl) rfl ?_)
               | (refine ld_step rfl ((rd_x2 _ _ _ _ _ _ _).trans rfl) rfl ?_)
               | (refine lds_step rfl ((rd_x0 _ _ _ _ _).trans rfl) rfl ?_)
               | (refine lds_step rfl ((rd_x1 _ _ _ _ _ _).trans rfl) rfl ?_)
               | (refine lds_step rfl ((rd_x2 _ _ _ _ _ _ _).trans rfl) rfl ?_)
               | (refine mem_step (st_eq rfl rfl rfl rfl (wr_last _ _ _ _ rfl)) ?_)
               | (refine drec_yes (by omega) ?_)
               | (refine drec_no (by omega) ?_)
               | (intro _)
               | fail)
      all_goals (conv => whnf)
      all_goals exact leafH hq rfl (take_app1 H _)
  · exact hs.elim
def wtV (l : List Int) (w : Int) : Nat → Int
  | 0 => -1
  | i + 1 => if wtV l w i < ahV l w i then ahV l w i else wtV l w i
theorem wtV_bd (l : List Int) (w : Int) (hl : 0 < l.length) : ∀ i, -1 ≤ wtV l w i ∧ wtV l w i < (l.length : Int)
  | 0 => by unfold wtV; omega
  | i + 1 => by
    have h1 := wtV_bd l w hl i
    have h2 := ahV_bd l w i
    unfold wtV; split <;> omega
def s10 : Sp := fun vs H Q => match vs with
  | [.sl p n c, .int .i64 w] => ∃ l : List Int, n = l.length ∧ n ≤ c ∧ RdI H p l ∧ Q (.int .i64 (if mayP l w [] then wtV l w l.length else -1)) H false false
  | _ => False
theorem m10 : Mono s10 := by
  intro vs H Q Q' hQ h
  unfold s10 at h ⊢
  split at h
  all_goals first
    | exact h.elim
    | (repeat' (first | exact hQ _ _ _ _ h | refine And.imp_right (fun h => ?_) h | refine Exists.imp (fun _ h => ?_) h | (intro z; replace h := h z)))
theorem k10 : Snd Try.prog 0 10 s10 := by
  refine snd_of_ev (by kernel_rfl) (C := tab [(15, s15), (16, s16)]) (sndC_cons k15 (sndC_cons k16 (sndC_nil))) x10 n10 c10 200 ?_
  have hC : MonoC (tab [(15, s15), (16, s16)]) := monoC_cons m15 (monoC_cons m16 (monoC_nil))
  intro vs Hx Q hs
  unfold s10 at hs
  split at hs
  · rename_i p n c w
    obtain ⟨l, rfl, hc, hr, hq⟩ := hs
    by_cases hm : mayP l w []
    · have hl : 1 ≤ l.length ∧ l.length ≤ 32 := ⟨hm.1.1, hm.1.2.1⟩
      rw [if_pos hm] at hq
      suffices hh : ∀ k, 100 < k → evFun (tab [(15, s15), (16, s16)]) k e10 [.sl p l.length c, .int .i64 w] Hx Q from hh _ (by omega)
      intro k hk
      refine evFun_in (tm := SV.v (.sl p l.length c) :: SV.v (.int .i64 w) :: undefV :: undefV :: undefV :: undefV :: undefV :: undefV :: undefV :: undefV :: undefV :: undefV :: undefV :: undefV :: undefV :: undefV :: undefV :: undefV :: undefV :: undefV :: undefV :: undefV :: undefV :: undefV :: []) rfl ?_
      show rC _ _ r10_0 _ _ _ _ _ _
      refine rC_seqH ?_
      repeat' (conv => whnf
               first
               | (refine Stop.mk ?_)
               | (refine fI_gen ?_; intro z hz)
               | (refine fO_gen ?_; intro z hz)
               | (refine dec_true (by assumption) ?_)
               | (refine dec_false (by assumption) ?_)
               | (refine dec_split (fun h => ?_) (fun h => ?_))
               | (apply silE)
               | (refine Both.mk ?_ ?_)
               | (refine And.intro rfl ?_)
               | (exact And.intro rfl (And.intro rfl (And.intro rfl rfl)))
               | (refine And.intro (by first | omega | ((simp only [decide_eq_true_eq, decide_eq_false_iff_not, Bool.and_eq_true, beq_iff_eq, Bool.not_eq_true', Bool.not_eq_false'] at *); omega) | (subst_vars; simp only [Int.ofNat_eq_natCast, tq_not, fq_not, tq_and, fq_and, tq_or, fq_or, tq_beq, fq_beq, tq_bne, fq_bne, tq_dec, fq_dec, one1, V.tup.injEq, V.agg.injEq, List.cons.injEq, V.int.injEq, V.bool.injEq, true_and, and_true, decide_eq_true_eq, decide_eq_false_iff_not, Bool.and_eq_true, Bool.and_eq_false_iff, Bool.or_eq_true, Bool.or_eq_false_iff, Bool.not_eq_true', Bool.not_eq_false', beq_iff_eq, wrap_u32, wrap_i64, wrap_u8, beq_eq_false_iff_ne, ne_eq, bne_iff_ne, bne_eq_false_iff_eq, eq_self, and_self, splice, V.cells, List.take_succ_cons, List.take_zero, List.take_nil, List.drop_zero, List.drop_succ_cons, List.drop_nil, List.cons_append, List.nil_append, List.append_nil, List.length_cons, List.length_nil, Nat.zero_add, Nat.reduceAdd, if_true, if_false, Bool.false_eq_true, beq_self_eq_true, decide_eq_decide, Bool.true_eq_false, or_false, false_or, or_true, true_or, and_false, false_and, not_true_eq_false, not_false_eq_true, Bool.and_true, Bool.true_and, Bool.not_true, Bool.not_false] at *; omega)) ?_)
               | (refine Exists.intro _ (Exists.intro _ (And.intro rfl ?_)))
               | (refine Exists.intro _ (And.intro rfl ?_))
               | (refine Exists.intro _ (Exists.intro _ (Exists.intro _ (Exists.intro _ (And.intro rfl ?_)))))
               | (refine ld_step rfl (by assumption) rfl ?_)
               | (refine lds_step rfl (by assumption) rfl ?_)
               | (refine fL_mk ?_)
               | (refine fH_mk ?_)
               | (refine fN_mk ?_)
               | (refine fLB_mk ?_)
               | (refine And.intro (by repeat (first | assumption | refine GLB_app ?_)) ?_)
               | (refine ld_step rfl ((rd_x0 _ _ _ _ _).trans rfl) rfl ?_)
               | (refine ld_step rfl ((rd_x1 _ _ _ _ _ _).trans rfl) rfl ?_)
               | (refine ld_step rfl ((rd_x2 _ _ _ _ _ _ _).trans rfl) rfl ?_)
               | (refine lds_step rfl ((rd_x0 _ _ _ _ _).trans rfl) rfl ?_)
               | (refine lds_step rfl ((rd_x1 _ _ _ _ _ _).trans rfl) rfl ?_)
               | (refine lds_step rfl ((rd_x2 _ _ _ _ _ _ _).trans rfl) rfl ?_)
               | (refine mem_step (st_eq rfl rfl rfl rfl (wr_last _ _ _ _ rfl)) ?_)
               | (refine drec_yes (by omega) ?_)
               | (refine drec_no (by omega) ?_)
               | (intro _)
               | fail)
      any_goals refine Halt.mk ?_
      any_goals show rC _ _ r10_1 _ _ _ _ _ _
      refine rC_seqH ?_
      repeat' (conv => whnf
               first
               | (refine Stop.mk ?_)
               | (refine fO_is (decide_eq_true hm) ?_)
               | (with_reducible refine fI_is (a := w) rfl ?_)
               | (refine fI_gen ?_; intro z hz)
               | (refine fO_gen ?_; intro z hz)
               | (refine ⟨l, [], rfl, hr, rfl, by decide, rfl, ?_⟩)
               | (refine dec_true (by assumption) ?_)
               | (refine dec_false (by assumption) ?_)
               | (refine dec_split (fun h => ?_) (fun h => ?_))
               | (apply silE)
               | (refine Both.mk ?_ ?_)
               | (refine And.intro rfl ?_)
               | (exact And.intro rfl (And.intro rfl (And.intro rfl rfl)))
               | (refine And.intro (by first | omega | ((simp only [decide_eq_true_eq, decide_eq_false_iff_not, Bool.and_eq_true, beq_iff_eq, Bool.not_eq_true', Bool.not_eq_false'] at *); omega) | (subst_vars; simp only [Int.ofNat_eq_natCast, tq_not, fq_not, tq_and, fq_and, tq_or, fq_or, tq_beq, fq_beq, tq_bne, fq_bne, tq_dec, fq_dec, one1, V.tup.injEq, V.agg.injEq, List.cons.injEq, V.int.injEq, V.bool.injEq, true_and, and_true, decide_eq_true_eq, decide_eq_false_iff_not, Bool.and_eq_true, Bool.and_eq_false_iff, Bool.or_eq_true, Bool.or_eq_false_iff, Bool.not_eq_true', Bool.not_eq_false', beq_iff_eq, wrap_u32, wrap_i64, wrap_u8, beq_eq_false_iff_ne, ne_eq, bne_iff_ne, bne_eq_false_iff_eq, eq_self, and_self, splice, V.cells, List.take_succ_cons, List.take_zero, List.take_nil, List.drop_zero, List.drop_succ_cons, List.drop_nil, List.cons_append, List.nil_append, List.append_nil, List.length_cons, List.length_nil, Nat.zero_add, Nat.reduceAdd, if_true, if_false, Bool.false_eq_true, beq_self_eq_true, decide_eq_decide, Bool.true_eq_false, or_false, false_or, or_true, true_or, and_false, false_and, not_true_eq_false, not_false_eq_true, Bool.and_true, Bool.true_and, Bool.not_true, Bool.not_false] at *; omega)) ?_)
               | (refine Exists.intro _ (Exists.intro _ (And.intro rfl ?_)))
               | (refine Exists.intro _ (And.intro rfl ?_))
               | (refine Exists.intro _ (Exists.intro _ (Exists.intro _ (Exists.intro _ (And.intro rfl ?_)))))
               | (refine ld_step rfl (by assumption) rfl ?_)
               | (refine lds_step rfl (by assumption) rfl ?_)
               | (refine fL_mk ?_)
               | (refine fH_mk ?_)
               | (refine fN_mk ?_)
               | (refine fLB_mk ?_)
               | (refine And.intro (by repeat (first | assumption | refine GLB_app ?_)) ?_)
               | (refine ld_step rfl ((rd_x0 _ _ _ _ _).trans rfl) rfl ?_)
               | (refine ld_step rfl ((rd_x1 _ _ _ _ _ _).trans rfl) rfl ?_)
               | (refine ld_step rfl ((rd_x2 _ _ _ _ _ _ _).trans rfl) rfl ?_)
               | (refine lds_step rfl ((rd_x0 _ _ _ _ _).trans rfl) rfl ?_)
               | (refine lds_step rfl ((rd_x1 _ _ _ _ _ _).trans rfl) rfl ?_)
               | (refine lds_step rfl ((rd_x2 _ _ _ _ _ _ _).trans rfl) rfl ?_)
               | (refine mem_step (st_eq rfl rfl rfl rfl (wr_last _ _ _ _ rfl)) ?_)
               | (refine drec_yes (by omega) ?_)
               | (refine drec_no (by omega) ?_)
               | (intro _)
               | fail)
      any_goals refine Halt.mk ?_
      any_goals show rC _ _ r10_2 _ _ _ _ _ _
      refine rC_seqH ?_
      repeat' (conv => whnf
               first
               | (refine Stop.mk ?_)
               | (refine fI_gen ?_; intro z hz)
               | (refine fO_gen ?_; intro z hz)
               | (refine dec_true (by assumption) ?_)
               | (refine dec_false (by assumption) ?_)
               | (refine dec_split (fun h => ?_) (fun h => ?_))
               | (apply silE)
               | (refine Both.mk ?_ ?_)
               | (refine And.intro rfl ?_)
               | (exact And.intro rfl (And.intro rfl (And.intro rfl rfl)))
               | (refine And.intro (by first | omega | ((simp only [decide_eq_true_eq, decide_eq_false_iff_not, Bool.and_eq_true, beq_iff_eq, Bool.not_eq_true', Bool.not_eq_false'] at *); omega) | (subst_vars; simp only [Int.ofNat_eq_natCast, tq_not, fq_not, tq_and, fq_and, tq_or, fq_or, tq_beq, fq_beq, tq_bne, fq_bne, tq_dec, fq_dec, one1, V.tup.injEq, V.agg.injEq, List.cons.injEq, V.int.injEq, V.bool.injEq, true_and, and_true, decide_eq_true_eq, decide_eq_false_iff_not, Bool.and_eq_true, Bool.and_eq_false_iff, Bool.or_eq_true, Bool.or_eq_false_iff, Bool.not_eq_true', Bool.not_eq_false', beq_iff_eq, wrap_u32, wrap_i64, wrap_u8, beq_eq_false_iff_ne, ne_eq, bne_iff_ne, bne_eq_false_iff_eq, eq_self, and_self, splice, V.cells, List.take_succ_cons, List.take_zero, List.take_nil, List.drop_zero, List.drop_succ_cons, List.drop_nil, List.cons_append, List.nil_append, List.append_nil, List.length_cons, List.length_nil, Nat.zero_add, Nat.reduceAdd, if_true, if_false, Bool.false_eq_true, beq_self_eq_true, decide_eq_decide, Bool.true_eq_false, or_false, false_or, or_true, true_or, and_false, false_and, not_true_eq_false, not_false_eq_true, Bool.and_true, Bool.true_and, Bool.not_true, Bool.not_false] at *; omega)) ?_)
               | (refine Exists.intro _ (Exists.intro _ (And.intro rfl ?_)))
               | (refine Exists.intro _ (And.intro rfl ?_))
               | (refine Exists.intro _ (Exists.intro _ (Exists.intro _ (Exists.intro _ (And.intro rfl ?_)))))
               | (refine ld_step rfl (by assumption) rfl ?_)
               | (refine lds_step rfl (by assumption) rfl ?_)
               | (refine fL_mk ?_)
               | (refine fH_mk ?_)
               | (refine fN_mk ?_)
               | (refine fLB_mk ?_)
               | (refine And.intro (by repeat (first | assumption | refine GLB_app ?_)) ?_)
               | (refine ld_step rfl ((rd_x0 _ _ _ _ _).trans rfl) rfl ?_)
               | (refine ld_step rfl ((rd_x1 _ _ _ _ _ _).trans rfl) rfl ?_)
               | (refine ld_step rfl ((rd_x2 _ _ _ _ _ _ _).trans rfl) rfl ?_)
               | (refine lds_step rfl ((rd_x0 _ _ _ _ _).trans rfl) rfl ?_)
               | (refine lds_step rfl ((rd_x1 _ _ _ _ _ _).trans rfl) rfl ?_)
               | (refine lds_step rfl ((rd_x2 _ _ _ _ _ _ _).trans rfl) rfl ?_)
               | (refine mem_step (st_eq rfl rfl rfl rfl (wr_last _ _ _ _ rfl)) ?_)
               | (refine drec_yes (by omega) ?_)
               | (refine drec_no (by omega) ?_)
               | (intro _)
               | fail)
      any_goals refine Halt.mk ?_
      any_goals show rC _ _ r10_3 _ _ _ _ _ _
      repeat' (conv => whnf
               first
               | (refine Stop.mk ?_)
               | (with_reducible refine fI_is (a := (l.length : Int)) rfl ?_)
               | (refine fI_mk ?_)
               | (refine fO_mk ?_)
               | (refine fN_mk ?_)
               | fail)
      conv => whnf
      refine rLoop_ctr (c := rC (tab [(15, s15), (16, s16)]) k l10_0) l.length 13 (false :: false :: false :: false :: false :: true :: true :: false :: false :: false :: false :: false :: false :: false :: true :: true :: true :: true :: true :: true :: true :: true :: true :: false :: []) (fun i tm L H e g => svAt tm 5 = .v (.int .i64 (wtV l w i)) ∧ L = [] ∧ H = Hx ∧ e = false ∧ g = false) (by omega) rfl ⟨rfl, rfl, rfl, rfl, rfl⟩ ?_
      intro i0 hi0
      conv => whnf
      intro j
      conv => whnf
      intro j
      conv => whnf
      intro j
      conv => whnf
      intro j
      conv => whnf
      intro j
      conv => whnf
      intro j
      conv => whnf
      intro j
      conv => whnf
      intro j
      conv => whnf
      intro j
      conv => whnf
      intro j
      conv => whnf
      intro j
      conv => whnf
      refine Halt.mk ?_
      rintro L H' e g ⟨h5, rfl, rfl, rfl, rfl⟩ K kn kx kr
      conv at h5 => lhs; whnf
      subst h5
      repeat' (conv => whnf
               first
               | (refine Stop.mk ?_)
               | (refine fI_mk ?_)
               | (refine fO_mk ?_)
               | (refine fN_mk ?_)
               | fail)
      conv => whnf
      refine dec_split (fun h => ?_) (fun h => ?_)
      · have hlt : i0 < l.length := by have := of_decide_eq_true h; omega
        clear kx kr
        have hb := ahV_bd l w i0
        have hw := wtV_bd l w (by omega) i0
        have he : (if wtV l w i0 < ahV l w ((i0 : Nat) : Int).toNat then ahV l w ((i0 : Nat) : Int).toNat else wtV l w i0) = wtV l w (i0 + 1) := rfl
        repeat' (conv => whnf
                 first
                 | (refine Stop.mk ?_)
                 | (refine fI_is he ?_)
                 | (with_reducible refine fI_is (a := wtV l w i0) rfl ?_)
                 | (with_reducible refine fI_is (a := ahV l w ((i0 : Nat) : Int).toNat) rfl ?_)
                 | (with_reducible refine fI_is (a := wtV l w (i0 + 1)) rfl ?_)
                 | (refine fI_i64 (by first | omega | (simp only [Int.ofNat_eq_natCast] at *; omega)) ?_; intro z hz)
                 | (refine fI_u32 (by first | omega | (simp only [Int.ofNat_eq_natCast] at *; omega)) ?_; intro z hz)
                 | (refine fI_u8 (by first | omega | (simp only [Int.ofNat_eq_natCast] at *; omega)) ?_; intro z hz)
                 | (refine fI_u64 (by first | omega | (simp only [Int.ofNat_eq_natCast] at *; omega)) ?_; intro z hz)
                 | (refine fI_tdiv (by first | omega | (simp only [Int.ofNat_eq_natCast] at *; omega)) ?_; intro z hz)
                 | (refine fI_tmod (by first | omega | (simp only [Int.ofNat_eq_natCast] at *; omega)) ?_; intro z hz)
                 | (refine fI_gen ?_; intro z hz)
                 | (refine fO_gen ?_; intro z hz)
                 | (refine And.intro (by omega) (Exists.intro l (And.intro rfl (And.intro hc (And.intro hl (And.intro hr ?_))))))
                 | (refine dec_true (by assumption) ?_)
                 | (refine dec_false (by assumption) ?_)
                 | (refine dec_split (fun h => ?_) (fun h => ?_))
                 | (apply silE)
                 | (refine Both.mk ?_ ?_)
                 | (refine And.intro rfl ?_)
                 | (exact And.intro rfl (And.intro rfl (And.intro rfl rfl)))
                 | (refine And.intro (by first | omega | ((simp only [decide_eq_true_eq, decide_eq_false_iff_not, Bool.and_eq_true, beq_iff_eq, Bool.not_eq_true', Bool.not_eq_false'] at *); omega) | (subst_vars; simp only [Int.ofNat_eq_natCast, tq_not, fq_not, tq_and, fq_and, tq_or, fq_or, tq_beq, fq_beq, tq_bne, fq_bne, tq_dec, fq_dec, one1, V.tup.injEq, V.agg.injEq, List.cons.injEq, V.int.injEq, V.bool.injEq, true_and, and_true, decide_eq_true_eq, decide_eq_false_iff_not, Bool.and_eq_true, Bool.and_eq_false_iff, Bool.or_eq_true, Bool.or_eq_false_iff, Bool.not_eq_true', Bool.not_eq_false', beq_iff_eq, wrap_u32, wrap_i64, wrap_u8, beq_eq_false_iff_ne, ne_eq, bne_iff_ne, bne_eq_false_iff_eq, eq_self, and_self, splice, V.cells, List.take_succ_cons, List.take_zero, List.take_nil, List.drop_zero, List.drop_succ_cons, List.drop_nil, List.cons_append, List.nil_append, List.append_nil, List.length_cons, List.length_nil, Nat.zero_add, Nat.reduceAdd, if_true, if_false, Bool.false_eq_true, beq_self_eq_true, decide_eq_decide, Bool.true_eq_false, or_false, false_or, or_true, true_or, and_false, false_and, not_true_eq_false, not_false_eq_true, Bool.and_true, Bool.true_and, Bool.not_true, Bool.not_false] at *; omega)) ?_)
                 | (refine Exists.intro _ (Exists.intro _ (And.intro rfl ?_)))
                 | (refine Exists.intro _ (And.intro rfl ?_))
                 | (refine Exists.intro _ (Exists.intro _ (Exists.intro _ (Exists.intro _ (And.intro rfl ?_)))))
                 | (refine ld_step rfl (by assumption) rfl ?_)
                 | (refine lds_step rfl (by assumption) rfl ?_)
                 | (refine fL_mk ?_)
                 | (refine fH_mk ?_)
                 | (refine fN_mk ?_)
                 | (refine fLB_mk ?_)
                 | (refine And.intro (by repeat (first | assumption | refine GLB_app ?_)) ?_)
                 | (refine ld_step rfl ((rd_x0 _ _ _ _ _).trans rfl) rfl ?_)
                 | (refine ld_step rfl ((rd_x1 _ _ _ _ _ _).trans rfl) rfl ?_)
                 | (refine ld_step rfl ((rd_x2 _ _ _ _ _ _ _).trans rfl) rfl ?_)
                 | (refine lds_step rfl ((rd_x0 _ _ _ _ _).trans rfl) rfl ?_)
                 | (refine lds_step rfl ((rd_x1 _ _ _ _ _ _).trans rfl) rfl ?_)
                 | (refine lds_step rfl ((rd_x2 _ _ _ _ _ _ _).trans rfl) rfl ?_)
                 | (refine mem_step (st_eq rfl rfl rfl rfl (wr_last _ _ _ _ rfl)) ?_)
                 | (refine drec_yes (by omega) ?_)
                 | (refine drec_no (by omega) ?_)
                 | (intro _)
                 | fail)
        all_goals (conv => whnf)
        all_goals
          subst hz
          exact kn hlt _ _ _ _ _ rfl ⟨rfl, rfl, rfl, rfl, rfl⟩
      · clear kn kr
        have hie : i0 = l.length := by have := of_decide_eq_false h; omega
        subst hie
        repeat' (conv => whnf
                 first
                 | (refine Stop.mk ?_)
                 | (with_reducible refine fI_is (a := wtV l w l.length) rfl ?_)
                 | (refine fI_gen ?_; intro z hz)
                 | (refine fO_gen ?_; intro z hz)
                 | (refine kx _ _ _ _ _ _ ?_)
                 | (refine dec_true (by assumption) ?_)
                 | (refine dec_false (by assumption) ?_)
                 | (refine dec_split (fun h => ?_) (fun h => ?_))
                 | (apply silE)
                 | (refine Both.mk ?_ ?_)
                 | (refine And.intro rfl ?_)
                 | (exact And.intro rfl (And.intro rfl (And.intro rfl rfl)))
                 | (refine And.intro (by first | omega | ((simp only [decide_eq_true_eq, decide_eq_false_iff_not, Bool.and_eq_true, beq_iff_eq, Bool.not_eq_true', Bool.not_eq_false'] at *); omega) | (subst_vars; simp only [Int.ofNat_eq_natCast, tq_not, fq_not, tq_and, fq_and, tq_or, fq_or, tq_beq, fq_beq, tq_bne, fq_bne, tq_dec, fq_dec, one1, V.tup.injEq, V.agg.injEq, List.cons.injEq, V.int.injEq, V.bool.injEq, true_and, and_true, decide_eq_true_eq, decide_eq_false_iff_not, Bool.and_eq_true, Bool.and_eq_false_iff, Bool.or_eq_true, Bool.or_eq_false_iff, Bool.not_eq_true', Bool.not_eq_false', beq_iff_eq, wrap_u32, wrap_i64, wrap_u8, beq_eq_false_iff_ne, ne_eq, bne_iff_ne, bne_eq_false_iff_eq, eq_self, and_self, splice, V.cells, List.take_succ_cons, List.take_zero, List.take_nil, List.drop_zero, List.drop_succ_cons, List.drop_nil, List.cons_append, List.nil_append, List.append_nil, List.length_cons, List.length_nil, Nat.zero_add, Nat.reduceAdd, if_true, if_false, Bool.false_eq_true, beq_self_eq_true, decide_eq_decide, Bool.true_eq_false, or_false, false_or, or_true, true_or, and_false, false_and, not_true_eq_false, not_false_eq_true, Bool.and_true, Bool.true_and, Bool.not_true, Bool.not_false] at *; omega)) ?_)
                 | (refine Exists.intro _ (Exists.intro _ (And.intro rfl ?_)))
                 | (refine Exists.intro _ (And.intro rfl ?_))
                 | (refine Exists.intro _ (Exists.intro _ (Exists.intro _ (Exists.intro _ (And.intro rfl ?_)))))
                 | (refine ld_step rfl (by assumption) rfl ?_)
                 | (refine lds_step rfl (by assumption) rfl ?_)
                 | (refine fL_mk ?_)
                 | (refine fH_mk ?_)
                 | (refine fN_mk ?_)
                 | (refine fLB_mk ?_)
                 | (refine And.intro (by repeat (first | assumption | refine GLB_app ?_)) ?_)
                 | (refine ld_step rfl ((rd_x0 _ _ _ _ _).trans rfl) rfl ?_)
                 | (refine ld_step rfl ((rd_x1 _ _ _ _ _ _).trans rfl) rfl ?_)
                 | (refine ld_step rfl ((rd_x2 _ _ _ _ _ _ _).trans rfl) rfl ?_)
                 | (refine lds_step rfl ((rd_x0 _ _ _ _ _).trans rfl) rfl ?_)
                 | (refine lds_step rfl ((rd_x1 _ _ _ _ _ _).trans rfl) rfl ?_)
                 | (refine lds_step rfl ((rd_x2 _ _ _ _ _ _ _).trans rfl) rfl ?_)
                 | (refine mem_step (st_eq rfl rfl rfl rfl (wr_last _ _ _ _ rfl)) ?_)
                 | (refine drec_yes (by omega) ?_)
                 | (refine drec_no (by omega) ?_)
                 | (intro _)
                 | fail)
        conv => whnf
        exact leafE hq rfl
    · rw [if_neg hm] at hq
      repeat' (conv => whnf
               first
               | (refine Stop.mk ?_)
               | (refine fO_is (decide_eq_false hm) ?_)
               | (with_reducible refine fI_is (a := w) rfl ?_)
               | (refine fI_gen ?_; intro z hz)
               | (refine fO_gen ?_; intro z hz)
               | (refine ⟨l, [], rfl, hr, rfl, by decide, rfl, ?_⟩)
               | (refine dec_true (by assumption) ?_)
               | (refine dec_false (by assumption) ?_)
               | (refine dec_split (fun h => ?_) (fun h => ?_))
               | (apply silE)
               | (refine Both.mk ?_ ?_)
               | (refine And.intro rfl ?_)
               | (exact And.intro rfl (And.intro rfl (And.intro rfl rfl)))
               | (refine And.intro (by first | omega | ((simp only [decide_eq_true_eq, decide_eq_false_iff_not, Bool.and_eq_true, beq_iff_eq, Bool.not_eq_true', Bool.not_eq_false'] at *); omega) | (subst_vars; simp only [Int.ofNat_eq_natCast, tq_not, fq_not, tq_and, fq_and, tq_or, fq_or, tq_beq, fq_beq, tq_bne, fq_bne, tq_dec, fq_dec, one1, V.tup.injEq, V.agg.injEq, List.cons.injEq, V.int.injEq, V.bool.injEq, true_and, and_true, decide_eq_true_eq, decide_eq_false_iff_not, Bool.and_eq_true, Bool.and_eq_false_iff, Bool.or_eq_true, Bool.or_eq_false_iff, Bool.not_eq_true', Bool.not_eq_false', beq_iff_eq, wrap_u32, wrap_i64, wrap_u8, beq_eq_false_iff_ne, ne_eq, bne_iff_ne, bne_eq_false_iff_eq, eq_self, and_self, splice, V.cells, List.take_succ_cons, List.take_zero, List.take_nil, List.drop_zero, List.drop_succ_cons, List.drop_nil, List.cons_append, List.nil_append, List.append_nil, List.length_cons, List.length_nil, Nat.zero_add, Nat.reduceAdd, if_true, if_false, Bool.false_eq_true, beq_self_eq_true, decide_eq_decide, Bool.true_eq_false, or_false, false_or, or_true, true_or, and_false, false_and, not_true_eq_false, not_false_eq_true, Bool.and_true, Bool.true_and, Bool.not_true, Bool.not_false] at *; omega)) ?_)
               | (refine Exists.intro _ (Exists.intro _ (And.intro rfl ?_)))
               | (refine Exists.intro _ (And.intro rfl ?_))
               | (refine Exists.intro _ (Exists.intro _ (Exists.intro _ (Exists.intro _ (And.intro rfl ?_)))))
               | (refine ld_step rfl (by assumption) rfl ?_)
               | (refine lds_step rfl (by assumption) rfl ?_)
               | (refine fL_mk ?_)
               | (refine fH_mk ?_)
               | (refine fN_mk ?_)
               | (refine fLB_mk ?_)
               | (refine And.intro (by repeat (first | assumption | refine GLB_app ?_)) ?_)
               | (refine ld_step rfl ((rd_x0 _ _ _ _ _).trans rfl) rfl ?_)
               | (refine ld_step rfl ((rd_x1 _ _ _ _ _ _).trans rfl) rfl ?_)
               | (refine ld_step rfl ((rd_x2 _ _ _ _ _ _ _).trans rfl) rfl ?_)
               | (refine lds_step rfl ((rd_x0 _ _ _ _ _).trans rfl) rfl ?_)
               | (refine lds_step rfl ((rd_x1 _ _ _ _ _ _).trans rfl) rfl ?_)
               | (refine lds_step rfl ((rd_x2 _ _ _ _ _ _ _).trans rfl) rfl ?_)
               | (refine mem_step (st_eq rfl rfl rfl rfl (wr_last _ _ _ _ rfl)) ?_)
               | (refine drec_yes (by omega) ?_)
               | (refine drec_no (by omega) ?_)
               | (intro _)
               | fail)
      all_goals (conv => whnf)
      all_goals exact leafE hq rfl
  · exact hs.elim
end Go.Ev
