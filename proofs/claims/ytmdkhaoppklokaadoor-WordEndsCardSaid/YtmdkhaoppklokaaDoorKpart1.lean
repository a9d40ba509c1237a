/- texts joined -/
import Derived.Test.YtmdkhaoppklokaaDoorEvU
import Derived.Test.YtmdkhaoppklokaaDoorKbyt
import Derived.Test.YtmdkhaoppklokaaDoorKof
import Derived.Test.YtmdkhaoppklokaaDoorKaptK
set_option linter.all false
namespace Go.Ev
open Go Go.Proofs
set_option maxRecDepth 10000
set_option maxHeartbeats 4000000
def s19z : Sp := fun vs H Q => match vs with
  | [.int .u32 v, .int .i64 n] => ((0 ≤ v ∧ v < 4294967296) ∧ ¬ okS n) ∧ GLB H ∧ Q (.sl none 0 0) H false false
  | _ => False
theorem m19z : Mono s19z := by
  intro vs H Q Q' hQ h
  unfold s19z at h ⊢
  split at h
  all_goals first
    | exact h.elim
    | (repeat' (first | exact hQ _ _ _ _ h | refine And.imp_right (fun h => ?_) h | refine Exists.imp (fun _ h => ?_) h | (intro z; replace h := h z)))
theorem k19z : Snd Tryd.prog 2 19 s19z := by
  refine snd_of_ev (by kernel_rfl) (C := tab [(36, s36)]) (sndC_cons k36 (sndC_nil)) x19 n19 c19 30 ?_
  intro vs H Q hs
  unfold s19z at hs
  split at hs
  · skip
    obtain ⟨hp, hs⟩ := hs
    obtain ⟨hg, hs⟩ := hs
    have hq := hs; clear hs
    have hz := decide_eq_false hp.2
    repeat' (conv => whnf
             first | (refine Stop.mk ?_) | (refine fO_is hz ?_) | (refine And.intro hg ?_) | fail)
    all_goals (conv => whnf)
    all_goals
      exact leafE hq rfl
  · exact hs.elim
def s19u : Sp := fun vs H Q => s19 vs H Q ∨ s19z vs H Q
theorem m19u : Mono s19u := fun vs H Q Q' hQ h => h.imp (m19 vs H Q Q' hQ) (m19z vs H Q Q' hQ)
theorem k19u : Snd Tryd.prog 2 19 s19u := snd_or k19 k19z
def s38z : Sp := fun vs H Q => match vs with
  | [.int .u32 v, .int .i64 n] => ((0 ≤ v ∧ v < 4294967296) ∧ ¬ okS n) ∧ Q (.sl none 0 0) H false false
  | _ => False
theorem k38z : Snd Tryd.prog 2 38 s38z := by
  refine snd_of_ev (by kernel_rfl) (C := tab [(37, s37)]) (sndC_cons k37 (sndC_nil)) x38 n38 c38 30 ?_
  intro vs H Q hs
  unfold s38z at hs
  split at hs
  · rename_i v n
    obtain ⟨hp, hs⟩ := hs
    have hq := hs; clear hs
    have hz := decide_eq_false hp.2; rcases (show (decide ((0 : Int) < n) = true) ∨ (decide ((0 : Int) < n) = false) by cases decide ((0 : Int) < n) <;> simp) with h0 | h0
    all_goals
      repeat' (conv => whnf
               first | (refine Stop.mk ?_) | (refine fO_is hz ?_) | (refine fO_is h0 ?_) | fail)
      all_goals (conv => whnf)
      all_goals
        exact leafE hq rfl
  · exact hs.elim
def s38u : Sp := fun vs H Q => s38 vs H Q ∨ s38z vs H Q
theorem k38u : Snd Tryd.prog 2 38 s38u := snd_or k38 k38z
def s35z : Sp := fun vs H Q => match vs with
  | [.sl p n c] => (¬ okS (n : Int)) ∧ Q (.tup [.int .u32 0, .bool false]) H false false
  | _ => False
theorem k35z : Snd Tryd.prog 2 35 s35z := by
  refine snd_of_ev (by kernel_rfl) (C := tab [(37, s37)]) (sndC_cons k37 (sndC_nil)) x35 n35 c35 30 ?_
  intro vs H Q hs
  unfold s35z at hs
  split at hs
  · rename_i p n c
    obtain ⟨hp, hs⟩ := hs
    have hq := hs; clear hs
    have hz := decide_eq_false hp
    repeat' (conv => whnf
             first | (refine Stop.mk ?_) | (with_reducible refine fI_is (a := (n : Int)) rfl ?_) | (refine fO_is hz ?_) | fail)
    all_goals (conv => whnf)
    all_goals
      exact leafE hq rfl
  · exact hs.elim
def s35u : Sp := fun vs H Q => s35 vs H Q ∨ s35z vs H Q
theorem k35u : Snd Tryd.prog 2 35 s35u := snd_or k35 k35z
def s35g : Sp := fun vs H Q => match vs with
  | [.sl p n cp] => ∃ (l : List Int), n = l.length ∧ (∀ x, x ∈ l → 0 ≤ x ∧ x < 256) ∧ RdB H p l ∧ Q (.tup [.int .u32 (if okS (n : Int) then ofB l else 0), .bool (decide (okS (n : Int)))]) H false false
  | _ => False
theorem k35g : Snd Tryd.prog 2 35 s35g := snd_imp k35u fun vs H Q h => by
  unfold s35g at h
  split at h
  · rename_i p n c
    obtain ⟨l, rfl, hb, hr, hq⟩ := h
    by_cases hok : okS (l.length : Int)
    · obtain ⟨b, o, rfl⟩ := hr.some (i := 0) (by unfold okS at hok; omega)
      rw [if_pos hok, decide_eq_true hok] at hq
      exact Or.inl ⟨l, rfl, hok, hb, hr, hq⟩
    · rw [if_neg hok, decide_eq_false hok] at hq
      exact Or.inr ⟨hok, hq⟩
  · exact h.elim
end Go.Ev

set_option linter.all false
namespace Go.Ev
open Go Go.Proofs
set_option maxRecDepth 10000
set_option maxHeartbeats 4000000
def s14 : Sp := fun vs H Q => match vs with
  | [.int .u32 v, .int .i64 n, .sl p m c] => ((0 ≤ v ∧ v < 4294967296) ∧ (-9223372036854775808 ≤ n ∧ n < 9223372036854775808)) ∧ GLB H ∧ ∃ l : List Int, m = l.length ∧ (∀ x, x ∈ l → 0 ≤ x ∧ x < 256) ∧ RdB H p l ∧ ∀ X e g, Q (.bool true) (H ++ X) e g
  | _ => False
theorem m14 : Mono s14 := by
  intro vs H Q Q' hQ h
  unfold s14 at h ⊢
  split at h
  · obtain ⟨h1, h2, l, h3, h4, h5, h6⟩ := h
    exact ⟨h1, h2, l, h3, h4, h5, fun X e g => hQ _ _ _ _ (h6 X e g)⟩
  · exact h.elim
theorem k14 : Snd Tryd.prog 2 14 s14 := by
  refine snd_of_ev (by kernel_rfl) (C := tab [(17, s17), (34, s34), (18, s18), (35, s35g), (19, s19u), (38, s38u), (36, s36), (37, s37), (20, s20), (39, s39)]) (sndC_cons k17 (sndC_cons k34 (sndC_cons k18 (sndC_cons k35g (sndC_cons k19u (sndC_cons k38u (sndC_cons k36 (sndC_cons k37 (sndC_cons k20 (sndC_cons k39 (sndC_nil))))))))))) x14 n14 c14 60 ?_
  intro vs Hx Q hs
  unfold s14 at hs
  split at hs
  · rename_i v n p m c
    obtain ⟨⟨hv, hin⟩, hg, l, rfl, hb, hr, hq⟩ := hs
    have hgA : ∀ X, GLB (Hx ++ X) := fun X => GLB_app hg
    obtain ⟨A, hA⟩ : ∃ A, A = (if okS (l.length : Int) then ofB l else 0) := ⟨_, rfl⟩
    obtain ⟨D, hD⟩ : ∃ D, D = decide (okS (l.length : Int)) := ⟨_, rfl⟩
    obtain ⟨lw, hlw⟩ : ∃ lw, lw = lowV n v := ⟨_, rfl⟩
    have fin : ∀ (H' : List B) e g, Ext Hx H' → Q (.bool true) H' e g := fun H' e g h => by rw [h.eq]; exact hq _ e g
    by_cases hn : okS n
    · have hbl : (bytesV n.toNat v).length = n.toNat := bytesV_len _ _
      have hn4 : n.toNat ≤ 4 := by unfold okS at hn; omega
      repeat' (conv => whnf
               first | (refine Stop.mk ?_) | (refine fO_is (decide_eq_true hn) ?_) | (refine fI_is hA.symm ?_) | (refine fO_is hD.symm ?_) | (refine fI_is hlw.symm ?_) | (refine fO_is (bne_self_eq_false _) ?_) | (refine fO_is (decide_eq_true rfl) ?_) | (refine fO_gen ?_; intro z hz) | (refine And.intro hv (And.intro hg ?_)) | (refine ⟨hv, ?_⟩) | (refine And.intro hg ⟨l, rfl, hb, hr, ?_⟩) | (refine ⟨l, rfl, hb, hr, ?_⟩) | (have t_ := p1; refine Or.inl (And.intro ⟨hv, hn⟩ ?_); intro b3 c3 X3 ws3 o1 o2 o3 o4) | (have t_ := q1; refine Or.inl (And.intro ⟨hv, hn⟩ (And.intro (hgA _) ?_)); refine ownK2 hbl ?_; intro b2 c2 X2 ws2 p1 p2 p3 p4) | (refine Or.inl (And.intro ⟨hv, hn⟩ (And.intro hg ?_)); refine ownK2 hbl ?_; intro b1 c1 X1 ws1 q1 q2 q3 q4) | (refine ⟨bytesV n.toNat v, bytesV n.toNat v, hbl.symm, hbl.symm, by rw [hbl]; omega, by rw [hbl]; omega, rdB_blk (blk_app (blk_app q3 X2) X3), rdB_blk o3, ?_⟩) | (refine ⟨fun k => if k = 0 then .sl (some (b1, 0)) n.toNat c1 else .sl (some (b2, 0)) n.toNat c2, rd_pair, Or.inr ⟨fun k => if k = 0 then b1 else b2, fun k => if k = 0 then c1 else c2, n.toNat, rows_two ?x1 (by omega) (blk_app (blk_app (blk_app q3 _) _) _) hbl q2 q4 (blk_app (blk_app p3 _) _) hbl p2 p4, ?_⟩⟩; (case x1 => have := (List.getElem?_eq_some_iff.1 q3).1; omega); intro H5 e5 g5 f1 f2) | (refine fH_mk ?_) | (refine fN_mk ?_) | (refine And.intro (by repeat (first | assumption | refine GLB_app ?_)) ?_) | fail)
      all_goals (subst_vars; cases e5 <;> cases g5)
      all_goals (conv => whnf)
      all_goals first
        | exact fin _ _ _ (Ext.upd (Ext.app (Ext.app (Ext.app (Ext.app (Ext.refl _) _) _) _) _) q1 (show Hx.length ≤ b2 by simp only [List.length_append] at p1; omega) f1 f2)
        | exact fin _ _ _ (Ext.take (Ext.upd (Ext.app (Ext.app (Ext.app (Ext.app (Ext.refl _) _) _) _) _) q1 (show Hx.length ≤ b2 by simp only [List.length_append] at p1; omega) f1 f2))
        | skip
      all_goals
        repeat' (conv => whnf
                 first | (refine Stop.mk ?_) | (exact fin _ _ _ (Ext.take (Ext.upd (Ext.app (Ext.app (Ext.app (Ext.app (Ext.refl _) _) _) _) _) q1 (show Hx.length ≤ b2 by simp only [List.length_append] at p1; omega) f1 f2))) | (refine fH_mk ?_) | fail)
      all_goals (conv => whnf)
      all_goals first
        | exact fin _ _ _ (Ext.upd (Ext.app (Ext.app (Ext.app (Ext.app (Ext.refl _) _) _) _) _) q1 (show Hx.length ≤ b2 by simp only [List.length_append] at p1; omega) f1 f2)
        | exact fin _ _ _ (Ext.take (Ext.upd (Ext.app (Ext.app (Ext.app (Ext.app (Ext.refl _) _) _) _) _) q1 (show Hx.length ≤ b2 by simp only [List.length_append] at p1; omega) f1 f2))
        | trace_state
    · repeat' (conv => whnf
               first | (refine Stop.mk ?_) | (refine fO_is (decide_eq_false hn) ?_) | (refine fI_is hA.symm ?_) | (refine fO_is hD.symm ?_) | (refine fI_is (lowV_no hn) ?_) | (refine fO_is (bne_self_eq_false _) ?_) | (refine fO_gen ?_; intro z hz) | (refine And.intro hv (And.intro hg ?_)) | (refine ⟨hv, ?_⟩) | (refine And.intro hg ⟨l, rfl, hb, hr, ?_⟩) | (refine ⟨l, rfl, hb, hr, ?_⟩) | (refine Or.inr (And.intro ⟨hv, hn⟩ (And.intro hg ?_))) | (refine Or.inr (And.intro ⟨hv, hn⟩ ?_)) | (refine ⟨[], [], rfl, rfl, by decide, by decide, rfl, rfl, ?_⟩) | (refine ⟨fun k => if k = 0 then .sl none 0 0 else .sl none 0 0, rd_pair, Or.inl ⟨fun k _ => ite_self _, ?_⟩⟩; intro Y5 e5 g5) | (refine And.intro (by first | omega | ((simp only [decide_eq_true_eq, decide_eq_false_iff_not, Bool.and_eq_true, beq_iff_eq, Bool.not_eq_true', Bool.not_eq_false'] at *); omega) | (subst_vars; simp only [Int.ofNat_eq_natCast, tq_not, fq_not, tq_and, fq_and, tq_or, fq_or, tq_beq, fq_beq, tq_bne, fq_bne, tq_dec, fq_dec, one1, V.tup.injEq, V.agg.injEq, List.cons.injEq, V.int.injEq, V.bool.injEq, true_and, and_true, decide_eq_true_eq, decide_eq_false_iff_not, Bool.and_eq_true, Bool.and_eq_false_iff, Bool.or_eq_true, Bool.or_eq_false_iff, Bool.not_eq_true', Bool.not_eq_false', beq_iff_eq, wrap_u32, wrap_i64, wrap_u8, beq_eq_false_iff_ne, ne_eq, bne_iff_ne, bne_eq_false_iff_eq, eq_self, and_self, splice, V.cells, List.take_succ_cons, List.take_zero, List.take_nil, List.drop_zero, List.drop_succ_cons, List.drop_nil, List.cons_append, List.nil_append, List.append_nil, List.length_cons, List.length_nil, Nat.zero_add, Nat.reduceAdd, if_true, if_false, Bool.false_eq_true, beq_self_eq_true, decide_eq_decide, Bool.true_eq_false, or_false, false_or, or_true, true_or, and_false, false_and, not_true_eq_false, not_false_eq_true, Bool.and_true, Bool.true_and, Bool.not_true, Bool.not_false] at *; omega)) ?_) | (refine fH_mk ?_) | (refine fN_mk ?_) | fail)
      all_goals (subst_vars; cases e5 <;> cases g5)
      all_goals (conv => whnf)
      all_goals first
        | exact fin _ _ _ (Ext.app (Ext.app (Ext.refl _) _) _)
        | exact fin _ _ _ (Ext.take (Ext.app (Ext.app (Ext.refl _) _) _))
        | skip
      all_goals
        repeat' (conv => whnf
                 first | (refine Stop.mk ?_) | (exact fin _ _ _ (Ext.take (Ext.app (Ext.app (Ext.refl _) _) _))) | (refine fH_mk ?_) | fail)
      all_goals (conv => whnf)
      all_goals first
        | exact fin _ _ _ (Ext.app (Ext.app (Ext.refl _) _) _)
        | exact fin _ _ _ (Ext.take (Ext.app (Ext.app (Ext.refl _) _) _))
        | trace_state
  · exact hs.elim
end Go.Ev
