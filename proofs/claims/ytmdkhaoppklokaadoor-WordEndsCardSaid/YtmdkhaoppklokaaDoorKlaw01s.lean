/- dev: WordSums -/
import Derived.Test.YtmdkhaoppklokaaDoorEvU
import Derived.Test.YtmdkhaoppklokaaDoorKsums2
import Derived.Test.YtmdkhaoppklokaaDoorKlaw01w
set_option linter.all false
namespace Go.Ev
open Go Go.Proofs
set_option maxRecDepth 10000
set_option maxHeartbeats 4000000
def s6 : Sp := fun vs H Q => match vs with
  | [.int .u32 a, .int .u32 b] => ((0 ≤ a ∧ a < 4294967296) ∧ (0 ≤ b ∧ b < 4294967296)) ∧ GLB H ∧ ∀ X e g, Q (.bool true) (H ++ X) e g
  | _ => False
theorem m6 : Mono s6 := by
  intro vs H Q Q' hQ h
  unfold s6 at h ⊢
  split at h
  · exact ⟨h.1, h.2.1, fun X e g => hQ _ _ _ _ (h.2.2 X e g)⟩
  · exact h.elim
theorem k6 : Snd Tryd.prog 2 6 s6 := by
  refine snd_of_ev (by kernel_rfl) (C := tab [(9, s9), (22, s22), (23, s23), (24, s24), (25, s25), (26, s26), (27, s27), (28, s28), (29, s29), (30, s30), (31, s31)]) (sndC_cons k9 (sndC_cons k22 (sndC_cons k23 (sndC_cons k24 (sndC_cons k25 (sndC_cons k26 (sndC_cons k27 (sndC_cons k28 (sndC_cons k29 (sndC_cons k30 (sndC_cons k31 (sndC_nil)))))))))))) x6 n6 c6 60 ?_
  intro vs Hx Q hs
  unfold s6 at hs
  split at hs
  · rename_i a b
    obtain ⟨⟨ha, hb⟩, hg, hq⟩ := hs
    have hgA : ∀ X, GLB (Hx ++ X) := fun X => GLB_app hg
    have fin : ∀ (H' : List B) e g, Ext Hx H' → Q (.bool true) H' e g := fun H' e g h => by rw [h.eq]; exact hq _ e g
    have gE : ∀ {M}, Ext Hx M → GLB M := fun h => by rw [h.eq]; exact GLB_app hg
    have w1 : IntKind.u32.wrap (a + b) = (a + b) % 4294967296 := wrap_u32 _
    have w2 : decide (IntKind.u32.wrap (a + b) < a) = decide (4294967296 ≤ a + b) := by rw [wrap_u32, decide_eq_decide]; omega
    obtain ⟨S, hS⟩ : ∃ S, S = (a + b) % 4294967296 := ⟨_, rfl⟩
    obtain ⟨D, hD⟩ : ∃ D, D = (a - b) % 4294967296 := ⟨_, rfl⟩
    obtain ⟨o, ho⟩ : ∃ o, o = decide (4294967296 ≤ a + b) := ⟨_, rfl⟩
    obtain ⟨u, hu⟩ : ∃ u, u = decide (a < b) := ⟨_, rfl⟩
    obtain ⟨fi, hfi⟩ : ∃ fi, fi = firstI a := ⟨_, rfl⟩
    obtain ⟨fb, hfb⟩ : ∃ fb, fb = firstB a := ⟨_, rfl⟩
    obtain ⟨l, hl⟩ : ∃ l, l = onesL a 32 := ⟨_, rfl⟩
    have hlen : l.length ≤ 32 := hl ▸ onesL_len a 32
    by_cases hn : l = []
    · have hn' : onesL a 32 = [] := hl ▸ hn
      repeat' (conv => whnf
               first | (refine Stop.mk ?_) | (refine fI_is (w1.trans hS.symm) ?_) | (refine fO_is (w2.trans ho.symm) ?_) | (refine fO_is ho.symm ?_) | (refine fI_is hD.symm ?_) | (refine fO_is hu.symm ?_) | (refine fI_is hfi.symm ?_) | (refine fO_is hfb.symm ?_) | (refine fO_is (beq_self_eq_true _) ?_) | (refine fO_gen ?_; intro z hz) | (refine And.intro ⟨ha, hb⟩ ?_) | (refine And.intro ha ⟨fun _ => ?_, fun h => absurd hn' h⟩) | (refine And.intro ha ?_) | (refine ⟨[], [], rfl, rfl, by decide, by decide, rfl, rfl, ?_⟩) | (refine ⟨fun k => if k = 0 then .sl none 0 0 else .sl none 0 0, rd_pair, Or.inl ⟨fun k _ => ite_self _, ?_⟩⟩; intro Y5 e5 g5) | (refine And.intro (GLB_app (GLB_app hg)) ?_) | (refine fH_mk ?_) | (refine fN_mk ?_) | fail)
      all_goals (clear hS hD ho hu hfi hfb; subst_vars; cases e5 <;> cases g5)
      all_goals (conv => whnf)
      all_goals first
        | exact fin _ _ _ (Ext.app (Ext.app (Ext.refl _) _) _)
        | exact fin _ _ _ (Ext.take (Ext.app (Ext.app (Ext.refl _) _) _))
        | skip
      all_goals
        repeat' (conv => whnf
                 first | (refine Stop.mk ?_) | (exact fin _ _ _ (Ext.take (Ext.app (Ext.app (Ext.refl _) _) _))) | (refine fH_mk ?_) | fail)
      all_goals (conv => whnf)
      all_goals first
        | exact fin _ _ _ (Ext.app (Ext.app (Ext.refl _) _) _)
        | exact fin _ _ _ (Ext.take (Ext.app (Ext.app (Ext.refl _) _) _))
        | trace_state
    · have hn' : onesL a 32 ≠ [] := hl ▸ hn
      have b1 : ∀ ys, (Hx ++ [B.rw 3 ((l ++ ys).map (V.int .i64))])[Hx.length]? = some (B.rw 3 ((l ++ ys).map (V.int .i64))) := fun ys => List.getElem?_concat_length
      have b2 : ∀ ys ys2, (Hx ++ [B.rw 3 ((l ++ ys).map (V.int .i64))] ++ [B.rw 3 ((l ++ ys2).map (V.int .i64))])[(Hx ++ [B.rw 3 ((l ++ ys).map (V.int .i64))]).length]? = some (B.rw 3 ((l ++ ys2).map (V.int .i64))) := fun ys ys2 => List.getElem?_concat_length
      repeat' (conv => whnf
               first | (refine Stop.mk ?_) | (refine fI_is (w1.trans hS.symm) ?_) | (refine fO_is (w2.trans ho.symm) ?_) | (refine fO_is ho.symm ?_) | (refine fI_is hD.symm ?_) | (refine fO_is hu.symm ?_) | (refine fI_is hfi.symm ?_) | (refine fO_is hfb.symm ?_) | (refine fO_is (beq_self_eq_true _) ?_) | (refine fO_is (decide_eq_true rfl) ?_) | (refine fO_gen ?_; intro z hz) | (refine And.intro ⟨ha, hb⟩ ?_) | (have t_ := p1; refine And.intro ha ⟨fun h => absurd h hn', fun _ => ?_⟩; rw [← hl]; intro b3 cap3 X3 ws3 o1 o2 o3 o4) | (have t_ := q1; refine And.intro ha ⟨fun h => absurd h hn', fun _ => ?_⟩; intro cap2 ys2 p1 p2; rw [← hl] at p1 p2 ⊢) | (refine And.intro ha ⟨fun h => absurd h hn', fun _ => ?_⟩; intro cap1 ys1 q1 q2; rw [← hl] at q1 q2 ⊢) | (refine And.intro ha ?_) | (refine ⟨l, l, rfl, rfl, by omega, by omega, rdJ_map (blk_app (blk_app (b1 ys1) _) _), rdJ_blk o3, ?_⟩) | (refine ⟨fun k => if k = 0 then .sl (some (Hx.length, 0)) l.length cap1 else .sl (some ((Hx ++ [B.rw 3 ((l ++ ys1).map (V.int .i64))]).length, 0)) l.length cap2, rd_pair, Or.inr ⟨fun k => if k = 0 then Hx.length else (Hx ++ [B.rw 3 ((l ++ ys1).map (V.int .i64))]).length, fun k => if k = 0 then cap1 else cap2, l.length, rows_twoI (ys1 := ys1) (ys2 := ys2) (by rw [List.length_append]; show Hx.length ≠ Hx.length + 1; omega) (by omega) (blk_app (blk_app (blk_app (b1 ys1) _) _) _) q1 q2 (blk_app (blk_app (b2 ys1 ys2) _) _) p1 p2, ?_⟩⟩; intro H5 e5 g5 f1 f2) | (refine And.intro (gE (Ext.upd (Ext.app (Ext.app (Ext.app (Ext.app (Ext.refl _) _) _) _) _) (Nat.le_refl _) (show Hx.length ≤ (Hx ++ [_]).length by rw [List.length_append]; omega) f1 f2)) ?_) | (refine fH_mk ?_) | (refine fN_mk ?_) | fail)
      all_goals (clear hS hD ho hu hfi hfb; subst_vars; cases e5 <;> cases g5)
      all_goals (conv => whnf)
      all_goals first
        | exact fin _ _ _ (Ext.upd (Ext.app (Ext.app (Ext.app (Ext.app (Ext.refl _) _) _) _) _) (Nat.le_refl _) (show Hx.length ≤ (Hx ++ [_]).length by rw [List.length_append]; omega) f1 f2)
        | exact fin _ _ _ (Ext.take (Ext.upd (Ext.app (Ext.app (Ext.app (Ext.app (Ext.refl _) _) _) _) _) (Nat.le_refl _) (show Hx.length ≤ (Hx ++ [_]).length by rw [List.length_append]; omega) f1 f2))
        | skip
      all_goals
        repeat' (conv => whnf
                 first | (refine Stop.mk ?_) | (exact fin _ _ _ (Ext.take (Ext.upd (Ext.app (Ext.app (Ext.app (Ext.app (Ext.refl _) _) _) _) _) (Nat.le_refl _) (show Hx.length ≤ (Hx ++ [_]).length by rw [List.length_append]; omega) f1 f2))) | (refine fH_mk ?_) | fail)
      all_goals (conv => whnf)
      all_goals first
        | exact fin _ _ _ (Ext.upd (Ext.app (Ext.app (Ext.app (Ext.app (Ext.refl _) _) _) _) _) (Nat.le_refl _) (show Hx.length ≤ (Hx ++ [_]).length by rw [List.length_append]; omega) f1 f2)
        | exact fin _ _ _ (Ext.take (Ext.upd (Ext.app (Ext.app (Ext.app (Ext.app (Ext.refl _) _) _) _) _) (Nat.le_refl _) (show Hx.length ≤ (Hx ++ [_]).length by rw [List.length_append]; omega) f1 f2))
        | trace_state
  · exact hs.elim
end Go.Ev
