/- texts joined -/
import Derived.Test.YtmdkhaoppklokaaDoorKaptJ
import Derived.Test.YtmdkhaoppklokaaDoorEvU
import Derived.Test.YtmdkhaoppklokaaDoorKbyt
set_option linter.all false
namespace Go.Ev
open Go Go.Proofs
set_option maxRecDepth 40000
set_option maxHeartbeats 4000000
theorem app_of {H0 H : List B} (hf : ∀ x, x < H0.length → H[x]? = H0[x]?) (hl : H0.length ≤ H.length) : H = H0 ++ H.drop H0.length := by
  have : H.take H0.length = H0 := by
    apply List.ext_getElem?
    intro i
    by_cases hi : i < H0.length
    · rw [List.getElem?_take_of_lt hi, hf i hi]
    · rw [List.getElem?_eq_none (by rw [List.length_take]; omega), List.getElem?_eq_none (by omega)]
  conv => lhs; rw [← List.take_append_drop H0.length H, this]

theorem k39 : Snd Tryd.prog 2 39 s39 := by
  refine snd_of_ev (by kernel_rfl) (C := tab [(50, s50), (46, s46B)]) (sndC_cons k50 (sndC_cons k46B (sndC_nil))) x39 n39 c39 60 ?_
  intro vs Hx Q hs
  unfold s39 at hs
  split at hs
  · rename_i lb lo lc
    obtain ⟨v, hrd, hq⟩ := hs
    have hlb := rd_lt (hrd 0 (by decide))
    have hP0 : BagPB Hx [] (Hx ++ [.rw 83 (bagB (.sl none 0 0))]) := ⟨fun x hx => List.getElem?_append_left hx, by rw [List.length_append]; exact Nat.lt_succ_self _, _, List.getElem?_concat_length, Or.inl ⟨rfl, rfl⟩⟩
    rcases hq with ⟨hv, hq⟩ | ⟨b, c, n, hr, hq⟩
    · have hl : ∀ {H : List B}, (∀ x, x < Hx.length → H[x]? = Hx[x]?) → ∀ k, k < 2 → ∀ p, p = lo + k * 1 → rd H lb p 1 = some [.sl none 0 0] := fun hf k hk p hp => by rw [hp, Nat.mul_one, rd_same (hrd k hk) (hf lb hlb), hv k hk]
      have hq1 : ∀ (H' : List B) e g, (∀ x, x < Hx.length → H'[x]? = Hx[x]?) → Hx.length ≤ H'.length → Q (.bool true) H' e g := fun H' e g q1 q2 => by rw [app_of q1 q2]; exact hq _ e g
      have hq2 : ∀ (H2 Y : List B) e g, BagPB Hx ([.sl none 0 0] ++ [.sl none 0 0]) H2 → Q (.bool true) (H2 ++ Y) e g := fun H2 Y e g hP => hq1 _ e g (fun x hx => (List.getElem?_append_left (by have := hP.2.1; omega)).trans (hP.1 x hx)) (by rw [List.length_append]; have := hP.2.1; omega)
      have hq3 : ∀ (H2 Y : List B) e g, BagPB Hx ([.sl none 0 0] ++ [.sl none 0 0]) H2 → Q (.bool true) ((H2 ++ Y).take Hx.length) e g := fun H2 Y e g hP => hq1 _ e g (fun x hx => by rw [List.getElem?_take_of_lt hx]; exact (List.getElem?_append_left (by have := hP.2.1; omega)).trans (hP.1 x hx)) (by rw [List.length_take, List.length_append]; have := hP.2.1; omega)
      repeat' (conv => whnf
               first | (refine Stop.mk ?_) | (refine fO_gen ?_; intro z hz) | (refine ld_step rfl (hl hP1.1 1 (by decide) _ rfl) rfl ?_) | (refine ld_step rfl (hl hP0.1 0 (by decide) _ rfl) rfl ?_) | (refine ⟨Hx, [], rfl, hP0, Nat.zero_le _, ?_⟩; intro H1 e1 g1 hP1) | (refine ⟨Hx, [.sl none 0 0], rfl, hP1, Nat.le_refl _, ?_⟩; intro H2 e2 g2 hP2) | (refine ⟨Hx, v, rfl, (by rw [hv 0 (by decide), hv 1 (by decide)]; exact hP2), Or.inl ⟨hv, ?_⟩⟩; intro Y e3 g3) | (refine fH_mk ?_) | (refine fN_mk ?_) | fail)
      all_goals subst_vars; cases e1 <;> cases e2 <;> cases e3 <;> cases g1 <;> cases g2 <;> cases g3
      all_goals (conv => whnf)
      all_goals first
        | first | exact hq2 _ _ _ _ hP2 | exact hq3 _ _ _ _ hP2
        | skip
      all_goals
        repeat' (conv => whnf
                 first | (refine Stop.mk ?_) | (first | exact hq2 _ _ _ _ hP2 | exact hq3 _ _ _ _ hP2) | (refine fH_mk ?_) | fail)
      all_goals (conv => whnf)
      all_goals first
        | first | exact hq2 _ _ _ _ hP2 | exact hq3 _ _ _ _ hP2
        | trace_state
    · have hv := hr.2.2.1
      have hl : ∀ {H : List B}, (∀ x, x < Hx.length → H[x]? = Hx[x]?) → ∀ k, k < 2 → ∀ p, p = lo + k * 1 → rd H lb p 1 = some [.sl (some (b k, 0)) n (c k)] := fun hf k hk p hp => by rw [hp, Nat.mul_one, rd_same (hrd k hk) (hf lb hlb), hv k hk]
      have hbl : ∀ k, k < 2 → b k < Hx.length := fun k hk => (hr.2.2.2 k hk).2.lt
      have hr2 : ∀ {H : List B}, (∀ x, x < Hx.length → H[x]? = Hx[x]?) → rowsB H v b c n := fun hf => ⟨hr.1, hr.2.1, hv, fun k hk => ⟨(hr.2.2.2 k hk).1, (hr.2.2.2 k hk).2.same (hf _ (hbl k hk))⟩⟩
      have hq2 : ∀ (H2 H3 : List B) e g, BagPB Hx ([.sl (some (b 0, 0)) n (c 0)] ++ [.sl (some (b 1, 0)) n (c 1)]) H2 → (∀ x, x < H2.length → x ≠ b 0 → x ≠ b 1 → H3[x]? = H2[x]?) → H2.length ≤ H3.length → Q (.bool true) H3 e g := fun H2 H3 e g hP q1 q2 => hq _ e g (fun x hx h0 h1 => (q1 x (by have := hP.2.1; omega) h0 h1).trans (hP.1 x hx)) (by have := hP.2.1; omega)
      have hq3 : ∀ (H2 H3 : List B) e g, BagPB Hx ([.sl (some (b 0, 0)) n (c 0)] ++ [.sl (some (b 1, 0)) n (c 1)]) H2 → (∀ x, x < H2.length → x ≠ b 0 → x ≠ b 1 → H3[x]? = H2[x]?) → H2.length ≤ H3.length → Q (.bool true) (H3.take Hx.length) e g := fun H2 H3 e g hP q1 q2 => hq _ e g (fun x hx h0 h1 => by rw [List.getElem?_take_of_lt hx]; exact (q1 x (by have := hP.2.1; omega) h0 h1).trans (hP.1 x hx)) (by rw [List.length_take]; have := hP.2.1; omega)
      repeat' (conv => whnf
               first | (refine Stop.mk ?_) | (refine fO_gen ?_; intro z hz) | (refine ld_step rfl (hl hP1.1 1 (by decide) _ rfl) rfl ?_) | (refine ld_step rfl (hl hP0.1 0 (by decide) _ rfl) rfl ?_) | (refine ⟨Hx, [], rfl, hP0, Nat.zero_le _, ?_⟩; intro H1 e1 g1 hP1) | (refine ⟨Hx, [.sl (some (b 0, 0)) n (c 0)], rfl, hP1, Nat.le_refl _, ?_⟩; intro H2 e2 g2 hP2) | (refine ⟨Hx, v, rfl, (by rw [hv 0 (by decide), hv 1 (by decide)]; exact hP2), Or.inr ⟨b, c, n, hr2 hP2.1, hbl, ?_⟩⟩; intro H3 e3 g3 q1 q2) | (refine fH_mk ?_) | (refine fN_mk ?_) | fail)
      all_goals subst_vars; cases e1 <;> cases e2 <;> cases e3 <;> cases g1 <;> cases g2 <;> cases g3
      all_goals (conv => whnf)
      all_goals first
        | first | exact hq2 _ _ _ _ hP2 q1 q2 | exact hq3 _ _ _ _ hP2 q1 q2
        | skip
      all_goals
        repeat' (conv => whnf
                 first | (refine Stop.mk ?_) | (first | exact hq2 _ _ _ _ hP2 q1 q2 | exact hq3 _ _ _ _ hP2 q1 q2) | (refine fH_mk ?_) | fail)
      all_goals (conv => whnf)
      all_goals first
        | first | exact hq2 _ _ _ _ hP2 q1 q2 | exact hq3 _ _ _ _ hP2 q1 q2
        | trace_state
  · exact hs.elim

theorem k31 : Snd Tryd.prog 2 31 s31 := by
  refine snd_of_ev (by kernel_rfl) (C := tab [(45, s45), (46, s46I)]) (sndC_cons k45 (sndC_cons k46I (sndC_nil))) x31 n31 c31 60 ?_
  intro vs Hx Q hs
  unfold s31 at hs
  split at hs
  · rename_i lb lo lc
    obtain ⟨v, hrd, hq⟩ := hs
    have hlb := rd_lt (hrd 0 (by decide))
    have hP0 : BagPI Hx [] (Hx ++ [.rw 83 (bagI (.sl none 0 0))]) := ⟨fun x hx => List.getElem?_append_left hx, by rw [List.length_append]; exact Nat.lt_succ_self _, _, List.getElem?_concat_length, Or.inl ⟨rfl, rfl⟩⟩
    rcases hq with ⟨hv, hq⟩ | ⟨b, c, n, hr, hq⟩
    · have hl : ∀ {H : List B}, (∀ x, x < Hx.length → H[x]? = Hx[x]?) → ∀ k, k < 2 → ∀ p, p = lo + k * 1 → rd H lb p 1 = some [.sl none 0 0] := fun hf k hk p hp => by rw [hp, Nat.mul_one, rd_same (hrd k hk) (hf lb hlb), hv k hk]
      have hq1 : ∀ (H' : List B) e g, (∀ x, x < Hx.length → H'[x]? = Hx[x]?) → Hx.length ≤ H'.length → Q (.bool true) H' e g := fun H' e g q1 q2 => by rw [app_of q1 q2]; exact hq _ e g
      have hq2 : ∀ (H2 Y : List B) e g, BagPI Hx ([.sl none 0 0] ++ [.sl none 0 0]) H2 → Q (.bool true) (H2 ++ Y) e g := fun H2 Y e g hP => hq1 _ e g (fun x hx => (List.getElem?_append_left (by have := hP.2.1; omega)).trans (hP.1 x hx)) (by rw [List.length_append]; have := hP.2.1; omega)
      have hq3 : ∀ (H2 Y : List B) e g, BagPI Hx ([.sl none 0 0] ++ [.sl none 0 0]) H2 → Q (.bool true) ((H2 ++ Y).take Hx.length) e g := fun H2 Y e g hP => hq1 _ e g (fun x hx => by rw [List.getElem?_take_of_lt hx]; exact (List.getElem?_append_left (by have := hP.2.1; omega)).trans (hP.1 x hx)) (by rw [List.length_take, List.length_append]; have := hP.2.1; omega)
      repeat' (conv => whnf
               first | (refine Stop.mk ?_) | (refine fO_gen ?_; intro z hz) | (refine ld_step rfl (hl hP1.1 1 (by decide) _ rfl) rfl ?_) | (refine ld_step rfl (hl hP0.1 0 (by decide) _ rfl) rfl ?_) | (refine ⟨Hx, [], rfl, hP0, Nat.zero_le _, ?_⟩; intro H1 e1 g1 hP1) | (refine ⟨Hx, [.sl none 0 0], rfl, hP1, Nat.le_refl _, ?_⟩; intro H2 e2 g2 hP2) | (refine ⟨Hx, v, rfl, (by rw [hv 0 (by decide), hv 1 (by decide)]; exact hP2), Or.inl ⟨hv, ?_⟩⟩; intro Y e3 g3) | (refine fH_mk ?_) | (refine fN_mk ?_) | fail)
      all_goals subst_vars; cases e1 <;> cases e2 <;> cases e3 <;> cases g1 <;> cases g2 <;> cases g3
      all_goals (conv => whnf)
      all_goals first
        | first | exact hq2 _ _ _ _ hP2 | exact hq3 _ _ _ _ hP2
        | skip
      all_goals
        repeat' (conv => whnf
                 first | (refine Stop.mk ?_) | (first | exact hq2 _ _ _ _ hP2 | exact hq3 _ _ _ _ hP2) | (refine fH_mk ?_) | fail)
      all_goals (conv => whnf)
      all_goals first
        | first | exact hq2 _ _ _ _ hP2 | exact hq3 _ _ _ _ hP2
        | trace_state
    · have hv := hr.2.2.1
      have hl : ∀ {H : List B}, (∀ x, x < Hx.length → H[x]? = Hx[x]?) → ∀ k, k < 2 → ∀ p, p = lo + k * 1 → rd H lb p 1 = some [.sl (some (b k, 0)) n (c k)] := fun hf k hk p hp => by rw [hp, Nat.mul_one, rd_same (hrd k hk) (hf lb hlb), hv k hk]
      have hbl : ∀ k, k < 2 → b k < Hx.length := fun k hk => (hr.2.2.2 k hk).2.lt
      have hr2 : ∀ {H : List B}, (∀ x, x < Hx.length → H[x]? = Hx[x]?) → rowsI H v b c n := fun hf => ⟨hr.1, hr.2.1, hv, fun k hk => ⟨(hr.2.2.2 k hk).1, (hr.2.2.2 k hk).2.same (hf _ (hbl k hk))⟩⟩
      have hq2 : ∀ (H2 H3 : List B) e g, BagPI Hx ([.sl (some (b 0, 0)) n (c 0)] ++ [.sl (some (b 1, 0)) n (c 1)]) H2 → (∀ x, x < H2.length → x ≠ b 0 → x ≠ b 1 → H3[x]? = H2[x]?) → H2.length ≤ H3.length → Q (.bool true) H3 e g := fun H2 H3 e g hP q1 q2 => hq _ e g (fun x hx h0 h1 => (q1 x (by have := hP.2.1; omega) h0 h1).trans (hP.1 x hx)) (by have := hP.2.1; omega)
      have hq3 : ∀ (H2 H3 : List B) e g, BagPI Hx ([.sl (some (b 0, 0)) n (c 0)] ++ [.sl (some (b 1, 0)) n (c 1)]) H2 → (∀ x, x < H2.length → x ≠ b 0 → x ≠ b 1 → H3[x]? = H2[x]?) → H2.length ≤ H3.length → Q (.bool true) (H3.take Hx.length) e g := fun H2 H3 e g hP q1 q2 => hq _ e g (fun x hx h0 h1 => by rw [List.getElem?_take_of_lt hx]; exact (q1 x (by have := hP.2.1; omega) h0 h1).trans (hP.1 x hx)) (by rw [List.length_take]; have := hP.2.1; omega)
      repeat' (conv => whnf
               first | (refine Stop.mk ?_) | (refine fO_gen ?_; intro z hz) | (refine ld_step rfl (hl hP1.1 1 (by decide) _ rfl) rfl ?_) | (refine ld_step rfl (hl hP0.1 0 (by decide) _ rfl) rfl ?_) | (refine ⟨Hx, [], rfl, hP0, Nat.zero_le _, ?_⟩; intro H1 e1 g1 hP1) | (refine ⟨Hx, [.sl (some (b 0, 0)) n (c 0)], rfl, hP1, Nat.le_refl _, ?_⟩; intro H2 e2 g2 hP2) | (refine ⟨Hx, v, rfl, (by rw [hv 0 (by decide), hv 1 (by decide)]; exact hP2), Or.inr ⟨b, c, n, hr2 hP2.1, hbl, ?_⟩⟩; intro H3 e3 g3 q1 q2) | (refine fH_mk ?_) | (refine fN_mk ?_) | fail)
      all_goals subst_vars; cases e1 <;> cases e2 <;> cases e3 <;> cases g1 <;> cases g2 <;> cases g3
      all_goals (conv => whnf)
      all_goals first
        | first | exact hq2 _ _ _ _ hP2 q1 q2 | exact hq3 _ _ _ _ hP2 q1 q2
        | skip
      all_goals
        repeat' (conv => whnf
                 first | (refine Stop.mk ?_) | (first | exact hq2 _ _ _ _ hP2 q1 q2 | exact hq3 _ _ _ _ hP2 q1 q2) | (refine fH_mk ?_) | fail)
      all_goals (conv => whnf)
      all_goals first
        | first | exact hq2 _ _ _ _ hP2 q1 q2 | exact hq3 _ _ _ _ hP2 q1 q2
        | trace_state
  · exact hs.elim
end Go.Ev

set_option linter.all false
namespace Go.Ev
open Go Go.Proofs
set_option maxRecDepth 10000
set_option maxHeartbeats 4000000
theorem blk_app {H : List B} {b : Nat} {x : B} (h : H[b]? = some x) (X : List B) : (H ++ X)[b]? = some x := (List.getElem?_append_left (List.getElem?_eq_some_iff.1 h).1).trans h
theorem rows_two {H : List B} {b1 b2 c1 c2 n : Nat} {l1 l2 : List Int} {w1 w2 : List V} (hne : b1 ≠ b2) (hn : n ≤ 4096) (h1 : H[b1]? = some (.rw 5 (l1.flatMap encB ++ w1))) (hl1 : l1.length = n) (hn1 : n ≤ c1) (hw1 : w1.length = c1 - n) (h2 : H[b2]? = some (.rw 5 (l2.flatMap encB ++ w2))) (hl2 : l2.length = n) (hn2 : n ≤ c2) (hw2 : w2.length = c2 - n) :
    rowsB H (fun k => if k = 0 then .sl (some (b1, 0)) n c1 else .sl (some (b2, 0)) n c2) (fun k => if k = 0 then b1 else b2) (fun k => if k = 0 then c1 else c2) n := by
  refine ⟨hn, hne, fun k hk => ?_, fun k hk => ?_⟩
  all_goals
    have : k = 0 ∨ k = 1 := by omega
    rcases this with rfl | rfl
  · rfl
  · rfl
  · exact ⟨hn1, _, h1, by rw [List.length_append, flat_len encB_len, hl1, hw1]; show n * 1 + (c1 - n) = c1; omega, trivial, trivial⟩
  · exact ⟨hn2, _, h2, by rw [List.length_append, flat_len encB_len, hl2, hw2]; show n * 1 + (c2 - n) = c2; omega, trivial, trivial⟩
theorem rdB_blk {H : List B} {b : Nat} {l : List Int} {ws : List V} (h : H[b]? = some (.rw 5 (l.flatMap encB ++ ws))) : RdB H (some (b, 0)) l := rd_block h (flat_len encB_len _)
theorem rd_pair {H : List B} {ty : TypeId} {x y : V} : ∀ k, k < 2 → rd (H ++ [.rw ty [x, y]]) H.length (0 + k) 1 = some [if k = 0 then x else y] := by
  intro k hk
  have : k = 0 ∨ k = 1 := by omega
  rcases this with rfl | rfl
  · exact (rd_x0 _ _ _ _ _).trans rfl
  · exact (rd_x0 _ _ _ _ _).trans rfl
theorem ownK2 {H : List B} {l : List Int} {k : Nat} {Q : Post} (hl : l.length = k) (h : ∀ (b cap : Nat) (X : List B) (ws : List V), H.length ≤ b → k ≤ cap → (H ++ X)[b]? = some (.rw 5 (l.flatMap encB ++ ws)) → ws.length = cap - k → Q (.sl (some (b, 0)) k cap) (H ++ X) false true) : OwnB H l Q := by
  subst hl; exact h
/-- a memory whose first blocks are those of another -/
def Ext (H M : List B) : Prop := H.length ≤ M.length ∧ ∀ x, x < H.length → M[x]? = H[x]?
theorem Ext.refl (H : List B) : Ext H H := ⟨Nat.le_refl _, fun _ _ => rfl⟩
theorem Ext.app {H M : List B} (h : Ext H M) (X : List B) : Ext H (M ++ X) := ⟨by rw [List.length_append]; exact Nat.le_trans h.1 (Nat.le_add_right _ _), fun x hx => (List.getElem?_append_left (Nat.lt_of_lt_of_le hx h.1)).trans (h.2 x hx)⟩
theorem Ext.upd {H M N : List B} {b c : Nat} (h : Ext H M) (hb : H.length ≤ b) (hc : H.length ≤ c) (h1 : ∀ x, x < M.length → x ≠ b → x ≠ c → N[x]? = M[x]?) (h2 : M.length ≤ N.length) : Ext H N :=
  ⟨Nat.le_trans h.1 h2, fun x hx => (h1 x (Nat.lt_of_lt_of_le hx h.1) (by omega) (by omega)).trans (h.2 x hx)⟩
theorem Ext.take {H M : List B} (h : Ext H M) : Ext H (M.take H.length) := ⟨by rw [List.length_take]; have := h.1; omega, fun x hx => by rw [List.getElem?_take_of_lt hx]; exact h.2 x hx⟩
theorem Ext.eq {H M : List B} (h : Ext H M) : M = H ++ M.drop H.length := app_of h.2 h.1
end Go.Ev
