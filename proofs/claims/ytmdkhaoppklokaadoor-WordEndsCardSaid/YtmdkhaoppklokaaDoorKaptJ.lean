/- dev: lists that lie apart: bags -/
import Derived.Test.YtmdkhaoppklokaaDoorKaptNB
import Derived.Test.YtmdkhaoppklokaaDoorKaptB
import Derived.Test.YtmdkhaoppklokaaDoorKaptNI
import Derived.Test.YtmdkhaoppklokaaDoorKaptI
import Derived.Test.YtmdkhaoppklokaaDoorKaptG
set_option linter.all false
namespace Go.Ev
open Go Go.Proofs
set_option maxRecDepth 40000
set_option maxHeartbeats 4000000
theorem rd_two {H : List B} {b : Nat} {ty : TypeId} {cs : List V} {v : Nat → V} (hb : H[b]? = some (.rw ty cs)) (ht : cs.take 2 = [v 0, v 1]) : ∀ k, k < 2 → rd H b (0 + k) 1 = some [v k] := by
  have hl : 2 ≤ cs.length := by have := congrArg List.length ht; rw [List.length_take] at this; simp at this; omega
  intro k hk
  rw [rd_blk hb (by omega)]
  rcases cs with _ | ⟨c0, _ | ⟨c1, cs⟩⟩
  · simp at hl
  · simp at hl
  · have h2 : c0 = v 0 ∧ c1 = v 1 := by simpa using ht
    have : k = 0 ∨ k = 1 := by omega
    rcases this with rfl | rfl
    · rw [← h2.1]; rfl
    · rw [← h2.2]; rfl
/-- 'append', whatever is appended -/
theorem appE {tm : List SV} {L : List LB} {H : List B} {e g : Bool} {ty : TypeId} {bytes : Nat} {zs : List V} {x y : Opd} {K : KV} {w : V} {b m c : Nat} {cs ds : List V}
    (hx : x.val tm = some (.sl (some (b, 0)) m c)) (hy : y.val tm = some w) (hb : H[b]? = some (.rw ty cs)) (hc : cs.length = c) (hm : m ≤ c) (hall : cs.all V.one = true) (hd1 : ds.all V.one = true) (hz1 : zs.all V.one = true) (hn : news H 1 w = some (ds.length, ds))
    (hsz : (m + ds.length) * bytes ≤ 140737488355328) (hsz2 : m + ds.length ≤ 9223372036854775807) (hz : zs.length = 1)
    (hK : ∀ (b' c' : Nat) (cs' : List V) (H' : List B) (e' g' : Bool), H'[b']? = some (.rw ty cs') → cs'.length = c' → cs'.all V.one = true → m + ds.length ≤ c' → cs'.take (m + ds.length) = cs.take m ++ ds → ((b' = b ∧ c' = c) ∨ (H.length ≤ b' ∧ H'[b]? = H[b]?)) → (∀ i, i < H.length → i ≠ b → H'[i]? = H[i]?) → H.length ≤ H'.length → K (.v (.sl (some (b', 0)) (m + ds.length) c')) L H' e' g') :
    AtApp (evApp tm L H e g ty 1 bytes zs x y K) := by
  refine AtApp.mk ?_
  rw [evApp_pos (by decide)]
  unfold evApp0
  rw [hx, hy]
  simp only [hn]
  have hbl : b < H.length := (List.getElem?_eq_some_iff.1 hb).1
  have hone := one_all hall m
  by_cases hcap : m + ds.length ≤ c
  · rw [if_pos hcap]
    have hw := wr_blk hb (o := 0 + m * 1) (vs := ds) (by omega)
    simp only [hw]
    refine hK b c _ _ _ g (by rw [List.getElem?_set, if_pos rfl, if_pos hbl]) (by rw [splice_lenA (by omega)]; exact hc) (one_splice hall hd1) hcap ?_ (Or.inl ⟨rfl, rfl⟩) (fun i hi hne => by rw [List.getElem?_set, if_neg (fun h => hne h.symm)]) (by rw [List.length_set]; exact Nat.le_refl _)
    have := splice_take (cs := cs) (vs := ds) (o := 0 + m * 1) (by omega)
    simpa using this
  · rw [if_neg hcap]
    have ho : olds H 1 (some (b, 0)) m = some (cs.take m) := by
      unfold olds
      have hr := rd_blk hb (show 0 + m * 1 ≤ cs.length by omega)
      rw [List.drop_zero, Nat.mul_one] at hr
      simp only [Nat.mul_one, hr, hone, if_true]
    simp only [ho]
    refine ⟨hsz, hsz2, fun c' h1 h2 => ?_⟩
    refine hK H.length c' _ _ _ true List.getElem?_concat_length ?_ (by rw [List.all_append, List.all_append, hone, hd1, one_reps hz1]; rfl) h1 ?_ (Or.inr ⟨Nat.le_refl _, List.getElem?_append_left hbl⟩) (fun i hi _ => List.getElem?_append_left hi) (by rw [List.length_append]; omega)
    · rw [List.length_append, List.length_append, List.length_take, reps_len1 _ hz]; omega
    · rw [List.take_left' (by rw [List.length_append, List.length_take]; omega)]

def bagB (f : V) : List V := [.sl none 0 0, .sl none 0 0, .sl none 0 0, .sl none 0 0, .sl none 0 0, f, .sl none 0 0, .sl none 0 0, .sl none 0 0, .sl none 0 0, .sl none 0 0, .sl none 0 0, .sl none 0 0, .sl none 0 0, .sl none 0 0, .sl none 0 0, .sl none 0 0]
def BagPB (H0 : List B) (ws : List V) (H : List B) : Prop := (∀ x, x < H0.length → H[x]? = H0[x]?) ∧ H0.length < H.length ∧ ∃ f, H[H0.length]? = some (.rw 83 (bagB f)) ∧
  ((ws = [] ∧ f = .sl none 0 0) ∨ ∃ (b c : Nat) (cs : List V), f = .sl (some (b, 0)) ws.length c ∧ H0.length < b ∧ H[b]? = some (.rw 27 cs) ∧ cs.length = c ∧ cs.all V.one = true ∧ ws.length ≤ c ∧ cs.take ws.length = ws)
theorem BagPB.set {H0 H1 : List B} {ws : List V} {f0 : V} {b c : Nat} {cs : List V} (hfr : ∀ x, x < H0.length → H1[x]? = H0[x]?) (hbag : H1[H0.length]? = some (.rw 83 (bagB f0))) (hb0 : H0.length < b) (hb : H1[b]? = some (.rw 27 cs)) (hc : cs.length = c) (ho : cs.all V.one = true) (hm : ws.length ≤ c) (ht : cs.take ws.length = ws) :
    ∃ H', wr H1 H0.length (0 + 5) [.sl (some (b, 0)) ws.length c] = some H' ∧ BagPB H0 ws H' := by
  have hl := (List.getElem?_eq_some_iff.1 hbag).1
  refine ⟨_, wr_blk hbag (Nat.le_of_ble_eq_true rfl), fun x hx => ?_, by rw [List.length_set]; omega, .sl (some (b, 0)) ws.length c, by rw [List.getElem?_set, if_pos rfl, if_pos hl]; rfl, Or.inr ⟨b, c, cs, rfl, hb0, ?_, hc, ho, hm, ht⟩⟩
  · rw [List.getElem?_set, if_neg (by omega)]; exact hfr x hx
  · rw [List.getElem?_set, if_neg (by omega)]; exact hb
def s50 : Sp := fun vs H Q => match vs with
  | [.ptr (some (i, 0)), .sl p n c] => ∃ (H0 : List B) (ws : List V), i = H0.length ∧ BagPB H0 ws H ∧ ws.length ≤ 1 ∧ ∀ H' e g, BagPB H0 (ws ++ [.sl p n c]) H' → Q (.tup []) H' e g
  | _ => False
theorem k50 : Snd Tryd.prog 2 50 s50 := by
  refine snd_of_ev (by kernel_rfl) (C := tab []) (sndC_nil) x50 n50 c50 60 ?_
  intro vs H Q hs
  unfold s50 at hs
  split at hs
  · rename_i i p n c0
    obtain ⟨H0, ws, rfl, ⟨hfr, hlt, f, hbag, hf⟩, hws, hq⟩ := hs
    have hrd : ∀ q, q = 0 + 5 → rd H H0.length q 1 = some [f] := fun q hq => by rw [hq, rd_blk hbag (Nat.le_of_ble_eq_true rfl)]; rfl
    have hfx : ∀ X : List B, ∀ x, x < H0.length → (H ++ X)[x]? = H0[x]? := fun X x hx => (List.getElem?_append_left (by omega)).trans (hfr x hx)
    rcases hf with ⟨rfl, rfl⟩ | ⟨b, c, cs, rfl, hb0, hb, hc, ho, hm, ht⟩
    · have hfin : ∀ (X : B) (c2 : Nat) (cs2 : List V), cs2.length = c2 → cs2.all V.one = true → 1 ≤ c2 → cs2.take 1 = [.sl p n c0] → ∃ H', wr (H ++ [X] ++ [.rw 27 cs2]) H0.length (0 + 5) [.sl (some ((H ++ [X]).length, 0)) 1 c2] = some H' ∧ BagPB H0 ([] ++ [.sl p n c0]) H' := fun X c2 cs2 q1 q2 q3 q4 =>
        BagPB.set (ws := [.sl p n c0]) (by rw [List.append_assoc]; exact hfx _) ((by rw [List.append_assoc]; exact List.getElem?_append_left hlt : (H ++ [X] ++ [.rw 27 cs2])[H0.length]? = H[H0.length]?).trans hbag) (by rw [List.length_append]; omega) List.getElem?_concat_length q1 q2 q3 q4
      repeat' (conv => whnf
               first | (refine Stop.mk ?_) | (refine ld_step rfl (hrd _ rfl) rfl ?_) | (refine appN (ds := [.sl p n c0]) rfl rfl (news_eq ((rd_x0 _ _ _ _ _).trans rfl) rfl) Nat.one_pos (by show 1 * _ ≤ _; omega) (by show 1 ≤ _; omega) rfl rfl rfl ?_; intro c2 cs2 q1 q2 q3 q4; obtain ⟨H7, hw, hP⟩ := hfin _ c2 cs2 q1 q2 q3 q4) | (refine mem_step (st_eq rfl rfl rfl rfl hw) ?_) | (exact hq _ _ _ hP) | (refine fH_mk ?_) | (refine fN_mk ?_) | fail)
      all_goals (conv => whnf)
      all_goals first
        | exact hq _ _ _ hP
        | trace_state
    · have hbl := (List.getElem?_eq_some_iff.1 hb).1
      have hbx : ∀ X, (H ++ X)[b]? = some (.rw 27 cs) := fun X => (List.getElem?_append_left hbl).trans hb
      have hfin : ∀ (X : List B) (b2 c2 : Nat) (cs2 : List V) (H5 : List B), H5[b2]? = some (.rw 27 cs2) → cs2.length = c2 → cs2.all V.one = true → ws.length + [V.sl p n c0].length ≤ c2 → cs2.take (ws.length + [V.sl p n c0].length) = cs.take ws.length ++ [V.sl p n c0] → ((b2 = b ∧ c2 = c) ∨ ((H ++ X).length ≤ b2 ∧ H5[b]? = (H ++ X)[b]?)) → (∀ x, x < (H ++ X).length → x ≠ b → H5[x]? = (H ++ X)[x]?) → (H ++ X).length ≤ H5.length →
          ∃ H', wr H5 H0.length (0 + 5) [.sl (some (b2, 0)) (ws.length + [V.sl p n c0].length) c2] = some H' ∧ BagPB H0 (ws ++ [.sl p n c0]) H' := by
        intro X b2 c2 cs2 H5 q1 q2 q3 q4 q5 q6 q7 q8
        have hlX : H.length ≤ (H ++ X).length := by rw [List.length_append]; omega
        have hl2 : (ws ++ [V.sl p n c0]).length = ws.length + [V.sl p n c0].length := List.length_append
        rw [← hl2] at q4 q5 ⊢
        refine BagPB.set (fun x hx => (q7 x (by omega) (by omega)).trans (hfx X x hx)) (((q7 _ (by omega) (by omega)).trans (List.getElem?_append_left hlt)).trans hbag) (by rcases q6 with ⟨rfl, _⟩ | ⟨q6, _⟩ <;> omega) q1 q2 q3 q4 (by rw [q5, ht])
      repeat' (conv => whnf
               first | (refine Stop.mk ?_) | (refine fO_gen ?_; intro z hz) | (refine ld_step rfl (hrd _ rfl) rfl ?_) | (refine appE (ds := [V.sl p n c0]) rfl rfl (hbx _) hc hm ho rfl rfl (news_eq ((rd_x0 _ _ _ _ _).trans rfl) rfl) (by show (ws.length + 1) * _ ≤ _; omega) (by show ws.length + 1 ≤ _; omega) rfl ?_; intro b2 c2 cs2 H5 e5 g5 q1 q2 q3 q4 q5 q6 q7 q8; obtain ⟨H7, hw, hP⟩ := hfin _ b2 c2 cs2 H5 q1 q2 q3 q4 q5 q6 q7 q8) | (refine mem_step (st_eq rfl rfl rfl rfl hw) ?_) | (refine fH_mk ?_) | (refine fN_mk ?_) | fail)
      all_goals
        subst hz
        cases e5 <;> cases g5
      all_goals (conv => whnf)
      all_goals first
        | exact hq _ _ _ hP
        | trace_state
  · exact hs.elim

def bagI (f : V) : List V := [.sl none 0 0, .sl none 0 0, f, .sl none 0 0, .sl none 0 0, .sl none 0 0, .sl none 0 0, .sl none 0 0, .sl none 0 0, .sl none 0 0, .sl none 0 0, .sl none 0 0, .sl none 0 0, .sl none 0 0, .sl none 0 0, .sl none 0 0, .sl none 0 0]
def BagPI (H0 : List B) (ws : List V) (H : List B) : Prop := (∀ x, x < H0.length → H[x]? = H0[x]?) ∧ H0.length < H.length ∧ ∃ f, H[H0.length]? = some (.rw 83 (bagI f)) ∧
  ((ws = [] ∧ f = .sl none 0 0) ∨ ∃ (b c : Nat) (cs : List V), f = .sl (some (b, 0)) ws.length c ∧ H0.length < b ∧ H[b]? = some (.rw 41 cs) ∧ cs.length = c ∧ cs.all V.one = true ∧ ws.length ≤ c ∧ cs.take ws.length = ws)
theorem BagPI.set {H0 H1 : List B} {ws : List V} {f0 : V} {b c : Nat} {cs : List V} (hfr : ∀ x, x < H0.length → H1[x]? = H0[x]?) (hbag : H1[H0.length]? = some (.rw 83 (bagI f0))) (hb0 : H0.length < b) (hb : H1[b]? = some (.rw 41 cs)) (hc : cs.length = c) (ho : cs.all V.one = true) (hm : ws.length ≤ c) (ht : cs.take ws.length = ws) :
    ∃ H', wr H1 H0.length (0 + 2) [.sl (some (b, 0)) ws.length c] = some H' ∧ BagPI H0 ws H' := by
  have hl := (List.getElem?_eq_some_iff.1 hbag).1
  refine ⟨_, wr_blk hbag (Nat.le_of_ble_eq_true rfl), fun x hx => ?_, by rw [List.length_set]; omega, .sl (some (b, 0)) ws.length c, by rw [List.getElem?_set, if_pos rfl, if_pos hl]; rfl, Or.inr ⟨b, c, cs, rfl, hb0, ?_, hc, ho, hm, ht⟩⟩
  · rw [List.getElem?_set, if_neg (by omega)]; exact hfr x hx
  · rw [List.getElem?_set, if_neg (by omega)]; exact hb
def s45 : Sp := fun vs H Q => match vs with
  | [.ptr (some (i, 0)), .sl p n c] => ∃ (H0 : List B) (ws : List V), i = H0.length ∧ BagPI H0 ws H ∧ ws.length ≤ 1 ∧ ∀ H' e g, BagPI H0 (ws ++ [.sl p n c]) H' → Q (.tup []) H' e g
  | _ => False
theorem k45 : Snd Tryd.prog 2 45 s45 := by
  refine snd_of_ev (by kernel_rfl) (C := tab []) (sndC_nil) x45 n45 c45 60 ?_
  intro vs H Q hs
  unfold s45 at hs
  split at hs
  · rename_i i p n c0
    obtain ⟨H0, ws, rfl, ⟨hfr, hlt, f, hbag, hf⟩, hws, hq⟩ := hs
    have hrd : ∀ q, q = 0 + 2 → rd H H0.length q 1 = some [f] := fun q hq => by rw [hq, rd_blk hbag (Nat.le_of_ble_eq_true rfl)]; rfl
    have hfx : ∀ X : List B, ∀ x, x < H0.length → (H ++ X)[x]? = H0[x]? := fun X x hx => (List.getElem?_append_left (by omega)).trans (hfr x hx)
    rcases hf with ⟨rfl, rfl⟩ | ⟨b, c, cs, rfl, hb0, hb, hc, ho, hm, ht⟩
    · have hfin : ∀ (X : B) (c2 : Nat) (cs2 : List V), cs2.length = c2 → cs2.all V.one = true → 1 ≤ c2 → cs2.take 1 = [.sl p n c0] → ∃ H', wr (H ++ [X] ++ [.rw 41 cs2]) H0.length (0 + 2) [.sl (some ((H ++ [X]).length, 0)) 1 c2] = some H' ∧ BagPI H0 ([] ++ [.sl p n c0]) H' := fun X c2 cs2 q1 q2 q3 q4 =>
        BagPI.set (ws := [.sl p n c0]) (by rw [List.append_assoc]; exact hfx _) ((by rw [List.append_assoc]; exact List.getElem?_append_left hlt : (H ++ [X] ++ [.rw 41 cs2])[H0.length]? = H[H0.length]?).trans hbag) (by rw [List.length_append]; omega) List.getElem?_concat_length q1 q2 q3 q4
      repeat' (conv => whnf
               first | (refine Stop.mk ?_) | (refine ld_step rfl (hrd _ rfl) rfl ?_) | (refine appN (ds := [.sl p n c0]) rfl rfl (news_eq ((rd_x0 _ _ _ _ _).trans rfl) rfl) Nat.one_pos (by show 1 * _ ≤ _; omega) (by show 1 ≤ _; omega) rfl rfl rfl ?_; intro c2 cs2 q1 q2 q3 q4; obtain ⟨H7, hw, hP⟩ := hfin _ c2 cs2 q1 q2 q3 q4) | (refine mem_step (st_eq rfl rfl rfl rfl hw) ?_) | (exact hq _ _ _ hP) | (refine fH_mk ?_) | (refine fN_mk ?_) | fail)
      all_goals (conv => whnf)
      all_goals first
        | exact hq _ _ _ hP
        | trace_state
    · have hbl := (List.getElem?_eq_some_iff.1 hb).1
      have hbx : ∀ X, (H ++ X)[b]? = some (.rw 41 cs) := fun X => (List.getElem?_append_left hbl).trans hb
      have hfin : ∀ (X : List B) (b2 c2 : Nat) (cs2 : List V) (H5 : List B), H5[b2]? = some (.rw 41 cs2) → cs2.length = c2 → cs2.all V.one = true → ws.length + [V.sl p n c0].length ≤ c2 → cs2.take (ws.length + [V.sl p n c0].length) = cs.take ws.length ++ [V.sl p n c0] → ((b2 = b ∧ c2 = c) ∨ ((H ++ X).length ≤ b2 ∧ H5[b]? = (H ++ X)[b]?)) → (∀ x, x < (H ++ X).length → x ≠ b → H5[x]? = (H ++ X)[x]?) → (H ++ X).length ≤ H5.length →
          ∃ H', wr H5 H0.length (0 + 2) [.sl (some (b2, 0)) (ws.length + [V.sl p n c0].length) c2] = some H' ∧ BagPI H0 (ws ++ [.sl p n c0]) H' := by
        intro X b2 c2 cs2 H5 q1 q2 q3 q4 q5 q6 q7 q8
        have hlX : H.length ≤ (H ++ X).length := by rw [List.length_append]; omega
        have hl2 : (ws ++ [V.sl p n c0]).length = ws.length + [V.sl p n c0].length := List.length_append
        rw [← hl2] at q4 q5 ⊢
        refine BagPI.set (fun x hx => (q7 x (by omega) (by omega)).trans (hfx X x hx)) (((q7 _ (by omega) (by omega)).trans (List.getElem?_append_left hlt)).trans hbag) (by rcases q6 with ⟨rfl, _⟩ | ⟨q6, _⟩ <;> omega) q1 q2 q3 q4 (by rw [q5, ht])
      repeat' (conv => whnf
               first | (refine Stop.mk ?_) | (refine fO_gen ?_; intro z hz) | (refine ld_step rfl (hrd _ rfl) rfl ?_) | (refine appE (ds := [V.sl p n c0]) rfl rfl (hbx _) hc hm ho rfl rfl (news_eq ((rd_x0 _ _ _ _ _).trans rfl) rfl) (by show (ws.length + 1) * _ ≤ _; omega) (by show ws.length + 1 ≤ _; omega) rfl ?_; intro b2 c2 cs2 H5 e5 g5 q1 q2 q3 q4 q5 q6 q7 q8; obtain ⟨H7, hw, hP⟩ := hfin _ b2 c2 cs2 H5 q1 q2 q3 q4 q5 q6 q7 q8) | (refine mem_step (st_eq rfl rfl rfl rfl hw) ?_) | (refine fH_mk ?_) | (refine fN_mk ?_) | fail)
      all_goals
        subst hz
        cases e5 <;> cases g5
      all_goals (conv => whnf)
      all_goals first
        | exact hq _ _ _ hP
        | trace_state
  · exact hs.elim
def s62z : Sp := fun vs H Q => match vs with
  | [.sl none 0 0] => Q (.bool true) H false false
  | _ => False
theorem k62z : Snd Tryd.prog 2 62 s62z := by
  refine snd_of_ev (by kernel_rfl) (C := tab []) (sndC_nil) x62 n62 c62 30 ?_
  intro vs H Q hs
  unfold s62z at hs
  split at hs
  · skip
    have hq := hs; clear hs
    repeat' (conv => whnf
             first | (refine Stop.mk ?_) | (refine fH_mk ?_) | (refine fN_mk ?_) | fail)
    all_goals (conv => whnf)
    all_goals
      first
      | refine leafH hq rfl (take_app1 H _)
      | trace_state
  · exact hs.elim
def s59z : Sp := fun vs H Q => match vs with
  | [.sl none 0 0] => Q (.bool true) H false false
  | _ => False
theorem k59z : Snd Tryd.prog 2 59 s59z := by
  refine snd_of_ev (by kernel_rfl) (C := tab []) (sndC_nil) x59 n59 c59 30 ?_
  intro vs H Q hs
  unfold s59z at hs
  split at hs
  · skip
    have hq := hs; clear hs
    repeat' (conv => whnf
             first | (refine Stop.mk ?_) | (refine fH_mk ?_) | (refine fN_mk ?_) | fail)
    all_goals (conv => whnf)
    all_goals
      first
      | refine leafH hq rfl (take_app1 H _)
      | trace_state
  · exact hs.elim

def s62u : Sp := fun vs H Q => s62 vs H Q ∨ s62n vs H Q
theorem k62u : Snd Tryd.prog 2 62 s62u := snd_or k62 k62n
def rowsB (H : List B) (v : Nat → V) (b c : Nat → Nat) (n : Nat) : Prop := n ≤ 4096 ∧ b 0 ≠ b 1 ∧ (∀ k, k < 2 → v k = .sl (some (b k, 0)) n (c k)) ∧ ∀ k, k < 2 → n ≤ c k ∧ RowA H 5 (b k) (c k) (fun _ => True)
def s46B : Sp := fun vs H Q => match vs with
  | [.ptr (some (i, 0))] => ∃ (H0 : List B) (v : Nat → V), i = H0.length ∧ BagPB H0 [v 0, v 1] H ∧ (((∀ k, k < 2 → v k = .sl none 0 0) ∧ ∀ Y e g, Q (.bool true) (H ++ Y) e g) ∨
     ∃ (b c : Nat → Nat) (n : Nat), rowsB H v b c n ∧ (∀ k, k < 2 → b k < H0.length) ∧ ∀ H' e g, (∀ x, x < H.length → x ≠ b 0 → x ≠ b 1 → H'[x]? = H[x]?) → H.length ≤ H'.length → Q (.bool true) H' e g)
  | _ => False
theorem k46B : Snd Tryd.prog 2 46 s46B := by
  refine snd_of_ev (by kernel_rfl) (C := tab [(57, s57), (58, s58), (59, s59z), (60, s60), (61, s61), (62, s62u), (63, s63), (64, s64), (65, s65), (66, s66), (67, s67), (68, s68), (69, s69), (70, s70), (71, s71), (72, s72), (73, s73)]) (sndC_cons k57 (sndC_cons k58 (sndC_cons k59z (sndC_cons k60 (sndC_cons k61 (sndC_cons k62u (sndC_cons k63 (sndC_cons k64 (sndC_cons k65 (sndC_cons k66 (sndC_cons k67 (sndC_cons k68 (sndC_cons k69 (sndC_cons k70 (sndC_cons k71 (sndC_cons k72 (sndC_cons k73 (sndC_nil)))))))))))))))))) x46 n46 c46 60 ?_
  intro vs H Q hs
  unfold s46B at hs
  split at hs
  · rename_i i
    obtain ⟨H0, v, rfl, ⟨hfr, hlt, f, hbag, hf⟩, hq⟩ := hs
    rcases hf with ⟨h, _⟩ | ⟨lb, lc, gcs, rfl, hlb0, hlb, hlc, hlo, hlm, hlt2⟩
    · cases h
    have hlbl := (List.getElem?_eq_some_iff.1 hlb).1
    have hrd := rd_two hlb hlt2
    rcases hq with ⟨hv, hq⟩ | ⟨b, c, n, ⟨hn4, hbn, hv, hrow⟩, hbl, hq⟩
    · have hq1 : ∀ Y e g, Q (.bool true) (List.take H.length (H ++ Y)) e g := fun Y e g => by rw [List.take_left]; have := hq [] e g; rwa [List.append_nil] at this
      have hrd2 : ∀ k, k < 2 → rd H lb (0 + k) 1 = some [.sl none 0 0] := fun k hk => by rw [hrd k hk, hv k hk]
      have hbx : ∀ Y, (H ++ Y)[H0.length]? = some (.rw 83 (bagB (.sl (some (lb, 0)) 2 lc))) := fun Y => (List.getElem?_append_left hlt).trans hbag
      repeat' (conv => whnf
               first | (refine Stop.mk ?_) | (refine fO_gen ?_; intro z hz) | (refine ld_step rfl ((rd_blk hbag (Nat.le_of_ble_eq_true rfl)).trans rfl) rfl ?_) | (refine ld_step rfl ((rd_blk (hbx _) (Nat.le_of_ble_eq_true rfl)).trans rfl) rfl ?_) | (refine Or.inr (And.intro hrd2 ?_); intro Y1 e1 g1) | (refine fN_mk ?_) | fail)
      all_goals (conv => whnf)
      all_goals first
        | exact hq _ _ _
        | exact hq1 _ _ _
        | (subst_vars; cases e1 <;> cases g1)
      all_goals
        repeat' (conv => whnf
                 first | (refine Stop.mk ?_) | (exact hq _ _ _) | (exact hq1 _ _ _) | (refine fH_mk ?_) | fail)
      all_goals (conv => whnf)
      all_goals first
        | exact hq _ _ _
        | exact hq1 _ _ _
        | trace_state
    · have hrd2 : ∀ k, k < 2 → rd H lb (0 + k) 1 = some [.sl (some (b k, 0)) n (c k)] := fun k hk => by rw [hrd k hk, hv k hk]
      have hne : ∀ k, k < 2 → lb ≠ b k := fun k hk => by have := hbl k hk; omega
      have hq1 : ∀ (H' : List B) e g, (∀ x, x < H.length → x ≠ b 0 → x ≠ b 1 → H'[x]? = H[x]?) → H.length ≤ H'.length → Q (.bool true) (H'.take H.length) e g := fun H' e g q1 q2 => hq _ e g (fun x hx h0 h1 => by rw [List.getElem?_take_of_lt hx]; exact q1 x hx h0 h1) (by rw [List.length_take]; omega)
      have hb0 := hbl 0 (by decide)
      have hb1 := hbl 1 (by decide)
      repeat' (conv => whnf
               first | (refine Stop.mk ?_) | (refine fO_gen ?_; intro z hz) | (refine ld_step rfl ((rd_blk hbag (Nat.le_of_ble_eq_true rfl)).trans rfl) rfl ?_) | (refine ld_step rfl ((rd_blk hbx (Nat.le_of_ble_eq_true rfl)).trans rfl) rfl ?_) | (refine Or.inl ⟨b, c, n, hn4, hbn, hne, hrd2, hrow, ?_⟩; intro H1 e1 g1 q1 q2; have hbx : H1[H0.length]? = some (.rw 83 (bagB (.sl (some (lb, 0)) 2 lc))) := (q1 _ hlt (by omega) (by omega)).trans hbag) | (refine fN_mk ?_) | fail)
      all_goals (conv => whnf)
      all_goals first
        | exact hq _ _ _ q1 q2
        | exact hq1 _ _ _ q1 q2
        | (subst_vars; cases e1 <;> cases g1)
      all_goals
        repeat' (conv => whnf
                 first | (refine Stop.mk ?_) | (exact hq _ _ _ q1 q2) | (exact hq1 _ _ _ q1 q2) | (refine fH_mk ?_) | fail)
      all_goals (conv => whnf)
      all_goals first
        | exact hq _ _ _ q1 q2
        | exact hq1 _ _ _ q1 q2
        | trace_state
  · exact hs.elim
def s39 : Sp := fun vs H Q => match vs with
  | [.sl (some (lb, lo)) 2 lc] => ∃ (v : Nat → V), (∀ k, k < 2 → rd H lb (lo + k) 1 = some [v k]) ∧ (((∀ k, k < 2 → v k = .sl none 0 0) ∧ ∀ Y e g, Q (.bool true) (H ++ Y) e g) ∨
     ∃ (b c : Nat → Nat) (n : Nat), rowsB H v b c n ∧ ∀ H' e g, (∀ x, x < H.length → x ≠ b 0 → x ≠ b 1 → H'[x]? = H[x]?) → H.length ≤ H'.length → Q (.bool true) H' e g)
  | _ => False
def s59u : Sp := fun vs H Q => s59 vs H Q ∨ s59n vs H Q
theorem k59u : Snd Tryd.prog 2 59 s59u := snd_or k59 k59n
def rowsI (H : List B) (v : Nat → V) (b c : Nat → Nat) (n : Nat) : Prop := n ≤ 4096 ∧ b 0 ≠ b 1 ∧ (∀ k, k < 2 → v k = .sl (some (b k, 0)) n (c k)) ∧ ∀ k, k < 2 → n ≤ c k ∧ RowA H 3 (b k) (c k) (fun _ => True)
def s46I : Sp := fun vs H Q => match vs with
  | [.ptr (some (i, 0))] => ∃ (H0 : List B) (v : Nat → V), i = H0.length ∧ BagPI H0 [v 0, v 1] H ∧ (((∀ k, k < 2 → v k = .sl none 0 0) ∧ ∀ Y e g, Q (.bool true) (H ++ Y) e g) ∨
     ∃ (b c : Nat → Nat) (n : Nat), rowsI H v b c n ∧ (∀ k, k < 2 → b k < H0.length) ∧ ∀ H' e g, (∀ x, x < H.length → x ≠ b 0 → x ≠ b 1 → H'[x]? = H[x]?) → H.length ≤ H'.length → Q (.bool true) H' e g)
  | _ => False
theorem k46I : Snd Tryd.prog 2 46 s46I := by
  refine snd_of_ev (by kernel_rfl) (C := tab [(57, s57), (58, s58), (59, s59u), (60, s60), (61, s61), (62, s62z), (63, s63), (64, s64), (65, s65), (66, s66), (67, s67), (68, s68), (69, s69), (70, s70), (71, s71), (72, s72), (73, s73)]) (sndC_cons k57 (sndC_cons k58 (sndC_cons k59u (sndC_cons k60 (sndC_cons k61 (sndC_cons k62z (sndC_cons k63 (sndC_cons k64 (sndC_cons k65 (sndC_cons k66 (sndC_cons k67 (sndC_cons k68 (sndC_cons k69 (sndC_cons k70 (sndC_cons k71 (sndC_cons k72 (sndC_cons k73 (sndC_nil)))))))))))))))))) x46 n46 c46 60 ?_
  intro vs H Q hs
  unfold s46I at hs
  split at hs
  · rename_i i
    obtain ⟨H0, v, rfl, ⟨hfr, hlt, f, hbag, hf⟩, hq⟩ := hs
    rcases hf with ⟨h, _⟩ | ⟨lb, lc, gcs, rfl, hlb0, hlb, hlc, hlo, hlm, hlt2⟩
    · cases h
    have hlbl := (List.getElem?_eq_some_iff.1 hlb).1
    have hrd := rd_two hlb hlt2
    rcases hq with ⟨hv, hq⟩ | ⟨b, c, n, ⟨hn4, hbn, hv, hrow⟩, hbl, hq⟩
    · have hq1 : ∀ Y e g, Q (.bool true) (List.take H.length (H ++ Y)) e g := fun Y e g => by rw [List.take_left]; have := hq [] e g; rwa [List.append_nil] at this
      have hrd2 : ∀ k, k < 2 → rd H lb (0 + k) 1 = some [.sl none 0 0] := fun k hk => by rw [hrd k hk, hv k hk]
      have hbx : ∀ Y, (H ++ Y)[H0.length]? = some (.rw 83 (bagI (.sl (some (lb, 0)) 2 lc))) := fun Y => (List.getElem?_append_left hlt).trans hbag
      repeat' (conv => whnf
               first | (refine Stop.mk ?_) | (refine fO_gen ?_; intro z hz) | (refine ld_step rfl ((rd_blk hbag (Nat.le_of_ble_eq_true rfl)).trans rfl) rfl ?_) | (refine ld_step rfl ((rd_blk (hbx _) (Nat.le_of_ble_eq_true rfl)).trans rfl) rfl ?_) | (refine Or.inr (And.intro hrd2 ?_); intro Y1 e1 g1) | (refine fN_mk ?_) | fail)
      all_goals (conv => whnf)
      all_goals first
        | exact hq _ _ _
        | exact hq1 _ _ _
        | (subst_vars; cases e1 <;> cases g1)
      all_goals
        repeat' (conv => whnf
                 first | (refine Stop.mk ?_) | (exact hq _ _ _) | (exact hq1 _ _ _) | (refine fH_mk ?_) | fail)
      all_goals (conv => whnf)
      all_goals first
        | exact hq _ _ _
        | exact hq1 _ _ _
        | trace_state
    · have hrd2 : ∀ k, k < 2 → rd H lb (0 + k) 1 = some [.sl (some (b k, 0)) n (c k)] := fun k hk => by rw [hrd k hk, hv k hk]
      have hne : ∀ k, k < 2 → lb ≠ b k := fun k hk => by have := hbl k hk; omega
      have hq1 : ∀ (H' : List B) e g, (∀ x, x < H.length → x ≠ b 0 → x ≠ b 1 → H'[x]? = H[x]?) → H.length ≤ H'.length → Q (.bool true) (H'.take H.length) e g := fun H' e g q1 q2 => hq _ e g (fun x hx h0 h1 => by rw [List.getElem?_take_of_lt hx]; exact q1 x hx h0 h1) (by rw [List.length_take]; omega)
      have hb0 := hbl 0 (by decide)
      have hb1 := hbl 1 (by decide)
      repeat' (conv => whnf
               first | (refine Stop.mk ?_) | (refine fO_gen ?_; intro z hz) | (refine ld_step rfl ((rd_blk hbag (Nat.le_of_ble_eq_true rfl)).trans rfl) rfl ?_) | (refine ld_step rfl ((rd_blk hbx (Nat.le_of_ble_eq_true rfl)).trans rfl) rfl ?_) | (refine Or.inl ⟨b, c, n, hn4, hbn, hne, hrd2, hrow, ?_⟩; intro H1 e1 g1 q1 q2; have hbx : H1[H0.length]? = some (.rw 83 (bagI (.sl (some (lb, 0)) 2 lc))) := (q1 _ hlt (by omega) (by omega)).trans hbag) | (refine fN_mk ?_) | fail)
      all_goals (conv => whnf)
      all_goals first
        | exact hq _ _ _ q1 q2
        | exact hq1 _ _ _ q1 q2
        | (subst_vars; cases e1 <;> cases g1)
      all_goals
        repeat' (conv => whnf
                 first | (refine Stop.mk ?_) | (exact hq _ _ _ q1 q2) | (exact hq1 _ _ _ q1 q2) | (refine fH_mk ?_) | fail)
      all_goals (conv => whnf)
      all_goals first
        | exact hq _ _ _ q1 q2
        | exact hq1 _ _ _ q1 q2
        | trace_state
  · exact hs.elim
def s31 : Sp := fun vs H Q => match vs with
  | [.sl (some (lb, lo)) 2 lc] => ∃ (v : Nat → V), (∀ k, k < 2 → rd H lb (lo + k) 1 = some [v k]) ∧ (((∀ k, k < 2 → v k = .sl none 0 0) ∧ ∀ Y e g, Q (.bool true) (H ++ Y) e g) ∨
     ∃ (b c : Nat → Nat) (n : Nat), rowsI H v b c n ∧ ∀ H' e g, (∀ x, x < H.length → x ≠ b 0 → x ≠ b 1 → H'[x]? = H[x]?) → H.length ≤ H'.length → Q (.bool true) H' e g)
  | _ => False
end Go.Ev
