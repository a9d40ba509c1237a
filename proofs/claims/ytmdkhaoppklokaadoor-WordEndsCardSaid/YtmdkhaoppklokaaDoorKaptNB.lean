/- dev: two empty lists that lie apart: septumkit.flatBytes -/
import Derived.Test.YtmdkhaoppklokaaDoorKmk
set_option linter.all false
namespace Go.Ev
open Go Go.Proofs
set_option maxRecDepth 40000
set_option maxHeartbeats 4000000
def StNB (H1 : List B) (T ST : TypeId) (R : Nat → List V → Prop) (i : Nat) (H : List B) : Prop :=
  (∀ x, x < H1.length → H[x]? = H1[x]?) ∧ H1.length < H.length ∧ RowA H ST H1.length 2 (fun gcs => ∀ j, j < i → j < 2 → ∃ (b' c' : Nat) (cs' : List V), gcs[j]? = some (.sl (some (b', 0)) 64 c') ∧ H[b']? = some (.rw T cs') ∧ cs'.length = c' ∧ 64 ≤ c' ∧ R j cs' ∧ H1.length < b')
theorem StNB.step {H1 H3 H : List B} {T ST : TypeId} {k : Nat} {R : Nat → List V → Prop} (hst : StNB H1 T ST R k H3) (hk : k < 2)
    (hfr : ∀ x, x < H3.length → H[x]? = H3[x]?) (hle : H3.length ≤ H.length)
    {b' c' : Nat} {cs' : List V} (h1 : H[b']? = some (.rw T cs')) (h2 : cs'.length = c') (h3 : 64 ≤ c') (h4 : R k cs') (h5 : H3.length ≤ b') :
    ∃ H', wr H H1.length (0 + k * 1) [.sl (some (b', 0)) 64 c'] = some H' ∧ StNB H1 T ST R (k + 1) H' := by
  obtain ⟨hf, hlt, gcs, hg, hgl, hgo, hgj⟩ := hst
  have hgH : H[H1.length]? = some (.rw ST gcs) := (hfr _ hlt).trans hg
  have hl : 0 + k * 1 + [V.sl (some (b', 0)) 64 c'].length ≤ gcs.length := by show 0 + k * 1 + 1 ≤ _; omega
  have hgb : H1.length < H.length := by omega
  have hsp : splice gcs (0 + k * 1) [V.sl (some (b', 0)) 64 c'] = gcs.take k ++ [V.sl (some (b', 0)) 64 c'] ++ gcs.drop (k + 1) := by unfold splice; rw [Nat.zero_add, Nat.mul_one]; rfl
  refine ⟨_, wr_blk hgH hl, fun x hx => ?_, by rw [List.length_set]; omega, _, by rw [List.getElem?_set, if_pos rfl, if_pos hgb], by rw [splice_lenA hl]; exact hgl, trivial, fun j hj hj2 => ?_⟩
  · rw [List.getElem?_set, if_neg (by omega)]
    exact (hfr x (by omega)).trans (hf x hx)
  · by_cases hjk : j = k
    · subst hjk
      refine ⟨b', c', cs', ?_, ?_, h2, h3, h4, by omega⟩
      · rw [hsp, List.append_assoc, List.getElem?_append_right (by rw [List.length_take]; omega), List.length_take, Nat.min_eq_left (by omega), Nat.sub_self]; rfl
      · rw [List.getElem?_set, if_neg (by omega)]; exact h1
    · obtain ⟨b2, c2, cs2, q1, q2, q3, q4, q5, q6⟩ := hgj j (by omega) hj2
      have hb2 : b2 < H3.length := (List.getElem?_eq_some_iff.1 q2).1
      refine ⟨b2, c2, cs2, ?_, ?_, q3, q4, q5, q6⟩
      · rw [hsp, List.append_assoc, List.getElem?_append_left (by rw [List.length_take]; omega), List.getElem?_take_of_lt (by omega)]; exact q1
      · rw [List.getElem?_set, if_neg (by omega)]
        exact (hfr b2 hb2).trans q2
def InNB (T : TypeId) (k i : Nat) (H3 H : List B) (v : SV) : Prop :=
  (∀ x, x < H3.length → H[x]? = H3[x]?) ∧ H3.length ≤ H.length ∧
  ((i = 0 ∧ v = .v (.sl none 0 0)) ∨ ∃ (b' c' : Nat) (cs' : List V), v = .v (.sl (some (b', 0)) i c') ∧ H[b']? = some (.rw T cs') ∧ cs'.length = c' ∧ True ∧ i ≤ c' ∧ cs'.take i = msB k i ∧ H3.length ≤ b')
theorem InNB.step0 {T : TypeId} {k c' : Nat} {H3 H4 X : List B} {cs' : List V} (hfr : ∀ x, x < H3.length → H4[x]? = H3[x]?) (hle : H3.length ≤ H4.length)
    (q1 : cs'.length = c') (q2 : cs'.all V.one = true) (q3 : 1 ≤ c') (q4 : cs'.take 1 = [V.int .u8 (mbV (k : Int) ((0 : Nat) : Int))]) :
    InNB T k (0 + 1) H3 (H4 ++ X ++ [.rw T cs']) (.v (.sl (some ((H4 ++ X).length, 0)) 1 c')) := by
  have hlX : H4.length ≤ (H4 ++ X).length := by rw [List.length_append]; omega
  refine ⟨fun x hx => ?_, by rw [List.length_append]; omega, Or.inr ⟨_, c', cs', rfl, List.getElem?_concat_length, q1, trivial, q3, q4, by omega⟩⟩
  rw [List.getElem?_append_left (by omega), List.getElem?_append_left (by omega)]
  exact hfr x hx
theorem InNB.step {T : TypeId} {k i : Nat} {H3 H4 X H5 : List B} {b' c' b2 c2 : Nat} {cs' cs2 : List V}
    (hfr : ∀ x, x < H3.length → H4[x]? = H3[x]?) (hle : H3.length ≤ H4.length) (hb' : H4[b']? = some (.rw T cs')) (hd' : H3.length ≤ b') (ht' : cs'.take i = msB k i)
    (q1 : H5[b2]? = some (.rw T cs2)) (q2 : cs2.length = c2) (q3 : True) (q4 : i + [V.int .u8 (mbV (k : Int) (i : Int))].length ≤ c2) (q5 : cs2.take (i + [V.int .u8 (mbV (k : Int) (i : Int))].length) = cs'.take i ++ [V.int .u8 (mbV (k : Int) (i : Int))])
    (q6 : (b2 = b' ∧ c2 = c') ∨ ((H4 ++ X).length ≤ b2 ∧ H5[b']? = (H4 ++ X)[b']?)) (q7 : ∀ x, x < (H4 ++ X).length → x ≠ b' → H5[x]? = (H4 ++ X)[x]?) (q8 : (H4 ++ X).length ≤ H5.length) :
    InNB T k (i + 1) H3 H5 (.v (.sl (some (b2, 0)) (i + [V.int .u8 (mbV (k : Int) (i : Int))].length) c2)) := by
  have hlX : H4.length ≤ (H4 ++ X).length := by rw [List.length_append]; omega
  have ht2 : cs2.take (i + 1) = msB k (i + 1) := by rw [msB_succ, ← ht']; exact q5
  refine ⟨fun x hx => ?_, by omega, Or.inr ⟨b2, c2, cs2, rfl, q1, q2, q3, q4, ht2, ?_⟩⟩
  · rw [q7 x (by omega) (by omega), List.getElem?_append_left (by omega)]
    exact hfr x hx
  · rcases q6 with ⟨rfl, _⟩ | ⟨h, _⟩
    · exact hd'
    · omega
def s62n : Sp := fun vs H Q => match vs with
  | [.sl (some (lb, lo)) 2 lc] => (∀ k, k < 2 → rd H lb (lo + k) 1 = some [.sl none 0 0]) ∧ ∀ Y e g, Q (.bool true) (H ++ Y) e g
  | _ => False
theorem k62n : Snd Tryd.prog 2 62 s62n := by
  refine snd_of_ev (by kernel_rfl) (C := tab [(33, s33)]) (sndC_cons k33 (sndC_nil)) x62 n62 c62 5000 ?_
  have hC : MonoC (tab [(33, s33)]) := monoC_cons m33 (monoC_nil)
  intro vs Hx Q hs
  unfold s62n at hs
  split at hs
  · rename_i lb lo lc
    obtain ⟨hrd, hq⟩ := hs
    have hlb0 : lb < Hx.length := rd_lt (hrd 0 (by decide))
    have hld : ∀ {H : List B}, (∀ x, x < Hx.length → H[x]? = Hx[x]?) → ∀ k, k < 2 → ∀ p, p = lo + k * 1 → rd H lb p 1 = some [.sl none 0 0] := fun hf k hk p hp => by rw [hp, Nat.mul_one]; exact rd_same (hrd k hk) (hf lb hlb0)
    clear hrd
    suffices hh : ∀ k, 4300 < k → evFun (tab [(33, s33)]) k e62 [.sl (some (lb, lo)) 2 lc] Hx Q from hh _ (by omega)
    intro k hk
    refine evFun_in (tm := SV.v (.sl (some (lb, lo)) 2 lc) :: undefV :: undefV :: undefV :: undefV :: undefV :: undefV :: undefV :: undefV :: undefV :: undefV :: undefV :: undefV :: undefV :: undefV :: undefV :: undefV :: undefV :: undefV :: undefV :: undefV :: undefV :: undefV :: undefV :: undefV :: undefV :: undefV :: undefV :: undefV :: undefV :: undefV :: undefV :: undefV :: undefV :: undefV :: undefV :: undefV :: undefV :: undefV :: undefV :: undefV :: undefV :: undefV :: undefV :: undefV :: undefV :: undefV :: undefV :: undefV :: undefV :: undefV :: undefV :: undefV :: undefV :: undefV :: undefV :: undefV :: undefV :: undefV :: undefV :: undefV :: undefV :: undefV :: undefV :: undefV :: undefV :: undefV :: undefV :: undefV :: undefV :: undefV :: undefV :: undefV :: undefV :: undefV :: undefV :: undefV :: undefV :: undefV :: undefV :: undefV :: undefV :: undefV :: undefV :: undefV :: undefV :: undefV :: undefV :: undefV :: undefV :: undefV :: undefV :: undefV :: undefV :: undefV :: undefV :: undefV :: undefV :: undefV :: undefV :: undefV :: undefV :: undefV :: undefV :: undefV :: undefV :: undefV :: undefV :: undefV :: undefV :: undefV :: undefV :: undefV :: undefV :: undefV :: undefV :: undefV :: undefV :: undefV :: undefV :: undefV :: undefV :: undefV :: undefV :: undefV :: undefV :: undefV :: undefV :: undefV :: undefV :: undefV :: undefV :: undefV :: undefV :: undefV :: undefV :: undefV :: undefV :: undefV :: undefV :: undefV :: undefV :: undefV :: undefV :: undefV :: undefV :: undefV :: undefV :: undefV :: undefV :: undefV :: undefV :: undefV :: undefV :: undefV :: undefV :: undefV :: undefV :: undefV :: undefV :: undefV :: undefV :: undefV :: undefV :: undefV :: undefV :: undefV :: undefV :: undefV :: undefV :: undefV :: undefV :: undefV :: undefV :: undefV :: undefV :: undefV :: undefV :: undefV :: undefV :: undefV :: undefV :: undefV :: undefV :: undefV :: undefV :: undefV :: undefV :: undefV :: undefV :: undefV :: undefV :: undefV :: []) rfl ?_
    show rC _ _ r62_0 _ _ _ _ _ _
    refine rC_seqH ?_
    repeat' (conv => whnf
             first | fail)
    any_goals refine Halt.mk ?_
    any_goals show rC _ _ r62_1 _ _ _ _ _ _
    refine rC_seqH ?_
    repeat' (conv => whnf
             first | fail)
    conv => whnf
    refine rLoop_ctr (c := rC (tab [(33, s33)]) k l62_0) 2 3 (false :: false :: false :: false :: true :: false :: false :: false :: false :: false :: false :: false :: false :: false :: false :: false :: true :: true :: true :: true :: true :: true :: true :: true :: true :: true :: true :: true :: true :: true :: true :: true :: true :: true :: true :: true :: true :: true :: true :: true :: false :: false :: false :: false :: false :: false :: false :: false :: false :: false :: false :: false :: false :: false :: false :: false :: false :: false :: false :: false :: false :: false :: false :: false :: false :: false :: false :: false :: false :: false :: false :: false :: false :: false :: false :: false :: false :: false :: false :: false :: false :: false :: false :: false :: false :: false :: false :: false :: false :: false :: false :: false :: false :: false :: false :: false :: false :: false :: false :: false :: false :: false :: false :: false :: false :: false :: false :: false :: false :: false :: false :: false :: false :: false :: false :: false :: false :: false :: false :: false :: false :: false :: false :: false :: false :: false :: false :: false :: false :: false :: false :: false :: false :: false :: false :: false :: false :: false :: false :: false :: false :: false :: false :: false :: false :: false :: false :: false :: false :: false :: false :: false :: false :: false :: false :: false :: false :: false :: false :: false :: false :: false :: false :: false :: false :: false :: false :: false :: false :: false :: false :: false :: false :: false :: false :: false :: false :: false :: false :: false :: false :: false :: false :: false :: false :: false :: false :: false :: false :: false :: false :: false :: false :: []) (fun i tm L H e g => H = Hx ∧ L = []) (by omega) rfl ⟨rfl, rfl⟩ ?_
    intro i0 hi0
    conv => whnf
    iterate 25 (intro j; conv => whnf)
    refine Halt.mk ?_
    rintro L Hx e g ⟨rfl, rfl⟩ K kn kx kr
    repeat' (conv => whnf
             first | (refine Stop.mk ?_) | (refine fO_mk ?_) | fail)
    conv => whnf
    refine dec_split (fun h => ?_) (fun h => ?_)
    · have hlt : i0 < 2 := by have h2 : (i0 : Int) < (2 : Int) := of_decide_eq_true h; omega
      have hi2' : (i0 : Int) < ((2 : Nat) : Int) := by omega
      clear kx
      have hl0 := hld (H := Hx) (fun _ _ => rfl) i0 hlt
      repeat' (conv => whnf
               first | fail)
      conv => whnf
      refine rLoop_ctr (c := rC (tab [(33, s33)]) k l62_1) 0 4 (false :: false :: false :: false :: false :: false :: false :: false :: false :: false :: false :: false :: false :: false :: false :: false :: false :: false :: false :: false :: false :: false :: true :: true :: true :: true :: true :: true :: true :: true :: true :: true :: true :: true :: true :: true :: true :: true :: true :: true :: false :: false :: false :: false :: false :: false :: false :: false :: false :: false :: false :: false :: false :: false :: false :: false :: false :: false :: false :: false :: false :: false :: false :: false :: false :: false :: false :: false :: false :: false :: false :: false :: false :: false :: false :: false :: false :: false :: false :: false :: false :: false :: false :: false :: false :: false :: false :: false :: false :: false :: false :: false :: false :: false :: false :: false :: false :: false :: false :: false :: false :: false :: false :: false :: false :: false :: false :: false :: false :: false :: false :: false :: false :: false :: false :: false :: false :: false :: false :: false :: false :: false :: false :: false :: false :: false :: false :: false :: false :: false :: false :: false :: false :: false :: false :: false :: false :: false :: false :: false :: false :: false :: false :: false :: false :: false :: false :: false :: false :: false :: false :: false :: false :: false :: false :: false :: false :: false :: false :: false :: false :: false :: false :: false :: false :: false :: false :: false :: false :: false :: false :: false :: false :: false :: false :: false :: false :: false :: false :: false :: false :: false :: false :: false :: false :: false :: false :: false :: false :: false :: false :: false :: false :: []) (fun i tm L H e g => H = Hx ∧ L = []) (by omega) rfl ⟨rfl, rfl⟩ ?_
      intro i1 hi1
      conv => whnf
      iterate 18 (intro j; conv => whnf)
      refine Halt.mk ?_
      rintro L Hx e g ⟨rfl, rfl⟩ K1 kn1 kx1 kr1
      repeat' (conv => whnf
               first | (refine Stop.mk ?_) | (refine fO_mk ?_) | (refine fN_mk ?_) | (refine pure_step (ixs_eq rfl rfl (by omega) (by first | omega | exact hi2')) ?_) | (refine ld_step rfl (hl0 _ (by first | omega | rfl)) rfl ?_) | fail)
      conv => whnf
      clear kn1 kr1
      repeat' (conv => whnf
               first | (refine Stop.mk ?_) | (refine fI_i64 (by first | omega | (simp only [Int.ofNat_eq_natCast] at *; omega)) ?_; intro z hz) | (refine kx1 _ _ _ _ _ _ ?_) | fail)
      all_goals (conv => whnf)
      all_goals
        subst hz
        refine kn hlt _ _ _ _ _ rfl ⟨rfl, rfl⟩
    · clear kn kr
      have hie : i0 = 2 := by have h2 : ¬ (i0 : Int) < (2 : Int) := of_decide_eq_false h; omega
      subst hie
      refine kx _ _ _ _ _ _ ?_
      clear kx
      conv => whnf
      refine Halt.mk ?_
      show rC _ _ r62_2 _ _ _ _ _ _
      clear h
      refine rC_seqH ?_
      repeat' (conv => whnf
               first | (refine Stop.mk ?_) | (refine fO_gen ?_; intro z hz) | (refine fH_mk ?_) | (refine fN_mk ?_) | fail)
      any_goals refine Halt.mk ?_
      any_goals show rC _ _ r62_3 _ _ _ _ _ _
      have hst0 : StNB Hx 5 27 (fun j cs => cs.take 64 = msB j 64) 0 (Hx ++ [.rw 27 (reps 2 [.sl none 0 0])]) :=
        ⟨fun x hx => List.getElem?_append_left hx, by rw [List.length_append]; exact Nat.lt_succ_self _, _, List.getElem?_concat_length, rfl, trivial, fun j hj => absurd hj (Nat.not_lt_zero _)⟩
      obtain ⟨Hg, hHg⟩ : ∃ Hg, Hg = Hx ++ [B.rw 27 (reps 2 [V.sl none 0 0])] := ⟨_, rfl⟩
      show rC _ _ r62_3 _ _ (Hx ++ [B.rw 27 (reps 2 [V.sl none 0 0])]) _ _ _
      rw [← hHg] at hst0 ⊢
      clear hHg
      refine rC_seqH ?_
      repeat' (conv => whnf
               first | fail)
      conv => whnf
      refine rLoop_ctr (c := rC (tab [(33, s33)]) k l62_2) 2 6 (false :: false :: false :: false :: false :: false :: false :: true :: true :: false :: false :: false :: false :: false :: false :: false :: false :: false :: false :: false :: false :: false :: false :: false :: false :: false :: false :: false :: false :: false :: false :: false :: false :: false :: false :: false :: false :: false :: false :: false :: false :: false :: false :: true :: true :: true :: true :: true :: true :: true :: true :: true :: true :: true :: true :: true :: true :: true :: true :: true :: true :: true :: true :: true :: true :: true :: true :: true :: true :: true :: true :: true :: true :: false :: false :: false :: false :: false :: false :: false :: false :: false :: false :: false :: false :: false :: false :: false :: false :: false :: false :: false :: false :: false :: false :: false :: false :: false :: false :: false :: false :: false :: false :: false :: false :: false :: false :: false :: false :: false :: false :: false :: false :: false :: false :: false :: false :: false :: false :: false :: false :: false :: false :: false :: false :: false :: false :: false :: false :: false :: false :: false :: false :: false :: false :: false :: false :: false :: false :: false :: false :: false :: false :: false :: false :: false :: false :: false :: false :: false :: false :: false :: false :: false :: false :: false :: false :: false :: false :: false :: false :: false :: false :: false :: false :: false :: false :: false :: false :: false :: false :: false :: false :: false :: false :: false :: false :: false :: false :: false :: false :: false :: false :: false :: false :: false :: false :: false :: false :: false :: false :: false :: false :: []) (fun i tm L H e g => StNB Hx 5 27 (fun j cs => cs.take 64 = msB j 64) i H ∧ L = []) (by omega) rfl ⟨hst0, rfl⟩ ?_
      intro i2 hi2
      conv => whnf
      iterate 32 (intro j; conv => whnf)
      refine Halt.mk ?_
      clear hst0
      rintro L H3 e g ⟨hst, rfl⟩ K kn kx kr
      repeat' (conv => whnf
               first | (refine Stop.mk ?_) | (refine fO_mk ?_) | fail)
      conv => whnf
      refine dec_split (fun h => ?_) (fun h => ?_)
      · have hlt : i2 < 2 := by have h2 : (i2 : Int) < (2 : Int) := of_decide_eq_true h; omega
        have hi2' : (i2 : Int) < ((2 : Nat) : Int) := by omega
        clear kx
        have hl3 := hld hst.1 i2 hlt
        repeat' (conv => whnf
                 first | (refine Stop.mk ?_) | (refine fO_mk ?_) | (refine fN_mk ?_) | (refine pure_step (ixs_eq rfl rfl (by omega) (by first | omega | exact hi2')) ?_) | (refine ld_step rfl (hl3 _ (by first | omega | rfl)) rfl ?_) | fail)
        conv => whnf
        refine rLoop_ctr (c := rC (tab [(33, s33)]) k l62_3) 64 8 (false :: false :: false :: false :: false :: false :: false :: true :: false :: false :: false :: false :: false :: false :: false :: false :: false :: false :: false :: false :: false :: false :: false :: false :: false :: false :: false :: false :: false :: false :: false :: false :: false :: false :: false :: false :: false :: false :: false :: false :: false :: false :: false :: false :: false :: false :: false :: false :: false :: false :: false :: false :: false :: true :: true :: true :: true :: true :: true :: true :: true :: true :: true :: true :: true :: true :: true :: true :: true :: false :: false :: false :: false :: false :: false :: false :: false :: false :: false :: false :: false :: false :: false :: false :: false :: false :: false :: false :: false :: false :: false :: false :: false :: false :: false :: false :: false :: false :: false :: false :: false :: false :: false :: false :: false :: false :: false :: false :: false :: false :: false :: false :: false :: false :: false :: false :: false :: false :: false :: false :: false :: false :: false :: false :: false :: false :: false :: false :: false :: false :: false :: false :: false :: false :: false :: false :: false :: false :: false :: false :: false :: false :: false :: false :: false :: false :: false :: false :: false :: false :: false :: false :: false :: false :: false :: false :: false :: false :: false :: false :: false :: false :: false :: false :: false :: false :: false :: false :: false :: false :: false :: false :: false :: false :: false :: false :: false :: false :: false :: false :: false :: false :: false :: false :: false :: false :: false :: false :: false :: false :: false :: false :: false :: []) (fun i tm L H e g => InNB 5 i2 i H3 H (svA tm 7) ∧ L = []) (by omega) rfl ⟨⟨fun _ _ => rfl, Nat.le_refl _, Or.inl ⟨rfl, rfl⟩⟩, rfl⟩ ?_
        intro i3 hi3
        conv => whnf
        iterate 17 (intro j; conv => whnf)
        refine Halt.mk ?_
        rintro L H4 e g ⟨⟨hfr, hle, hv⟩, rfl⟩ K3 kn3 kx3 kr3
        have hl4 := hld (fun x hx => (hfr x (by have := hst.2.1; omega)).trans (hst.1 x hx)) i2 hlt
        rcases hv with ⟨rfl, h7⟩ | ⟨b', c', cs', h7, hb', hc', ho', hm', ht', hd'⟩
        · conv at h7 => lhs; whnf
          subst h7
          clear kx3 kr3 kn kr
          repeat' (conv => whnf
                   first | (refine Stop.mk ?_) | fail)
          conv => whnf
          have hz0 : mbV (i2 : Int) (Int.ofNat 0) = mbV (i2 : Int) ((0 : Nat) : Int) := rfl
          repeat' (conv => whnf
                   first | (refine Stop.mk ?_) | (with_reducible refine fI_isA hz0 ?_) | (refine fO_gen ?_; intro z hz) | (refine pure_step (ixs_eq rfl rfl (by omega) (by first | omega | exact hi2')) ?_) | (refine ld_step rfl (hl4 _ (by first | omega | rfl)) rfl ?_) | (refine appN (ds := [V.int .u8 (mbV (i2 : Int) ((0 : Nat) : Int))]) rfl rfl (news_eq ((rd_x0 _ _ _ _ _).trans rfl) rfl) Nat.one_pos (by show 1 * _ ≤ _; omega) (by show 1 ≤ _; omega) rfl rfl rfl ?_; intro c2 cs2 q1 q2 q3 q4) | (refine fH_mk ?_) | (refine fN_mk ?_) | fail)
          all_goals (conv => whnf)
          all_goals
            subst hz
            refine kn3 (by decide) _ _ _ _ _ rfl ⟨InNB.step0 hfr hle q1 q2 q3 q4, rfl⟩
        · conv at h7 => lhs; whnf
          subst h7
          repeat' (conv => whnf
                   first | (refine Stop.mk ?_) | (refine fO_mk ?_) | fail)
          conv => whnf
          refine dec_split (fun h1 => ?_) (fun h1 => ?_)
          · have hlt1 : i3 < 64 := by have h2 : (i3 : Int) < (64 : Int) := of_decide_eq_true h1; omega
            clear kx3 kr3 kn kr
            have hbx : ∀ X, (H4 ++ X)[b']? = some (.rw 5 cs') := fun X => (List.getElem?_append_left (List.getElem?_eq_some_iff.1 hb').1).trans hb'
            have c0 : IntKind.i64.wrap ((0 : Int) + (i3 : Int)) = (i3 : Int) := by rw [Int.zero_add, wrap_i64_id (by omega) (by omega)]
            repeat' (conv => whnf
                     first | (refine Stop.mk ?_) | (refine fI_isA c0 ?_) | (with_reducible refine fI_isA (a := mbV (i2 : Int) (i3 : Int)) rfl ?_) | (refine fI_i64 (by first | omega | (simp only [Int.ofNat_eq_natCast] at *; omega)) ?_; intro z hz) | (refine fO_gen ?_; intro z hz) | (refine pure_step (ixs_eq rfl rfl (by omega) (by first | omega | exact hi2')) ?_) | (refine ld_step rfl (hl4 _ (by first | omega | rfl)) rfl ?_) | (refine appF (ds := [V.int .u8 (mbV (i2 : Int) (i3 : Int))]) rfl rfl (hbx _) hc' hm' (msB_one ht') rfl rfl (news_eq ((rd_x0 _ _ _ _ _).trans rfl) rfl) rfl (by show (i3 + 1) * _ ≤ _; omega) (by show i3 + 1 ≤ _; omega) rfl ?_; intro b2 c2 cs2 H5 g5 q1 q2 q3 q4 q5 q6 q7 q8) | (refine fH_mk ?_) | (refine fN_mk ?_) | fail)
            all_goals (conv => whnf)
            all_goals
              subst hz
              refine kn3 hlt1 _ _ _ _ _ rfl ⟨InNB.step hfr hle hb' hd' ht' q1 q2 q3 q4 q5 q6 q7 q8, rfl⟩
          · clear kn3 kr3
            have hie : i3 = 64 := by have h2 : ¬ (i3 : Int) < (64 : Int) := of_decide_eq_false h1; omega
            subst hie
            obtain ⟨H5, hw, hst5⟩ := hst.step hlt hfr hle hb' hc' hm' ht' hd'
            repeat' (conv => whnf
                     first | (refine Stop.mk ?_) | (refine fI_i64 (by first | omega | (simp only [Int.ofNat_eq_natCast] at *; omega)) ?_; intro z hz) | (refine fO_gen ?_; intro z hz) | (refine pure_step (ixs_eq rfl rfl (by omega) (by first | omega | exact hi2')) ?_) | (refine mem_step (st_eq rfl rfl rfl rfl hw) ?_) | (refine kx3 _ _ _ _ _ _ ?_) | (refine fH_mk ?_) | (refine fN_mk ?_) | fail)
            all_goals (conv => whnf)
            all_goals
              subst hz
              refine kn hlt _ _ _ _ _ rfl ⟨hst5, rfl⟩
      · clear kn kr
        have hie : i2 = 2 := by have h2 : ¬ (i2 : Int) < (2 : Int) := of_decide_eq_false h; omega
        subst hie
        refine kx _ _ _ _ _ _ ?_
        clear kx h
        conv => whnf
        refine Halt.mk ?_
        show rC _ _ r62_4 _ _ _ _ _ _
        refine rC_seqH ?_
        repeat' (conv => whnf
                 first | fail)
        conv => whnf
        refine rLoop_ctr (c := rC (tab [(33, s33)]) k l62_4) 2 9 (false :: false :: true :: false :: false :: false :: false :: false :: false :: false :: true :: false :: false :: false :: false :: false :: false :: false :: false :: false :: false :: false :: false :: false :: false :: false :: false :: false :: false :: false :: false :: false :: false :: false :: false :: false :: false :: false :: false :: false :: false :: false :: false :: false :: false :: false :: false :: false :: false :: false :: false :: false :: false :: false :: false :: false :: false :: false :: false :: false :: false :: false :: false :: false :: false :: false :: false :: false :: false :: false :: false :: false :: false :: true :: true :: true :: true :: true :: true :: true :: true :: true :: true :: true :: true :: true :: true :: true :: true :: true :: true :: true :: true :: true :: true :: true :: true :: true :: true :: true :: true :: true :: true :: true :: true :: true :: true :: true :: true :: true :: true :: true :: true :: true :: true :: true :: true :: true :: true :: true :: true :: true :: true :: false :: false :: false :: false :: false :: false :: false :: false :: false :: false :: false :: false :: false :: false :: false :: false :: false :: false :: false :: false :: false :: false :: false :: false :: false :: false :: false :: false :: false :: false :: false :: false :: false :: false :: false :: false :: false :: false :: false :: false :: false :: false :: false :: false :: false :: false :: false :: false :: false :: false :: false :: false :: false :: false :: false :: false :: false :: false :: false :: false :: false :: false :: false :: false :: false :: false :: false :: false :: false :: false :: []) (fun i tm L H e g => H = H3 ∧ L = []) (by omega) rfl ⟨rfl, rfl⟩ ?_
        intro i4 hi4
        conv => whnf
        iterate 52 (intro j; conv => whnf)
        refine Halt.mk ?_
        rintro L H3 e g ⟨rfl, rfl⟩ K kn kx kr
        repeat' (conv => whnf
                 first | (refine Stop.mk ?_) | (refine fO_mk ?_) | fail)
        conv => whnf
        refine dec_split (fun h => ?_) (fun h => ?_)
        · have hlt : i4 < 2 := by have h2 : (i4 : Int) < (2 : Int) := of_decide_eq_true h; omega
          clear kx
          have hl3 := hld hst.1 i4 hlt
          obtain ⟨hf1, hl1, gcs, hg, hgl, hgo, hgj⟩ := hst
          obtain ⟨b', c', cs', hj, hb', hc', hm', ht', _⟩ := hgj i4 hlt hlt
          have hgd := rd_get hg hj
          have hi2' : (i4 : Int) < ((2 : Nat) : Int) := by omega
          clear hgj hg
          repeat' (conv => whnf
                   first | fail)
          conv => whnf
          refine rLoop_ctr (c := rC (tab [(33, s33)]) k l62_5) 64 10 (false :: false :: true :: false :: false :: false :: false :: false :: false :: false :: false :: false :: false :: false :: false :: false :: false :: false :: false :: false :: false :: false :: false :: false :: false :: false :: false :: false :: false :: false :: false :: false :: false :: false :: false :: false :: false :: false :: false :: false :: false :: false :: false :: false :: false :: false :: false :: false :: false :: false :: false :: false :: false :: false :: false :: false :: false :: false :: false :: false :: false :: false :: false :: false :: false :: false :: false :: false :: false :: false :: false :: false :: false :: false :: false :: false :: false :: false :: false :: true :: true :: true :: true :: true :: true :: true :: true :: true :: true :: true :: true :: true :: true :: true :: true :: true :: true :: true :: true :: true :: true :: true :: true :: true :: true :: true :: true :: true :: true :: true :: true :: true :: true :: true :: true :: true :: true :: true :: true :: true :: true :: true :: true :: false :: false :: false :: false :: false :: false :: false :: false :: false :: false :: false :: false :: false :: false :: false :: false :: false :: false :: false :: false :: false :: false :: false :: false :: false :: false :: false :: false :: false :: false :: false :: false :: false :: false :: false :: false :: false :: false :: false :: false :: false :: false :: false :: false :: false :: false :: false :: false :: false :: false :: false :: false :: false :: false :: false :: false :: false :: false :: false :: false :: false :: false :: false :: false :: false :: false :: false :: false :: false :: false :: []) (fun i tm L H e g => H = H3 ∧ L = []) (by omega) rfl ⟨rfl, rfl⟩ ?_
          intro i5 hi5
          conv => whnf
          iterate 45 (intro j; conv => whnf)
          refine Halt.mk ?_
          rintro L H3 e g ⟨rfl, rfl⟩ K1 kn1 kx1 kr1
          repeat' (conv => whnf
                   first | (refine Stop.mk ?_) | (refine fO_mk ?_) | (refine fN_mk ?_) | (refine pure_step (ixs_eq rfl rfl (by omega) (by first | omega | exact hi2')) ?_) | (refine ld_step rfl (hgd _ (by first | omega | rfl)) rfl ?_) | fail)
          conv => whnf
          refine dec_split (fun h1 => ?_) (fun h1 => ?_)
          · have hlt1 : i5 < 64 := by have h2 : (i5 : Int) < (64 : Int) := of_decide_eq_true h1; omega
            clear kx1 kr1 kr kn
            have r1 := msB_rd hb' (by omega) ht' hlt1
            have hi1' : (i5 : Int) < ((64 : Nat) : Int) := by omega
            have dn : decide ((i5 : Int) < (0 : Int)) = false := decide_eq_false (by omega)
            repeat' (conv => whnf
                     first | (refine Stop.mk ?_) | (with_reducible refine fI_isA (a := mbV (i4 : Int) (i5 : Int)) rfl ?_) | (refine fO_isA (decide_eq_true (show mbV (i4 : Int) (i5 : Int) = mbV (i4 : Int) (i5 : Int) from rfl)) ?_) | (refine fI_i64 (by first | omega | (simp only [Int.ofNat_eq_natCast] at *; omega)) ?_; intro z hz) | (refine pure_step (ixs_eq rfl rfl (by omega) (by first | omega | exact hi2' | exact hi1')) ?_) | (refine lds_step rfl (hl3 _ (by first | omega | rfl)) rfl ?_) | (refine lds_step rfl (hgd _ (by first | omega | rfl)) rfl ?_) | (refine lds_step rfl (r1 _ (by first | omega | rfl)) rfl ?_) | (apply silE) | (refine And.intro rfl ?_) | (refine fN_mk ?_) | fail)
            all_goals (conv => whnf)
            all_goals
              subst hz
              refine kn1 hlt1 _ _ _ _ _ rfl ⟨rfl, rfl⟩
          · clear kn1 kr1
            repeat' (conv => whnf
                     first | (refine Stop.mk ?_) | (refine fI_i64 (by first | omega | (simp only [Int.ofNat_eq_natCast] at *; omega)) ?_; intro z hz) | (refine kx1 _ _ _ _ _ _ ?_) | fail)
            all_goals (conv => whnf)
            all_goals
              subst hz
              refine kn hlt _ _ _ _ _ rfl ⟨rfl, rfl⟩
        · clear kn kr
          have hie : i4 = 2 := by have h2 : ¬ (i4 : Int) < (2 : Int) := of_decide_eq_false h; omega
          subst hie
          refine kx _ _ _ _ _ _ ?_
          clear kx h
          conv => whnf
          refine Halt.mk ?_
          show rC _ _ r62_5 _ _ _ _ _ _
          have hst0 : StNB Hx 5 27 (fun j cs => True) 0 H3 := ⟨hst.1, hst.2.1, hst.2.2.mono (fun cs _ j hj => absurd hj (Nat.not_lt_zero _))⟩
          clear hst
          refine rC_seqH ?_
          repeat' (conv => whnf
                   first | fail)
          conv => whnf
          refine rLoop_ctr (c := rC (tab [(33, s33)]) k l62_6) 2 11 (false :: false :: false :: false :: false :: false :: false :: false :: false :: false :: false :: false :: true :: true :: false :: false :: false :: false :: false :: false :: false :: false :: false :: false :: false :: false :: false :: false :: false :: false :: false :: false :: false :: false :: false :: false :: false :: false :: false :: false :: false :: false :: false :: false :: false :: false :: false :: false :: false :: false :: false :: false :: false :: false :: false :: false :: false :: false :: false :: false :: false :: false :: false :: false :: false :: false :: false :: false :: false :: false :: false :: false :: false :: false :: false :: false :: false :: false :: false :: false :: false :: false :: false :: false :: false :: false :: false :: false :: false :: false :: false :: false :: false :: false :: false :: false :: false :: false :: false :: false :: false :: false :: false :: false :: false :: false :: false :: false :: false :: false :: false :: false :: false :: false :: false :: false :: false :: false :: false :: false :: false :: false :: false :: true :: true :: true :: true :: true :: true :: true :: true :: true :: true :: true :: true :: true :: true :: true :: true :: true :: true :: true :: true :: true :: true :: true :: true :: true :: true :: true :: true :: true :: false :: false :: false :: false :: false :: false :: false :: false :: false :: false :: false :: false :: false :: false :: false :: false :: false :: false :: false :: false :: false :: false :: false :: false :: false :: false :: false :: false :: false :: false :: false :: false :: false :: false :: false :: false :: false :: false :: false :: false :: false :: []) (fun i tm L H e g => StNB Hx 5 27 (fun j cs => True) i H ∧ L = []) (by omega) rfl ⟨hst0, rfl⟩ ?_
          intro i6 hi6
          conv => whnf
          iterate 31 (intro j; conv => whnf)
          refine Halt.mk ?_
          clear hst0
          rintro L H3 e g ⟨hst, rfl⟩ K kn kx kr
          repeat' (conv => whnf
                   first | (refine Stop.mk ?_) | (refine fO_mk ?_) | fail)
          conv => whnf
          refine dec_split (fun h => ?_) (fun h => ?_)
          · have hlt : i6 < 2 := by have h2 : (i6 : Int) < (2 : Int) := of_decide_eq_true h; omega
            clear kx
            have hi2' : (i6 : Int) < ((2 : Nat) : Int) := by omega
            repeat' (conv => whnf
                     first | (refine Stop.mk ?_) | (refine fO_mk ?_) | (refine fN_mk ?_) | (refine fH_mk ?_) | fail)
            conv => whnf
            refine rLoop_ctr (c := rC (tab [(33, s33)]) k l62_7) 64 13 (false :: false :: false :: false :: false :: false :: false :: false :: false :: false :: false :: false :: false :: false :: false :: false :: false :: false :: false :: false :: false :: false :: false :: false :: false :: false :: false :: false :: false :: false :: false :: false :: false :: false :: false :: false :: false :: false :: false :: false :: false :: false :: false :: false :: false :: false :: false :: false :: false :: false :: false :: false :: false :: false :: false :: false :: false :: false :: false :: false :: false :: false :: false :: false :: false :: false :: false :: false :: false :: false :: false :: false :: false :: false :: false :: false :: false :: false :: false :: false :: false :: false :: false :: false :: false :: false :: false :: false :: false :: false :: false :: false :: false :: false :: false :: false :: false :: false :: false :: false :: false :: false :: false :: false :: false :: false :: false :: false :: false :: false :: false :: false :: false :: false :: false :: false :: false :: false :: false :: false :: false :: false :: false :: false :: false :: false :: false :: false :: false :: false :: true :: true :: true :: true :: true :: true :: true :: true :: true :: true :: true :: true :: true :: false :: false :: false :: false :: false :: false :: false :: false :: false :: false :: false :: false :: false :: false :: false :: false :: false :: false :: false :: false :: false :: false :: false :: false :: false :: false :: false :: false :: false :: false :: false :: false :: false :: false :: false :: false :: false :: false :: false :: false :: false :: false :: false :: false :: false :: false :: false :: false :: false :: false :: []) (fun i tm L H e g => InD 5 H3 H ∧ L = []) (by omega) rfl ⟨InD.init (cs := reps 64 [V.int .u8 0]) rfl rfl rfl, rfl⟩ ?_
            intro i7 hi7
            conv => whnf
            iterate 13 (intro j; conv => whnf)
            refine Halt.mk ?_
            rintro L H4 e g ⟨hin, rfl⟩ K3 kn3 kx3 kr3
            repeat' (conv => whnf
                     first | (refine Stop.mk ?_) | (refine fO_mk ?_) | fail)
            conv => whnf
            refine dec_split (fun h1 => ?_) (fun h1 => ?_)
            · have hlt1 : i7 < 64 := by have h2 : (i7 : Int) < (64 : Int) := of_decide_eq_true h1; omega
              clear kx3 kr3 kn kr
              obtain ⟨H5, hw, hin5⟩ := hin.step hlt1 (v := V.int .u8 (mbV ((i6 + 2 : Nat) : Int) (i7 : Int))) rfl rfl
              have hi64 : (i7 : Int) < ((64 : Nat) : Int) := by omega
              repeat' (conv => whnf
                       first | (refine Stop.mk ?_) | (refine fI_isA (wrap_ni (n := i6) (i := 2) (m := 2) (by omega) (by decide)) ?_) | (with_reducible refine fI_isA (a := mbV ((i6 + 2 : Nat) : Int) (i7 : Int)) rfl ?_) | (refine fI_i64 (by first | omega | (simp only [Int.ofNat_eq_natCast] at *; omega)) ?_; intro z hz) | (refine fO_gen ?_; intro z hz) | (refine pure_step (ixs_eq rfl rfl (by omega) (by first | omega | exact hi2' | exact hi64)) ?_) | (refine mem_step (st_eq rfl rfl rfl rfl hw) ?_) | (refine fH_mk ?_) | (refine fN_mk ?_) | fail)
              all_goals (conv => whnf)
              all_goals
                subst hz
                refine kn3 hlt1 _ _ _ _ _ rfl ⟨hin5, rfl⟩
            · clear kn3 kr3
              have hie : i7 = 64 := by have h2 : ¬ (i7 : Int) < (64 : Int) := of_decide_eq_false h1; omega
              subst hie
              obtain ⟨hfr, hln, ds, hd, hdl, hdo, hdt⟩ := hin
              have hl4 := hld (fun x hx => (hfr x (by have := hst.2.1; omega)).trans (hst.1 x hx)) i6 hlt
              have hnw : news H4 1 (.sl (some (H3.length, 0)) 64 64) = some (64, ds) := news_eq (by have := rd_blk hd (o := 0) (n := 64 * 1) (by omega); rwa [List.drop_zero, List.take_of_length_le (by omega)] at this) hdo
              have hfin : ∀ (c2 : Nat) (cs2 : List V), cs2.length = c2 → 64 ≤ c2 → ∃ H', wr (H4 ++ [.rw 5 cs2]) Hx.length (0 + i6 * 1) [.sl (some (H4.length, 0)) 64 c2] = some H' ∧ StNB Hx 5 27 (fun j cs => True) (i6 + 1) H' := fun c2 cs2 q1 q2 =>
                hst.step hlt (fun x hx => (List.getElem?_append_left (by omega)).trans (hfr x hx)) (by rw [List.length_append]; omega) List.getElem?_concat_length q1 q2 trivial (by omega)
              repeat' (conv => whnf
                       first | (refine Stop.mk ?_) | (refine fI_i64 (by first | omega | (simp only [Int.ofNat_eq_natCast] at *; omega)) ?_; intro z hz) | (refine fO_gen ?_; intro z hz) | (refine pure_step (ixs_eq rfl rfl (by omega) (by first | omega | exact hi2')) ?_) | (refine ld_step rfl (hl4 _ (by first | omega | rfl)) rfl ?_) | (refine appDN hdl rfl rfl hnw (by decide) (by decide) (by decide) rfl hdo rfl ?_; intro c2 cs2 q1 q2 q3 q4; obtain ⟨H7, hw, hst7⟩ := hfin c2 cs2 q1 q3) | (refine mem_step (st_eq rfl rfl rfl rfl hw) ?_) | (refine kx3 _ _ _ _ _ _ ?_) | (refine fH_mk ?_) | (refine fN_mk ?_) | fail)
              all_goals (conv => whnf)
              all_goals
                subst hz
                refine kn hlt _ _ _ _ _ rfl ⟨hst7, rfl⟩
          · clear kn kr
            have hie : i6 = 2 := by have h2 : ¬ (i6 : Int) < (2 : Int) := of_decide_eq_false h; omega
            subst hie
            refine kx _ _ _ _ _ _ ?_
            clear kx h
            conv => whnf
            refine Halt.mk ?_
            show rC _ _ r62_6 _ _ _ _ _ _
            refine rC_seqH ?_
            repeat' (conv => whnf
                     first | fail)
            conv => whnf
            refine rLoop_ctr (c := rC (tab [(33, s33)]) k l62_8) 2 14 (false :: false :: true :: false :: false :: false :: false :: false :: false :: false :: false :: false :: false :: false :: false :: true :: false :: false :: false :: false :: false :: false :: false :: false :: false :: false :: false :: false :: false :: false :: false :: false :: false :: false :: false :: false :: false :: false :: false :: false :: false :: false :: false :: false :: false :: false :: false :: false :: false :: false :: false :: false :: false :: false :: false :: false :: false :: false :: false :: false :: false :: false :: false :: false :: false :: false :: false :: false :: false :: false :: false :: false :: false :: false :: false :: false :: false :: false :: false :: false :: false :: false :: false :: false :: false :: false :: false :: false :: false :: false :: false :: false :: false :: false :: false :: false :: false :: false :: false :: false :: false :: false :: false :: false :: false :: false :: false :: false :: false :: false :: false :: false :: false :: false :: false :: false :: false :: false :: false :: false :: false :: false :: false :: false :: false :: false :: false :: false :: false :: false :: false :: false :: false :: false :: false :: false :: false :: false :: false :: false :: false :: false :: false :: false :: false :: false :: false :: false :: false :: false :: false :: false :: true :: true :: true :: true :: true :: true :: true :: true :: true :: true :: true :: true :: true :: true :: true :: true :: true :: true :: true :: true :: true :: true :: true :: true :: true :: true :: true :: true :: true :: true :: true :: true :: true :: true :: true :: true :: true :: true :: true :: true :: true :: []) (fun i tm L H e g => H = H3 ∧ L = []) (by omega) rfl ⟨rfl, rfl⟩ ?_
            intro i8 hi8
            conv => whnf
            iterate 43 (intro j; conv => whnf)
            refine Halt.mk ?_
            rintro L H3 e g ⟨rfl, rfl⟩ K kn kx kr
            repeat' (conv => whnf
                     first | (refine Stop.mk ?_) | (refine fO_mk ?_) | fail)
            conv => whnf
            refine dec_split (fun h => ?_) (fun h => ?_)
            · have hlt : i8 < 2 := by have h2 : (i8 : Int) < (2 : Int) := of_decide_eq_true h; omega
              have hi2' : (i8 : Int) < ((2 : Nat) : Int) := by omega
              clear kx
              have hl0 := hld hst.1 i8 hlt
              repeat' (conv => whnf
                       first | fail)
              conv => whnf
              refine rLoop_ctr (c := rC (tab [(33, s33)]) k l62_9) 0 15 (false :: false :: true :: false :: false :: false :: false :: false :: false :: false :: false :: false :: false :: false :: false :: false :: false :: false :: false :: false :: false :: false :: false :: false :: false :: false :: false :: false :: false :: false :: false :: false :: false :: false :: false :: false :: false :: false :: false :: false :: false :: false :: false :: false :: false :: false :: false :: false :: false :: false :: false :: false :: false :: false :: false :: false :: false :: false :: false :: false :: false :: false :: false :: false :: false :: false :: false :: false :: false :: false :: false :: false :: false :: false :: false :: false :: false :: false :: false :: false :: false :: false :: false :: false :: false :: false :: false :: false :: false :: false :: false :: false :: false :: false :: false :: false :: false :: false :: false :: false :: false :: false :: false :: false :: false :: false :: false :: false :: false :: false :: false :: false :: false :: false :: false :: false :: false :: false :: false :: false :: false :: false :: false :: false :: false :: false :: false :: false :: false :: false :: false :: false :: false :: false :: false :: false :: false :: false :: false :: false :: false :: false :: false :: false :: false :: false :: false :: false :: false :: false :: false :: false :: false :: false :: false :: false :: false :: false :: true :: true :: true :: true :: true :: true :: true :: true :: true :: true :: true :: true :: true :: true :: true :: true :: true :: true :: true :: true :: true :: true :: true :: true :: true :: true :: true :: true :: true :: true :: true :: true :: true :: true :: true :: []) (fun i tm L H e g => H = H3 ∧ L = []) (by omega) rfl ⟨rfl, rfl⟩ ?_
              intro i9 hi9
              conv => whnf
              iterate 36 (intro j; conv => whnf)
              refine Halt.mk ?_
              rintro L H3 e g ⟨rfl, rfl⟩ K1 kn1 kx1 kr1
              repeat' (conv => whnf
                       first | (refine Stop.mk ?_) | (refine fO_mk ?_) | (refine fN_mk ?_) | (refine pure_step (ixs_eq rfl rfl (by omega) (by first | omega | exact hi2')) ?_) | (refine ld_step rfl (hl0 _ (by first | omega | rfl)) rfl ?_) | fail)
              conv => whnf
              clear kn1 kr1
              repeat' (conv => whnf
                       first | (refine Stop.mk ?_) | (refine fI_i64 (by first | omega | (simp only [Int.ofNat_eq_natCast] at *; omega)) ?_; intro z hz) | (refine kx1 _ _ _ _ _ _ ?_) | fail)
              all_goals (conv => whnf)
              all_goals
                subst hz
                refine kn hlt _ _ _ _ _ rfl ⟨rfl, rfl⟩
            · clear kn kr
              have hie : i8 = 2 := by have h2 : ¬ (i8 : Int) < (2 : Int) := of_decide_eq_false h; omega
              subst hie
              refine kx _ _ _ _ _ _ ?_
              clear kx h
              conv => whnf
              refine Halt.mk ?_
              show rC _ _ r62_7 _ _ _ _ _ _
              have hH : H3.take Hx.length = Hx := by
                apply List.ext_getElem?
                intro x
                by_cases hx : x < Hx.length
                · rw [List.getElem?_take_of_lt hx]; exact hst.1 x hx
                · rw [List.getElem?_eq_none (by rw [List.length_take]; omega), List.getElem?_eq_none (by omega)]
              have hq1 : ∀ e g, Q (.bool true) H3 e g := fun e g => by have := hq (H3.drop Hx.length) e g; rwa [← hH, List.length_take, Nat.min_eq_left (by have := hst.2.1; omega), List.take_append_drop] at this
              have hq2 : ∀ e g, Q (.bool true) (H3.take Hx.length) e g := fun e g => by rw [hH]; have := hq [] e g; rwa [List.append_nil] at this
              clear hq hst
              cases e <;> cases g
              all_goals
                repeat' (conv => whnf
                         first | (refine Stop.mk ?_) | (exact hq1 _ _) | (exact hq2 _ _) | (refine fH_mk ?_) | fail)
              all_goals (conv => whnf)
              all_goals first
                | exact hq1 _ _
                | exact hq2 _ _
                | trace_state
  · exact hs.elim
end Go.Ev
