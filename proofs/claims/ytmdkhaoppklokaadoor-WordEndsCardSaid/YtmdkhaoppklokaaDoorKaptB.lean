/- dev: lists that lie apart: septumkit.flatBytes -/
import Derived.Test.YtmdkhaoppklokaaDoorKmk
set_option linter.all false
namespace Go.Ev
open Go Go.Proofs
set_option maxRecDepth 40000
set_option maxHeartbeats 4000000
def s62 : Sp := fun vs H Q => match vs with
  | [.sl (some (lb, lo)) 2 lc] => ∃ (b c : Nat → Nat) (n : Nat), n ≤ 4096 ∧ b 0 ≠ b 1 ∧ (∀ k, k < 2 → lb ≠ b k) ∧ (∀ k, k < 2 → rd H lb (lo + k) 1 = some [.sl (some (b k, 0)) n (c k)]) ∧ (∀ k, k < 2 → n ≤ c k ∧ RowA H 5 (b k) (c k) (fun _ => True)) ∧ ∀ H' e g, (∀ x, x < H.length → x ≠ b 0 → x ≠ b 1 → H'[x]? = H[x]?) → H.length ≤ H'.length → Q (.bool true) H' e g
  | _ => False
theorem msB_ne {b : Nat → Nat} (h : b 0 ≠ b 1) {j k : Nat} (hj : j < 2) (hk : k < 2) (hjk : j ≠ k) : b j ≠ b k := by
  have h1 : (j = 0 ∧ k = 1) ∨ (j = 1 ∧ k = 0) := by omega
  rcases h1 with ⟨rfl, rfl⟩ | ⟨rfl, rfl⟩
  · exact h
  · exact fun he => h he.symm
theorem k62 : Snd Tryd.prog 2 62 s62 := by
  refine snd_of_ev (by kernel_rfl) (C := tab [(33, s33)]) (sndC_cons k33 (sndC_nil)) x62 n62 c62 5000 ?_
  have hC : MonoC (tab [(33, s33)]) := monoC_cons m33 (monoC_nil)
  intro vs Hx Q hs
  unfold s62 at hs
  split at hs
  · rename_i lb lo lc
    obtain ⟨b, c, n, hn4, hbn, hlb, hrd, hrow, hq⟩ := hs
    obtain ⟨H0, hH0⟩ : ∃ H0, H0 = Hx := ⟨_, rfl⟩
    have hpre : PreA H0 lb lo n b c Hx := ⟨⟨fun _ _ _ _ => by rw [hH0], by rw [hH0]; exact Nat.le_refl _⟩, hrd⟩
    clear hrd
    have hnc : ∀ k, k < 2 → n ≤ c k := fun k hk => (hrow k hk).1
    have hbne := fun {j k : Nat} => msB_ne hbn (j := j) (k := k)
    suffices hh : ∀ k, 4300 < k → evFun (tab [(33, s33)]) k e62 [.sl (some (lb, lo)) 2 lc] Hx Q from hh _ (by omega)
    intro k hk
    refine evFun_in (tm := SV.v (.sl (some (lb, lo)) 2 lc) :: undefV :: undefV :: undefV :: undefV :: undefV :: undefV :: undefV :: undefV :: undefV :: undefV :: undefV :: undefV :: undefV :: undefV :: undefV :: undefV :: undefV :: undefV :: undefV :: undefV :: undefV :: undefV :: undefV :: undefV :: undefV :: undefV :: undefV :: undefV :: undefV :: undefV :: undefV :: undefV :: undefV :: undefV :: undefV :: undefV :: undefV :: undefV :: undefV :: undefV :: undefV :: undefV :: undefV :: undefV :: undefV :: undefV :: undefV :: undefV :: undefV :: undefV :: undefV :: undefV :: undefV :: undefV :: undefV :: undefV :: undefV :: undefV :: undefV :: undefV :: undefV :: undefV :: undefV :: undefV :: undefV :: undefV :: undefV :: undefV :: undefV :: undefV :: undefV :: undefV :: undefV :: undefV :: undefV :: undefV :: undefV :: undefV :: undefV :: undefV :: undefV :: undefV :: undefV :: undefV :: undefV :: undefV :: undefV :: undefV :: undefV :: undefV :: undefV :: undefV :: undefV :: undefV :: undefV :: undefV :: undefV :: undefV :: undefV :: undefV :: undefV :: undefV :: undefV :: undefV :: undefV :: undefV :: undefV :: undefV :: undefV :: undefV :: undefV :: undefV :: undefV :: undefV :: undefV :: undefV :: undefV :: undefV :: undefV :: undefV :: undefV :: undefV :: undefV :: undefV :: undefV :: undefV :: undefV :: undefV :: undefV :: undefV :: undefV :: undefV :: undefV :: undefV :: undefV :: undefV :: undefV :: undefV :: undefV :: undefV :: undefV :: undefV :: undefV :: undefV :: undefV :: undefV :: undefV :: undefV :: undefV :: undefV :: undefV :: undefV :: undefV :: undefV :: undefV :: undefV :: undefV :: undefV :: undefV :: undefV :: undefV :: undefV :: undefV :: undefV :: undefV :: undefV :: undefV :: undefV :: undefV :: undefV :: undefV :: undefV :: undefV :: undefV :: undefV :: undefV :: undefV :: undefV :: undefV :: undefV :: undefV :: undefV :: undefV :: undefV :: undefV :: undefV :: undefV :: undefV :: undefV :: undefV :: undefV :: undefV :: []) rfl ?_
    show rC _ _ r62_0 _ _ _ _ _ _
    refine rC_seqH ?_
    repeat' (conv => whnf
             first | fail)
    any_goals refine Halt.mk ?_
    any_goals show rC _ _ r62_1 _ _ _ _ _ _
    refine rC_seqH ?_
    repeat' (conv => whnf
             first | fail)
    conv => whnf
    refine rLoop_ctr (c := rC (tab [(33, s33)]) k l62_0) 2 3 (false :: false :: false :: false :: true :: false :: false :: false :: false :: false :: false :: false :: false :: false :: false :: false :: true :: true :: true :: true :: true :: true :: true :: true :: true :: true :: true :: true :: true :: true :: true :: true :: true :: true :: true :: true :: true :: true :: true :: true :: false :: false :: false :: false :: false :: false :: false :: false :: false :: false :: false :: false :: false :: false :: false :: false :: false :: false :: false :: false :: false :: false :: false :: false :: false :: false :: false :: false :: false :: false :: false :: false :: false :: false :: false :: false :: false :: false :: false :: false :: false :: false :: false :: false :: false :: false :: false :: false :: false :: false :: false :: false :: false :: false :: false :: false :: false :: false :: false :: false :: false :: false :: false :: false :: false :: false :: false :: false :: false :: false :: false :: false :: false :: false :: false :: false :: false :: false :: false :: false :: false :: false :: false :: false :: false :: false :: false :: false :: false :: false :: false :: false :: false :: false :: false :: false :: false :: false :: false :: false :: false :: false :: false :: false :: false :: false :: false :: false :: false :: false :: false :: false :: false :: false :: false :: false :: false :: false :: false :: false :: false :: false :: false :: false :: false :: false :: false :: false :: false :: false :: false :: false :: false :: false :: false :: false :: false :: false :: false :: false :: false :: false :: false :: false :: false :: false :: false :: false :: false :: false :: false :: false :: false :: []) (fun i tm L H e g => (PreA H0 lb lo n b c H ∧ ∀ k, k < 2 → RowA H 5 (b k) (c k) (fun cs => k < i → cs.take n = msB k n)) ∧ L = []) (by omega) rfl ⟨⟨hpre, fun k hk => (hrow k hk).2.mono (fun cs _ h => absurd h (Nat.not_lt_zero _))⟩, rfl⟩ ?_
    intro i0 hi0
    conv => whnf
    iterate 25 (intro j; conv => whnf)
    refine Halt.mk ?_
    rintro L H1 e g ⟨⟨hp, hr⟩, rfl⟩ K kn kx kr
    repeat' (conv => whnf
             first | (refine Stop.mk ?_) | (refine fO_mk ?_) | fail)
    conv => whnf
    refine dec_split (fun h => ?_) (fun h => ?_)
    · have hlt : i0 < 2 := by have h2 : (i0 : Int) < (2 : Int) := of_decide_eq_true h; omega
      clear kx
      repeat' (conv => whnf
               first | fail)
      conv => whnf
      refine rLoop_ctr (c := rC (tab [(33, s33)]) k l62_1) n 4 (false :: false :: false :: false :: false :: false :: false :: false :: false :: false :: false :: false :: false :: false :: false :: false :: false :: false :: false :: false :: false :: false :: true :: true :: true :: true :: true :: true :: true :: true :: true :: true :: true :: true :: true :: true :: true :: true :: true :: true :: false :: false :: false :: false :: false :: false :: false :: false :: false :: false :: false :: false :: false :: false :: false :: false :: false :: false :: false :: false :: false :: false :: false :: false :: false :: false :: false :: false :: false :: false :: false :: false :: false :: false :: false :: false :: false :: false :: false :: false :: false :: false :: false :: false :: false :: false :: false :: false :: false :: false :: false :: false :: false :: false :: false :: false :: false :: false :: false :: false :: false :: false :: false :: false :: false :: false :: false :: false :: false :: false :: false :: false :: false :: false :: false :: false :: false :: false :: false :: false :: false :: false :: false :: false :: false :: false :: false :: false :: false :: false :: false :: false :: false :: false :: false :: false :: false :: false :: false :: false :: false :: false :: false :: false :: false :: false :: false :: false :: false :: false :: false :: false :: false :: false :: false :: false :: false :: false :: false :: false :: false :: false :: false :: false :: false :: false :: false :: false :: false :: false :: false :: false :: false :: false :: false :: false :: false :: false :: false :: false :: false :: false :: false :: false :: false :: false :: false :: false :: false :: false :: false :: false :: false :: []) (fun i tm L H e g => (PreA H0 lb lo n b c H ∧ (∀ k, k < 2 → k ≠ i0 → RowA H 5 (b k) (c k) (fun cs => k < i0 → cs.take n = msB k n)) ∧ RowA H 5 (b i0) (c i0) (fun cs => cs.take i = msB i0 i)) ∧ L = []) (by omega) rfl ⟨⟨hp, fun k hk _ => hr k hk, (hr i0 hlt).mono (fun cs _ => rfl)⟩, rfl⟩ ?_
      intro i1 hi1
      conv => whnf
      iterate 18 (intro j; conv => whnf)
      refine Halt.mk ?_
      clear hp hr
      rintro L H2 e g ⟨⟨hp, hro, hrk⟩, rfl⟩ K1 kn1 kx1 kr1
      have hld : ∀ p, p = lo + i0 * 1 → rd H2 lb p 1 = some [.sl (some (b i0, 0)) n (c i0)] := fun p hp' => by rw [hp', Nat.mul_one]; exact hp.2 i0 hlt
      repeat' (conv => whnf
               first | (refine Stop.mk ?_) | (with_reducible refine fI_isA (a := (n : Int)) rfl ?_) | (refine fO_mk ?_) | (refine fN_mk ?_) | (refine pure_step (ixs_eq rfl rfl (by omega) (by omega)) ?_) | (refine ld_step rfl (hld _ (by first | omega | rfl)) rfl ?_) | fail)
      conv => whnf
      refine dec_split (fun h1 => ?_) (fun h1 => ?_)
      · have hlt1 : i1 < n := by have h2 : (i1 : Int) < (n : Int) := of_decide_eq_true h1; omega
        clear kx1 kr1 kr kn
        obtain ⟨cs, hb, hc, hone, ht⟩ := hrk
        have hci := hnc i0 hlt
        have hbl : b i0 < H2.length := (List.getElem?_eq_some_iff.1 hb).1
        have hw := wr_blk hb (o := 0 + ((i1 : Nat) : Int).toNat * 1) (vs := [V.int .u8 (mbV (i0 : Int) (i1 : Int))]) (by show 0 + ((i1 : Nat) : Int).toNat * 1 + 1 ≤ _; omega)
        repeat' (conv => whnf
                 first | (refine Stop.mk ?_) | (with_reducible refine fI_isA (a := mbV (i0 : Int) (i1 : Int)) rfl ?_) | (refine fI_i64 (by first | omega | (simp only [Int.ofNat_eq_natCast] at *; omega)) ?_; intro z hz) | (refine fO_gen ?_; intro z hz) | (refine pure_step (ixs_eq rfl rfl (by omega) (by omega)) ?_) | (refine lds_step rfl (hld _ (by first | omega | rfl)) rfl ?_) | (refine mem_step (st_eq rfl rfl rfl rfl hw) ?_) | (apply silE) | (refine And.intro rfl ?_) | (refine fH_mk ?_) | (refine fN_mk ?_) | fail)
        all_goals (conv => whnf)
        all_goals
          subst hz
          refine kn1 hlt1 _ _ _ _ _ rfl ⟨⟨hp.keep (fun x hx hx0 hx1 => by rw [List.getElem?_set, if_neg (fun he => ne_row hx0 hx1 hlt he.symm)]) (by rw [List.getElem?_set, if_neg (fun he => hlb i0 hlt he.symm)]) (by rw [List.length_set]; exact Nat.le_refl _), fun k hk hki => (hro k hk hki).same (by rw [List.getElem?_set, if_neg (fun he => hbne hlt hk (fun h => hki h.symm) he)]), ⟨_, by rw [List.getElem?_set, if_pos rfl, if_pos hbl], by rw [splice_lenA (by show 0 + ((i1 : Nat) : Int).toNat * 1 + 1 ≤ _; omega)]; exact hc, trivial, ?_⟩⟩, rfl⟩
          have h3 := splice_take (cs := cs) (o := 0 + ((i1 : Nat) : Int).toNat * 1) (vs := [V.int .u8 (mbV (i0 : Int) (i1 : Int))]) (by show 0 + ((i1 : Nat) : Int).toNat * 1 + 1 ≤ _; omega)
          have h4 : 0 + ((i1 : Nat) : Int).toNat * 1 = i1 := by omega
          rw [h4] at h3
          rw [h4, msB_succ, ← ht]
          exact h3
      · clear kn1 kr1
        have hie : i1 = n := by have h2 : ¬ (i1 : Int) < (n : Int) := of_decide_eq_false h1; omega
        subst hie
        repeat' (conv => whnf
                 first | (refine Stop.mk ?_) | (refine fI_i64 (by first | omega | (simp only [Int.ofNat_eq_natCast] at *; omega)) ?_; intro z hz) | (refine kx1 _ _ _ _ _ _ ?_) | fail)
        all_goals (conv => whnf)
        all_goals
          subst hz
          refine kn hlt _ _ _ _ _ rfl ⟨⟨hp, fun k hk => ?_⟩, rfl⟩
          by_cases hki : k = i0
          · subst hki; exact hrk.mono (fun cs h _ => h)
          · exact (hro k hk hki).mono (fun cs h hlt2 => h (by omega))
    · clear kn kr
      have hie : i0 = 2 := by have h2 : ¬ (i0 : Int) < (2 : Int) := of_decide_eq_false h; omega
      subst hie
      refine kx _ _ _ _ _ _ ?_
      clear kx
      conv => whnf
      refine Halt.mk ?_
      show rC _ _ r62_2 _ _ _ _ _ _
      have hrA : ∀ k, k < 2 → RowA H1 5 (b k) (c k) (fun cs => cs.take n = msB k n) := fun k hk => (hr k hk).mono (fun cs h => h hk)
      have hxl : H0.length = Hx.length := by rw [hH0]
      clear hr hpre hrow h
      have hbg : ∀ j, j < 2 → b j < H1.length := fun j hj => (hrA j hj).lt
      have hlg : lb ≠ H1.length := by have := rd_lt (hp.2 0 (by decide)); omega
      have hg0 : H0.length ≤ H1.length := hp.1.2
      refine rC_seqH ?_
      repeat' (conv => whnf
               first | (refine Stop.mk ?_) | (refine fO_gen ?_; intro z hz) | (refine fH_mk ?_) | (refine fN_mk ?_) | fail)
      any_goals refine Halt.mk ?_
      any_goals show rC _ _ r62_3 _ _ _ _ _ _
      have hst0 : StA H0 lb lo n b c 5 27 H1.length (n + 64) (fun j cs => cs.take (n + 64) = msB j (n + 64)) (fun k cs => cs.take n = msB k n) 0 (H1 ++ [.rw 27 (reps 2 [.sl none 0 0])]) :=
        ⟨hp.keep (fun x hx _ _ => List.getElem?_append_left (by omega)) (List.getElem?_append_left (rd_lt (hp.2 0 (by decide)))) (by rw [List.length_append]; omega), fun k hk => (hrA k hk).same (List.getElem?_append_left (hbg k hk)), _, List.getElem?_concat_length, rfl, trivial, fun j hj => absurd hj (Nat.not_lt_zero _)⟩
      obtain ⟨Hg, hHg⟩ : ∃ Hg, Hg = H1 ++ [B.rw 27 (reps 2 [V.sl none 0 0])] := ⟨_, rfl⟩
      show rC _ _ r62_3 _ _ (H1 ++ [B.rw 27 (reps 2 [V.sl none 0 0])]) _ _ _
      rw [← hHg] at hst0 ⊢
      obtain ⟨gb, hgb⟩ : ∃ gb, gb = H1.length := ⟨_, rfl⟩
      rw [← hgb] at hst0 hbg hlg hg0 ⊢
      clear hHg hp hrA hgb
      refine rC_seqH ?_
      repeat' (conv => whnf
               first | fail)
      conv => whnf
      refine rLoop_ctr (c := rC (tab [(33, s33)]) k l62_2) 2 6 (false :: false :: false :: false :: false :: false :: false :: true :: true :: false :: false :: false :: false :: false :: false :: false :: false :: false :: false :: false :: false :: false :: false :: false :: false :: false :: false :: false :: false :: false :: false :: false :: false :: false :: false :: false :: false :: false :: false :: false :: false :: false :: false :: true :: true :: true :: true :: true :: true :: true :: true :: true :: true :: true :: true :: true :: true :: true :: true :: true :: true :: true :: true :: true :: true :: true :: true :: true :: true :: true :: true :: true :: true :: false :: false :: false :: false :: false :: false :: false :: false :: false :: false :: false :: false :: false :: false :: false :: false :: false :: false :: false :: false :: false :: false :: false :: false :: false :: false :: false :: false :: false :: false :: false :: false :: false :: false :: false :: false :: false :: false :: false :: false :: false :: false :: false :: false :: false :: false :: false :: false :: false :: false :: false :: false :: false :: false :: false :: false :: false :: false :: false :: false :: false :: false :: false :: false :: false :: false :: false :: false :: false :: false :: false :: false :: false :: false :: false :: false :: false :: false :: false :: false :: false :: false :: false :: false :: false :: false :: false :: false :: false :: false :: false :: false :: false :: false :: false :: false :: false :: false :: false :: false :: false :: false :: false :: false :: false :: false :: false :: false :: false :: false :: false :: false :: false :: false :: false :: false :: false :: false :: false :: false :: []) (fun i tm L H e g => StA H0 lb lo n b c 5 27 gb (n + 64) (fun j cs => cs.take (n + 64) = msB j (n + 64)) (fun k cs => cs.take n = msB k n) i H ∧ L = []) (by omega) rfl ⟨hst0, rfl⟩ ?_
      intro i2 hi2
      conv => whnf
      iterate 32 (intro j; conv => whnf)
      refine Halt.mk ?_
      clear hst0
      rintro L H3 e g ⟨hst, rfl⟩ K kn kx kr
      repeat' (conv => whnf
               first | (refine Stop.mk ?_) | (refine fO_mk ?_) | fail)
      conv => whnf
      refine dec_split (fun h => ?_) (fun h => ?_)
      · have hlt : i2 < 2 := by have h2 : (i2 : Int) < (2 : Int) := of_decide_eq_true h; omega
        clear kx
        have hp := hst.1
        have hld : ∀ p, p = lo + i2 * 1 → rd H3 lb p 1 = some [.sl (some (b i2, 0)) n (c i2)] := fun p hp' => by rw [hp', Nat.mul_one]; exact hp.2 i2 hlt
        have hlbk := hlb i2 hlt
        repeat' (conv => whnf
                 first | (refine Stop.mk ?_) | (refine fO_mk ?_) | (refine fN_mk ?_) | (refine pure_step (ixs_eq rfl rfl (by omega) (by omega)) ?_) | (refine ld_step rfl (hld _ (by first | omega | rfl)) rfl ?_) | fail)
        conv => whnf
        refine rLoop_ctr (c := rC (tab [(33, s33)]) k l62_3) 64 8 (false :: false :: false :: false :: false :: false :: false :: true :: false :: false :: false :: false :: false :: false :: false :: false :: false :: false :: false :: false :: false :: false :: false :: false :: false :: false :: false :: false :: false :: false :: false :: false :: false :: false :: false :: false :: false :: false :: false :: false :: false :: false :: false :: false :: false :: false :: false :: false :: false :: false :: false :: false :: false :: true :: true :: true :: true :: true :: true :: true :: true :: true :: true :: true :: true :: true :: true :: true :: true :: false :: false :: false :: false :: false :: false :: false :: false :: false :: false :: false :: false :: false :: false :: false :: false :: false :: false :: false :: false :: false :: false :: false :: false :: false :: false :: false :: false :: false :: false :: false :: false :: false :: false :: false :: false :: false :: false :: false :: false :: false :: false :: false :: false :: false :: false :: false :: false :: false :: false :: false :: false :: false :: false :: false :: false :: false :: false :: false :: false :: false :: false :: false :: false :: false :: false :: false :: false :: false :: false :: false :: false :: false :: false :: false :: false :: false :: false :: false :: false :: false :: false :: false :: false :: false :: false :: false :: false :: false :: false :: false :: false :: false :: false :: false :: false :: false :: false :: false :: false :: false :: false :: false :: false :: false :: false :: false :: false :: false :: false :: false :: false :: false :: false :: false :: false :: false :: false :: false :: false :: false :: false :: false :: false :: []) (fun i tm L H e g => InBB 5 (b i2) (c i2) n i2 i H3 H (svA tm 7) ∧ L = []) (by omega) rfl ⟨InBB.init (hnc i2 hlt) (hst.2.1 i2 hlt), rfl⟩ ?_
        intro i3 hi3
        conv => whnf
        iterate 17 (intro j; conv => whnf)
        refine Halt.mk ?_
        rintro L H4 e g ⟨hin, rfl⟩ K3 kn3 kx3 kr3
        obtain ⟨hfr, hle, hrow, b', c', cs', h7, hb', hc', ho', hm', ht', hd'⟩ := hin
        conv at h7 => lhs; whnf
        subst h7
        have hld4 : ∀ X p, p = lo + i2 * 1 → rd (H4 ++ X) lb p 1 = some [.sl (some (b i2, 0)) n (c i2)] := fun X p hp' => rd_same (hld p hp') ((List.getElem?_append_left (Nat.lt_of_lt_of_le (rd_lt (hld _ rfl)) hle)).trans (hfr lb (rd_lt (hld _ rfl)) hlbk))
        have hld4' : ∀ p, p = lo + i2 * 1 → rd H4 lb p 1 = some [.sl (some (b i2, 0)) n (c i2)] := fun p hp' => by have := hld4 [] p hp'; rwa [List.append_nil] at this
        repeat' (conv => whnf
                 first | (refine Stop.mk ?_) | (refine fO_mk ?_) | fail)
        conv => whnf
        refine dec_split (fun h1 => ?_) (fun h1 => ?_)
        · have hlt1 : i3 < 64 := by have h2 : (i3 : Int) < (64 : Int) := of_decide_eq_true h1; omega
          clear kx3 kr3 kn kr
          have hbx : ∀ X, (H4 ++ X)[b']? = some (.rw 5 cs') := fun X => (List.getElem?_append_left (List.getElem?_eq_some_iff.1 hb').1).trans hb'
          repeat' (conv => whnf
                   first | (refine Stop.mk ?_) | (with_reducible refine fI_isA (a := (n : Int)) rfl ?_) | (refine fI_isA (wrap_ni hn4 hlt1) ?_) | (with_reducible refine fI_isA (a := mbV (i2 : Int) ((n + i3 : Nat) : Int)) rfl ?_) | (refine fI_i64 (by first | omega | (simp only [Int.ofNat_eq_natCast] at *; omega)) ?_; intro z hz) | (refine fO_gen ?_; intro z hz) | (refine pure_step (ixs_eq rfl rfl (by omega) (by omega)) ?_) | (refine ld_step rfl (hld4' _ (by first | omega | rfl)) rfl ?_) | (refine appF (ds := [V.int .u8 (mbV (i2 : Int) ((n + i3 : Nat) : Int))]) rfl rfl (hbx _) hc' hm' (msB_one ht') rfl rfl (news_eq ((rd_x0 _ _ _ _ _).trans rfl) rfl) rfl (by show (n + i3 + 1) * _ ≤ _; omega) (by show n + i3 + 1 ≤ _; omega) rfl ?_; intro b2 c2 cs2 H5 g5 q1 q2 q3 q4 q5 q6 q7 q8) | (refine fH_mk ?_) | (refine fN_mk ?_) | fail)
          all_goals (conv => whnf)
          all_goals
            subst hz
            refine kn3 hlt1 _ _ _ _ _ rfl ⟨InBB.step hfr hle hrow hb' hc' hd' ht' q1 q2 q3 q4 q5 q6 q7 q8, rfl⟩
        · clear kn3 kr3
          have hie : i3 = 64 := by have h2 : ¬ (i3 : Int) < (64 : Int) := of_decide_eq_false h1; omega
          subst hie
          obtain ⟨H5, hw, hst5⟩ := hst.step hlt hbg hg0 hbne hlb hlg hfr hle hrow hb' hc' hm' ht' hd'
          have hi2' : (i2 : Int) < ((2 : Nat) : Int) := by omega
          repeat' (conv => whnf
                   first | (refine Stop.mk ?_) | (refine fI_i64 (by first | omega | (simp only [Int.ofNat_eq_natCast] at *; omega)) ?_; intro z hz) | (refine fO_gen ?_; intro z hz) | (refine pure_step (ixs_eq rfl rfl (by omega) (by first | omega | exact hi2')) ?_) | (refine mem_step (st_eq rfl rfl rfl rfl hw) ?_) | (refine kx3 _ _ _ _ _ _ ?_) | (refine fH_mk ?_) | (refine fN_mk ?_) | fail)
          all_goals (conv => whnf)
          all_goals
            subst hz
            refine kn hlt _ _ _ _ _ rfl ⟨hst5, rfl⟩
      · clear kn kr
        have hie : i2 = 2 := by have h2 : ¬ (i2 : Int) < (2 : Int) := of_decide_eq_false h; omega
        subst hie
        refine kx _ _ _ _ _ _ ?_
        clear kx h
        conv => whnf
        refine Halt.mk ?_
        show rC _ _ r62_4 _ _ _ _ _ _
        refine rC_seqH ?_
        repeat' (conv => whnf
                 first | fail)
        conv => whnf
        refine rLoop_ctr (c := rC (tab [(33, s33)]) k l62_4) 2 9 (false :: false :: true :: false :: false :: false :: false :: false :: false :: false :: true :: false :: false :: false :: false :: false :: false :: false :: false :: false :: false :: false :: false :: false :: false :: false :: false :: false :: false :: false :: false :: false :: false :: false :: false :: false :: false :: false :: false :: false :: false :: false :: false :: false :: false :: false :: false :: false :: false :: false :: false :: false :: false :: false :: false :: false :: false :: false :: false :: false :: false :: false :: false :: false :: false :: false :: false :: false :: false :: false :: false :: false :: false :: true :: true :: true :: true :: true :: true :: true :: true :: true :: true :: true :: true :: true :: true :: true :: true :: true :: true :: true :: true :: true :: true :: true :: true :: true :: true :: true :: true :: true :: true :: true :: true :: true :: true :: true :: true :: true :: true :: true :: true :: true :: true :: true :: true :: true :: true :: true :: true :: true :: true :: false :: false :: false :: false :: false :: false :: false :: false :: false :: false :: false :: false :: false :: false :: false :: false :: false :: false :: false :: false :: false :: false :: false :: false :: false :: false :: false :: false :: false :: false :: false :: false :: false :: false :: false :: false :: false :: false :: false :: false :: false :: false :: false :: false :: false :: false :: false :: false :: false :: false :: false :: false :: false :: false :: false :: false :: false :: false :: false :: false :: false :: false :: false :: false :: false :: false :: false :: false :: false :: false :: []) (fun i tm L H e g => H = H3 ∧ L = []) (by omega) rfl ⟨rfl, rfl⟩ ?_
        intro i4 hi4
        conv => whnf
        iterate 52 (intro j; conv => whnf)
        refine Halt.mk ?_
        rintro L H3 e g ⟨rfl, rfl⟩ K kn kx kr
        repeat' (conv => whnf
                 first | (refine Stop.mk ?_) | (refine fO_mk ?_) | fail)
        conv => whnf
        refine dec_split (fun h => ?_) (fun h => ?_)
        · have hlt : i4 < 2 := by have h2 : (i4 : Int) < (2 : Int) := of_decide_eq_true h; omega
          clear kx
          have hld : ∀ p, p = lo + i4 * 1 → rd H3 lb p 1 = some [.sl (some (b i4, 0)) n (c i4)] := fun p hp' => by rw [hp', Nat.mul_one]; exact hst.1.2 i4 hlt
          obtain ⟨cs, hb, hc, hone, ht⟩ := hst.2.1 i4 hlt
          obtain ⟨gcs, hg, hgl, hgo, hgj⟩ := hst.2.2
          obtain ⟨b', c', cs', hj, hb', hc', hm', ht', _⟩ := hgj i4 hlt hlt
          have hgd := rd_get hg hj
          have hci := hnc i4 hlt
          have hi2' : (i4 : Int) < ((2 : Nat) : Int) := by omega
          clear hst hgj hg
          repeat' (conv => whnf
                   first | fail)
          conv => whnf
          refine rLoop_ctr (c := rC (tab [(33, s33)]) k l62_5) (n+64) 10 (false :: false :: true :: false :: false :: false :: false :: false :: false :: false :: false :: false :: false :: false :: false :: false :: false :: false :: false :: false :: false :: false :: false :: false :: false :: false :: false :: false :: false :: false :: false :: false :: false :: false :: false :: false :: false :: false :: false :: false :: false :: false :: false :: false :: false :: false :: false :: false :: false :: false :: false :: false :: false :: false :: false :: false :: false :: false :: false :: false :: false :: false :: false :: false :: false :: false :: false :: false :: false :: false :: false :: false :: false :: false :: false :: false :: false :: false :: false :: true :: true :: true :: true :: true :: true :: true :: true :: true :: true :: true :: true :: true :: true :: true :: true :: true :: true :: true :: true :: true :: true :: true :: true :: true :: true :: true :: true :: true :: true :: true :: true :: true :: true :: true :: true :: true :: true :: true :: true :: true :: true :: true :: true :: false :: false :: false :: false :: false :: false :: false :: false :: false :: false :: false :: false :: false :: false :: false :: false :: false :: false :: false :: false :: false :: false :: false :: false :: false :: false :: false :: false :: false :: false :: false :: false :: false :: false :: false :: false :: false :: false :: false :: false :: false :: false :: false :: false :: false :: false :: false :: false :: false :: false :: false :: false :: false :: false :: false :: false :: false :: false :: false :: false :: false :: false :: false :: false :: false :: false :: false :: false :: false :: false :: []) (fun i tm L H e g => H = H3 ∧ L = []) (by omega) rfl ⟨rfl, rfl⟩ ?_
          intro i5 hi5
          conv => whnf
          iterate 45 (intro j; conv => whnf)
          refine Halt.mk ?_
          rintro L H3 e g ⟨rfl, rfl⟩ K1 kn1 kx1 kr1
          repeat' (conv => whnf
                   first | (refine Stop.mk ?_) | (refine fO_mk ?_) | (refine fN_mk ?_) | (refine pure_step (ixs_eq rfl rfl (by omega) (by first | omega | exact hi2')) ?_) | (refine ld_step rfl (hgd _ (by first | omega | rfl)) rfl ?_) | fail)
          conv => whnf
          refine dec_split (fun h1 => ?_) (fun h1 => ?_)
          · have hlt1 : i5 < (n + 64) := by have h2 : (i5 : Int) < (((n + 64) : Nat) : Int) := of_decide_eq_true h1; omega
            clear kx1 kr1 kr kn
            have r1 := msB_rd hb' (by omega) ht' hlt1
            have hi1' : (i5 : Int) < ((n + 64 : Nat) : Int) := by omega
            by_cases hin : i5 < n
            · have r2 := msB_rd hb (by omega) ht hin
              have dn : decide ((i5 : Int) < (n : Int)) = true := decide_eq_true (by omega)
              repeat' (conv => whnf
                       first | (refine Stop.mk ?_) | (with_reducible refine fI_isA (a := (n : Int)) rfl ?_) | (with_reducible refine fI_isA (a := mbV (i4 : Int) (i5 : Int)) rfl ?_) | (refine fO_isA dn ?_) | (refine fO_isA (decide_eq_true (show mbV (i4 : Int) (i5 : Int) = mbV (i4 : Int) (i5 : Int) from rfl)) ?_) | (refine fI_i64 (by first | omega | (simp only [Int.ofNat_eq_natCast] at *; omega)) ?_; intro z hz) | (refine pure_step (ixs_eq rfl rfl (by omega) (by first | omega | exact hi2' | exact hi1')) ?_) | (refine lds_step rfl (hld _ (by first | omega | rfl)) rfl ?_) | (refine lds_step rfl (hgd _ (by first | omega | rfl)) rfl ?_) | (refine lds_step rfl (r1 _ (by first | omega | rfl)) rfl ?_) | (refine lds_step rfl (r2 _ (by first | omega | rfl)) rfl ?_) | (apply silE) | (refine And.intro rfl ?_) | (refine fN_mk ?_) | fail)
              all_goals (conv => whnf)
              all_goals
                subst hz
                refine kn1 hlt1 _ _ _ _ _ rfl ⟨rfl, rfl⟩
            · have dn : decide ((i5 : Int) < (n : Int)) = false := decide_eq_false (by omega)
              repeat' (conv => whnf
                       first | (refine Stop.mk ?_) | (with_reducible refine fI_isA (a := (n : Int)) rfl ?_) | (with_reducible refine fI_isA (a := mbV (i4 : Int) (i5 : Int)) rfl ?_) | (refine fO_isA dn ?_) | (refine fO_isA (decide_eq_true (show mbV (i4 : Int) (i5 : Int) = mbV (i4 : Int) (i5 : Int) from rfl)) ?_) | (refine fI_i64 (by first | omega | (simp only [Int.ofNat_eq_natCast] at *; omega)) ?_; intro z hz) | (refine pure_step (ixs_eq rfl rfl (by omega) (by first | omega | exact hi2' | exact hi1')) ?_) | (refine lds_step rfl (hld _ (by first | omega | rfl)) rfl ?_) | (refine lds_step rfl (hgd _ (by first | omega | rfl)) rfl ?_) | (refine lds_step rfl (r1 _ (by first | omega | rfl)) rfl ?_) | (apply silE) | (refine And.intro rfl ?_) | (refine fN_mk ?_) | fail)
              all_goals (conv => whnf)
              all_goals
                subst hz
                refine kn1 hlt1 _ _ _ _ _ rfl ⟨rfl, rfl⟩
          · clear kn1 kr1
            have hie : i5 = (n + 64) := by have h2 : ¬ (i5 : Int) < (((n + 64) : Nat) : Int) := of_decide_eq_false h1; omega
            subst hie
            repeat' (conv => whnf
                     first | (refine Stop.mk ?_) | (refine fI_i64 (by first | omega | (simp only [Int.ofNat_eq_natCast] at *; omega)) ?_; intro z hz) | (refine kx1 _ _ _ _ _ _ ?_) | fail)
            all_goals (conv => whnf)
            all_goals
              subst hz
              refine kn hlt _ _ _ _ _ rfl ⟨rfl, rfl⟩
        · clear kn kr
          have hie : i4 = 2 := by have h2 : ¬ (i4 : Int) < (2 : Int) := of_decide_eq_false h; omega
          subst hie
          refine kx _ _ _ _ _ _ ?_
          clear kx h
          conv => whnf
          refine Halt.mk ?_
          show rC _ _ r62_5 _ _ _ _ _ _
          have hst0 : StA H0 lb lo n b c 5 27 gb (n + 64) (fun j cs => cs.take n = msB j n) (fun k cs => cs.take n = msB k n) 0 H3 := ⟨hst.1, hst.2.1, hst.2.2.mono (fun cs _ j hj => absurd hj (Nat.not_lt_zero _))⟩
          clear hst
          refine rC_seqH ?_
          repeat' (conv => whnf
                   first | fail)
          conv => whnf
          refine rLoop_ctr (c := rC (tab [(33, s33)]) k l62_6) 2 11 (false :: false :: false :: false :: false :: false :: false :: false :: false :: false :: false :: false :: true :: true :: false :: false :: false :: false :: false :: false :: false :: false :: false :: false :: false :: false :: false :: false :: false :: false :: false :: false :: false :: false :: false :: false :: false :: false :: false :: false :: false :: false :: false :: false :: false :: false :: false :: false :: false :: false :: false :: false :: false :: false :: false :: false :: false :: false :: false :: false :: false :: false :: false :: false :: false :: false :: false :: false :: false :: false :: false :: false :: false :: false :: false :: false :: false :: false :: false :: false :: false :: false :: false :: false :: false :: false :: false :: false :: false :: false :: false :: false :: false :: false :: false :: false :: false :: false :: false :: false :: false :: false :: false :: false :: false :: false :: false :: false :: false :: false :: false :: false :: false :: false :: false :: false :: false :: false :: false :: false :: false :: false :: false :: true :: true :: true :: true :: true :: true :: true :: true :: true :: true :: true :: true :: true :: true :: true :: true :: true :: true :: true :: true :: true :: true :: true :: true :: true :: true :: true :: true :: true :: false :: false :: false :: false :: false :: false :: false :: false :: false :: false :: false :: false :: false :: false :: false :: false :: false :: false :: false :: false :: false :: false :: false :: false :: false :: false :: false :: false :: false :: false :: false :: false :: false :: false :: false :: false :: false :: false :: false :: false :: false :: []) (fun i tm L H e g => StA H0 lb lo n b c 5 27 gb (n + 64) (fun j cs => cs.take n = msB j n) (fun k cs => cs.take n = msB k n) i H ∧ L = []) (by omega) rfl ⟨hst0, rfl⟩ ?_
          intro i6 hi6
          conv => whnf
          iterate 31 (intro j; conv => whnf)
          refine Halt.mk ?_
          clear hst0
          rintro L H3 e g ⟨hst, rfl⟩ K kn kx kr
          repeat' (conv => whnf
                   first | (refine Stop.mk ?_) | (refine fO_mk ?_) | fail)
          conv => whnf
          refine dec_split (fun h => ?_) (fun h => ?_)
          · have hlt : i6 < 2 := by have h2 : (i6 : Int) < (2 : Int) := of_decide_eq_true h; omega
            clear kx
            have hlbk := hlb i6 hlt
            have hi2' : (i6 : Int) < ((2 : Nat) : Int) := by omega
            have hld : ∀ p, p = lo + i6 * 1 → rd H3 lb p 1 = some [.sl (some (b i6, 0)) n (c i6)] := fun p hp' => by rw [hp', Nat.mul_one]; exact hst.1.2 i6 hlt
            repeat' (conv => whnf
                     first | (refine Stop.mk ?_) | (refine fO_mk ?_) | (refine fN_mk ?_) | (refine fH_mk ?_) | fail)
            conv => whnf
            refine rLoop_ctr (c := rC (tab [(33, s33)]) k l62_7) 64 13 (false :: false :: false :: false :: false :: false :: false :: false :: false :: false :: false :: false :: false :: false :: false :: false :: false :: false :: false :: false :: false :: false :: false :: false :: false :: false :: false :: false :: false :: false :: false :: false :: false :: false :: false :: false :: false :: false :: false :: false :: false :: false :: false :: false :: false :: false :: false :: false :: false :: false :: false :: false :: false :: false :: false :: false :: false :: false :: false :: false :: false :: false :: false :: false :: false :: false :: false :: false :: false :: false :: false :: false :: false :: false :: false :: false :: false :: false :: false :: false :: false :: false :: false :: false :: false :: false :: false :: false :: false :: false :: false :: false :: false :: false :: false :: false :: false :: false :: false :: false :: false :: false :: false :: false :: false :: false :: false :: false :: false :: false :: false :: false :: false :: false :: false :: false :: false :: false :: false :: false :: false :: false :: false :: false :: false :: false :: false :: false :: false :: false :: true :: true :: true :: true :: true :: true :: true :: true :: true :: true :: true :: true :: true :: false :: false :: false :: false :: false :: false :: false :: false :: false :: false :: false :: false :: false :: false :: false :: false :: false :: false :: false :: false :: false :: false :: false :: false :: false :: false :: false :: false :: false :: false :: false :: false :: false :: false :: false :: false :: false :: false :: false :: false :: false :: false :: false :: false :: false :: false :: false :: false :: false :: false :: []) (fun i tm L H e g => InD 5 H3 H ∧ L = []) (by omega) rfl ⟨InD.init (cs := reps 64 [V.int .u8 0]) rfl rfl rfl, rfl⟩ ?_
            intro i7 hi7
            conv => whnf
            iterate 13 (intro j; conv => whnf)
            refine Halt.mk ?_
            rintro L H4 e g ⟨hin, rfl⟩ K3 kn3 kx3 kr3
            repeat' (conv => whnf
                     first | (refine Stop.mk ?_) | (refine fO_mk ?_) | fail)
            conv => whnf
            refine dec_split (fun h1 => ?_) (fun h1 => ?_)
            · have hlt1 : i7 < 64 := by have h2 : (i7 : Int) < (64 : Int) := of_decide_eq_true h1; omega
              clear kx3 kr3 kn kr
              obtain ⟨H5, hw, hin5⟩ := hin.step hlt1 (v := V.int .u8 (mbV ((i6 + 2 : Nat) : Int) (i7 : Int))) rfl rfl
              have hi64 : (i7 : Int) < ((64 : Nat) : Int) := by omega
              repeat' (conv => whnf
                       first | (refine Stop.mk ?_) | (refine fI_isA (wrap_ni (n := i6) (i := 2) (m := 2) (by omega) (by decide)) ?_) | (with_reducible refine fI_isA (a := mbV ((i6 + 2 : Nat) : Int) (i7 : Int)) rfl ?_) | (refine fI_i64 (by first | omega | (simp only [Int.ofNat_eq_natCast] at *; omega)) ?_; intro z hz) | (refine fO_gen ?_; intro z hz) | (refine pure_step (ixs_eq rfl rfl (by omega) (by first | omega | exact hi2' | exact hi64)) ?_) | (refine mem_step (st_eq rfl rfl rfl rfl hw) ?_) | (refine fH_mk ?_) | (refine fN_mk ?_) | fail)
              all_goals (conv => whnf)
              all_goals
                subst hz
                refine kn3 hlt1 _ _ _ _ _ rfl ⟨hin5, rfl⟩
            · clear kn3 kr3
              have hie : i7 = 64 := by have h2 : ¬ (i7 : Int) < (64 : Int) := of_decide_eq_false h1; omega
              subst hie
              have hld4 : ∀ p, p = lo + i6 * 1 → rd H4 lb p 1 = some [.sl (some (b i6, 0)) n (c i6)] := fun p hp' => rd_same (hld p hp') (hin.1 lb (rd_lt (hld _ rfl)))
              obtain ⟨cs, hb, hc, hone, ht⟩ := (hst.2.1 i6 hlt)
              have hbl := (hst.2.1 i6 hlt).lt
              have hci := hnc i6 hlt
              obtain ⟨hfr, hln, ds, hd, hdl, hdo, hdt⟩ := hin
              have hb4 : H4[b i6]? = some (.rw 5 cs) := (hfr _ hbl).trans hb
              have hnw : news H4 1 (.sl (some (H3.length, 0)) 64 64) = some (64, ds) := news_eq (by have := rd_blk hd (o := 0) (n := 64 * 1) (by omega); rwa [List.drop_zero, List.take_of_length_le (by omega)] at this) hdo
              have hfin : ∀ (b2 c2 : Nat) (cs2 : List V) (H6 : List B), H6[b2]? = some (.rw 5 cs2) → cs2.length = c2 → True → n + 64 ≤ c2 → cs2.take (n + 64) = cs.take n ++ ds → ((b2 = b i6 ∧ c2 = c i6) ∨ (H4.length ≤ b2 ∧ H6[b i6]? = H4[b i6]?)) → (∀ x, x < H4.length → x ≠ b i6 → H6[x]? = H4[x]?) → H4.length ≤ H6.length →
                  ∃ H', wr H6 gb (0 + i6 * 1) [.sl (some (b2, 0)) (n + 64) c2] = some H' ∧ StA H0 lb lo n b c 5 27 gb (n + 64) (fun j cs => cs.take n = msB j n) (fun k cs => cs.take n = msB k n) (i6 + 1) H' := by
                intro b2 c2 cs2 H6 q1 q2 q3 q4 q5 q6 q7 q8
                have ht2 : cs2.take n = msB i6 n := (take_of_take q5 (by omega)).trans ((List.take_left' (by rw [List.length_take]; omega)).trans ht)
                refine hst.step hlt hbg hg0 hbne hlb hlg (fun x hx hne => (q7 x (by omega) hne).trans (hfr x hx)) (by omega) ?_ q1 q2 q4 ht2 ?_
                · rcases q6 with ⟨rfl, rfl⟩ | ⟨_, q6⟩
                  · exact ⟨cs2, q1, q2, q3, ht2⟩
                  · exact ⟨cs, q6.trans hb4, hc, hone, ht⟩
                · rcases q6 with ⟨h, _⟩ | ⟨h, _⟩
                  · exact Or.inl h
                  · exact Or.inr (by omega)
              repeat' (conv => whnf
                       first | (refine Stop.mk ?_) | (refine fI_i64 (by first | omega | (simp only [Int.ofNat_eq_natCast] at *; omega)) ?_; intro z hz) | (refine fO_gen ?_; intro z hz) | (refine pure_step (ixs_eq rfl rfl (by omega) (by first | omega | exact hi2')) ?_) | (refine ld_step rfl (hld4 _ (by first | omega | rfl)) rfl ?_) | (refine appD hdl rfl rfl hb4 hc hci (msB_one ht) hdo rfl hnw hdt (by omega) (by omega) rfl ?_; intro b2 c2 cs2 H6 g6 q1 q2 q3 q4 q5 q6 q7 q8; obtain ⟨H7, hw, hst7⟩ := hfin b2 c2 cs2 H6 q1 q2 q3 q4 q5 q6 q7 q8) | (refine mem_step (st_eq rfl rfl rfl rfl hw) ?_) | (refine kx3 _ _ _ _ _ _ ?_) | (refine fH_mk ?_) | (refine fN_mk ?_) | fail)
              all_goals (conv => whnf)
              all_goals
                subst hz
                refine kn hlt _ _ _ _ _ rfl ⟨hst7, rfl⟩
          · clear kn kr
            have hie : i6 = 2 := by have h2 : ¬ (i6 : Int) < (2 : Int) := of_decide_eq_false h; omega
            subst hie
            refine kx _ _ _ _ _ _ ?_
            clear kx h
            conv => whnf
            refine Halt.mk ?_
            show rC _ _ r62_6 _ _ _ _ _ _
            refine rC_seqH ?_
            repeat' (conv => whnf
                     first | fail)
            conv => whnf
            refine rLoop_ctr (c := rC (tab [(33, s33)]) k l62_8) 2 14 (false :: false :: true :: false :: false :: false :: false :: false :: false :: false :: false :: false :: false :: false :: false :: true :: false :: false :: false :: false :: false :: false :: false :: false :: false :: false :: false :: false :: false :: false :: false :: false :: false :: false :: false :: false :: false :: false :: false :: false :: false :: false :: false :: false :: false :: false :: false :: false :: false :: false :: false :: false :: false :: false :: false :: false :: false :: false :: false :: false :: false :: false :: false :: false :: false :: false :: false :: false :: false :: false :: false :: false :: false :: false :: false :: false :: false :: false :: false :: false :: false :: false :: false :: false :: false :: false :: false :: false :: false :: false :: false :: false :: false :: false :: false :: false :: false :: false :: false :: false :: false :: false :: false :: false :: false :: false :: false :: false :: false :: false :: false :: false :: false :: false :: false :: false :: false :: false :: false :: false :: false :: false :: false :: false :: false :: false :: false :: false :: false :: false :: false :: false :: false :: false :: false :: false :: false :: false :: false :: false :: false :: false :: false :: false :: false :: false :: false :: false :: false :: false :: false :: false :: true :: true :: true :: true :: true :: true :: true :: true :: true :: true :: true :: true :: true :: true :: true :: true :: true :: true :: true :: true :: true :: true :: true :: true :: true :: true :: true :: true :: true :: true :: true :: true :: true :: true :: true :: true :: true :: true :: true :: true :: true :: []) (fun i tm L H e g => H = H3 ∧ L = []) (by omega) rfl ⟨rfl, rfl⟩ ?_
            intro i8 hi8
            conv => whnf
            iterate 43 (intro j; conv => whnf)
            refine Halt.mk ?_
            rintro L H3 e g ⟨rfl, rfl⟩ K kn kx kr
            repeat' (conv => whnf
                     first | (refine Stop.mk ?_) | (refine fO_mk ?_) | fail)
            conv => whnf
            refine dec_split (fun h => ?_) (fun h => ?_)
            · have hlt : i8 < 2 := by have h2 : (i8 : Int) < (2 : Int) := of_decide_eq_true h; omega
              clear kx
              have hld : ∀ p, p = lo + i8 * 1 → rd H3 lb p 1 = some [.sl (some (b i8, 0)) n (c i8)] := fun p hp' => by rw [hp', Nat.mul_one]; exact hst.1.2 i8 hlt
              obtain ⟨cs, hb, hc, hone, ht⟩ := hst.2.1 i8 hlt
              obtain ⟨gcs, hg, hgl, hgo, hgj⟩ := hst.2.2
              obtain ⟨b', c', cs', hj, hb', hc', hm', ht', _⟩ := hgj i8 hlt hlt
              have hgd := rd_get hg hj
              have hci := hnc i8 hlt
              have hi2' : (i8 : Int) < ((2 : Nat) : Int) := by omega
              clear hst hgj hg
              repeat' (conv => whnf
                       first | fail)
              conv => whnf
              refine rLoop_ctr (c := rC (tab [(33, s33)]) k l62_9) n 15 (false :: false :: true :: false :: false :: false :: false :: false :: false :: false :: false :: false :: false :: false :: false :: false :: false :: false :: false :: false :: false :: false :: false :: false :: false :: false :: false :: false :: false :: false :: false :: false :: false :: false :: false :: false :: false :: false :: false :: false :: false :: false :: false :: false :: false :: false :: false :: false :: false :: false :: false :: false :: false :: false :: false :: false :: false :: false :: false :: false :: false :: false :: false :: false :: false :: false :: false :: false :: false :: false :: false :: false :: false :: false :: false :: false :: false :: false :: false :: false :: false :: false :: false :: false :: false :: false :: false :: false :: false :: false :: false :: false :: false :: false :: false :: false :: false :: false :: false :: false :: false :: false :: false :: false :: false :: false :: false :: false :: false :: false :: false :: false :: false :: false :: false :: false :: false :: false :: false :: false :: false :: false :: false :: false :: false :: false :: false :: false :: false :: false :: false :: false :: false :: false :: false :: false :: false :: false :: false :: false :: false :: false :: false :: false :: false :: false :: false :: false :: false :: false :: false :: false :: false :: false :: false :: false :: false :: false :: true :: true :: true :: true :: true :: true :: true :: true :: true :: true :: true :: true :: true :: true :: true :: true :: true :: true :: true :: true :: true :: true :: true :: true :: true :: true :: true :: true :: true :: true :: true :: true :: true :: true :: true :: []) (fun i tm L H e g => H = H3 ∧ L = []) (by omega) rfl ⟨rfl, rfl⟩ ?_
              intro i9 hi9
              conv => whnf
              iterate 36 (intro j; conv => whnf)
              refine Halt.mk ?_
              rintro L H3 e g ⟨rfl, rfl⟩ K1 kn1 kx1 kr1
              repeat' (conv => whnf
                       first | (refine Stop.mk ?_) | (with_reducible refine fI_isA (a := (n : Int)) rfl ?_) | (refine fO_mk ?_) | (refine fN_mk ?_) | (refine pure_step (ixs_eq rfl rfl (by omega) (by first | omega | exact hi2')) ?_) | (refine ld_step rfl (hld _ (by first | omega | rfl)) rfl ?_) | fail)
              conv => whnf
              refine dec_split (fun h1 => ?_) (fun h1 => ?_)
              · have hlt1 : i9 < n := by have h2 : (i9 : Int) < ((n : Nat) : Int) := of_decide_eq_true h1; omega
                clear kx1 kr1 kr kn
                have r1 := msB_rd hb' (by omega) ht' hlt1
                have hi1' : (i9 : Int) < (n : Int) := by omega
                have r2 := msB_rd hb (by omega) ht hlt1
                have dn := hi1'
                repeat' (conv => whnf
                         first | (refine Stop.mk ?_) | (with_reducible refine fI_isA (a := mbV (i8 : Int) (i9 : Int)) rfl ?_) | (refine fO_isA (decide_eq_true (show mbV (i8 : Int) (i9 : Int) = mbV (i8 : Int) (i9 : Int) from rfl)) ?_) | (refine fI_i64 (by first | omega | (simp only [Int.ofNat_eq_natCast] at *; omega)) ?_; intro z hz) | (refine pure_step (ixs_eq rfl rfl (by omega) (by first | omega | exact hi2' | exact hi1')) ?_) | (refine lds_step rfl (hld _ (by first | omega | rfl)) rfl ?_) | (refine lds_step rfl (hgd _ (by first | omega | rfl)) rfl ?_) | (refine lds_step rfl (r1 _ (by first | omega | rfl)) rfl ?_) | (refine lds_step rfl (r2 _ (by first | omega | rfl)) rfl ?_) | (apply silE) | (refine And.intro rfl ?_) | (refine fN_mk ?_) | fail)
                all_goals (conv => whnf)
                all_goals
                  subst hz
                  refine kn1 hlt1 _ _ _ _ _ rfl ⟨rfl, rfl⟩
              · clear kn1 kr1
                have hie : i9 = n := by have h2 : ¬ (i9 : Int) < ((n : Nat) : Int) := of_decide_eq_false h1; omega
                subst hie
                repeat' (conv => whnf
                         first | (refine Stop.mk ?_) | (refine fI_i64 (by first | omega | (simp only [Int.ofNat_eq_natCast] at *; omega)) ?_; intro z hz) | (refine kx1 _ _ _ _ _ _ ?_) | fail)
                all_goals (conv => whnf)
                all_goals
                  subst hz
                  refine kn hlt _ _ _ _ _ rfl ⟨rfl, rfl⟩
            · clear kn kr
              have hie : i8 = 2 := by have h2 : ¬ (i8 : Int) < (2 : Int) := of_decide_eq_false h; omega
              subst hie
              refine kx _ _ _ _ _ _ ?_
              clear kx h
              conv => whnf
              refine Halt.mk ?_
              show rC _ _ r62_7 _ _ _ _ _ _
              have hp := hst.1
              clear hst
              have hq1 : ∀ e g, Q (.bool true) H3 e g := fun e g => hq H3 e g (fun x hx h0 h1 => by rw [hp.1.1 x (by omega) h0 h1, hH0]) (by have := hp.1.2; omega)
              have hq2 : ∀ e g, Q (.bool true) (H3.take Hx.length) e g := fun e g => hq _ e g (fun x hx h0 h1 => by rw [List.getElem?_take_of_lt hx, hp.1.1 x (by omega) h0 h1, hH0]) (by rw [List.length_take]; have := hp.1.2; omega)
              clear hp hq
              cases e <;> cases g
              all_goals
                repeat' (conv => whnf
                         first | (refine Stop.mk ?_) | (exact hq1 _ _) | (exact hq2 _ _) | (refine fH_mk ?_) | fail)
              all_goals (conv => whnf)
              all_goals first
                | exact hq1 _ _
                | exact hq2 _ _
                | trace_state
  · exact hs.elim
end Go.Ev
