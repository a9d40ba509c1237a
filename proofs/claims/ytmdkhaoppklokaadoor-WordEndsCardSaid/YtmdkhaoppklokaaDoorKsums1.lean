/- dev: rows of numbers: SameInts -/
import Derived.Test.YtmdkhaoppklokaaDoorEvU
import Derived.Test.YtmdkhaoppklokaaDoorKones2R
import Derived.Test.YtmdkhaoppklokaaDoorKaptK
set_option linter.all false
namespace Go.Ev
open Go Go.Proofs
set_option maxRecDepth 10000
set_option maxHeartbeats 4000000
def encJ (x : Int) : List V := [.int .i64 x]
theorem encJ_len (x : Int) : (encJ x).length = 1 := rfl
theorem encJ_map (l : List Int) : l.map (V.int .i64) = l.flatMap encJ := by
  induction l with
  | nil => rfl
  | cons a l ih => rw [List.flatMap_cons, List.map_cons, ih]; rfl
def svAtJ : List SV → Nat → SV
  | [], _ => undefV
  | x :: _, 0 => x
  | _ :: l, n + 1 => svAtJ l n
def RdJ (H : List B) : Option (Nat × Nat) → List Int → Prop
  | none, l => l = []
  | some (b, o), l => rd H b o (l.length * 1) = some (l.flatMap encJ)
theorem RdJ.some {H : List B} {p : Option (Nat × Nat)} {l : List Int} (h : RdJ H p l) {i : Nat} (hi : i < l.length) : ∃ b o, p = Option.some (b, o) := by
  cases p with
  | none => have h' : l = [] := h; subst h'; simp at hi
  | some q => exact ⟨q.1, q.2, rfl⟩
theorem rdJ_blk {H : List B} {b : Nat} {l : List Int} {ws : List V} (h : H[b]? = some (.rw 3 (l.flatMap encJ ++ ws))) : RdJ H (some (b, 0)) l := rd_block h (flat_len encJ_len _)
/-- a result in a row of bytes of one's own -/
def OwnJ (Hx : List B) (l : List Int) (Q : Post) : Prop :=
  ∀ (b cap : Nat) (X : List B) (ws : List V), Hx.length ≤ b → l.length ≤ cap → (Hx ++ X)[b]? = some (.rw 3 (l.flatMap encJ ++ ws)) → ws.length = cap - l.length → Q (.sl (some (b, 0)) l.length cap) (Hx ++ X) false true
theorem OwnJ.mono {Hx : List B} {l : List Int} {Q Q' : Post} (hQ : ∀ v H e g, Q v H e g → Q' v H e g) (h : OwnJ Hx l Q) : OwnJ Hx l Q' := fun b cap X ws h1 h2 h3 h4 => hQ _ _ _ _ (h b cap X ws h1 h2 h3 h4)
theorem own_outJ {Hx X : List B} {l : List Int} {w : V} (h : Own Hx.length (Hx ++ X) 3 1 w (l.flatMap encJ)) (hl : l ≠ []) :
    ∃ b cap ws, w = .sl (some (b, 0)) l.length cap ∧ Hx.length ≤ b ∧ l.length ≤ cap ∧ (Hx ++ X)[b]? = some (.rw 3 (l.flatMap encJ ++ ws)) ∧ ws.length = cap - l.length := by
  obtain ⟨m, cap, h1, h2, h3⟩ := h
  rw [flat_len encJ_len, Nat.mul_one, Nat.mul_one] at h1
  subst h1
  rcases h3 with ⟨_, h3⟩ | ⟨b, zs, rfl, h4, h5, h6, h7⟩
  · exact absurd (List.eq_nil_of_length_eq_zero h3) hl
  · exact ⟨b, cap, zs, rfl, h4, h5, h7, by rw [h6, Nat.mul_one]⟩
def SameSJ : Sp := fun vs H Q => match vs with
  | [.sl p n c, .sl p2 m d] => ∃ l l2 : List Int, n = l.length ∧ m = l2.length ∧ l.length ≤ 4096 ∧ l2.length ≤ 4096 ∧ RdJ H p l ∧ RdJ H p2 l2 ∧ Q (.bool (decide (l = l2))) H false false
  | _ => False
def s29 : Sp := SameSJ
theorem k29 : Snd Tryd.prog 2 29 s29 := by
  refine snd_of_ev (by kernel_rfl) (C := tab []) (sndC_nil) x29 n29 c29 5000 ?_
  have hC : MonoC (tab []) := monoC_nil
  intro vs Hx Q hs
  unfold s29 SameSJ at hs
  split at hs
  · rename_i p n c p2 m d
    obtain ⟨l, l2, rfl, rfl, hl, hl2, h1, h2, hq⟩ := hs
    by_cases hne : l.length = l2.length
    · have hb : ((l.length : Int) != (l2.length : Int)) = false := by rw [hne]; exact bne_self_eq_false _
      suffices hh : ∀ k, 4200 < k → evFun (tab []) k e29 [.sl p l.length c, .sl p2 l2.length d] Hx Q from hh _ (by omega)
      intro k hk
      refine evFun_in (tm := SV.v (.sl p l.length c) :: SV.v (.sl p2 l2.length d) :: undefV :: undefV :: undefV :: undefV :: undefV :: undefV :: undefV :: undefV :: undefV :: undefV :: undefV :: undefV :: undefV :: undefV :: undefV :: undefV :: undefV :: undefV :: undefV :: undefV :: undefV :: undefV :: undefV :: undefV :: []) rfl ?_
      show rC _ _ r29_0 _ _ _ _ _ _
      refine rC_seqH ?_
      repeat' (conv => whnf
               first | fail)
      any_goals refine Halt.mk ?_
      any_goals show rC _ _ r29_1 _ _ _ _ _ _
      refine rC_seqH ?_
      repeat' (conv => whnf
               first | (refine Stop.mk ?_) | (with_reducible refine fI_is (a := (l.length : Int)) rfl ?_) | (with_reducible refine fI_is (a := (l2.length : Int)) rfl ?_) | (refine fO_is hb ?_) | fail)
      any_goals refine Halt.mk ?_
      any_goals show rC _ _ r29_2 _ _ _ _ _ _
      repeat' (conv => whnf
               first | fail)
      conv => whnf
      refine rLoop_ctr (c := rC (tab []) k l29_0) l.length 5 (false :: false :: false :: false :: true :: false :: false :: false :: false :: false :: false :: true :: true :: true :: true :: true :: true :: true :: true :: true :: true :: true :: true :: true :: true :: true :: []) (fun i tm L H e g => l.take i = l2.take i ∧ L = [] ∧ H = Hx ∧ e = false ∧ g = false) (by omega) rfl ⟨by simp, rfl, rfl, rfl, rfl⟩ ?_
      intro i0 hi0
      conv => whnf
      iterate 16 (intro j; conv => whnf)
      refine Halt.mk ?_
      rintro L H' e g ⟨hti, rfl, rfl, rfl, rfl⟩ K kn kx kr
      repeat' (conv => whnf
               first | (refine Stop.mk ?_) | (refine fI_mk ?_) | (refine fO_mk ?_) | fail)
      conv => whnf
      refine dec_split (fun h => ?_) (fun h => ?_)
      · have hlt : i0 < l.length := by have := of_decide_eq_true h; omega
        have hlt2 : i0 < l2.length := by omega
        obtain ⟨b, o, rfl⟩ := h1.some hlt
        obtain ⟨b2, o2, rfl⟩ := h2.some hlt2
        clear kx
        have e1 : ∀ p, p = o + i0 * 1 → rd H' b p 1 = some (encJ l[i0]) := fun p hp => rd_el encJ_len h1 i0 hlt p hp
        have e2 : ∀ p, p = o2 + i0 * 1 → rd H' b2 p 1 = some (encJ l2[i0]) := fun p hp => rd_el encJ_len h2 i0 hlt2 p hp
        by_cases hee : l[i0] = l2[i0]
        · have hbe : (l[i0] != l2[i0]) = false := by rw [hee]; exact bne_self_eq_false _
          clear kr
          repeat' (conv => whnf
                   first | (refine Stop.mk ?_) | (refine fO_is hbe ?_) | (refine fI_i64 (by first | omega | (simp only [Int.ofNat_eq_natCast] at *; omega)) ?_; intro z hz) | (refine pure_step (ixs_eq rfl rfl (by omega) (show _ < (l.length : Int) by omega)) ?_) | (refine pure_step (ixs_eq rfl rfl (by omega) (show _ < (l2.length : Int) by omega)) ?_) | (refine lds_step rfl (e1 _ (by first | omega | rfl)) rfl ?_) | (refine lds_step rfl (e2 _ (by first | omega | rfl)) rfl ?_) | (refine fN_mk ?_) | fail)
          conv => whnf
          subst hz
          exact kn hlt _ _ _ _ _ rfl ⟨eq_step hne hti hlt hee, rfl, rfl, rfl, rfl⟩
        · have hbe : (l[i0] != l2[i0]) = true := by simpa using hee
          clear kn
          repeat' (conv => whnf
                   first | (refine Stop.mk ?_) | (refine fO_is hbe ?_) | (refine pure_step (ixs_eq rfl rfl (by omega) (show _ < (l.length : Int) by omega)) ?_) | (refine pure_step (ixs_eq rfl rfl (by omega) (show _ < (l2.length : Int) by omega)) ?_) | (refine lds_step rfl (e1 _ (by first | omega | rfl)) rfl ?_) | (refine lds_step rfl (e2 _ (by first | omega | rfl)) rfl ?_) | (refine fN_mk ?_) | fail)
          conv => whnf
          refine kr _ _ _ _ _ ?_
          conv => whnf
          refine leafE hq ?_
          rw [decide_eq_false (show ¬ l = l2 from fun hh => hee (by subst hh; rfl))]
          rfl
      · clear kn kr
        have hie : i0 = l.length := by have := of_decide_eq_false h; omega
        subst hie
        have hll : l = l2 := by have h3 := hti; rw [List.take_length, hne, List.take_length] at h3; exact h3
        repeat' (conv => whnf
                 first | (refine kx _ _ _ _ _ _ ?_) | fail)
        conv => whnf
        refine leafE hq ?_
        rw [decide_eq_true hll]
        rfl
    · have hb : ((l.length : Int) != (l2.length : Int)) = true := by simp; omega
      repeat' (conv => whnf
               first | (refine Stop.mk ?_) | (with_reducible refine fI_is (a := (l.length : Int)) rfl ?_) | (with_reducible refine fI_is (a := (l2.length : Int)) rfl ?_) | (refine fO_is hb ?_) | fail)
      conv => whnf
      refine leafE hq ?_
      rw [decide_eq_false (show ¬ l = l2 from fun hh => hne (by rw [hh]))]
      rfl
  · exact hs.elim
/-- numbers of one's own, or none -/
def RowJ (H : List B) (l : List Int) (Q : Post) : Prop := (l = [] → Q (.sl none 0 0) H false false) ∧ (l ≠ [] → OwnJ H l Q)
theorem RowJ.mono {H : List B} {l : List Int} {Q Q' : Post} (hQ : ∀ v H e g, Q v H e g → Q' v H e g) (h : RowJ H l Q) : RowJ H l Q' := ⟨fun hn => hQ _ _ _ _ (h.1 hn), fun hn => (h.2 hn).mono hQ⟩
end Go.Ev
