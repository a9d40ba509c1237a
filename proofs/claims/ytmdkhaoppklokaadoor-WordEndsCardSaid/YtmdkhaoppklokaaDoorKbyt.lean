/- dev: bytes of one's own, bytes held against each other -/
import Derived.Test.YtmdkhaoppklokaaDoorEvU
import Derived.Test.YtmdkhaoppklokaaDoorKword
set_option linter.all false
namespace Go.Ev
open Go Go.Proofs
set_option maxRecDepth 4000
set_option maxHeartbeats 4000000
theorem fI_is {f : Nat} {a b : Int} {K : Int → Prop} (h : a = b) (k : K b) : fI f a K := (fI_eq f a K).mpr (h ▸ k)
theorem fO_is {f : Nat} {a b : Bool} {K : Bool → Prop} (h : a = b) (k : K b) : fO f a K := (fO_eq f a K).mpr (h ▸ k)
def svAt : List SV → Nat → SV
  | [], _ => undefV
  | x :: _, 0 => x
  | _ :: l, n + 1 => svAt l n
/-- a result in a row of bytes of one's own -/
def OwnB (Hx : List B) (l : List Int) (Q : Post) : Prop :=
  ∀ (b cap : Nat) (X : List B) (ws : List V), Hx.length ≤ b → l.length ≤ cap → (Hx ++ X)[b]? = some (.rw 5 (l.flatMap encB ++ ws)) → ws.length = cap - l.length → Q (.sl (some (b, 0)) l.length cap) (Hx ++ X) false true
theorem OwnB.mono {Hx : List B} {l : List Int} {Q Q' : Post} (hQ : ∀ v H e g, Q v H e g → Q' v H e g) (h : OwnB Hx l Q) : OwnB Hx l Q' := fun b cap X ws h1 h2 h3 h4 => hQ _ _ _ _ (h b cap X ws h1 h2 h3 h4)
theorem own_out {Hx X : List B} {l : List Int} {w : V} (h : Own Hx.length (Hx ++ X) 5 1 w (l.flatMap encB)) (hl : l ≠ []) :
    ∃ b cap ws, w = .sl (some (b, 0)) l.length cap ∧ Hx.length ≤ b ∧ l.length ≤ cap ∧ (Hx ++ X)[b]? = some (.rw 5 (l.flatMap encB ++ ws)) ∧ ws.length = cap - l.length := by
  obtain ⟨m, cap, h1, h2, h3⟩ := h
  rw [flat_len encB_len, Nat.mul_one, Nat.mul_one] at h1
  subst h1
  rcases h3 with ⟨_, h3⟩ | ⟨b, zs, rfl, h4, h5, h6, h7⟩
  · exact absurd (List.eq_nil_of_length_eq_zero h3) hl
  · exact ⟨b, cap, zs, rfl, h4, h5, h7, by rw [h6, Nat.mul_one]⟩
theorem bytesV_succ : ∀ (i : Nat) (v : Int), 0 ≤ v → bytesV (i + 1) v = bytesV i v ++ [v / 256 ^ i % 256]
  | 0, v, _ => by simp [bytesV]
  | i + 1, v, h => by
    have h1 := bytesV_succ i (v / 256) (Int.ediv_nonneg h (by decide))
    rw [bytesV, h1, bytesV, List.cons_append, Int.ediv_ediv_of_nonneg (by decide)]
    congr 4
    rw [Int.pow_succ, Int.mul_comm]
theorem shr8 {v : Int} (i : Nat) (hi : i < 4) (h : (0 ≤ v ∧ v < 4294967296)) : v.fdiv (2 ^ (min (8 * (i : Int)).toNat IntKind.u32.bits)) = v / 256 ^ i := by
  have : i = 0 ∨ i = 1 ∨ i = 2 ∨ i = 3 := by omega
  rcases this with rfl | rfl | rfl | rfl <;> exact Int.fdiv_eq_ediv_of_nonneg _ (by decide)
def s19 : Sp := fun vs H Q => match vs with
  | [.int .u32 v, .int .i64 n] => ((0 ≤ v ∧ v < 4294967296) ∧ okS n) ∧ GLB H ∧ OwnB H (bytesV n.toNat v) Q
  | _ => False
theorem m19 : Mono s19 := by
  intro vs H Q Q' hQ h
  unfold s19 at h ⊢
  split at h
  · exact ⟨h.1, h.2.1, h.2.2.mono hQ⟩
  · exact h.elim
theorem k19 : Snd Tryd.prog 2 19 s19 := by
  refine snd_of_ev (by kernel_rfl) (C := tab [(36, s36)]) (sndC_cons k36 (sndC_nil)) x19 n19 c19 50 ?_
  have hC : MonoC (tab [(36, s36)]) := monoC_cons m36 (monoC_nil)
  intro vs Hx Q hs
  unfold s19 at hs
  split at hs
  · rename_i v n
    obtain ⟨⟨hv, hn⟩, hg, hq⟩ := hs
    obtain ⟨n, rfl⟩ := Int.eq_ofNat_of_zero_le (show 0 ≤ n by unfold okS at hn; omega)
    have hn4 : 1 ≤ n ∧ n ≤ 4 := by unfold okS at hn; omega
    have hq' : OwnB Hx (bytesV n v) Q := hq
    clear hq
    suffices hh : ∀ k, 10 < k → evFun (tab [(36, s36)]) k e19 [.int .u32 v, .int .i64 (n : Int)] Hx Q from hh _ (by omega)
    intro k hk
    refine evFun_in (tm := SV.v (.int .u32 v) :: SV.v (.int .i64 (n : Int)) :: undefV :: undefV :: undefV :: undefV :: undefV :: undefV :: undefV :: undefV :: undefV :: undefV :: undefV :: undefV :: undefV :: undefV :: undefV :: undefV :: undefV :: undefV :: undefV :: undefV :: undefV :: []) rfl ?_
    show rC _ _ r19_0 _ _ _ _ _ _
    refine rC_seqH ?_
    repeat' (conv => whnf
             first | fail)
    any_goals refine Halt.mk ?_
    any_goals show rC _ _ r19_1 _ _ _ _ _ _
    refine rC_seqH ?_
    repeat' (conv => whnf
             first | (refine Stop.mk ?_) | (refine fO_is (decide_eq_true hn) ?_) | (refine ⟨hg, ?_⟩) | fail)
    any_goals refine Halt.mk ?_
    any_goals show rC _ _ r19_2 _ _ _ _ _ _
    repeat' (conv => whnf
             first | fail)
    conv => whnf
    refine rLoop_ctr (c := rC (tab [(36, s36)]) k l19_0) n 10 (false :: false :: false :: false :: true :: true :: false :: false :: false :: false :: false :: true :: true :: true :: true :: true :: true :: true :: true :: true :: true :: true :: false :: []) (fun i tm L H e g => (∃ X w, svAt tm 4 = .v w ∧ H = Hx ++ X ∧ Own Hx.length H 5 1 w ((bytesV i v).flatMap encB) ∧ (i = 0 ∨ g = true)) ∧ L = [] ∧ e = false) (by omega) rfl ⟨⟨[], _, rfl, (List.append_nil _).symm, Own.nil _ _ _ _, Or.inl rfl⟩, rfl, rfl⟩ ?_
    intro i0 hi0
    conv => whnf
    iterate 13 (intro j; conv => whnf)
    refine Halt.mk ?_
    rintro L H' e g ⟨⟨X, w, h4, rfl, hown, hgi⟩, rfl, rfl⟩ K kn kx kr
    conv at h4 => lhs; whnf
    subst h4
    repeat' (conv => whnf
             first | (refine Stop.mk ?_) | (refine fO_mk ?_) | fail)
    conv => whnf
    refine dec_split (fun h => ?_) (fun h => ?_)
    · have hlt : i0 < n := by have := of_decide_eq_true h; omega
      clear kx kr
      have hw8 : IntKind.i64.wrap (8 * (i0 : Int)) = 8 * (i0 : Int) := wrap_i64_id (by omega) (by omega)
      have hsh := shr8 i0 (by omega) hv
      have hl : (bytesV i0 v).length = i0 := bytesV_len _ _
      repeat' (conv => whnf
               first | (refine Stop.mk ?_) | (refine fI_is hw8 ?_) | (refine fI_is hsh ?_) | (refine fI_is (wrap_u8 _) ?_) | (refine fI_i64 (by first | omega | (simp only [Int.ofNat_eq_natCast] at *; omega)) ?_; intro z hz) | (refine app_own1 (List.append_assoc _ _ _) rfl rfl (hown.app _) (news_eq (rd_last _ _ _ _ rfl) rfl) rfl rfl rfl (by omega) (by omega) (by rw [flat_len encB_len, hl]; show (i0 * 1 + 1) * 1 ≤ _; omega) (by rw [flat_len encB_len, hl]; show i0 * 1 + 1 < _; omega) rfl ?_; intro w' X' g' hown' hg1 hX) | (refine fH_mk ?_) | (refine fN_mk ?_) | fail)
      conv => whnf
      subst hz
      refine kn hlt _ _ _ _ _ rfl ⟨⟨X', w', rfl, rfl, ?_, Or.inr (hg1 rfl)⟩, rfl, rfl⟩
      rw [bytesV_succ i0 v hv.1, List.flatMap_append]
      exact hown'
    · clear kn kr
      have hie : i0 = n := by have := of_decide_eq_false h; omega
      subst hie
      obtain rfl : g = true := by rcases hgi with hgi | hgi; omega; exact hgi
      obtain ⟨b, cap, ws, rfl, h1, h2, h3, h4⟩ := own_out hown (by intro hh; have := bytesV_len i0 v; rw [hh] at this; simp at this; omega)
      repeat' (conv => whnf
               first | (refine kx _ _ _ _ _ _ ?_) | fail)
      conv => whnf
      refine drec_no (by simp [one1, V.lt, V.ltL]; omega) ?_
      exact hq' b cap X ws h1 h2 h3 h4
  · exact hs.elim
/-- bytes, where they lie -/
def RdB (H : List B) : Option (Nat × Nat) → List Int → Prop
  | none, l => l = []
  | some (b, o), l => rd H b o (l.length * 1) = some (l.flatMap encB)
theorem RdB.app {H : List B} {p : Option (Nat × Nat)} {l : List Int} (h : RdB H p l) (X : List B) : RdB (H ++ X) p l := by
  cases p with
  | none => exact h
  | some q => exact rd_app h X
theorem RdB.some {H : List B} {p : Option (Nat × Nat)} {l : List Int} (h : RdB H p l) {i : Nat} (hi : i < l.length) : ∃ b o, p = Option.some (b, o) := by
  cases p with
  | none => have h' : l = [] := h; subst h'; simp at hi
  | some q => exact ⟨q.1, q.2, rfl⟩
/-- a test of equal lengths, element by element -/
theorem eq_step {l m : List Int} {i : Nat} (hl : l.length = m.length) (ht : l.take i = m.take i) (hi : i < l.length) (he : l[i] = m[i]'(hl ▸ hi)) : l.take (i + 1) = m.take (i + 1) := by
  rw [List.take_succ_eq_append_getElem hi, List.take_succ_eq_append_getElem (hl ▸ hi), ht, he]
def SameS : Sp := fun vs H Q => match vs with
  | [.sl p n c, .sl p2 m d] => ∃ l l2 : List Int, n = l.length ∧ m = l2.length ∧ l.length ≤ 4096 ∧ l2.length ≤ 4096 ∧ RdB H p l ∧ RdB H p2 l2 ∧ Q (.bool (decide (l = l2))) H false false
  | _ => False
def s20 : Sp := SameS
theorem k20 : Snd Tryd.prog 2 20 s20 := by
  refine snd_of_ev (by kernel_rfl) (C := tab []) (sndC_nil) x20 n20 c20 5000 ?_
  have hC : MonoC (tab []) := monoC_nil
  intro vs Hx Q hs
  unfold s20 SameS at hs
  split at hs
  · rename_i p n c p2 m d
    obtain ⟨l, l2, rfl, rfl, hl, hl2, h1, h2, hq⟩ := hs
    by_cases hne : l.length = l2.length
    · have hb : ((l.length : Int) != (l2.length : Int)) = false := by rw [hne]; exact bne_self_eq_false _
      suffices hh : ∀ k, 4200 < k → evFun (tab []) k e20 [.sl p l.length c, .sl p2 l2.length d] Hx Q from hh _ (by omega)
      intro k hk
      refine evFun_in (tm := SV.v (.sl p l.length c) :: SV.v (.sl p2 l2.length d) :: undefV :: undefV :: undefV :: undefV :: undefV :: undefV :: undefV :: undefV :: undefV :: undefV :: undefV :: undefV :: undefV :: undefV :: undefV :: undefV :: undefV :: undefV :: undefV :: undefV :: undefV :: undefV :: undefV :: undefV :: []) rfl ?_
      show rC _ _ r20_0 _ _ _ _ _ _
      refine rC_seqH ?_
      repeat' (conv => whnf
               first | fail)
      any_goals refine Halt.mk ?_
      any_goals show rC _ _ r20_1 _ _ _ _ _ _
      refine rC_seqH ?_
      repeat' (conv => whnf
               first | (refine Stop.mk ?_) | (with_reducible refine fI_is (a := (l.length : Int)) rfl ?_) | (with_reducible refine fI_is (a := (l2.length : Int)) rfl ?_) | (refine fO_is hb ?_) | fail)
      any_goals refine Halt.mk ?_
      any_goals show rC _ _ r20_2 _ _ _ _ _ _
      repeat' (conv => whnf
               first | fail)
      conv => whnf
      refine rLoop_ctr (c := rC (tab []) k l20_0) l.length 5 (false :: false :: false :: false :: true :: false :: false :: false :: false :: false :: false :: true :: true :: true :: true :: true :: true :: true :: true :: true :: true :: true :: true :: true :: true :: true :: []) (fun i tm L H e g => l.take i = l2.take i ∧ L = [] ∧ H = Hx ∧ e = false ∧ g = false) (by omega) rfl ⟨by simp, rfl, rfl, rfl, rfl⟩ ?_
      intro i0 hi0
      conv => whnf
      iterate 16 (intro j; conv => whnf)
      refine Halt.mk ?_
      rintro L H' e g ⟨hti, rfl, rfl, rfl, rfl⟩ K kn kx kr
      repeat' (conv => whnf
               first | (refine Stop.mk ?_) | (refine fI_mk ?_) | (refine fO_mk ?_) | fail)
      conv => whnf
      refine dec_split (fun h => ?_) (fun h => ?_)
      · have hlt : i0 < l.length := by have := of_decide_eq_true h; omega
        have hlt2 : i0 < l2.length := by omega
        obtain ⟨b, o, rfl⟩ := h1.some hlt
        obtain ⟨b2, o2, rfl⟩ := h2.some hlt2
        clear kx
        have e1 : ∀ p, p = o + i0 * 1 → rd H' b p 1 = some (encB l[i0]) := fun p hp => rd_el encB_len h1 i0 hlt p hp
        have e2 : ∀ p, p = o2 + i0 * 1 → rd H' b2 p 1 = some (encB l2[i0]) := fun p hp => rd_el encB_len h2 i0 hlt2 p hp
        by_cases hee : l[i0] = l2[i0]
        · have hbe : (l[i0] != l2[i0]) = false := by rw [hee]; exact bne_self_eq_false _
          clear kr
          repeat' (conv => whnf
                   first | (refine Stop.mk ?_) | (refine fO_is hbe ?_) | (refine fI_i64 (by first | omega | (simp only [Int.ofNat_eq_natCast] at *; omega)) ?_; intro z hz) | (refine pure_step (ixs_eq rfl rfl (by omega) (show _ < (l.length : Int) by omega)) ?_) | (refine pure_step (ixs_eq rfl rfl (by omega) (show _ < (l2.length : Int) by omega)) ?_) | (refine lds_step rfl (e1 _ (by first | omega | rfl)) rfl ?_) | (refine lds_step rfl (e2 _ (by first | omega | rfl)) rfl ?_) | (refine fN_mk ?_) | fail)
          conv => whnf
          subst hz
          exact kn hlt _ _ _ _ _ rfl ⟨eq_step hne hti hlt hee, rfl, rfl, rfl, rfl⟩
        · have hbe : (l[i0] != l2[i0]) = true := by simpa using hee
          clear kn
          repeat' (conv => whnf
                   first | (refine Stop.mk ?_) | (refine fO_is hbe ?_) | (refine pure_step (ixs_eq rfl rfl (by omega) (show _ < (l.length : Int) by omega)) ?_) | (refine pure_step (ixs_eq rfl rfl (by omega) (show _ < (l2.length : Int) by omega)) ?_) | (refine lds_step rfl (e1 _ (by first | omega | rfl)) rfl ?_) | (refine lds_step rfl (e2 _ (by first | omega | rfl)) rfl ?_) | (refine fN_mk ?_) | fail)
          conv => whnf
          refine kr _ _ _ _ _ ?_
          conv => whnf
          refine leafE hq ?_
          rw [decide_eq_false (show ¬ l = l2 from fun hh => hee (by subst hh; rfl))]
          rfl
      · clear kn kr
        have hie : i0 = l.length := by have := of_decide_eq_false h; omega
        subst hie
        have hll : l = l2 := by have h3 := hti; rw [List.take_length, hne, List.take_length] at h3; exact h3
        repeat' (conv => whnf
                 first | (refine kx _ _ _ _ _ _ ?_) | fail)
        conv => whnf
        refine leafE hq ?_
        rw [decide_eq_true hll]
        rfl
    · have hb : ((l.length : Int) != (l2.length : Int)) = true := by simp; omega
      repeat' (conv => whnf
               first | (refine Stop.mk ?_) | (with_reducible refine fI_is (a := (l.length : Int)) rfl ?_) | (with_reducible refine fI_is (a := (l2.length : Int)) rfl ?_) | (refine fO_is hb ?_) | fail)
      conv => whnf
      refine leafE hq ?_
      rw [decide_eq_false (show ¬ l = l2 from fun hh => hne (by rw [hh]))]
      rfl
  · exact hs.elim
end Go.Ev
