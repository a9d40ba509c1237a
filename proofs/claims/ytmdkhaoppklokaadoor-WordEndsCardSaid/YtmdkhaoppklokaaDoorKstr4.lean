/- texts joined -/
import Derived.Test.YtmdkhaoppklokaaDoorEvU
import Derived.Test.YtmdkhaoppklokaaDoorKshow
set_option linter.all false
namespace Go.Ev
open Go Go.Proofs
set_option maxRecDepth 10000
set_option maxHeartbeats 4000000
theorem bL_append (a b : ByteArray) : bL (a ++ b) = bL a ++ bL b := by
  unfold bL
  rw [ByteArray.data_append, Array.toList_append, List.map_append]
theorem slcsB_eq {tm : List SV} {x i j : Opd} {s : ByteArray} {k k' : IntKind} {n m : Int} (hx : x.val tm = some (.str s)) (hi : i.val tm = some (.int k n)) (hj : j.val tm = some (.int k' m)) (h0 : 0 ≤ n) (h1 : n ≤ m) (h2 : m ≤ (s.size : Int)) :
    pureOp tm (.slcs x (some i) (some j)) = some (.v (.str (s.extract n.toNat m.toNat))) := by
  have e1 : 0 ≤ m ∧ m ≤ (s.size : Int) := by omega
  have e2 : 0 ≤ n ∧ n ≤ ((m.toNat : Nat) : Int) := by omega
  simp only [pureOp, hx, optV, hi, hj, bnd, if_pos e1, if_pos e2]
theorem stradd_eq {tm : List SV} {x y : Opd} {a b : ByteArray} (hx : x.val tm = some (.str a)) (hy : y.val tm = some (.str b)) (h : a.size + b.size ≤ 9223372036854775807) :
    pureOp tm (.bin .add x y) = some (.v (.str (a ++ b))) := by
  simp only [pureOp, hx, hy, binV, if_pos h]
def hxL (v : Int) : Nat → List Int
  | 0 => []
  | i + 1 => hxD v i :: hxL v i
theorem hxL_len (v : Int) : ∀ i, (hxL v i).length = i
  | 0 => rfl
  | i + 1 => by rw [hxL, List.length_cons, hxL_len v i]
def dgS : ByteArray := ByteArray.mk (Array.mk [UInt8.ofNat 48, UInt8.ofNat 49, UInt8.ofNat 50, UInt8.ofNat 51, UInt8.ofNat 52, UInt8.ofNat 53, UInt8.ofNat 54, UInt8.ofNat 55, UInt8.ofNat 56, UInt8.ofNat 57, UInt8.ofNat 97, UInt8.ofNat 98, UInt8.ofNat 99, UInt8.ofNat 100, UInt8.ofNat 101, UInt8.ofNat 102])
theorem dgS_one {m : Nat} (h : m < 16) : bL (dgS.extract m (m + 1)) = [dgL.getD m 0] := by
  rw [bL_extract, show bL dgS = dgL from rfl]
  have : m = 0 ∨ m = 1 ∨ m = 2 ∨ m = 3 ∨ m = 4 ∨ m = 5 ∨ m = 6 ∨ m = 7 ∨ m = 8 ∨ m = 9 ∨ m = 10 ∨ m = 11 ∨ m = 12 ∨ m = 13 ∨ m = 14 ∨ m = 15 := by omega
  rcases this with rfl | rfl | rfl | rfl | rfl | rfl | rfl | rfl | rfl | rfl | rfl | rfl | rfl | rfl | rfl | rfl <;> rfl
def s12 : Sp := fun vs H Q => match vs with
  | [.int .u32 v] => (0 ≤ v ∧ v < 4294967296) ∧ ∀ S : ByteArray, bL S = shL v → Q (.str S) H false false
  | _ => False
theorem k12 : Snd Tryd.prog 2 12 s12 := by
  refine snd_of_ev (by kernel_rfl) (C := tab []) (sndC_nil) x12 n12 c12 100 ?_
  have hC : MonoC (tab []) := monoC_nil
  intro vs Hx Q hs
  unfold s12 at hs
  split at hs
  · rename_i v
    obtain ⟨hv, hq⟩ := hs
    suffices hh : ∀ k, 50 < k → evFun (tab []) k e12 [.int .u32 v] Hx Q from hh _ (by omega)
    intro k hk
    refine evFun_in (tm := SV.v (.int .u32 v) :: undefV :: undefV :: undefV :: undefV :: undefV :: undefV :: undefV :: undefV :: undefV :: undefV :: undefV :: undefV :: undefV :: undefV :: undefV :: undefV :: undefV :: undefV :: undefV :: undefV :: []) rfl ?_
    show rC _ _ r12_0 _ _ _ _ _ _
    refine rC_seqH ?_
    repeat' (conv => whnf
             first | fail)
    any_goals refine Halt.mk ?_
    any_goals show rC _ _ r12_1 _ _ _ _ _ _
    refine rC_seqH ?_
    repeat' (conv => whnf
             first | fail)
    any_goals refine Halt.mk ?_
    any_goals show rC _ _ r12_2 _ _ _ _ _ _
    repeat' (conv => whnf
             first | fail)
    conv => whnf
    refine rLoop_ctr (c := rC (tab []) k l12_0) 8 4 (true :: false :: false :: true :: false :: true :: true :: true :: true :: true :: true :: true :: true :: true :: true :: true :: true :: true :: true :: false :: false :: []) (fun i tm L H e g => (∃ S : ByteArray, svAt tm 3 = .v (.str S) ∧ bL S = hxL v i ∧ svAt tm 0 = .v (.int .u32 (v / 16 ^ i))) ∧ L = [] ∧ H = Hx ∧ e = false ∧ g = false) (by omega) rfl ⟨⟨_, rfl, rfl, by show SV.v (V.int .u32 v) = _; rw [Int.pow_zero, Int.ediv_one]⟩, rfl, rfl, rfl, rfl⟩ ?_
    intro i0 hi0
    conv => whnf
    iterate 16 (intro j; conv => whnf)
    refine Halt.mk ?_
    rintro L H' e g ⟨⟨S, h3, hS, h0⟩, rfl, rfl, rfl, rfl⟩ K kn kx kr
    conv at h3 => lhs; whnf
    conv at h0 => lhs; whnf
    subst h3
    subst h0
    have hi8 : i0 ≤ 8 := by assumption
    have hSl : S.size = i0 := by rw [← bL_len, hS, hxL_len]
    repeat' (conv => whnf
             first | (refine Stop.mk ?_) | (refine fO_mk ?_) | fail)
    conv => whnf
    refine dec_split (fun h => ?_) (fun h => ?_)
    · have hlt : i0 < 8 := by have h2 : (i0 : Int) < 8 := of_decide_eq_true h; omega
      clear kx kr
      obtain ⟨x, hx⟩ : ∃ x, x = v / 16 ^ i0 := ⟨_, rfl⟩
      have hp : (0 : Int) < 16 ^ i0 := Int.pow_pos (by decide)
      have hxb : 0 ≤ x ∧ x < 4294967296 := by
        rw [hx]
        have h1 := Int.ediv_nonneg hv.1 (Int.le_of_lt hp)
        have h2 := Int.ediv_le_self (16 ^ i0) hv.1
        omega
      obtain ⟨m, hm⟩ : ∃ m : Nat, m = (x % 16).toNat := ⟨_, rfl⟩
      have hm16 : m < 16 := by omega
      have e1 : x.tmod 16 = (m : Int) := by rw [Int.tmod_eq_emod_of_nonneg hxb.1]; omega
      have e2 : IntKind.u32.wrap ((m : Int) + 1) = ((m + 1 : Nat) : Int) := by rw [wrap_u32]; omega
      have e3 : x.tdiv 16 = v / 16 ^ (i0 + 1) := by
        rw [Int.tdiv_eq_ediv_of_nonneg hxb.1, hx, Int.ediv_ediv_of_nonneg (Int.le_of_lt hp), Int.pow_succ]
      have e4 : IntKind.u32.wrap (v / 16 ^ (i0 + 1)) = v / 16 ^ (i0 + 1) := by
        rw [← e3, Int.tdiv_eq_ediv_of_nonneg hxb.1, wrap_u32]; omega
      have e5 : IntKind.u32.wrap (x.tdiv 16) = v / 16 ^ (i0 + 1) := by rw [e3, e4]
      have hd : dgL.getD m 0 = hxD v i0 := by unfold hxD; rw [hm, hx]
      have hbn : bL (dgS.extract m (m + 1) ++ S) = hxL v (i0 + 1) := by rw [bL_append, dgS_one hm16, hS, hd]; rfl
      have hsl := fun {tm : List SV} {i j : Opd} (hi : i.val tm = some (.int .u32 (m : Int))) (hj : j.val tm = some (.int .u32 ((m + 1 : Nat) : Int))) => slcsB_eq (x := .c (.str dgS)) (s := dgS) (tm := tm) rfl hi hj (by omega) (by omega) (by show ((m + 1 : Nat) : Int) ≤ 16; omega)
      simp only [show ((m : Int)).toNat = m from rfl, show (((m + 1 : Nat) : Int)).toNat = m + 1 from rfl] at hsl
      have hes : (dgS.extract m (m + 1)).size + S.size ≤ 9223372036854775807 := by rw [← bL_len, dgS_one hm16, hSl]; simp only [List.length_cons, List.length_nil]; omega
      rw [← hx]
      repeat' (conv => whnf
               first | (refine Stop.mk ?_) | (refine fI_is e1 ?_) | (refine fI_is e2 ?_) | (refine fI_is e5 ?_) | (refine fI_i64 (by first | omega | (simp only [Int.ofNat_eq_natCast] at *; omega)) ?_; intro z hz) | (refine pure_step (hsl rfl rfl) ?_) | (refine pure_step (stradd_eq rfl rfl hes) ?_) | fail)
      all_goals (conv => whnf)
      all_goals
        subst hz
        exact kn hlt _ _ _ _ _ rfl ⟨⟨_, rfl, hbn, rfl⟩, rfl, rfl, rfl, rfl⟩
    · clear kn kr
      have hie : i0 = 8 := by have h2 : ¬ (i0 : Int) < 8 := of_decide_eq_false h; omega
      subst hie
      repeat' (conv => whnf
               first | (refine kx _ _ _ _ _ _ ?_) | (refine pure_step (stradd_eq rfl rfl (by rw [hSl]; show 2 + 8 ≤ _; decide)) ?_) | fail)
      all_goals (conv => whnf)
      all_goals
        refine hq _ ?_
        rw [bL_append, hS]
        rfl
  · exact hs.elim
def s22 : Sp := fun vs H Q => match vs with
  | [.int .u32 a, .int .u32 b] => Q (.tup [.int .u32 (IntKind.u32.wrap (a + b)), .bool (decide (IntKind.u32.wrap (a + b) < a))]) H false false
  | _ => False
theorem k22 : Snd Tryd.prog 2 22 s22 := by
  refine snd_of_ev (by kernel_rfl) (C := tab []) (sndC_nil) x22 n22 c22 30 ?_
  intro vs H Q hs
  unfold s22 at hs
  split at hs
  · rename_i a b
    have hq := hs; clear hs
    repeat' (conv => whnf
             first | (refine Stop.mk ?_) | (refine fI_gen ?_; intro z hz) | (refine fO_gen ?_; intro z hz) | fail)
    all_goals (conv => whnf)
    all_goals
      refine leafE hq ?_
      subst_vars
      rfl
  · exact hs.elim
end Go.Ev

set_option linter.all false
namespace Go.Ev
open Go Go.Proofs
set_option maxRecDepth 10000
set_option maxHeartbeats 4000000
theorem ex_p1 : parB [48, 120, 48, 97] = true := by decide
theorem ex_p2 : parI [48, 120, 48, 97] = 10 := by decide
theorem ex_p3 : parB [48, 49, 48] = false := by decide
theorem ex_p4 : parI [48, 49, 48] = 0 := by decide
theorem ex_s : shL 10 = [48, 120, 48, 48, 48, 48, 48, 48, 48, 97] := by decide
def s9 : Sp := fun vs H Q => match vs with
  | [] => GLB H ∧ Q (.bool true) H false false
  | _ => False
theorem m9 : Mono s9 := by
  intro vs H Q Q' hQ h
  unfold s9 at h ⊢
  split at h
  all_goals first
    | exact h.elim
    | (repeat' (first | exact hQ _ _ _ _ h | refine And.imp_right (fun h => ?_) h | refine Exists.imp (fun _ h => ?_) h | (intro z; replace h := h z)))
theorem k9 : Snd Tryd.prog 2 9 s9 := by
  refine snd_of_ev (by kernel_rfl) (C := tab [(22, s22), (17, s17), (21, s21), (11, s11), (19, s19), (20, s20)]) (sndC_cons k22 (sndC_cons k17 (sndC_cons k21 (sndC_cons k11 (sndC_cons k19 (sndC_cons k20 (sndC_nil))))))) x9 n9 c9 30 ?_
  intro vs H Q hs
  unfold s9 at hs
  split at hs
  · obtain ⟨hg, hq⟩ := hs
    have ok1 : okS 1 := by decide
    have ok4 : okS 4 := by decide
    have a1 : IntKind.u32.wrap (4294967295 + 2) = 1 := by decide
    have a2 : decide (IntKind.u32.wrap (4294967295 + 2) < 4294967295) = true := by decide
    have b1 : parB (bL (ByteArray.mk (Array.mk [UInt8.ofNat 48, UInt8.ofNat 120, UInt8.ofNat 48, UInt8.ofNat 97]))) = true := ex_p1
    have b2 : parI (bL (ByteArray.mk (Array.mk [UInt8.ofNat 48, UInt8.ofNat 120, UInt8.ofNat 48, UInt8.ofNat 97]))) = 10 := ex_p2
    have b3 : parB (bL (ByteArray.mk (Array.mk [UInt8.ofNat 48, UInt8.ofNat 49, UInt8.ofNat 48]))) = false := ex_p3
    have b4 : parI (bL (ByteArray.mk (Array.mk [UInt8.ofNat 48, UInt8.ofNat 49, UInt8.ofNat 48]))) = 0 := ex_p4
    repeat' (conv => whnf
             first | (refine Stop.mk ?_) | (refine fO_is hsv ?_) | (refine And.intro (by decide) (And.intro hg ?_); intro S1 hS1; have hsv : (S1.toList == (ByteArray.mk (Array.mk [UInt8.ofNat 48, UInt8.ofNat 120, UInt8.ofNat 48, UInt8.ofNat 48, UInt8.ofNat 48, UInt8.ofNat 48, UInt8.ofNat 48, UInt8.ofNat 48, UInt8.ofNat 48, UInt8.ofNat 97])).toList) = true := by rw [bL_inj]; exact decide_eq_true (by rw [hS1, ex_s]; rfl)) | (refine And.intro ⟨by decide, ok4⟩ (And.intro hg ?_); intro bb cc X ws q1 q2 q3 q4) | (refine And.intro hg (And.intro (by decide) ?_)) | (refine And.intro (by decide) (And.intro hg ?_)) | (refine Exists.intro [52, 18, 0, 0] (Exists.intro [52, 18, 0, 0] (And.intro rfl (And.intro rfl (And.intro (by decide) (And.intro (by decide) (And.intro (rd_app (rd_block q3 (flat_len encB_len _)) _) (And.intro ((rd_x0 _ _ _ _ _).trans rfl) ?_)))))))) | (refine fH_mk ?_) | (refine fN_mk ?_) | fail)
    all_goals (conv => whnf)
    all_goals exact leafH hq rfl (take_app2 H _ _)
  · exact hs.elim
def s3 : Sp := fun vs H Q => match vs with
  | [.str s, .int .u32 v] => (0 ≤ v ∧ v < 4294967296) ∧ GLB H ∧ Q (.bool true) H false false
  | _ => False
theorem m3 : Mono s3 := by
  intro vs H Q Q' hQ h
  unfold s3 at h ⊢
  split at h
  all_goals first
    | exact h.elim
    | (repeat' (first | exact hQ _ _ _ _ h | refine And.imp_right (fun h => ?_) h | refine Exists.imp (fun _ h => ?_) h | (intro z; replace h := h z)))
theorem k3 : Snd Tryd.prog 2 3 s3 := by
  refine snd_of_ev (by kernel_rfl) (C := tab [(9, s9), (10, s10), (11, s11), (12, s12)]) (sndC_cons k9 (sndC_cons k10 (sndC_cons k11 (sndC_cons k12 (sndC_nil))))) x3 n3 c3 30 ?_
  intro vs H Q hs
  unfold s3 at hs
  split at hs
  · rename_i s v
    obtain ⟨hv, hg, hq⟩ := hs
    have hsz := bL_len s
    by_cases h : s.size ≤ 1000
    · have t1 : decide ((s.size : Int) > 1000) = false := decide_eq_false (by omega)
      repeat' (conv => whnf
               first | (refine Stop.mk ?_) | (refine fO_is t1 ?_) | (with_reducible refine fI_is (a := (s.size : Int)) rfl ?_) | (refine fO_is hsv ?_) | (refine And.intro hg (And.intro (by omega) ?_)) | (refine And.intro hv (And.intro hg ?_); intro S1 hS1) | (refine And.intro hv ?_; intro S2 hS2; have hsv : (S1.toList == S2.toList) = true := by rw [bL_inj, hS1, hS2]; exact decide_eq_true rfl) | (refine And.intro hg ?_) | fail)
      all_goals (conv => whnf)
      all_goals exact leafE hq rfl
    · have t1 : decide ((s.size : Int) > 1000) = true := decide_eq_true (by omega)
      repeat' (conv => whnf
               first | (refine Stop.mk ?_) | (refine fO_is t1 ?_) | (with_reducible refine fI_is (a := (s.size : Int)) rfl ?_) | (refine And.intro hg ?_) | fail)
      all_goals (conv => whnf)
      all_goals exact leafE hq rfl
  · exact hs.elim
end Go.Ev
