/- dev: WordEnds -/
import Derived.Test.YtmdkhaoppklokaaDoorEvU
import Derived.Test.YtmdkhaoppklokaaDoorKE
import Derived.Test.YtmdkhaoppklokaaDoorKlaw01s
import Derived.Test.YtmdkhaoppklokaaDoorKpart1
import Derived.Test.YtmdkhaoppklokaaDoorKstr4
set_option linter.all false
namespace Go.Ev
open Go Go.Proofs
set_option maxRecDepth 10000
set_option maxHeartbeats 4000000
theorem fI_u32B {f : Nat} {n : Int} {K : Int → Prop} (k : ∀ z, 0 ≤ z ∧ z < 4294967296 → K z) : fI f (IntKind.u32.wrap n) K := (fI_eq f _ K).mpr (k _ (by rw [wrap_u32]; omega))
theorem fI_i64B {f : Nat} {n : Int} {K : Int → Prop} (k : ∀ z, -9223372036854775808 ≤ z ∧ z < 9223372036854775808 → K z) : fI f (IntKind.i64.wrap n) K := (fI_eq f _ K).mpr (k _ (by rw [wrap_i64]; omega))
theorem slcsB_Z {tm : List SV} {x lo hi : Opd} {s : ByteArray} {k k' : IntKind} {a b : Int} {op : EOp} {K : SV → Prop} {Z : Prop} (hx : x.val tm = some (.str s)) (hlo : lo.val tm = some (.int k a)) (hhi : hi.val tm = some (.int k' b)) (h0 : 0 ≤ a) (h1 : a ≤ b) (h2 : b ≤ (s.size : Int)) (hK : ∀ S : ByteArray, (S.size : Int) = b - a → K (.v (.str S))) :
    (match pureOp tm (.slcs x (some lo) (some hi)) with | some v => fZ op v K | none => Z) := by
  have hb : (0 : Int) ≤ b ∧ b ≤ (s.size : Int) := ⟨by omega, h2⟩
  have ha : (0 : Int) ≤ a ∧ a ≤ ((b.toNat : Nat) : Int) := ⟨h0, by omega⟩
  simp only [pureOp, hx, optV, hlo, hhi, bnd, if_pos hb, if_pos ha, fZ_eq]
  refine hK _ ?_
  rw [← bL_len, bL_extract, List.length_drop, List.length_take, bL_len]
  omega
theorem slcsH_Z {tm : List SV} {x hi : Opd} {s : ByteArray} {k' : IntKind} {b : Int} {op : EOp} {K : SV → Prop} {Z : Prop} (hx : x.val tm = some (.str s)) (hhi : hi.val tm = some (.int k' b)) (h1 : 0 ≤ b) (h2 : b ≤ (s.size : Int)) (hK : ∀ S : ByteArray, (S.size : Int) = b → K (.v (.str S))) :
    (match pureOp tm (.slcs x none (some hi)) with | some v => fZ op v K | none => Z) := by
  have hb : (0 : Int) ≤ b ∧ b ≤ (s.size : Int) := ⟨by omega, h2⟩
  simp only [pureOp, hx, optV, hhi, bnd, if_pos hb, fZ_eq, Nat.zero_le]
  refine hK _ ?_
  rw [← bL_len, bL_extract, List.length_drop, List.length_take, bL_len]
  omega
theorem stradd_Z {tm : List SV} {x y : Opd} {s t : ByteArray} {op : EOp} {K : SV → Prop} {Z : Prop} (hx : x.val tm = some (.str s)) (hy : y.val tm = some (.str t)) (h : s.size + t.size ≤ 4096) (hK : ∀ S : ByteArray, S.size = s.size + t.size → K (.v (.str S))) :
    (match pureOp tm (.bin .add x y) with | some v => fZ op v K | none => Z) := by
  have h2 : s.size + t.size ≤ 9223372036854775807 := by omega
  simp only [pureOp, hx, hy, binV, if_pos h2, fZ_eq]
  exact hK _ ByteArray.size_append
def hdE : List ByteArray := [⟨#[]⟩, ⟨#[48, 120]⟩, ⟨#[52, 50, 57, 52, 57, 54, 55, 50, 57]⟩, ⟨#[48, 120, 102, 102, 102, 102, 102, 102, 102]⟩, ⟨#[48, 120, 48, 48, 48, 48]⟩, ⟨#[52, 50, 57, 52, 57, 54, 55]⟩]
def enE : List Int := [-9223372036854775808, -1, 0, 1, 2, 3, 4, 5, 8, 9223372036854775807]
theorem enE_bd : ∀ x, x ∈ enE → (-9223372036854775808 ≤ x ∧ x < 9223372036854775808) := by decide
theorem hdE_bd : ∀ x, x ∈ hdE → x.size ≤ 9 := by decide
def encS (x : ByteArray) : List V := [.str x]
theorem encS_len (x : ByteArray) : (encS x).length = 1 := rfl
theorem reps_zero : ∀ n, reps n [V.int .u8 0] = (List.replicate n (0 : Int)).flatMap encB
  | 0 => rfl
  | n + 1 => by rw [List.replicate_succ, List.flatMap_cons, ← reps_zero n]; rfl
def s8 : Sp := fun vs H Q => match vs with
  | [] => GLB H ∧ ∀ X e g, Q (.bool true) (H ++ X) e g
  | _ => False
theorem k8 : Snd Tryd.prog 2 8 s8 := by
  refine snd_of_ev (by kernel_rfl) (C := tab [(3, s3), (6, s6), (9, s9), (10, s10), (11, s11), (14, s14), (19, s19u)]) (sndC_cons k3 (sndC_cons k6 (sndC_cons k9 (sndC_cons k10 (sndC_cons k11 (sndC_cons k14 (sndC_cons k19u (sndC_nil)))))))) x8 n8 c8X 2000 ?_
  have hC : MonoC (tab [(3, s3), (6, s6), (9, s9), (10, s10), (11, s11), (14, s14), (19, s19u)]) := monoC_cons m3 (monoC_cons m6 (monoC_cons m9 (monoC_cons m10 (monoC_cons m11 (monoC_cons m14 (monoC_cons m19u (monoC_nil)))))))
  intro vs Hx Q hs
  unfold s8 at hs
  split at hs
  · obtain ⟨hg, hq⟩ := hs
    suffices hh : ∀ k, 1400 < k → evFun (tab [(3, s3), (6, s6), (9, s9), (10, s10), (11, s11), (14, s14), (19, s19u)]) k e8X [] Hx Q from hh _ (by omega)
    intro k hk
    refine evFun_in (tm := undefV :: undefV :: undefV :: undefV :: undefV :: undefV :: undefV :: undefV :: undefV :: undefV :: undefV :: undefV :: undefV :: undefV :: undefV :: undefV :: undefV :: undefV :: undefV :: undefV :: undefV :: undefV :: undefV :: undefV :: undefV :: undefV :: undefV :: undefV :: undefV :: undefV :: undefV :: undefV :: undefV :: undefV :: undefV :: undefV :: undefV :: undefV :: undefV :: undefV :: undefV :: undefV :: undefV :: undefV :: undefV :: undefV :: undefV :: undefV :: undefV :: undefV :: undefV :: undefV :: undefV :: undefV :: undefV :: undefV :: undefV :: undefV :: undefV :: undefV :: undefV :: undefV :: undefV :: undefV :: undefV :: undefV :: undefV :: undefV :: undefV :: undefV :: undefV :: undefV :: undefV :: undefV :: undefV :: undefV :: undefV :: undefV :: undefV :: undefV :: undefV :: undefV :: undefV :: undefV :: undefV :: undefV :: undefV :: undefV :: undefV :: undefV :: undefV :: undefV :: undefV :: undefV :: undefV :: undefV :: undefV :: undefV :: undefV :: undefV :: undefV :: undefV :: undefV :: undefV :: undefV :: undefV :: undefV :: undefV :: undefV :: undefV :: undefV :: undefV :: undefV :: undefV :: undefV :: undefV :: undefV :: undefV :: undefV :: undefV :: undefV :: undefV :: undefV :: undefV :: undefV :: undefV :: []) rfl ?_
    show rC _ _ r8X_0 _ _ _ _ _ _
    refine rC_seqH ?_
    repeat' (conv => whnf
             first | fail)
    any_goals refine Halt.mk ?_
    any_goals show rC _ _ r8X_1 _ _ _ _ _ _
    refine rC_seqH ?_
    repeat' (conv => whnf
             first | fail)
    any_goals refine Halt.mk ?_
    any_goals show rC _ _ r8X_2 _ _ _ _ _ _
    refine rC_seqH ?_
    repeat' (conv => whnf
             first | (refine Stop.mk ?_) | (refine fH_mk ?_) | (refine fN_mk ?_) | fail)
    any_goals refine Halt.mk ?_
    any_goals show rC _ _ r8X_3 _ _ _ _ _ _
    obtain ⟨H1, hH1⟩ : ∃ H1, H1 = Hx ++ [.rw 9 (hdE.flatMap encS)] := ⟨_, rfl⟩
    have hS : rd H1 Hx.length 0 (hdE.length * 1) = some (hdE.flatMap encS) := by rw [hH1]; exact (rd_x0 _ _ _ _ _).trans rfl
    have g1 : GLB H1 := hH1 ▸ GLB_app hg
    have hx1 : Ext Hx H1 := hH1 ▸ (Ext.refl Hx).app _
    change rC _ _ _ _ _ (Hx ++ [.rw 9 (hdE.flatMap encS)]) _ _ _
    rw [← hH1]
    clear hH1
    refine rC_seqH ?_
    repeat' (conv => whnf
             first | fail)
    conv => whnf
    refine rLoop_ctr (c := rC (tab [(3, s3), (6, s6), (9, s9), (10, s10), (11, s11), (14, s14), (19, s19u)]) k l8X_0) 1331 3 (true :: false :: false :: false :: true :: true :: true :: false :: false :: false :: false :: false :: true :: true :: true :: true :: true :: true :: true :: true :: true :: true :: true :: true :: true :: true :: true :: true :: true :: true :: true :: true :: true :: true :: true :: true :: true :: true :: true :: true :: true :: true :: true :: true :: true :: true :: true :: true :: true :: true :: true :: true :: true :: true :: true :: true :: true :: true :: true :: true :: true :: false :: false :: false :: false :: false :: false :: false :: false :: false :: false :: false :: false :: false :: false :: false :: false :: false :: false :: false :: false :: false :: false :: false :: false :: false :: false :: false :: false :: false :: false :: false :: false :: false :: false :: false :: false :: false :: false :: false :: false :: false :: false :: false :: false :: false :: false :: false :: false :: false :: false :: false :: false :: false :: false :: false :: false :: false :: false :: false :: false :: false :: false :: false :: false :: false :: []) (fun i tm L H e g => L = [] ∧ H = H1 ∧ e = false) (by omega) rfl ⟨rfl, rfl, rfl⟩ ?_
    intro i0 hi0
    conv => whnf
    iterate 53 (intro j; conv => whnf)
    refine Halt.mk ?_
    rintro L H' e g ⟨rfl, rfl, rfl⟩ K kn kx kr
    repeat' (conv => whnf
             first | (refine Stop.mk ?_) | (refine fO_mk ?_) | fail)
    conv => whnf
    refine dec_split (fun h => ?_) (fun h => ?_)
    · have hlt : i0 < 1331 := by have h2 : (i0 : Int) < 1331 := of_decide_eq_true h; omega
      clear kx
      repeat' (conv => whnf
               first | (refine Stop.mk ?_) | (refine fI_wquo64 (by first | omega | (simp only [Int.ofNat_eq_natCast] at *; omega)) ?_; intro z hz) | (refine fI_i64 (by first | omega | (simp only [Int.ofNat_eq_natCast] at *; omega)) ?_; intro z hz) | (refine fI_tmod (by first | omega | (simp only [Int.ofNat_eq_natCast] at *; omega)) ?_; intro z hz) | (refine slcsB_Z rfl rfl rfl (by omega) (by omega) (by show _ ≤ (11 : Int); omega) ?_; intro S hS) | (refine stradd_Z rfl rfl (by omega) ?_; intro S hS) | fail)
      conv => whnf
      refine rLoop_ctr (c := rC (tab [(3, s3), (6, s6), (9, s9), (10, s10), (11, s11), (14, s14), (19, s19u)]) k l8X_1) 6 5 (true :: false :: false :: false :: false :: false :: true :: false :: false :: false :: false :: false :: false :: false :: false :: false :: false :: false :: false :: false :: false :: false :: false :: false :: false :: false :: false :: false :: false :: false :: false :: false :: false :: false :: false :: false :: false :: false :: false :: false :: false :: true :: true :: true :: true :: true :: true :: true :: true :: true :: true :: true :: true :: true :: true :: true :: true :: true :: true :: true :: true :: false :: false :: false :: false :: false :: false :: false :: false :: false :: false :: false :: false :: false :: false :: false :: false :: false :: false :: false :: false :: false :: false :: false :: false :: false :: false :: false :: false :: false :: false :: false :: false :: false :: false :: false :: false :: false :: false :: false :: false :: false :: false :: false :: false :: false :: false :: false :: false :: false :: false :: false :: false :: false :: false :: false :: false :: false :: false :: false :: false :: false :: false :: false :: false :: false :: []) (fun i tm L H e g => L = [] ∧ H = H' ∧ e = false) (by omega) rfl ⟨rfl, rfl, rfl⟩ ?_
      intro i1 hi1
      conv => whnf
      iterate 22 (intro j; conv => whnf)
      refine Halt.mk ?_
      rintro L H' e g ⟨rfl, rfl, rfl⟩ K1 kn1 kx1 kr1
      repeat' (conv => whnf
               first | (refine Stop.mk ?_) | (refine fO_mk ?_) | fail)
      conv => whnf
      refine dec_split (fun h1 => ?_) (fun h1 => ?_)
      · have hlt1 : i1 < 6 := by have h2 : (i1 : Int) < 6 := of_decide_eq_true h1; omega
        clear kx1 kr
        repeat' (conv => whnf
                 first | fail)
        conv => whnf
        refine rLoop_ctr (c := rC (tab [(3, s3), (6, s6), (9, s9), (10, s10), (11, s11), (14, s14), (19, s19u)]) k l8X_2) 4 6 (true :: false :: false :: false :: false :: false :: false :: false :: false :: false :: false :: false :: false :: false :: false :: false :: false :: false :: false :: false :: false :: false :: false :: false :: false :: false :: false :: false :: false :: false :: false :: false :: false :: false :: false :: false :: false :: false :: false :: false :: false :: false :: false :: false :: false :: false :: false :: true :: true :: true :: true :: true :: true :: true :: true :: true :: true :: true :: true :: true :: true :: false :: false :: false :: false :: false :: false :: false :: false :: false :: false :: false :: false :: false :: false :: false :: false :: false :: false :: false :: false :: false :: false :: false :: false :: false :: false :: false :: false :: false :: false :: false :: false :: false :: false :: false :: false :: false :: false :: false :: false :: false :: false :: false :: false :: false :: false :: false :: false :: false :: false :: false :: false :: false :: false :: false :: false :: false :: false :: false :: false :: false :: false :: false :: false :: false :: []) (fun i tm L H e g => L = [] ∧ H = H' ∧ e = false) (by omega) rfl ⟨rfl, rfl, rfl⟩ ?_
        intro i2 hi2
        conv => whnf
        iterate 15 (intro j; conv => whnf)
        refine Halt.mk ?_
        rintro L H' e g ⟨rfl, rfl, rfl⟩ K2 kn2 kx2 kr2
        repeat' (conv => whnf
                 first | (refine Stop.mk ?_) | (refine fO_mk ?_) | fail)
        conv => whnf
        refine dec_split (fun h2 => ?_) (fun h2 => ?_)
        · have hlt2 : i2 < 4 := by have h3 : (i2 : Int) < 4 := of_decide_eq_true h2; omega
          clear kx2 kr1 kr2
          have hd := rd_el encS_len hS i1 hlt1
          obtain ⟨sv, hsv⟩ : ∃ sv, sv = hdE[i1]'hlt1 := ⟨_, rfl⟩
          have hsb := hsv ▸ hdE_bd _ (List.getElem_mem hlt1)
          rw [← hsv] at hd
          clear hsv
          repeat' (conv => whnf
                   first | (refine Stop.mk ?_) | (refine fI_i64 (by first | omega | (simp only [Int.ofNat_eq_natCast] at *; omega)) ?_; intro z hz) | (refine pure_step (ixs_eq rfl rfl (by omega) (show _ < (6 : Int) by omega)) ?_) | (refine ld_step rfl (hd _ (by simp)) rfl ?_) | (refine slcsH_Z rfl rfl (by omega) (by omega) ?_; intro S9 hS9) | (refine stradd_Z rfl rfl (by omega) ?_; intro S8 hS8) | (refine And.intro g1 (And.intro (by rw [bL_len]; omega) ?_)) | (refine And.intro rfl ?_) | (refine fN_mk ?_) | fail)
          conv => whnf
          obtain rfl : z = ((i2 + 1 : Nat) : Int) := by omega
          exact kn2 hlt2 _ _ _ _ _ rfl ⟨rfl, rfl, rfl⟩
        · clear kn2 kr2 kr1
          repeat' (conv => whnf
                   first | (refine Stop.mk ?_) | (refine fI_i64 (by first | omega | (simp only [Int.ofNat_eq_natCast] at *; omega)) ?_; intro z hz) | (refine kx2 _ _ _ _ _ _ ?_) | fail)
          conv => whnf
          obtain rfl : z = ((i1 + 1 : Nat) : Int) := by omega
          exact kn1 hlt1 _ _ _ _ _ rfl ⟨rfl, rfl, rfl⟩
      · clear kn1 kr1
        repeat' (conv => whnf
                 first | (refine Stop.mk ?_) | (refine fI_i64 (by first | omega | (simp only [Int.ofNat_eq_natCast] at *; omega)) ?_; intro z hz) | (refine kx1 _ _ _ _ _ _ ?_) | fail)
        conv => whnf
        obtain rfl : z = ((i0 + 1 : Nat) : Int) := by omega
        exact kn hlt _ _ _ _ _ rfl ⟨rfl, rfl, rfl⟩
    · clear kn kr
      refine kx _ _ _ _ _ _ ?_
      conv => whnf
      refine Halt.mk ?_
      show rC _ _ r8X_4 _ _ _ _ _ _
      clear kx h hS
      have gE : ∀ {M}, Ext H' M → GLB M := fun h => by rw [h.eq]; exact GLB_app g1
      refine rC_seqH ?_
      repeat' (conv => whnf
               first | fail)
      conv => whnf
      refine rLoop_ctr (c := rC (tab [(3, s3), (6, s6), (9, s9), (10, s10), (11, s11), (14, s14), (19, s19u)]) k l8X_3) 32 7 (true :: false :: false :: false :: false :: false :: false :: false :: true :: false :: false :: false :: false :: false :: false :: false :: false :: false :: false :: false :: false :: false :: false :: false :: false :: false :: false :: false :: false :: false :: false :: false :: false :: false :: false :: false :: false :: false :: false :: false :: false :: false :: false :: false :: false :: false :: false :: false :: false :: false :: false :: false :: false :: false :: false :: false :: false :: false :: false :: false :: false :: true :: true :: true :: true :: true :: true :: true :: true :: true :: true :: true :: true :: true :: true :: true :: true :: true :: true :: true :: true :: true :: true :: true :: true :: true :: true :: true :: true :: true :: true :: true :: true :: true :: true :: true :: true :: true :: true :: true :: true :: true :: true :: true :: true :: true :: true :: true :: true :: false :: false :: false :: false :: false :: false :: false :: false :: false :: false :: false :: false :: false :: false :: false :: false :: false :: []) (fun i tm L H e g => L = [] ∧ Ext H' H) (by omega) rfl ⟨rfl, Ext.refl _⟩ ?_
      intro i3 hi3
      conv => whnf
      iterate 50 (intro j; conv => whnf)
      refine Halt.mk ?_
      rintro L HA e g ⟨rfl, hE⟩ K kn kx kr
      repeat' (conv => whnf
               first | (refine Stop.mk ?_) | (refine fO_mk ?_) | fail)
      conv => whnf
      refine dec_split (fun h => ?_) (fun h => ?_)
      · have hlt : i3 < 32 := by have h2 : (i3 : Int) < 32 := of_decide_eq_true h; omega
        clear kx kr
        have ok4 : okS 4 := by decide
        have hm6 : Int.tmod (i3 : Int) 6 = (i3 : Int) % 6 := Int.tmod_eq_emod_of_nonneg (by omega)
        have bR : ∀ M : List B, RdB (M ++ [.rw 5 (reps i3 [V.int .u8 0])]) (some (M.length, 0)) (List.replicate i3 (0 : Int)) := fun M => rdB_blk (ws := []) (by rw [List.append_nil, ← reps_zero]; exact List.getElem?_concat_length)
        have b0 : ∀ x, x ∈ List.replicate i3 (0 : Int) → 0 ≤ x ∧ x < 256 := fun x hx => by rw [List.eq_of_mem_replicate hx]; decide
        repeat' (conv => whnf
                 first | (refine Stop.mk ?_) | (refine fI_u32B ?_; intro z hzb) | (refine fI_is (b := (i3 : Int) + 1) (wrap_i64_id (by omega) (by omega)) ?_) | (refine fI_i64B ?_; intro z hzb) | (refine fI_tmod (by first | omega | (simp only [Int.ofNat_eq_natCast] at *; omega)) ?_; intro z hz) | (refine fO_gen ?_; intro z hz) | (refine pure_step (shl_eq rfl rfl (by omega)) ?_) | (refine mem_step (mkslK i3 rfl rfl ⟨by show i3 * 1 ≤ _; omega, by omega, by omega⟩) ?_) | (refine ⟨⟨by assumption, by assumption⟩, gE (by repeat (first | exact hE | refine Ext.app ?_ _)), List.replicate i3 0, List.length_replicate.symm, b0, bR _, ?_⟩; intro X9 e9 g9) | (have t_ := q3; refine ⟨⟨by assumption, by omega⟩, gE (by repeat (first | exact hE | refine Ext.app ?_ _)), bytesV 4 _, (bytesV_len _ _).symm, bytesV_bd _ _, rdB_blk q3, ?_⟩; intro X8 e8X g8) | (refine Or.inl (And.intro ⟨by assumption, ok4⟩ (And.intro (gE (by repeat (first | exact hE | refine Ext.app ?_ _))) (ownK2 (k := 4) (bytesV_len _ _) ?_))); intro b1 c1 X1 ws1 q1 q2 q3 q4) | (have t_ := hS1; refine And.intro (by assumption) (And.intro (gE (by repeat (first | exact hE | refine Ext.app ?_ _))) ?_)) | (have t_ := e2; refine And.intro (by assumption) (And.intro (gE (by repeat (first | exact hE | refine Ext.app ?_ _))) ?_); intro S1 hS1) | (have t_ := e1; refine And.intro ⟨by assumption, by assumption⟩ (And.intro (gE (by repeat (first | exact hE | refine Ext.app ?_ _))) ?_); intro X3 e2 g2) | (refine And.intro ⟨by assumption, by assumption⟩ (And.intro (gE (by repeat (first | exact hE | refine Ext.app ?_ _))) ?_); intro X2 e1 g1') | (refine And.intro rfl ?_) | (refine fH_mk ?_) | (refine fN_mk ?_) | fail)
        conv => whnf
        exact kn hlt _ _ _ _ _ rfl ⟨rfl, (by repeat (first | exact hE | refine Ext.app ?_ _))⟩
      · clear kn kr
        refine kx _ _ _ _ _ _ ?_
        conv => whnf
        refine Halt.mk ?_
        show rC _ _ r8X_5 _ _ _ _ _ _
        have hEx : Ext Hx HA := ⟨Nat.le_trans hx1.1 hE.1, fun x hx => (hE.2 x (Nat.lt_of_lt_of_le hx hx1.1)).trans (hx1.2 x hx)⟩
        have gA : GLB HA := gE hE
        clear gE hE hx1 g1 kx h
        refine rC_seqH ?_
        repeat' (conv => whnf
                 first | (refine Stop.mk ?_) | (refine fO_gen ?_; intro z hz) | (refine fH_mk ?_) | (refine fN_mk ?_) | fail)
        any_goals refine Halt.mk ?_
        any_goals show rC _ _ r8X_6 _ _ _ _ _ _
        obtain ⟨HB, hHB⟩ : ∃ HB, HB = HA ++ [.rw 3 (enE.flatMap encJ)] := ⟨_, rfl⟩
        have hS : rd HB HA.length 0 (enE.length * 1) = some (enE.flatMap encJ) := by rw [hHB]; exact (rd_x0 _ _ _ _ _).trans rfl
        have gB : GLB HB := hHB ▸ GLB_app gA
        have hxB : Ext Hx HB := hHB ▸ hEx.app _
        change rC _ _ _ _ _ (HA ++ [.rw 3 (enE.flatMap encJ)]) _ _ _
        rw [← hHB]
        clear hHB
        have gE : ∀ {M}, Ext HB M → GLB M := fun h => by rw [h.eq]; exact GLB_app gB
        have hAB : HA.length < HB.length := rd_lt hS
        refine rC_seqH ?_
        repeat' (conv => whnf
                 first | fail)
        conv => whnf
        refine rLoop_ctr (c := rC (tab [(3, s3), (6, s6), (9, s9), (10, s10), (11, s11), (14, s14), (19, s19u)]) k l8X_4) 10 10 (true :: false :: false :: false :: false :: false :: false :: false :: false :: false :: false :: false :: false :: false :: false :: false :: false :: false :: false :: false :: false :: false :: false :: false :: false :: false :: false :: false :: false :: false :: false :: false :: false :: false :: false :: false :: false :: false :: false :: false :: false :: false :: false :: false :: false :: false :: false :: false :: false :: false :: false :: false :: false :: false :: false :: false :: false :: false :: false :: false :: false :: false :: false :: false :: false :: false :: false :: false :: false :: false :: false :: false :: false :: false :: false :: false :: false :: false :: false :: false :: false :: false :: false :: false :: false :: false :: false :: false :: false :: false :: false :: false :: false :: false :: false :: false :: false :: false :: false :: false :: false :: false :: false :: false :: false :: false :: false :: false :: false :: false :: true :: true :: true :: true :: true :: true :: true :: true :: true :: true :: true :: true :: false :: false :: false :: false :: []) (fun i tm L H e g => L = [] ∧ Ext HB H) (by omega) rfl ⟨rfl, Ext.refl _⟩ ?_
        intro i4 hi4
        conv => whnf
        iterate 13 (intro j; conv => whnf)
        refine Halt.mk ?_
        rintro L HC e g ⟨rfl, hE⟩ K kn kx kr
        repeat' (conv => whnf
                 first | (refine Stop.mk ?_) | (refine fO_mk ?_) | fail)
        conv => whnf
        refine dec_split (fun h => ?_) (fun h => ?_)
        · have hlt : i4 < 10 := by have h2 : (i4 : Int) < 10 := of_decide_eq_true h; omega
          clear kx kr
          obtain ⟨sv, hsv⟩ : ∃ sv, sv = enE[i4]'hlt := ⟨_, rfl⟩
          have hsb := hsv ▸ enE_bd _ (List.getElem_mem hlt)
          have hd : ∀ p, p = 0 + i4 * 1 → rd HC HA.length p 1 = some [.int .i64 sv] := fun p hp => (rd_same (by rw [hsv]; exact rd_el encJ_len hS i4 hlt p hp) (hE.2 _ hAB))
          repeat' (conv => whnf
                   first | (refine Stop.mk ?_) | (refine fI_i64 (by first | omega | (simp only [Int.ofNat_eq_natCast] at *; omega)) ?_; intro z hz) | (refine fO_gen ?_; intro z hz) | (refine pure_step (ixs_eq rfl rfl (by omega) (show _ < (10 : Int) by omega)) ?_) | (refine ld_step rfl (hd _ (by simp)) rfl ?_) | (refine ⟨⟨by omega, hsb⟩, gE hE, [], rfl, by simp, rfl, ?_⟩; intro X9 e9 g9) | (refine fN_mk ?_) | fail)
          conv => whnf
          obtain rfl : z = ((i4 + 1 : Nat) : Int) := by omega
          exact kn hlt _ _ _ _ _ rfl ⟨rfl, hE.app _⟩
        · clear kn kr
          refine kx _ _ _ _ _ _ ?_
          conv => whnf
          refine Halt.mk ?_
          show rC _ _ r8X_7 _ _ _ _ _ _
          have hxC : Ext Hx HC := ⟨Nat.le_trans hxB.1 hE.1, fun x hx => (hE.2 x (Nat.lt_of_lt_of_le hx hxB.1)).trans (hxB.2 x hx)⟩
          have fin : ∀ M e g, Ext Hx M → Q (.bool true) M e g := fun M e g h => by rw [h.eq]; exact hq _ e g
          have gC := gE hE
          have z0 : (0 : Int) ≤ 0 ∧ (0 : Int) < 4294967296 := by decide
          cases e <;> cases g
          all_goals
            repeat' (conv => whnf
                     first | (refine Stop.mk ?_) | (refine fO_gen ?_; intro z hz) | (refine And.intro ⟨z0, z0⟩ (And.intro gC ?_); intro X9 e9 g9) | (refine And.intro (GLB_app gC) ?_) | fail)
          all_goals (subst_vars; cases e9 <;> cases g9)
          all_goals (conv => whnf)
          all_goals first
            | exact fin _ _ _ (hxC.app _)
            | exact fin _ _ _ (hxC.app _).take
            | skip
          all_goals
            repeat' (conv => whnf
                     first | (refine Stop.mk ?_) | (exact fin _ _ _ (hxC.app _).take) | (refine fH_mk ?_) | fail)
          all_goals (conv => whnf)
          all_goals first
            | exact fin _ _ _ (hxC.app _)
            | exact fin _ _ _ (hxC.app _).take
            | trace_state
  · exact hs.elim
end Go.Ev
