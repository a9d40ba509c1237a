/- dev: strings, digits -/
import Derived.Test.YtmdkhaoppklokaaDoorEvU
import Derived.Test.YtmdkhaoppklokaaDoorKbyt
import Derived.Laws.Strings
set_option linter.all false
namespace Go.Ev
open Go Go.Proofs
set_option maxRecDepth 10000
set_option maxHeartbeats 4000000
/-- the first that is such, or -1 -/
def fstI {α : Type} (P : α → Bool) (l : List α) : Int := match l.findIdx? P with
  | some i => (i : Int)
  | none => -1
theorem fstI_yes {α : Type} {P : α → Bool} {l : List α} {i : Nat} (h : i < l.length) (hP : ∀ j (h : j < i) (h' : j < l.length), P l[j] = false) (hv : P l[i] = true) : fstI P l = (i : Int) := by
  have : l.findIdx? P = some i := by
    rw [List.findIdx?_eq_some_iff_getElem]
    exact ⟨h, hv, fun j hj => by rw [hP j hj (by omega)]; simp⟩
  unfold fstI; rw [this]
theorem fstI_no {α : Type} {P : α → Bool} {l : List α} (hP : ∀ j (h : j < l.length), P l[j] = false) : fstI P l = -1 := by
  have : l.findIdx? P = none := by
    rw [List.findIdx?_eq_none_iff]
    intro x hx
    obtain ⟨j, h, rfl⟩ := List.getElem_of_mem hx
    exact hP j h
  unfold fstI; rw [this]
theorem fstI_bd {α : Type} (P : α → Bool) (l : List α) : -1 ≤ fstI P l ∧ fstI P l < (l.length : Int) := by
  unfold fstI
  cases h : l.findIdx? P with
  | none => exact ⟨by decide, by dsimp only; omega⟩
  | some i =>
    rw [List.findIdx?_eq_some_iff_getElem] at h
    obtain ⟨hi, _⟩ := h
    exact ⟨by dsimp only; omega, by dsimp only; omega⟩
def bL (s : ByteArray) : List Int := s.data.toList.map fun b => ((b.toNat : Nat) : Int)
theorem bL_len (s : ByteArray) : (bL s).length = s.size := by
  unfold bL
  rw [List.length_map, Array.length_toList]; rfl
theorem bL_get {s : ByteArray} {k : Nat} (h : k < s.size) : ((s[k]'h).toNat : Int) = (bL s)[k]'(by rw [bL_len]; exact h) := by
  unfold bL
  rw [List.getElem_map, Array.getElem_toList]; rfl
theorem bL_extract (s : ByteArray) (a b : Nat) : bL (s.extract a b) = ((bL s).take b).drop a := by
  unfold bL
  rw [ByteArray.data_extract, Array.toList_extract, List.extract_eq_take_drop, List.map_take, List.map_drop]
  rw [List.drop_take]
theorem bL_inj {s t : ByteArray} : (s.toList == t.toList) = decide (bL s = bL t) := by
  rw [ByteArray.toList_eq, ByteArray.toList_eq, Bool.eq_iff_iff, beq_iff_eq, decide_eq_true_eq]
  unfold bL
  constructor
  · intro h; rw [h]
  · intro h
    refine List.map_inj_right ?_ |>.1 h
    intro a b hab
    exact UInt8.toNat_inj.1 (by omega)
theorem ixstr_eq {tm : List SV} {x i : Opd} {s : ByteArray} {kd : IntKind} {n : Int} {k : Nat} (hx : x.val tm = some (.str s)) (hi : i.val tm = some (.int kd n)) (hn : n = (k : Int)) (hk : k < (bL s).length) :
    pureOp tm (.ixstr x i) = some (.v (.int .u8 (bL s)[k])) := by
  subst hn
  have hk' : k < s.size := by rw [bL_len] at hk; exact hk
  have h : 0 ≤ ((k : Nat) : Int) ∧ ((k : Nat) : Int) < (s.size : Int) := by omega
  simp only [pureOp, hx, hi]
  rw [dif_pos h, ← bL_get hk']
  rfl
def digV (c : Int) : Int := fstI (fun x => c == x) dgL
theorem digV_bd (c : Int) : -1 ≤ digV c ∧ digV c < 16 := fstI_bd _ dgL
theorem dg_get {k : Nat} (h : k < 16) (T : List B) : rd (GD :: T) 0 (0 + k * 1) 1 = some [.int .u8 (dgL[k]'h)] := by
  have : k = 0 ∨ k = 1 ∨ k = 2 ∨ k = 3 ∨ k = 4 ∨ k = 5 ∨ k = 6 ∨ k = 7 ∨ k = 8 ∨ k = 9 ∨ k = 10 ∨ k = 11 ∨ k = 12 ∨ k = 13 ∨ k = 14 ∨ k = 15 := by omega
  rcases this with rfl | rfl | rfl | rfl | rfl | rfl | rfl | rfl | rfl | rfl | rfl | rfl | rfl | rfl | rfl | rfl <;> rfl
theorem dg_cell {H : List B} (hg : GLB H) {k : Nat} (h : k < 16) : ∀ p, p = 0 + k * 1 → rd H 0 p 1 = some [.int .u8 (dgL[k]'h)] := by
  obtain ⟨T, rfl⟩ := hg
  intro p hp
  rw [hp]
  exact dg_get h _
def s54 : Sp := fun vs H Q => match vs with
  | [.sl (some (0, 0)) 16 16, .int .u8 c] => GLB H ∧ Q (.int .i64 (digV c)) H false false
  | _ => False
theorem k54 : Snd Tryd.prog 2 54 s54 := by
  refine snd_of_ev (by kernel_rfl) (C := tab []) (sndC_nil) x54 n54 c54 50 ?_
  have hC : MonoC (tab []) := monoC_nil
  intro vs Hx Q hs
  unfold s54 at hs
  split at hs
  · rename_i c
    obtain ⟨hg, hq⟩ := hs
    suffices hh : ∀ k, 20 < k → evFun (tab []) k e54 [.sl (some (0, 0)) 16 16, .int .u8 c] Hx Q from hh _ (by omega)
    intro k hk
    refine evFun_in (tm := SV.v (.sl (some (0, 0)) 16 16) :: SV.v (.int .u8 c) :: undefV :: undefV :: undefV :: undefV :: undefV :: undefV :: undefV :: undefV :: undefV :: undefV :: undefV :: undefV :: undefV :: undefV :: undefV :: undefV :: undefV :: []) rfl ?_
    show rC _ _ r54_0 _ _ _ _ _ _
    refine rC_seqH ?_
    repeat' (conv => whnf
             first | fail)
    any_goals refine Halt.mk ?_
    any_goals show rC _ _ r54_1 _ _ _ _ _ _
    repeat' (conv => whnf
             first | (refine Stop.mk ?_) | fail)
    conv => whnf
    refine rLoop_ctr (c := rC (tab []) k l54_0) 16 8 (false :: false :: false :: false :: true :: true :: false :: false :: false :: true :: true :: true :: true :: true :: true :: true :: true :: true :: true :: []) (fun i tm L H e g => (∀ j (h : j < i) (h' : j < dgL.length), (c == dgL[j]) = false) ∧ L = [] ∧ H = Hx ∧ e = false ∧ g = false) (by omega) rfl ⟨fun j h => absurd h (Nat.not_lt_zero _), rfl, rfl, rfl, rfl⟩ ?_
    intro i0 hi0
    conv => whnf
    iterate 12 (intro j; conv => whnf)
    refine Halt.mk ?_
    rintro L H' e g ⟨hP, rfl, rfl, rfl, rfl⟩ K kn kx kr
    repeat' (conv => whnf
             first | (refine Stop.mk ?_) | (refine fO_mk ?_) | fail)
    conv => whnf
    refine dec_split (fun h => ?_) (fun h => ?_)
    · have hlt : i0 < 16 := by have h2 : (i0 : Int) < 16 := of_decide_eq_true h; omega
      have hre := dg_cell hg hlt
      clear kx
      by_cases hv : (c == dgL[i0]'hlt) = true
      · clear kn
        repeat' (conv => whnf
                 first | (refine Stop.mk ?_) | (refine fO_is hv ?_) | (refine pure_step (ixs_eq rfl rfl (by omega) (show _ < (16 : Int) by omega)) ?_) | (refine ld_step rfl (hre _ (by first | omega | rfl)) rfl ?_) | (refine fN_mk ?_) | fail)
        conv => whnf
        refine kr _ _ _ _ _ ?_
        conv => whnf
        refine leafE hq ?_
        unfold digV
        rw [fstI_yes (P := fun x => c == x) (l := dgL) hlt hP hv]
        rfl
      · clear kr
        have hv' : (c == dgL[i0]'hlt) = false := by simpa using hv
        repeat' (conv => whnf
                 first | (refine Stop.mk ?_) | (refine fO_is hv' ?_) | (refine fI_i64 (by first | omega | (simp only [Int.ofNat_eq_natCast] at *; omega)) ?_; intro z hz) | (refine pure_step (ixs_eq rfl rfl (by omega) (show _ < (16 : Int) by omega)) ?_) | (refine ld_step rfl (hre _ (by first | omega | rfl)) rfl ?_) | (refine fN_mk ?_) | fail)
        conv => whnf
        subst hz
        refine kn hlt _ _ _ _ _ rfl ⟨?_, rfl, rfl, rfl, rfl⟩
        intro j h1 h2
        by_cases hj : j < i0
        · exact hP j hj h2
        · obtain rfl : j = i0 := by omega
          exact hv'
    · clear kn kr
      have hie : i0 = 16 := by have h2 : ¬ (i0 : Int) < 16 := of_decide_eq_false h; omega
      subst hie
      repeat' (conv => whnf
               first | (refine kx _ _ _ _ _ _ ?_) | fail)
      conv => whnf
      refine leafE hq ?_
      unfold digV
      rw [fstI_no (P := fun x => c == x) (l := dgL) (fun j h => hP j h h)]
      rfl
  · exact hs.elim
def s53 : Sp := fun vs H Q => match vs with
  | [.int .u8 c, .ptr (some (q, 0))] => GLB H ∧ ∃ b : Int, rd H q 0 1 = some [.int .i64 b] ∧ Q (.tup [.int .i64 (digV c), .bool (decide (0 ≤ digV c ∧ digV c < b))]) H false false
  | _ => False
theorem m53 : Mono s53 := by
  intro vs H Q Q' hQ h
  unfold s53 at h ⊢
  split at h
  all_goals first
    | exact h.elim
    | (repeat' (first | exact hQ _ _ _ _ h | refine And.imp_right (fun h => ?_) h | refine Exists.imp (fun _ h => ?_) h | (intro z; replace h := h z)))
theorem k53 : Snd Tryd.prog 2 53 s53 := by
  refine snd_of_ev (by kernel_rfl) (C := tab [(54, s54)]) (sndC_cons k54 (sndC_nil)) x53 n53 c53 30 ?_
  intro vs H Q hs
  unfold s53 at hs
  split at hs
  · rename_i c q
    obtain ⟨hg, b, hr, hq⟩ := hs
    by_cases h0 : 0 ≤ digV c
    · have t0 : decide (digV c ≥ 0) = true := decide_eq_true h0
      have hv : decide (digV c < b) = decide (0 ≤ digV c ∧ digV c < b) := by rw [decide_eq_decide]; exact ⟨fun h => ⟨h0, h⟩, fun h => h.2⟩
      repeat' (conv => whnf
               first | (refine Stop.mk ?_) | (refine fO_is t0 ?_) | (refine fO_is hv ?_) | (with_reducible refine fI_is (a := digV c) rfl ?_) | (refine And.intro hg ?_) | (refine lds_step rfl hr rfl ?_) | fail)
      all_goals (conv => whnf)
      all_goals exact leafE hq rfl
    · have t0 : decide (digV c ≥ 0) = false := decide_eq_false h0
      have hv : decide (0 ≤ digV c ∧ digV c < b) = false := decide_eq_false (fun h => h0 h.1)
      rw [hv] at hq
      repeat' (conv => whnf
               first | (refine Stop.mk ?_) | (refine fO_is t0 ?_) | (with_reducible refine fI_is (a := digV c) rfl ?_) | (refine And.intro hg ?_) | fail)
      all_goals (conv => whnf)
      all_goals exact leafE hq rfl
  · exact hs.elim
def s42 : Sp := fun vs H Q => match vs with
  | [.int .i64 b] => Q (.fn 53 [] [.ptr (some (H.length, 0))]) (H ++ [.rw 3 [.int .i64 b]]) false true
  | _ => False
theorem m42 : Mono s42 := by
  intro vs H Q Q' hQ h
  unfold s42 at h ⊢
  split at h
  all_goals first
    | exact h.elim
    | (repeat' (first | exact hQ _ _ _ _ h | refine And.imp_right (fun h => ?_) h | refine Exists.imp (fun _ h => ?_) h | (intro z; replace h := h z)))
theorem k42 : Snd Tryd.prog 2 42 s42 := by
  refine snd_of_ev (by kernel_rfl) (C := tab []) (sndC_nil) x42 n42 c42 30 ?_
  intro vs H Q hs
  unfold s42 at hs
  split at hs
  · rename_i b
    have hq := hs
    clear hs
    repeat' (conv => whnf
             first | (refine Stop.mk ?_) | (refine fH_mk ?_) | (refine fN_mk ?_) | fail)
    all_goals (conv => whnf)
    all_goals
      refine drec_no (by simp [one1, V.lt, V.ltL]) ?_
      exact hq
  · exact hs.elim
theorem dgS_get {k : Nat} (h : k < 16) : k < (bL (ByteArray.mk (Array.mk [UInt8.ofNat 48, UInt8.ofNat 49, UInt8.ofNat 50, UInt8.ofNat 51, UInt8.ofNat 52, UInt8.ofNat 53, UInt8.ofNat 54, UInt8.ofNat 55, UInt8.ofNat 56, UInt8.ofNat 57, UInt8.ofNat 97, UInt8.ofNat 98, UInt8.ofNat 99, UInt8.ofNat 100, UInt8.ofNat 101, UInt8.ofNat 102]))).length := h
theorem dgS_eq : bL (ByteArray.mk (Array.mk [UInt8.ofNat 48, UInt8.ofNat 49, UInt8.ofNat 50, UInt8.ofNat 51, UInt8.ofNat 52, UInt8.ofNat 53, UInt8.ofNat 54, UInt8.ofNat 55, UInt8.ofNat 56, UInt8.ofNat 57, UInt8.ofNat 97, UInt8.ofNat 98, UInt8.ofNat 99, UInt8.ofNat 100, UInt8.ofNat 101, UInt8.ofNat 102])) = dgL := rfl
def s74 : Sp := fun vs H Q => match vs with
  | [.int .u8 c] => Q (.int .i64 (digV c)) H false false
  | _ => False
theorem m74 : Mono s74 := by
  intro vs H Q Q' hQ h
  unfold s74 at h ⊢
  split at h
  all_goals first
    | exact h.elim
    | (repeat' (first | exact hQ _ _ _ _ h | refine And.imp_right (fun h => ?_) h | refine Exists.imp (fun _ h => ?_) h | (intro z; replace h := h z)))
theorem k74 : Snd Tryd.prog 2 74 s74 := by
  refine snd_of_ev (by kernel_rfl) (C := tab []) (sndC_nil) x74 n74 c74 50 ?_
  have hC : MonoC (tab []) := monoC_nil
  intro vs Hx Q hs
  unfold s74 at hs
  split at hs
  · rename_i c
    have hq := hs
    clear hs
    suffices hh : ∀ k, 20 < k → evFun (tab []) k e74 [.int .u8 c] Hx Q from hh _ (by omega)
    intro k hk
    refine evFun_in (tm := SV.v (.int .u8 c) :: undefV :: undefV :: undefV :: undefV :: undefV :: undefV :: undefV :: undefV :: undefV :: undefV :: undefV :: undefV :: []) rfl ?_
    show rC _ _ r74_0 _ _ _ _ _ _
    refine rC_seqH ?_
    repeat' (conv => whnf
             first | fail)
    any_goals refine Halt.mk ?_
    any_goals show rC _ _ r74_1 _ _ _ _ _ _
    repeat' (conv => whnf
             first | fail)
    conv => whnf
    refine rLoop_ctr (c := rC (tab []) k l74_0) 16 3 (false :: false :: true :: false :: true :: true :: true :: true :: true :: true :: true :: true :: true :: []) (fun i tm L H e g => (∀ j (h : j < i) (h' : j < dgL.length), (dgL[j] == c) = false) ∧ L = [] ∧ H = Hx ∧ e = false ∧ g = false) (by omega) rfl ⟨fun j h => absurd h (Nat.not_lt_zero _), rfl, rfl, rfl, rfl⟩ ?_
    intro i0 hi0
    conv => whnf
    iterate 10 (intro j; conv => whnf)
    refine Halt.mk ?_
    rintro L H' e g ⟨hP, rfl, rfl, rfl, rfl⟩ K kn kx kr
    repeat' (conv => whnf
             first | (refine Stop.mk ?_) | (refine fO_mk ?_) | fail)
    conv => whnf
    refine dec_split (fun h => ?_) (fun h => ?_)
    · have hlt : i0 < 16 := by have h2 : (i0 : Int) < 16 := of_decide_eq_true h; omega
      clear kx
      have hltd : i0 < dgL.length := hlt
      have hix := fun {tm : List SV} {x i : Opd} (hx : x.val tm = _) (hi : i.val tm = some (.int .i64 (i0 : Int))) => ixstr_eq hx hi rfl (dgS_get hlt)
      simp only [dgS_eq] at hix
      by_cases hv : (dgL[i0]'hltd == c) = true
      · clear kn
        repeat' (conv => whnf
                 first | (refine Stop.mk ?_) | (refine fO_is hv ?_) | (with_reducible refine fI_is (a := dgL[i0]'hltd) rfl ?_) | (refine pure_step (hix rfl rfl) ?_) | fail)
        conv => whnf
        refine kr _ _ _ _ _ ?_
        conv => whnf
        refine leafE hq ?_
        unfold digV
        rw [fstI_yes (P := fun x => c == x) (l := dgL) hlt (fun j h h' => by rw [Bool.beq_comm]; exact hP j h h') (by rw [Bool.beq_comm]; exact hv)]
        rfl
      · clear kr
        have hv' : (dgL[i0]'hltd == c) = false := by simpa using hv
        repeat' (conv => whnf
                 first | (refine Stop.mk ?_) | (refine fO_is hv' ?_) | (with_reducible refine fI_is (a := dgL[i0]'hltd) rfl ?_) | (refine fI_i64 (by first | omega | (simp only [Int.ofNat_eq_natCast] at *; omega)) ?_; intro z hz) | (refine pure_step (hix rfl rfl) ?_) | fail)
        conv => whnf
        subst hz
        refine kn hlt _ _ _ _ _ rfl ⟨?_, rfl, rfl, rfl, rfl⟩
        intro j h1 h2
        by_cases hj : j < i0
        · exact hP j hj h2
        · obtain rfl : j = i0 := by omega
          exact hv'
    · clear kn kr
      have hie : i0 = 16 := by have h2 : ¬ (i0 : Int) < 16 := of_decide_eq_false h; omega
      subst hie
      repeat' (conv => whnf
               first | (refine kx _ _ _ _ _ _ ?_) | fail)
      conv => whnf
      refine leafE hq ?_
      unfold digV
      rw [fstI_no (P := fun x => c == x) (l := dgL) (fun j h => by rw [Bool.beq_comm]; exact hP j h h)]
      rfl
  · exact hs.elim
end Go.Ev
