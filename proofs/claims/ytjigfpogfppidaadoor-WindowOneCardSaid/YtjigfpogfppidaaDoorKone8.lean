/- dev: WindowOne -/
import Derived.Test.YtjigfpogfppidaaDoorKone8p
set_option linter.all false
namespace Go.Ev
open Go Go.Proofs
set_option maxRecDepth 40000
set_option maxHeartbeats 4000000
def s5 : Sp := fun vs H Q => match vs with
  | [.sl p m c, .agg [.int .i64 w, .bool wr, .int .u32 a, .int .i64 n, .int .u32 d], .int .i64 tu, .int .i64 ow0, .int .i64 li0] => (((0 ≤ a ∧ a < 4294967296) ∧ (0 ≤ d ∧ d < 4294967296) ∧ (-9223372036854775808 ≤ n ∧ n < 9223372036854775808)) ∧ (-9223372036854775808 ≤ tu ∧ tu < 9223372036854775808) ∧ (-9223372036854775808 ≤ ow0 ∧ ow0 < 9223372036854775808) ∧ (-9223372036854775808 ≤ li0 ∧ li0 < 9223372036854775808)) ∧ GLB H ∧ ∃ ds : List D5, m = ds.length ∧ m ≤ c ∧ (∀ d, d ∈ ds → okD d) ∧ RdD H p ds ∧ ∀ X e g, Q (.bool true) (H ++ X) e g
  | _ => False
theorem k5 : Snd Tryd.prog 1 5 s5 := by
  refine snd_of_ev (by kernel_rfl) (C := tab [(7, s7), (13, s13), (14, s14), (15, s15), (16, s16), (17, s17), (18, s18), (19, s19)]) (sndC_cons k7 (sndC_cons k13 (sndC_cons k14 (sndC_cons k15 (sndC_cons k16 (sndC_cons k17 (sndC_cons k18 (sndC_cons k19 (sndC_nil))))))))) x5 n5 c5 5000 ?_
  have hC : MonoC (tab [(7, s7), (13, s13), (14, s14), (15, s15), (16, s16), (17, s17), (18, s18), (19, s19)]) := monoC_cons m7 (monoC_cons m13 (monoC_cons m14 (monoC_cons m15 (monoC_cons m16 (monoC_cons m17 (monoC_cons m18 (monoC_cons m19 (monoC_nil))))))))
  intro vs Hx Q hs
  unfold s5 at hs
  split at hs
  · rename_i p m c w wr a n d tu ow0 li0
    obtain ⟨⟨pa, ptu, pow, pli⟩, hg, ds, rfl, hc, hok, hr, hq⟩ := hs
    have hq0 : Q (.bool true) Hx false false := by have := hq [] false false; rwa [List.append_nil] at this
    by_cases hl : ds.length ≤ 100
    · have t1 : decide ((ds.length : Int) > 100) = false := decide_eq_false (by omega)
      have hl4 : ds.length ≤ 4096 := by omega
      by_cases hR : rightL ds
      · obtain ⟨f0, hf0⟩ : ∃ z, z = (if accP w wr a n d then a else 0) := ⟨_, rfl⟩
        obtain ⟨t0, ht0⟩ : ∃ z, z = (if accP w wr a n d then a + n - 1 else 0) := ⟨_, rfl⟩
        obtain ⟨okv, hokv⟩ : ∃ z, z = decide (accP w wr a n d) := ⟨_, rfl⟩
        suffices hh : ∀ k, 4200 < k → evFun (tab [(7, s7), (13, s13), (14, s14), (15, s15), (16, s16), (17, s17), (18, s18), (19, s19)]) k e5 [.sl p ds.length c, .agg [.int .i64 w, .bool wr, .int .u32 a, .int .i64 n, .int .u32 d], .int .i64 tu, .int .i64 ow0, .int .i64 li0] Hx Q from hh _ (by omega)
        intro k hk
        refine evFun_in (tm := SV.v (.sl p ds.length c) :: SV.v (.agg [.int .i64 w, .bool wr, .int .u32 a, .int .i64 n, .int .u32 d]) :: SV.v (.int .i64 tu) :: SV.v (.int .i64 ow0) :: SV.v (.int .i64 li0) :: undefV :: undefV :: undefV :: undefV :: undefV :: undefV :: undefV :: undefV :: undefV :: undefV :: undefV :: undefV :: undefV :: undefV :: undefV :: undefV :: undefV :: undefV :: undefV :: undefV :: undefV :: undefV :: undefV :: undefV :: undefV :: undefV :: undefV :: undefV :: undefV :: undefV :: undefV :: undefV :: undefV :: undefV :: undefV :: undefV :: undefV :: undefV :: undefV :: undefV :: undefV :: undefV :: undefV :: undefV :: undefV :: undefV :: undefV :: undefV :: undefV :: undefV :: undefV :: undefV :: undefV :: undefV :: undefV :: undefV :: undefV :: undefV :: undefV :: undefV :: undefV :: undefV :: undefV :: undefV :: undefV :: undefV :: undefV :: undefV :: undefV :: undefV :: undefV :: undefV :: undefV :: undefV :: undefV :: undefV :: undefV :: undefV :: undefV :: undefV :: undefV :: undefV :: undefV :: undefV :: undefV :: undefV :: undefV :: undefV :: undefV :: undefV :: undefV :: undefV :: undefV :: undefV :: undefV :: undefV :: undefV :: undefV :: undefV :: undefV :: undefV :: undefV :: undefV :: undefV :: undefV :: undefV :: undefV :: undefV :: undefV :: undefV :: undefV :: undefV :: undefV :: undefV :: undefV :: undefV :: undefV :: undefV :: undefV :: undefV :: undefV :: undefV :: undefV :: undefV :: undefV :: undefV :: undefV :: undefV :: undefV :: undefV :: undefV :: undefV :: undefV :: undefV :: undefV :: undefV :: undefV :: undefV :: undefV :: undefV :: undefV :: undefV :: undefV :: undefV :: undefV :: undefV :: undefV :: undefV :: undefV :: undefV :: undefV :: undefV :: undefV :: undefV :: undefV :: undefV :: undefV :: undefV :: undefV :: undefV :: undefV :: undefV :: undefV :: undefV :: undefV :: undefV :: undefV :: undefV :: undefV :: undefV :: undefV :: undefV :: undefV :: undefV :: undefV :: undefV :: undefV :: undefV :: undefV :: undefV :: undefV :: undefV :: undefV :: undefV :: undefV :: undefV :: undefV :: undefV :: undefV :: undefV :: undefV :: undefV :: undefV :: undefV :: undefV :: undefV :: undefV :: undefV :: undefV :: undefV :: undefV :: undefV :: undefV :: undefV :: undefV :: undefV :: undefV :: undefV :: undefV :: undefV :: undefV :: undefV :: undefV :: undefV :: undefV :: undefV :: undefV :: undefV :: undefV :: []) rfl ?_
        show rC _ _ r5_0 _ _ _ _ _ _
        repeat' (conv => whnf
                 first
                 | (refine Stop.mk ?_)
                 | (refine fO_is t1 ?_)
                 | (refine fO_is hokv.symm ?_)
                 | (refine fI_is hf0.symm ?_)
                 | (refine fI_is ht0.symm ?_)
                 | (with_reducible refine fI_is (a := iD) rfl ?_)
                 | (with_reducible refine fI_is (a := oD) rfl ?_)
                 | (with_reducible refine fO_is (a := xD) rfl ?_)
                 | (with_reducible refine fI_is (a := f0) rfl ?_)
                 | (with_reducible refine fI_is (a := t0) rfl ?_)
                 | (with_reducible refine fO_is (a := okv) rfl ?_)
                 | (with_reducible refine fI_is (a := (ds.length : Int)) rfl ?_)
                 | (with_reducible refine fI_is (a := a) rfl ?_)
                 | (with_reducible refine fI_is (a := n) rfl ?_)
                 | (with_reducible refine fI_is (a := d) rfl ?_)
                 | (with_reducible refine fI_is (a := w) rfl ?_)
                 | (with_reducible refine fI_is (a := tu) rfl ?_)
                 | (with_reducible refine fI_is (a := ow0) rfl ?_)
                 | (with_reducible refine fI_is (a := li0) rfl ?_)
                 | (with_reducible refine fO_is (a := wr) rfl ?_)
                 | (refine fI_gen ?_; intro z hz)
                 | (refine fO_gen ?_; intro z hz)
                 | (refine Exists.intro ds (And.intro rfl (And.intro hl4 (And.intro hok (And.intro hr ?_)))); intro xr hxr; obtain rfl : xr = true := hxr.2 hR)
                 | (refine And.intro pa (And.intro hg (Exists.intro ds (And.intro rfl (And.intro hl4 (And.intro hok (And.intro hr ?_)))))); intro iD oD xD hxD hiD hoD)
                 | (refine And.intro pa (And.intro hg ?_))
                 | (refine And.intro hg ?_)
                 | (refine dec_true (by assumption) ?_)
                 | (refine dec_false (by assumption) ?_)
                 | (refine dec_split (fun h => ?_) (fun h => ?_))
                 | (apply silE)
                 | (refine Both.mk ?_ ?_)
                 | (refine And.intro rfl ?_)
                 | (exact And.intro rfl (And.intro rfl (And.intro rfl rfl)))
                 | (refine And.intro (by first | omega | ((simp only [decide_eq_true_eq, decide_eq_false_iff_not, Bool.and_eq_true, beq_iff_eq, Bool.not_eq_true', Bool.not_eq_false'] at *); omega) | (subst_vars; simp only [Int.ofNat_eq_natCast, tq_not, fq_not, tq_and, fq_and, tq_or, fq_or, tq_beq, fq_beq, tq_bne, fq_bne, tq_dec, fq_dec, one1, V.tup.injEq, V.agg.injEq, List.cons.injEq, V.int.injEq, V.bool.injEq, true_and, and_true, decide_eq_true_eq, decide_eq_false_iff_not, Bool.and_eq_true, Bool.and_eq_false_iff, Bool.or_eq_true, Bool.or_eq_false_iff, Bool.not_eq_true', Bool.not_eq_false', beq_iff_eq, wrap_u32, wrap_i64, wrap_u8, beq_eq_false_iff_ne, ne_eq, bne_iff_ne, bne_eq_false_iff_eq, eq_self, and_self, splice, V.cells, List.take_succ_cons, List.take_zero, List.take_nil, List.drop_zero, List.drop_succ_cons, List.drop_nil, List.cons_append, List.nil_append, List.append_nil, List.length_cons, List.length_nil, Nat.zero_add, Nat.reduceAdd, if_true, if_false, Bool.false_eq_true, beq_self_eq_true, decide_eq_decide, Bool.true_eq_false, or_false, false_or, or_true, true_or, and_false, false_and, not_true_eq_false, not_false_eq_true, Bool.and_true, Bool.true_and, Bool.not_true, Bool.not_false] at *; omega)) ?_)
                 | (refine Exists.intro _ (Exists.intro _ (And.intro rfl ?_)))
                 | (refine Exists.intro _ (And.intro rfl ?_))
                 | (refine Exists.intro _ (Exists.intro _ (Exists.intro _ (Exists.intro _ (And.intro rfl ?_)))))
                 | (refine ld_step rfl (by assumption) rfl ?_)
                 | (refine lds_step rfl (by assumption) rfl ?_)
                 | (refine fL_mk ?_)
                 | (refine fH_mk ?_)
                 | (refine fN_mk ?_)
                 | (refine fLB_mk ?_)
                 | (refine And.intro (by repeat (first | assumption | refine GLB_app ?_)) ?_)
                 | (refine ld_step rfl ((rd_x0 _ _ _ _ _).trans rfl) rfl ?_)
                 | (refine ld_step rfl ((rd_x1 _ _ _ _ _ _).trans rfl) rfl ?_)
                 | (refine ld_step rfl ((rd_x2 _ _ _ _ _ _ _).trans rfl) rfl ?_)
                 | (refine lds_step rfl ((rd_x0 _ _ _ _ _).trans rfl) rfl ?_)
                 | (refine lds_step rfl ((rd_x1 _ _ _ _ _ _).trans rfl) rfl ?_)
                 | (refine lds_step rfl ((rd_x2 _ _ _ _ _ _ _).trans rfl) rfl ?_)
                 | (refine mem_step (st_eq rfl rfl rfl rfl (wr_last _ _ _ _ rfl)) ?_)
                 | (refine drec_yes (by omega) ?_)
                 | (refine drec_no (by omega) ?_)
                 | (intro _)
                 | fail)
        have hfact : okv = true → f0 = a ∧ t0 = a + n - 1 ∧ accP w wr a n d := fun h => by
          rw [h] at hokv
          have hA := of_decide_eq_true hokv.symm
          exact ⟨by rw [hf0, if_pos hA], by rw [ht0, if_pos hA], hA⟩
        have hxo : xD = true → okv = true := fun h => by rw [hokv]; exact decide_eq_true (hxD.1 h).1
        have hin : okv = true → ∀ q (hq : q < ds.length), inP (f0, t0) (dR ds[q]) = (xD && (iD == (q : Int))) := fun h q hq => by
          obtain ⟨rfl, rfl, hA⟩ := hfact h
          exact in_at hR hA hxD hiD hq
        have hcs := one_cases hxD hiD hoD
        conv => whnf
        repeat' (conv => whnf
                 first
                 | (refine Stop.mk ?_)
                 | (refine fI_mk ?_)
                 | (refine fO_mk ?_)
                 | (refine fN_mk ?_)
                 | fail)
        conv => whnf
        refine rLoop_ctr (c := rC (tab [(7, s7), (13, s13), (14, s14), (15, s15), (16, s16), (17, s17), (18, s18), (19, s19)]) k l5_0) ds.length 17 (false :: false :: false :: false :: false :: false :: false :: false :: false :: false :: true :: false :: false :: false :: false :: false :: true :: false :: true :: true :: false :: false :: false :: false :: false :: false :: false :: false :: false :: false :: false :: false :: false :: false :: false :: false :: false :: false :: false :: false :: false :: false :: false :: false :: false :: false :: false :: false :: false :: false :: true :: true :: true :: true :: true :: true :: true :: true :: true :: true :: true :: true :: true :: true :: true :: true :: true :: true :: true :: true :: true :: true :: true :: true :: true :: true :: true :: true :: true :: true :: true :: true :: true :: true :: true :: true :: true :: true :: true :: true :: true :: true :: true :: true :: true :: true :: true :: true :: true :: true :: true :: true :: true :: true :: true :: true :: true :: true :: false :: false :: false :: false :: false :: false :: false :: false :: false :: false :: false :: false :: false :: false :: false :: false :: false :: false :: false :: false :: false :: false :: false :: false :: false :: false :: false :: false :: false :: false :: false :: false :: false :: false :: false :: false :: false :: false :: false :: false :: false :: false :: false :: false :: false :: false :: false :: false :: false :: false :: false :: false :: false :: false :: false :: false :: false :: false :: false :: false :: false :: false :: false :: false :: false :: false :: false :: false :: false :: false :: false :: false :: false :: false :: false :: false :: false :: false :: false :: false :: false :: false :: false :: false :: false :: false :: false :: false :: false :: false :: false :: false :: false :: false :: false :: false :: false :: false :: false :: false :: false :: false :: false :: false :: false :: false :: false :: false :: false :: false :: false :: false :: false :: false :: false :: false :: []) (fun i tm L H e g => H = Hx ∧ e = false ∧ g = false ∧ (∃ m0 : Int, svAt tm 16 = .v (.int .i64 m0) ∧ ((xD = true ∧ iD < (i : Int)) → m0 = 1) ∧ (¬ (xD = true ∧ iD < (i : Int)) → m0 = 0)) ∧ L[0]? = some ⟨28, [.int .i64 w, .bool wr, .int .u32 a, .int .i64 n, .int .u32 d]⟩ ∧ L[1]? = some ⟨41, [.int .u32 f0, .int .u32 t0]⟩) (by omega) rfl ⟨rfl, rfl, rfl, ⟨0, rfl, fun h => absurd h.2 (by rcases hcs with ⟨h1, _, _⟩ | ⟨_, _, j, _, h1, _⟩; rw [h1] at h; cases h.1; omega), fun _ => rfl⟩, rfl, rfl⟩ ?_
        intro i0 hi0
        conv => whnf
        intro j
        conv => whnf
        intro j
        conv => whnf
        intro j
        conv => whnf
        intro j
        conv => whnf
        intro j
        conv => whnf
        intro j
        conv => whnf
        intro j
        conv => whnf
        intro j
        conv => whnf
        intro j
        conv => whnf
        intro j
        conv => whnf
        intro j
        conv => whnf
        intro j
        conv => whnf
        intro j
        conv => whnf
        intro j
        conv => whnf
        intro j
        conv => whnf
        intro j
        conv => whnf
        intro j
        conv => whnf
        intro j
        conv => whnf
        intro j
        conv => whnf
        intro j
        conv => whnf
        intro j
        conv => whnf
        intro j
        conv => whnf
        intro j
        conv => whnf
        intro j
        conv => whnf
        intro j
        conv => whnf
        intro j
        conv => whnf
        intro j
        conv => whnf
        intro j
        conv => whnf
        intro j
        conv => whnf
        intro j
        conv => whnf
        intro j
        conv => whnf
        intro j
        conv => whnf
        intro j
        conv => whnf
        intro j
        conv => whnf
        intro j
        conv => whnf
        intro j
        conv => whnf
        intro j
        conv => whnf
        intro j
        conv => whnf
        intro j
        conv => whnf
        intro j
        conv => whnf
        intro j
        conv => whnf
        intro j
        conv => whnf
        intro j
        conv => whnf
        intro j
        conv => whnf
        intro j
        conv => whnf
        intro j
        conv => whnf
        intro j
        conv => whnf
        intro j
        conv => whnf
        intro j
        conv => whnf
        intro j
        conv => whnf
        intro j
        conv => whnf
        intro j
        conv => whnf
        intro j
        conv => whnf
        intro j
        conv => whnf
        intro j
        conv => whnf
        intro j
        conv => whnf
        intro j
        conv => whnf
        intro j
        conv => whnf
        intro j
        conv => whnf
        intro j
        conv => whnf
        intro j
        conv => whnf
        intro j
        conv => whnf
        refine Halt.mk ?_
        rintro Lx H' e g ⟨rfl, rfl, rfl, ⟨m0, h16, hm1, hm0⟩, hL0, hL1⟩ K kn kx kr
        conv at h16 => lhs; whnf
        subst h16
        repeat' (conv => whnf
                 first
                 | (refine Stop.mk ?_)
                 | (refine fI_mk ?_)
                 | (refine fO_mk ?_)
                 | (refine fN_mk ?_)
                 | fail)
        conv => whnf
        refine dec_split (fun h => ?_) (fun h => ?_)
        · have hlt : i0 < ds.length := by have := of_decide_eq_true h; omega
          obtain ⟨b, o, rfl⟩ := hr.some hlt
          clear kx kr
          have ea : ∀ p, p = o + i0 * 5 → rd H' b p 5 = some (encD ds[i0]) := fun p hp => rd_el encD_len hr i0 hlt p hp
          have en : ∀ p, p = o + i0 * 5 + 2 → rd H' b p 1 = some [.int .i64 ds[i0].n] := fun p hp => hp ▸ rd_sub (rd_el encD_len hr i0 hlt _ rfl) 2 1 (by decide)
          have hoi := hok ds[i0] (List.getElem_mem hlt)
          have hdk : dOk ds[i0] := hR.1 _ (List.getElem_mem hlt)
          have hv : okv = true → inP (f0, t0) (dR ds[i0]) = (xD && (iD == (i0 : Int))) := fun h => hin h i0 hlt
          have ho : xD = true → iD = (i0 : Int) → oD = a - ds[i0].b := fun h1 h2 => by
            rcases hcs with ⟨h3, _⟩ | ⟨_, _, j, hj, h4, _, h5⟩
            · rw [h3] at h1; cases h1
            · obtain rfl : j = i0 := by omega
              exact h5
          obtain ⟨d, hdd⟩ : ∃ d, d = ds[i0] := ⟨_, rfl⟩
          rw [← hdd] at ea en hoi hdk hv ho
          obtain ⟨dk, db, dn, dow, dli⟩ := d
          simp only [okD] at hoi
          dsimp only at ho
          have hdk' : devP dk db dn dow dli := hdk
          have hfit := dev_fit hdk'
          obtain ⟨de, hde⟩ : ∃ de, de = db + dn - 1 := ⟨_, rfl⟩
          have hiD' : (if devP dk db dn dow dli then db + dn - 1 else 0) = de := by rw [if_pos hdk', hde]
          have hvd : okv = true → decide (f0 ≤ t0 ∧ db ≤ de ∧ db ≤ f0 ∧ f0 ≤ de ∧ db ≤ t0 ∧ t0 ≤ de) = (xD && (iD == (i0 : Int))) := fun h => by rw [hde]; exact hv h
          clear hv hdd hin hcs
          by_cases hxi : xD = true ∧ iD = (i0 : Int)
          · obtain ⟨rfl, rfl⟩ := hxi
            obtain rfl : okv = true := hxo rfl
            obtain ⟨rfl, rfl, hA⟩ := hfact rfl
            obtain rfl : m0 = 0 := hm0 (fun hh => by have := hh.2; omega)
            have hn4 : n = 1 ∨ n = 2 ∨ n = 4 := hA.2.2.1
            have hvt : decide (f0 ≤ f0 + n - 1 ∧ db ≤ de ∧ db ≤ f0 ∧ f0 ≤ de ∧ db ≤ f0 + n - 1 ∧ f0 + n - 1 ≤ de) = true := by rw [hvd rfl]; simp
            have hvp := of_decide_eq_true hvt
            have ho' := ho rfl rfl
            have ca : IntKind.i64.wrap f0 = f0 := wrap_i64_id (by omega) (by omega)
            have cb : IntKind.i64.wrap db = db := wrap_i64_id (by omega) (by omega)
            have cs : IntKind.i64.wrap (f0 - db) = oD := by rw [wrap_i64_id (by omega) (by omega), ho']
            have c0 : decide (oD < 0) = false := decide_eq_false (by omega)
            have cd : IntKind.i64.wrap (oD + n) = oD + n := wrap_i64_id (by omega) (by omega)
            have cg : decide (oD + n > dn) = false := decide_eq_false (by omega)
            clear hvd ho hfact
            repeat' (conv => whnf
                     first
                     | (refine Stop.mk ?_)
                     | (refine fO_is (decide_eq_true hdk') ?_)
                     | (refine fI_is hiD' ?_)
                     | (refine fI_is (if_pos hdk') ?_)
                     | (refine fO_is hvt ?_)
                     | (refine fI_is ca ?_)
                     | (refine fI_is cb ?_)
                     | (refine fI_is cs ?_)
                     | (refine fO_is c0 ?_)
                     | (refine fI_is cd ?_)
                     | (refine fO_is cg ?_)
                     | (refine fO_is (bne_self_eq_false _) ?_)
                     | (refine fI_i64 (by first | omega | (simp only [Int.ofNat_eq_natCast] at *; omega)) ?_; intro z hz)
                     | (refine fI_u32 (by first | omega | (simp only [Int.ofNat_eq_natCast] at *; omega)) ?_; intro z hz)
                     | (refine fI_u8 (by first | omega | (simp only [Int.ofNat_eq_natCast] at *; omega)) ?_; intro z hz)
                     | (refine fI_u64 (by first | omega | (simp only [Int.ofNat_eq_natCast] at *; omega)) ?_; intro z hz)
                     | (refine fI_tdiv (by first | omega | (simp only [Int.ofNat_eq_natCast] at *; omega)) ?_; intro z hz)
                     | (refine fI_tmod (by first | omega | (simp only [Int.ofNat_eq_natCast] at *; omega)) ?_; intro z hz)
                     | (refine fI_gen ?_; intro z hz)
                     | (refine fO_gen ?_; intro z hz)
                     | (refine pure_step (ixs_eq rfl rfl (by omega) (by omega)) ?_)
                     | (refine ld_step rfl (ea _ (by first | omega | rfl)) rfl ?_)
                     | (refine ld_step rfl (en _ (by first | omega | rfl)) rfl ?_)
                     | (refine lds_step rfl (en _ (by first | omega | rfl)) rfl ?_)
                     | (refine mem_step (stl0_eq rfl rfl rfl rfl (Nat.le_refl _)) ?_)
                     | (refine mem_step (ldl_eq rfl (lget0 _ _) rfl rfl) ?_)
                     | (refine mem_step (ldl_eq rfl (lgetF hL0 _) rfl rfl) ?_)
                     | (refine mem_step (ldl_eq rfl (lgetF hL1 _) rfl rfl) ?_)
                     | (refine lds_mem (ldl_eq rfl (lget0 _ _) rfl rfl) ?_)
                     | (refine lds_mem (ldl_eq rfl (lgetF hL0 _) rfl rfl) ?_)
                     | (refine lds_mem (ldl_eq rfl (lgetF hL1 _) rfl rfl) ?_)
                     | (refine dec_true (by assumption) ?_)
                     | (refine dec_false (by assumption) ?_)
                     | ((with_reducible refine dec_trueH ?tst ?_); (case tst => (first | rfl | ((try clear hC); (try clear kn); (try clear kx); (try clear kr); (try clear kn1); (try clear kx1); (try clear kr1); (try clear kn2); (try clear kx2); (try clear kr2); (try clear kn3); (try clear kx3); (try clear kr3); subst_vars; simp only [Int.ofNat_eq_natCast, tq_not, fq_not, tq_and, fq_and, tq_or, fq_or, tq_beq, fq_beq, tq_bne, fq_bne, tq_dec, fq_dec, one1, V.tup.injEq, V.agg.injEq, List.cons.injEq, V.int.injEq, V.bool.injEq, true_and, and_true, decide_eq_true_eq, decide_eq_false_iff_not, Bool.and_eq_true, Bool.and_eq_false_iff, Bool.or_eq_true, Bool.or_eq_false_iff, Bool.not_eq_true', Bool.not_eq_false', beq_iff_eq, wrap_u32, wrap_i64, wrap_u8, beq_eq_false_iff_ne, ne_eq, bne_iff_ne, bne_eq_false_iff_eq, eq_self, and_self, splice, V.cells, List.take_succ_cons, List.take_zero, List.take_nil, List.drop_zero, List.drop_succ_cons, List.drop_nil, List.cons_append, List.nil_append, List.append_nil, List.length_cons, List.length_nil, Nat.zero_add, Nat.reduceAdd, if_true, if_false, Bool.false_eq_true, beq_self_eq_true, decide_eq_decide, Bool.true_eq_false, or_false, false_or, or_true, true_or, and_false, false_and, not_true_eq_false, not_false_eq_true, Bool.and_true, Bool.true_and, Bool.not_true, Bool.not_false] at *; first | done | assumption | omega))); intro h)
                     | ((with_reducible refine dec_falseH ?tst ?_); (case tst => (first | rfl | ((try clear hC); (try clear kn); (try clear kx); (try clear kr); (try clear kn1); (try clear kx1); (try clear kr1); (try clear kn2); (try clear kx2); (try clear kr2); (try clear kn3); (try clear kx3); (try clear kr3); subst_vars; simp only [Int.ofNat_eq_natCast, tq_not, fq_not, tq_and, fq_and, tq_or, fq_or, tq_beq, fq_beq, tq_bne, fq_bne, tq_dec, fq_dec, one1, V.tup.injEq, V.agg.injEq, List.cons.injEq, V.int.injEq, V.bool.injEq, true_and, and_true, decide_eq_true_eq, decide_eq_false_iff_not, Bool.and_eq_true, Bool.and_eq_false_iff, Bool.or_eq_true, Bool.or_eq_false_iff, Bool.not_eq_true', Bool.not_eq_false', beq_iff_eq, wrap_u32, wrap_i64, wrap_u8, beq_eq_false_iff_ne, ne_eq, bne_iff_ne, bne_eq_false_iff_eq, eq_self, and_self, splice, V.cells, List.take_succ_cons, List.take_zero, List.take_nil, List.drop_zero, List.drop_succ_cons, List.drop_nil, List.cons_append, List.nil_append, List.append_nil, List.length_cons, List.length_nil, Nat.zero_add, Nat.reduceAdd, if_true, if_false, Bool.false_eq_true, beq_self_eq_true, decide_eq_decide, Bool.true_eq_false, or_false, false_or, or_true, true_or, and_false, false_and, not_true_eq_false, not_false_eq_true, Bool.and_true, Bool.true_and, Bool.not_true, Bool.not_false] at *; first | done | assumption | omega))); intro h)
                     | (refine dec_split (fun h => ?_) (fun h => ?_))
                     | (apply silE)
                     | (refine Both.mk ?_ ?_)
                     | (refine And.intro rfl ?_)
                     | (exact And.intro rfl (And.intro rfl (And.intro rfl rfl)))
                     | (refine And.intro (by first | omega | ((simp only [decide_eq_true_eq, decide_eq_false_iff_not, Bool.and_eq_true, beq_iff_eq, Bool.not_eq_true', Bool.not_eq_false'] at *); omega) | (subst_vars; simp only [Int.ofNat_eq_natCast, tq_not, fq_not, tq_and, fq_and, tq_or, fq_or, tq_beq, fq_beq, tq_bne, fq_bne, tq_dec, fq_dec, one1, V.tup.injEq, V.agg.injEq, List.cons.injEq, V.int.injEq, V.bool.injEq, true_and, and_true, decide_eq_true_eq, decide_eq_false_iff_not, Bool.and_eq_true, Bool.and_eq_false_iff, Bool.or_eq_true, Bool.or_eq_false_iff, Bool.not_eq_true', Bool.not_eq_false', beq_iff_eq, wrap_u32, wrap_i64, wrap_u8, beq_eq_false_iff_ne, ne_eq, bne_iff_ne, bne_eq_false_iff_eq, eq_self, and_self, splice, V.cells, List.take_succ_cons, List.take_zero, List.take_nil, List.drop_zero, List.drop_succ_cons, List.drop_nil, List.cons_append, List.nil_append, List.append_nil, List.length_cons, List.length_nil, Nat.zero_add, Nat.reduceAdd, if_true, if_false, Bool.false_eq_true, beq_self_eq_true, decide_eq_decide, Bool.true_eq_false, or_false, false_or, or_true, true_or, and_false, false_and, not_true_eq_false, not_false_eq_true, Bool.and_true, Bool.true_and, Bool.not_true, Bool.not_false] at *; omega)) ?_)
                     | (refine Exists.intro _ (Exists.intro _ (And.intro rfl ?_)))
                     | (refine Exists.intro _ (And.intro rfl ?_))
                     | (refine Exists.intro _ (Exists.intro _ (Exists.intro _ (Exists.intro _ (And.intro rfl ?_)))))
                     | (refine ld_step rfl (by assumption) rfl ?_)
                     | (refine lds_step rfl (by assumption) rfl ?_)
                     | (refine fL_mk ?_)
                     | (refine fH_mk ?_)
                     | (refine fN_mk ?_)
                     | (refine fLB_mk ?_)
                     | (refine And.intro (by repeat (first | assumption | refine GLB_app ?_)) ?_)
                     | (refine ld_step rfl ((rd_x0 _ _ _ _ _).trans rfl) rfl ?_)
                     | (refine ld_step rfl ((rd_x1 _ _ _ _ _ _).trans rfl) rfl ?_)
                     | (refine ld_step rfl ((rd_x2 _ _ _ _ _ _ _).trans rfl) rfl ?_)
                     | (refine lds_step rfl ((rd_x0 _ _ _ _ _).trans rfl) rfl ?_)
                     | (refine lds_step rfl ((rd_x1 _ _ _ _ _ _).trans rfl) rfl ?_)
                     | (refine lds_step rfl ((rd_x2 _ _ _ _ _ _ _).trans rfl) rfl ?_)
                     | (refine mem_step (st_eq rfl rfl rfl rfl (wr_last _ _ _ _ rfl)) ?_)
                     | (refine drec_yes (by omega) ?_)
                     | (refine drec_no (by omega) ?_)
                     | (intro _)
                     | fail)
            all_goals (conv => whnf)
            all_goals first
              | (subst hz; refine kn hlt _ _ _ _ _ rfl ⟨rfl, rfl, rfl, ⟨_, rfl, fun _ => rfl, fun h => absurd ⟨rfl, by omega⟩ h⟩, lgetF hL0 _, lgetF hL1 _⟩)
              | trace_state
          · have hvf : okv = true → decide (f0 ≤ t0 ∧ db ≤ de ∧ db ≤ f0 ∧ f0 ≤ de ∧ db ≤ t0 ∧ t0 ≤ de) = false := fun h => by
              rw [hvd h]
              cases xD with
              | false => rfl
              | true => simpa using fun h => hxi ⟨rfl, h⟩
            clear hvd
            have hm1' : xD = true ∧ iD < ((i0 + 1 : Nat) : Int) → m0 = 1 := fun h => hm1 ⟨h.1, by have := h.2; have : iD ≠ (i0 : Int) := fun he => hxi ⟨h.1, he⟩; omega⟩
            have hm0' : ¬ (xD = true ∧ iD < ((i0 + 1 : Nat) : Int)) → m0 = 0 := fun h => hm0 (fun hh => h ⟨hh.1, by have := hh.2; omega⟩)
            clear hm1 hm0 hxi ho
            cases okv
            all_goals
              repeat' (conv => whnf
                       first
                       | (refine Stop.mk ?_)
                       | (refine fO_is (decide_eq_true hdk') ?_)
                       | (refine fI_is hiD' ?_)
                       | (refine fI_is (if_pos hdk') ?_)
                       | (refine fO_is (hvf rfl) ?_)
                       | (with_reducible refine fI_is (a := m0) rfl ?_)
                       | (refine fI_i64 (by first | omega | (simp only [Int.ofNat_eq_natCast] at *; omega)) ?_; intro z hz)
                       | (refine fI_u32 (by first | omega | (simp only [Int.ofNat_eq_natCast] at *; omega)) ?_; intro z hz)
                       | (refine fI_u8 (by first | omega | (simp only [Int.ofNat_eq_natCast] at *; omega)) ?_; intro z hz)
                       | (refine fI_u64 (by first | omega | (simp only [Int.ofNat_eq_natCast] at *; omega)) ?_; intro z hz)
                       | (refine fI_tdiv (by first | omega | (simp only [Int.ofNat_eq_natCast] at *; omega)) ?_; intro z hz)
                       | (refine fI_tmod (by first | omega | (simp only [Int.ofNat_eq_natCast] at *; omega)) ?_; intro z hz)
                       | (refine fI_gen ?_; intro z hz)
                       | (refine fO_gen ?_; intro z hz)
                       | (refine pure_step (ixs_eq rfl rfl (by omega) (by omega)) ?_)
                       | (refine ld_step rfl (ea _ (by first | omega | rfl)) rfl ?_)
                       | (refine mem_step (stl0_eq rfl rfl rfl rfl (Nat.le_refl _)) ?_)
                       | (refine mem_step (ldl_eq rfl (lget0 _ _) rfl rfl) ?_)
                       | (refine mem_step (ldl_eq rfl (lgetF hL0 _) rfl rfl) ?_)
                       | (refine mem_step (ldl_eq rfl (lgetF hL1 _) rfl rfl) ?_)
                       | (refine dec_true (by assumption) ?_)
                       | (refine dec_false (by assumption) ?_)
                       | ((with_reducible refine dec_trueH ?tst ?_); (case tst => (first | rfl | ((try clear hC); (try clear kn); (try clear kx); (try clear kr); (try clear kn1); (try clear kx1); (try clear kr1); (try clear kn2); (try clear kx2); (try clear kr2); (try clear kn3); (try clear kx3); (try clear kr3); subst_vars; simp only [Int.ofNat_eq_natCast, tq_not, fq_not, tq_and, fq_and, tq_or, fq_or, tq_beq, fq_beq, tq_bne, fq_bne, tq_dec, fq_dec, one1, V.tup.injEq, V.agg.injEq, List.cons.injEq, V.int.injEq, V.bool.injEq, true_and, and_true, decide_eq_true_eq, decide_eq_false_iff_not, Bool.and_eq_true, Bool.and_eq_false_iff, Bool.or_eq_true, Bool.or_eq_false_iff, Bool.not_eq_true', Bool.not_eq_false', beq_iff_eq, wrap_u32, wrap_i64, wrap_u8, beq_eq_false_iff_ne, ne_eq, bne_iff_ne, bne_eq_false_iff_eq, eq_self, and_self, splice, V.cells, List.take_succ_cons, List.take_zero, List.take_nil, List.drop_zero, List.drop_succ_cons, List.drop_nil, List.cons_append, List.nil_append, List.append_nil, List.length_cons, List.length_nil, Nat.zero_add, Nat.reduceAdd, if_true, if_false, Bool.false_eq_true, beq_self_eq_true, decide_eq_decide, Bool.true_eq_false, or_false, false_or, or_true, true_or, and_false, false_and, not_true_eq_false, not_false_eq_true, Bool.and_true, Bool.true_and, Bool.not_true, Bool.not_false] at *; first | done | assumption | omega))); intro h)
                       | ((with_reducible refine dec_falseH ?tst ?_); (case tst => (first | rfl | ((try clear hC); (try clear kn); (try clear kx); (try clear kr); (try clear kn1); (try clear kx1); (try clear kr1); (try clear kn2); (try clear kx2); (try clear kr2); (try clear kn3); (try clear kx3); (try clear kr3); subst_vars; simp only [Int.ofNat_eq_natCast, tq_not, fq_not, tq_and, fq_and, tq_or, fq_or, tq_beq, fq_beq, tq_bne, fq_bne, tq_dec, fq_dec, one1, V.tup.injEq, V.agg.injEq, List.cons.injEq, V.int.injEq, V.bool.injEq, true_and, and_true, decide_eq_true_eq, decide_eq_false_iff_not, Bool.and_eq_true, Bool.and_eq_false_iff, Bool.or_eq_true, Bool.or_eq_false_iff, Bool.not_eq_true', Bool.not_eq_false', beq_iff_eq, wrap_u32, wrap_i64, wrap_u8, beq_eq_false_iff_ne, ne_eq, bne_iff_ne, bne_eq_false_iff_eq, eq_self, and_self, splice, V.cells, List.take_succ_cons, List.take_zero, List.take_nil, List.drop_zero, List.drop_succ_cons, List.drop_nil, List.cons_append, List.nil_append, List.append_nil, List.length_cons, List.length_nil, Nat.zero_add, Nat.reduceAdd, if_true, if_false, Bool.false_eq_true, beq_self_eq_true, decide_eq_decide, Bool.true_eq_false, or_false, false_or, or_true, true_or, and_false, false_and, not_true_eq_false, not_false_eq_true, Bool.and_true, Bool.true_and, Bool.not_true, Bool.not_false] at *; first | done | assumption | omega))); intro h)
                       | (refine dec_split (fun h => ?_) (fun h => ?_))
                       | (apply silE)
                       | (refine Both.mk ?_ ?_)
                       | (refine And.intro rfl ?_)
                       | (exact And.intro rfl (And.intro rfl (And.intro rfl rfl)))
                       | (refine And.intro (by first | omega | ((simp only [decide_eq_true_eq, decide_eq_false_iff_not, Bool.and_eq_true, beq_iff_eq, Bool.not_eq_true', Bool.not_eq_false'] at *); omega) | (subst_vars; simp only [Int.ofNat_eq_natCast, tq_not, fq_not, tq_and, fq_and, tq_or, fq_or, tq_beq, fq_beq, tq_bne, fq_bne, tq_dec, fq_dec, one1, V.tup.injEq, V.agg.injEq, List.cons.injEq, V.int.injEq, V.bool.injEq, true_and, and_true, decide_eq_true_eq, decide_eq_false_iff_not, Bool.and_eq_true, Bool.and_eq_false_iff, Bool.or_eq_true, Bool.or_eq_false_iff, Bool.not_eq_true', Bool.not_eq_false', beq_iff_eq, wrap_u32, wrap_i64, wrap_u8, beq_eq_false_iff_ne, ne_eq, bne_iff_ne, bne_eq_false_iff_eq, eq_self, and_self, splice, V.cells, List.take_succ_cons, List.take_zero, List.take_nil, List.drop_zero, List.drop_succ_cons, List.drop_nil, List.cons_append, List.nil_append, List.append_nil, List.length_cons, List.length_nil, Nat.zero_add, Nat.reduceAdd, if_true, if_false, Bool.false_eq_true, beq_self_eq_true, decide_eq_decide, Bool.true_eq_false, or_false, false_or, or_true, true_or, and_false, false_and, not_true_eq_false, not_false_eq_true, Bool.and_true, Bool.true_and, Bool.not_true, Bool.not_false] at *; omega)) ?_)
                       | (refine Exists.intro _ (Exists.intro _ (And.intro rfl ?_)))
                       | (refine Exists.intro _ (And.intro rfl ?_))
                       | (refine Exists.intro _ (Exists.intro _ (Exists.intro _ (Exists.intro _ (And.intro rfl ?_)))))
                       | (refine ld_step rfl (by assumption) rfl ?_)
                       | (refine lds_step rfl (by assumption) rfl ?_)
                       | (refine fL_mk ?_)
                       | (refine fH_mk ?_)
                       | (refine fN_mk ?_)
                       | (refine fLB_mk ?_)
                       | (refine And.intro (by repeat (first | assumption | refine GLB_app ?_)) ?_)
                       | (refine ld_step rfl ((rd_x0 _ _ _ _ _).trans rfl) rfl ?_)
                       | (refine ld_step rfl ((rd_x1 _ _ _ _ _ _).trans rfl) rfl ?_)
                       | (refine ld_step rfl ((rd_x2 _ _ _ _ _ _ _).trans rfl) rfl ?_)
                       | (refine lds_step rfl ((rd_x0 _ _ _ _ _).trans rfl) rfl ?_)
                       | (refine lds_step rfl ((rd_x1 _ _ _ _ _ _).trans rfl) rfl ?_)
                       | (refine lds_step rfl ((rd_x2 _ _ _ _ _ _ _).trans rfl) rfl ?_)
                       | (refine mem_step (st_eq rfl rfl rfl rfl (wr_last _ _ _ _ rfl)) ?_)
                       | (refine drec_yes (by omega) ?_)
                       | (refine drec_no (by omega) ?_)
                       | (intro _)
                       | fail)
              all_goals (conv => whnf)
              all_goals first
                | (subst hz; refine kn hlt _ _ _ _ _ rfl ⟨rfl, rfl, rfl, ⟨_, rfl, hm1', hm0'⟩, lgetF hL0 _, lgetF hL1 _⟩)
                | trace_state
        · clear kn kr
          have hie : i0 = ds.length := by have := of_decide_eq_false h; omega
          have hcase : (xD = false ∧ iD = 0 ∧ oD = 0 ∧ m0 = 0) ∨ (xD = true ∧ m0 = 1 ∧ okv = true ∧ ∃ j, ∃ hj : j < ds.length, iD = (j : Int) ∧ inP (f0, t0) (dR ds[j]) = true ∧ oD = a - ds[j].b ∧ ∃ pb po, p = some (pb, po)) := by
            rcases hcs with ⟨h1, h2, h3⟩ | ⟨h1, hA, j, hj, h2, h3, h4⟩
            · exact Or.inl ⟨h1, h2, h3, hm0 (fun hh => by rw [h1] at hh; cases hh.1)⟩
            · obtain ⟨q1, q2, _⟩ := hfact (hxo h1)
              exact Or.inr ⟨h1, hm1 ⟨h1, by omega⟩, hxo h1, j, hj, h2, by rw [q1, q2]; exact h3, h4, hr.some hj⟩
          have hat : xD = true → ∀ (ia : Int) (xa : Bool), (xa = true ↔ rightL ds ∧ 0 ≤ fstI (hasR a) (ds.map dR)) → (ia = (if xa then fstI (hasR a) (ds.map dR) else 0)) → xa = true ∧ ia = iD := fun hx ia xa h1 h2 => by
            rcases hcase with ⟨h3, _⟩ | ⟨_, _, h3, j, hj, h4, h5, _⟩
            · rw [h3] at hx; cases hx
            · obtain ⟨q1, q2, _⟩ := hfact h3
              rw [q1] at h5
              have h6 := in_has h5
              rcases dec_cases h1 h2 with ⟨_, _, h7⟩ | ⟨h7, j2, hj2, h8, h9, _⟩
              · exact absurd ⟨hR, fstI_mem.2 ⟨_, List.mem_map.2 ⟨_, List.getElem_mem hj, rfl⟩, h6⟩⟩ h7
              · obtain rfl := has_one hR hj2 hj h9 h6
                exact ⟨h7, by rw [h8, h4]⟩
          have w1 : IntKind.i64.wrap ((ds.length : Int) + 1) = (ds.length : Int) + 1 := wrap_i64_id (by omega) (by omega)
          have hpk : (-9223372036854775808 ≤ tu ∧ tu < 9223372036854775808) ∧ 1 ≤ (ds.length : Int) + 1 ∧ (ds.length : Int) + 1 ≤ 4294967296 := by omega
          obtain ⟨kk, hkk, hkl⟩ : ∃ kk : Nat, tu % ((ds.length : Int) + 1) = (kk : Int) ∧ kk ≤ ds.length := by
            have e1 := Int.emod_nonneg tu (show (ds.length : Int) + 1 ≠ 0 by omega)
            have e2 := Int.emod_lt_of_pos tu (show 0 < (ds.length : Int) + 1 by omega)
            exact ⟨(tu % ((ds.length : Int) + 1)).toNat, by omega, by omega⟩
          have lT : (ds.take kk).length = kk := by rw [List.length_take]; omega
          have lD : (ds.drop kk).length = ds.length - kk := List.length_drop
          obtain ⟨ow, how, how1, how2⟩ : ∃ ow, IntKind.i64.wrap (ow0 % 9 - 1) = ow ∧ -1 ≤ ow ∧ ow < 8 := ⟨ow0 % 9 - 1, wrap_i64_id (by omega) (by omega), by omega, by omega⟩
          obtain ⟨li, hli, hli1, hli2⟩ : ∃ li, IntKind.i64.wrap (li0 % 9 - 1) = li ∧ -1 ≤ li ∧ li < 8 := ⟨li0 % 9 - 1, wrap_i64_id (by omega) (by omega), by omega, by omega⟩
          have p9 : (1 : Int) ≤ 9 ∧ (9 : Int) ≤ 4294967296 := by decide
          have hR2 : rightL (rotD ow li kk ds) := rotD_right ⟨how1, how2⟩ ⟨hli1, hli2⟩ hR
          have hok2 := rotD_ok (ow := ow) (li := li) (k := kk) ⟨how1, how2⟩ ⟨hli1, hli2⟩ hok
          have hlr : (rotD ow li kk ds).length = ds.length := rotD_len ow li kk ds
          have hpm := rotD_perm ow li kk ds
          clear hm1 hm0 hcs hin hxo hf0 ht0 hokv hfact h
          rcases hcase with ⟨rfl, rfl, rfl, rfl⟩ | ⟨rfl, rfl, rfl, jd, hjd, rfl, _, hoj, pb, po, rfl⟩
          all_goals
            repeat' (conv => whnf
                     first
                     | (refine Stop.mk ?_)
                     | (with_reducible refine fI_is (a := oD) rfl ?_)
                     | (refine fI_is w1 ?_)
                     | (refine fI_is hkk ?_)
                     | (with_reducible refine fI_is (a := (kk : Int)) rfl ?_)
                     | (with_reducible refine fI_is (a := (ds.length : Int)) rfl ?_)
                     | (refine fO_is (bne_self_eq_false _) ?_)
                     | (refine fI_gen ?_; intro z hz)
                     | (refine fO_gen ?_; intro z hz)
                     | (refine And.intro hpk ?_)
                     | (refine kx _ _ _ _ _ _ ?_; clear kx)
                     | (refine mem_step (ldl_eq rfl hL0 rfl rfl) ?_)
                     | (refine Exists.intro ds (And.intro rfl (And.intro hl4 (And.intro hok (And.intro hr ?_)))); intro ia xa hxa hia; (try obtain ⟨rfl, rfl⟩ := hat rfl ia xa hxa hia))
                     | (refine slcL_Z hr hc hkl rfl rfl rfl ?_; intro v1 hn1)
                     | (refine slcH_Z hr hc hkl rfl rfl rfl ?_; intro v2 hn2)
                     | (refine app_ownZ (l := ds.drop kk) rfl rfl rfl (own_emptyD (cap := 0) rfl) (by rw [lD]; exact hn1 _) rfl (by rw [lD]; simp only [List.length_nil]; omega) ?_; intro b1 n1 c1 X1 g1 hown1 hg1)
                     | (refine app_ownZ (l := ds.take kk) rfl rfl rfl hown1 (by rw [lT]; exact hn2 _) rfl (by rw [lT, List.nil_append, flat_len encD_len, lD]; omega) ?_; intro b2 n2 c2 X2 g2 hown2 hg2)
                     | (refine dec_true (by assumption) ?_)
                     | (refine dec_false (by assumption) ?_)
                     | ((with_reducible refine dec_trueH ?tst ?_); (case tst => (first | rfl | ((try clear hC); (try clear kn); (try clear kx); (try clear kr); (try clear kn1); (try clear kx1); (try clear kr1); (try clear kn2); (try clear kx2); (try clear kr2); (try clear kn3); (try clear kx3); (try clear kr3); subst_vars; simp only [Int.ofNat_eq_natCast, tq_not, fq_not, tq_and, fq_and, tq_or, fq_or, tq_beq, fq_beq, tq_bne, fq_bne, tq_dec, fq_dec, one1, V.tup.injEq, V.agg.injEq, List.cons.injEq, V.int.injEq, V.bool.injEq, true_and, and_true, decide_eq_true_eq, decide_eq_false_iff_not, Bool.and_eq_true, Bool.and_eq_false_iff, Bool.or_eq_true, Bool.or_eq_false_iff, Bool.not_eq_true', Bool.not_eq_false', beq_iff_eq, wrap_u32, wrap_i64, wrap_u8, beq_eq_false_iff_ne, ne_eq, bne_iff_ne, bne_eq_false_iff_eq, eq_self, and_self, splice, V.cells, List.take_succ_cons, List.take_zero, List.take_nil, List.drop_zero, List.drop_succ_cons, List.drop_nil, List.cons_append, List.nil_append, List.append_nil, List.length_cons, List.length_nil, Nat.zero_add, Nat.reduceAdd, if_true, if_false, Bool.false_eq_true, beq_self_eq_true, decide_eq_decide, Bool.true_eq_false, or_false, false_or, or_true, true_or, and_false, false_and, not_true_eq_false, not_false_eq_true, Bool.and_true, Bool.true_and, Bool.not_true, Bool.not_false] at *; first | done | assumption | omega))); intro h)
                     | ((with_reducible refine dec_falseH ?tst ?_); (case tst => (first | rfl | ((try clear hC); (try clear kn); (try clear kx); (try clear kr); (try clear kn1); (try clear kx1); (try clear kr1); (try clear kn2); (try clear kx2); (try clear kr2); (try clear kn3); (try clear kx3); (try clear kr3); subst_vars; simp only [Int.ofNat_eq_natCast, tq_not, fq_not, tq_and, fq_and, tq_or, fq_or, tq_beq, fq_beq, tq_bne, fq_bne, tq_dec, fq_dec, one1, V.tup.injEq, V.agg.injEq, List.cons.injEq, V.int.injEq, V.bool.injEq, true_and, and_true, decide_eq_true_eq, decide_eq_false_iff_not, Bool.and_eq_true, Bool.and_eq_false_iff, Bool.or_eq_true, Bool.or_eq_false_iff, Bool.not_eq_true', Bool.not_eq_false', beq_iff_eq, wrap_u32, wrap_i64, wrap_u8, beq_eq_false_iff_ne, ne_eq, bne_iff_ne, bne_eq_false_iff_eq, eq_self, and_self, splice, V.cells, List.take_succ_cons, List.take_zero, List.take_nil, List.drop_zero, List.drop_succ_cons, List.drop_nil, List.cons_append, List.nil_append, List.append_nil, List.length_cons, List.length_nil, Nat.zero_add, Nat.reduceAdd, if_true, if_false, Bool.false_eq_true, beq_self_eq_true, decide_eq_decide, Bool.true_eq_false, or_false, false_or, or_true, true_or, and_false, false_and, not_true_eq_false, not_false_eq_true, Bool.and_true, Bool.true_and, Bool.not_true, Bool.not_false] at *; first | done | assumption | omega))); intro h)
                     | (refine dec_split (fun h => ?_) (fun h => ?_))
                     | (apply silE)
                     | (refine Both.mk ?_ ?_)
                     | (refine And.intro rfl ?_)
                     | (exact And.intro rfl (And.intro rfl (And.intro rfl rfl)))
                     | (refine And.intro (by first | omega | ((simp only [decide_eq_true_eq, decide_eq_false_iff_not, Bool.and_eq_true, beq_iff_eq, Bool.not_eq_true', Bool.not_eq_false'] at *); omega) | (subst_vars; simp only [Int.ofNat_eq_natCast, tq_not, fq_not, tq_and, fq_and, tq_or, fq_or, tq_beq, fq_beq, tq_bne, fq_bne, tq_dec, fq_dec, one1, V.tup.injEq, V.agg.injEq, List.cons.injEq, V.int.injEq, V.bool.injEq, true_and, and_true, decide_eq_true_eq, decide_eq_false_iff_not, Bool.and_eq_true, Bool.and_eq_false_iff, Bool.or_eq_true, Bool.or_eq_false_iff, Bool.not_eq_true', Bool.not_eq_false', beq_iff_eq, wrap_u32, wrap_i64, wrap_u8, beq_eq_false_iff_ne, ne_eq, bne_iff_ne, bne_eq_false_iff_eq, eq_self, and_self, splice, V.cells, List.take_succ_cons, List.take_zero, List.take_nil, List.drop_zero, List.drop_succ_cons, List.drop_nil, List.cons_append, List.nil_append, List.append_nil, List.length_cons, List.length_nil, Nat.zero_add, Nat.reduceAdd, if_true, if_false, Bool.false_eq_true, beq_self_eq_true, decide_eq_decide, Bool.true_eq_false, or_false, false_or, or_true, true_or, and_false, false_and, not_true_eq_false, not_false_eq_true, Bool.and_true, Bool.true_and, Bool.not_true, Bool.not_false] at *; omega)) ?_)
                     | (refine Exists.intro _ (Exists.intro _ (And.intro rfl ?_)))
                     | (refine Exists.intro _ (And.intro rfl ?_))
                     | (refine Exists.intro _ (Exists.intro _ (Exists.intro _ (Exists.intro _ (And.intro rfl ?_)))))
                     | (refine ld_step rfl (by assumption) rfl ?_)
                     | (refine lds_step rfl (by assumption) rfl ?_)
                     | (refine fL_mk ?_)
                     | (refine fH_mk ?_)
                     | (refine fN_mk ?_)
                     | (refine fLB_mk ?_)
                     | (refine And.intro (by repeat (first | assumption | refine GLB_app ?_)) ?_)
                     | (refine ld_step rfl ((rd_x0 _ _ _ _ _).trans rfl) rfl ?_)
                     | (refine ld_step rfl ((rd_x1 _ _ _ _ _ _).trans rfl) rfl ?_)
                     | (refine ld_step rfl ((rd_x2 _ _ _ _ _ _ _).trans rfl) rfl ?_)
                     | (refine lds_step rfl ((rd_x0 _ _ _ _ _).trans rfl) rfl ?_)
                     | (refine lds_step rfl ((rd_x1 _ _ _ _ _ _).trans rfl) rfl ?_)
                     | (refine lds_step rfl ((rd_x2 _ _ _ _ _ _ _).trans rfl) rfl ?_)
                     | (refine mem_step (st_eq rfl rfl rfl rfl (wr_last _ _ _ _ rfl)) ?_)
                     | (refine drec_yes (by omega) ?_)
                     | (refine drec_no (by omega) ?_)
                     | (intro _)
                     | fail)
            obtain ⟨os, hos⟩ : ∃ os, os = ds.drop kk ++ ds.take kk := ⟨_, rfl⟩
            have hol : os.length = ds.length := by rw [hos, List.length_append, lD, lT]; omega
            have hown3 : Own H'.length (H' ++ X2) 26 5 (.sl (some (b2, 0)) n2 c2) (os.flatMap encD) := by
              rw [hos, List.flatMap_append]; simpa using hown2
            have hrot : os.map (setD ow li) = rotD ow li kk ds := by rw [hos]; rfl
            clear hown1 hown2 hn1 hn2 hos
            obtain ⟨rfl, hle2, hcap2, ws, hblk⟩ := own_openD hown3
            rw [hol]
            clear hown3
            conv => whnf
            repeat' (conv => whnf
                     first
                     | (refine Stop.mk ?_)
                     | (refine fI_mk ?_)
                     | (refine fO_mk ?_)
                     | (refine fN_mk ?_)
                     | fail)
            conv => whnf
            refine rLoop_ctr (c := rC (tab [(7, s7), (13, s13), (14, s14), (15, s15), (16, s16), (17, s17), (18, s18), (19, s19)]) k l5_1) ds.length 24 (false :: false :: false :: false :: false :: false :: false :: false :: false :: false :: false :: false :: false :: false :: false :: false :: false :: false :: false :: false :: false :: false :: false :: false :: false :: false :: false :: false :: false :: false :: false :: false :: false :: false :: false :: false :: false :: false :: false :: false :: false :: false :: false :: false :: false :: false :: false :: false :: false :: false :: false :: false :: false :: false :: false :: false :: false :: false :: false :: false :: false :: false :: false :: false :: false :: false :: false :: false :: false :: false :: false :: false :: false :: false :: false :: false :: false :: false :: false :: false :: false :: false :: false :: false :: false :: false :: false :: false :: false :: false :: false :: false :: false :: false :: false :: false :: false :: false :: false :: false :: false :: false :: false :: false :: false :: false :: false :: false :: false :: false :: false :: false :: false :: false :: false :: false :: false :: false :: false :: false :: false :: false :: false :: false :: false :: false :: false :: false :: false :: false :: false :: false :: false :: false :: false :: false :: false :: false :: false :: false :: false :: false :: false :: false :: false :: false :: false :: false :: false :: false :: false :: false :: false :: false :: false :: false :: false :: true :: true :: true :: true :: true :: true :: true :: true :: true :: true :: true :: true :: true :: true :: true :: true :: true :: true :: true :: true :: false :: false :: false :: false :: false :: false :: false :: false :: false :: false :: false :: false :: false :: false :: false :: false :: false :: false :: false :: false :: false :: false :: false :: false :: false :: false :: false :: false :: false :: false :: false :: false :: false :: false :: false :: false :: false :: false :: false :: false :: false :: false :: false :: false :: false :: false :: false :: []) (fun i tm L H e g => (∃ X, H = H' ++ X ∧ H[b2]? = some (.rw 26 ((midD ow li i os).flatMap encD ++ ws))) ∧ e = false ∧ L[0]? = some ⟨28, [.int .i64 w, .bool wr, .int .u32 a, .int .i64 n, .int .u32 d]⟩) (by omega) rfl ⟨⟨X2, rfl, by rw [mid_zero]; exact hblk⟩, rfl, hL0⟩ ?_
            intro i1 hi1
            conv => whnf
            intro j
            conv => whnf
            intro j
            conv => whnf
            intro j
            conv => whnf
            intro j
            conv => whnf
            intro j
            conv => whnf
            intro j
            conv => whnf
            intro j
            conv => whnf
            intro j
            conv => whnf
            intro j
            conv => whnf
            intro j
            conv => whnf
            intro j
            conv => whnf
            intro j
            conv => whnf
            intro j
            conv => whnf
            intro j
            conv => whnf
            intro j
            conv => whnf
            intro j
            conv => whnf
            intro j
            conv => whnf
            intro j
            conv => whnf
            intro j
            conv => whnf
            intro j
            conv => whnf
            refine Halt.mk ?_
            clear hblk hL0 hL1
            rintro L2 H2 e g ⟨⟨X, rfl, hblk⟩, rfl, hL0⟩ K kn kx kr
            repeat' (conv => whnf
                     first
                     | (refine Stop.mk ?_)
                     | (refine fI_mk ?_)
                     | (refine fO_mk ?_)
                     | (refine fN_mk ?_)
                     | fail)
            conv => whnf
            refine dec_split (fun h => ?_) (fun h => ?_)
            · have hlt : i1 < ds.length := by have := of_decide_eq_true h; omega
              clear kx kr
              have hcl : ((midD ow li i1 os).flatMap encD ++ ws).length = ds.length * 5 + ws.length := by rw [List.length_append, flat_len encD_len, midD_len, hol]
              obtain ⟨Xa, hwa, hba⟩ := wr_own (o := 0 + ((i1 : Nat) : Int).toNat * 5 + 3) hblk hle2 (.int .i64 ow) (by rw [hcl]; omega)
              have hcl2 : (splice ((midD ow li i1 os).flatMap encD ++ ws) (0 + ((i1 : Nat) : Int).toNat * 5 + 3) [V.int .i64 ow]).length = ds.length * 5 + ws.length := by rw [splice_len (by rw [hcl]; simp only [List.length_cons, List.length_nil]; omega), hcl]
              obtain ⟨Xb, hwb, hbb⟩ := wr_own (o := 0 + ((i1 : Nat) : Int).toNat * 5 + 4) hba hle2 (.int .i64 li) (by rw [hcl2]; omega)
              have hpos : (0 : Nat) + ((i1 : Nat) : Int).toNat * 5 = i1 * 5 := by omega
              rw [hpos, mid_succ (by omega)] at hbb
              repeat' (conv => whnf
                       first
                       | (refine Stop.mk ?_)
                       | (refine fI_is how ?_)
                       | (refine fI_is hli ?_)
                       | (with_reducible refine fI_is (a := ow) rfl ?_)
                       | (with_reducible refine fI_is (a := li) rfl ?_)
                       | (with_reducible refine fI_is (a := ow0 % 9) rfl ?_)
                       | (with_reducible refine fI_is (a := li0 % 9) rfl ?_)
                       | (refine fI_i64 (by first | omega | (simp only [Int.ofNat_eq_natCast] at *; omega)) ?_; intro z hz)
                       | (refine fI_u32 (by first | omega | (simp only [Int.ofNat_eq_natCast] at *; omega)) ?_; intro z hz)
                       | (refine fI_u8 (by first | omega | (simp only [Int.ofNat_eq_natCast] at *; omega)) ?_; intro z hz)
                       | (refine fI_u64 (by first | omega | (simp only [Int.ofNat_eq_natCast] at *; omega)) ?_; intro z hz)
                       | (refine fI_tdiv (by first | omega | (simp only [Int.ofNat_eq_natCast] at *; omega)) ?_; intro z hz)
                       | (refine fI_tmod (by first | omega | (simp only [Int.ofNat_eq_natCast] at *; omega)) ?_; intro z hz)
                       | (refine fI_gen ?_; intro z hz)
                       | (refine fO_gen ?_; intro z hz)
                       | (refine And.intro ⟨pow, p9⟩ ?_)
                       | (refine And.intro ⟨pli, p9⟩ ?_)
                       | (refine pure_step (ixs_eq rfl rfl (by omega) (by omega)) ?_)
                       | (refine mem_step (st_eq rfl rfl rfl rfl hwa) ?_)
                       | (refine mem_step (st_eq rfl rfl rfl rfl hwb) ?_)
                       | (refine dec_true (by assumption) ?_)
                       | (refine dec_false (by assumption) ?_)
                       | ((with_reducible refine dec_trueH ?tst ?_); (case tst => (first | rfl | ((try clear hC); (try clear kn); (try clear kx); (try clear kr); (try clear kn1); (try clear kx1); (try clear kr1); (try clear kn2); (try clear kx2); (try clear kr2); (try clear kn3); (try clear kx3); (try clear kr3); subst_vars; simp only [Int.ofNat_eq_natCast, tq_not, fq_not, tq_and, fq_and, tq_or, fq_or, tq_beq, fq_beq, tq_bne, fq_bne, tq_dec, fq_dec, one1, V.tup.injEq, V.agg.injEq, List.cons.injEq, V.int.injEq, V.bool.injEq, true_and, and_true, decide_eq_true_eq, decide_eq_false_iff_not, Bool.and_eq_true, Bool.and_eq_false_iff, Bool.or_eq_true, Bool.or_eq_false_iff, Bool.not_eq_true', Bool.not_eq_false', beq_iff_eq, wrap_u32, wrap_i64, wrap_u8, beq_eq_false_iff_ne, ne_eq, bne_iff_ne, bne_eq_false_iff_eq, eq_self, and_self, splice, V.cells, List.take_succ_cons, List.take_zero, List.take_nil, List.drop_zero, List.drop_succ_cons, List.drop_nil, List.cons_append, List.nil_append, List.append_nil, List.length_cons, List.length_nil, Nat.zero_add, Nat.reduceAdd, if_true, if_false, Bool.false_eq_true, beq_self_eq_true, decide_eq_decide, Bool.true_eq_false, or_false, false_or, or_true, true_or, and_false, false_and, not_true_eq_false, not_false_eq_true, Bool.and_true, Bool.true_and, Bool.not_true, Bool.not_false] at *; first | done | assumption | omega))); intro h)
                       | ((with_reducible refine dec_falseH ?tst ?_); (case tst => (first | rfl | ((try clear hC); (try clear kn); (try clear kx); (try clear kr); (try clear kn1); (try clear kx1); (try clear kr1); (try clear kn2); (try clear kx2); (try clear kr2); (try clear kn3); (try clear kx3); (try clear kr3); subst_vars; simp only [Int.ofNat_eq_natCast, tq_not, fq_not, tq_and, fq_and, tq_or, fq_or, tq_beq, fq_beq, tq_bne, fq_bne, tq_dec, fq_dec, one1, V.tup.injEq, V.agg.injEq, List.cons.injEq, V.int.injEq, V.bool.injEq, true_and, and_true, decide_eq_true_eq, decide_eq_false_iff_not, Bool.and_eq_true, Bool.and_eq_false_iff, Bool.or_eq_true, Bool.or_eq_false_iff, Bool.not_eq_true', Bool.not_eq_false', beq_iff_eq, wrap_u32, wrap_i64, wrap_u8, beq_eq_false_iff_ne, ne_eq, bne_iff_ne, bne_eq_false_iff_eq, eq_self, and_self, splice, V.cells, List.take_succ_cons, List.take_zero, List.take_nil, List.drop_zero, List.drop_succ_cons, List.drop_nil, List.cons_append, List.nil_append, List.append_nil, List.length_cons, List.length_nil, Nat.zero_add, Nat.reduceAdd, if_true, if_false, Bool.false_eq_true, beq_self_eq_true, decide_eq_decide, Bool.true_eq_false, or_false, false_or, or_true, true_or, and_false, false_and, not_true_eq_false, not_false_eq_true, Bool.and_true, Bool.true_and, Bool.not_true, Bool.not_false] at *; first | done | assumption | omega))); intro h)
                       | (refine dec_split (fun h => ?_) (fun h => ?_))
                       | (apply silE)
                       | (refine Both.mk ?_ ?_)
                       | (refine And.intro rfl ?_)
                       | (exact And.intro rfl (And.intro rfl (And.intro rfl rfl)))
                       | (refine And.intro (by first | omega | ((simp only [decide_eq_true_eq, decide_eq_false_iff_not, Bool.and_eq_true, beq_iff_eq, Bool.not_eq_true', Bool.not_eq_false'] at *); omega) | (subst_vars; simp only [Int.ofNat_eq_natCast, tq_not, fq_not, tq_and, fq_and, tq_or, fq_or, tq_beq, fq_beq, tq_bne, fq_bne, tq_dec, fq_dec, one1, V.tup.injEq, V.agg.injEq, List.cons.injEq, V.int.injEq, V.bool.injEq, true_and, and_true, decide_eq_true_eq, decide_eq_false_iff_not, Bool.and_eq_true, Bool.and_eq_false_iff, Bool.or_eq_true, Bool.or_eq_false_iff, Bool.not_eq_true', Bool.not_eq_false', beq_iff_eq, wrap_u32, wrap_i64, wrap_u8, beq_eq_false_iff_ne, ne_eq, bne_iff_ne, bne_eq_false_iff_eq, eq_self, and_self, splice, V.cells, List.take_succ_cons, List.take_zero, List.take_nil, List.drop_zero, List.drop_succ_cons, List.drop_nil, List.cons_append, List.nil_append, List.append_nil, List.length_cons, List.length_nil, Nat.zero_add, Nat.reduceAdd, if_true, if_false, Bool.false_eq_true, beq_self_eq_true, decide_eq_decide, Bool.true_eq_false, or_false, false_or, or_true, true_or, and_false, false_and, not_true_eq_false, not_false_eq_true, Bool.and_true, Bool.true_and, Bool.not_true, Bool.not_false] at *; omega)) ?_)
                       | (refine Exists.intro _ (Exists.intro _ (And.intro rfl ?_)))
                       | (refine Exists.intro _ (And.intro rfl ?_))
                       | (refine Exists.intro _ (Exists.intro _ (Exists.intro _ (Exists.intro _ (And.intro rfl ?_)))))
                       | (refine ld_step rfl (by assumption) rfl ?_)
                       | (refine lds_step rfl (by assumption) rfl ?_)
                       | (refine fL_mk ?_)
                       | (refine fH_mk ?_)
                       | (refine fN_mk ?_)
                       | (refine fLB_mk ?_)
                       | (refine And.intro (by repeat (first | assumption | refine GLB_app ?_)) ?_)
                       | (refine ld_step rfl ((rd_x0 _ _ _ _ _).trans rfl) rfl ?_)
                       | (refine ld_step rfl ((rd_x1 _ _ _ _ _ _).trans rfl) rfl ?_)
                       | (refine ld_step rfl ((rd_x2 _ _ _ _ _ _ _).trans rfl) rfl ?_)
                       | (refine lds_step rfl ((rd_x0 _ _ _ _ _).trans rfl) rfl ?_)
                       | (refine lds_step rfl ((rd_x1 _ _ _ _ _ _).trans rfl) rfl ?_)
                       | (refine lds_step rfl ((rd_x2 _ _ _ _ _ _ _).trans rfl) rfl ?_)
                       | (refine mem_step (st_eq rfl rfl rfl rfl (wr_last _ _ _ _ rfl)) ?_)
                       | (refine drec_yes (by omega) ?_)
                       | (refine drec_no (by omega) ?_)
                       | (intro _)
                       | fail)
              all_goals (conv => whnf)
              all_goals first
                | (subst hz; refine kn hlt _ _ _ _ _ rfl ⟨⟨Xb, rfl, hbb⟩, rfl, hL0⟩)
                | trace_state
            · clear kn kr
              have hie2 : i1 = ds.length := by have := of_decide_eq_false h; omega
              subst hie2
              rw [← hol, mid_all, hrot] at hblk
              have hrd2 := rdD_block hblk
              clear hblk h
              cases g
              all_goals
                repeat' (conv => whnf
                         first
                         | (refine Stop.mk ?_)
                         | (with_reducible refine fI_is (a := oD) rfl ?_)
                         | (with_reducible refine fI_is (a := (ds.length : Int)) rfl ?_)
                         | (refine fO_is (beq_self_eq_true _) ?_)
                         | (refine fI_gen ?_; intro z hz)
                         | (refine fO_gen ?_; intro z hz)
                         | (refine kx _ _ _ _ _ _ ?_; clear kx)
                         | (refine mem_step (ldl_eq rfl hL0 rfl rfl) ?_)
                         | (refine Exists.intro (rotD ow li kk ds) (And.intro hlr.symm (And.intro (by rw [hlr]; exact hl4) (And.intro hok2 (And.intro hrd2 ?_)))); intro xr hxr; obtain rfl : xr = true := hxr.2 hR2)
                         | (refine And.intro pa (And.intro (GLB_app hg) (Exists.intro (rotD ow li kk ds) (And.intro hlr.symm (And.intro (by rw [hlr]; exact hl4) (And.intro hok2 (And.intro hrd2 ?_)))))); intro i2 o2 x2 hx2 hi2 ho2; obtain ⟨rfl, hoo, hjj⟩ := dec_turn hR hR2 hpm hxD hiD hoD hx2 hi2 ho2; subst hoo; (try obtain ⟨j1, hj1, j2, hj2, e1, e2, e3⟩ := hjj rfl); (try subst e2); (try have hj3 : (j2 : Int) < (ds.length : Int) := by rw [← hlr]; omega))
                         | (refine pure_step (ixs_eq rfl rfl (by omega) (by omega)) ?_)
                         | (refine ld_step rfl (rd_base hrd2 hj2 _ (by first | omega | rfl)) rfl ?_)
                         | (refine ld_step rfl (rd_base (hr.app _) hj1 _ (by first | omega | rfl)) rfl ?_)
                         | (refine dec_true (by assumption) ?_)
                         | (refine dec_false (by assumption) ?_)
                         | ((with_reducible refine dec_trueH ?tst ?_); (case tst => (first | rfl | ((try clear hC); (try clear kn); (try clear kx); (try clear kr); (try clear kn1); (try clear kx1); (try clear kr1); (try clear kn2); (try clear kx2); (try clear kr2); (try clear kn3); (try clear kx3); (try clear kr3); subst_vars; simp only [Int.ofNat_eq_natCast, tq_not, fq_not, tq_and, fq_and, tq_or, fq_or, tq_beq, fq_beq, tq_bne, fq_bne, tq_dec, fq_dec, one1, V.tup.injEq, V.agg.injEq, List.cons.injEq, V.int.injEq, V.bool.injEq, true_and, and_true, decide_eq_true_eq, decide_eq_false_iff_not, Bool.and_eq_true, Bool.and_eq_false_iff, Bool.or_eq_true, Bool.or_eq_false_iff, Bool.not_eq_true', Bool.not_eq_false', beq_iff_eq, wrap_u32, wrap_i64, wrap_u8, beq_eq_false_iff_ne, ne_eq, bne_iff_ne, bne_eq_false_iff_eq, eq_self, and_self, splice, V.cells, List.take_succ_cons, List.take_zero, List.take_nil, List.drop_zero, List.drop_succ_cons, List.drop_nil, List.cons_append, List.nil_append, List.append_nil, List.length_cons, List.length_nil, Nat.zero_add, Nat.reduceAdd, if_true, if_false, Bool.false_eq_true, beq_self_eq_true, decide_eq_decide, Bool.true_eq_false, or_false, false_or, or_true, true_or, and_false, false_and, not_true_eq_false, not_false_eq_true, Bool.and_true, Bool.true_and, Bool.not_true, Bool.not_false] at *; first | done | assumption | omega))); intro h)
                         | ((with_reducible refine dec_falseH ?tst ?_); (case tst => (first | rfl | ((try clear hC); (try clear kn); (try clear kx); (try clear kr); (try clear kn1); (try clear kx1); (try clear kr1); (try clear kn2); (try clear kx2); (try clear kr2); (try clear kn3); (try clear kx3); (try clear kr3); subst_vars; simp only [Int.ofNat_eq_natCast, tq_not, fq_not, tq_and, fq_and, tq_or, fq_or, tq_beq, fq_beq, tq_bne, fq_bne, tq_dec, fq_dec, one1, V.tup.injEq, V.agg.injEq, List.cons.injEq, V.int.injEq, V.bool.injEq, true_and, and_true, decide_eq_true_eq, decide_eq_false_iff_not, Bool.and_eq_true, Bool.and_eq_false_iff, Bool.or_eq_true, Bool.or_eq_false_iff, Bool.not_eq_true', Bool.not_eq_false', beq_iff_eq, wrap_u32, wrap_i64, wrap_u8, beq_eq_false_iff_ne, ne_eq, bne_iff_ne, bne_eq_false_iff_eq, eq_self, and_self, splice, V.cells, List.take_succ_cons, List.take_zero, List.take_nil, List.drop_zero, List.drop_succ_cons, List.drop_nil, List.cons_append, List.nil_append, List.append_nil, List.length_cons, List.length_nil, Nat.zero_add, Nat.reduceAdd, if_true, if_false, Bool.false_eq_true, beq_self_eq_true, decide_eq_decide, Bool.true_eq_false, or_false, false_or, or_true, true_or, and_false, false_and, not_true_eq_false, not_false_eq_true, Bool.and_true, Bool.true_and, Bool.not_true, Bool.not_false] at *; first | done | assumption | omega))); intro h)
                         | (refine dec_split (fun h => ?_) (fun h => ?_))
                         | (apply silE)
                         | (refine Both.mk ?_ ?_)
                         | (refine And.intro rfl ?_)
                         | (exact And.intro rfl (And.intro rfl (And.intro rfl rfl)))
                         | (refine And.intro (by first | omega | ((simp only [decide_eq_true_eq, decide_eq_false_iff_not, Bool.and_eq_true, beq_iff_eq, Bool.not_eq_true', Bool.not_eq_false'] at *); omega) | (subst_vars; simp only [Int.ofNat_eq_natCast, tq_not, fq_not, tq_and, fq_and, tq_or, fq_or, tq_beq, fq_beq, tq_bne, fq_bne, tq_dec, fq_dec, one1, V.tup.injEq, V.agg.injEq, List.cons.injEq, V.int.injEq, V.bool.injEq, true_and, and_true, decide_eq_true_eq, decide_eq_false_iff_not, Bool.and_eq_true, Bool.and_eq_false_iff, Bool.or_eq_true, Bool.or_eq_false_iff, Bool.not_eq_true', Bool.not_eq_false', beq_iff_eq, wrap_u32, wrap_i64, wrap_u8, beq_eq_false_iff_ne, ne_eq, bne_iff_ne, bne_eq_false_iff_eq, eq_self, and_self, splice, V.cells, List.take_succ_cons, List.take_zero, List.take_nil, List.drop_zero, List.drop_succ_cons, List.drop_nil, List.cons_append, List.nil_append, List.append_nil, List.length_cons, List.length_nil, Nat.zero_add, Nat.reduceAdd, if_true, if_false, Bool.false_eq_true, beq_self_eq_true, decide_eq_decide, Bool.true_eq_false, or_false, false_or, or_true, true_or, and_false, false_and, not_true_eq_false, not_false_eq_true, Bool.and_true, Bool.true_and, Bool.not_true, Bool.not_false] at *; omega)) ?_)
                         | (refine Exists.intro _ (Exists.intro _ (And.intro rfl ?_)))
                         | (refine Exists.intro _ (And.intro rfl ?_))
                         | (refine Exists.intro _ (Exists.intro _ (Exists.intro _ (Exists.intro _ (And.intro rfl ?_)))))
                         | (refine ld_step rfl (by assumption) rfl ?_)
                         | (refine lds_step rfl (by assumption) rfl ?_)
                         | (refine fL_mk ?_)
                         | (refine fH_mk ?_)
                         | (refine fN_mk ?_)
                         | (refine fLB_mk ?_)
                         | (refine And.intro (by repeat (first | assumption | refine GLB_app ?_)) ?_)
                         | (refine ld_step rfl ((rd_x0 _ _ _ _ _).trans rfl) rfl ?_)
                         | (refine ld_step rfl ((rd_x1 _ _ _ _ _ _).trans rfl) rfl ?_)
                         | (refine ld_step rfl ((rd_x2 _ _ _ _ _ _ _).trans rfl) rfl ?_)
                         | (refine lds_step rfl ((rd_x0 _ _ _ _ _).trans rfl) rfl ?_)
                         | (refine lds_step rfl ((rd_x1 _ _ _ _ _ _).trans rfl) rfl ?_)
                         | (refine lds_step rfl ((rd_x2 _ _ _ _ _ _ _).trans rfl) rfl ?_)
                         | (refine mem_step (st_eq rfl rfl rfl rfl (wr_last _ _ _ _ rfl)) ?_)
                         | (refine drec_yes (by omega) ?_)
                         | (refine drec_no (by omega) ?_)
                         | (intro _)
                         | fail)
                all_goals (conv => whnf)
                all_goals first
                  | exact leafE (hq X _ _) rfl
                  | exact leafH hq0 rfl (take_app1 H' X)
                  | trace_state
      · repeat' (conv => whnf
                 first
                 | (refine Stop.mk ?_)
                 | (refine fO_is t1 ?_)
                 | (with_reducible refine fI_is (a := (ds.length : Int)) rfl ?_)
                 | (refine fI_gen ?_; intro z hz)
                 | (refine fO_gen ?_; intro z hz)
                 | (refine And.intro hg ?_)
                 | (refine Exists.intro ds (And.intro rfl (And.intro hl4 (And.intro hok (And.intro hr ?_)))); intro xr hxr; obtain rfl : xr = false := Bool.eq_false_iff.2 (fun h => hR (hxr.1 h)))
                 | (refine dec_true (by assumption) ?_)
                 | (refine dec_false (by assumption) ?_)
                 | (refine dec_split (fun h => ?_) (fun h => ?_))
                 | (apply silE)
                 | (refine Both.mk ?_ ?_)
                 | (refine And.intro rfl ?_)
                 | (exact And.intro rfl (And.intro rfl (And.intro rfl rfl)))
                 | (refine And.intro (by first | omega | ((simp only [decide_eq_true_eq, decide_eq_false_iff_not, Bool.and_eq_true, beq_iff_eq, Bool.not_eq_true', Bool.not_eq_false'] at *); omega) | (subst_vars; simp only [Int.ofNat_eq_natCast, tq_not, fq_not, tq_and, fq_and, tq_or, fq_or, tq_beq, fq_beq, tq_bne, fq_bne, tq_dec, fq_dec, one1, V.tup.injEq, V.agg.injEq, List.cons.injEq, V.int.injEq, V.bool.injEq, true_and, and_true, decide_eq_true_eq, decide_eq_false_iff_not, Bool.and_eq_true, Bool.and_eq_false_iff, Bool.or_eq_true, Bool.or_eq_false_iff, Bool.not_eq_true', Bool.not_eq_false', beq_iff_eq, wrap_u32, wrap_i64, wrap_u8, beq_eq_false_iff_ne, ne_eq, bne_iff_ne, bne_eq_false_iff_eq, eq_self, and_self, splice, V.cells, List.take_succ_cons, List.take_zero, List.take_nil, List.drop_zero, List.drop_succ_cons, List.drop_nil, List.cons_append, List.nil_append, List.append_nil, List.length_cons, List.length_nil, Nat.zero_add, Nat.reduceAdd, if_true, if_false, Bool.false_eq_true, beq_self_eq_true, decide_eq_decide, Bool.true_eq_false, or_false, false_or, or_true, true_or, and_false, false_and, not_true_eq_false, not_false_eq_true, Bool.and_true, Bool.true_and, Bool.not_true, Bool.not_false] at *; omega)) ?_)
                 | (refine Exists.intro _ (Exists.intro _ (And.intro rfl ?_)))
                 | (refine Exists.intro _ (And.intro rfl ?_))
                 | (refine Exists.intro _ (Exists.intro _ (Exists.intro _ (Exists.intro _ (And.intro rfl ?_)))))
                 | (refine ld_step rfl (by assumption) rfl ?_)
                 | (refine lds_step rfl (by assumption) rfl ?_)
                 | (refine fL_mk ?_)
                 | (refine fH_mk ?_)
                 | (refine fN_mk ?_)
                 | (refine fLB_mk ?_)
                 | (refine And.intro (by repeat (first | assumption | refine GLB_app ?_)) ?_)
                 | (refine ld_step rfl ((rd_x0 _ _ _ _ _).trans rfl) rfl ?_)
                 | (refine ld_step rfl ((rd_x1 _ _ _ _ _ _).trans rfl) rfl ?_)
                 | (refine ld_step rfl ((rd_x2 _ _ _ _ _ _ _).trans rfl) rfl ?_)
                 | (refine lds_step rfl ((rd_x0 _ _ _ _ _).trans rfl) rfl ?_)
                 | (refine lds_step rfl ((rd_x1 _ _ _ _ _ _).trans rfl) rfl ?_)
                 | (refine lds_step rfl ((rd_x2 _ _ _ _ _ _ _).trans rfl) rfl ?_)
                 | (refine mem_step (st_eq rfl rfl rfl rfl (wr_last _ _ _ _ rfl)) ?_)
                 | (refine drec_yes (by omega) ?_)
                 | (refine drec_no (by omega) ?_)
                 | (intro _)
                 | fail)
        all_goals (conv => whnf)
        all_goals exact leafE hq0 rfl
    · have t1 : decide ((ds.length : Int) > 100) = true := decide_eq_true (by omega)
      repeat' (conv => whnf
               first
               | (refine Stop.mk ?_)
               | (refine fO_is t1 ?_)
               | (with_reducible refine fI_is (a := (ds.length : Int)) rfl ?_)
               | (refine fI_gen ?_; intro z hz)
               | (refine fO_gen ?_; intro z hz)
               | (refine And.intro hg ?_)
               | (refine dec_true (by assumption) ?_)
               | (refine dec_false (by assumption) ?_)
               | (refine dec_split (fun h => ?_) (fun h => ?_))
               | (apply silE)
               | (refine Both.mk ?_ ?_)
               | (refine And.intro rfl ?_)
               | (exact And.intro rfl (And.intro rfl (And.intro rfl rfl)))
               | (refine And.intro (by first | omega | ((simp only [decide_eq_true_eq, decide_eq_false_iff_not, Bool.and_eq_true, beq_iff_eq, Bool.not_eq_true', Bool.not_eq_false'] at *); omega) | (subst_vars; simp only [Int.ofNat_eq_natCast, tq_not, fq_not, tq_and, fq_and, tq_or, fq_or, tq_beq, fq_beq, tq_bne, fq_bne, tq_dec, fq_dec, one1, V.tup.injEq, V.agg.injEq, List.cons.injEq, V.int.injEq, V.bool.injEq, true_and, and_true, decide_eq_true_eq, decide_eq_false_iff_not, Bool.and_eq_true, Bool.and_eq_false_iff, Bool.or_eq_true, Bool.or_eq_false_iff, Bool.not_eq_true', Bool.not_eq_false', beq_iff_eq, wrap_u32, wrap_i64, wrap_u8, beq_eq_false_iff_ne, ne_eq, bne_iff_ne, bne_eq_false_iff_eq, eq_self, and_self, splice, V.cells, List.take_succ_cons, List.take_zero, List.take_nil, List.drop_zero, List.drop_succ_cons, List.drop_nil, List.cons_append, List.nil_append, List.append_nil, List.length_cons, List.length_nil, Nat.zero_add, Nat.reduceAdd, if_true, if_false, Bool.false_eq_true, beq_self_eq_true, decide_eq_decide, Bool.true_eq_false, or_false, false_or, or_true, true_or, and_false, false_and, not_true_eq_false, not_false_eq_true, Bool.and_true, Bool.true_and, Bool.not_true, Bool.not_false] at *; omega)) ?_)
               | (refine Exists.intro _ (Exists.intro _ (And.intro rfl ?_)))
               | (refine Exists.intro _ (And.intro rfl ?_))
               | (refine Exists.intro _ (Exists.intro _ (Exists.intro _ (Exists.intro _ (And.intro rfl ?_)))))
               | (refine ld_step rfl (by assumption) rfl ?_)
               | (refine lds_step rfl (by assumption) rfl ?_)
               | (refine fL_mk ?_)
               | (refine fH_mk ?_)
               | (refine fN_mk ?_)
               | (refine fLB_mk ?_)
               | (refine And.intro (by repeat (first | assumption | refine GLB_app ?_)) ?_)
               | (refine ld_step rfl ((rd_x0 _ _ _ _ _).trans rfl) rfl ?_)
               | (refine ld_step rfl ((rd_x1 _ _ _ _ _ _).trans rfl) rfl ?_)
               | (refine ld_step rfl ((rd_x2 _ _ _ _ _ _ _).trans rfl) rfl ?_)
               | (refine lds_step rfl ((rd_x0 _ _ _ _ _).trans rfl) rfl ?_)
               | (refine lds_step rfl ((rd_x1 _ _ _ _ _ _).trans rfl) rfl ?_)
               | (refine lds_step rfl ((rd_x2 _ _ _ _ _ _ _).trans rfl) rfl ?_)
               | (refine mem_step (st_eq rfl rfl rfl rfl (wr_last _ _ _ _ rfl)) ?_)
               | (refine drec_yes (by omega) ?_)
               | (refine drec_no (by omega) ?_)
               | (intro _)
               | fail)
      all_goals (conv => whnf)
      all_goals exact leafE hq0 rfl
  · exact hs.elim
end Go.Ev
