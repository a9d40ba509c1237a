/- dev: LaneEnds -/
import Derived.Test.YtkheaekokmomhaaDoorKlaw
set_option linter.all false
namespace Go.Ev
open Go Go.Proofs
set_option maxRecDepth 4000
set_option maxHeartbeats 4000000
/-- a loop that counts up in slot ctr, in words -/
theorem rLoop_ctrU {c : List SV → List LB → List B → Bool → Bool → KE → Prop} {Q : KE} {f : Nat} {tm : List SV} {L : List LB} {H : List B} {e g : Bool} (N ctr : Nat) (mask : List Bool) (I : Nat → List SV → List LB → List B → Bool → Bool → Prop)
    (hf : N < f) (h0 : agree mask (tm.set ctr (.v (.int .u32 ((0 : Nat) : Int)))) tm) (hI : I 0 tm L H e g)
    (hstep : ∀ i : Nat, i ≤ N → havoc mask (tm.set ctr (.v (.int .u32 (i : Int)))) fun tm1 => Halt (∀ L H e g, I i tm1 L H e g → ∀ K : KE,
      (i < N → ∀ tm' L H e g, agree mask (tm.set ctr (.v (.int .u32 ((i + 1 : Nat) : Int)))) tm' → I (i + 1) tm' L H e g → K .n tm' L H e g) →
      (∀ id tm L H e g, Q (.x id) tm L H e g → K (.x id) tm L H e g) → (∀ tm L H e g, Q .r tm L H e g → K .r tm L H e g) → c tm1 L H e g K)) : rLoop c f tm L H e g Q := by
  refine rLoop_for N (fun i tm1 L H e g => agree mask (tm.set ctr (.v (.int .u32 (i : Int)))) tm1 ∧ I i tm1 L H e g) ?_ N 0 f tm L H e g (by omega) hf ⟨h0, hI⟩
  intro i tm1 L H e g hi ⟨ha, hI⟩ K kn kx kr
  exact (havoc_agree (hstep i hi) ha).out L H e g hI K (fun hlt tm' L H e g h1 h2 => kn hlt tm' L H e g ⟨h1, h2⟩) kx kr
theorem ld_listI {tm : List SV} {L : List LB} {H : List B} {e g : Bool} {x : Opd} {K : KV} {ty : TypeId} {cs : List V} {o : Nat} (hx : x.ev tm = .v (.ptr (some (H.length, o)))) (ho : o < cs.length) (hc : ∀ v, v ∈ cs → ∃ n : Int, v = .int .i64 n) (hK : ∀ n : Int, K (.v (.int .i64 n)) L (H ++ [.rw ty cs]) e g) :
    (match memOp tm L (H ++ [.rw ty cs]) e g (.ld false 1 x) with
      | some (v, L', H', e', g') => K v L' H' e' g'
      | none => False) := by
  refine ld_list0 hx ho fun v hv => ?_
  obtain ⟨n, rfl⟩ := hc v hv
  exact hK n
theorem lds_listI {tm : List SV} {L : List LB} {H : List B} {e g : Bool} {x : Opd} {K : SV → Prop} {ty : TypeId} {cs : List V} {o : Nat} (hx : x.ev tm = .v (.ptr (some (H.length, o)))) (ho : o < cs.length) (hc : ∀ v, v ∈ cs → ∃ n : Int, v = .int .i64 n) (hK : ∀ n : Int, K (.v (.int .i64 n))) :
    (match memOp tm L (H ++ [.rw ty cs]) e g (.ld false 1 x) with
      | some (v, _) => K v
      | none => False) := by
  have := ld_listI (L := L) (e := e) (g := g) (ty := ty) (K := fun v _ _ _ _ => K v) hx ho hc hK
  split at this <;> simp_all
theorem fI_sh32 {f : Nat} {a : Int} {m : Nat} {K : Int → Prop} (k : ∀ z, (0 ≤ z ∧ z < 4294967296) → K z) : fI f (IntKind.u32.wrap (a * 2 ^ m)) K := (fI_eq f _ K).mpr (k _ (by rw [wrap_u32]; omega))
def L12 (cs : List V) : Prop := cs.length = 12 ∧ ∀ v, v ∈ cs → ∃ n : Int, v = .int .i64 n
def isI : V → Bool
  | .int .i64 _ => true
  | _ => false
theorem isI_ex {v : V} (h : isI v = true) : ∃ n : Int, v = .int .i64 n := by
  unfold isI at h
  split at h
  · exact ⟨_, rfl⟩
  · cases h
theorem l12 {cs : List V} (h : cs.length = 12) (ha : cs.all isI = true) : L12 cs := ⟨h, fun v hv => isI_ex (List.all_eq_true.1 ha v hv)⟩
def s5 : Sp := fun vs H Q => match vs with
  | [] => GLB H ∧ Q (.bool true) H false false
  | _ => False
theorem k5 : Snd Tryd.prog 2 5 s5 := by
  refine snd_of_ev (by kernel_rfl) (C := tab [(8, s8), (10, s10), (11, s11), (12, s12), (13, s13)]) (sndC_cons k8 (sndC_cons k10 (sndC_cons k11 (sndC_cons k12 (sndC_cons k13 (sndC_nil)))))) x5 n5 c5 50 ?_
  have hC : MonoC (tab [(8, s8), (10, s10), (11, s11), (12, s12), (13, s13)]) := monoC_cons m8 (monoC_cons m10 (monoC_cons m11 (monoC_cons m12 (monoC_cons m13 (monoC_nil)))))
  intro vs Hx Q hs
  unfold s5 at hs
  split at hs
  · obtain ⟨hg, hq⟩ := hs
    suffices hh : ∀ k, 40 < k → evFun (tab [(8, s8), (10, s10), (11, s11), (12, s12), (13, s13)]) k e5 [] Hx Q from hh _ (by omega)
    intro k hk
    repeat' (conv => whnf
             first
             | (refine Stop.mk ?_)
             | (refine fI_mk ?_)
             | (refine fO_mk ?_)
             | (refine fN_mk ?_)
             | (refine fH_mk ?_)
             | fail)
    conv => whnf
    refine rLoop_ctr (c := rC (tab [(8, s8), (10, s10), (11, s11), (12, s12), (13, s13)]) k l5_0) 12 2 (true :: false :: false :: true :: true :: true :: false :: false :: true :: true :: true :: true :: true :: true :: true :: true :: true :: true :: true :: true :: true :: true :: true :: true :: true :: true :: true :: true :: true :: true :: true :: true :: true :: true :: true :: true :: true :: true :: true :: true :: true :: true :: true :: true :: true :: true :: true :: true :: true :: true :: true :: true :: true :: true :: true :: true :: true :: true :: true :: true :: false :: false :: false :: false :: false :: false :: false :: false :: false :: false :: false :: false :: false :: false :: []) (fun i tm L H e g => (∃ ty cs, H = Hx ++ [.rw ty cs] ∧ L12 cs) ∧ L = [] ∧ e = false ∧ g = true) (by omega) rfl ⟨⟨_, _, rfl, l12 rfl rfl⟩, rfl, rfl, rfl⟩ ?_
    intro i0 hi0
    conv => whnf
    intro j
    conv => whnf
    intro j
    conv => whnf
    intro j
    conv => whnf
    intro j
    conv => whnf
    intro j
    conv => whnf
    intro j
    conv => whnf
    intro j
    conv => whnf
    intro j
    conv => whnf
    intro j
    conv => whnf
    intro j
    conv => whnf
    intro j
    conv => whnf
    intro j
    conv => whnf
    intro j
    conv => whnf
    intro j
    conv => whnf
    intro j
    conv => whnf
    intro j
    conv => whnf
    intro j
    conv => whnf
    intro j
    conv => whnf
    intro j
    conv => whnf
    intro j
    conv => whnf
    intro j
    conv => whnf
    intro j
    conv => whnf
    intro j
    conv => whnf
    intro j
    conv => whnf
    intro j
    conv => whnf
    intro j
    conv => whnf
    intro j
    conv => whnf
    intro j
    conv => whnf
    intro j
    conv => whnf
    intro j
    conv => whnf
    intro j
    conv => whnf
    intro j
    conv => whnf
    intro j
    conv => whnf
    intro j
    conv => whnf
    intro j
    conv => whnf
    intro j
    conv => whnf
    intro j
    conv => whnf
    intro j
    conv => whnf
    intro j
    conv => whnf
    intro j
    conv => whnf
    intro j
    conv => whnf
    intro j
    conv => whnf
    intro j
    conv => whnf
    intro j
    conv => whnf
    intro j
    conv => whnf
    intro j
    conv => whnf
    intro j
    conv => whnf
    intro j
    conv => whnf
    intro j
    conv => whnf
    intro j
    conv => whnf
    intro j
    conv => whnf
    intro j
    conv => whnf
    intro j
    conv => whnf
    intro j
    conv => whnf
    intro j
    conv => whnf
    intro j
    conv => whnf
    refine Halt.mk ?_
    rintro L H' e g ⟨⟨ty, cs, rfl, hcl, hcv⟩, rfl, rfl, rfl⟩ K kn kx kr
    repeat' (conv => whnf
             first
             | (refine Stop.mk ?_)
             | (refine fI_mk ?_)
             | (refine fO_mk ?_)
             | (refine fN_mk ?_)
             | fail)
    conv => whnf
    refine dec_split (fun h => ?_) (fun h => ?_)
    · have hlt : i0 < 12 := by have := of_decide_eq_true h; omega
      clear kx
      repeat' (conv => whnf
               first
               | (refine Stop.mk ?_)
               | (refine fI_mk ?_)
               | (refine fO_mk ?_)
               | (refine fN_mk ?_)
               | fail)
      conv => whnf
      refine rLoop_ctr (c := rC (tab [(8, s8), (10, s10), (11, s11), (12, s12), (13, s13)]) k l5_1) 12 3 (true :: false :: false :: false :: true :: true :: false :: false :: false :: false :: false :: false :: true :: true :: true :: true :: true :: true :: true :: true :: true :: true :: true :: true :: true :: true :: true :: true :: true :: true :: true :: true :: true :: true :: true :: true :: true :: true :: true :: true :: true :: true :: true :: true :: true :: true :: true :: true :: true :: true :: true :: true :: true :: true :: true :: true :: true :: true :: true :: true :: false :: false :: false :: false :: false :: false :: false :: false :: false :: false :: false :: false :: false :: false :: []) (fun i tm L H e g => H = Hx ++ [.rw ty cs] ∧ L = [] ∧ e = false ∧ g = true) (by omega) rfl ⟨rfl, rfl, rfl, rfl⟩ ?_
      intro i1 hi1
      conv => whnf
      intro j
      conv => whnf
      intro j
      conv => whnf
      intro j
      conv => whnf
      intro j
      conv => whnf
      intro j
      conv => whnf
      intro j
      conv => whnf
      intro j
      conv => whnf
      intro j
      conv => whnf
      intro j
      conv => whnf
      intro j
      conv => whnf
      intro j
      conv => whnf
      intro j
      conv => whnf
      intro j
      conv => whnf
      intro j
      conv => whnf
      intro j
      conv => whnf
      intro j
      conv => whnf
      intro j
      conv => whnf
      intro j
      conv => whnf
      intro j
      conv => whnf
      intro j
      conv => whnf
      intro j
      conv => whnf
      intro j
      conv => whnf
      intro j
      conv => whnf
      intro j
      conv => whnf
      intro j
      conv => whnf
      intro j
      conv => whnf
      intro j
      conv => whnf
      intro j
      conv => whnf
      intro j
      conv => whnf
      intro j
      conv => whnf
      intro j
      conv => whnf
      intro j
      conv => whnf
      intro j
      conv => whnf
      intro j
      conv => whnf
      intro j
      conv => whnf
      intro j
      conv => whnf
      intro j
      conv => whnf
      intro j
      conv => whnf
      intro j
      conv => whnf
      intro j
      conv => whnf
      intro j
      conv => whnf
      intro j
      conv => whnf
      intro j
      conv => whnf
      intro j
      conv => whnf
      intro j
      conv => whnf
      intro j
      conv => whnf
      intro j
      conv => whnf
      intro j
      conv => whnf
      intro j
      conv => whnf
      intro j
      conv => whnf
      intro j
      conv => whnf
      refine Halt.mk ?_
      rintro L H' e g ⟨rfl, rfl, rfl, rfl⟩ K1 kn1 kx1 kr1
      repeat' (conv => whnf
               first
               | (refine Stop.mk ?_)
               | (refine fI_mk ?_)
               | (refine fO_mk ?_)
               | (refine fN_mk ?_)
               | fail)
      conv => whnf
      refine dec_split (fun h1 => ?_) (fun h1 => ?_)
      · have hlt1 : i1 < 12 := by have := of_decide_eq_true h1; omega
        clear kx1
        repeat' (conv => whnf
                 first
                 | (refine Stop.mk ?_)
                 | (refine fI_i64 (by first | omega | (simp only [Int.ofNat_eq_natCast] at *; omega)) ?_; intro z hz)
                 | (refine fI_u32 (by first | omega | (simp only [Int.ofNat_eq_natCast] at *; omega)) ?_; intro z hz)
                 | (refine fI_u8 (by first | omega | (simp only [Int.ofNat_eq_natCast] at *; omega)) ?_; intro z hz)
                 | (refine fI_u64 (by first | omega | (simp only [Int.ofNat_eq_natCast] at *; omega)) ?_; intro z hz)
                 | (refine fI_tdiv (by first | omega | (simp only [Int.ofNat_eq_natCast] at *; omega)) ?_; intro z hz)
                 | (refine fI_tmod (by first | omega | (simp only [Int.ofNat_eq_natCast] at *; omega)) ?_; intro z hz)
                 | (refine fI_gen ?_; intro z hz)
                 | (refine fO_gen ?_; intro z hz)
                 | (refine pure_step (ixs_eq rfl rfl (by omega) (show _ < (12 : Int) by omega)) ?_)
                 | (refine ld_listI rfl (by omega) hcv ?_; intro n)
                 | (refine dec_true (by assumption) ?_)
                 | (refine dec_false (by assumption) ?_)
                 | (refine dec_split (fun h => ?_) (fun h => ?_))
                 | (apply silE)
                 | (exact And.intro rfl (And.intro rfl (And.intro rfl rfl)))
                 | (refine And.intro (by first | omega | ((simp only [decide_eq_true_eq, decide_eq_false_iff_not, Bool.and_eq_true, beq_iff_eq, Bool.not_eq_true', Bool.not_eq_false'] at *); omega) | (subst_vars; simp only [Int.ofNat_eq_natCast, tq_not, fq_not, tq_and, fq_and, tq_or, fq_or, tq_beq, fq_beq, tq_bne, fq_bne, tq_dec, fq_dec, one1, V.tup.injEq, V.agg.injEq, List.cons.injEq, V.int.injEq, V.bool.injEq, true_and, and_true, decide_eq_true_eq, decide_eq_false_iff_not, Bool.and_eq_true, Bool.and_eq_false_iff, Bool.or_eq_true, Bool.or_eq_false_iff, Bool.not_eq_true', Bool.not_eq_false', beq_iff_eq, wrap_u32, wrap_i64, wrap_u8, beq_eq_false_iff_ne, ne_eq, bne_iff_ne, bne_eq_false_iff_eq, eq_self, and_self, splice, V.cells, List.take_succ_cons, List.take_zero, List.take_nil, List.drop_zero, List.drop_succ_cons, List.drop_nil, List.cons_append, List.nil_append, List.append_nil, List.length_cons, List.length_nil, Nat.zero_add, Nat.reduceAdd, if_true, if_false, Bool.false_eq_true, beq_self_eq_true, decide_eq_decide, Bool.true_eq_false, or_false, false_or, or_true, true_or, and_false, false_and, not_true_eq_false, not_false_eq_true, Bool.and_true, Bool.true_and, Bool.not_true, Bool.not_false] at *; omega)) ?_)
                 | (refine Exists.intro _ (Exists.intro _ (And.intro rfl ?_)))
                 | (refine Exists.intro _ (And.intro rfl ?_))
                 | (refine Exists.intro _ (Exists.intro _ (Exists.intro _ (Exists.intro _ (And.intro rfl ?_)))))
                 | (refine ld_step rfl (by assumption) rfl ?_)
                 | (refine lds_step rfl (by assumption) rfl ?_)
                 | (refine fL_mk ?_)
                 | (refine fH_mk ?_)
                 | (refine fN_mk ?_)
                 | (refine fLB_mk ?_)
                 | (refine And.intro (by repeat (first | assumption | refine GLB_app ?_)) ?_)
                 | (refine ld_step rfl ((rd_x0 _ _ _ _ _).trans rfl) rfl ?_)
                 | (refine ld_step rfl ((rd_x1 _ _ _ _ _ _).trans rfl) rfl ?_)
                 | (refine ld_step rfl ((rd_x2 _ _ _ _ _ _ _).trans rfl) rfl ?_)
                 | (refine lds_step rfl ((rd_x0 _ _ _ _ _).trans rfl) rfl ?_)
                 | (refine lds_step rfl ((rd_x1 _ _ _ _ _ _).trans rfl) rfl ?_)
                 | (refine lds_step rfl ((rd_x2 _ _ _ _ _ _ _).trans rfl) rfl ?_)
                 | (refine mem_step (st_eq rfl rfl rfl rfl (wr_last _ _ _ _ rfl)) ?_)
                 | (refine drec_yes (by omega) ?_)
                 | (refine drec_no (by omega) ?_)
                 | (intro _)
                 | fail)
        all_goals
          repeat' (conv => whnf
                   first
                   | (refine Stop.mk ?_)
                   | (refine fI_mk ?_)
                   | (refine fO_mk ?_)
                   | (refine fN_mk ?_)
                   | fail)
          conv => whnf
          refine rLoop_ctr (c := rC (tab [(8, s8), (10, s10), (11, s11), (12, s12), (13, s13)]) k l5_2) 32 5 (true :: false :: false :: false :: false :: false :: false :: false :: false :: false :: false :: false :: false :: false :: false :: false :: false :: false :: false :: false :: false :: false :: false :: false :: false :: false :: false :: false :: false :: false :: true :: true :: true :: true :: true :: true :: true :: true :: true :: true :: true :: true :: true :: true :: true :: true :: true :: true :: true :: true :: true :: true :: true :: true :: true :: true :: true :: true :: true :: true :: false :: false :: false :: false :: false :: false :: false :: false :: false :: false :: false :: false :: false :: false :: []) (fun i tm L H e g => H = Hx ++ [.rw ty cs] ∧ L = [] ∧ e = false ∧ g = true) (by omega) rfl ⟨rfl, rfl, rfl, rfl⟩ ?_
          intro i2 hi2
          conv => whnf
          intro j
          conv => whnf
          intro j
          conv => whnf
          intro j
          conv => whnf
          intro j
          conv => whnf
          intro j
          conv => whnf
          intro j
          conv => whnf
          intro j
          conv => whnf
          intro j
          conv => whnf
          intro j
          conv => whnf
          intro j
          conv => whnf
          intro j
          conv => whnf
          intro j
          conv => whnf
          intro j
          conv => whnf
          intro j
          conv => whnf
          intro j
          conv => whnf
          intro j
          conv => whnf
          intro j
          conv => whnf
          intro j
          conv => whnf
          intro j
          conv => whnf
          intro j
          conv => whnf
          intro j
          conv => whnf
          intro j
          conv => whnf
          intro j
          conv => whnf
          intro j
          conv => whnf
          intro j
          conv => whnf
          intro j
          conv => whnf
          intro j
          conv => whnf
          intro j
          conv => whnf
          intro j
          conv => whnf
          intro j
          conv => whnf
          intro j
          conv => whnf
          refine Halt.mk ?_
          rintro L H' e g ⟨rfl, rfl, rfl, rfl⟩ K2 kn2 kx2 kr2
          repeat' (conv => whnf
                   first
                   | (refine Stop.mk ?_)
                   | (refine fI_mk ?_)
                   | (refine fO_mk ?_)
                   | (refine fN_mk ?_)
                   | fail)
          conv => whnf
          refine dec_split (fun h2 => ?_) (fun h2 => ?_)
          · have hlt2 : i2 < 32 := by have := of_decide_eq_true h2; omega
            clear kx2
            repeat' (conv => whnf
                     first
                     | (refine Stop.mk ?_)
                     | (refine fI_sh32 ?_; intro z hz)
                     | (refine fI_i64 (by first | omega | (simp only [Int.ofNat_eq_natCast] at *; omega)) ?_; intro z hz)
                     | (refine fI_u32 (by first | omega | (simp only [Int.ofNat_eq_natCast] at *; omega)) ?_; intro z hz)
                     | (refine fI_u8 (by first | omega | (simp only [Int.ofNat_eq_natCast] at *; omega)) ?_; intro z hz)
                     | (refine fI_u64 (by first | omega | (simp only [Int.ofNat_eq_natCast] at *; omega)) ?_; intro z hz)
                     | (refine fI_tdiv (by first | omega | (simp only [Int.ofNat_eq_natCast] at *; omega)) ?_; intro z hz)
                     | (refine fI_tmod (by first | omega | (simp only [Int.ofNat_eq_natCast] at *; omega)) ?_; intro z hz)
                     | (refine fI_gen ?_; intro z hz)
                     | (refine fO_gen ?_; intro z hz)
                     | (refine pure_step (shl_eq rfl rfl (by omega)) ?_)
                     | (refine pure_step (ixs_eq rfl rfl (by omega) (show _ < (12 : Int) by omega)) ?_)
                     | (refine lds_listI rfl (by omega) hcv ?_; intro n)
                     | (refine dec_true (by assumption) ?_)
                     | (refine dec_false (by assumption) ?_)
                     | (refine dec_split (fun h => ?_) (fun h => ?_))
                     | (apply silE)
                     | (exact And.intro rfl (And.intro rfl (And.intro rfl rfl)))
                     | (refine And.intro (by first | omega | ((simp only [decide_eq_true_eq, decide_eq_false_iff_not, Bool.and_eq_true, beq_iff_eq, Bool.not_eq_true', Bool.not_eq_false'] at *); omega) | (subst_vars; simp only [Int.ofNat_eq_natCast, tq_not, fq_not, tq_and, fq_and, tq_or, fq_or, tq_beq, fq_beq, tq_bne, fq_bne, tq_dec, fq_dec, one1, V.tup.injEq, V.agg.injEq, List.cons.injEq, V.int.injEq, V.bool.injEq, true_and, and_true, decide_eq_true_eq, decide_eq_false_iff_not, Bool.and_eq_true, Bool.and_eq_false_iff, Bool.or_eq_true, Bool.or_eq_false_iff, Bool.not_eq_true', Bool.not_eq_false', beq_iff_eq, wrap_u32, wrap_i64, wrap_u8, beq_eq_false_iff_ne, ne_eq, bne_iff_ne, bne_eq_false_iff_eq, eq_self, and_self, splice, V.cells, List.take_succ_cons, List.take_zero, List.take_nil, List.drop_zero, List.drop_succ_cons, List.drop_nil, List.cons_append, List.nil_append, List.append_nil, List.length_cons, List.length_nil, Nat.zero_add, Nat.reduceAdd, if_true, if_false, Bool.false_eq_true, beq_self_eq_true, decide_eq_decide, Bool.true_eq_false, or_false, false_or, or_true, true_or, and_false, false_and, not_true_eq_false, not_false_eq_true, Bool.and_true, Bool.true_and, Bool.not_true, Bool.not_false] at *; omega)) ?_)
                     | (refine Exists.intro _ (Exists.intro _ (And.intro rfl ?_)))
                     | (refine Exists.intro _ (And.intro rfl ?_))
                     | (refine Exists.intro _ (Exists.intro _ (Exists.intro _ (Exists.intro _ (And.intro rfl ?_)))))
                     | (refine ld_step rfl (by assumption) rfl ?_)
                     | (refine lds_step rfl (by assumption) rfl ?_)
                     | (refine fL_mk ?_)
                     | (refine fH_mk ?_)
                     | (refine fN_mk ?_)
                     | (refine fLB_mk ?_)
                     | (refine And.intro (by repeat (first | assumption | refine GLB_app ?_)) ?_)
                     | (refine ld_step rfl ((rd_x0 _ _ _ _ _).trans rfl) rfl ?_)
                     | (refine ld_step rfl ((rd_x1 _ _ _ _ _ _).trans rfl) rfl ?_)
                     | (refine ld_step rfl ((rd_x2 _ _ _ _ _ _ _).trans rfl) rfl ?_)
                     | (refine lds_step rfl ((rd_x0 _ _ _ _ _).trans rfl) rfl ?_)
                     | (refine lds_step rfl ((rd_x1 _ _ _ _ _ _).trans rfl) rfl ?_)
                     | (refine lds_step rfl ((rd_x2 _ _ _ _ _ _ _).trans rfl) rfl ?_)
                     | (refine mem_step (st_eq rfl rfl rfl rfl (wr_last _ _ _ _ rfl)) ?_)
                     | (refine drec_yes (by omega) ?_)
                     | (refine drec_no (by omega) ?_)
                     | (intro _)
                     | fail)
            conv => whnf
            subst hz
            exact kn2 hlt2 _ _ _ _ _ rfl ⟨rfl, rfl, rfl, rfl⟩
          · clear kn2
            repeat' (conv => whnf
                     first
                     | (refine Stop.mk ?_)
                     | (refine fI_i64 (by first | omega | (simp only [Int.ofNat_eq_natCast] at *; omega)) ?_; intro z hz)
                     | (refine fI_u32 (by first | omega | (simp only [Int.ofNat_eq_natCast] at *; omega)) ?_; intro z hz)
                     | (refine fI_u8 (by first | omega | (simp only [Int.ofNat_eq_natCast] at *; omega)) ?_; intro z hz)
                     | (refine fI_u64 (by first | omega | (simp only [Int.ofNat_eq_natCast] at *; omega)) ?_; intro z hz)
                     | (refine fI_tdiv (by first | omega | (simp only [Int.ofNat_eq_natCast] at *; omega)) ?_; intro z hz)
                     | (refine fI_tmod (by first | omega | (simp only [Int.ofNat_eq_natCast] at *; omega)) ?_; intro z hz)
                     | (refine fI_gen ?_; intro z hz)
                     | (refine fO_gen ?_; intro z hz)
                     | (refine kx2 _ _ _ _ _ _ ?_)
                     | (refine dec_true (by assumption) ?_)
                     | (refine dec_false (by assumption) ?_)
                     | (refine dec_split (fun h => ?_) (fun h => ?_))
                     | (apply silE)
                     | (exact And.intro rfl (And.intro rfl (And.intro rfl rfl)))
                     | (refine And.intro (by first | omega | ((simp only [decide_eq_true_eq, decide_eq_false_iff_not, Bool.and_eq_true, beq_iff_eq, Bool.not_eq_true', Bool.not_eq_false'] at *); omega) | (subst_vars; simp only [Int.ofNat_eq_natCast, tq_not, fq_not, tq_and, fq_and, tq_or, fq_or, tq_beq, fq_beq, tq_bne, fq_bne, tq_dec, fq_dec, one1, V.tup.injEq, V.agg.injEq, List.cons.injEq, V.int.injEq, V.bool.injEq, true_and, and_true, decide_eq_true_eq, decide_eq_false_iff_not, Bool.and_eq_true, Bool.and_eq_false_iff, Bool.or_eq_true, Bool.or_eq_false_iff, Bool.not_eq_true', Bool.not_eq_false', beq_iff_eq, wrap_u32, wrap_i64, wrap_u8, beq_eq_false_iff_ne, ne_eq, bne_iff_ne, bne_eq_false_iff_eq, eq_self, and_self, splice, V.cells, List.take_succ_cons, List.take_zero, List.take_nil, List.drop_zero, List.drop_succ_cons, List.drop_nil, List.cons_append, List.nil_append, List.append_nil, List.length_cons, List.length_nil, Nat.zero_add, Nat.reduceAdd, if_true, if_false, Bool.false_eq_true, beq_self_eq_true, decide_eq_decide, Bool.true_eq_false, or_false, false_or, or_true, true_or, and_false, false_and, not_true_eq_false, not_false_eq_true, Bool.and_true, Bool.true_and, Bool.not_true, Bool.not_false] at *; omega)) ?_)
                     | (refine Exists.intro _ (Exists.intro _ (And.intro rfl ?_)))
                     | (refine Exists.intro _ (And.intro rfl ?_))
                     | (refine Exists.intro _ (Exists.intro _ (Exists.intro _ (Exists.intro _ (And.intro rfl ?_)))))
                     | (refine ld_step rfl (by assumption) rfl ?_)
                     | (refine lds_step rfl (by assumption) rfl ?_)
                     | (refine fL_mk ?_)
                     | (refine fH_mk ?_)
                     | (refine fN_mk ?_)
                     | (refine fLB_mk ?_)
                     | (refine And.intro (by repeat (first | assumption | refine GLB_app ?_)) ?_)
                     | (refine ld_step rfl ((rd_x0 _ _ _ _ _).trans rfl) rfl ?_)
                     | (refine ld_step rfl ((rd_x1 _ _ _ _ _ _).trans rfl) rfl ?_)
                     | (refine ld_step rfl ((rd_x2 _ _ _ _ _ _ _).trans rfl) rfl ?_)
                     | (refine lds_step rfl ((rd_x0 _ _ _ _ _).trans rfl) rfl ?_)
                     | (refine lds_step rfl ((rd_x1 _ _ _ _ _ _).trans rfl) rfl ?_)
                     | (refine lds_step rfl ((rd_x2 _ _ _ _ _ _ _).trans rfl) rfl ?_)
                     | (refine mem_step (st_eq rfl rfl rfl rfl (wr_last _ _ _ _ rfl)) ?_)
                     | (refine drec_yes (by omega) ?_)
                     | (refine drec_no (by omega) ?_)
                     | (intro _)
                     | fail)
            conv => whnf
            subst hz
            exact kn1 hlt1 _ _ _ _ _ rfl ⟨rfl, rfl, rfl, rfl⟩
      · clear kn1
        repeat' (conv => whnf
                 first
                 | (refine Stop.mk ?_)
                 | (refine fI_i64 (by first | omega | (simp only [Int.ofNat_eq_natCast] at *; omega)) ?_; intro z hz)
                 | (refine fI_u32 (by first | omega | (simp only [Int.ofNat_eq_natCast] at *; omega)) ?_; intro z hz)
                 | (refine fI_u8 (by first | omega | (simp only [Int.ofNat_eq_natCast] at *; omega)) ?_; intro z hz)
                 | (refine fI_u64 (by first | omega | (simp only [Int.ofNat_eq_natCast] at *; omega)) ?_; intro z hz)
                 | (refine fI_tdiv (by first | omega | (simp only [Int.ofNat_eq_natCast] at *; omega)) ?_; intro z hz)
                 | (refine fI_tmod (by first | omega | (simp only [Int.ofNat_eq_natCast] at *; omega)) ?_; intro z hz)
                 | (refine fI_gen ?_; intro z hz)
                 | (refine fO_gen ?_; intro z hz)
                 | (refine kx1 _ _ _ _ _ _ ?_)
                 | (refine dec_true (by assumption) ?_)
                 | (refine dec_false (by assumption) ?_)
                 | (refine dec_split (fun h => ?_) (fun h => ?_))
                 | (apply silE)
                 | (exact And.intro rfl (And.intro rfl (And.intro rfl rfl)))
                 | (refine And.intro (by first | omega | ((simp only [decide_eq_true_eq, decide_eq_false_iff_not, Bool.and_eq_true, beq_iff_eq, Bool.not_eq_true', Bool.not_eq_false'] at *); omega) | (subst_vars; simp only [Int.ofNat_eq_natCast, tq_not, fq_not, tq_and, fq_and, tq_or, fq_or, tq_beq, fq_beq, tq_bne, fq_bne, tq_dec, fq_dec, one1, V.tup.injEq, V.agg.injEq, List.cons.injEq, V.int.injEq, V.bool.injEq, true_and, and_true, decide_eq_true_eq, decide_eq_false_iff_not, Bool.and_eq_true, Bool.and_eq_false_iff, Bool.or_eq_true, Bool.or_eq_false_iff, Bool.not_eq_true', Bool.not_eq_false', beq_iff_eq, wrap_u32, wrap_i64, wrap_u8, beq_eq_false_iff_ne, ne_eq, bne_iff_ne, bne_eq_false_iff_eq, eq_self, and_self, splice, V.cells, List.take_succ_cons, List.take_zero, List.take_nil, List.drop_zero, List.drop_succ_cons, List.drop_nil, List.cons_append, List.nil_append, List.append_nil, List.length_cons, List.length_nil, Nat.zero_add, Nat.reduceAdd, if_true, if_false, Bool.false_eq_true, beq_self_eq_true, decide_eq_decide, Bool.true_eq_false, or_false, false_or, or_true, true_or, and_false, false_and, not_true_eq_false, not_false_eq_true, Bool.and_true, Bool.true_and, Bool.not_true, Bool.not_false] at *; omega)) ?_)
                 | (refine Exists.intro _ (Exists.intro _ (And.intro rfl ?_)))
                 | (refine Exists.intro _ (And.intro rfl ?_))
                 | (refine Exists.intro _ (Exists.intro _ (Exists.intro _ (Exists.intro _ (And.intro rfl ?_)))))
                 | (refine ld_step rfl (by assumption) rfl ?_)
                 | (refine lds_step rfl (by assumption) rfl ?_)
                 | (refine fL_mk ?_)
                 | (refine fH_mk ?_)
                 | (refine fN_mk ?_)
                 | (refine fLB_mk ?_)
                 | (refine And.intro (by repeat (first | assumption | refine GLB_app ?_)) ?_)
                 | (refine ld_step rfl ((rd_x0 _ _ _ _ _).trans rfl) rfl ?_)
                 | (refine ld_step rfl ((rd_x1 _ _ _ _ _ _).trans rfl) rfl ?_)
                 | (refine ld_step rfl ((rd_x2 _ _ _ _ _ _ _).trans rfl) rfl ?_)
                 | (refine lds_step rfl ((rd_x0 _ _ _ _ _).trans rfl) rfl ?_)
                 | (refine lds_step rfl ((rd_x1 _ _ _ _ _ _).trans rfl) rfl ?_)
                 | (refine lds_step rfl ((rd_x2 _ _ _ _ _ _ _).trans rfl) rfl ?_)
                 | (refine mem_step (st_eq rfl rfl rfl rfl (wr_last _ _ _ _ rfl)) ?_)
                 | (refine drec_yes (by omega) ?_)
                 | (refine drec_no (by omega) ?_)
                 | (intro _)
                 | fail)
        conv => whnf
        subst hz
        exact kn hlt _ _ _ _ _ rfl ⟨⟨ty, cs, rfl, hcl, hcv⟩, rfl, rfl, rfl⟩
    · clear kn
      repeat' (conv => whnf
               first
               | (refine Stop.mk ?_)
               | (refine fI_mk ?_)
               | (refine fO_mk ?_)
               | (refine fN_mk ?_)
               | (refine kx _ _ _ _ _ _ ?_)
               | fail)
      conv => whnf
      refine rLoop_ctrU (c := rC (tab [(8, s8), (10, s10), (11, s11), (12, s12), (13, s13)]) k l5_3) 40 6 (true :: false :: false :: false :: false :: false :: false :: false :: false :: false :: false :: false :: false :: false :: false :: false :: false :: false :: false :: false :: false :: false :: false :: false :: false :: false :: false :: false :: false :: false :: false :: false :: false :: false :: false :: false :: false :: false :: false :: false :: false :: false :: false :: false :: false :: false :: false :: false :: false :: false :: false :: false :: false :: false :: false :: false :: false :: false :: false :: false :: true :: true :: true :: true :: true :: true :: true :: true :: true :: false :: false :: false :: false :: false :: []) (fun i tm L H e g => H = Hx ++ [.rw ty cs] ∧ L = [] ∧ e = false ∧ g = true) (by omega) rfl ⟨rfl, rfl, rfl, rfl⟩ ?_
      intro i3 hi3
      conv => whnf
      intro j
      conv => whnf
      intro j
      conv => whnf
      intro j
      conv => whnf
      intro j
      conv => whnf
      intro j
      conv => whnf
      intro j
      conv => whnf
      intro j
      conv => whnf
      intro j
      conv => whnf
      intro j
      conv => whnf
      intro j
      conv => whnf
      refine Halt.mk ?_
      rintro L H' e g ⟨rfl, rfl, rfl, rfl⟩ K3 kn3 kx3 kr3
      repeat' (conv => whnf
               first
               | (refine Stop.mk ?_)
               | (refine fI_mk ?_)
               | (refine fO_mk ?_)
               | (refine fN_mk ?_)
               | fail)
      conv => whnf
      refine dec_split (fun h3 => ?_) (fun h3 => ?_)
      · have hlt3 : i3 < 40 := by have := of_decide_eq_true h3; omega
        clear kx3
        repeat' (conv => whnf
                 first
                 | (refine Stop.mk ?_)
                 | (refine fI_i64 (by first | omega | (simp only [Int.ofNat_eq_natCast] at *; omega)) ?_; intro z hz)
                 | (refine fI_u32 (by first | omega | (simp only [Int.ofNat_eq_natCast] at *; omega)) ?_; intro z hz)
                 | (refine fI_u8 (by first | omega | (simp only [Int.ofNat_eq_natCast] at *; omega)) ?_; intro z hz)
                 | (refine fI_u64 (by first | omega | (simp only [Int.ofNat_eq_natCast] at *; omega)) ?_; intro z hz)
                 | (refine fI_tdiv (by first | omega | (simp only [Int.ofNat_eq_natCast] at *; omega)) ?_; intro z hz)
                 | (refine fI_tmod (by first | omega | (simp only [Int.ofNat_eq_natCast] at *; omega)) ?_; intro z hz)
                 | (refine fI_gen ?_; intro z hz)
                 | (refine fO_gen ?_; intro z hz)
                 | (refine dec_true (by assumption) ?_)
                 | (refine dec_false (by assumption) ?_)
                 | (refine dec_trueH (by first | rfl | (subst_vars; simp only [Int.ofNat_eq_natCast, tq_not, fq_not, tq_and, fq_and, tq_or, fq_or, tq_beq, fq_beq, tq_bne, fq_bne, tq_dec, fq_dec, one1, V.tup.injEq, V.agg.injEq, List.cons.injEq, V.int.injEq, V.bool.injEq, true_and, and_true, decide_eq_true_eq, decide_eq_false_iff_not, Bool.and_eq_true, Bool.and_eq_false_iff, Bool.or_eq_true, Bool.or_eq_false_iff, Bool.not_eq_true', Bool.not_eq_false', beq_iff_eq, wrap_u32, wrap_i64, wrap_u8, beq_eq_false_iff_ne, ne_eq, bne_iff_ne, bne_eq_false_iff_eq, eq_self, and_self, splice, V.cells, List.take_succ_cons, List.take_zero, List.take_nil, List.drop_zero, List.drop_succ_cons, List.drop_nil, List.cons_append, List.nil_append, List.append_nil, List.length_cons, List.length_nil, Nat.zero_add, Nat.reduceAdd, if_true, if_false, Bool.false_eq_true, beq_self_eq_true, decide_eq_decide, Bool.true_eq_false, or_false, false_or, or_true, true_or, and_false, false_and, not_true_eq_false, not_false_eq_true, Bool.and_true, Bool.true_and, Bool.not_true, Bool.not_false] at *; first | done | assumption | omega)) (fun h => ?_))
                 | (refine dec_falseH (by first | rfl | (subst_vars; simp only [Int.ofNat_eq_natCast, tq_not, fq_not, tq_and, fq_and, tq_or, fq_or, tq_beq, fq_beq, tq_bne, fq_bne, tq_dec, fq_dec, one1, V.tup.injEq, V.agg.injEq, List.cons.injEq, V.int.injEq, V.bool.injEq, true_and, and_true, decide_eq_true_eq, decide_eq_false_iff_not, Bool.and_eq_true, Bool.and_eq_false_iff, Bool.or_eq_true, Bool.or_eq_false_iff, Bool.not_eq_true', Bool.not_eq_false', beq_iff_eq, wrap_u32, wrap_i64, wrap_u8, beq_eq_false_iff_ne, ne_eq, bne_iff_ne, bne_eq_false_iff_eq, eq_self, and_self, splice, V.cells, List.take_succ_cons, List.take_zero, List.take_nil, List.drop_zero, List.drop_succ_cons, List.drop_nil, List.cons_append, List.nil_append, List.append_nil, List.length_cons, List.length_nil, Nat.zero_add, Nat.reduceAdd, if_true, if_false, Bool.false_eq_true, beq_self_eq_true, decide_eq_decide, Bool.true_eq_false, or_false, false_or, or_true, true_or, and_false, false_and, not_true_eq_false, not_false_eq_true, Bool.and_true, Bool.true_and, Bool.not_true, Bool.not_false] at *; first | done | assumption | omega)) (fun h => ?_))
                 | (refine dec_split (fun h => ?_) (fun h => ?_))
                 | (apply silE)
                 | (exact And.intro rfl (And.intro rfl (And.intro rfl rfl)))
                 | (refine And.intro (by first | omega | ((simp only [decide_eq_true_eq, decide_eq_false_iff_not, Bool.and_eq_true, beq_iff_eq, Bool.not_eq_true', Bool.not_eq_false'] at *); omega) | (subst_vars; simp only [Int.ofNat_eq_natCast, tq_not, fq_not, tq_and, fq_and, tq_or, fq_or, tq_beq, fq_beq, tq_bne, fq_bne, tq_dec, fq_dec, one1, V.tup.injEq, V.agg.injEq, List.cons.injEq, V.int.injEq, V.bool.injEq, true_and, and_true, decide_eq_true_eq, decide_eq_false_iff_not, Bool.and_eq_true, Bool.and_eq_false_iff, Bool.or_eq_true, Bool.or_eq_false_iff, Bool.not_eq_true', Bool.not_eq_false', beq_iff_eq, wrap_u32, wrap_i64, wrap_u8, beq_eq_false_iff_ne, ne_eq, bne_iff_ne, bne_eq_false_iff_eq, eq_self, and_self, splice, V.cells, List.take_succ_cons, List.take_zero, List.take_nil, List.drop_zero, List.drop_succ_cons, List.drop_nil, List.cons_append, List.nil_append, List.append_nil, List.length_cons, List.length_nil, Nat.zero_add, Nat.reduceAdd, if_true, if_false, Bool.false_eq_true, beq_self_eq_true, decide_eq_decide, Bool.true_eq_false, or_false, false_or, or_true, true_or, and_false, false_and, not_true_eq_false, not_false_eq_true, Bool.and_true, Bool.true_and, Bool.not_true, Bool.not_false] at *; omega)) ?_)
                 | (refine Exists.intro _ (Exists.intro _ (And.intro rfl ?_)))
                 | (refine Exists.intro _ (And.intro rfl ?_))
                 | (refine Exists.intro _ (Exists.intro _ (Exists.intro _ (Exists.intro _ (And.intro rfl ?_)))))
                 | (refine ld_step rfl (by assumption) rfl ?_)
                 | (refine lds_step rfl (by assumption) rfl ?_)
                 | (refine fL_mk ?_)
                 | (refine fH_mk ?_)
                 | (refine fN_mk ?_)
                 | (refine fLB_mk ?_)
                 | (refine And.intro (by repeat (first | assumption | refine GLB_app ?_)) ?_)
                 | (refine ld_step rfl ((rd_x0 _ _ _ _ _).trans rfl) rfl ?_)
                 | (refine ld_step rfl ((rd_x1 _ _ _ _ _ _).trans rfl) rfl ?_)
                 | (refine ld_step rfl ((rd_x2 _ _ _ _ _ _ _).trans rfl) rfl ?_)
                 | (refine lds_step rfl ((rd_x0 _ _ _ _ _).trans rfl) rfl ?_)
                 | (refine lds_step rfl ((rd_x1 _ _ _ _ _ _).trans rfl) rfl ?_)
                 | (refine lds_step rfl ((rd_x2 _ _ _ _ _ _ _).trans rfl) rfl ?_)
                 | (refine mem_step (st_eq rfl rfl rfl rfl (wr_last _ _ _ _ rfl)) ?_)
                 | (refine drec_yes (by omega) ?_)
                 | (refine drec_no (by omega) ?_)
                 | (intro _)
                 | fail)
        conv => whnf
        subst hz
        exact kn3 hlt3 _ _ _ _ _ rfl ⟨rfl, rfl, rfl, rfl⟩
      · clear kn3
        repeat' (conv => whnf
                 first
                 | (refine Stop.mk ?_)
                 | (refine fI_i64 (by first | omega | (simp only [Int.ofNat_eq_natCast] at *; omega)) ?_; intro z hz)
                 | (refine fI_u32 (by first | omega | (simp only [Int.ofNat_eq_natCast] at *; omega)) ?_; intro z hz)
                 | (refine fI_u8 (by first | omega | (simp only [Int.ofNat_eq_natCast] at *; omega)) ?_; intro z hz)
                 | (refine fI_u64 (by first | omega | (simp only [Int.ofNat_eq_natCast] at *; omega)) ?_; intro z hz)
                 | (refine fI_tdiv (by first | omega | (simp only [Int.ofNat_eq_natCast] at *; omega)) ?_; intro z hz)
                 | (refine fI_tmod (by first | omega | (simp only [Int.ofNat_eq_natCast] at *; omega)) ?_; intro z hz)
                 | (refine fI_gen ?_; intro z hz)
                 | (refine fO_gen ?_; intro z hz)
                 | (refine kx3 _ _ _ _ _ _ ?_)
                 | (refine dec_true (by assumption) ?_)
                 | (refine dec_false (by assumption) ?_)
                 | (refine dec_split (fun h => ?_) (fun h => ?_))
                 | (apply silE)
                 | (exact And.intro rfl (And.intro rfl (And.intro rfl rfl)))
                 | (refine And.intro (by first | omega | ((simp only [decide_eq_true_eq, decide_eq_false_iff_not, Bool.and_eq_true, beq_iff_eq, Bool.not_eq_true', Bool.not_eq_false'] at *); omega) | (subst_vars; simp only [Int.ofNat_eq_natCast, tq_not, fq_not, tq_and, fq_and, tq_or, fq_or, tq_beq, fq_beq, tq_bne, fq_bne, tq_dec, fq_dec, one1, V.tup.injEq, V.agg.injEq, List.cons.injEq, V.int.injEq, V.bool.injEq, true_and, and_true, decide_eq_true_eq, decide_eq_false_iff_not, Bool.and_eq_true, Bool.and_eq_false_iff, Bool.or_eq_true, Bool.or_eq_false_iff, Bool.not_eq_true', Bool.not_eq_false', beq_iff_eq, wrap_u32, wrap_i64, wrap_u8, beq_eq_false_iff_ne, ne_eq, bne_iff_ne, bne_eq_false_iff_eq, eq_self, and_self, splice, V.cells, List.take_succ_cons, List.take_zero, List.take_nil, List.drop_zero, List.drop_succ_cons, List.drop_nil, List.cons_append, List.nil_append, List.append_nil, List.length_cons, List.length_nil, Nat.zero_add, Nat.reduceAdd, if_true, if_false, Bool.false_eq_true, beq_self_eq_true, decide_eq_decide, Bool.true_eq_false, or_false, false_or, or_true, true_or, and_false, false_and, not_true_eq_false, not_false_eq_true, Bool.and_true, Bool.true_and, Bool.not_true, Bool.not_false] at *; omega)) ?_)
                 | (refine Exists.intro _ (Exists.intro _ (And.intro rfl ?_)))
                 | (refine Exists.intro _ (And.intro rfl ?_))
                 | (refine Exists.intro _ (Exists.intro _ (Exists.intro _ (Exists.intro _ (And.intro rfl ?_)))))
                 | (refine ld_step rfl (by assumption) rfl ?_)
                 | (refine lds_step rfl (by assumption) rfl ?_)
                 | (refine fL_mk ?_)
                 | (refine fH_mk ?_)
                 | (refine fN_mk ?_)
                 | (refine fLB_mk ?_)
                 | (refine And.intro (by repeat (first | assumption | refine GLB_app ?_)) ?_)
                 | (refine ld_step rfl ((rd_x0 _ _ _ _ _).trans rfl) rfl ?_)
                 | (refine ld_step rfl ((rd_x1 _ _ _ _ _ _).trans rfl) rfl ?_)
                 | (refine ld_step rfl ((rd_x2 _ _ _ _ _ _ _).trans rfl) rfl ?_)
                 | (refine lds_step rfl ((rd_x0 _ _ _ _ _).trans rfl) rfl ?_)
                 | (refine lds_step rfl ((rd_x1 _ _ _ _ _ _).trans rfl) rfl ?_)
                 | (refine lds_step rfl ((rd_x2 _ _ _ _ _ _ _).trans rfl) rfl ?_)
                 | (refine mem_step (st_eq rfl rfl rfl rfl (wr_last _ _ _ _ rfl)) ?_)
                 | (refine drec_yes (by omega) ?_)
                 | (refine drec_no (by omega) ?_)
                 | (intro _)
                 | fail)
        conv => whnf
        exact leafH hq rfl List.take_left.symm
  · exact hs.elim
end Go.Ev
