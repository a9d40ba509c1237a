/- dev: WindowApart -/
import Derived.Test.YtjigfpogfppidaaDoorKasks8
set_option linter.all false
namespace Go.Ev
open Go Go.Proofs
set_option maxRecDepth 4000
set_option maxHeartbeats 4000000
theorem right_sub {l m : List D5} (h : rightL l) (hm : ∃ k : Nat, ∀ i (hi : i < m.length), ∃ hj : k + i < l.length, m[i] = l[k + i]'hj) (hl : m.length ≤ l.length) : rightL m := by
  obtain ⟨k, hk⟩ := hm
  refine ⟨fun d hd => ?_, by have := h.2.1; omega, fun i hi hi' => ?_⟩
  · obtain ⟨i, hi, rfl⟩ := List.getElem_of_mem hd
    obtain ⟨hj, he⟩ := hk i hi
    rw [he]; exact h.1 _ (List.getElem_mem hj)
  · obtain ⟨hj, he⟩ := hk i hi
    have h1 := h.2.2 (k + i) hj (by simpa using hj)
    rw [List.getElem_map] at h1
    rw [List.getElem_map, he]
    refine ⟨h1.1, fun j hjj => ?_⟩
    obtain ⟨hj2, he2⟩ := hk j (by omega)
    have h2 := h1.2 (k + j) (by omega)
    rw [List.getElem_map] at h2
    rw [List.getElem_map, he2]
    exact h2
theorem right_take {l : List D5} (h : rightL l) (k : Nat) : rightL (l.take k) :=
  right_sub h ⟨0, fun i hi => ⟨by rw [List.length_take] at hi; omega, by rw [List.getElem_take]; simp⟩⟩ (by rw [List.length_take]; omega)
theorem right_drop {l : List D5} (h : rightL l) (k : Nat) : rightL (l.drop k) :=
  right_sub h ⟨k, fun i hi => ⟨by rw [List.length_drop] at hi; omega, by rw [List.getElem_drop]⟩⟩ (by rw [List.length_drop]; omega)
/-- an address has one device alone -/
theorem has_one {l : List D5} (h : rightL l) {x : Int} {i j : Nat} (hi : i < l.length) (hj : j < l.length) (h1 : hasR x (dR l[i]) = true) (h2 : hasR x (dR l[j]) = true) : i = j := by
  have key : ∀ a b (ha : a < l.length) (hb : b < l.length), a < b → hasR x (dR l[a]) = true → hasR x (dR l[b]) = true → False := by
    intro a b ha hb hab h1 h2
    have h3 := (h.2.2 b hb (by simpa using hb)).2 a hab
    rw [List.getElem_map, List.getElem_map] at h3
    have e1 := of_decide_eq_true h1
    have e2 := of_decide_eq_true h2
    have e3 := of_decide_eq_false h3
    omega
  rcases Nat.lt_trichotomy i j with hh | hh | hh
  · exact (key i j hi hj hh h1 h2).elim
  · exact hh
  · exact (key j i hj hi hh h2 h1).elim
theorem dev_mod {k b n ow li : Int} (h : devP k b n ow li) : b % 4 = 0 ∧ (b + n - 1) % 4 = 3 ∧ n % 4 = 0 := by
  have h1 := h.1
  have h2 := h.2.1.2
  unfold szP at h1
  omega
theorem at_has {ds : List D5} {x i : Int} {y : Bool} (hR : rightL ds) (hx : y = true ↔ rightL ds ∧ 0 ≤ fstI (hasR x) (ds.map dR)) (hi : i = (if y then fstI (hasR x) (ds.map dR) else 0)) {q : Nat} (hq : q < ds.length) : hasR x (dR ds[q]) = (y && (i == (q : Int))) := by
  rcases dec_cases hx hi with ⟨rfl, rfl, hno⟩ | ⟨rfl, j, hj, rfl, hP, hF, _⟩
  · cases hv : hasR x (dR ds[q]) with
    | false => rfl
    | true =>
      exfalso
      apply hno
      refine ⟨hR, ?_⟩
      cases hf : (ds.map dR).findIdx? (hasR x) with
      | none =>
        rw [List.findIdx?_eq_none_iff] at hf
        have := hf (dR ds[q]) (List.mem_map.2 ⟨_, List.getElem_mem hq, rfl⟩)
        rw [this] at hv; cases hv
      | some k => unfold fstI; rw [hf]; simp
  · by_cases hjq : j = q
    · subst hjq; rw [hP]; simp
    · cases hv : hasR x (dR ds[q]) with
      | true => exact absurd (has_one hR hj hq hP hv) hjq
      | false => simp; omega
theorem rd_takeD {H : List B} {b o : Nat} {l : List D5} (h : RdD H (some (b, o)) l) (k : Nat) : rd H b o ((l.take k).length * 5) = some ((l.take k).flatMap encD) := by
  have h' : rd H b o (l.length * 5) = some (l.flatMap encD) := h
  have h2 := rd_sub h' 0 ((l.take k).length * 5) (by rw [List.length_take]; omega)
  rw [Nat.add_zero, List.drop_zero] at h2
  rw [h2]
  congr 1
  have : l.flatMap encD = (l.take k).flatMap encD ++ (l.drop k).flatMap encD := by rw [← List.flatMap_append, List.take_append_drop]
  rw [this, List.take_left' (flat_len encD_len _)]
theorem rd_dropD {H : List B} {b o : Nat} {l : List D5} (h : RdD H (some (b, o)) l) (k : Nat) (hk : k ≤ l.length) : rd H b (o + k * 5) ((l.drop k).length * 5) = some ((l.drop k).flatMap encD) := by
  have h' : rd H b o (l.length * 5) = some (l.flatMap encD) := h
  have h2 := rd_sub h' (k * 5) ((l.drop k).length * 5) (by rw [List.length_drop]; omega)
  rw [h2]
  congr 1
  have : l.flatMap encD = (l.take k).flatMap encD ++ (l.drop k).flatMap encD := by rw [← List.flatMap_append, List.take_append_drop]
  rw [this, List.drop_left' (by rw [flat_len encD_len, List.length_take]; omega)]
  rw [List.take_of_length_le (by rw [flat_len encD_len]; omega)]
/-- x[lo:] -/
theorem slcL_eq {tm : List SV} {esz : Nat} {x i : Opd} {b o len cp : Nat} {k : IntKind} {l : Int} (hx : x.val tm = some (.sl (some (b, o)) len cp)) (hi : i.val tm = some (.int k l)) (h0 : 0 ≤ l) (h1 : l ≤ (len : Int)) (h2 : len ≤ cp) (h3 : l < (cp : Int)) :
    pureOp tm (.slc esz x (some i) none) = some (.v (.sl (some (b, o + l.toNat * esz)) (len - l.toNat) (cp - l.toNat))) := by
  have e : ¬ cp = l.toNat := by omega
  have e3 : 0 ≤ l ∧ l ≤ (len : Int) := ⟨h0, h1⟩
  simp only [pureOp, hx, optV, hi, bnd, if_pos e3, if_neg e]
theorem slcN_H {tm : List SV} {esz : Nat} {x i : Opd} {len cp : Nat} {k : IntKind} {n : Int} (hx : x.val tm = some (.sl none len cp)) (hi : i.val tm = some (.int k n)) (h0 : 0 ≤ n) (h1 : n ≤ (cp : Int)) :
    pureOp tm (.slc esz x none (some i)) = some (.v (.sl none n.toNat cp)) := by
  simp only [pureOp, hx, optV, hi, bnd]
  rw [if_pos ⟨h0, h1⟩]
  simp
theorem slcN_L {tm : List SV} {esz : Nat} {x i : Opd} {len cp : Nat} {k : IntKind} {n : Int} (hx : x.val tm = some (.sl none len cp)) (hi : i.val tm = some (.int k n)) (h0 : 0 ≤ n) (h1 : n ≤ (len : Int)) :
    pureOp tm (.slc esz x (some i) none) = some (.v (.sl none (len - n.toNat) (cp - n.toNat))) := by
  simp only [pureOp, hx, optV, hi, bnd]
  rw [if_pos ⟨h0, h1⟩]
  simp
theorem slcL_all {tm : List SV} {esz : Nat} {x i : Opd} {b o len : Nat} {k : IntKind} {l : Int} (hx : x.val tm = some (.sl (some (b, o)) len len)) (hi : i.val tm = some (.int k l)) (hl : l = (len : Int)) :
    pureOp tm (.slc esz x (some i) none) = some (.v (.sl (some (b, o)) 0 0)) := by
  have h1 : 0 ≤ l ∧ l ≤ (len : Int) := by omega
  simp only [pureOp, hx, optV, hi, bnd, if_pos h1]
  have : l.toNat = len := by omega
  rw [if_pos this.symm, this]
  simp
def s6 : Sp := fun vs H Q => match vs with
  | [.sl p m c, .int .u32 x, .int .i64 y] => ((0 ≤ x ∧ x < 4294967296) ∧ (-9223372036854775808 ≤ y ∧ y < 9223372036854775808)) ∧ GLB H ∧ ∃ ds : List D5, m = ds.length ∧ m ≤ c ∧ (∀ d, d ∈ ds → okD d) ∧ RdD H p ds ∧ Q (.bool true) H false false
  | _ => False
theorem k6 : Snd Tryd.prog 1 6 s6 := by
  refine snd_of_ev (by kernel_rfl) (C := tab [(7, s7), (13, s13), (18, s18), (16, s16), (20, s20), (21, s21), (19, s19)]) (sndC_cons k7 (sndC_cons k13 (sndC_cons k18 (sndC_cons k16 (sndC_cons k20 (sndC_cons k21 (sndC_cons k19 (sndC_nil)))))))) x6 n6 c6 5000 ?_
  have hC : MonoC (tab [(7, s7), (13, s13), (18, s18), (16, s16), (20, s20), (21, s21), (19, s19)]) := monoC_cons m7 (monoC_cons m13 (monoC_cons m18 (monoC_cons m16 (monoC_cons m20 (monoC_cons m21 (monoC_cons m19 (monoC_nil)))))))
  intro vs Hx Q hs
  unfold s6 at hs
  split at hs
  · rename_i p m c x y
    obtain ⟨⟨px, py⟩, hg, ds, rfl, hc, hok, hr, hq⟩ := hs
    have hq' : Q (.bool true) Hx false false := hq
    by_cases hl : ds.length ≤ 100
    · have t1 : decide ((ds.length : Int) > 100) = false := decide_eq_false (by omega)
      have hl4 : ds.length ≤ 4096 := by omega
      by_cases hR : rightL ds
      · suffices hh : ∀ k, 4200 < k → evFun (tab [(7, s7), (13, s13), (18, s18), (16, s16), (20, s20), (21, s21), (19, s19)]) k e6 [.sl p ds.length c, .int .u32 x, .int .i64 y] Hx Q from hh _ (by omega)
        intro k hk
        refine evFun_in (tm := SV.v (.sl p ds.length c) :: SV.v (.int .u32 x) :: SV.v (.int .i64 y) :: undefV :: undefV :: undefV :: undefV :: undefV :: undefV :: undefV :: undefV :: undefV :: undefV :: undefV :: undefV :: undefV :: undefV :: undefV :: undefV :: undefV :: undefV :: undefV :: undefV :: undefV :: undefV :: undefV :: undefV :: undefV :: undefV :: undefV :: undefV :: undefV :: undefV :: undefV :: undefV :: undefV :: undefV :: undefV :: undefV :: undefV :: undefV :: undefV :: undefV :: undefV :: undefV :: undefV :: undefV :: undefV :: undefV :: undefV :: undefV :: undefV :: undefV :: undefV :: undefV :: undefV :: undefV :: undefV :: undefV :: undefV :: undefV :: undefV :: undefV :: undefV :: undefV :: undefV :: undefV :: undefV :: undefV :: undefV :: undefV :: undefV :: undefV :: undefV :: undefV :: undefV :: undefV :: undefV :: undefV :: undefV :: undefV :: undefV :: undefV :: undefV :: undefV :: undefV :: undefV :: undefV :: undefV :: undefV :: undefV :: undefV :: undefV :: undefV :: undefV :: undefV :: undefV :: undefV :: undefV :: []) rfl ?_
        show rC _ _ r6_0 _ _ _ _ _ _
        repeat' (conv => whnf
                 first
                 | (refine Stop.mk ?_)
                 | (refine fO_is t1 ?_)
                 | (with_reducible refine fI_is (a := (ds.length : Int)) rfl ?_)
                 | (refine fI_gen ?_; intro z hz)
                 | (refine fO_gen ?_; intro z hz)
                 | (refine And.intro hg ?_)
                 | (refine Exists.intro ds (And.intro rfl (And.intro hl4 (And.intro hok (And.intro hr ?_)))); intro xr hxr; obtain rfl : xr = true := hxr.2 hR)
                 | (refine Exists.intro ds (And.intro rfl (And.intro hl4 (And.intro hok (And.intro hr ?_)))); intro i1 x1 hx1 hi1; have hvv := fun q (hq : q < ds.length) => at_has hR hx1 hi1 hq; rcases dec_cases hx1 hi1 with ⟨rfl, rfl, hno⟩ | ⟨rfl, jd, hjd, rfl, hP, hF, _⟩)
                 | (refine dec_true (by assumption) ?_)
                 | (refine dec_false (by assumption) ?_)
                 | (refine dec_split (fun h => ?_) (fun h => ?_))
                 | (apply silE)
                 | (refine Both.mk ?_ ?_)
                 | (refine And.intro rfl ?_)
                 | (exact And.intro rfl (And.intro rfl (And.intro rfl rfl)))
                 | (refine And.intro (by first | omega | ((simp only [decide_eq_true_eq, decide_eq_false_iff_not, Bool.and_eq_true, beq_iff_eq, Bool.not_eq_true', Bool.not_eq_false'] at *); omega) | (subst_vars; simp only [Int.ofNat_eq_natCast, tq_not, fq_not, tq_and, fq_and, tq_or, fq_or, tq_beq, fq_beq, tq_bne, fq_bne, tq_dec, fq_dec, one1, V.tup.injEq, V.agg.injEq, List.cons.injEq, V.int.injEq, V.bool.injEq, true_and, and_true, decide_eq_true_eq, decide_eq_false_iff_not, Bool.and_eq_true, Bool.and_eq_false_iff, Bool.or_eq_true, Bool.or_eq_false_iff, Bool.not_eq_true', Bool.not_eq_false', beq_iff_eq, wrap_u32, wrap_i64, wrap_u8, beq_eq_false_iff_ne, ne_eq, bne_iff_ne, bne_eq_false_iff_eq, eq_self, and_self, splice, V.cells, List.take_succ_cons, List.take_zero, List.take_nil, List.drop_zero, List.drop_succ_cons, List.drop_nil, List.cons_append, List.nil_append, List.append_nil, List.length_cons, List.length_nil, Nat.zero_add, Nat.reduceAdd, if_true, if_false, Bool.false_eq_true, beq_self_eq_true, decide_eq_decide, Bool.true_eq_false, or_false, false_or, or_true, true_or, and_false, false_and, not_true_eq_false, not_false_eq_true, Bool.and_true, Bool.true_and, Bool.not_true, Bool.not_false] at *; omega)) ?_)
                 | (refine Exists.intro _ (Exists.intro _ (And.intro rfl ?_)))
                 | (refine Exists.intro _ (And.intro rfl ?_))
                 | (refine Exists.intro _ (Exists.intro _ (Exists.intro _ (Exists.intro _ (And.intro rfl ?_)))))
                 | (refine ld_step rfl (by assumption) rfl ?_)
                 | (refine lds_step rfl (by assumption) rfl ?_)
                 | (refine fL_mk ?_)
                 | (refine fH_mk ?_)
                 | (refine fN_mk ?_)
                 | (refine fLB_mk ?_)
                 | (refine And.intro (by repeat (first | assumption | refine GLB_app ?_)) ?_)
                 | (refine ld_step rfl ((rd_x0 _ _ _ _ _).trans rfl) rfl ?_)
                 | (refine ld_step rfl ((rd_x1 _ _ _ _ _ _).trans rfl) rfl ?_)
                 | (refine ld_step rfl ((rd_x2 _ _ _ _ _ _ _).trans rfl) rfl ?_)
                 | (refine lds_step rfl ((rd_x0 _ _ _ _ _).trans rfl) rfl ?_)
                 | (refine lds_step rfl ((rd_x1 _ _ _ _ _ _).trans rfl) rfl ?_)
                 | (refine lds_step rfl ((rd_x2 _ _ _ _ _ _ _).trans rfl) rfl ?_)
                 | (refine mem_step (st_eq rfl rfl rfl rfl (wr_last _ _ _ _ rfl)) ?_)
                 | (refine drec_yes (by omega) ?_)
                 | (refine drec_no (by omega) ?_)
                 | (intro _)
                 | fail)
        · skip
          repeat' (conv => whnf
                   first
                   | (refine Stop.mk ?_)
                   | (refine fI_mk ?_)
                   | (refine fO_mk ?_)
                   | (refine fN_mk ?_)
                   | fail)
          conv => whnf
          refine rLoop_ctr (c := rC (tab [(7, s7), (13, s13), (18, s18), (16, s16), (20, s20), (21, s21), (19, s19)]) k l6_0) ds.length 9 (false :: false :: false :: false :: false :: false :: true :: false :: false :: false :: true :: true :: false :: false :: false :: false :: false :: false :: false :: false :: false :: false :: false :: false :: false :: false :: false :: false :: false :: true :: true :: true :: true :: true :: true :: true :: true :: true :: true :: true :: true :: true :: true :: true :: true :: true :: true :: true :: true :: true :: true :: true :: true :: true :: true :: true :: true :: true :: true :: true :: true :: true :: true :: true :: true :: true :: true :: true :: true :: true :: true :: true :: true :: true :: true :: true :: true :: true :: true :: false :: false :: false :: false :: false :: false :: false :: false :: false :: false :: false :: false :: false :: false :: false :: false :: false :: false :: false :: false :: []) (fun i tm L H e g => H = Hx ∧ e = false ∧ g = false) (by omega) rfl ⟨rfl, rfl, rfl⟩ ?_
          intro i0 hi0
          conv => whnf
          intro j
          conv => whnf
          intro j
          conv => whnf
          intro j
          conv => whnf
          intro j
          conv => whnf
          intro j
          conv => whnf
          intro j
          conv => whnf
          intro j
          conv => whnf
          intro j
          conv => whnf
          intro j
          conv => whnf
          intro j
          conv => whnf
          intro j
          conv => whnf
          intro j
          conv => whnf
          intro j
          conv => whnf
          intro j
          conv => whnf
          intro j
          conv => whnf
          intro j
          conv => whnf
          intro j
          conv => whnf
          intro j
          conv => whnf
          intro j
          conv => whnf
          intro j
          conv => whnf
          intro j
          conv => whnf
          intro j
          conv => whnf
          intro j
          conv => whnf
          intro j
          conv => whnf
          intro j
          conv => whnf
          intro j
          conv => whnf
          intro j
          conv => whnf
          intro j
          conv => whnf
          intro j
          conv => whnf
          intro j
          conv => whnf
          intro j
          conv => whnf
          intro j
          conv => whnf
          intro j
          conv => whnf
          intro j
          conv => whnf
          intro j
          conv => whnf
          intro j
          conv => whnf
          intro j
          conv => whnf
          intro j
          conv => whnf
          intro j
          conv => whnf
          intro j
          conv => whnf
          intro j
          conv => whnf
          intro j
          conv => whnf
          intro j
          conv => whnf
          intro j
          conv => whnf
          intro j
          conv => whnf
          intro j
          conv => whnf
          intro j
          conv => whnf
          intro j
          conv => whnf
          intro j
          conv => whnf
          intro j
          conv => whnf
          intro j
          conv => whnf
          intro j
          conv => whnf
          intro j
          conv => whnf
          refine Halt.mk ?_
          rintro Lx H' e g ⟨rfl, rfl, rfl⟩ K kn kx kr
          repeat' (conv => whnf
                   first
                   | (refine Stop.mk ?_)
                   | (refine fI_mk ?_)
                   | (refine fO_mk ?_)
                   | (refine fN_mk ?_)
                   | fail)
          conv => whnf
          refine dec_split (fun h => ?_) (fun h => ?_)
          · have hlt : i0 < ds.length := by have := of_decide_eq_true h; omega
            obtain ⟨b, o, rfl⟩ := hr.some hlt
            clear kx kr
            have ea : ∀ p, p = o + i0 * 5 → rd H' b p 5 = some (encD ds[i0]) := fun p hp => rd_el encD_len hr i0 hlt p hp
            have en : ∀ p, p = o + i0 * 5 + 2 → rd H' b p 1 = some [.int .i64 ds[i0].n] := fun p hp => hp ▸ rd_sub (rd_el encD_len hr i0 hlt _ rfl) 2 1 (by decide)
            have hoi := hok ds[i0] (List.getElem_mem hlt)
            have hdk : dOk ds[i0] := hR.1 _ (List.getElem_mem hlt)
            have hv := hvv i0 hlt
            obtain ⟨d, hdd⟩ : ∃ d, d = ds[i0] := ⟨_, rfl⟩
            rw [← hdd] at ea en hoi hdk hv
            obtain ⟨dk, db, dn, dow, dli⟩ := d
            simp only [okD] at hoi
            have hdk' : devP dk db dn dow dli := hdk
            have hfit := dev_fit hdk'
            have hmod := dev_mod hdk'
            obtain ⟨de, hde⟩ : ∃ de, de = db + dn - 1 := ⟨_, rfl⟩
            have hi1 : (if devP dk db dn dow dli then db + dn - 1 else 0) = de := by rw [if_pos hdk', hde]
            have hsz : (if db ≤ de then de - db + 1 else 0) = dn := by rw [if_pos (by omega)]; omega
            have hvd : decide (db ≤ de ∧ db ≤ x ∧ x ≤ de) = false := by rw [hde]; exact hv
            have m1 : db.tmod 4 = 0 := by rw [Int.tmod_eq_emod_of_nonneg (by omega)]; exact hmod.1
            have m2 : de.tmod 4 = 3 := by rw [Int.tmod_eq_emod_of_nonneg (by omega)]; rw [hde]; exact hmod.2.1
            have ude : 0 ≤ de ∧ de < 4294967296 := by omega
            have hjj : (true == true) = true := rfl
            all_goals
              repeat' (conv => whnf
                       first
                       | (refine Stop.mk ?_)
                       | (refine fO_is (decide_eq_true hdk') ?_)
                       | (refine fI_is hi1 ?_)
                       | (refine fI_is (if_pos hdk') ?_)
                       | (refine fI_is hsz ?_)
                       | (refine fO_is hvd ?_)
                       | (refine fI_is m1 ?_)
                       | (refine fI_is m2 ?_)
                       | (refine fO_is (bne_self_eq_false _) ?_)
                       | (refine fO_is hjj ?_)
                       | (with_reducible refine fI_is (a := (0 : Int)) rfl ?_)
                       | (refine fI_i64 (by first | omega | (simp only [Int.ofNat_eq_natCast] at *; omega)) ?_; intro z hz)
                       | (refine fI_u32 (by first | omega | (simp only [Int.ofNat_eq_natCast] at *; omega)) ?_; intro z hz)
                       | (refine fI_u8 (by first | omega | (simp only [Int.ofNat_eq_natCast] at *; omega)) ?_; intro z hz)
                       | (refine fI_u64 (by first | omega | (simp only [Int.ofNat_eq_natCast] at *; omega)) ?_; intro z hz)
                       | (refine fI_tdiv (by first | omega | (simp only [Int.ofNat_eq_natCast] at *; omega)) ?_; intro z hz)
                       | (refine fI_tmod (by first | omega | (simp only [Int.ofNat_eq_natCast] at *; omega)) ?_; intro z hz)
                       | (refine fI_gen ?_; intro z hz)
                       | (refine fO_gen ?_; intro z hz)
                       | (refine pure_step (ixs_eq rfl rfl (by omega) (by omega)) ?_)
                       | (refine pure_step (rem_eq rfl rfl (by decide)) ?_)
                       | (refine ld_step rfl (ea _ (by first | omega | rfl)) rfl ?_)
                       | (refine ld_step rfl (en _ (by first | omega | rfl)) rfl ?_)
                       | (refine lds_step rfl (en _ (by first | omega | rfl)) rfl ?_)
                       | (refine mem_step (stl0_eq rfl rfl rfl rfl (Nat.le_refl _)) ?_)
                       | (refine mem_step (ldl_eq rfl (lget0 _ _) rfl rfl) ?_)
                       | (refine lds_mem (ldl_eq rfl (lget0 _ _) rfl rfl) ?_)
                       | (refine dec_true (by assumption) ?_)
                       | (refine dec_false (by assumption) ?_)
                       | ((with_reducible refine dec_trueH ?tst ?_); (case tst => (first | rfl | ((try clear hC); (try clear kn); (try clear kx); (try clear kr); (try clear kn1); (try clear kx1); (try clear kr1); (try clear kn2); (try clear kx2); (try clear kr2); (try clear kn3); (try clear kx3); (try clear kr3); subst_vars; simp only [Int.ofNat_eq_natCast, tq_not, fq_not, tq_and, fq_and, tq_or, fq_or, tq_beq, fq_beq, tq_bne, fq_bne, tq_dec, fq_dec, one1, V.tup.injEq, V.agg.injEq, List.cons.injEq, V.int.injEq, V.bool.injEq, true_and, and_true, decide_eq_true_eq, decide_eq_false_iff_not, Bool.and_eq_true, Bool.and_eq_false_iff, Bool.or_eq_true, Bool.or_eq_false_iff, Bool.not_eq_true', Bool.not_eq_false', beq_iff_eq, wrap_u32, wrap_i64, wrap_u8, beq_eq_false_iff_ne, ne_eq, bne_iff_ne, bne_eq_false_iff_eq, eq_self, and_self, splice, V.cells, List.take_succ_cons, List.take_zero, List.take_nil, List.drop_zero, List.drop_succ_cons, List.drop_nil, List.cons_append, List.nil_append, List.append_nil, List.length_cons, List.length_nil, Nat.zero_add, Nat.reduceAdd, if_true, if_false, Bool.false_eq_true, beq_self_eq_true, decide_eq_decide, Bool.true_eq_false, or_false, false_or, or_true, true_or, and_false, false_and, not_true_eq_false, not_false_eq_true, Bool.and_true, Bool.true_and, Bool.not_true, Bool.not_false] at *; first | done | assumption | omega))); intro h)
                       | ((with_reducible refine dec_falseH ?tst ?_); (case tst => (first | rfl | ((try clear hC); (try clear kn); (try clear kx); (try clear kr); (try clear kn1); (try clear kx1); (try clear kr1); (try clear kn2); (try clear kx2); (try clear kr2); (try clear kn3); (try clear kx3); (try clear kr3); subst_vars; simp only [Int.ofNat_eq_natCast, tq_not, fq_not, tq_and, fq_and, tq_or, fq_or, tq_beq, fq_beq, tq_bne, fq_bne, tq_dec, fq_dec, one1, V.tup.injEq, V.agg.injEq, List.cons.injEq, V.int.injEq, V.bool.injEq, true_and, and_true, decide_eq_true_eq, decide_eq_false_iff_not, Bool.and_eq_true, Bool.and_eq_false_iff, Bool.or_eq_true, Bool.or_eq_false_iff, Bool.not_eq_true', Bool.not_eq_false', beq_iff_eq, wrap_u32, wrap_i64, wrap_u8, beq_eq_false_iff_ne, ne_eq, bne_iff_ne, bne_eq_false_iff_eq, eq_self, and_self, splice, V.cells, List.take_succ_cons, List.take_zero, List.take_nil, List.drop_zero, List.drop_succ_cons, List.drop_nil, List.cons_append, List.nil_append, List.append_nil, List.length_cons, List.length_nil, Nat.zero_add, Nat.reduceAdd, if_true, if_false, Bool.false_eq_true, beq_self_eq_true, decide_eq_decide, Bool.true_eq_false, or_false, false_or, or_true, true_or, and_false, false_and, not_true_eq_false, not_false_eq_true, Bool.and_true, Bool.true_and, Bool.not_true, Bool.not_false] at *; first | done | assumption | omega))); intro h)
                       | (refine dec_split (fun h => ?_) (fun h => ?_))
                       | (apply silE)
                       | (refine Both.mk ?_ ?_)
                       | (refine And.intro rfl ?_)
                       | (exact And.intro rfl (And.intro rfl (And.intro rfl rfl)))
                       | (refine And.intro (by first | omega | ((simp only [decide_eq_true_eq, decide_eq_false_iff_not, Bool.and_eq_true, beq_iff_eq, Bool.not_eq_true', Bool.not_eq_false'] at *); omega) | (subst_vars; simp only [Int.ofNat_eq_natCast, tq_not, fq_not, tq_and, fq_and, tq_or, fq_or, tq_beq, fq_beq, tq_bne, fq_bne, tq_dec, fq_dec, one1, V.tup.injEq, V.agg.injEq, List.cons.injEq, V.int.injEq, V.bool.injEq, true_and, and_true, decide_eq_true_eq, decide_eq_false_iff_not, Bool.and_eq_true, Bool.and_eq_false_iff, Bool.or_eq_true, Bool.or_eq_false_iff, Bool.not_eq_true', Bool.not_eq_false', beq_iff_eq, wrap_u32, wrap_i64, wrap_u8, beq_eq_false_iff_ne, ne_eq, bne_iff_ne, bne_eq_false_iff_eq, eq_self, and_self, splice, V.cells, List.take_succ_cons, List.take_zero, List.take_nil, List.drop_zero, List.drop_succ_cons, List.drop_nil, List.cons_append, List.nil_append, List.append_nil, List.length_cons, List.length_nil, Nat.zero_add, Nat.reduceAdd, if_true, if_false, Bool.false_eq_true, beq_self_eq_true, decide_eq_decide, Bool.true_eq_false, or_false, false_or, or_true, true_or, and_false, false_and, not_true_eq_false, not_false_eq_true, Bool.and_true, Bool.true_and, Bool.not_true, Bool.not_false] at *; omega)) ?_)
                       | (refine Exists.intro _ (Exists.intro _ (And.intro rfl ?_)))
                       | (refine Exists.intro _ (And.intro rfl ?_))
                       | (refine Exists.intro _ (Exists.intro _ (Exists.intro _ (Exists.intro _ (And.intro rfl ?_)))))
                       | (refine ld_step rfl (by assumption) rfl ?_)
                       | (refine lds_step rfl (by assumption) rfl ?_)
                       | (refine fL_mk ?_)
                       | (refine fH_mk ?_)
                       | (refine fN_mk ?_)
                       | (refine fLB_mk ?_)
                       | (refine And.intro (by repeat (first | assumption | refine GLB_app ?_)) ?_)
                       | (refine ld_step rfl ((rd_x0 _ _ _ _ _).trans rfl) rfl ?_)
                       | (refine ld_step rfl ((rd_x1 _ _ _ _ _ _).trans rfl) rfl ?_)
                       | (refine ld_step rfl ((rd_x2 _ _ _ _ _ _ _).trans rfl) rfl ?_)
                       | (refine lds_step rfl ((rd_x0 _ _ _ _ _).trans rfl) rfl ?_)
                       | (refine lds_step rfl ((rd_x1 _ _ _ _ _ _).trans rfl) rfl ?_)
                       | (refine lds_step rfl ((rd_x2 _ _ _ _ _ _ _).trans rfl) rfl ?_)
                       | (refine mem_step (st_eq rfl rfl rfl rfl (wr_last _ _ _ _ rfl)) ?_)
                       | (refine drec_yes (by omega) ?_)
                       | (refine drec_no (by omega) ?_)
                       | (intro _)
                       | fail)
              all_goals (conv => whnf)
              all_goals first
                | (subst hz; exact kn hlt _ _ _ _ _ rfl ⟨rfl, rfl, rfl⟩)
                | (exfalso; clear kn; subst_vars; simp at *; done)
          · clear kn kr
            have w1 : IntKind.i64.wrap ((ds.length : Int) + 1) = (ds.length : Int) + 1 := wrap_i64_id (by omega) (by omega)
            have t16 : decide ((ds.length : Int) ≤ 16) = true := decide_eq_true (by have := hR.2.1; omega)
            have hpk : (-9223372036854775808 ≤ y ∧ y < 9223372036854775808) ∧ 1 ≤ (ds.length : Int) + 1 ∧ (ds.length : Int) + 1 ≤ 4294967296 := by omega
            obtain ⟨kk, hkk, hkl⟩ : ∃ kk : Nat, y % ((ds.length : Int) + 1) = (kk : Int) ∧ kk ≤ ds.length := by
              have e1 := Int.emod_nonneg y (show (ds.length : Int) + 1 ≠ 0 by omega)
              have e2 := Int.emod_lt_of_pos y (show 0 < (ds.length : Int) + 1 by omega)
              exact ⟨(y % ((ds.length : Int) + 1)).toNat, by omega, by omega⟩
            have hT := right_take hR kk
            have hD := right_drop hR kk
            have okT : ∀ d, d ∈ ds.take kk → okD d := fun d hd => hok d (List.mem_of_mem_take hd)
            have okDr : ∀ d, d ∈ ds.drop kk → okD d := fun d hd => hok d (List.mem_of_mem_drop hd)
            have lT : (ds.take kk).length = kk := by rw [List.length_take]; omega
            have lD : (ds.drop kk).length = ds.length - kk := List.length_drop
            rcases p with _ | ⟨b, o⟩
            · obtain rfl : ds = [] := hr
              obtain rfl : kk = 0 := by simpa using hkl
              have hkz : y % ((([] : List D5).length : Int) + 1) = 0 := hkk
              rcases c with _ | c
              all_goals
                repeat' (conv => whnf
                         first
                         | (refine Stop.mk ?_)
                         | (refine fI_is w1 ?_)
                         | (refine fI_is hkz ?_)
                         | (refine fI_gen ?_; intro z hz)
                         | (refine fO_gen ?_; intro z hz)
                         | (refine And.intro hpk ?_)
                         | (refine kx _ _ _ _ _ _ ?_)
                         | (refine pure_step (slcN_H rfl rfl (by decide) (by omega)) ?_)
                         | (refine pure_step (slcN_L rfl rfl (by decide) (by decide)) ?_)
                         | (refine Exists.intro ([] : List D5) (And.intro rfl (And.intro (by simp) (And.intro (fun d hd => by cases hd) (And.intro rfl ?_)))); intro xr hxr; obtain rfl : xr = true := hxr.2 hR)
                         | (refine dec_true (by assumption) ?_)
                         | (refine dec_false (by assumption) ?_)
                         | (refine dec_split (fun h => ?_) (fun h => ?_))
                         | (apply silE)
                         | (refine Both.mk ?_ ?_)
                         | (refine And.intro rfl ?_)
                         | (exact And.intro rfl (And.intro rfl (And.intro rfl rfl)))
                         | (refine And.intro (by first | omega | ((simp only [decide_eq_true_eq, decide_eq_false_iff_not, Bool.and_eq_true, beq_iff_eq, Bool.not_eq_true', Bool.not_eq_false'] at *); omega) | (subst_vars; simp only [Int.ofNat_eq_natCast, tq_not, fq_not, tq_and, fq_and, tq_or, fq_or, tq_beq, fq_beq, tq_bne, fq_bne, tq_dec, fq_dec, one1, V.tup.injEq, V.agg.injEq, List.cons.injEq, V.int.injEq, V.bool.injEq, true_and, and_true, decide_eq_true_eq, decide_eq_false_iff_not, Bool.and_eq_true, Bool.and_eq_false_iff, Bool.or_eq_true, Bool.or_eq_false_iff, Bool.not_eq_true', Bool.not_eq_false', beq_iff_eq, wrap_u32, wrap_i64, wrap_u8, beq_eq_false_iff_ne, ne_eq, bne_iff_ne, bne_eq_false_iff_eq, eq_self, and_self, splice, V.cells, List.take_succ_cons, List.take_zero, List.take_nil, List.drop_zero, List.drop_succ_cons, List.drop_nil, List.cons_append, List.nil_append, List.append_nil, List.length_cons, List.length_nil, Nat.zero_add, Nat.reduceAdd, if_true, if_false, Bool.false_eq_true, beq_self_eq_true, decide_eq_decide, Bool.true_eq_false, or_false, false_or, or_true, true_or, and_false, false_and, not_true_eq_false, not_false_eq_true, Bool.and_true, Bool.true_and, Bool.not_true, Bool.not_false] at *; omega)) ?_)
                         | (refine Exists.intro _ (Exists.intro _ (And.intro rfl ?_)))
                         | (refine Exists.intro _ (And.intro rfl ?_))
                         | (refine Exists.intro _ (Exists.intro _ (Exists.intro _ (Exists.intro _ (And.intro rfl ?_)))))
                         | (refine ld_step rfl (by assumption) rfl ?_)
                         | (refine lds_step rfl (by assumption) rfl ?_)
                         | (refine fL_mk ?_)
                         | (refine fH_mk ?_)
                         | (refine fN_mk ?_)
                         | (refine fLB_mk ?_)
                         | (refine And.intro (by repeat (first | assumption | refine GLB_app ?_)) ?_)
                         | (refine ld_step rfl ((rd_x0 _ _ _ _ _).trans rfl) rfl ?_)
                         | (refine ld_step rfl ((rd_x1 _ _ _ _ _ _).trans rfl) rfl ?_)
                         | (refine ld_step rfl ((rd_x2 _ _ _ _ _ _ _).trans rfl) rfl ?_)
                         | (refine lds_step rfl ((rd_x0 _ _ _ _ _).trans rfl) rfl ?_)
                         | (refine lds_step rfl ((rd_x1 _ _ _ _ _ _).trans rfl) rfl ?_)
                         | (refine lds_step rfl ((rd_x2 _ _ _ _ _ _ _).trans rfl) rfl ?_)
                         | (refine mem_step (st_eq rfl rfl rfl rfl (wr_last _ _ _ _ rfl)) ?_)
                         | (refine drec_yes (by omega) ?_)
                         | (refine drec_no (by omega) ?_)
                         | (intro _)
                         | fail)
                all_goals (conv => whnf)
                all_goals exact leafE hq' rfl
            · have rT : rd H' b o ((ds.take kk).length * 5) = some ((ds.take kk).flatMap encD) := rd_takeD hr kk
              have rD : rd H' b (o + kk * 5) ((ds.drop kk).length * 5) = some ((ds.drop kk).flatMap encD) := rd_dropD hr kk hkl
              by_cases hkc : kk < c
              · repeat' (conv => whnf
                         first
                         | (refine Stop.mk ?_)
                         | (refine fI_is w1 ?_)
                         | (with_reducible refine fI_is (a := (ds.length : Int)) rfl ?_)
                         | (refine fI_is hkk ?_)
                         | (refine fO_is t16 ?_)
                         | (refine fI_gen ?_; intro z hz)
                         | (refine fO_gen ?_; intro z hz)
                         | (refine And.intro hpk ?_)
                         | (refine kx _ _ _ _ _ _ ?_)
                         | (refine pure_step (slcH_eq rfl rfl (by omega) (by omega)) ?_)
                         | (refine pure_step (slcL_eq rfl rfl (by omega) (by omega) hc (by omega)) ?_)
                         | (refine Exists.intro (ds.take kk) (And.intro (by rw [lT]; omega) (And.intro (by omega) (And.intro okT (And.intro rT ?_)))); intro xr hxr; obtain rfl : xr = true := hxr.2 hT)
                         | (refine Exists.intro (ds.drop kk) (And.intro (by rw [lD]; omega) (And.intro (by omega) (And.intro okDr (And.intro rD ?_)))); intro xr hxr; obtain rfl : xr = true := hxr.2 hD)
                         | (refine dec_true (by assumption) ?_)
                         | (refine dec_false (by assumption) ?_)
                         | (refine dec_split (fun h => ?_) (fun h => ?_))
                         | (apply silE)
                         | (refine Both.mk ?_ ?_)
                         | (refine And.intro rfl ?_)
                         | (exact And.intro rfl (And.intro rfl (And.intro rfl rfl)))
                         | (refine And.intro (by first | omega | ((simp only [decide_eq_true_eq, decide_eq_false_iff_not, Bool.and_eq_true, beq_iff_eq, Bool.not_eq_true', Bool.not_eq_false'] at *); omega) | (subst_vars; simp only [Int.ofNat_eq_natCast, tq_not, fq_not, tq_and, fq_and, tq_or, fq_or, tq_beq, fq_beq, tq_bne, fq_bne, tq_dec, fq_dec, one1, V.tup.injEq, V.agg.injEq, List.cons.injEq, V.int.injEq, V.bool.injEq, true_and, and_true, decide_eq_true_eq, decide_eq_false_iff_not, Bool.and_eq_true, Bool.and_eq_false_iff, Bool.or_eq_true, Bool.or_eq_false_iff, Bool.not_eq_true', Bool.not_eq_false', beq_iff_eq, wrap_u32, wrap_i64, wrap_u8, beq_eq_false_iff_ne, ne_eq, bne_iff_ne, bne_eq_false_iff_eq, eq_self, and_self, splice, V.cells, List.take_succ_cons, List.take_zero, List.take_nil, List.drop_zero, List.drop_succ_cons, List.drop_nil, List.cons_append, List.nil_append, List.append_nil, List.length_cons, List.length_nil, Nat.zero_add, Nat.reduceAdd, if_true, if_false, Bool.false_eq_true, beq_self_eq_true, decide_eq_decide, Bool.true_eq_false, or_false, false_or, or_true, true_or, and_false, false_and, not_true_eq_false, not_false_eq_true, Bool.and_true, Bool.true_and, Bool.not_true, Bool.not_false] at *; omega)) ?_)
                         | (refine Exists.intro _ (Exists.intro _ (And.intro rfl ?_)))
                         | (refine Exists.intro _ (And.intro rfl ?_))
                         | (refine Exists.intro _ (Exists.intro _ (Exists.intro _ (Exists.intro _ (And.intro rfl ?_)))))
                         | (refine ld_step rfl (by assumption) rfl ?_)
                         | (refine lds_step rfl (by assumption) rfl ?_)
                         | (refine fL_mk ?_)
                         | (refine fH_mk ?_)
                         | (refine fN_mk ?_)
                         | (refine fLB_mk ?_)
                         | (refine And.intro (by repeat (first | assumption | refine GLB_app ?_)) ?_)
                         | (refine ld_step rfl ((rd_x0 _ _ _ _ _).trans rfl) rfl ?_)
                         | (refine ld_step rfl ((rd_x1 _ _ _ _ _ _).trans rfl) rfl ?_)
                         | (refine ld_step rfl ((rd_x2 _ _ _ _ _ _ _).trans rfl) rfl ?_)
                         | (refine lds_step rfl ((rd_x0 _ _ _ _ _).trans rfl) rfl ?_)
                         | (refine lds_step rfl ((rd_x1 _ _ _ _ _ _).trans rfl) rfl ?_)
                         | (refine lds_step rfl ((rd_x2 _ _ _ _ _ _ _).trans rfl) rfl ?_)
                         | (refine mem_step (st_eq rfl rfl rfl rfl (wr_last _ _ _ _ rfl)) ?_)
                         | (refine drec_yes (by omega) ?_)
                         | (refine drec_no (by omega) ?_)
                         | (intro _)
                         | fail)
                all_goals (conv => whnf)
                all_goals exact leafE hq' rfl
              · obtain rfl : c = ds.length := by omega
                obtain rfl : kk = ds.length := by omega
                have rd0 : rd H' b o ((ds.drop ds.length).length * 5) = some ((ds.drop ds.length).flatMap encD) := by
                  have h2 := rd_sub (show rd H' b o (ds.length * 5) = some (ds.flatMap encD) from hr) 0 0 (by omega)
                  simpa using h2
                repeat' (conv => whnf
                         first
                         | (refine Stop.mk ?_)
                         | (refine fI_is w1 ?_)
                         | (with_reducible refine fI_is (a := (ds.length : Int)) rfl ?_)
                         | (refine fI_is hkk ?_)
                         | (refine fO_is t16 ?_)
                         | (refine fI_gen ?_; intro z hz)
                         | (refine fO_gen ?_; intro z hz)
                         | (refine And.intro hpk ?_)
                         | (refine kx _ _ _ _ _ _ ?_)
                         | (refine pure_step (slcH_eq rfl rfl (by omega) (by omega)) ?_)
                         | (refine pure_step (slcL_all rfl rfl rfl) ?_)
                         | (refine Exists.intro (ds.drop ds.length) (And.intro (List.length_drop.trans (Nat.sub_self _)).symm (And.intro (Nat.le_trans (Nat.le_of_eq (List.length_drop.trans (Nat.sub_self _))) (Nat.zero_le _)) (And.intro okDr (And.intro rd0 ?_)))); intro xr hxr; obtain rfl : xr = true := hxr.2 hD)
                         | (refine Exists.intro (ds.take ds.length) (And.intro (by rw [lT]; omega) (And.intro (by omega) (And.intro okT (And.intro rT ?_)))); intro xr hxr; obtain rfl : xr = true := hxr.2 hT)
                         | (refine dec_true (by assumption) ?_)
                         | (refine dec_false (by assumption) ?_)
                         | (refine dec_split (fun h => ?_) (fun h => ?_))
                         | (apply silE)
                         | (refine Both.mk ?_ ?_)
                         | (refine And.intro rfl ?_)
                         | (exact And.intro rfl (And.intro rfl (And.intro rfl rfl)))
                         | (refine And.intro (by first | omega | ((simp only [decide_eq_true_eq, decide_eq_false_iff_not, Bool.and_eq_true, beq_iff_eq, Bool.not_eq_true', Bool.not_eq_false'] at *); omega) | (subst_vars; simp only [Int.ofNat_eq_natCast, tq_not, fq_not, tq_and, fq_and, tq_or, fq_or, tq_beq, fq_beq, tq_bne, fq_bne, tq_dec, fq_dec, one1, V.tup.injEq, V.agg.injEq, List.cons.injEq, V.int.injEq, V.bool.injEq, true_and, and_true, decide_eq_true_eq, decide_eq_false_iff_not, Bool.and_eq_true, Bool.and_eq_false_iff, Bool.or_eq_true, Bool.or_eq_false_iff, Bool.not_eq_true', Bool.not_eq_false', beq_iff_eq, wrap_u32, wrap_i64, wrap_u8, beq_eq_false_iff_ne, ne_eq, bne_iff_ne, bne_eq_false_iff_eq, eq_self, and_self, splice, V.cells, List.take_succ_cons, List.take_zero, List.take_nil, List.drop_zero, List.drop_succ_cons, List.drop_nil, List.cons_append, List.nil_append, List.append_nil, List.length_cons, List.length_nil, Nat.zero_add, Nat.reduceAdd, if_true, if_false, Bool.false_eq_true, beq_self_eq_true, decide_eq_decide, Bool.true_eq_false, or_false, false_or, or_true, true_or, and_false, false_and, not_true_eq_false, not_false_eq_true, Bool.and_true, Bool.true_and, Bool.not_true, Bool.not_false] at *; omega)) ?_)
                         | (refine Exists.intro _ (Exists.intro _ (And.intro rfl ?_)))
                         | (refine Exists.intro _ (And.intro rfl ?_))
                         | (refine Exists.intro _ (Exists.intro _ (Exists.intro _ (Exists.intro _ (And.intro rfl ?_)))))
                         | (refine ld_step rfl (by assumption) rfl ?_)
                         | (refine lds_step rfl (by assumption) rfl ?_)
                         | (refine fL_mk ?_)
                         | (refine fH_mk ?_)
                         | (refine fN_mk ?_)
                         | (refine fLB_mk ?_)
                         | (refine And.intro (by repeat (first | assumption | refine GLB_app ?_)) ?_)
                         | (refine ld_step rfl ((rd_x0 _ _ _ _ _).trans rfl) rfl ?_)
                         | (refine ld_step rfl ((rd_x1 _ _ _ _ _ _).trans rfl) rfl ?_)
                         | (refine ld_step rfl ((rd_x2 _ _ _ _ _ _ _).trans rfl) rfl ?_)
                         | (refine lds_step rfl ((rd_x0 _ _ _ _ _).trans rfl) rfl ?_)
                         | (refine lds_step rfl ((rd_x1 _ _ _ _ _ _).trans rfl) rfl ?_)
                         | (refine lds_step rfl ((rd_x2 _ _ _ _ _ _ _).trans rfl) rfl ?_)
                         | (refine mem_step (st_eq rfl rfl rfl rfl (wr_last _ _ _ _ rfl)) ?_)
                         | (refine drec_yes (by omega) ?_)
                         | (refine drec_no (by omega) ?_)
                         | (intro _)
                         | fail)
                all_goals (conv => whnf)
                all_goals exact leafE hq' rfl

        · skip
          repeat' (conv => whnf
                   first
                   | (refine Stop.mk ?_)
                   | (refine fI_mk ?_)
                   | (refine fO_mk ?_)
                   | (refine fN_mk ?_)
                   | fail)
          conv => whnf
          refine rLoop_ctr (c := rC (tab [(7, s7), (13, s13), (18, s18), (16, s16), (20, s20), (21, s21), (19, s19)]) k l6_0) ds.length 9 (false :: false :: false :: false :: false :: false :: true :: false :: false :: false :: true :: true :: false :: false :: false :: false :: false :: false :: false :: false :: false :: false :: false :: false :: false :: false :: false :: false :: false :: true :: true :: true :: true :: true :: true :: true :: true :: true :: true :: true :: true :: true :: true :: true :: true :: true :: true :: true :: true :: true :: true :: true :: true :: true :: true :: true :: true :: true :: true :: true :: true :: true :: true :: true :: true :: true :: true :: true :: true :: true :: true :: true :: true :: true :: true :: true :: true :: true :: true :: false :: false :: false :: false :: false :: false :: false :: false :: false :: false :: false :: false :: false :: false :: false :: false :: false :: false :: false :: false :: []) (fun i tm L H e g => H = Hx ∧ e = false ∧ g = false) (by omega) rfl ⟨rfl, rfl, rfl⟩ ?_
          intro i0 hi0
          conv => whnf
          intro j
          conv => whnf
          intro j
          conv => whnf
          intro j
          conv => whnf
          intro j
          conv => whnf
          intro j
          conv => whnf
          intro j
          conv => whnf
          intro j
          conv => whnf
          intro j
          conv => whnf
          intro j
          conv => whnf
          intro j
          conv => whnf
          intro j
          conv => whnf
          intro j
          conv => whnf
          intro j
          conv => whnf
          intro j
          conv => whnf
          intro j
          conv => whnf
          intro j
          conv => whnf
          intro j
          conv => whnf
          intro j
          conv => whnf
          intro j
          conv => whnf
          intro j
          conv => whnf
          intro j
          conv => whnf
          intro j
          conv => whnf
          intro j
          conv => whnf
          intro j
          conv => whnf
          intro j
          conv => whnf
          intro j
          conv => whnf
          intro j
          conv => whnf
          intro j
          conv => whnf
          intro j
          conv => whnf
          intro j
          conv => whnf
          intro j
          conv => whnf
          intro j
          conv => whnf
          intro j
          conv => whnf
          intro j
          conv => whnf
          intro j
          conv => whnf
          intro j
          conv => whnf
          intro j
          conv => whnf
          intro j
          conv => whnf
          intro j
          conv => whnf
          intro j
          conv => whnf
          intro j
          conv => whnf
          intro j
          conv => whnf
          intro j
          conv => whnf
          intro j
          conv => whnf
          intro j
          conv => whnf
          intro j
          conv => whnf
          intro j
          conv => whnf
          intro j
          conv => whnf
          intro j
          conv => whnf
          intro j
          conv => whnf
          intro j
          conv => whnf
          intro j
          conv => whnf
          intro j
          conv => whnf
          refine Halt.mk ?_
          rintro Lx H' e g ⟨rfl, rfl, rfl⟩ K kn kx kr
          repeat' (conv => whnf
                   first
                   | (refine Stop.mk ?_)
                   | (refine fI_mk ?_)
                   | (refine fO_mk ?_)
                   | (refine fN_mk ?_)
                   | fail)
          conv => whnf
          refine dec_split (fun h => ?_) (fun h => ?_)
          · have hlt : i0 < ds.length := by have := of_decide_eq_true h; omega
            obtain ⟨b, o, rfl⟩ := hr.some hlt
            clear kx kr
            have ea : ∀ p, p = o + i0 * 5 → rd H' b p 5 = some (encD ds[i0]) := fun p hp => rd_el encD_len hr i0 hlt p hp
            have en : ∀ p, p = o + i0 * 5 + 2 → rd H' b p 1 = some [.int .i64 ds[i0].n] := fun p hp => hp ▸ rd_sub (rd_el encD_len hr i0 hlt _ rfl) 2 1 (by decide)
            have hoi := hok ds[i0] (List.getElem_mem hlt)
            have hdk : dOk ds[i0] := hR.1 _ (List.getElem_mem hlt)
            have hv := hvv i0 hlt
            obtain ⟨d, hdd⟩ : ∃ d, d = ds[i0] := ⟨_, rfl⟩
            rw [← hdd] at ea en hoi hdk hv
            obtain ⟨dk, db, dn, dow, dli⟩ := d
            simp only [okD] at hoi
            have hdk' : devP dk db dn dow dli := hdk
            have hfit := dev_fit hdk'
            have hmod := dev_mod hdk'
            obtain ⟨de, hde⟩ : ∃ de, de = db + dn - 1 := ⟨_, rfl⟩
            have hi1 : (if devP dk db dn dow dli then db + dn - 1 else 0) = de := by rw [if_pos hdk', hde]
            have hsz : (if db ≤ de then de - db + 1 else 0) = dn := by rw [if_pos (by omega)]; omega
            have hvd : decide (db ≤ de ∧ db ≤ x ∧ x ≤ de) = ((jd : Int) == (i0 : Int)) := by rw [hde]; exact hv
            have m1 : db.tmod 4 = 0 := by rw [Int.tmod_eq_emod_of_nonneg (by omega)]; exact hmod.1
            have m2 : de.tmod 4 = 3 := by rw [Int.tmod_eq_emod_of_nonneg (by omega)]; rw [hde]; exact hmod.2.1
            have ude : 0 ≤ de ∧ de < 4294967296 := by omega
            have hjj : (((jd : Int) == (i0 : Int)) != ((jd : Int) == (i0 : Int))) = false := bne_self_eq_false _
            all_goals
              repeat' (conv => whnf
                       first
                       | (refine Stop.mk ?_)
                       | (refine fO_is (decide_eq_true hdk') ?_)
                       | (refine fI_is hi1 ?_)
                       | (refine fI_is (if_pos hdk') ?_)
                       | (refine fI_is hsz ?_)
                       | (refine fO_is hvd ?_)
                       | (refine fI_is m1 ?_)
                       | (refine fI_is m2 ?_)
                       | (refine fO_is (bne_self_eq_false _) ?_)
                       | (refine fO_is hjj ?_)
                       | (with_reducible refine fI_is (a := (jd : Int)) rfl ?_)
                       | (refine fI_i64 (by first | omega | (simp only [Int.ofNat_eq_natCast] at *; omega)) ?_; intro z hz)
                       | (refine fI_u32 (by first | omega | (simp only [Int.ofNat_eq_natCast] at *; omega)) ?_; intro z hz)
                       | (refine fI_u8 (by first | omega | (simp only [Int.ofNat_eq_natCast] at *; omega)) ?_; intro z hz)
                       | (refine fI_u64 (by first | omega | (simp only [Int.ofNat_eq_natCast] at *; omega)) ?_; intro z hz)
                       | (refine fI_tdiv (by first | omega | (simp only [Int.ofNat_eq_natCast] at *; omega)) ?_; intro z hz)
                       | (refine fI_tmod (by first | omega | (simp only [Int.ofNat_eq_natCast] at *; omega)) ?_; intro z hz)
                       | (refine fI_gen ?_; intro z hz)
                       | (refine fO_gen ?_; intro z hz)
                       | (refine pure_step (ixs_eq rfl rfl (by omega) (by omega)) ?_)
                       | (refine pure_step (rem_eq rfl rfl (by decide)) ?_)
                       | (refine ld_step rfl (ea _ (by first | omega | rfl)) rfl ?_)
                       | (refine ld_step rfl (en _ (by first | omega | rfl)) rfl ?_)
                       | (refine lds_step rfl (en _ (by first | omega | rfl)) rfl ?_)
                       | (refine mem_step (stl0_eq rfl rfl rfl rfl (Nat.le_refl _)) ?_)
                       | (refine mem_step (ldl_eq rfl (lget0 _ _) rfl rfl) ?_)
                       | (refine lds_mem (ldl_eq rfl (lget0 _ _) rfl rfl) ?_)
                       | (refine dec_true (by assumption) ?_)
                       | (refine dec_false (by assumption) ?_)
                       | ((with_reducible refine dec_trueH ?tst ?_); (case tst => (first | rfl | ((try clear hC); (try clear kn); (try clear kx); (try clear kr); (try clear kn1); (try clear kx1); (try clear kr1); (try clear kn2); (try clear kx2); (try clear kr2); (try clear kn3); (try clear kx3); (try clear kr3); subst_vars; simp only [Int.ofNat_eq_natCast, tq_not, fq_not, tq_and, fq_and, tq_or, fq_or, tq_beq, fq_beq, tq_bne, fq_bne, tq_dec, fq_dec, one1, V.tup.injEq, V.agg.injEq, List.cons.injEq, V.int.injEq, V.bool.injEq, true_and, and_true, decide_eq_true_eq, decide_eq_false_iff_not, Bool.and_eq_true, Bool.and_eq_false_iff, Bool.or_eq_true, Bool.or_eq_false_iff, Bool.not_eq_true', Bool.not_eq_false', beq_iff_eq, wrap_u32, wrap_i64, wrap_u8, beq_eq_false_iff_ne, ne_eq, bne_iff_ne, bne_eq_false_iff_eq, eq_self, and_self, splice, V.cells, List.take_succ_cons, List.take_zero, List.take_nil, List.drop_zero, List.drop_succ_cons, List.drop_nil, List.cons_append, List.nil_append, List.append_nil, List.length_cons, List.length_nil, Nat.zero_add, Nat.reduceAdd, if_true, if_false, Bool.false_eq_true, beq_self_eq_true, decide_eq_decide, Bool.true_eq_false, or_false, false_or, or_true, true_or, and_false, false_and, not_true_eq_false, not_false_eq_true, Bool.and_true, Bool.true_and, Bool.not_true, Bool.not_false] at *; first | done | assumption | omega))); intro h)
                       | ((with_reducible refine dec_falseH ?tst ?_); (case tst => (first | rfl | ((try clear hC); (try clear kn); (try clear kx); (try clear kr); (try clear kn1); (try clear kx1); (try clear kr1); (try clear kn2); (try clear kx2); (try clear kr2); (try clear kn3); (try clear kx3); (try clear kr3); subst_vars; simp only [Int.ofNat_eq_natCast, tq_not, fq_not, tq_and, fq_and, tq_or, fq_or, tq_beq, fq_beq, tq_bne, fq_bne, tq_dec, fq_dec, one1, V.tup.injEq, V.agg.injEq, List.cons.injEq, V.int.injEq, V.bool.injEq, true_and, and_true, decide_eq_true_eq, decide_eq_false_iff_not, Bool.and_eq_true, Bool.and_eq_false_iff, Bool.or_eq_true, Bool.or_eq_false_iff, Bool.not_eq_true', Bool.not_eq_false', beq_iff_eq, wrap_u32, wrap_i64, wrap_u8, beq_eq_false_iff_ne, ne_eq, bne_iff_ne, bne_eq_false_iff_eq, eq_self, and_self, splice, V.cells, List.take_succ_cons, List.take_zero, List.take_nil, List.drop_zero, List.drop_succ_cons, List.drop_nil, List.cons_append, List.nil_append, List.append_nil, List.length_cons, List.length_nil, Nat.zero_add, Nat.reduceAdd, if_true, if_false, Bool.false_eq_true, beq_self_eq_true, decide_eq_decide, Bool.true_eq_false, or_false, false_or, or_true, true_or, and_false, false_and, not_true_eq_false, not_false_eq_true, Bool.and_true, Bool.true_and, Bool.not_true, Bool.not_false] at *; first | done | assumption | omega))); intro h)
                       | (refine dec_split (fun h => ?_) (fun h => ?_))
                       | (apply silE)
                       | (refine Both.mk ?_ ?_)
                       | (refine And.intro rfl ?_)
                       | (exact And.intro rfl (And.intro rfl (And.intro rfl rfl)))
                       | (refine And.intro (by first | omega | ((simp only [decide_eq_true_eq, decide_eq_false_iff_not, Bool.and_eq_true, beq_iff_eq, Bool.not_eq_true', Bool.not_eq_false'] at *); omega) | (subst_vars; simp only [Int.ofNat_eq_natCast, tq_not, fq_not, tq_and, fq_and, tq_or, fq_or, tq_beq, fq_beq, tq_bne, fq_bne, tq_dec, fq_dec, one1, V.tup.injEq, V.agg.injEq, List.cons.injEq, V.int.injEq, V.bool.injEq, true_and, and_true, decide_eq_true_eq, decide_eq_false_iff_not, Bool.and_eq_true, Bool.and_eq_false_iff, Bool.or_eq_true, Bool.or_eq_false_iff, Bool.not_eq_true', Bool.not_eq_false', beq_iff_eq, wrap_u32, wrap_i64, wrap_u8, beq_eq_false_iff_ne, ne_eq, bne_iff_ne, bne_eq_false_iff_eq, eq_self, and_self, splice, V.cells, List.take_succ_cons, List.take_zero, List.take_nil, List.drop_zero, List.drop_succ_cons, List.drop_nil, List.cons_append, List.nil_append, List.append_nil, List.length_cons, List.length_nil, Nat.zero_add, Nat.reduceAdd, if_true, if_false, Bool.false_eq_true, beq_self_eq_true, decide_eq_decide, Bool.true_eq_false, or_false, false_or, or_true, true_or, and_false, false_and, not_true_eq_false, not_false_eq_true, Bool.and_true, Bool.true_and, Bool.not_true, Bool.not_false] at *; omega)) ?_)
                       | (refine Exists.intro _ (Exists.intro _ (And.intro rfl ?_)))
                       | (refine Exists.intro _ (And.intro rfl ?_))
                       | (refine Exists.intro _ (Exists.intro _ (Exists.intro _ (Exists.intro _ (And.intro rfl ?_)))))
                       | (refine ld_step rfl (by assumption) rfl ?_)
                       | (refine lds_step rfl (by assumption) rfl ?_)
                       | (refine fL_mk ?_)
                       | (refine fH_mk ?_)
                       | (refine fN_mk ?_)
                       | (refine fLB_mk ?_)
                       | (refine And.intro (by repeat (first | assumption | refine GLB_app ?_)) ?_)
                       | (refine ld_step rfl ((rd_x0 _ _ _ _ _).trans rfl) rfl ?_)
                       | (refine ld_step rfl ((rd_x1 _ _ _ _ _ _).trans rfl) rfl ?_)
                       | (refine ld_step rfl ((rd_x2 _ _ _ _ _ _ _).trans rfl) rfl ?_)
                       | (refine lds_step rfl ((rd_x0 _ _ _ _ _).trans rfl) rfl ?_)
                       | (refine lds_step rfl ((rd_x1 _ _ _ _ _ _).trans rfl) rfl ?_)
                       | (refine lds_step rfl ((rd_x2 _ _ _ _ _ _ _).trans rfl) rfl ?_)
                       | (refine mem_step (st_eq rfl rfl rfl rfl (wr_last _ _ _ _ rfl)) ?_)
                       | (refine drec_yes (by omega) ?_)
                       | (refine drec_no (by omega) ?_)
                       | (intro _)
                       | fail)
              all_goals (conv => whnf)
              all_goals first
                | (subst hz; exact kn hlt _ _ _ _ _ rfl ⟨rfl, rfl, rfl⟩)
                | (exfalso; clear kn; subst_vars; simp at *; done)
          · clear kn kr
            have w1 : IntKind.i64.wrap ((ds.length : Int) + 1) = (ds.length : Int) + 1 := wrap_i64_id (by omega) (by omega)
            have t16 : decide ((ds.length : Int) ≤ 16) = true := decide_eq_true (by have := hR.2.1; omega)
            have hpk : (-9223372036854775808 ≤ y ∧ y < 9223372036854775808) ∧ 1 ≤ (ds.length : Int) + 1 ∧ (ds.length : Int) + 1 ≤ 4294967296 := by omega
            obtain ⟨kk, hkk, hkl⟩ : ∃ kk : Nat, y % ((ds.length : Int) + 1) = (kk : Int) ∧ kk ≤ ds.length := by
              have e1 := Int.emod_nonneg y (show (ds.length : Int) + 1 ≠ 0 by omega)
              have e2 := Int.emod_lt_of_pos y (show 0 < (ds.length : Int) + 1 by omega)
              exact ⟨(y % ((ds.length : Int) + 1)).toNat, by omega, by omega⟩
            have hT := right_take hR kk
            have hD := right_drop hR kk
            have okT : ∀ d, d ∈ ds.take kk → okD d := fun d hd => hok d (List.mem_of_mem_take hd)
            have okDr : ∀ d, d ∈ ds.drop kk → okD d := fun d hd => hok d (List.mem_of_mem_drop hd)
            have lT : (ds.take kk).length = kk := by rw [List.length_take]; omega
            have lD : (ds.drop kk).length = ds.length - kk := List.length_drop
            rcases p with _ | ⟨b, o⟩
            · obtain rfl : ds = [] := hr
              obtain rfl : kk = 0 := by simpa using hkl
              have hkz : y % ((([] : List D5).length : Int) + 1) = 0 := hkk
              rcases c with _ | c
              all_goals
                repeat' (conv => whnf
                         first
                         | (refine Stop.mk ?_)
                         | (refine fI_is w1 ?_)
                         | (refine fI_is hkz ?_)
                         | (refine fI_gen ?_; intro z hz)
                         | (refine fO_gen ?_; intro z hz)
                         | (refine And.intro hpk ?_)
                         | (refine kx _ _ _ _ _ _ ?_)
                         | (refine pure_step (slcN_H rfl rfl (by decide) (by omega)) ?_)
                         | (refine pure_step (slcN_L rfl rfl (by decide) (by decide)) ?_)
                         | (refine Exists.intro ([] : List D5) (And.intro rfl (And.intro (by simp) (And.intro (fun d hd => by cases hd) (And.intro rfl ?_)))); intro xr hxr; obtain rfl : xr = true := hxr.2 hR)
                         | (refine dec_true (by assumption) ?_)
                         | (refine dec_false (by assumption) ?_)
                         | (refine dec_split (fun h => ?_) (fun h => ?_))
                         | (apply silE)
                         | (refine Both.mk ?_ ?_)
                         | (refine And.intro rfl ?_)
                         | (exact And.intro rfl (And.intro rfl (And.intro rfl rfl)))
                         | (refine And.intro (by first | omega | ((simp only [decide_eq_true_eq, decide_eq_false_iff_not, Bool.and_eq_true, beq_iff_eq, Bool.not_eq_true', Bool.not_eq_false'] at *); omega) | (subst_vars; simp only [Int.ofNat_eq_natCast, tq_not, fq_not, tq_and, fq_and, tq_or, fq_or, tq_beq, fq_beq, tq_bne, fq_bne, tq_dec, fq_dec, one1, V.tup.injEq, V.agg.injEq, List.cons.injEq, V.int.injEq, V.bool.injEq, true_and, and_true, decide_eq_true_eq, decide_eq_false_iff_not, Bool.and_eq_true, Bool.and_eq_false_iff, Bool.or_eq_true, Bool.or_eq_false_iff, Bool.not_eq_true', Bool.not_eq_false', beq_iff_eq, wrap_u32, wrap_i64, wrap_u8, beq_eq_false_iff_ne, ne_eq, bne_iff_ne, bne_eq_false_iff_eq, eq_self, and_self, splice, V.cells, List.take_succ_cons, List.take_zero, List.take_nil, List.drop_zero, List.drop_succ_cons, List.drop_nil, List.cons_append, List.nil_append, List.append_nil, List.length_cons, List.length_nil, Nat.zero_add, Nat.reduceAdd, if_true, if_false, Bool.false_eq_true, beq_self_eq_true, decide_eq_decide, Bool.true_eq_false, or_false, false_or, or_true, true_or, and_false, false_and, not_true_eq_false, not_false_eq_true, Bool.and_true, Bool.true_and, Bool.not_true, Bool.not_false] at *; omega)) ?_)
                         | (refine Exists.intro _ (Exists.intro _ (And.intro rfl ?_)))
                         | (refine Exists.intro _ (And.intro rfl ?_))
                         | (refine Exists.intro _ (Exists.intro _ (Exists.intro _ (Exists.intro _ (And.intro rfl ?_)))))
                         | (refine ld_step rfl (by assumption) rfl ?_)
                         | (refine lds_step rfl (by assumption) rfl ?_)
                         | (refine fL_mk ?_)
                         | (refine fH_mk ?_)
                         | (refine fN_mk ?_)
                         | (refine fLB_mk ?_)
                         | (refine And.intro (by repeat (first | assumption | refine GLB_app ?_)) ?_)
                         | (refine ld_step rfl ((rd_x0 _ _ _ _ _).trans rfl) rfl ?_)
                         | (refine ld_step rfl ((rd_x1 _ _ _ _ _ _).trans rfl) rfl ?_)
                         | (refine ld_step rfl ((rd_x2 _ _ _ _ _ _ _).trans rfl) rfl ?_)
                         | (refine lds_step rfl ((rd_x0 _ _ _ _ _).trans rfl) rfl ?_)
                         | (refine lds_step rfl ((rd_x1 _ _ _ _ _ _).trans rfl) rfl ?_)
                         | (refine lds_step rfl ((rd_x2 _ _ _ _ _ _ _).trans rfl) rfl ?_)
                         | (refine mem_step (st_eq rfl rfl rfl rfl (wr_last _ _ _ _ rfl)) ?_)
                         | (refine drec_yes (by omega) ?_)
                         | (refine drec_no (by omega) ?_)
                         | (intro _)
                         | fail)
                all_goals (conv => whnf)
                all_goals exact leafE hq' rfl
            · have rT : rd H' b o ((ds.take kk).length * 5) = some ((ds.take kk).flatMap encD) := rd_takeD hr kk
              have rD : rd H' b (o + kk * 5) ((ds.drop kk).length * 5) = some ((ds.drop kk).flatMap encD) := rd_dropD hr kk hkl
              by_cases hkc : kk < c
              · repeat' (conv => whnf
                         first
                         | (refine Stop.mk ?_)
                         | (refine fI_is w1 ?_)
                         | (with_reducible refine fI_is (a := (ds.length : Int)) rfl ?_)
                         | (refine fI_is hkk ?_)
                         | (refine fO_is t16 ?_)
                         | (refine fI_gen ?_; intro z hz)
                         | (refine fO_gen ?_; intro z hz)
                         | (refine And.intro hpk ?_)
                         | (refine kx _ _ _ _ _ _ ?_)
                         | (refine pure_step (slcH_eq rfl rfl (by omega) (by omega)) ?_)
                         | (refine pure_step (slcL_eq rfl rfl (by omega) (by omega) hc (by omega)) ?_)
                         | (refine Exists.intro (ds.take kk) (And.intro (by rw [lT]; omega) (And.intro (by omega) (And.intro okT (And.intro rT ?_)))); intro xr hxr; obtain rfl : xr = true := hxr.2 hT)
                         | (refine Exists.intro (ds.drop kk) (And.intro (by rw [lD]; omega) (And.intro (by omega) (And.intro okDr (And.intro rD ?_)))); intro xr hxr; obtain rfl : xr = true := hxr.2 hD)
                         | (refine dec_true (by assumption) ?_)
                         | (refine dec_false (by assumption) ?_)
                         | (refine dec_split (fun h => ?_) (fun h => ?_))
                         | (apply silE)
                         | (refine Both.mk ?_ ?_)
                         | (refine And.intro rfl ?_)
                         | (exact And.intro rfl (And.intro rfl (And.intro rfl rfl)))
                         | (refine And.intro (by first | omega | ((simp only [decide_eq_true_eq, decide_eq_false_iff_not, Bool.and_eq_true, beq_iff_eq, Bool.not_eq_true', Bool.not_eq_false'] at *); omega) | (subst_vars; simp only [Int.ofNat_eq_natCast, tq_not, fq_not, tq_and, fq_and, tq_or, fq_or, tq_beq, fq_beq, tq_bne, fq_bne, tq_dec, fq_dec, one1, V.tup.injEq, V.agg.injEq, List.cons.injEq, V.int.injEq, V.bool.injEq, true_and, and_true, decide_eq_true_eq, decide_eq_false_iff_not, Bool.and_eq_true, Bool.and_eq_false_iff, Bool.or_eq_true, Bool.or_eq_false_iff, Bool.not_eq_true', Bool.not_eq_false', beq_iff_eq, wrap_u32, wrap_i64, wrap_u8, beq_eq_false_iff_ne, ne_eq, bne_iff_ne, bne_eq_false_iff_eq, eq_self, and_self, splice, V.cells, List.take_succ_cons, List.take_zero, List.take_nil, List.drop_zero, List.drop_succ_cons, List.drop_nil, List.cons_append, List.nil_append, List.append_nil, List.length_cons, List.length_nil, Nat.zero_add, Nat.reduceAdd, if_true, if_false, Bool.false_eq_true, beq_self_eq_true, decide_eq_decide, Bool.true_eq_false, or_false, false_or, or_true, true_or, and_false, false_and, not_true_eq_false, not_false_eq_true, Bool.and_true, Bool.true_and, Bool.not_true, Bool.not_false] at *; omega)) ?_)
                         | (refine Exists.intro _ (Exists.intro _ (And.intro rfl ?_)))
                         | (refine Exists.intro _ (And.intro rfl ?_))
                         | (refine Exists.intro _ (Exists.intro _ (Exists.intro _ (Exists.intro _ (And.intro rfl ?_)))))
                         | (refine ld_step rfl (by assumption) rfl ?_)
                         | (refine lds_step rfl (by assumption) rfl ?_)
                         | (refine fL_mk ?_)
                         | (refine fH_mk ?_)
                         | (refine fN_mk ?_)
                         | (refine fLB_mk ?_)
                         | (refine And.intro (by repeat (first | assumption | refine GLB_app ?_)) ?_)
                         | (refine ld_step rfl ((rd_x0 _ _ _ _ _).trans rfl) rfl ?_)
                         | (refine ld_step rfl ((rd_x1 _ _ _ _ _ _).trans rfl) rfl ?_)
                         | (refine ld_step rfl ((rd_x2 _ _ _ _ _ _ _).trans rfl) rfl ?_)
                         | (refine lds_step rfl ((rd_x0 _ _ _ _ _).trans rfl) rfl ?_)
                         | (refine lds_step rfl ((rd_x1 _ _ _ _ _ _).trans rfl) rfl ?_)
                         | (refine lds_step rfl ((rd_x2 _ _ _ _ _ _ _).trans rfl) rfl ?_)
                         | (refine mem_step (st_eq rfl rfl rfl rfl (wr_last _ _ _ _ rfl)) ?_)
                         | (refine drec_yes (by omega) ?_)
                         | (refine drec_no (by omega) ?_)
                         | (intro _)
                         | fail)
                all_goals (conv => whnf)
                all_goals exact leafE hq' rfl
              · obtain rfl : c = ds.length := by omega
                obtain rfl : kk = ds.length := by omega
                have rd0 : rd H' b o ((ds.drop ds.length).length * 5) = some ((ds.drop ds.length).flatMap encD) := by
                  have h2 := rd_sub (show rd H' b o (ds.length * 5) = some (ds.flatMap encD) from hr) 0 0 (by omega)
                  simpa using h2
                repeat' (conv => whnf
                         first
                         | (refine Stop.mk ?_)
                         | (refine fI_is w1 ?_)
                         | (with_reducible refine fI_is (a := (ds.length : Int)) rfl ?_)
                         | (refine fI_is hkk ?_)
                         | (refine fO_is t16 ?_)
                         | (refine fI_gen ?_; intro z hz)
                         | (refine fO_gen ?_; intro z hz)
                         | (refine And.intro hpk ?_)
                         | (refine kx _ _ _ _ _ _ ?_)
                         | (refine pure_step (slcH_eq rfl rfl (by omega) (by omega)) ?_)
                         | (refine pure_step (slcL_all rfl rfl rfl) ?_)
                         | (refine Exists.intro (ds.drop ds.length) (And.intro (List.length_drop.trans (Nat.sub_self _)).symm (And.intro (Nat.le_trans (Nat.le_of_eq (List.length_drop.trans (Nat.sub_self _))) (Nat.zero_le _)) (And.intro okDr (And.intro rd0 ?_)))); intro xr hxr; obtain rfl : xr = true := hxr.2 hD)
                         | (refine Exists.intro (ds.take ds.length) (And.intro (by rw [lT]; omega) (And.intro (by omega) (And.intro okT (And.intro rT ?_)))); intro xr hxr; obtain rfl : xr = true := hxr.2 hT)
                         | (refine dec_true (by assumption) ?_)
                         | (refine dec_false (by assumption) ?_)
                         | (refine dec_split (fun h => ?_) (fun h => ?_))
                         | (apply silE)
                         | (refine Both.mk ?_ ?_)
                         | (refine And.intro rfl ?_)
                         | (exact And.intro rfl (And.intro rfl (And.intro rfl rfl)))
                         | (refine And.intro (by first | omega | ((simp only [decide_eq_true_eq, decide_eq_false_iff_not, Bool.and_eq_true, beq_iff_eq, Bool.not_eq_true', Bool.not_eq_false'] at *); omega) | (subst_vars; simp only [Int.ofNat_eq_natCast, tq_not, fq_not, tq_and, fq_and, tq_or, fq_or, tq_beq, fq_beq, tq_bne, fq_bne, tq_dec, fq_dec, one1, V.tup.injEq, V.agg.injEq, List.cons.injEq, V.int.injEq, V.bool.injEq, true_and, and_true, decide_eq_true_eq, decide_eq_false_iff_not, Bool.and_eq_true, Bool.and_eq_false_iff, Bool.or_eq_true, Bool.or_eq_false_iff, Bool.not_eq_true', Bool.not_eq_false', beq_iff_eq, wrap_u32, wrap_i64, wrap_u8, beq_eq_false_iff_ne, ne_eq, bne_iff_ne, bne_eq_false_iff_eq, eq_self, and_self, splice, V.cells, List.take_succ_cons, List.take_zero, List.take_nil, List.drop_zero, List.drop_succ_cons, List.drop_nil, List.cons_append, List.nil_append, List.append_nil, List.length_cons, List.length_nil, Nat.zero_add, Nat.reduceAdd, if_true, if_false, Bool.false_eq_true, beq_self_eq_true, decide_eq_decide, Bool.true_eq_false, or_false, false_or, or_true, true_or, and_false, false_and, not_true_eq_false, not_false_eq_true, Bool.and_true, Bool.true_and, Bool.not_true, Bool.not_false] at *; omega)) ?_)
                         | (refine Exists.intro _ (Exists.intro _ (And.intro rfl ?_)))
                         | (refine Exists.intro _ (And.intro rfl ?_))
                         | (refine Exists.intro _ (Exists.intro _ (Exists.intro _ (Exists.intro _ (And.intro rfl ?_)))))
                         | (refine ld_step rfl (by assumption) rfl ?_)
                         | (refine lds_step rfl (by assumption) rfl ?_)
                         | (refine fL_mk ?_)
                         | (refine fH_mk ?_)
                         | (refine fN_mk ?_)
                         | (refine fLB_mk ?_)
                         | (refine And.intro (by repeat (first | assumption | refine GLB_app ?_)) ?_)
                         | (refine ld_step rfl ((rd_x0 _ _ _ _ _).trans rfl) rfl ?_)
                         | (refine ld_step rfl ((rd_x1 _ _ _ _ _ _).trans rfl) rfl ?_)
                         | (refine ld_step rfl ((rd_x2 _ _ _ _ _ _ _).trans rfl) rfl ?_)
                         | (refine lds_step rfl ((rd_x0 _ _ _ _ _).trans rfl) rfl ?_)
                         | (refine lds_step rfl ((rd_x1 _ _ _ _ _ _).trans rfl) rfl ?_)
                         | (refine lds_step rfl ((rd_x2 _ _ _ _ _ _ _).trans rfl) rfl ?_)
                         | (refine mem_step (st_eq rfl rfl rfl rfl (wr_last _ _ _ _ rfl)) ?_)
                         | (refine drec_yes (by omega) ?_)
                         | (refine drec_no (by omega) ?_)
                         | (intro _)
                         | fail)
                all_goals (conv => whnf)
                all_goals exact leafE hq' rfl

      · repeat' (conv => whnf
                 first
                 | (refine Stop.mk ?_)
                 | (refine fO_is t1 ?_)
                 | (with_reducible refine fI_is (a := (ds.length : Int)) rfl ?_)
                 | (refine fI_gen ?_; intro z hz)
                 | (refine fO_gen ?_; intro z hz)
                 | (refine And.intro hg ?_)
                 | (refine Exists.intro ds (And.intro rfl (And.intro hl4 (And.intro hok (And.intro hr ?_)))); intro xr hxr; obtain rfl : xr = false := Bool.eq_false_iff.2 (fun h => hR (hxr.1 h)))
                 | (refine dec_true (by assumption) ?_)
                 | (refine dec_false (by assumption) ?_)
                 | (refine dec_split (fun h => ?_) (fun h => ?_))
                 | (apply silE)
                 | (refine Both.mk ?_ ?_)
                 | (refine And.intro rfl ?_)
                 | (exact And.intro rfl (And.intro rfl (And.intro rfl rfl)))
                 | (refine And.intro (by first | omega | ((simp only [decide_eq_true_eq, decide_eq_false_iff_not, Bool.and_eq_true, beq_iff_eq, Bool.not_eq_true', Bool.not_eq_false'] at *); omega) | (subst_vars; simp only [Int.ofNat_eq_natCast, tq_not, fq_not, tq_and, fq_and, tq_or, fq_or, tq_beq, fq_beq, tq_bne, fq_bne, tq_dec, fq_dec, one1, V.tup.injEq, V.agg.injEq, List.cons.injEq, V.int.injEq, V.bool.injEq, true_and, and_true, decide_eq_true_eq, decide_eq_false_iff_not, Bool.and_eq_true, Bool.and_eq_false_iff, Bool.or_eq_true, Bool.or_eq_false_iff, Bool.not_eq_true', Bool.not_eq_false', beq_iff_eq, wrap_u32, wrap_i64, wrap_u8, beq_eq_false_iff_ne, ne_eq, bne_iff_ne, bne_eq_false_iff_eq, eq_self, and_self, splice, V.cells, List.take_succ_cons, List.take_zero, List.take_nil, List.drop_zero, List.drop_succ_cons, List.drop_nil, List.cons_append, List.nil_append, List.append_nil, List.length_cons, List.length_nil, Nat.zero_add, Nat.reduceAdd, if_true, if_false, Bool.false_eq_true, beq_self_eq_true, decide_eq_decide, Bool.true_eq_false, or_false, false_or, or_true, true_or, and_false, false_and, not_true_eq_false, not_false_eq_true, Bool.and_true, Bool.true_and, Bool.not_true, Bool.not_false] at *; omega)) ?_)
                 | (refine Exists.intro _ (Exists.intro _ (And.intro rfl ?_)))
                 | (refine Exists.intro _ (And.intro rfl ?_))
                 | (refine Exists.intro _ (Exists.intro _ (Exists.intro _ (Exists.intro _ (And.intro rfl ?_)))))
                 | (refine ld_step rfl (by assumption) rfl ?_)
                 | (refine lds_step rfl (by assumption) rfl ?_)
                 | (refine fL_mk ?_)
                 | (refine fH_mk ?_)
                 | (refine fN_mk ?_)
                 | (refine fLB_mk ?_)
                 | (refine And.intro (by repeat (first | assumption | refine GLB_app ?_)) ?_)
                 | (refine ld_step rfl ((rd_x0 _ _ _ _ _).trans rfl) rfl ?_)
                 | (refine ld_step rfl ((rd_x1 _ _ _ _ _ _).trans rfl) rfl ?_)
                 | (refine ld_step rfl ((rd_x2 _ _ _ _ _ _ _).trans rfl) rfl ?_)
                 | (refine lds_step rfl ((rd_x0 _ _ _ _ _).trans rfl) rfl ?_)
                 | (refine lds_step rfl ((rd_x1 _ _ _ _ _ _).trans rfl) rfl ?_)
                 | (refine lds_step rfl ((rd_x2 _ _ _ _ _ _ _).trans rfl) rfl ?_)
                 | (refine mem_step (st_eq rfl rfl rfl rfl (wr_last _ _ _ _ rfl)) ?_)
                 | (refine drec_yes (by omega) ?_)
                 | (refine drec_no (by omega) ?_)
                 | (intro _)
                 | fail)
        all_goals (conv => whnf)
        all_goals exact leafE hq' rfl
    · have t1 : decide ((ds.length : Int) > 100) = true := decide_eq_true (by omega)
      repeat' (conv => whnf
               first
               | (refine Stop.mk ?_)
               | (refine fO_is t1 ?_)
               | (with_reducible refine fI_is (a := (ds.length : Int)) rfl ?_)
               | (refine fI_gen ?_; intro z hz)
               | (refine fO_gen ?_; intro z hz)
               | (refine And.intro hg ?_)
               | (refine dec_true (by assumption) ?_)
               | (refine dec_false (by assumption) ?_)
               | (refine dec_split (fun h => ?_) (fun h => ?_))
               | (apply silE)
               | (refine Both.mk ?_ ?_)
               | (refine And.intro rfl ?_)
               | (exact And.intro rfl (And.intro rfl (And.intro rfl rfl)))
               | (refine And.intro (by first | omega | ((simp only [decide_eq_true_eq, decide_eq_false_iff_not, Bool.and_eq_true, beq_iff_eq, Bool.not_eq_true', Bool.not_eq_false'] at *); omega) | (subst_vars; simp only [Int.ofNat_eq_natCast, tq_not, fq_not, tq_and, fq_and, tq_or, fq_or, tq_beq, fq_beq, tq_bne, fq_bne, tq_dec, fq_dec, one1, V.tup.injEq, V.agg.injEq, List.cons.injEq, V.int.injEq, V.bool.injEq, true_and, and_true, decide_eq_true_eq, decide_eq_false_iff_not, Bool.and_eq_true, Bool.and_eq_false_iff, Bool.or_eq_true, Bool.or_eq_false_iff, Bool.not_eq_true', Bool.not_eq_false', beq_iff_eq, wrap_u32, wrap_i64, wrap_u8, beq_eq_false_iff_ne, ne_eq, bne_iff_ne, bne_eq_false_iff_eq, eq_self, and_self, splice, V.cells, List.take_succ_cons, List.take_zero, List.take_nil, List.drop_zero, List.drop_succ_cons, List.drop_nil, List.cons_append, List.nil_append, List.append_nil, List.length_cons, List.length_nil, Nat.zero_add, Nat.reduceAdd, if_true, if_false, Bool.false_eq_true, beq_self_eq_true, decide_eq_decide, Bool.true_eq_false, or_false, false_or, or_true, true_or, and_false, false_and, not_true_eq_false, not_false_eq_true, Bool.and_true, Bool.true_and, Bool.not_true, Bool.not_false] at *; omega)) ?_)
               | (refine Exists.intro _ (Exists.intro _ (And.intro rfl ?_)))
               | (refine Exists.intro _ (And.intro rfl ?_))
               | (refine Exists.intro _ (Exists.intro _ (Exists.intro _ (Exists.intro _ (And.intro rfl ?_)))))
               | (refine ld_step rfl (by assumption) rfl ?_)
               | (refine lds_step rfl (by assumption) rfl ?_)
               | (refine fL_mk ?_)
               | (refine fH_mk ?_)
               | (refine fN_mk ?_)
               | (refine fLB_mk ?_)
               | (refine And.intro (by repeat (first | assumption | refine GLB_app ?_)) ?_)
               | (refine ld_step rfl ((rd_x0 _ _ _ _ _).trans rfl) rfl ?_)
               | (refine ld_step rfl ((rd_x1 _ _ _ _ _ _).trans rfl) rfl ?_)
               | (refine ld_step rfl ((rd_x2 _ _ _ _ _ _ _).trans rfl) rfl ?_)
               | (refine lds_step rfl ((rd_x0 _ _ _ _ _).trans rfl) rfl ?_)
               | (refine lds_step rfl ((rd_x1 _ _ _ _ _ _).trans rfl) rfl ?_)
               | (refine lds_step rfl ((rd_x2 _ _ _ _ _ _ _).trans rfl) rfl ?_)
               | (refine mem_step (st_eq rfl rfl rfl rfl (wr_last _ _ _ _ rfl)) ?_)
               | (refine drec_yes (by omega) ?_)
               | (refine drec_no (by omega) ?_)
               | (intro _)
               | fail)
      all_goals (conv => whnf)
      all_goals exact leafE hq' rfl
  · exact hs.elim
end Go.Ev
