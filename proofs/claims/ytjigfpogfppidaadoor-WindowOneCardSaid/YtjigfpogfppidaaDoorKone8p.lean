/- dev: WindowOne: what is plain -/
import Derived.Test.YtjigfpogfppidaaDoorKlaw08p
import Derived.Test.YtjigfpogfppidaaDoorKlent8
set_option linter.all false
namespace Go.Ev
open Go Go.Proofs
set_option maxRecDepth 4000
set_option maxHeartbeats 4000000
theorem meetB_symm {r s : Int × Int} : meetB r s = meetB s r := by
  unfold meetB
  rw [decide_eq_decide]
  omega
theorem AP_pw (l : List (Int × Int)) : AP l l.length ↔ (∀ r, r ∈ l → r.1 ≤ r.2) ∧ l.Pairwise (fun r s => meetB r s = false) := by
  rw [List.pairwise_iff_getElem]
  constructor
  · intro h
    refine ⟨fun r hr => ?_, fun i j hi hj hij => (h j hj hj).2 i hij⟩
    obtain ⟨i, hi, rfl⟩ := List.getElem_of_mem hr
    exact (h i hi hi).1
  · intro ⟨h1, h2⟩ i hi hi'
    exact ⟨h1 _ (List.getElem_mem hi'), fun j hj => h2 j i (by omega) hi' hj⟩
theorem AP_perm {l l' : List (Int × Int)} (hp : l.Perm l') (h : AP l l.length) : AP l' l'.length := by
  rw [AP_pw] at h ⊢
  exact ⟨fun r hr => h.1 r (hp.mem_iff.2 hr), hp.pairwise h.2 (fun {x y} hxy => by rw [meetB_symm]; exact hxy)⟩
def setD (ow li : Int) (d : D5) : D5 := ⟨d.k, d.b, d.n, ow, li⟩
theorem setD_map (ow li : Int) (l : List D5) : (l.map (setD ow li)).map dR = l.map dR := by
  rw [List.map_map]; rfl
def rotD (ow li : Int) (k : Nat) (l : List D5) : List D5 := (l.drop k ++ l.take k).map (setD ow li)
theorem rotD_len (ow li : Int) (k : Nat) (l : List D5) : (rotD ow li k l).length = l.length := by
  unfold rotD
  rw [List.length_map, List.length_append, List.length_drop, List.length_take]; omega
theorem rotD_perm (ow li : Int) (k : Nat) (l : List D5) : (l.map dR).Perm ((rotD ow li k l).map dR) := by
  unfold rotD
  rw [setD_map, List.map_append]
  have h : l.map dR = (l.take k).map dR ++ (l.drop k).map dR := by rw [← List.map_append, List.take_append_drop]
  rw [h]
  exact List.perm_append_comm
theorem rotD_ok {ow li : Int} {k : Nat} {l : List D5} (hw : -1 ≤ ow ∧ ow < 8) (hl : -1 ≤ li ∧ li < 8) (h : ∀ d, d ∈ l → okD d) : ∀ d, d ∈ rotD ow li k l → okD d := by
  intro d hd
  unfold rotD at hd
  obtain ⟨x, hx, rfl⟩ := List.mem_map.1 hd
  have hx' : x ∈ l := by
    rcases List.mem_append.1 hx with h | h
    · exact List.mem_of_mem_drop h
    · exact List.mem_of_mem_take h
  have := h x hx'
  unfold okD at this ⊢
  unfold setD
  dsimp only
  omega
theorem rotD_right {ow li : Int} {k : Nat} {l : List D5} (hw : -1 ≤ ow ∧ ow < 8) (hl : -1 ≤ li ∧ li < 8) (h : rightL l) : rightL (rotD ow li k l) := by
  refine ⟨fun d hd => ?_, by rw [rotD_len]; exact h.2.1, ?_⟩
  · unfold rotD at hd
    obtain ⟨x, hx, rfl⟩ := List.mem_map.1 hd
    have hx' : x ∈ l := by
      rcases List.mem_append.1 hx with h | h
      · exact List.mem_of_mem_drop h
      · exact List.mem_of_mem_take h
    have h1 := h.1 x hx'
    unfold dOk at h1 ⊢
    exact ⟨h1.1, h1.2.1, hw.1, hw.2, hl.1, hl.2⟩
  · have h2 := h.2.2
    have e1 : (l.map dR).length = l.length := List.length_map ..
    have e2 : ((rotD ow li k l).map dR).length = (rotD ow li k l).length := List.length_map ..
    rw [← e1] at h2
    have := AP_perm (rotD_perm ow li k l) h2
    rwa [e2] at this
theorem fstI_mem {P : Int × Int → Bool} {l : List (Int × Int)} : 0 ≤ fstI P l ↔ ∃ r, r ∈ l ∧ P r = true := by
  unfold fstI
  cases h : l.findIdx? P with
  | none =>
    rw [List.findIdx?_eq_none_iff] at h
    refine ⟨fun h0 => absurd h0 (by decide), fun ⟨r, hr, hp⟩ => ?_⟩
    rw [h r hr] at hp; cases hp
  | some i =>
    rw [List.findIdx?_eq_some_iff_getElem] at h
    obtain ⟨hi, hp, _⟩ := h
    exact ⟨fun _ => ⟨_, List.getElem_mem hi, hp⟩, fun _ => Int.natCast_nonneg i⟩
theorem in_has {s r : Int × Int} (h : inP s r = true) : hasR s.1 r = true := by
  unfold inP at h; unfold hasR
  rw [decide_eq_true_eq] at h ⊢
  omega
theorem in_one {l : List D5} (h : rightL l) {s : Int × Int} {i j : Nat} (hi : i < l.length) (hj : j < l.length) (h1 : inP s (dR l[i]) = true) (h2 : inP s (dR l[j]) = true) : i = j := has_one h hi hj (in_has h1) (in_has h2)
theorem in_at {ds : List D5} {s : Int × Int} {A : Prop} {x : Bool} {i : Int} (hR : rightL ds) (hA : A) (hx : x = true ↔ A ∧ rightL ds ∧ 0 ≤ fstI (inP s) (ds.map dR)) (hi : i = (if x then fstI (inP s) (ds.map dR) else 0)) {q : Nat} (hq : q < ds.length) : inP s (dR ds[q]) = (x && (i == (q : Int))) := by
  have hx' : x = true ↔ rightL ds ∧ 0 ≤ fstI (inP s) (ds.map dR) := ⟨fun h => (hx.1 h).2, fun h => hx.2 ⟨hA, h⟩⟩
  rcases dec_cases hx' hi with ⟨rfl, rfl, hno⟩ | ⟨rfl, j, hj, rfl, hP, hF, _⟩
  · cases hv : inP s (dR ds[q]) with
    | false => rfl
    | true => exact absurd ⟨hR, fstI_mem.2 ⟨_, List.mem_map.2 ⟨_, List.getElem_mem hq, rfl⟩, hv⟩⟩ hno
  · by_cases hjq : j = q
    · subst hjq; rw [hP]; simp
    · cases hv : inP s (dR ds[q]) with
      | true => exact absurd (in_one hR hj hq hP hv) hjq
      | false => simp; omega
theorem one_cases {ds : List D5} {s : Int × Int} {A : Prop} {a : Int} {x : Bool} {i o : Int} (hx : x = true ↔ A ∧ rightL ds ∧ 0 ≤ fstI (inP s) (ds.map dR)) (hi : i = (if x then fstI (inP s) (ds.map dR) else 0)) (ho : o = (if x then a - bAt ds i else 0)) :
    (x = false ∧ i = 0 ∧ o = 0) ∨ (x = true ∧ A ∧ ∃ j, ∃ hj : j < ds.length, i = (j : Int) ∧ inP s (dR ds[j]) = true ∧ o = a - ds[j].b) := by
  cases x with
  | false => exact Or.inl ⟨rfl, hi, ho⟩
  | true =>
    obtain ⟨hA, hR, h0⟩ := hx.1 rfl
    have hx' : true = true ↔ rightL ds ∧ 0 ≤ fstI (inP s) (ds.map dR) := ⟨fun _ => ⟨hR, h0⟩, fun _ => rfl⟩
    rcases dec_cases hx' hi with ⟨h, _⟩ | ⟨_, j, hj, rfl, hP, hF, _⟩
    · cases h
    · refine Or.inr ⟨rfl, hA, j, hj, rfl, hP, ?_⟩
      rw [ho, if_pos rfl, bAt_get hj]
theorem dec_turn {ds os : List D5} {s : Int × Int} {A : Prop} {a : Int} {x1 x2 : Bool} {i1 i2 o1 o2 : Int} (hR : rightL ds) (hR2 : rightL os) (hp : (ds.map dR).Perm (os.map dR))
    (hx1 : x1 = true ↔ A ∧ rightL ds ∧ 0 ≤ fstI (inP s) (ds.map dR)) (hi1 : i1 = (if x1 then fstI (inP s) (ds.map dR) else 0)) (ho1 : o1 = (if x1 then a - bAt ds i1 else 0))
    (hx2 : x2 = true ↔ A ∧ rightL os ∧ 0 ≤ fstI (inP s) (os.map dR)) (hi2 : i2 = (if x2 then fstI (inP s) (os.map dR) else 0)) (ho2 : o2 = (if x2 then a - bAt os i2 else 0)) :
    x2 = x1 ∧ o2 = o1 ∧ (x1 = true → ∃ j1, ∃ hj1 : j1 < ds.length, ∃ j2, ∃ hj2 : j2 < os.length, i1 = (j1 : Int) ∧ i2 = (j2 : Int) ∧ os[j2].b = ds[j1].b) := by
  have hxx : x2 = x1 := by
    rw [Bool.eq_iff_iff, hx1, hx2, fstI_mem, fstI_mem]
    exact ⟨fun ⟨h1, _, r, hr, hP⟩ => ⟨h1, hR, r, hp.mem_iff.2 hr, hP⟩, fun ⟨h1, _, r, hr, hP⟩ => ⟨h1, hR2, r, hp.mem_iff.1 hr, hP⟩⟩
  subst hxx
  rcases one_cases hx1 hi1 ho1 with ⟨rfl, rfl, rfl⟩ | ⟨rfl, hA, j1, hj1, rfl, hP1, rfl⟩
  · rcases one_cases hx2 hi2 ho2 with ⟨_, rfl, rfl⟩ | ⟨h, _⟩
    · exact ⟨rfl, rfl, fun h => by cases h⟩
    · cases h
  · rcases one_cases hx2 hi2 ho2 with ⟨h, _⟩ | ⟨_, _, j2, hj2, rfl, hP2, rfl⟩
    · cases h
    · have hm : dR os[j2] ∈ ds.map dR := hp.mem_iff.2 (List.mem_map.2 ⟨_, List.getElem_mem hj2, rfl⟩)
      obtain ⟨d, hd, hde⟩ := List.mem_map.1 hm
      obtain ⟨j, hj, rfl⟩ := List.getElem_of_mem hd
      have hP3 : inP s (dR ds[j]) = true := by rw [hde]; exact hP2
      obtain rfl := in_one hR hj hj1 hP3 hP1
      have hb : os[j2].b = ds[j].b := (congrArg Prod.fst hde).symm
      exact ⟨rfl, by rw [hb], fun _ => ⟨j, hj1, j2, hj2, rfl, rfl, hb⟩⟩
/-! What is read of a part; appending it. -/
theorem slcL_K {H : List B} {p : Option (Nat × Nat)} {ds : List D5} {c kk : Nat} {tm : List SV} {x i : Opd} {k : IntKind} {A : SV → Prop} {Z : Prop} {n : Int}
    (hr : RdD H p ds) (hc : ds.length ≤ c) (hk : kk ≤ ds.length) (hx : x.val tm = some (.sl p ds.length c)) (hi : i.val tm = some (.int k n)) (hn : n = (kk : Int))
    (hK : ∀ v, (∀ X, news (H ++ X) 5 v = some (ds.length - kk, (ds.drop kk).flatMap encD)) → A (.v v)) :
    (match pureOp tm (.slc 5 x (some i) none) with | some v => A v | none => Z) := by
  subst hn
  rcases p with _ | ⟨b, o⟩
  · obtain rfl : ds = [] := hr
    obtain rfl : kk = 0 := by simpa using hk
    refine pure_step (slcN_L hx hi (by decide) (by decide)) (hK _ fun X => rfl)
  · have hlen : (ds.drop kk).length = ds.length - kk := List.length_drop
    by_cases hkc : kk < c
    · refine pure_step (slcL_eq hx hi (by omega) (by omega) hc (by omega)) (hK _ fun X => ?_)
      have h1 := rd_app (rd_dropD hr kk hk) X
      rw [hlen] at h1
      exact news_eq h1 (encD_one _)
    · obtain rfl : c = ds.length := by omega
      obtain rfl : kk = ds.length := by omega
      refine pure_step (slcL_all hx hi rfl) (hK _ fun X => ?_)
      rw [List.drop_length, Nat.sub_self]
      have h2 := rd_sub (show rd H b o (ds.length * 5) = some (ds.flatMap encD) from hr) 0 0 (by omega)
      exact news_eq (n := 0) (by have := rd_app h2 X; simpa using this) rfl
theorem slcH_K {H : List B} {p : Option (Nat × Nat)} {ds : List D5} {c kk : Nat} {tm : List SV} {x i : Opd} {k : IntKind} {A : SV → Prop} {Z : Prop} {n : Int}
    (hr : RdD H p ds) (hc : ds.length ≤ c) (hk : kk ≤ ds.length) (hx : x.val tm = some (.sl p ds.length c)) (hi : i.val tm = some (.int k n)) (hn : n = (kk : Int))
    (hK : ∀ v, (∀ X, news (H ++ X) 5 v = some (kk, (ds.take kk).flatMap encD)) → A (.v v)) :
    (match pureOp tm (.slc 5 x none (some i)) with | some v => A v | none => Z) := by
  subst hn
  rcases p with _ | ⟨b, o⟩
  · obtain rfl : ds = [] := hr
    obtain rfl : kk = 0 := by simpa using hk
    refine pure_step (slcN_H hx hi (by decide) (by omega)) (hK _ fun X => rfl)
  · have hlen : (ds.take kk).length = kk := by rw [List.length_take]; omega
    refine pure_step (slcH_eq hx hi (by omega) (by omega)) (hK _ fun X => ?_)
    have h1 := rd_app (rd_takeD hr kk) X
    rw [hlen] at h1
    exact news_eq h1 (encD_one _)
theorem slcL_Z {H : List B} {p : Option (Nat × Nat)} {ds : List D5} {c kk : Nat} {tm : List SV} {x i : Opd} {k : IntKind} {K : SV → Prop} {op : EOp} {Z : Prop} {n : Int}
    (hr : RdD H p ds) (hc : ds.length ≤ c) (hk : kk ≤ ds.length) (hx : x.val tm = some (.sl p ds.length c)) (hi : i.val tm = some (.int k n)) (hn : n = (kk : Int))
    (hK : ∀ v, (∀ X, news (H ++ X) 5 v = some (ds.length - kk, (ds.drop kk).flatMap encD)) → K (.v v)) :
    (match pureOp tm (.slc 5 x (some i) none) with | some v => fZ op v K | none => Z) :=
  slcL_K (A := fun v => fZ op v K) hr hc hk hx hi hn (fun v hv => by rw [fZ_eq]; exact hK v hv)
theorem slcH_Z {H : List B} {p : Option (Nat × Nat)} {ds : List D5} {c kk : Nat} {tm : List SV} {x i : Opd} {k : IntKind} {K : SV → Prop} {op : EOp} {Z : Prop} {n : Int}
    (hr : RdD H p ds) (hc : ds.length ≤ c) (hk : kk ≤ ds.length) (hx : x.val tm = some (.sl p ds.length c)) (hi : i.val tm = some (.int k n)) (hn : n = (kk : Int))
    (hK : ∀ v, (∀ X, news (H ++ X) 5 v = some (kk, (ds.take kk).flatMap encD)) → K (.v v)) :
    (match pureOp tm (.slc 5 x none (some i)) with | some v => fZ op v K | none => Z) :=
  slcH_K (A := fun v => fZ op v K) hr hc hk hx hi hn (fun v hv => by rw [fZ_eq]; exact hK v hv)
/-- appended to a slice of one's own, be it nothing -/
theorem app_ownZ {tm : List SV} {L : List LB} {H0 X H1 : List B} {e g : Bool} {ty : TypeId} {zs : List V} {x y : Opd} {K : KV} {b n cap : Nat} {w : V} {cs : List V} {l : List D5}
    (hH : H1 = H0 ++ X) (hx : x.val tm = some (.sl (some (b, 0)) n cap)) (hy : y.val tm = some w) (hv : Own H0.length H1 ty 5 (.sl (some (b, 0)) n cap) cs) (hn : news H1 5 w = some (l.length, l.flatMap encD)) (hz : zs.length = 5)
    (hb : cs.length + l.length * 5 ≤ 1000000)
    (hK : ∀ b' n' cap' X' g', Own H0.length (H0 ++ X') ty 5 (.sl (some (b', 0)) n' cap') (cs ++ l.flatMap encD) → (g = true → g' = true) → K (.v (.sl (some (b', 0)) n' cap')) L (H0 ++ X') e g') :
    AtApp (evApp tm L H1 e g ty 5 40 zs x y K) := by
  have hll : (l.flatMap encD).length = l.length * 5 := flat_len encD_len _
  by_cases hl : l = []
  · subst hl
    obtain ⟨m, cp, h1, h2, h3⟩ := id hv
    rcases h3 with ⟨h3, _⟩ | ⟨b2, ws, h3, h4, h5, h6, h7⟩
    · cases h3
    · obtain ⟨rfl, rfl, rfl⟩ : b = b2 ∧ n = m ∧ cap = cp := by
        injection h3 with e1 e2 e3
        injection e1 with e4
        injection e4 with e5
        exact ⟨e5, e2, e3⟩
      refine app_none hx hy hn h7 (by rw [List.length_append]; omega) h5 ?_
      rw [hH]
      exact hK b n cap X g (by rw [List.flatMap_nil, List.append_nil, ← hH]; exact hv) (fun h => h)
  · have hpos : 0 < l.length := List.length_pos_iff.2 hl
    refine app_own1 hH hx hy hv hn hz hll (encD_one _) (by decide) hpos (by rw [hll]; omega) (by rw [hll]; omega) (encD_ltl _) ?_
    intro v' X' g' hown hg _
    obtain ⟨m, cp, h1, h2, h3⟩ := id hown
    rcases h3 with ⟨h3, h0⟩ | ⟨b2, ws, rfl, h4, h5, h6, h7⟩
    · exfalso
      rw [List.length_append, hll] at h1
      omega
    · exact hK _ _ _ _ _ hown hg
theorem rdD_block {H : List B} {b : Nat} {ty : TypeId} {l : List D5} {ws : List V} (h : H[b]? = some (.rw ty (l.flatMap encD ++ ws))) : RdD H (some (b, 0)) l := rd_block h (flat_len encD_len _)
/-- a cell set in a block of one's own -/
theorem wr_own {Hx X : List B} {b o : Nat} {ty : TypeId} {cs : List V} (hb : (Hx ++ X)[b]? = some (.rw ty cs)) (hle : Hx.length ≤ b) (v : V) (ho : o + 1 ≤ cs.length) :
    ∃ X', wr (Hx ++ X) b o [v] = some (Hx ++ X') ∧ (Hx ++ X')[b]? = some (.rw ty (splice cs o [v])) := by
  refine ⟨X.set (b - Hx.length) (.rw ty (splice cs o [v])), ?_, ?_⟩
  · unfold wr; rw [hb]
    simp only [List.length_cons, List.length_nil]
    rw [if_pos (by omega), List.set_append_right _ _ hle]
  · rw [← List.set_append_right _ _ hle, List.getElem?_set, if_pos rfl, if_pos (List.getElem?_eq_some_iff.1 hb).1]
theorem splice_len {cs vs : List V} {o : Nat} (h : o + vs.length ≤ cs.length) : (splice cs o vs).length = cs.length := by
  unfold splice
  rw [List.length_append, List.length_append, List.length_take, List.length_drop]; omega
theorem own_openD {N : Nat} {H : List B} {ty : TypeId} {b n cap : Nat} {l : List D5} (h : Own N H ty 5 (.sl (some (b, 0)) n cap) (l.flatMap encD)) : n = l.length ∧ N ≤ b ∧ l.length ≤ cap ∧ ∃ ws, H[b]? = some (.rw ty (l.flatMap encD ++ ws)) := by
  obtain ⟨m, cp, h1, h2, h3⟩ := h
  rw [flat_len encD_len] at h1
  obtain rfl : m = l.length := by omega
  rcases h3 with ⟨h3, _⟩ | ⟨b2, ws, h3, h4, h5, h6, h7⟩
  · cases h3
  · injection h3 with e1 e2 e3
    injection e1 with e4
    injection e4 with e5
    subst e5 e2 e3
    exact ⟨rfl, h4, h5, ws, h7⟩
theorem splice_at (A : List V) (cs : List V) (o m : Nat) (vs : List V) (h : o = A.length + m) : splice (A ++ cs) o vs = A ++ splice cs m vs := by
  subst h
  unfold splice
  rw [List.take_length_add_append, Nat.add_assoc, List.drop_length_add_append]
  simp
/-- the row while its owners and lines are being set -/
def midD (ow li : Int) (i : Nat) (l : List D5) : List D5 := (l.take i).map (setD ow li) ++ l.drop i
theorem midD_len (ow li : Int) (i : Nat) (l : List D5) : (midD ow li i l).length = l.length := by
  unfold midD; rw [List.length_append, List.length_map, List.length_take, List.length_drop]; omega
theorem mid_split {ow li : Int} {i : Nat} {l : List D5} (hi : i < l.length) (ws : List V) :
    (midD ow li i l).flatMap encD ++ ws = ((l.take i).map (setD ow li)).flatMap encD ++ (encD l[i] ++ ((l.drop (i + 1)).flatMap encD ++ ws)) := by
  unfold midD
  rw [List.drop_eq_getElem_cons hi, List.flatMap_append, List.flatMap_cons]
  simp only [List.append_assoc]
theorem mid_succ {ow li : Int} {i : Nat} {l : List D5} (hi : i < l.length) (ws : List V) :
    splice (splice ((midD ow li i l).flatMap encD ++ ws) (i * 5 + 3) [.int .i64 ow]) (i * 5 + 4) [.int .i64 li] = (midD ow li (i + 1) l).flatMap encD ++ ws := by
  have hA : (((l.take i).map (setD ow li)).flatMap encD).length = i * 5 := by rw [flat_len encD_len, List.length_map, List.length_take]; omega
  rw [mid_split hi, splice_at _ _ _ 3 _ (by rw [hA])]
  have e1 : splice (encD l[i] ++ ((l.drop (i + 1)).flatMap encD ++ ws)) 3 [V.int .i64 ow] = encD ⟨l[i].k, l[i].b, l[i].n, ow, l[i].l⟩ ++ ((l.drop (i + 1)).flatMap encD ++ ws) := rfl
  rw [e1, splice_at _ _ _ 4 _ (by rw [hA])]
  have e2 : splice (encD ⟨l[i].k, l[i].b, l[i].n, ow, l[i].l⟩ ++ ((l.drop (i + 1)).flatMap encD ++ ws)) 4 [V.int .i64 li] = encD (setD ow li l[i]) ++ ((l.drop (i + 1)).flatMap encD ++ ws) := rfl
  rw [e2]
  unfold midD
  have e3 : l.take (i + 1) = l.take i ++ [l[i]] := by rw [List.take_succ, List.getElem?_eq_getElem hi]; rfl
  rw [e3, List.map_append, List.flatMap_append, List.flatMap_append]
  simp only [List.map_cons, List.map_nil, List.flatMap_cons, List.flatMap_nil, List.append_nil, List.append_assoc]
theorem mid_zero (ow li : Int) (l : List D5) : midD ow li 0 l = l := by unfold midD; simp
theorem mid_all (ow li : Int) (l : List D5) : midD ow li l.length l = l.map (setD ow li) := by unfold midD; simp
end Go.Ev
