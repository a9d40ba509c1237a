/- dev: a memory and the document's, side by side -/
import Derived.Test.YtcpecapbknnaeaaDoorKram5
set_option linter.all false
namespace Go.Ev
open Go Go.Proofs
set_option maxRecDepth 4000
set_option maxHeartbeats 4000000
structure StR (Hx H : List B) (i b : Nat) (w : List Int) (j c m : Nat) : Prop where
  r : RamAt H i b w
  f : RefAt H j c (bytesW w)
  g : GLB H
  x : ∃ X, H = Hx ++ X
  hb : Hx.length ≤ b
  hc : Hx.length ≤ c
  hj : Hx.length ≤ j
  m : w.length = m
theorem StR.bj {Hx H : List B} {i b : Nat} {w : List Int} {j c m : Nat} (h : StR Hx H i b w j c m) : b ≠ j := by
  intro e
  have h1 := h.r.w
  rw [e, h.f.r] at h1
  unfold WB RR at h1
  injection h1 with h1
  injection h1 with h1 h2
  cases h1
theorem StR.bc {Hx H : List B} {i b : Nat} {w : List Int} {j c m : Nat} (h : StR Hx H i b w j c m) : b ≠ c := by
  intro e
  have h1 := h.r.w
  rw [e, h.f.w] at h1
  unfold WB BB at h1
  injection h1 with h1
  injection h1 with h1 h2
  cases h1
theorem StR.ci {Hx H : List B} {i b : Nat} {w : List Int} {j c m : Nat} (h : StR Hx H i b w j c m) : c ≠ i := by
  intro e
  have h1 := h.r.r
  rw [← e, h.f.w] at h1
  unfold RB BB at h1
  injection h1 with h1
  injection h1 with h1 h2
  cases h1
theorem StR.ji {Hx H : List B} {i b : Nat} {w : List Int} {j c m : Nat} (h : StR Hx H i b w j c m) : j ≠ i := by
  intro e
  have h1 := h.r.r
  rw [← e, h.f.r] at h1
  unfold RB RR at h1
  injection h1 with h1
  injection h1 with h1 h2
  cases h1
theorem set_x {Hx H : List B} {b : Nat} {y : B} (hx : ∃ X, H = Hx ++ X) (hb : Hx.length ≤ b) : ∃ X, H.set b y = Hx ++ X := by
  obtain ⟨X, rfl⟩ := hx
  exact ⟨_, List.set_append_right _ _ hb⟩
theorem app_x {Hx H : List B} (hx : ∃ X, H = Hx ++ X) (Y : List B) : ∃ X, H ++ Y = Hx ++ X := by
  obtain ⟨X, rfl⟩ := hx
  exact ⟨_, List.append_assoc _ _ _⟩
theorem StR.app {Hx H : List B} {i b : Nat} {w : List Int} {j c m : Nat} (h : StR Hx H i b w j c m) (Y : List B) : StR Hx (H ++ Y) i b w j c m :=
  ⟨h.r.app Y, h.f.app Y, GLB_app h.g, app_x h.x Y, h.hb, h.hc, h.hj, h.m⟩
theorem StR.lt {Hx H : List B} {i b : Nat} {w : List Int} {j c m : Nat} (h : StR Hx H i b w j c m) : i < H.length ∧ b < H.length ∧ j < H.length ∧ c < H.length :=
  ⟨(List.getElem?_eq_some_iff.1 h.r.r).1, (List.getElem?_eq_some_iff.1 h.r.w).1, (List.getElem?_eq_some_iff.1 h.f.r).1, (List.getElem?_eq_some_iff.1 h.f.w).1⟩
theorem StR.set {Hx H : List B} {i b : Nat} {w : List Int} {j c m d : Nat} (h : StR Hx H i b w j c m) {ty : TypeId} {cs : List V} (hd : H[d]? = some (.rw ty cs)) (h0 : Hx.length ≤ d) (h1 : d ≠ i) (h2 : d ≠ b) (h3 : d ≠ j) (h4 : d ≠ c) (y : B) : StR Hx (H.set d y) i b w j c m :=
  ⟨h.r.other h1 h2 y, h.f.other h3 h4 y, GLB_set h.g hd y, set_x h.x h0, h.hb, h.hc, h.hj, h.m⟩
theorem bytesW_rep (k : Nat) : bytesW (List.replicate k 0) = List.replicate (4 * k) 0 := by
  induction k with
  | zero => rfl
  | succ k ih =>
    have e : bytesW (List.replicate (k + 1) 0) = bytesV 4 0 ++ bytesW (List.replicate k 0) := by rw [List.replicate_succ]; rfl
    rw [e, ih, show bytesV 4 0 = List.replicate 4 0 from rfl, List.replicate_append_replicate, show 4 * (k + 1) = 4 + 4 * k by omega]
theorem StR.reset {Hx H : List B} {i b : Nat} {w : List Int} {j c m : Nat} (h : StR Hx H i b w j c m) :
    StR Hx ((H.set b (WB (List.replicate w.length 0)) ++ [BB (List.replicate (bytesW w).length 0)]).set j (RR H.length (bytesW w).length)) i b (List.replicate w.length 0) j H.length m := by
  obtain ⟨l1, l2, l3, l4⟩ := h.lt
  have hbl : (bytesW (List.replicate w.length (0 : Int))) = List.replicate (bytesW w).length 0 := by rw [bytesW_rep, bytesW_len]
  have r1 := (h.r.set (l' := List.replicate w.length 0) (len0 _) (u32s0 _)).app [BB (List.replicate (bytesW w).length 0)]
  have hj1 : (H.set b (WB (List.replicate w.length 0)) ++ [BB (List.replicate (bytesW w).length 0)])[j]? = some (RR c (bytesW w).length) := by
    rw [List.getElem?_append_left (by simp; exact l3), List.getElem?_set_ne h.bj]; exact h.f.r
  have hg1 : GLB (H.set b (WB (List.replicate w.length 0)) ++ [BB (List.replicate (bytesW w).length 0)]) := GLB_app (h.r.glb h.g _)
  refine ⟨r1.other h.ji (Ne.symm h.bj) _, ⟨?_, ?_, ?_, ?_⟩, GLB_set hg1 hj1 _, set_x (app_x (set_x h.x h.hb) _) h.hj, h.hb, ?_, h.hj, (len0 _).trans h.m⟩
  · rw [List.getElem?_set_self (by simp; omega), hbl, List.length_replicate]
  · rw [List.getElem?_set_ne (by omega), List.getElem?_append_right (by simp), hbl]; simp
  · exact bytesW_bd
  · rw [hbl, List.length_replicate]; exact h.f.n
  · obtain ⟨X, rfl⟩ := h.x; simp
theorem bytes_wr2 {w : List Int} (hu : U32s w) {off n v : Int} (hv : (0 ≤ v ∧ v < 4294967296)) : (if hasB (bytesW w).length off n then wrB (bytesW w) off.toNat v n.toNat else bytesW w) = bytesW (wrL w off n v) := by
  by_cases h0 : hasP w.length off n
  · rw [if_pos (hasB_iff.2 h0), bytes_wr hu hv h0]
  · rw [if_neg (fun h => h0 (hasB_iff.1 h))]
    unfold wrL
    rw [if_neg h0]
theorem StR.write {Hx H : List B} {i b : Nat} {w : List Int} {j c m : Nat} (h : StR Hx H i b w j c m) {off n v : Int} (hv : (0 ≤ v ∧ v < 4294967296)) :
    StR Hx ((H.set b (WB (wrL w off n v))).set c (BB (bytesW (wrL w off n v)))) i b (wrL w off n v) j c m := by
  have f1 := h.f.other (d := b) h.bj h.bc (WB (wrL w off n v))
  have f2 := f1.set (l' := bytesW (wrL w off n v)) (by rw [bytesW_len, bytesW_len, wrL_len]) bytesW_bd
  exact ⟨(h.r.wset hv).other h.ci (Ne.symm h.bc) _, f2, GLB_set (h.r.glb h.g _) f1.w _, set_x (set_x h.x h.hb) h.hc, h.hb, h.hc, h.hj, (wrL_len _ _ _ _).trans h.m⟩
theorem StR.copy {Hx H : List B} {i b : Nat} {w : List Int} {j c m : Nat} (h : StR Hx H i b w j c m) (w1 w2 : List Int) :
    StR Hx (((H ++ [WB w] ++ [RB H.length w.length]).set b (WB w1)).set b (WB w2)) (H.length + 1) H.length w j c m := by
  obtain ⟨l1, l2, l3, l4⟩ := h.lt
  have r0 : RamAt (H ++ [WB w] ++ [RB H.length w.length]) (H.length + 1) H.length w := ram0 H rfl h.r.u h.r.n
  have hg : GLB (H ++ [WB w] ++ [RB H.length w.length]) := GLB_app (GLB_app h.g)
  have rb := (h.r.app [WB w]).app [RB H.length w.length]
  rw [List.set_set]
  refine ⟨r0.other (by omega) (by omega) _, ((h.f.app _).app _).other h.bj h.bc _, rb.glb hg _, set_x (app_x (app_x h.x _) _) h.hb, ?_, h.hc, h.hj, h.m⟩
  obtain ⟨X, rfl⟩ := h.x; simp
theorem bw_len (w : List Int) : ((bytesW w).length : Int) = 4 * (w.length : Int) := by rw [bytesW_len]; omega
theorem len_keep (w : List Int) : 4 * (w.length : Int) = 4 * (w.length : Int) := rfl
theorem dec_has {w : List Int} {off n : Int} : decide (hasB (bytesW w).length off n) = decide (hasP w.length off n) := decide_eq_decide.2 hasB_iff
theorem neq_self (x : Bool) : (!(x == x)) = false := by cases x <;> rfl
theorem pl_step {L : List LB} {b : LB} {A : LB → Prop} (h : A b) : (match (L ++ [b])[L.length]? with
    | some x => A x
    | none => False) := by rw [lget0]; exact h
theorem rC_block {C : CT} {k id : Nat} {c : EC} {tm : List SV} {L : List LB} {H : List B} {e g : Bool} {Q : KE} (h : rC C k c tm L H e g (fun ex tm L H e g => match ex with
      | .x i => if i = id then Q .n tm L H e g else Q (.x i) tm L H e g
      | .n => Q .n tm L H e g
      | .r => Q .r tm L H e g)) : rC C k (.block id c) tm L H e g Q := h
end Go.Ev
