/- texts joined -/
import Derived.Test.YtmdkhaoppklokaaDoorEvQ
import Derived.WideShapes
import Derived.ChangeArms
import Derived.Lib.SmallJoins
namespace Go.Ev
open Go.RowKit

section
variable {H : Type} {enc : TypeId × Value → H} {P : Program} {w : World} {base : Nat} {sp : Nat → Bool} {held : Bool}

end
end Go.Ev

set_option linter.all false
namespace Go.Ev

def Mono (s : Sp) : Prop := ∀ vs H (Q Q' : Post), (∀ v H e g, Q v H e g → Q' v H e g) → s vs H Q → s vs H Q'
def MonoC (C : CT) : Prop := ∀ n, Mono (C n)

theorem monoC_nil : MonoC (tab []) := fun _ _ _ _ _ _ h => h.elim
theorem monoC_cons {n : Nat} {s : Sp} {l : List (Nat × Sp)} (h : Mono s) (hl : MonoC (tab l)) : MonoC (tab ((n, s) :: l)) := by
  intro f
  show Mono (if f = n then s else tab l f)
  split
  · exact h
  · exact hl f

/-! Cuts. -/

def merge : List Bool → List SV → List SV → List SV
  | [], l, _ => l
  | _ :: _, [], _ => []
  | _ :: _, a :: l, [] => a :: l
  | true :: m, _ :: l, a' :: l' => a' :: merge m l l'
  | false :: m, a :: l, _ :: l' => a :: merge m l l'

def agree (m : List Bool) (l l' : List SV) : Prop := merge m l l' = l'

def havoc (m : List Bool) : List SV → (List SV → Prop) → Prop :=
  @List.rec Bool (fun _ => List SV → (List SV → Prop) → Prop) (fun l K => K l)
    (fun b _ ih l K => match l with
      | [] => K []
      | a :: l => match b with
        | true => ∀ j : SV, ih l fun l => K (j :: l)
        | false => ih l fun l => K (a :: l)) m

theorem havoc_agree : ∀ {m : List Bool} {l l' : List SV} {K : List SV → Prop}, havoc m l K → agree m l l' → K l'
  | [], l, l', K, h, h' => by
    have e : l = l' := h'
    exact e ▸ h
  | b :: m, [], l', K, h, h' => by
    have e : [] = l' := h'
    exact e ▸ h
  | b :: m, a :: l, [], K, h, h' => by
    have e : a :: l = [] := h'
    cases e
  | true :: m, a :: l, a' :: l', K, h, h' => by
    have e : a' :: merge m l l' = a' :: l' := h'
    injection e with _ e
    exact havoc_agree (m := m) (K := fun l => K (a' :: l)) (h a') e
  | false :: m, a :: l, a' :: l', K, h, h' => by
    have e : a :: merge m l l' = a' :: l' := h'
    injection e with e1 e
    subst e1
    exact havoc_agree (m := m) (K := fun l => K (a :: l)) h e

/-- A halt between two parts. -/
inductive Halt (P : Prop) : Prop
  | mk : P → Halt P
theorem Halt.out {P : Prop} : Halt P → P := fun ⟨h⟩ => h
def haltP (C : CT) (k : Nat) (b : EC) (Q : KE) : KE := fun ex tm L H e g =>
  match ex with
  | .n => Halt (rC C k b tm L H e g Q)
  | .x id => Q (.x id) tm L H e g
  | .r => Q .r tm L H e g
theorem rC_seqH {C : CT} {k : Nat} {a b : EC} {tm : List SV} {L : List LB} {H : List B} {e g : Bool} {Q : KE} (h : rC C k a tm L H e g (haltP C k b Q)) : rC C k (.seq a b) tm L H e g Q := by
  have e1 : haltP C k b Q = fun ex tm L H e g =>
      match ex with
      | .n => rC C k b tm L H e g Q
      | .x id => Q (.x id) tm L H e g
      | .r => Q .r tm L H e g := by
    funext ex tm L H e g
    cases ex with
    | n => exact propext ⟨Halt.out, Halt.mk⟩
    | x id => rfl
    | r => rfl
  rw [e1] at h
  exact h

theorem evFun_in {C : CT} {k : Nat} {fn : EFun} {vs : List V} {H : List B} {Q : Post} {tm : List SV} (ht : enterS fn vs = tm) (h : rC C k fn.body tm [] H false false (leave fn H.length Q)) : evFun C k fn vs H Q := by
  subst ht
  unfold evFun
  rw [fT_eq]
  exact h
end Go.Ev
set_option linter.all false
namespace Go.Ev
end Go.Ev
set_option linter.all false
namespace Go.Ev
end Go.Ev

set_option linter.all false
namespace Go.Ev

theorem leafE {Q : Post} {v v' : V} {H : List B} {e g : Bool} (hq : Q v H e g) (h : v = v') : Q v' H e g := h ▸ hq
theorem silE {A K : V → Prop} {v : V} (h : A v) (k : K v) : ∃ v, A v ∧ K v := ⟨v, h, k⟩
theorem wrap_u32 (n : Int) : IntKind.u32.wrap n = n % 4294967296 := rfl
theorem wrap_u8 (n : Int) : IntKind.u8.wrap n = n % 256 := rfl
theorem wrap_u64 (n : Int) : IntKind.u64.wrap n = n % 18446744073709551616 := rfl
theorem wrap_i64 (n : Int) : IntKind.i64.wrap n = if 9223372036854775808 ≤ n % 18446744073709551616 then n % 18446744073709551616 - 18446744073709551616 else n % 18446744073709551616 := by
  show (if (true && decide (n % 18446744073709551616 ≥ 9223372036854775808)) = true then _ else _) = _
  simp only [Bool.true_and, decide_eq_true_eq, ge_iff_le]
  rfl
theorem wrap_i64_id {n : Int} (h : -9223372036854775808 ≤ n) (h' : n < 9223372036854775808) : IntKind.i64.wrap n = n := by
  rw [wrap_i64]; split <;> omega
/-- and with ones alone -/
theorem and_ones (k : Nat) (hk : k ≤ 32) (a : Int) (h0 : 0 ≤ a) (h1 : a < 4294967296) (m : Int) (hm : m = 2 ^ k - 1) : IntKind.u32.wrap (((BitVec.ofInt IntKind.u32.bits a &&& BitVec.ofInt IntKind.u32.bits m).toNat : Nat) : Int) = a % 2 ^ k := by
  subst hm
  obtain ⟨n, rfl⟩ := Int.eq_ofNat_of_zero_le h0
  have h2 : (BitVec.ofInt 32 (n : Int)).toNat = n := by simp only [BitVec.toNat_ofInt]; omega
  have hp : (2 : Nat) ^ k ≤ 2 ^ 32 := Nat.pow_le_pow_right (by omega) hk
  have hp1 : 1 ≤ (2 : Nat) ^ k := Nat.one_le_two_pow
  have e0 : ((2 : Int) ^ k - 1) = ((2 ^ k - 1 : Nat) : Int) := by
    rw [Int.natCast_sub hp1]; simp
  have h3 : (BitVec.ofInt 32 ((2 : Int) ^ k - 1)).toNat = 2 ^ k - 1 := by
    rw [e0]; simp only [BitVec.toNat_ofInt]
    have hq : 2 ^ k - 1 < 4294967296 := by omega
    generalize 2 ^ k - 1 = q at *
    omega
  show IntKind.u32.wrap (((BitVec.ofInt 32 (n : Int) &&& BitVec.ofInt 32 ((2 : Int) ^ k - 1)).toNat : Nat) : Int) = _
  rw [BitVec.toNat_and, h2, h3, Nat.and_two_pow_sub_one_eq_mod, wrap_u32]
  have h4 : n % 2 ^ k ≤ n := Nat.mod_le _ _
  have h5 : ((n % 2 ^ k : Nat) : Int) = (n : Int) % (2 : Int) ^ k := by simp
  rw [h5]
  exact Int.emod_eq_of_lt (by rw [← h5]; omega) (by rw [← h5]; omega)

theorem shl_eq {tm : List SV} {x y : Opd} {k k' : IntKind} {a b : Int} (hx : x.val tm = some (.int k a)) (hy : y.val tm = some (.int k' b)) (hb : 0 ≤ b) : pureOp tm (.bin .shl x y) = some (.v (.int k (k.wrap (a * 2 ^ (min b.toNat k.bits))))) := by
  simp only [pureOp, hx, hy, binV, isSh, shI, if_true, if_neg (Int.not_lt.2 hb)]
/-! slices of one's own -/

/-- a slice in blocks from N on, of these cells -/
def Own (N : Nat) (H : List B) (ty : TypeId) (esz : Nat) (v : V) (cs : List V) : Prop :=
  ∃ n cap, cs.length = n * esz ∧ cs.all V.one = true ∧ ((v = .sl none 0 0 ∧ n = 0) ∨ ∃ b zs, v = .sl (some (b, 0)) n cap ∧ N ≤ b ∧ n ≤ cap ∧ zs.length = (cap - n) * esz ∧ H[b]? = some (.rw ty (cs ++ zs)))

theorem Own.nil (N : Nat) (H : List B) (ty : TypeId) (esz : Nat) : Own N H ty esz (.sl none 0 0) [] := ⟨0, 0, by simp, rfl, Or.inl ⟨rfl, rfl⟩⟩

theorem Own.app {N : Nat} {H : List B} {ty : TypeId} {esz : Nat} {v : V} {cs : List V} (h : Own N H ty esz v cs) (X : List B) : Own N (H ++ X) ty esz v cs := by
  obtain ⟨n, cap, h1, h2, h3⟩ := h
  refine ⟨n, cap, h1, h2, ?_⟩
  rcases h3 with h3 | ⟨b, zs, rfl, h4, h5, h6, h7⟩
  · exact Or.inl h3
  · refine Or.inr ⟨b, zs, rfl, h4, h5, h6, ?_⟩
    rw [List.getElem?_append_left (List.getElem?_eq_some_iff.1 h7).1]; exact h7

theorem reps_len (n : Nat) (zs : List V) : (reps n zs).length = n * zs.length := by
  unfold reps
  rw [List.length_flatten, List.map_replicate, List.sum_replicate_nat]

/-- 'append' to a slice of one's own -/
theorem app_own {tm : List SV} {L : List LB} {H0 X : List B} {e g : Bool} {ty : TypeId} {esz bytes : Nat} {zs : List V} {x y : Opd} {K : KV} {v w : V} {cs ds : List V} {m : Nat}
    (hx : x.val tm = some v) (hy : y.val tm = some w) (hv : Own H0.length (H0 ++ X) ty esz v cs) (hn : news (H0 ++ X) esz w = some (m, ds)) (hz : zs.length = esz)
    (hm : ds.length = m * esz) (h1 : ds.all V.one = true) (hp : 0 < esz) (hm0 : 0 < m) (hb : (cs.length + ds.length) * bytes ≤ 140737488355328) (hb2 : cs.length + ds.length < 9223372036854775807)
    (hK : ∀ v' X' g', Own H0.length (H0 ++ X') ty esz v' (cs ++ ds) → (g = true → g' = true) → (g = false → g' = false → X = [] → False) → X.length ≤ X'.length → K (.v v') L (H0 ++ X') (e || !V.ltL 0 ds) g' ∧ K (.v v') L (H0 ++ X') e g') :
    evApp tm L (H0 ++ X) e g ty esz bytes zs x y K := by
  obtain ⟨n, cap, hl, hone, hcase⟩ := hv
  have hle : n ≤ cs.length := by rw [hl]; exact Nat.le_mul_of_pos_right _ hp
  have hle2 : m ≤ ds.length := by rw [hm]; exact Nat.le_mul_of_pos_right _ hp
  have hboth : (cs ++ ds).length = (n + m) * esz := by rw [List.length_append, hl, hm, Nat.add_mul]
  have hones : (cs ++ ds).all V.one = true := by rw [List.all_append, hone, h1]; rfl
  have hbb : (n + m) * bytes ≤ 140737488355328 := Nat.le_trans (Nat.mul_le_mul_right _ (by omega)) hb
  have grow : ∀ (p : Option (Nat × Nat)) (c0 : Nat), v = .sl p n c0 → olds (H0 ++ X) esz p n = some cs → ¬ (n + m ≤ c0) → evApp tm L (H0 ++ X) e g ty esz bytes zs x y K := by
    intro p c0 hvv hold hnot
    subst hvv
    rw [evApp_pos hp]
    unfold evApp0
    simp only [hx, hy, hn, if_neg hnot, hold]
    refine ⟨hbb, by omega, fun c hc1 hc2 => ?_⟩
    have := (hK (.sl (some ((H0 ++ X).length, 0)) (n + m) c) (X ++ [.rw ty (cs ++ ds ++ reps (c - (n + m)) zs)]) true ?_ (fun _ => rfl) (fun _ h => by cases h) (by simp)).2
    · rw [List.append_assoc]; exact this
    · refine ⟨n + m, c, hboth, hones, Or.inr ⟨(H0 ++ X).length, reps (c - (n + m)) zs, rfl, by simp, hc1, by rw [reps_len, hz], ?_⟩⟩
      rw [← List.append_assoc]
      exact List.getElem?_concat_length
  rcases hcase with ⟨rfl, rfl⟩ | ⟨b, ws, rfl, hNb, hcap, hws, hblk⟩
  · refine grow none 0 rfl ?_ (by omega)
    obtain rfl : cs = [] := List.eq_nil_of_length_eq_zero (by rw [hl]; simp)
    rfl
  · by_cases hfit : n + m ≤ cap
    · rw [evApp_pos hp]
      unfold evApp0
      simp only [hx, hy, hn, if_pos hfit]
      have hlen : n * esz + ds.length ≤ (cs ++ ws).length := by
        rw [List.length_append, hl, hws, hm, ← Nat.add_mul, ← Nat.add_mul]
        exact Nat.mul_le_mul_right _ (by omega)
      have hcan : n * esz = cs.length := hl.symm
      have hwr : wr (H0 ++ X) b (0 + n * esz) ds = some ((H0 ++ X).set b (.rw ty (cs ++ ds ++ ws.drop ds.length))) := by
        unfold wr
        simp only [hblk, Nat.zero_add]
        rw [if_pos hlen]
        congr 3
        unfold splice
        rw [← hl, List.take_left', List.drop_append, List.drop_eq_nil_of_le (by omega), List.nil_append]
        · rw [Nat.add_sub_cancel_left, List.append_assoc]
        · rfl
      simp only [hwr]
      have hset : (H0 ++ X).set b (.rw ty (cs ++ ds ++ ws.drop ds.length)) = H0 ++ X.set (b - H0.length) (.rw ty (cs ++ ds ++ ws.drop ds.length)) := by
        rw [List.set_append_right _ _ hNb]
      have hblt := (List.getElem?_eq_some_iff.1 hblk).1
      rw [hset]
      refine (hK (.sl (some (b, 0)) (n + m) cap) (X.set (b - H0.length) (.rw ty (cs ++ ds ++ ws.drop ds.length))) g ?_ (fun h => h) ?_ (by simp)).1
      · refine ⟨n + m, cap, hboth, hones, Or.inr ⟨b, ws.drop ds.length, rfl, hNb, hfit, ?_, ?_⟩⟩
        · rw [List.length_drop, hws, hm, ← Nat.sub_mul]; congr 1; omega
        · rw [← hset, List.getElem?_set_self hblt]
      · intro _ _ hX
        subst hX
        simp only [List.append_nil] at hblt
        omega
    · refine grow (some (b, 0)) cap rfl ?_ hfit
      unfold olds rd
      simp only [hblk, B.cells]
      rw [← hl, cut_pre cs ws _ rfl]
      simp only [hone, if_true]
end Go.Ev
set_option linter.all false
namespace Go.Ev
end Go.Ev
set_option linter.all false
namespace Go.Ev
theorem snd_imp {P : Program} {G f : Nat} {s t : Sp} (h : Snd P G f s) (i : ∀ vs H Q, t vs H Q → s vs H Q) : Snd P G f t := fun vs H Q hh => h vs H Q (i vs H Q hh)
end Go.Ev
namespace Go.Ev
theorem app_own1 {tm : List SV} {L : List LB} {H0 X H1 : List B} {e g : Bool} {ty : TypeId} {esz bytes : Nat} {zs : List V} {x y : Opd} {K : KV} {v w : V} {cs ds : List V} {m : Nat}
    (hH : H1 = H0 ++ X) (hx : x.val tm = some v) (hy : y.val tm = some w) (hv : Own H0.length H1 ty esz v cs) (hn : news H1 esz w = some (m, ds)) (hz : zs.length = esz)
    (hm : ds.length = m * esz) (h1 : ds.all V.one = true) (hp : 0 < esz) (hm0 : 0 < m) (hb : (cs.length + ds.length) * bytes ≤ 140737488355328) (hb2 : cs.length + ds.length < 9223372036854775807) (hl : V.ltL 0 ds = true)
    (hK : ∀ v' X' g', Own H0.length (H0 ++ X') ty esz v' (cs ++ ds) → (g = true → g' = true) → X.length ≤ X'.length → K (.v v') L (H0 ++ X') e g') :
    AtApp (evApp tm L H1 e g ty esz bytes zs x y K) := by
  subst hH
  refine AtApp.mk (app_own hx hy hv hn hz hm h1 hp hm0 hb hb2 ?_)
  intro v' X' g' h2 h3 _ h4
  have := hK v' X' g' h2 h3 h4
  rw [hl]
  simp only [Bool.not_true, Bool.or_false]
  exact ⟨this, this⟩
end Go.Ev

set_option linter.all false
namespace Go.Ev
def GS : B := .ro [.int .i64 1, .int .i64 2, .int .i64 4]
def okS (n : Int) : Prop := n = 1 ∨ n = 2 ∨ n = 4
instance (n : Int) : Decidable (okS n) := by unfold okS; exact inferInstance
theorem okS_cases (n : Int) : n = 1 ∨ n = 2 ∨ n = 4 ∨ ¬ okS n := by unfold okS; omega
def lowV (n v : Int) : Int := if n = 1 then v % 256 else if n = 2 then v % 65536 else if n = 4 then v else 0
theorem lowV_no {n v : Int} (h : ¬ okS n) : lowV n v = 0 := by
  unfold okS at h; unfold lowV
  rw [if_neg (by omega), if_neg (by omega), if_neg (by omega)]
def encB (x : Int) : List V := [.int .u8 x]
theorem encB_len (x : Int) : (encB x).length = 1 := rfl
/-- the first n bytes of a word -/
def bytesV : Nat → Int → List Int
  | 0, _ => []
  | n + 1, v => v % 256 :: bytesV n (v / 256)
theorem bytesV_len : ∀ (n : Nat) (v : Int), (bytesV n v).length = n
  | 0, _ => rfl
  | n + 1, v => by simp [bytesV, bytesV_len n]
/-- the number of bytes -/
def ofB : List Int → Int
  | [] => 0
  | x :: l => x + 256 * ofB l
theorem lowV1 (v : Int) : lowV 1 v = v % 256 := by simp [lowV]
theorem lowV2 (v : Int) : lowV 2 v = v % 65536 := by simp [lowV]
theorem lowV4 (v : Int) : lowV 4 v = v := by simp [lowV]
theorem low_leaf {n v x : Int} {o : Bool} (h : lowV n v = x) (h' : decide (okS n) = o) : V.tup [.int .u32 (lowV n v), .bool (decide (okS n))] = one1 [.int .u32 x, .bool o] := by subst h; subst h'; rfl
end Go.Ev
namespace Go.Ev
theorem len4 {α : Type} {l : List α} (h : l.length = 4) : ∃ a b c d, l = [a, b, c, d] := by
  match l, h with
  | [a, b, c, d], _ => exact ⟨a, b, c, d, rfl⟩
end Go.Ev
namespace Go.Ev
theorem fI_u32 {f : Nat} {n : Int} {K : Int → Prop} (h : 0 ≤ n ∧ n < 4294967296) (k : ∀ z, z = n → K z) : fI f (IntKind.u32.wrap n) K := (fI_eq f _ K).mpr (k _ (by rw [wrap_u32]; omega))
theorem fI_u8 {f : Nat} {n : Int} {K : Int → Prop} (h : 0 ≤ n ∧ n < 256) (k : ∀ z, z = n → K z) : fI f (IntKind.u8.wrap n) K := (fI_eq f _ K).mpr (k _ (by rw [wrap_u8]; omega))
theorem fI_i64 {f : Nat} {n : Int} {K : Int → Prop} (h : -9223372036854775808 ≤ n ∧ n < 9223372036854775808) (k : ∀ z, z = n → K z) : fI f (IntKind.i64.wrap n) K := (fI_eq f _ K).mpr (k _ (wrap_i64_id h.1 h.2))
theorem fI_u64 {f : Nat} {n : Int} {K : Int → Prop} (h : 0 ≤ n ∧ n < 18446744073709551616) (k : ∀ z, z = n → K z) : fI f (IntKind.u64.wrap n) K := (fI_eq f _ K).mpr (k _ (by rw [wrap_u64]; omega))
theorem fI_tdiv {f : Nat} {a b : Int} {K : Int → Prop} (h : 0 ≤ a) (k : ∀ z, z = a / b → K z) : fI f (a.tdiv b) K := (fI_eq f _ K).mpr (k _ (Int.tdiv_eq_ediv_of_nonneg h))
theorem fI_tmod {f : Nat} {a b : Int} {K : Int → Prop} (h : 0 ≤ a) (k : ∀ z, z = a % b → K z) : fI f (a.tmod b) K := (fI_eq f _ K).mpr (k _ (Int.tmod_eq_emod_of_nonneg h))
end Go.Ev
namespace Go.Ev
theorem len2 {α : Type} {l : List α} (h : l.length = 2) : ∃ a b, l = [a, b] := by
  match l, h with
  | [a, b], _ => exact ⟨a, b, rfl⟩
end Go.Ev
namespace Go.Ev
theorem ofB_bytes {n v : Int} (hn : okS n) (h0 : 0 ≤ v) (h1 : v < 4294967296) : ofB (bytesV n.toNat v) = lowV n v := by
  rcases hn with rfl | rfl | rfl
  · rw [lowV1]; show v % 256 + 256 * 0 = _; omega
  · rw [lowV2]; show v % 256 + 256 * (v / 256 % 256 + 256 * 0) = _; omega
  · rw [lowV4]; show v % 256 + 256 * (v / 256 % 256 + 256 * (v / 256 / 256 % 256 + 256 * (v / 256 / 256 / 256 % 256 + 256 * 0))) = _; omega
theorem bytesV_bd : ∀ (n : Nat) (v : Int), ∀ x, x ∈ bytesV n v → 0 ≤ x ∧ x < 256
  | 0, _, _, h => by cases h
  | n + 1, v, x, h => by
    simp only [bytesV, List.mem_cons] at h
    rcases h with rfl | h
    · omega
    · exact bytesV_bd n _ x h
theorem rd_block {H : List B} {b : Nat} {ty : TypeId} {cs ws : List V} {n : Nat} (h : H[b]? = some (.rw ty (cs ++ ws))) (hn : cs.length = n) : rd H b 0 n = some cs := by
  unfold rd
  rw [h]
  exact cut_pre cs ws n hn
theorem toNat_cast {n : Int} (h : 0 ≤ n) : ((n.toNat : Nat) : Int) = n := Int.toNat_of_nonneg h
end Go.Ev
namespace Go.Ev
theorem rd_x0 (H : List B) (ty : TypeId) (cs : List V) (x n : Nat) : rd (H ++ [.rw ty cs]) H.length x n = cut cs x n := by
  unfold rd; rw [List.getElem?_concat_length]; rfl
theorem rd_x1 (H : List B) (ty : TypeId) (cs : List V) (c : B) (x n : Nat) : rd (H ++ [.rw ty cs] ++ [c]) H.length x n = cut cs x n := by
  unfold rd; rw [List.getElem?_append_left (by simp), List.getElem?_concat_length]; rfl
theorem rd_x2 (H : List B) (ty : TypeId) (cs : List V) (c d : B) (x n : Nat) : rd (H ++ [.rw ty cs] ++ [c] ++ [d]) H.length x n = cut cs x n := by
  unfold rd; rw [List.getElem?_append_left (by simp), List.getElem?_append_left (by simp), List.getElem?_concat_length]; rfl
end Go.Ev

set_option linter.all false
namespace Go.Ev
def dgL : List Int := [48, 49, 50, 51, 52, 53, 54, 55, 56, 57, 97, 98, 99, 100, 101, 102]
def GD : B := .ro [.int .u8 48, .int .u8 49, .int .u8 50, .int .u8 51, .int .u8 52, .int .u8 53, .int .u8 54, .int .u8 55, .int .u8 56, .int .u8 57, .int .u8 97, .int .u8 98, .int .u8 99, .int .u8 100, .int .u8 101, .int .u8 102]
end Go.Ev

set_option linter.all false
namespace Go.Ev
end Go.Ev
namespace Go.Ev
end Go.Ev
namespace Go.Ev
/-- a loop that counts up in slot ctr: what it puts is forgotten at its head, but the count and what I says. -/
theorem rLoop_ctr {c : List SV → List LB → List B → Bool → Bool → KE → Prop} {Q : KE} {f : Nat} {tm : List SV} {L : List LB} {H : List B} {e g : Bool} (N ctr : Nat) (mask : List Bool) (I : Nat → List SV → List LB → List B → Bool → Bool → Prop)
    (hf : N < f) (h0 : agree mask (tm.set ctr (.v (.int .i64 ((0 : Nat) : Int)))) tm) (hI : I 0 tm L H e g)
    (hstep : ∀ i : Nat, i ≤ N → havoc mask (tm.set ctr (.v (.int .i64 (i : Int)))) fun tm1 => Halt (∀ L H e g, I i tm1 L H e g → ∀ K : KE,
      (i < N → ∀ tm' L H e g, agree mask (tm.set ctr (.v (.int .i64 ((i + 1 : Nat) : Int)))) tm' → I (i + 1) tm' L H e g → K .n tm' L H e g) →
      (∀ id tm L H e g, Q (.x id) tm L H e g → K (.x id) tm L H e g) → (∀ tm L H e g, Q .r tm L H e g → K .r tm L H e g) → c tm1 L H e g K)) : rLoop c f tm L H e g Q := by
  refine rLoop_for N (fun i tm1 L H e g => agree mask (tm.set ctr (.v (.int .i64 (i : Int)))) tm1 ∧ I i tm1 L H e g) ?_ N 0 f tm L H e g (by omega) hf ⟨h0, hI⟩
  intro i tm1 L H e g hi ⟨ha, hI⟩ K kn kx kr
  exact (havoc_agree (hstep i hi) ha).out L H e g hI K (fun hlt tm' L H e g h1 h2 => kn hlt tm' L H e g ⟨h1, h2⟩) kx kr
end Go.Ev
namespace Go.Ev
end Go.Ev
namespace Go.Ev
theorem fI_wquo64 {f : Nat} {a b : Int} {K : Int → Prop} (h : (0 ≤ a ∧ a < 9223372036854775808) ∧ 0 < b) (k : ∀ z, z = a / b → K z) : fI f (IntKind.i64.wrap (a.tdiv b)) K := by
  rw [Int.tdiv_eq_ediv_of_nonneg h.1.1]
  have h1 : 0 ≤ a / b := Int.ediv_nonneg h.1.1 (by omega)
  have h2 : a / b ≤ a := Int.ediv_le_self b h.1.1
  exact fI_i64 ⟨by omega, by omega⟩ k
end Go.Ev
namespace Go.Ev
end Go.Ev
namespace Go.Ev
theorem and1_u32 {a : Int} (h : 0 ≤ a ∧ a < 4294967296) : IntKind.u32.wrap (((BitVec.ofInt IntKind.u32.bits a &&& BitVec.ofInt IntKind.u32.bits 1).toNat : Nat) : Int) = a % 2 := by
  have := and_ones 1 (by omega) a h.1 h.2 1 (by decide)
  simpa using this
end Go.Ev
namespace Go.Ev
end Go.Ev
namespace Go.Ev
end Go.Ev
