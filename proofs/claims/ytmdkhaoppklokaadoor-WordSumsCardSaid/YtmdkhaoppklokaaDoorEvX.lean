/- texts joined -/
import Derived.Test.YtmdkhaoppklokaaDoorEvU
set_option linter.all false
namespace Go.Ev
def GS : B := .ro [.int .i64 1, .int .i64 2, .int .i64 4]
def okS (n : Int) : Prop := n = 1 ∨ n = 2 ∨ n = 4
instance (n : Int) : Decidable (okS n) := by unfold okS; exact inferInstance
theorem okS_cases (n : Int) : n = 1 ∨ n = 2 ∨ n = 4 ∨ ¬ okS n := by unfold okS; omega
def lowV (n v : Int) : Int := if n = 1 then v % 256 else if n = 2 then v % 65536 else if n = 4 then v else 0
theorem lowV_no {n v : Int} (h : ¬ okS n) : lowV n v = 0 := by
  unfold okS at h; unfold lowV
  rw [if_neg (by omega), if_neg (by omega), if_neg (by omega)]
def encB (x : Int) : List V := [.int .u8 x]
theorem encB_len (x : Int) : (encB x).length = 1 := rfl
/-- the first n bytes of a word -/
def bytesV : Nat → Int → List Int
  | 0, _ => []
  | n + 1, v => v % 256 :: bytesV n (v / 256)
theorem bytesV_len : ∀ (n : Nat) (v : Int), (bytesV n v).length = n
  | 0, _ => rfl
  | n + 1, v => by simp [bytesV, bytesV_len n]
theorem lowV1 (v : Int) : lowV 1 v = v % 256 := by simp [lowV]
theorem lowV2 (v : Int) : lowV 2 v = v % 65536 := by simp [lowV]
theorem lowV4 (v : Int) : lowV 4 v = v := by simp [lowV]
theorem low_leaf {n v x : Int} {o : Bool} (h : lowV n v = x) (h' : decide (okS n) = o) : V.tup [.int .u32 (lowV n v), .bool (decide (okS n))] = one1 [.int .u32 x, .bool o] := by subst h; subst h'; rfl
end Go.Ev
namespace Go.Ev
end Go.Ev
namespace Go.Ev
theorem fI_u32 {f : Nat} {n : Int} {K : Int → Prop} (h : 0 ≤ n ∧ n < 4294967296) (k : ∀ z, z = n → K z) : fI f (IntKind.u32.wrap n) K := (fI_eq f _ K).mpr (k _ (by rw [wrap_u32]; omega))
theorem fI_u8 {f : Nat} {n : Int} {K : Int → Prop} (h : 0 ≤ n ∧ n < 256) (k : ∀ z, z = n → K z) : fI f (IntKind.u8.wrap n) K := (fI_eq f _ K).mpr (k _ (by rw [wrap_u8]; omega))
theorem fI_i64 {f : Nat} {n : Int} {K : Int → Prop} (h : -9223372036854775808 ≤ n ∧ n < 9223372036854775808) (k : ∀ z, z = n → K z) : fI f (IntKind.i64.wrap n) K := (fI_eq f _ K).mpr (k _ (wrap_i64_id h.1 h.2))
theorem fI_u64 {f : Nat} {n : Int} {K : Int → Prop} (h : 0 ≤ n ∧ n < 18446744073709551616) (k : ∀ z, z = n → K z) : fI f (IntKind.u64.wrap n) K := (fI_eq f _ K).mpr (k _ (by rw [wrap_u64]; omega))
theorem fI_tdiv {f : Nat} {a b : Int} {K : Int → Prop} (h : 0 ≤ a) (k : ∀ z, z = a / b → K z) : fI f (a.tdiv b) K := (fI_eq f _ K).mpr (k _ (Int.tdiv_eq_ediv_of_nonneg h))
theorem fI_tmod {f : Nat} {a b : Int} {K : Int → Prop} (h : 0 ≤ a) (k : ∀ z, z = a % b → K z) : fI f (a.tmod b) K := (fI_eq f _ K).mpr (k _ (Int.tmod_eq_emod_of_nonneg h))
end Go.Ev
namespace Go.Ev
end Go.Ev
namespace Go.Ev
theorem rd_block {H : List B} {b : Nat} {ty : TypeId} {cs ws : List V} {n : Nat} (h : H[b]? = some (.rw ty (cs ++ ws))) (hn : cs.length = n) : rd H b 0 n = some cs := by
  unfold rd
  rw [h]
  exact cut_pre cs ws n hn
end Go.Ev
namespace Go.Ev
theorem rd_x0 (H : List B) (ty : TypeId) (cs : List V) (x n : Nat) : rd (H ++ [.rw ty cs]) H.length x n = cut cs x n := by
  unfold rd; rw [List.getElem?_concat_length]; rfl
theorem rd_x1 (H : List B) (ty : TypeId) (cs : List V) (c : B) (x n : Nat) : rd (H ++ [.rw ty cs] ++ [c]) H.length x n = cut cs x n := by
  unfold rd; rw [List.getElem?_append_left (by simp), List.getElem?_concat_length]; rfl
theorem rd_x2 (H : List B) (ty : TypeId) (cs : List V) (c d : B) (x n : Nat) : rd (H ++ [.rw ty cs] ++ [c] ++ [d]) H.length x n = cut cs x n := by
  unfold rd; rw [List.getElem?_append_left (by simp), List.getElem?_append_left (by simp), List.getElem?_concat_length]; rfl
end Go.Ev

set_option linter.all false
namespace Go.Ev
def dgL : List Int := [48, 49, 50, 51, 52, 53, 54, 55, 56, 57, 97, 98, 99, 100, 101, 102]
def GD : B := .ro [.int .u8 48, .int .u8 49, .int .u8 50, .int .u8 51, .int .u8 52, .int .u8 53, .int .u8 54, .int .u8 55, .int .u8 56, .int .u8 57, .int .u8 97, .int .u8 98, .int .u8 99, .int .u8 100, .int .u8 101, .int .u8 102]
end Go.Ev

set_option linter.all false
namespace Go.Ev
end Go.Ev
namespace Go.Ev
end Go.Ev
namespace Go.Ev
/-- a loop that counts up in slot ctr: what it puts is forgotten at its head, but the count and what I says. -/
theorem rLoop_ctr {c : List SV → List LB → List B → Bool → Bool → KE → Prop} {Q : KE} {f : Nat} {tm : List SV} {L : List LB} {H : List B} {e g : Bool} (N ctr : Nat) (mask : List Bool) (I : Nat → List SV → List LB → List B → Bool → Bool → Prop)
    (hf : N < f) (h0 : agree mask (tm.set ctr (.v (.int .i64 ((0 : Nat) : Int)))) tm) (hI : I 0 tm L H e g)
    (hstep : ∀ i : Nat, i ≤ N → havoc mask (tm.set ctr (.v (.int .i64 (i : Int)))) fun tm1 => Halt (∀ L H e g, I i tm1 L H e g → ∀ K : KE,
      (i < N → ∀ tm' L H e g, agree mask (tm.set ctr (.v (.int .i64 ((i + 1 : Nat) : Int)))) tm' → I (i + 1) tm' L H e g → K .n tm' L H e g) →
      (∀ id tm L H e g, Q (.x id) tm L H e g → K (.x id) tm L H e g) → (∀ tm L H e g, Q .r tm L H e g → K .r tm L H e g) → c tm1 L H e g K)) : rLoop c f tm L H e g Q := by
  refine rLoop_for N (fun i tm1 L H e g => agree mask (tm.set ctr (.v (.int .i64 (i : Int)))) tm1 ∧ I i tm1 L H e g) ?_ N 0 f tm L H e g (by omega) hf ⟨h0, hI⟩
  intro i tm1 L H e g hi ⟨ha, hI⟩ K kn kx kr
  exact (havoc_agree (hstep i hi) ha).out L H e g hI K (fun hlt tm' L H e g h1 h2 => kn hlt tm' L H e g ⟨h1, h2⟩) kx kr
end Go.Ev
namespace Go.Ev
end Go.Ev
namespace Go.Ev
end Go.Ev
namespace Go.Ev
end Go.Ev
namespace Go.Ev
theorem and1_u32 {a : Int} (h : 0 ≤ a ∧ a < 4294967296) : IntKind.u32.wrap (((BitVec.ofInt IntKind.u32.bits a &&& BitVec.ofInt IntKind.u32.bits 1).toNat : Nat) : Int) = a % 2 := by
  have := and_ones 1 (by omega) a h.1 h.2 1 (by decide)
  simpa using this
end Go.Ev
namespace Go.Ev
end Go.Ev
namespace Go.Ev
end Go.Ev
