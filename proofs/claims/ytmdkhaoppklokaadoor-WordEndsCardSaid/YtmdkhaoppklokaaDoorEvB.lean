/- Ev: the operations on memory, and the evaluator. -/
import Derived.Test.YtmdkhaoppklokaaDoorEvA
namespace Go.Ev

/-- n cells of block i from x on -/
def rd (H : List B) (i x n : Nat) : Option (List V) :=
  match H[i]? with
  | some b => cut b.cells x n
  | none => none

/-- cells written into a block of one's own -/
def wr (H : List B) (i x : Nat) (vs : List V) : Option (List B) :=
  match H[i]? with
  | some (.rw ty cs) => if x + vs.length ≤ cs.length then some (H.set i (.rw ty (splice cs x vs))) else none
  | _ => none

def reps (n : Nat) (zs : List V) : List V := (List.replicate n zs).flatten

/-- the map's key: whole numbers alone -/
def keyEq : V → V → Option Bool
  | .int k a, .int k' b => if k = k' then some (a == b) else none
  | _, _ => none

def findK (k : V) : List (V × V) → Option (Option V)
  | [] => some none
  | (a, v) :: r =>
    match keyEq a k with
    | some true => some (some v)
    | some false => findK k r
    | none => none

/-- The operations on memory that always go one way: what is put, the variables of this call, the memory, the two marks. -/
def memOp (tm : List SV) (L : List LB) (H : List B) (e g : Bool) : EOp → Option (SV × List LB × List B × Bool × Bool)
  | .alloc true ty zs => some (.lp L.length 0, L ++ [⟨ty, zs⟩], H, e, g)
  | .alloc false ty zs => some (.v (.ptr (some (H.length, 0))), L, H ++ [.rw ty zs], e, true)
  | .box true ty x =>
    match x.val tm with
    | some v => if v.cells.all V.one then some (.lp L.length 0, L ++ [⟨ty, v.cells⟩], H, e, g) else none
    | none => none
  | .box false ty x =>
    match x.val tm with
    | some v => if v.cells.all V.one then some (.v (.ptr (some (H.length, 0))), L, H ++ [.rw ty v.cells], e, true) else none
    | none => none
  | .bslice ty n zs ps =>
    match fillP tm zs ps with
    | some cs => if cs.all V.one then some (.v (.sl (some (H.length, 0)) n n), L, H ++ [.rw ty cs], e, true) else none
    | none => none
  | .ld agg n x =>
    match x.ev tm with
    | .v (.ptr (some (i, o))) =>
      match rd H i o n with
      | some cs => match unV agg cs with
        | some v => some (.v v, L, H, e, g)
        | none => none
      | none => none
    | .lp i o =>
      match L[i]? with
      | some b => match cut b.cs o n with
        | some cs => match unV agg cs with
          | some v => some (.v v, L, H, e, g)
          | none => none
        | none => none
      | none => none
    | _ => none
  | .st n x y =>
    match y.val tm with
    | some v =>
      if v.cells.length = n ∧ v.cells.all V.one then
        match x.ev tm with
        | .v (.ptr (some (i, o))) =>
          match wr H i o v.cells with
          | some H => some (undefV, L, H, e || !v.plain, g)
          | none => none
        | .lp i o =>
          match L[i]? with
          | some b => if o + n ≤ b.cs.length then some (undefV, L.set i ⟨b.ty, splice b.cs o v.cells⟩, H, e, g) else none
          | none => none
        | _ => none
      else none
    | none => none
  | .mksl ty zs bytes l c =>
    match l.val tm, c.val tm with
    | some (.int _ l), some (.int _ c) =>
      if 0 ≤ l ∧ l ≤ c ∧ c.toNat * zs.length ≤ 16777216 ∧ (bytes : Int) * c ≤ 281474976710656 ∧ c ≤ 9223372036854775807 then
        some (.v (.sl (some (H.length, 0)) l.toNat c.toNat), L, H ++ [.rw ty (reps c.toNat zs)], e, true)
      else none
    | _, _ => none
  | .clr zs x =>
    match x.val tm with
    | some (.sl none _ _) => some (.v (.tup []), L, H, e, g)
    | some (.sl (some (i, o)) n _) =>
      match wr H i o (reps n zs) with
      | some H => some (.v (.tup []), L, H, e, g)
      | none => none
    | _ => none
  | .cpy esz x y =>
    match x.val tm, y.val tm with
    | some (.sl (some (i, o)) n _), some (.sl (some (k, p)) m _) =>
      match rd H k p (min m n * esz) with
      | some cs => if cs.all V.one then match wr H i o cs with
        | some H => some (.v (.int .i64 (min m n : Nat)), L, H, e || !V.ltL 0 cs, g)
        | none => none else none
      | none => none
    | some (.sl _ n _), some (.sl none m _) => some (.v (.int .i64 (min m n : Nat)), L, H, e, g)
    | some (.sl none 0 _), some (.sl (some _) _ _) => some (.v (.int .i64 0), L, H, e, g)
    | _, _ => none
  | .mkmap => some (.v (.mp (some H.length)), L, H ++ [.mp []], e, true)
  | .mset m k x =>
    match m.val tm, k.val tm, x.val tm with
    | some (.mp (some i)), some (.int kd n), some v =>
      match H[i]? with
      | some (.mp es) => match findK (.int kd n) es with
        | some none => some (undefV, L, H.set i (.mp (es ++ [(.int kd n, v)])), e || !v.plain, g)
        | _ => none
      | _ => none
    | _, _, _ => none
  | .look ok zs m k =>
    match m.val tm, k.val tm with
    | some (.mp (some i)), some (.int kd n) =>
      match H[i]? with
      | some (.mp es) => match findK (.int kd n) es with
        | some (some v) => some (.v (if ok then .tup [v, .bool true] else v), L, H, e, g)
        | some none => match zs with
          | [z] => some (.v (if ok then .tup [z, .bool false] else z), L, H, e, g)
          | _ => none
        | none => none
      | _ => none
    | _, _ => none
  | _ => none

/-- the n-th one set: told as a list that is laid open -/
def setS : List SV → Nat → SV → (List SV → Prop) → Prop
  | [], _, _, K => K []
  | _ :: l, 0, v, K => K (v :: l)
  | a :: l, n + 1, v, K => setS l n v fun l => K (a :: l)

def putS (tm : List SV) (d : Option Nat) (v : SV) (K : List SV → Prop) : Prop :=
  match d with
  | some d => setS tm d v K
  | none => K tm

/-- What follows: the temporaries, the variables of this call, the memory, the two marks. -/
abbrev Kt := List SV → List LB → List B → Bool → Bool → Prop
abbrev KV := SV → List LB → List B → Bool → Bool → Prop

/-- What a call comes to: its value, the memory; has anything that names a block been written into what was there; is there more of it. -/
abbrev Post := V → List B → Bool → Bool → Prop
abbrev Sp := List V → List B → Post → Prop
abbrev CT := Nat → Sp

/-- the cells that an append brings -/
def news (H : List B) (esz : Nat) : V → Option (Nat × List V)
  | .sl none n _ => some (n, [])
  | .sl (some (i, o)) n _ =>
    match rd H i o (n * esz) with
    | some cs => if cs.all V.one then some (n, cs) else none
    | none => none
  | .str s => some (s.size, s.data.toList.map fun b => V.int .u8 b.toNat)
  | _ => none

def olds (H : List B) (esz : Nat) (p : Option (Nat × Nat)) (n : Nat) : Option (List V) :=
  match p with
  | none => some []
  | some (i, o) => match rd H i o (n * esz) with
    | some cs => if cs.all V.one then some cs else none
    | none => none

/-- 'append': in place where there is room; else whatever the new capacity. -/
def evApp0 (tm : List SV) (L : List LB) (H : List B) (e g : Bool) (ty : TypeId) (esz bytes : Nat) (zs : List V) (x y : Opd) (K : KV) : Prop :=
  match x.val tm, y.val tm with
  | some (.sl p len cap), some b =>
    match news H esz b with
    | some (n, cs) =>
      if len + n ≤ cap then
        match p with
        | none => K (.v (.sl none (len + n) cap)) L H e g
        | some (i, o) =>
          match wr H i (o + len * esz) cs with
          | some H => K (.v (.sl (some (i, o)) (len + n) cap)) L H (e || !V.ltL 0 cs) g
          | none => False
      else
        match olds H esz p len with
        | some old => (len + n) * bytes ≤ 140737488355328 ∧ len + n ≤ 9223372036854775807 ∧ ∀ c, len + n ≤ c → c < 9223372036854775808 →
            K (.v (.sl (some (H.length, 0)) (len + n) c)) L (H ++ [.rw ty (old ++ cs ++ reps (c - (len + n)) zs)]) e true
        | none => False
    | none => False
  | _, _ => False

/-- 'append' of so many zeros, past the room that there is -/
def evAppz (tm : List SV) (L : List LB) (H : List B) (e : Bool) (ty : TypeId) (bytes : Nat) (zs : List V) (x y : Opd) (K : KV) : Prop :=
  match x.val tm, y.val tm with
  | some (.sl p len cap), some (.int _ l) =>
    0 < l ∧ cap < len + l.toNat ∧
      match olds H zs.length p len with
      | some old => (len + l.toNat) * bytes ≤ 140737488355328 ∧ len + l.toNat ≤ 9223372036854775807 ∧ ∀ c, len + l.toNat ≤ c → c < 9223372036854775808 →
          K (.v (.sl (some (H.length, 0)) (len + l.toNat) c)) L (H ++ [.rw ty (old ++ reps l.toNat zs ++ reps (c - (len + l.toNat)) zs)]) e true
      | none => False
  | _, _ => False

def evApp (tm : List SV) (L : List LB) (H : List B) (e g : Bool) (ty : TypeId) (esz bytes : Nat) (zs : List V) (x y : Opd) (K : KV) : Prop :=
  match esz with
  | 0 => evAppz tm L H e ty bytes zs x y K
  | n + 1 => evApp0 tm L H e g ty (n + 1) bytes zs x y K

theorem evApp_pos {tm : List SV} {L : List LB} {H : List B} {e g : Bool} {ty : TypeId} {esz bytes : Nat} {zs : List V} {x y : Opd} {K : KV} (h : 0 < esz) : evApp tm L H e g ty esz bytes zs x y K = evApp0 tm L H e g ty esz bytes zs x y K := by
  cases esz with
  | zero => exact absurd h (by decide)
  | succ n => rfl

/-- A halt ahead of an 'append'. -/
inductive AtApp (P : Prop) : Prop
  | mk : P → AtApp P
theorem AtApp.out {P : Prop} : AtApp P → P := fun ⟨h⟩ => h

/-- a test: its two ways -/
def dec (d : Bool) (A B : Prop) : Prop := Bool.rec (motive := fun _ => Prop) B A d

theorem dec_true {d : Bool} {A B : Prop} (h : d = true) (a : A) : Bool.rec (motive := fun _ => Prop) B A d := by subst h; exact a
theorem dec_false {d : Bool} {A B : Prop} (h : d = false) (b : B) : Bool.rec (motive := fun _ => Prop) B A d := by subst h; exact b
theorem dec_split {d : Bool} {A B : Prop} (a : d = true → A) (b : d = false → B) : Bool.rec (motive := fun _ => Prop) B A d := by
  cases d
  · exact b rfl
  · exact a rfl

/-! What is kept is laid open. -/

/-- numbers: forced where they are known -/
def fN : Nat → Nat → (Nat → Prop) → Prop
  | 0, n, K => K n
  | f + 1, 0, K => fN f 0 K
  | f + 1, n + 1, K => fN f (n + 1) K

theorem fN_eq : ∀ (f n : Nat) (K : Nat → Prop), fN f n K = K n
  | 0, _, _ => rfl
  | f + 1, 0, K => fN_eq f 0 K
  | f + 1, n + 1, K => fN_eq f (n + 1) K

def fI : Nat → Int → (Int → Prop) → Prop
  | 0, n, K => K n
  | f + 1, .ofNat 0, K => fI f (.ofNat 0) K
  | f + 1, .ofNat (n + 1), K => fI f (.ofNat (n + 1)) K
  | f + 1, .negSucc 0, K => fI f (.negSucc 0) K
  | f + 1, .negSucc (n + 1), K => fI f (.negSucc (n + 1)) K

theorem fI_eq : ∀ (f : Nat) (n : Int) (K : Int → Prop), fI f n K = K n
  | 0, _, _ => rfl
  | f + 1, .ofNat 0, K => fI_eq f (.ofNat 0) K
  | f + 1, .ofNat (n + 1), K => fI_eq f (.ofNat (n + 1)) K
  | f + 1, .negSucc 0, K => fI_eq f (.negSucc 0) K
  | f + 1, .negSucc (n + 1), K => fI_eq f (.negSucc (n + 1)) K

def fO : Nat → Bool → (Bool → Prop) → Prop
  | 0, b, K => K b
  | f + 1, true, K => fO f true K
  | f + 1, false, K => fO f false K

theorem fO_eq : ∀ (f : Nat) (b : Bool) (K : Bool → Prop), fO f b K = K b
  | 0, _, _ => rfl
  | f + 1, true, K => fO_eq f true K
  | f + 1, false, K => fO_eq f false K

/-- what is not known gets a name. -/
theorem fI_gen {f : Nat} {n : Int} {K : Int → Prop} (h : ∀ z, z = n → K z) : fI f n K := (fI_eq f n K).mpr (h n rfl)
theorem fO_gen {f : Nat} {b : Bool} {K : Bool → Prop} (h : ∀ z, z = b → K z) : fO f b K := (fO_eq f b K).mpr (h b rfl)
theorem fO_mk {f : Nat} {b : Bool} {K : Bool → Prop} (h : K b) : fO f b K := (fO_eq f b K).mpr h
theorem fN_mk {f n : Nat} {K : Nat → Prop} (h : K n) : fN f n K := (fN_eq f n K).mpr h
theorem fI_mk {f : Nat} {n : Int} {K : Int → Prop} (h : K n) : fI f n K := (fI_eq f n K).mpr h

/-- A halt: nothing is laid open behind it unasked. -/
inductive Stop (P : Prop) : Prop
  | mk : P → Stop P

theorem Stop.eq (P : Prop) : Stop P = P := propext ⟨fun ⟨h⟩ => h, fun h => ⟨h⟩⟩

def gN (n : Nat) (K : Nat → Prop) : Prop := Stop (fN 1 n K)
def gI (n : Int) (K : Int → Prop) : Prop := Stop (fI 1 n K)
def gO (b : Bool) (K : Bool → Prop) : Prop := Stop (fO 1 b K)
theorem gN_eq (n : Nat) (K : Nat → Prop) : gN n K = K n := by rw [gN, Stop.eq, fN_eq]
theorem gI_eq (n : Int) (K : Int → Prop) : gI n K = K n := by rw [gI, Stop.eq, fI_eq]
theorem gO_eq (b : Bool) (K : Bool → Prop) : gO b K = K b := by rw [gO, Stop.eq, fO_eq]

def f1 (v : V) (K : V → Prop) : Prop :=
  match v with
  | .int k n => K (.int k n)
  | .bool b => K (.bool b)
  | .str s => K (.str s)
  | .ptr none => K (.ptr none)
  | .ptr (some (i, o)) => gN i fun i => gN o fun o => K (.ptr (some (i, o)))
  | .sl none n c => gN n fun n => gN c fun c => K (.sl none n c)
  | .sl (some (i, o)) n c => gN i fun i => gN o fun o => gN n fun n => gN c fun c => K (.sl (some (i, o)) n c)
  | .fn f a b => K (.fn f a b)
  | .nilf => K .nilf
  | .mp m => K (.mp m)
  | .agg cs => K (.agg cs)
  | .tup cs => K (.tup cs)

theorem f1_eq (v : V) (K : V → Prop) : f1 v K = K v := by unfold f1; split <;> simp only [gN_eq]

def fL : List V → (List V → Prop) → Prop
  | [], K => K []
  | v :: l, K => f1 v fun v => fL l fun l => K (v :: l)

theorem fL_eq : ∀ (l : List V) (K : List V → Prop), fL l K = K l
  | [], _ => rfl
  | v :: l, K => by rw [fL, f1_eq, fL_eq l]

def gL (l : List V) (K : List V → Prop) : Prop := Stop (fL l K)
theorem gL_eq (l : List V) (K : List V → Prop) : gL l K = K l := by rw [gL, Stop.eq, fL_eq]

def f2 (v : V) (K : V → Prop) : Prop :=
  match v with
  | .agg cs => gL cs fun cs => K (.agg cs)
  | v => f1 v K

theorem f2_eq (v : V) (K : V → Prop) : f2 v K = K v := by
  unfold f2; split
  · rw [gL_eq]
  · rw [f1_eq]

def fL2 : List V → (List V → Prop) → Prop
  | [], K => K []
  | v :: l, K => f2 v fun v => fL2 l fun l => K (v :: l)

theorem fL2_eq : ∀ (l : List V) (K : List V → Prop), fL2 l K = K l
  | [], _ => rfl
  | v :: l, K => by rw [fL2, f2_eq, fL2_eq l]

def fS (s : SV) (K : SV → Prop) : Prop :=
  match s with
  | .v (.agg cs) => gL cs fun cs => K (.v (.agg cs))
  | .v (.tup cs) => fL2 cs fun cs => K (.v (.tup cs))
  | .v x => f1 x fun x => K (.v x)
  | .lp i o => gN i fun i => gN o fun o => K (.lp i o)

theorem fS_eq (s : SV) (K : SV → Prop) : fS s K = K s := by
  unfold fS; split
  · rw [gL_eq]
  · rw [fL2_eq]
  · rw [f1_eq]
  · rw [gN_eq, gN_eq]

/-- a whole number, forced where it is known -/
def fA (s : SV) (K : SV → Prop) : Prop :=
  match s with
  | .v (.int k n) => gI n fun n => K (.v (.int k n))
  | .v (.bool b) => gO b fun b => K (.v (.bool b))
  | s => fS s K

theorem fA_eq (s : SV) (K : SV → Prop) : fA s K = K s := by
  unfold fA; split
  · rw [gI_eq]
  · rw [gO_eq]
  · rw [fS_eq]

/-- what a call gave: all numbers and truths in it -/
def fC1 (v : V) (K : V → Prop) : Prop :=
  match v with
  | .int k n => gI n fun n => K (.int k n)
  | .bool b => gO b fun b => K (.bool b)
  | v => f1 v K

theorem fC1_eq (v : V) (K : V → Prop) : fC1 v K = K v := by
  unfold fC1; split
  · rw [gI_eq]
  · rw [gO_eq]
  · rw [f1_eq]

def fCL : List V → (List V → Prop) → Prop
  | [], K => K []
  | v :: l, K => fC1 v fun v => fCL l fun l => K (v :: l)

theorem fCL_eq : ∀ (l : List V) (K : List V → Prop), fCL l K = K l
  | [], _ => rfl
  | v :: l, K => by rw [fCL, fC1_eq, fCL_eq l]

def fC2 (v : V) (K : V → Prop) : Prop :=
  match v with
  | .agg cs => fCL cs fun cs => K (.agg cs)
  | v => fC1 v K

theorem fC2_eq (v : V) (K : V → Prop) : fC2 v K = K v := by
  unfold fC2; split
  · rw [fCL_eq]
  · rw [fC1_eq]

def fCL2 : List V → (List V → Prop) → Prop
  | [], K => K []
  | v :: l, K => fC2 v fun v => fCL2 l fun l => K (v :: l)

theorem fCL2_eq : ∀ (l : List V) (K : List V → Prop), fCL2 l K = K l
  | [], _ => rfl
  | v :: l, K => by rw [fCL2, fC2_eq, fCL2_eq l]

def fC (v : V) (K : V → Prop) : Prop :=
  match v with
  | .tup cs => fCL2 cs fun cs => K (.tup cs)
  | v => fC2 v K

theorem fC_eq (v : V) (K : V → Prop) : fC v K = K v := by
  unfold fC; split
  · rw [fCL2_eq]
  · rw [fC2_eq]

/-- is it an operation of numbers? -/
def isA : EOp → Bool
  | .bin _ _ _ => true
  | .conv _ _ => true
  | .len _ _ => true
  | .capo _ => true
  | .mm _ _ _ => true
  | .un _ _ => true
  | .eqb _ _ _ => true
  | .eqp _ _ _ => true
  | .eqs _ _ _ => true
  | .cmp _ _ _ _ => true
  | .ixstr _ _ => true
  | _ => false

def fZ (op : EOp) (s : SV) (K : SV → Prop) : Prop :=
  match isA op with
  | true => fA s K
  | false => fS s K

theorem fZ_eq (op : EOp) (s : SV) (K : SV → Prop) : fZ op s K = K s := by
  unfold fZ; split
  · rw [fA_eq]
  · rw [fS_eq]

def fLB : List LB → (List LB → Prop) → Prop
  | [], K => K []
  | ⟨ty, cs⟩ :: l, K => fL cs fun cs => fLB l fun l => K (⟨ty, cs⟩ :: l)

theorem fLB_eq : ∀ (l : List LB) (K : List LB → Prop), fLB l K = K l
  | [], _ => rfl
  | ⟨ty, cs⟩ :: l, K => by rw [fLB, fL_eq, fLB_eq l]

def fB (b : B) (K : B → Prop) : Prop :=
  match b with
  | .rw ty cs => fL cs fun cs => K (.rw ty cs)
  | .ro cs => K (.ro cs)
  | .mp es => K (.mp es)

theorem fB_eq (b : B) (K : B → Prop) : fB b K = K b := by
  unfold fB; split
  · rw [fL_eq]
  · rfl
  · rfl

def fH : List B → (List B → Prop) → Prop
  | [], K => K []
  | b :: l, K => fB b fun b => fH l fun l => K (b :: l)

theorem fH_eq : ∀ (l : List B) (K : List B → Prop), fH l K = K l
  | [], _ => rfl
  | b :: l, K => by rw [fH, fB_eq, fH_eq l]

def gLB (l : List LB) (K : List LB → Prop) : Prop := Stop (fLB l K)
theorem gLB_eq (l : List LB) (K : List LB → Prop) : gLB l K = K l := by rw [gLB, Stop.eq, fLB_eq]
def gH (l : List B) (K : List B → Prop) : Prop := Stop (fH l K)
theorem gH_eq (l : List B) (K : List B → Prop) : gH l K = K l := by rw [gH, Stop.eq, fH_eq]
theorem fLB_mk {l : List LB} {K : List LB → Prop} (h : K l) : fLB l K := (fLB_eq l K).mpr h
theorem fL_mk {l : List V} {K : List V → Prop} (h : K l) : fL l K := (fL_eq l K).mpr h
theorem fH_mk {l : List B} {K : List B → Prop} (h : K l) : fH l K := (fH_eq l K).mpr h

/-- what an operation on memory touches: nothing (0), the variables of this call (1), the memory (2) -/
def grp (tm : List SV) : EOp → Nat
  | .ld _ _ _ => 0
  | .look _ _ _ _ => 0
  | .alloc true _ _ => 1
  | .box true _ _ => 1
  | .st _ x _ => match x.ev tm with
    | .lp _ _ => 1
    | _ => 2
  | _ => 2

def fM (n : Nat) (L : List LB) (H : List B) (K : List LB → List B → Prop) : Prop :=
  match n with
  | 0 => K L H
  | 1 => gLB L fun L => K L H
  | _ => gH H fun H => K L H

theorem fM_eq (n : Nat) (L : List LB) (H : List B) (K : List LB → List B → Prop) : fM n L H K = K L H := by
  unfold fM; split
  · rfl
  · rw [gLB_eq]
  · rw [gH_eq]

def evOp (C : CT) (tm : List SV) (L : List LB) (H : List B) (e g : Bool) (op : EOp) (K : KV) : Prop :=
  match op with
  | .call f xs =>
    match f.val tm, vals tm xs with
    | some (.fn n a b), some vs => C n (a ++ vs ++ b) H fun v H' e' g' => fC v fun v => gO (e || e') fun e => K (.v v) L H' e (g || g')
    | _, _ => False
  | .app ty esz bytes zs x y => AtApp (evApp tm L H e g ty esz bytes zs x y K)
  | .mv x =>
    match x.ev tm with
    | .v v => K (.v v) L H e g
    | .lp i o => K (.lp i o) L H e g
  | .pick c a b =>
    match c.val tm, a.val tm, b.val tm with
    | some (.bool t), some x, some y => dec t (K (.v x) L H e g) (K (.v y) L H e g)
    | _, _, _ => False
  | op =>
    match pureOp tm op with
    | some v => fZ op v fun v => K v L H e g
    | none => match memOp tm L H e g op with
      | some (v, L', H', e', g') => fS v fun v => fM (grp tm op) L' H' fun L' H' => gO e' fun e' => K v L' H' e' g'
      | none => False

/-- The operations of a region, in their order; one whose guard says no is passed over. -/
def evOps (C : CT) : List EOper → List SV → List LB → List B → Bool → Bool → Kt → Prop
  | [], tm, L, H, e, g, K => K tm L H e g
  | o :: r, tm, L, H, e, g, K =>
    match o.guard with
    | none => evOp C tm L H e g o.op fun v L H e g => putS tm o.dst v fun tm => evOps C r tm L H e g K
    | some (t, w) =>
      match gets tm t with
      | .v (.bool x) => match w with
        | true => dec x (evOp C tm L H e g o.op fun v L H e g => putS tm o.dst v fun tm => evOps C r tm L H e g K) (putS tm o.dst undefV fun tm => evOps C r tm L H e g K)
        | false => dec x (putS tm o.dst undefV fun tm => evOps C r tm L H e g K) (evOp C tm L H e g o.op fun v L H e g => putS tm o.dst v fun tm => evOps C r tm L H e g K)
      | .v (.tup []) => putS tm o.dst undefV fun tm => evOps C r tm L H e g K
      | _ => False

/-- An operation that leaves the memory as it was. -/
def evS (C : CT) (tm : List SV) (L : List LB) (H : List B) (e g : Bool) (op : EOp) (K : SV → Prop) : Prop :=
  match op with
  | .call f xs =>
    match f.val tm, vals tm xs with
    | some (.fn n a b), some vs => ∃ v, C n (a ++ vs ++ b) H (fun v' H' e' g' => v' = v ∧ H' = H ∧ e' = false ∧ g' = false) ∧ fC v fun v => K (.v v)
    | _, _ => False
  | .mv x =>
    match x.ev tm with
    | .v v => K (.v v)
    | .lp i o => K (.lp i o)
  | .pick c a b =>
    match c.val tm, a.val tm, b.val tm with
    | some (.bool t), some x, some y => dec t (K (.v x)) (K (.v y))
    | _, _, _ => False
  | .ld a n x =>
    match memOp tm L H e g (.ld a n x) with
    | some (v, _) => fS v K
    | none => False
  | op =>
    match pureOp tm op with
    | some v => fZ op v K
    | none => False

/-- The operations of a region whose order is drawn: none of them changes the memory. -/
def evAny (C : CT) (L : List LB) (H : List B) (e g : Bool) : List EOper → List SV → (List SV → Prop) → Prop
  | [], tm, K => K tm
  | o :: r, tm, K =>
    match o.guard with
    | none => evS C tm L H e g o.op fun v => putS tm o.dst v fun tm => evAny C L H e g r tm K
    | some (t, w) =>
      match gets tm t with
      | .v (.bool x) => match w with
        | true => dec x (evS C tm L H e g o.op fun v => putS tm o.dst v fun tm => evAny C L H e g r tm K) (putS tm o.dst undefV fun tm => evAny C L H e g r tm K)
        | false => dec x (putS tm o.dst undefV fun tm => evAny C L H e g r tm K) (evS C tm L H e g o.op fun v => putS tm o.dst v fun tm => evAny C L H e g r tm K)
      | .v (.tup []) => putS tm o.dst undefV fun tm => evAny C L H e g r tm K
      | _ => False

/-- Those that make or fill new variables of the call: from the n-th on they are new. -/
def evEff (n : Nat) : List EOper → List SV → List LB → (List SV → List LB → Prop) → Prop
  | [], tm, L, K => K tm L
  | o :: r, tm, L, K =>
    match o.guard with
    | some _ => False
    | none => match o.op with
      | .alloc true ty zs => putS tm o.dst (.lp L.length 0) fun tm => gLB (L ++ [⟨ty, zs⟩]) fun L => evEff n r tm L K
      | .st k x y =>
        match y.val tm, x.ev tm with
        | some v, .lp i a => match L[i]? with
          | some b => if n ≤ i ∧ v.cells.length = k ∧ v.cells.all V.one = true ∧ a + k ≤ b.cs.length then putS tm o.dst undefV fun tm => gLB (L.set i ⟨b.ty, splice b.cs a v.cells⟩) fun L => evEff n r tm L K else False
          | none => False
        | _, _ => False
      | _ => False

/-- An operation that asks nothing of the memory but the call's own variables. -/
def evP (tm : List SV) (L : List LB) (op : EOp) (K : SV → Prop) : Prop :=
  match op with
  | .mv x =>
    match x.ev tm with
    | .v v => K (.v v)
    | .lp i o => K (.lp i o)
  | .pick c a b =>
    match c.val tm, a.val tm, b.val tm with
    | some (.bool t), some x, some y => dec t (K (.v x)) (K (.v y))
    | _, _, _ => False
  | .ld ag n x =>
    match x.ev tm with
    | .lp i o =>
      match L[i]? with
      | some b => match cut b.cs o n with
        | some cs => match unV ag cs with
          | some v => fS (.v v) K
          | none => False
        | none => False
      | none => False
    | _ => False
  | op =>
    match pureOp tm op with
    | some v => fZ op v K
    | none => False

inductive Both (A B : Prop) : Prop
  | mk : A → B → Both A B

def evX (C : CT) : Sch → List SV → List LB → List B → Bool → Bool → Kt → Prop
  | .done, tm, L, H, e, g, K => K tm L H e g
  | .sil o r, tm, L, H, e, g, K =>
    match o.guard with
    | none => evP tm L o.op fun v => putS tm o.dst v fun tm => evX C r tm L H e g K
    | some (t, w) =>
      match gets tm t with
      | .v (.bool x) => match w with
        | true => dec x (evP tm L o.op fun v => putS tm o.dst v fun tm => evX C r tm L H e g K) (putS tm o.dst undefV fun tm => evX C r tm L H e g K)
        | false => dec x (putS tm o.dst undefV fun tm => evX C r tm L H e g K) (evP tm L o.op fun v => putS tm o.dst v fun tm => evX C r tm L H e g K)
      | .v (.tup []) => putS tm o.dst undefV fun tm => evX C r tm L H e g K
      | _ => False
  | .op o r, tm, L, H, e, g, K =>
    match o.guard with
    | none => evOp C tm L H e g o.op fun v L' H e g => L' = L ∧ putS tm o.dst v fun tm => evX C r tm L H e g K
    | some (t, w) =>
      match gets tm t with
      | .v (.bool x) => match w with
        | true => dec x (evOp C tm L H e g o.op fun v L' H e g => L' = L ∧ putS tm o.dst v fun tm => evX C r tm L H e g K) (putS tm o.dst undefV fun tm => evX C r tm L H e g K)
        | false => dec x (putS tm o.dst undefV fun tm => evX C r tm L H e g K) (evOp C tm L H e g o.op fun v L' H e g => L' = L ∧ putS tm o.dst v fun tm => evX C r tm L H e g K)
      | .v (.tup []) => putS tm o.dst undefV fun tm => evX C r tm L H e g K
      | _ => False
  | .both a b, tm, L, H, e, g, K => Both (evX C a tm L H e g K) (evX C b tm L H e g K)

inductive Ex where
  | n
  | x (id : Nat)
  | r

abbrev KE := Ex → List SV → List LB → List B → Bool → Bool → Prop

def evLoop (body : List SV → List LB → List B → Bool → Bool → KE → Prop) : Nat → List SV → List LB → List B → Bool → Bool → KE → Prop
  | 0, _, _, _, _, _, _ => False
  | k + 1, tm, L, H, e, g, Q => body tm L H e g fun ex tm L H e g =>
    match ex with
    | .n => evLoop body k tm L H e g Q
    | .x id => Q (.x id) tm L H e g
    | .r => Q .r tm L H e g

def evC (C : CT) (k : Nat) : EC → List SV → List LB → List B → Bool → Bool → KE → Prop
  | .skip, tm, L, H, e, g, Q => Q .n tm L H e g
  | .ops false l, tm, L, H, e, g, Q => evOps C l tm L H e g fun tm L H e g => Q .n tm L H e g
  | .ops true l, tm, L, H, e, g, Q => evAny C L H e g l tm fun tm => Q .n tm L H e g
  | .opsT l m r, tm, L, H, e, g, Q => evAny C L H e g l tm fun tm => evEff L.length m tm L fun tm L => evOps C r tm L H e g fun tm L H e g => Q .n tm L H e g
  | .opsX s, tm, L, H, e, g, Q => evX C s tm L H e g fun tm L H e g => Q .n tm L H e g
  | .seq a b, tm, L, H, e, g, Q => evC C k a tm L H e g fun ex tm L H e g =>
    match ex with
    | .n => evC C k b tm L H e g Q
    | .x id => Q (.x id) tm L H e g
    | .r => Q .r tm L H e g
  | .cond x a b, tm, L, H, e, g, Q =>
    match x.ev tm with
    | .v (.bool t) => dec t (evC C k a tm L H e g Q) (evC C k b tm L H e g Q)
    | _ => False
  | .block id c, tm, L, H, e, g, Q => evC C k c tm L H e g fun ex tm L H e g =>
    match ex with
    | .x i => if i = id then Q .n tm L H e g else Q (.x i) tm L H e g
    | .n => Q .n tm L H e g
    | .r => Q .r tm L H e g
  | .loop c, tm, L, H, e, g, Q => evLoop (evC C k c) k tm L H e g Q
  | .exit id, tm, L, H, e, g, Q => Q (.x id) tm L H e g
  | .ret, tm, L, H, e, g, Q => Q .r tm L H e g

/-! The same by the recursors themselves: what is left over reads alike everywhere. -/

def rOps (C : CT) (l : List EOper) : List SV → List LB → List B → Bool → Bool → Kt → Prop :=
  @List.rec EOper (fun _ => List SV → List LB → List B → Bool → Bool → Kt → Prop)
    (fun tm L H e g K => K tm L H e g)
    (fun o _ ih tm L H e g K =>
      match o.guard with
      | none => evOp C tm L H e g o.op fun v L H e g => putS tm o.dst v fun tm => ih tm L H e g K
      | some (t, w) =>
        match gets tm t with
        | .v (.bool x) => match w with
          | true => dec x (evOp C tm L H e g o.op fun v L H e g => putS tm o.dst v fun tm => ih tm L H e g K) (putS tm o.dst undefV fun tm => ih tm L H e g K)
          | false => dec x (putS tm o.dst undefV fun tm => ih tm L H e g K) (evOp C tm L H e g o.op fun v L H e g => putS tm o.dst v fun tm => ih tm L H e g K)
        | .v (.tup []) => putS tm o.dst undefV fun tm => ih tm L H e g K
        | _ => False) l

theorem rOps_eq (C : CT) (l : List EOper) : rOps C l = evOps C l := by
  induction l with
  | nil => rfl
  | cons o r ih =>
    funext tm L H e g K
    rw [evOps]
    simp only [← ih]
    rfl

def rAny (C : CT) (L : List LB) (H : List B) (e g : Bool) (l : List EOper) : List SV → (List SV → Prop) → Prop :=
  @List.rec EOper (fun _ => List SV → (List SV → Prop) → Prop)
    (fun tm K => K tm)
    (fun o _ ih tm K =>
      match o.guard with
      | none => evS C tm L H e g o.op fun v => putS tm o.dst v fun tm => ih tm K
      | some (t, w) =>
        match gets tm t with
        | .v (.bool x) => match w with
          | true => dec x (evS C tm L H e g o.op fun v => putS tm o.dst v fun tm => ih tm K) (putS tm o.dst undefV fun tm => ih tm K)
          | false => dec x (putS tm o.dst undefV fun tm => ih tm K) (evS C tm L H e g o.op fun v => putS tm o.dst v fun tm => ih tm K)
        | .v (.tup []) => putS tm o.dst undefV fun tm => ih tm K
        | _ => False) l

theorem rAny_eq (C : CT) (L : List LB) (H : List B) (e g : Bool) (l : List EOper) : rAny C L H e g l = evAny C L H e g l := by
  induction l with
  | nil => rfl
  | cons o r ih =>
    funext tm K
    rw [evAny]
    simp only [← ih]
    rfl

def rEff (n : Nat) (l : List EOper) : List SV → List LB → (List SV → List LB → Prop) → Prop :=
  @List.rec EOper (fun _ => List SV → List LB → (List SV → List LB → Prop) → Prop)
    (fun tm L K => K tm L)
    (fun o _ ih tm L K =>
      match o.guard with
      | some _ => False
      | none => match o.op with
        | .alloc true ty zs => putS tm o.dst (.lp L.length 0) fun tm => gLB (L ++ [⟨ty, zs⟩]) fun L => ih tm L K
        | .st k x y =>
          match y.val tm, x.ev tm with
          | some v, .lp i a => match L[i]? with
            | some b => if n ≤ i ∧ v.cells.length = k ∧ v.cells.all V.one = true ∧ a + k ≤ b.cs.length then putS tm o.dst undefV fun tm => gLB (L.set i ⟨b.ty, splice b.cs a v.cells⟩) fun L => ih tm L K else False
            | none => False
          | _, _ => False
        | _ => False) l

theorem rEff_eq (n : Nat) (l : List EOper) : rEff n l = evEff n l := by
  induction l with
  | nil => rfl
  | cons o r ih =>
    funext tm L K
    rw [evEff]
    simp only [← ih]
    rfl

def rX (C : CT) (s : Sch) : List SV → List LB → List B → Bool → Bool → Kt → Prop :=
  @Sch.rec (fun _ => List SV → List LB → List B → Bool → Bool → Kt → Prop)
    (fun tm L H e g K => K tm L H e g)
    (fun o _ ih tm L H e g K =>
      match o.guard with
      | none => evP tm L o.op fun v => putS tm o.dst v fun tm => ih tm L H e g K
      | some (t, w) =>
        match gets tm t with
        | .v (.bool x) => match w with
          | true => dec x (evP tm L o.op fun v => putS tm o.dst v fun tm => ih tm L H e g K) (putS tm o.dst undefV fun tm => ih tm L H e g K)
          | false => dec x (putS tm o.dst undefV fun tm => ih tm L H e g K) (evP tm L o.op fun v => putS tm o.dst v fun tm => ih tm L H e g K)
        | .v (.tup []) => putS tm o.dst undefV fun tm => ih tm L H e g K
        | _ => False)
    (fun o _ ih tm L H e g K =>
      match o.guard with
      | none => evOp C tm L H e g o.op fun v L' H e g => L' = L ∧ putS tm o.dst v fun tm => ih tm L H e g K
      | some (t, w) =>
        match gets tm t with
        | .v (.bool x) => match w with
          | true => dec x (evOp C tm L H e g o.op fun v L' H e g => L' = L ∧ putS tm o.dst v fun tm => ih tm L H e g K) (putS tm o.dst undefV fun tm => ih tm L H e g K)
          | false => dec x (putS tm o.dst undefV fun tm => ih tm L H e g K) (evOp C tm L H e g o.op fun v L' H e g => L' = L ∧ putS tm o.dst v fun tm => ih tm L H e g K)
        | .v (.tup []) => putS tm o.dst undefV fun tm => ih tm L H e g K
        | _ => False)
    (fun _ _ iha ihb tm L H e g K => Both (iha tm L H e g K) (ihb tm L H e g K)) s

theorem rX_eq (C : CT) (s : Sch) : rX C s = evX C s := by
  induction s with
  | done => rfl
  | sil o r ih =>
    funext tm L H e g K
    rw [evX]
    simp only [← ih]
    rfl
  | op o r ih =>
    funext tm L H e g K
    rw [evX]
    simp only [← ih]
    rfl
  | both a b iha ihb =>
    funext tm L H e g K
    rw [evX]
    simp only [← iha, ← ihb]
    rfl

def rLoop (body : List SV → List LB → List B → Bool → Bool → KE → Prop) (f : Nat) : List SV → List LB → List B → Bool → Bool → KE → Prop :=
  @Nat.rec (fun _ => List SV → List LB → List B → Bool → Bool → KE → Prop)
    (fun _ _ _ _ _ _ => False)
    (fun _ ih tm L H e g Q => body tm L H e g fun ex tm L H e g =>
      match ex with
      | .n => ih tm L H e g Q
      | .x id => Q (.x id) tm L H e g
      | .r => Q .r tm L H e g) f

theorem rLoop_eq (body : List SV → List LB → List B → Bool → Bool → KE → Prop) (f : Nat) : rLoop body f = evLoop body f := by
  induction f with
  | zero => rfl
  | succ f ih =>
    funext tm L H e g Q
    rw [evLoop]
    simp only [← ih]
    rfl

def rC (C : CT) (k : Nat) (c : EC) : List SV → List LB → List B → Bool → Bool → KE → Prop :=
  @EC.rec (fun _ => List SV → List LB → List B → Bool → Bool → KE → Prop)
    (fun tm L H e g Q => Q .n tm L H e g)
    (fun d l tm L H e g Q => match d with
      | false => rOps C l tm L H e g fun tm L H e g => Q .n tm L H e g
      | true => rAny C L H e g l tm fun tm => Q .n tm L H e g)
    (fun l m r tm L H e g Q => rAny C L H e g l tm fun tm => rEff L.length m tm L fun tm L => rOps C r tm L H e g fun tm L H e g => Q .n tm L H e g)
    (fun s tm L H e g Q => rX C s tm L H e g fun tm L H e g => Q .n tm L H e g)
    (fun _ _ iha ihb tm L H e g Q => iha tm L H e g fun ex tm L H e g =>
      match ex with
      | .n => ihb tm L H e g Q
      | .x id => Q (.x id) tm L H e g
      | .r => Q .r tm L H e g)
    (fun x _ _ iha ihb tm L H e g Q =>
      match x.ev tm with
      | .v (.bool t) => dec t (iha tm L H e g Q) (ihb tm L H e g Q)
      | _ => False)
    (fun id _ ih tm L H e g Q => ih tm L H e g fun ex tm L H e g =>
      match ex with
      | .x i => if i = id then Q .n tm L H e g else Q (.x i) tm L H e g
      | .n => Q .n tm L H e g
      | .r => Q .r tm L H e g)
    (fun _ ih tm L H e g Q => rLoop ih k tm L H e g Q)
    (fun id tm L H e g Q => Q (.x id) tm L H e g)
    (fun tm L H e g Q => Q .r tm L H e g) c

theorem rC_eq (C : CT) (k : Nat) (c : EC) : rC C k c = evC C k c := by
  induction c with
  | skip => rfl
  | ops d l =>
    funext tm L H e g Q
    cases d with
    | false => rw [evC, ← rOps_eq]; rfl
    | true => rw [evC, ← rAny_eq]; rfl
  | opsT l m r =>
    funext tm L H e g Q
    rw [evC, ← rAny_eq, ← rEff_eq, ← rOps_eq]; rfl
  | opsX s =>
    funext tm L H e g Q
    rw [evC, ← rX_eq]; rfl
  | seq a b iha ihb =>
    funext tm L H e g Q
    rw [evC]
    simp only [← iha, ← ihb]
    rfl
  | cond x a b iha ihb =>
    funext tm L H e g Q
    rw [evC]
    simp only [← iha, ← ihb]
    rfl
  | block id c ih =>
    funext tm L H e g Q
    rw [evC]
    simp only [← ih]
    rfl
  | loop c ih =>
    funext tm L H e g Q
    rw [evC, ← ih, ← rLoop_eq]; rfl
  | exit id => rfl
  | ret => rfl

def evRes1 (tm : List SV) (L : List LB) (H : List B) : ERes → Option V
  | .t n => match gets tm n with
    | .v v => some v
    | .lp _ _ => none
  | .c n sz =>
    match gets tm n with
    | .v (.ptr (some (i, o))) => match rd H i o sz with
      | some cs => some (.agg cs)
      | none => none
    | .lp i o => match L[i]? with
      | some b => match cut b.cs o sz with
        | some cs => some (.agg cs)
        | none => none
      | none => none
    | _ => none

def evRes (tm : List SV) (L : List LB) (H : List B) : List ERes → Option (List V)
  | [] => some []
  | r :: l =>
    match evRes1 tm L H r with
    | some v => match evRes tm L H l with
      | some vs => some (v :: vs)
      | none => none
    | none => none

def one1 : List V → V
  | [v] => v
  | vs => .tup vs

/-- The end of a call: what was made and isn't named falls away. -/
def fin (n : Nat) (v : V) (H : List B) (e g : Bool) (Q : Post) : Prop :=
  match g with
  | false => Q v H e false
  | true => if (!e && v.lt n) = true then gH (H.take n) fun H => Q v H false false else Q v H e true

def leave (fn : EFun) (n : Nat) (Q : Post) : KE := fun ex tm L H e g =>
  match ex with
  | .x _ => False
  | _ => match evRes tm L H fn.res with
    | some vs => fin n (one1 vs) H e g Q
    | none => False

def enterS (fn : EFun) (vs : List V) : List SV := vs.map SV.v ++ List.replicate (fn.nt - vs.length) undefV

/-- a list, laid open to its end -/
def fT : List SV → (List SV → Prop) → Prop
  | [], K => K []
  | a :: l, K => fT l fun l => K (a :: l)

theorem fT_eq : ∀ (l : List SV) (K : List SV → Prop), fT l K = K l
  | [], _ => rfl
  | a :: l, K => by rw [fT, fT_eq l]

def evFun (C : CT) (k : Nat) (fn : EFun) : Sp := fun vs H Q => fT (enterS fn vs) fun tm => rC C k fn.body tm [] H false false (leave fn H.length Q)

/-- a table of contracts -/
def tab : List (Nat × Sp) → CT
  | [], _ => fun _ _ _ => False
  | (n, s) :: r, f => if f = n then s else tab r f

end Go.Ev
