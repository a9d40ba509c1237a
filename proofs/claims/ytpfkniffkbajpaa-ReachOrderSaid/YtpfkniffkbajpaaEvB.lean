/- Ev: the operations on memory, and the evaluator. -/
import Derived.Test.YtpfkniffkbajpaaEvA
namespace Go.Ev

/-- n cells of block i from x on -/
def rd (H : List B) (i x n : Nat) : Option (List V) :=
  match H[i]? with
  | some b => cut b.cells x n
  | none => none

/-- cells written into a block of one's own -/
def wr (H : List B) (i x : Nat) (vs : List V) : Option (List B) :=
  match H[i]? with
  | some (.rw ty cs) => if x + vs.length ≤ cs.length then some (H.set i (.rw ty (splice cs x vs))) else none
  | _ => none

def reps (n : Nat) (zs : List V) : List V := (List.replicate n zs).flatten

/-- the map's key: whole numbers alone -/
def keyEq : V → V → Option Bool
  | .int _ a, .int _ b => some (a == b)
  | _, _ => none

def findK (k : V) : List (V × V) → Option (Option V)
  | [] => some none
  | (a, v) :: r =>
    match keyEq a k with
    | some true => some (some v)
    | some false => findK k r
    | none => none

/-- The operations on memory that always go one way: what is put, the variables of this call, the memory, the two marks. -/
def memOp (tm : List SV) (L : List LB) (H : List B) (e g : Bool) : EOp → Option (SV × List LB × List B × Bool × Bool)
  | .alloc true ty zs => some (.lp L.length 0, L ++ [⟨ty, zs⟩], H, e, g)
  | .alloc false ty zs => some (.v (.ptr (some (H.length, 0))), L, H ++ [.rw ty zs], e, true)
  | .box true ty x =>
    match x.val tm with
    | some v => if v.cells.all V.one then some (.lp L.length 0, L ++ [⟨ty, v.cells⟩], H, e, g) else none
    | none => none
  | .box false ty x =>
    match x.val tm with
    | some v => if v.cells.all V.one then some (.v (.ptr (some (H.length, 0))), L, H ++ [.rw ty v.cells], e, true) else none
    | none => none
  | .bslice ty n zs ps =>
    match fillP tm zs ps with
    | some cs => if cs.all V.one then some (.v (.sl (some (H.length, 0)) n n), L, H ++ [.rw ty cs], e, true) else none
    | none => none
  | .ld agg n x =>
    match x.ev tm with
    | .v (.ptr (some (i, o))) =>
      match rd H i o n with
      | some cs => match unV agg cs with
        | some v => some (.v v, L, H, e, g)
        | none => none
      | none => none
    | .lp i o =>
      match L[i]? with
      | some b => match cut b.cs o n with
        | some cs => match unV agg cs with
          | some v => some (.v v, L, H, e, g)
          | none => none
        | none => none
      | none => none
    | _ => none
  | .st n x y =>
    match y.val tm with
    | some v =>
      if v.cells.length = n ∧ v.cells.all V.one then
        match x.ev tm with
        | .v (.ptr (some (i, o))) =>
          match wr H i o v.cells with
          | some H => some (undefV, L, H, e || !v.plain, g)
          | none => none
        | .lp i o =>
          match L[i]? with
          | some b => if o + n ≤ b.cs.length then some (undefV, L.set i ⟨b.ty, splice b.cs o v.cells⟩, H, e, g) else none
          | none => none
        | _ => none
      else none
    | none => none
  | .mksl ty zs bytes l c =>
    match l.val tm, c.val tm with
    | some (.int _ l), some (.int _ c) =>
      if 0 ≤ l ∧ l ≤ c ∧ c.toNat * zs.length ≤ 16777216 ∧ (bytes : Int) * c ≤ 281474976710656 ∧ c ≤ 9223372036854775807 then
        some (.v (.sl (some (H.length, 0)) l.toNat c.toNat), L, H ++ [.rw ty (reps c.toNat zs)], e, true)
      else none
    | _, _ => none
  | .clr zs x =>
    match x.val tm with
    | some (.sl none _ _) => some (.v (.tup []), L, H, e, g)
    | some (.sl (some (i, o)) n _) =>
      match wr H i o (reps n zs) with
      | some H => some (.v (.tup []), L, H, e, g)
      | none => none
    | _ => none
  | .cpy esz x y =>
    match x.val tm, y.val tm with
    | some (.sl (some (i, o)) n _), some (.sl (some (k, p)) m _) =>
      match rd H k p (min m n * esz) with
      | some cs => if cs.all V.one then match wr H i o cs with
        | some H => some (.v (.int .i64 (min m n : Nat)), L, H, e || !V.ltL 0 cs, g)
        | none => none else none
      | none => none
    | some (.sl _ n _), some (.sl none m _) => some (.v (.int .i64 (min m n : Nat)), L, H, e, g)
    | some (.sl none 0 _), some (.sl (some _) _ _) => some (.v (.int .i64 0), L, H, e, g)
    | _, _ => none
  | .mkmap => some (.v (.mp (some H.length)), L, H ++ [.mp []], e, true)
  | .mset m k x =>
    match m.val tm, k.val tm, x.val tm with
    | some (.mp (some i)), some k, some v =>
      match H[i]? with
      | some (.mp es) => match findK k es with
        | some none => some (undefV, L, H.set i (.mp (es ++ [(k, v)])), e || !v.plain, g)
        | _ => none
      | _ => none
    | _, _, _ => none
  | .look ok zs m k =>
    match m.val tm, k.val tm with
    | some (.mp (some i)), some k =>
      match H[i]? with
      | some (.mp es) => match findK k es with
        | some (some v) => some (.v (if ok then .tup [v, .bool true] else v), L, H, e, g)
        | some none => match zs with
          | [z] => some (.v (if ok then .tup [z, .bool false] else z), L, H, e, g)
          | _ => none
        | none => none
      | _ => none
    | _, _ => none
  | _ => none

/-- the n-th one set: told as a list that is laid open -/
def setS : List SV → Nat → SV → (List SV → Prop) → Prop
  | [], _, _, K => K []
  | _ :: l, 0, v, K => K (v :: l)
  | a :: l, n + 1, v, K => setS l n v fun l => K (a :: l)

def putS (tm : List SV) (d : Option Nat) (v : SV) (K : List SV → Prop) : Prop :=
  match d with
  | some d => setS tm d v K
  | none => K tm

/-- What follows: the temporaries, the variables of this call, the memory, the two marks. -/
abbrev Kt := List SV → List LB → List B → Bool → Bool → Prop
abbrev KV := SV → List LB → List B → Bool → Bool → Prop

/-- What a call comes to: its value, the memory; has anything that names a block been written into what was there; is there more of it. -/
abbrev Post := V → List B → Bool → Bool → Prop
abbrev Sp := List V → List B → Post → Prop
abbrev CT := Nat → Sp

/-- the cells that an append brings -/
def news (H : List B) (esz : Nat) : V → Option (Nat × List V)
  | .sl none n _ => some (n, [])
  | .sl (some (i, o)) n _ =>
    match rd H i o (n * esz) with
    | some cs => if cs.all V.one then some (n, cs) else none
    | none => none
  | .str s => some (s.size, s.data.toList.map fun b => V.int .u8 b.toNat)
  | _ => none

def olds (H : List B) (esz : Nat) (p : Option (Nat × Nat)) (n : Nat) : Option (List V) :=
  match p with
  | none => some []
  | some (i, o) => match rd H i o (n * esz) with
    | some cs => if cs.all V.one then some cs else none
    | none => none

/-- 'append': in place where there is room; else whatever the new capacity. -/
def evApp (tm : List SV) (L : List LB) (H : List B) (e g : Bool) (ty : TypeId) (esz bytes : Nat) (zs : List V) (x y : Opd) (K : KV) : Prop :=
  match x.val tm, y.val tm with
  | some (.sl p len cap), some b =>
    match news H esz b with
    | some (n, cs) =>
      if len + n ≤ cap then
        match p with
        | none => K (.v (.sl none (len + n) cap)) L H e g
        | some (i, o) =>
          match wr H i (o + len * esz) cs with
          | some H => K (.v (.sl (some (i, o)) (len + n) cap)) L H (e || !V.ltL 0 cs) g
          | none => False
      else
        match olds H esz p len with
        | some old => (len + n) * bytes ≤ 140737488355328 ∧ len + n ≤ 9223372036854775807 ∧ ∀ c, len + n ≤ c → c < 9223372036854775808 →
            K (.v (.sl (some (H.length, 0)) (len + n) c)) L (H ++ [.rw ty (old ++ cs ++ reps (c - (len + n)) zs)]) e true
        | none => False
    | none => False
  | _, _ => False

/-- a test: its two ways -/
def dec (d : Bool) (A B : Prop) : Prop := Bool.rec (motive := fun _ => Prop) B A d

theorem dec_true {d : Bool} {A B : Prop} (h : d = true) (a : A) : Bool.rec (motive := fun _ => Prop) B A d := by subst h; exact a
theorem dec_false {d : Bool} {A B : Prop} (h : d = false) (b : B) : Bool.rec (motive := fun _ => Prop) B A d := by subst h; exact b
theorem dec_split {d : Bool} {A B : Prop} (a : d = true → A) (b : d = false → B) : Bool.rec (motive := fun _ => Prop) B A d := by
  cases d
  · exact b rfl
  · exact a rfl

def evOp (C : CT) (tm : List SV) (L : List LB) (H : List B) (e g : Bool) (op : EOp) (K : KV) : Prop :=
  match op with
  | .call f xs =>
    match f.val tm, vals tm xs with
    | some (.fn n a b), some vs => C n (a ++ vs ++ b) H fun v H' e' g' => K (.v v) L H' (e || e') (g || g')
    | _, _ => False
  | .app ty esz bytes zs x y => evApp tm L H e g ty esz bytes zs x y K
  | .mv x =>
    match x.ev tm with
    | .v v => K (.v v) L H e g
    | .lp i o => K (.lp i o) L H e g
  | .pick c a b =>
    match c.val tm, a.val tm, b.val tm with
    | some (.bool t), some x, some y => dec t (K (.v x) L H e g) (K (.v y) L H e g)
    | _, _, _ => False
  | op =>
    match pureOp tm op with
    | some v => K v L H e g
    | none => match memOp tm L H e g op with
      | some (v, L', H', e', g') => K v L' H' e' g'
      | none => False

/-- The operations of a region, in their order; one whose guard says no is passed over. -/
def evOps (C : CT) : List EOper → List SV → List LB → List B → Bool → Bool → Kt → Prop
  | [], tm, L, H, e, g, K => K tm L H e g
  | o :: r, tm, L, H, e, g, K =>
    match o.guard with
    | none => evOp C tm L H e g o.op fun v L H e g => putS tm o.dst v fun tm => evOps C r tm L H e g K
    | some (t, w) =>
      match gets tm t with
      | .v (.bool x) => match w with
        | true => dec x (evOp C tm L H e g o.op fun v L H e g => putS tm o.dst v fun tm => evOps C r tm L H e g K) (putS tm o.dst undefV fun tm => evOps C r tm L H e g K)
        | false => dec x (putS tm o.dst undefV fun tm => evOps C r tm L H e g K) (evOp C tm L H e g o.op fun v L H e g => putS tm o.dst v fun tm => evOps C r tm L H e g K)
      | .v (.tup []) => putS tm o.dst undefV fun tm => evOps C r tm L H e g K
      | _ => False

/-- An operation that leaves the memory as it was. -/
def evS (C : CT) (tm : List SV) (L : List LB) (H : List B) (e g : Bool) (op : EOp) (K : SV → Prop) : Prop :=
  match op with
  | .call f xs =>
    match f.val tm, vals tm xs with
    | some (.fn n a b), some vs => ∃ v, C n (a ++ vs ++ b) H (fun v' H' e' g' => v' = v ∧ H' = H ∧ e' = false ∧ g' = false) ∧ K (.v v)
    | _, _ => False
  | .mv x =>
    match x.ev tm with
    | .v v => K (.v v)
    | .lp i o => K (.lp i o)
  | .pick c a b =>
    match c.val tm, a.val tm, b.val tm with
    | some (.bool t), some x, some y => dec t (K (.v x)) (K (.v y))
    | _, _, _ => False
  | .ld a n x =>
    match memOp tm L H e g (.ld a n x) with
    | some (v, _) => K v
    | none => False
  | op =>
    match pureOp tm op with
    | some v => K v
    | none => False

/-- The operations of a region whose order is drawn: none of them changes the memory. -/
def evAny (C : CT) (L : List LB) (H : List B) (e g : Bool) : List EOper → List SV → (List SV → Prop) → Prop
  | [], tm, K => K tm
  | o :: r, tm, K =>
    match o.guard with
    | none => evS C tm L H e g o.op fun v => putS tm o.dst v fun tm => evAny C L H e g r tm K
    | some (t, w) =>
      match gets tm t with
      | .v (.bool x) => match w with
        | true => dec x (evS C tm L H e g o.op fun v => putS tm o.dst v fun tm => evAny C L H e g r tm K) (putS tm o.dst undefV fun tm => evAny C L H e g r tm K)
        | false => dec x (putS tm o.dst undefV fun tm => evAny C L H e g r tm K) (evS C tm L H e g o.op fun v => putS tm o.dst v fun tm => evAny C L H e g r tm K)
      | .v (.tup []) => putS tm o.dst undefV fun tm => evAny C L H e g r tm K
      | _ => False

inductive Ex where
  | n
  | x (id : Nat)
  | r

abbrev KE := Ex → List SV → List LB → List B → Bool → Bool → Prop

def evLoop (body : List SV → List LB → List B → Bool → Bool → KE → Prop) : Nat → List SV → List LB → List B → Bool → Bool → KE → Prop
  | 0, _, _, _, _, _, _ => False
  | k + 1, tm, L, H, e, g, Q => body tm L H e g fun ex tm L H e g =>
    match ex with
    | .n => evLoop body k tm L H e g Q
    | .x id => Q (.x id) tm L H e g
    | .r => Q .r tm L H e g

def evC (C : CT) (k : Nat) : EC → List SV → List LB → List B → Bool → Bool → KE → Prop
  | .skip, tm, L, H, e, g, Q => Q .n tm L H e g
  | .ops false l, tm, L, H, e, g, Q => evOps C l tm L H e g fun tm L H e g => Q .n tm L H e g
  | .ops true l, tm, L, H, e, g, Q => evAny C L H e g l tm fun tm => Q .n tm L H e g
  | .seq a b, tm, L, H, e, g, Q => evC C k a tm L H e g fun ex tm L H e g =>
    match ex with
    | .n => evC C k b tm L H e g Q
    | .x id => Q (.x id) tm L H e g
    | .r => Q .r tm L H e g
  | .cond x a b, tm, L, H, e, g, Q =>
    match x.ev tm with
    | .v (.bool t) => dec t (evC C k a tm L H e g Q) (evC C k b tm L H e g Q)
    | _ => False
  | .block id c, tm, L, H, e, g, Q => evC C k c tm L H e g fun ex tm L H e g =>
    match ex with
    | .x i => if i = id then Q .n tm L H e g else Q (.x i) tm L H e g
    | .n => Q .n tm L H e g
    | .r => Q .r tm L H e g
  | .loop c, tm, L, H, e, g, Q => evLoop (evC C k c) k tm L H e g Q
  | .exit id, tm, L, H, e, g, Q => Q (.x id) tm L H e g
  | .ret, tm, L, H, e, g, Q => Q .r tm L H e g

def evRes1 (tm : List SV) (L : List LB) (H : List B) : ERes → Option V
  | .t n => match gets tm n with
    | .v v => some v
    | .lp _ _ => none
  | .c n sz =>
    match gets tm n with
    | .v (.ptr (some (i, o))) => match rd H i o sz with
      | some cs => some (.agg cs)
      | none => none
    | .lp i o => match L[i]? with
      | some b => match cut b.cs o sz with
        | some cs => some (.agg cs)
        | none => none
      | none => none
    | _ => none

def evRes (tm : List SV) (L : List LB) (H : List B) : List ERes → Option (List V)
  | [] => some []
  | r :: l =>
    match evRes1 tm L H r with
    | some v => match evRes tm L H l with
      | some vs => some (v :: vs)
      | none => none
    | none => none

def one1 : List V → V
  | [v] => v
  | vs => .tup vs

/-- The end of a call: what was made and isn't named falls away. -/
def fin (n : Nat) (v : V) (H : List B) (e g : Bool) (Q : Post) : Prop :=
  match g with
  | false => Q v H e false
  | true => if (!e && v.lt n) = true then Q v (H.take n) false false else Q v H e true

def leave (fn : EFun) (n : Nat) (Q : Post) : KE := fun ex tm L H e g =>
  match ex with
  | .x _ => False
  | _ => match evRes tm L H fn.res with
    | some vs => fin n (one1 vs) H e g Q
    | none => False

def enterS (fn : EFun) (vs : List V) : List SV := vs.map SV.v ++ List.replicate (fn.nt - vs.length) undefV

def evFun (C : CT) (k : Nat) (fn : EFun) : Sp := fun vs H Q => evC C k fn.body (enterS fn vs) [] H false false (leave fn H.length Q)

/-- a table of contracts -/
def tab : List (Nat × Sp) → CT
  | [], _ => fun _ _ _ => False
  | (n, s) :: r, f => if f = n then s else tab r f

end Go.Ev
