/- Ev: an evaluator of Go functions over an abstract memory. The types, the evaluator. -/
import Derived.WalkKit
namespace Go.Ev

/-- Values: blocks are abstract numbers. -/
inductive V where
  | int (k : IntKind) (n : Int)
  | bool (b : Bool)
  | str (s : ByteArray)
  | ptr (p : Option (Nat × Nat))
  | sl (p : Option (Nat × Nat)) (len cap : Nat)
  | fn (f : Nat) (first cap : List V)
  | nilf
  | mp (m : Option Nat)
  | agg (cs : List V)
  | tup (cs : List V)

/-- Where abstract blocks lie. -/
structure J where
  b : Nat → Nat
  o : Nat → Nat

def J.at (j : J) (i x : Nat) : Addr := ⟨j.b i, j.o i + x, none⟩

mutual
def conc (j : J) : V → Value
  | .int k n => .int k n
  | .bool b => .bool b
  | .str s => .string s
  | .ptr none => .pointer none
  | .ptr (some (i, x)) => .pointer (some (j.at i x))
  | .sl none l c => .slice none l c
  | .sl (some (i, x)) l c => .slice (some (j.at i x)) l c
  | .fn f a b => .func (.func f) (concL j a).toArray (concL j b).toArray
  | .nilf => .nilFunc
  | .mp none => .map none
  | .mp (some m) => .map (some (j.b m))
  | .agg cs => .agg (concL j cs).toArray
  | .tup cs => .tuple (concL j cs).toArray
def concL (j : J) : List V → List Value
  | [] => []
  | a :: l => conc j a :: concL j l
end

mutual
/-- All blocks that a value names are below n. -/
def V.lt (n : Nat) : V → Bool
  | .ptr (some (i, _)) => decide (i < n)
  | .sl (some (i, _)) _ _ => decide (i < n)
  | .fn _ a b => V.ltL n a && V.ltL n b
  | .mp (some m) => decide (m < n)
  | .agg cs => V.ltL n cs
  | .tup cs => V.ltL n cs
  | _ => true
def V.ltL (n : Nat) : List V → Bool
  | [] => true
  | a :: l => V.lt n a && V.ltL n l
end

/-- It fills one cell. -/
def V.one : V → Bool
  | .agg _ => false
  | .tup _ => false
  | _ => true

/-- It names no block. -/
def V.plain (v : V) : Bool := V.lt 0 v

def V.cells : V → List V
  | .agg cs => cs
  | v => [v]

/-- Blocks: read alone; cells of one's own; a map. -/
inductive B where
  | ro (cs : List V)
  | rw (ty : TypeId) (cs : List V)
  | mp (es : List (V × V))

def B.cells : B → List V
  | .ro cs => cs
  | .rw _ cs => cs
  | .mp _ => []

/-- What a temporary holds: a value, or an address in a variable of this very call. -/
inductive SV where
  | v (x : V)
  | lp (i o : Nat)

abbrev undefV : SV := .v (.tup [])

structure LB where
  ty : TypeId
  cs : List V

structure St where
  tm : List SV
  L : List LB
  H : List B
  e : Bool
  g : Bool

inductive Opd where
  | t (n : Nat)
  | c (v : V)
  | f (n : Nat)
  | g (n : Nat)

def gets (tm : List SV) (n : Nat) : SV := tm.getD n undefV

def Opd.ev (tm : List SV) : Opd → SV
  | .t n => gets tm n
  | .c v => .v v
  | .f n => .v (.fn n [] [])
  | .g n => .v (.ptr (some (n, 0)))

def Opd.val (tm : List SV) (x : Opd) : Option V :=
  match x.ev tm with
  | .v v => some v
  | .lp _ _ => none

def vals (tm : List SV) : List Opd → Option (List V)
  | [] => some []
  | x :: l =>
    match x.val tm with
    | some v => match vals tm l with
      | some r => some (v :: r)
      | none => none
    | none => none

inductive EOp where
  | mv (x : Opd)
  | pick (c a b : Opd)
  | alloc (loc : Bool) (ty : TypeId) (zs : List V)
  | box (loc : Bool) (ty : TypeId) (x : Opd)
  | build (zs : List V) (ps : List (Nat × Nat × Opd))
  | bslice (ty : TypeId) (len : Nat) (zs : List V) (ps : List (Nat × Nat × Opd))
  | ld (agg : Bool) (n : Nat) (x : Opd)
  | st (n : Nat) (x y : Opd)
  | nck (x : Opd)
  | bin (op : BinOp) (x y : Opd)
  | eqb (neq : Bool) (x y : Opd)
  | eqp (neq : Bool) (x y : Opd)
  | eqs (neq : Bool) (x y : Opd)
  | cmp (neq : Bool) (ks : List Bool) (x y : Opd)
  | un (op : UnOp) (x : Opd)
  | conv (k : IntKind) (x : Opd)
  | mkfn (f : Nat) (first cap : List Opd)
  | mksl (ty : TypeId) (zs : List V) (bytes : Nat) (l c : Opd)
  | slc (esz : Nat) (x : Opd) (lo hi : Option Opd)
  | slcs (x : Opd) (lo hi : Option Opd)
  | slca (n esz : Nat) (x : Opd) (lo hi : Option Opd)
  | fa (off : Nat) (x : Opd)
  | fld (agg : Bool) (n off : Nat) (x : Opd)
  | ixs (esz : Nat) (x i : Opd)
  | ixa (n esz : Nat) (x i : Opd)
  | idx (agg : Bool) (n esz : Nat) (x i : Opd)
  | ixstr (x i : Opd)
  | ext (x : Opd) (n : Nat)
  | len (str : Bool) (x : Opd)
  | mm (mx : Bool) (x y : Opd)
  | capo (x : Opd)
  | stuck
  | clr (zs : List V) (x : Opd)
  | cpy (esz : Nat) (x y : Opd)
  | app (ty : TypeId) (esz bytes : Nat) (zs : List V) (x y : Opd)
  | call (f : Opd) (xs : List Opd)
  | mkmap
  | mset (m k x : Opd)
  | look (ok : Bool) (zs : List V) (m k : Opd)

structure EOper where
  dst : Option Nat
  op : EOp
  guard : Option (Nat × Bool)

/-- A drawn region laid out: silent ones taken first, the others in each order that may come. -/
inductive Sch where
  | done
  | sil (o : EOper) (r : Sch)
  | op (o : EOper) (r : Sch)
  | both (a b : Sch)

inductive EC where
  | skip
  | ops (draws : Bool) (l : List EOper)
  | opsT (l m r : List EOper)
  | opsX (s : Sch)
  | seq (a b : EC)
  | cond (x : Opd) (a b : EC)
  | block (id : Nat) (c : EC)
  | loop (c : EC)
  | exit (id : Nat)
  | ret

inductive ERes where
  | t (n : Nat)
  | c (n : Nat) (sz : Nat)

structure EFun where
  nt : Nat
  res : List ERes
  body : EC

/-! the operations -/

def splice (cs : List V) (x : Nat) (vs : List V) : List V := cs.take x ++ vs ++ cs.drop (x + vs.length)

/-- the parts of an aggregate, put in: nothing where one has another size. -/
def fillP (tm : List SV) : List V → List (Nat × Nat × Opd) → Option (List V)
  | cs, [] => some cs
  | cs, (off, sz, x) :: r =>
    match x.val tm with
    | some v => if v.cells.length = sz ∧ off + sz ≤ cs.length then fillP tm (splice cs off v.cells) r else none
    | none => none

def unV (b : Bool) (cs : List V) : Option V :=
  match b, cs with
  | true, cs => some (.agg cs)
  | false, [v] => some v
  | false, _ => none

/-- n cells from x on -/
def cut (cs : List V) (x n : Nat) : Option (List V) := if x + n ≤ cs.length then some ((cs.drop x).take n) else none

def binI (op : BinOp) (k : IntKind) (a b : Int) : Option V :=
  match op with
  | .add => some (.int k (k.wrap (a + b)))
  | .sub => some (.int k (k.wrap (a - b)))
  | .mul => some (.int k (k.wrap (a * b)))
  | .quo => if b = 0 then none else some (.int k (k.wrap (a.tdiv b)))
  | .rem => if b = 0 then none else some (.int k (a.tmod b))
  | .and => some (.int k (k.wrap ((BitVec.ofInt k.bits a &&& BitVec.ofInt k.bits b).toNat)))
  | .or => some (.int k (k.wrap ((BitVec.ofInt k.bits a ||| BitVec.ofInt k.bits b).toNat)))
  | .xor => some (.int k (k.wrap ((BitVec.ofInt k.bits a ^^^ BitVec.ofInt k.bits b).toNat)))
  | .andNot => some (.int k (k.wrap ((BitVec.ofInt k.bits a &&& ~~~(BitVec.ofInt k.bits b)).toNat)))
  | .eql => some (.bool (a == b))
  | .neq => some (.bool (a != b))
  | .lss => some (.bool (decide (a < b)))
  | .leq => some (.bool (decide (a ≤ b)))
  | .gtr => some (.bool (decide (a > b)))
  | .geq => some (.bool (decide (a ≥ b)))
  | _ => none

def shI (op : BinOp) (k : IntKind) (a : Int) (b : Int) : Option V :=
  if b < 0 then none else
  match op with
  | .shl => some (.int k (k.wrap (a * 2 ^ (min b.toNat k.bits))))
  | .shr => some (.int k (a.fdiv (2 ^ (min b.toNat k.bits))))
  | _ => none

def isSh : BinOp → Bool
  | .shl => true
  | .shr => true
  | _ => false

def binV (op : BinOp) (x y : V) : Option V :=
  match x, y with
  | .int k a, .int k' b => if isSh op then shI op k a b else if k = k' then binI op k a b else none
  | .str a, .str b =>
    match op with
    | .add => if a.size + b.size ≤ 9223372036854775807 then some (.str (a ++ b)) else none
    | .eql => some (.bool (a.toList == b.toList))
    | .neq => some (.bool (!(a.toList == b.toList)))
    | _ => none
  | _, _ => none

/-- equality of plain cells: whole numbers (true), bools (false) -/
def eqC : List Bool → List V → List V → Option Bool
  | [], [], [] => some true
  | true :: ks, .int k a :: r, .int k' b :: s => if k = k' then match eqC ks r s with
    | some x => some (a == b && x)
    | none => none else none
  | false :: ks, .bool a :: r, .bool b :: s => match eqC ks r s with
    | some x => some (a == b && x)
    | none => none
  | _, _, _ => none

def unV' (op : UnOp) (x : V) : Option V :=
  match op, x with
  | .not, .bool b => some (.bool (!b))
  | .neg, .int k n => some (.int k (k.wrap (0 - n)))
  | .xor, .int k n => some (.int k (k.wrap ((BitVec.ofInt k.bits (if k.signed = true then -1 else k.max) ^^^ BitVec.ofInt k.bits n).toNat)))
  | _, _ => none

/-- a slice expression's bounds: low, high -/
def bnd (x : Option V) (d top : Nat) : Option Nat :=
  match x with
  | none => some d
  | some (.int _ i) => if 0 ≤ i ∧ i ≤ (top : Int) then some i.toNat else none
  | some _ => none

def optV (tm : List SV) : Option Opd → Option (Option V)
  | none => some none
  | some x => match x.val tm with
    | some v => some (some v)
    | none => none

/-- The operations that neither read nor write memory. -/
def pureOp (tm : List SV) : EOp → Option SV
  | .build zs ps => match fillP tm zs ps with
    | some cs => some (.v (.agg cs))
    | none => none
  | .nck x =>
    match x.ev tm with
    | .v (.ptr (some p)) => some (.v (.ptr (some p)))
    | .lp i o => some (.lp i o)
    | .v (.fn f a b) => some (.v (.fn f a b))
    | _ => none
  | .bin op x y =>
    match x.val tm, y.val tm with
    | some a, some b => match binV op a b with
      | some v => some (.v v)
      | none => none
    | _, _ => none
  | .un op x =>
    match x.val tm with
    | some a => match unV' op a with
      | some v => some (.v v)
      | none => none
    | none => none
  | .conv k x =>
    match x.val tm with
    | some (.int _ n) => some (.v (.int k (k.wrap n)))
    | _ => none
  | .mkfn f a b =>
    match vals tm a, vals tm b with
    | some x, some y => some (.v (.fn f x y))
    | _, _ => none
  | .slc esz x lo hi =>
    match x.val tm, optV tm lo, optV tm hi with
    | some (.sl p len cap), some l, some h =>
      match bnd h len cap with
      | some hh => match bnd l 0 hh with
        | some ll => some (.v (.sl (if cap = ll then p else match p with
            | some (i, o) => some (i, o + ll * esz)
            | none => none) (hh - ll) (cap - ll)))
        | none => none
      | none => none
    | _, _, _ => none
  | .slcs x lo hi =>
    match x.val tm, optV tm lo, optV tm hi with
    | some (.str s), some l, some h =>
      match bnd h s.size s.size with
      | some hh => match bnd l 0 hh with
        | some ll => some (.v (.str (s.extract ll hh)))
        | none => none
      | none => none
    | _, _, _ => none
  | .slca n esz x lo hi =>
    match x.val tm, optV tm lo, optV tm hi with
    | some (.ptr (some (i, o))), some l, some h =>
      match bnd h n n with
      | some hh => match bnd l 0 hh with
        | some ll => some (.v (.sl (some (i, if n = ll then o else o + ll * esz)) (hh - ll) (n - ll)))
        | none => none
      | none => none
    | _, _, _ => none
  | .fa off x =>
    match x.ev tm with
    | .v (.ptr (some (i, o))) => some (.v (.ptr (some (i, o + off))))
    | .lp i o => some (.lp i (o + off))
    | _ => none
  | .fld agg n off x =>
    match x.val tm with
    | some (.agg cs) => match cut cs off n with
      | some r => match unV agg r with
        | some v => some (.v v)
        | none => none
      | none => none
    | _ => none
  | .ixs esz x i =>
    match x.val tm, i.val tm with
    | some (.sl (some (b, o)) len _), some (.int _ n) => if 0 ≤ n ∧ n < (len : Int) then some (.v (.ptr (some (b, o + n.toNat * esz)))) else none
    | _, _ => none
  | .ixa m esz x i =>
    match x.ev tm, i.val tm with
    | .v (.ptr (some (b, o))), some (.int _ n) => if 0 ≤ n ∧ n < (m : Int) then some (.v (.ptr (some (b, o + n.toNat * esz)))) else none
    | .lp b o, some (.int _ n) => if 0 ≤ n ∧ n < (m : Int) then some (.lp b (o + n.toNat * esz)) else none
    | _, _ => none
  | .idx agg m esz x i =>
    match x.val tm, i.val tm with
    | some (.agg cs), some (.int _ n) => if 0 ≤ n ∧ n < (m : Int) then match cut cs (n.toNat * esz) esz with
        | some r => match unV agg r with
          | some v => some (.v v)
          | none => none
        | none => none else none
    | _, _ => none
  | .ixstr x i =>
    match x.val tm, i.val tm with
    | some (.str s), some (.int _ n) => if h : 0 ≤ n ∧ n < (s.size : Int) then some (.v (.int .u8 (s[n.toNat]'(by omega)).toNat)) else none
    | _, _ => none
  | .ext x n =>
    match x.val tm with
    | some (.tup cs) => match cs[n]? with
      | some v => some (.v v)
      | none => none
    | _ => none
  | .len false x =>
    match x.val tm with
    | some (.sl _ n _) => some (.v (.int .i64 n))
    | _ => none
  | .len true x =>
    match x.val tm with
    | some (.str s) => some (.v (.int .i64 s.size))
    | _ => none
  | .capo x =>
    match x.val tm with
    | some (.sl _ _ c) => some (.v (.int .i64 c))
    | _ => none
  | .mm mx x y =>
    match x.val tm, y.val tm with
    | some (.int k a), some (.int k' b) => if k = k' then some (.v (.int k (if mx then (if a < b then b else a) else (if b < a then b else a)))) else none
    | _, _ => none
  | .eqb neq x y =>
    match x.val tm, y.val tm with
    | some (.bool a), some (.bool b) => some (.v (.bool (match neq with | true => !(a == b) | false => a == b)))
    | _, _ => none
  | .eqp neq x y =>
    match x.val tm, y.val tm with
    | some (.ptr a), some (.ptr none) => some (.v (.bool (match neq with | true => !a.isNone | false => a.isNone)))
    | _, _ => none
  | .eqs neq x y =>
    match x.val tm, y.val tm with
    | some (.sl a _ _), some (.sl none _ _) => some (.v (.bool (match neq with | true => !a.isNone | false => a.isNone)))
    | _, _ => none
  | .cmp neq ks x y =>
    match x.val tm, y.val tm with
    | some (.agg a), some (.agg b) => match eqC ks a b with
      | some t => some (.v (.bool (match neq with | true => !t | false => t)))
      | none => none
    | _, _ => none
  | _ => none

end Go.Ev
