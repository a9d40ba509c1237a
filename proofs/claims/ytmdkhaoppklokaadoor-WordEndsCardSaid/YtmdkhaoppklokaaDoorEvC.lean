/- Ev: from the program's own operations to the evaluator's. -/
import Derived.Test.YtmdkhaoppklokaaDoorEvB
import Derived.StillTail
namespace Go.Ev

/-- What waits, of itself or through others, for an operation. -/
def waitsT (md : Region.Mode) (ops : Array Oper) : Nat → Nat → Nat → Bool
  | 0, _, _ => false
  | f + 1, q, i => Region.waitsFor md ops q i || (List.range q).any fun k => decide (i < k) && Region.waitsFor md ops q k && waitsT md ops f k i

/-- What waits for all that stands ahead of it. -/
def tailB (md : Region.Mode) (ops : Array Oper) (n : Nat) : Bool :=
  (List.range ops.size).all fun q => decide (q < n) || (List.range q).all fun i => waitsT md ops q q i

def lexE (md : Region.Mode) (ops : Array Oper) (g n : Nat) : Nat → Nat → Array Bool → Bool
  | 0, k, listed => k == n && Region.seqB md ops g n listed
  | e + 1, k, listed => decide (Region.ready md ops listed = [k]) && lexE md ops g n e (k + 1) (listed.setIfInBounds k true)

def lexP (md : Region.Mode) (ops : Array Oper) (g p n : Nat) : Nat → Nat → Array Bool → Bool
  | 0, k, listed => k == p && lexE md ops g n (n - p) p listed
  | f + 1, k, listed => decide (k < p) && (Region.ready md ops listed).contains k && Region.free md ops listed k && lexP md ops g p n f (k + 1) (listed.setIfInBounds k true)

def tailOk (ops : Array Oper) (p n : Nat) : Bool :=
  Region.noSelect ops && tailB .any ops n && lexP .any ops (ops.size - n) p n p 0 (Array.replicate ops.size false) && decide (p ≤ n) && decide (n ≤ ops.size)

def toV : Value → Option V
  | .int k n => some (.int k n)
  | .bool b => some (.bool b)
  | .string s => some (.str s)
  | .pointer none => some (.ptr none)
  | .slice none l c => some (.sl none l c)
  | .nilFunc => some .nilf
  | .map none => some (.mp none)
  | _ => none

def toVs : List Value → Option (List V)
  | [] => some []
  | v :: r => match toV v, toVs r with
    | some x, some y => some (x :: y)
    | _, _ => none

def toC : Value → Option V
  | .agg cs => (toVs cs.toList).map .agg
  | .tuple cs => (toVs cs.toList).map .tup
  | v => toV v

section
variable (P : Program) (G : Nat) (hp : Nat → Bool)

def cOpd : Operand → Option Opd
  | .tmp t => some (.t t)
  | .const v => (toC v).map .c
  | .global g => if g < G then some (.g g) else none
  | .func f => some (.f f)

def cOpds : List Operand → Option (List Opd)
  | [] => some []
  | x :: r => match cOpd G x, cOpds r with
    | some a, some b => some (a :: b)
    | _, _ => none

def cOpt : Option Operand → Option (Option Opd)
  | none => some none
  | some x => (cOpd G x).map some

def tsz (t : TypeId) : Option Nat := (P.info? t).map (·.size)

def tagg (t : TypeId) : Option Bool :=
  match P.underlying t with
  | some (.struct _) => some true
  | some (.array _ _) => some true
  | some _ => some false
  | none => none

/-- a type's zero cells: as many as its size -/
def tzero (t : TypeId) : Option (List V) :=
  match P.info? t with
  | some i => match i.zero with
    | some z => match toVs z.cells.toList with
      | some vs => if vs.length = i.size then some vs else none
      | none => none
    | none => none
  | none => none

def places (fs : List Field) : Option (List (Nat × Nat)) :=
  match fs with
  | [] => some []
  | f :: r => match tsz P f.type, places r with
    | some n, some l => some ((f.offset, n) :: l)
    | _, _ => none

def cParts (pl : Nat → Option (Nat × Nat)) : List (Nat × Operand) → Option (List (Nat × Nat × Opd))
  | [] => some []
  | (i, x) :: r => match pl i, cOpd G x, cParts pl r with
    | some (off, n), some a, some l => some ((off, n, a) :: l)
    | _, _, _ => none

/-- the cells of a type whose values are held against each other cell by cell: whole numbers (true) and bools (false), side by side. -/
def flatF (P : Program) (K : TypeId → Option (List Bool)) : List Field → Nat → Option (List Bool)
  | [], _ => some []
  | f :: r, o => if f.name ≠ "_" ∧ f.offset = o then match K f.type with
    | some ks => if tsz P f.type = some ks.length then match flatF P K r (o + ks.length) with
      | some l => some (ks ++ l)
      | none => none else none
    | none => none else none

def flatK (P : Program) : Nat → TypeId → Option (List Bool)
  | 0, _ => none
  | d + 1, t => match P.underlying t with
    | some (.int _) => if tsz P t = some 1 then some [true] else none
    | some .bool => if tsz P t = some 1 then some [false] else none
    | some (.struct fs) => if P.stoodInHeld t then none else match flatF P (flatK P d) fs.toList 0 with
      | some ks => if tsz P t = some ks.length then some ks else none
      | none => none
    | _ => none

def cBin (op : BinOp) (xt : TypeId) (x y : Opd) : Option EOp :=
  match op with
  | .eql => cEq false xt x y
  | .neq => cEq true xt x y
  | op => some (.bin op x y)
where
  cEq (neq : Bool) (xt : TypeId) (x y : Opd) : Option EOp :=
    match P.underlying xt with
    | some (.struct _) => match flatK P 20 xt with
      | some ks => if P.eqGuardType P.depth xt then none else some (.cmp neq ks x y)
      | none => none
    | some (.int _) => some (.bin (if neq then .neq else .eql) x y)
    | some .bool => some (.eqb neq x y)
    | some .string => some (.bin (if neq then .neq else .eql) x y)
    | some (.pointer _) => some (.eqp neq x y)
    | some (.slice _) => some (.eqs neq x y)
    | _ => none

def cSlice (t : TypeId) (x : Opd) (lo hi : Option Opd) : Option EOp :=
  match P.underlying t with
  | some (.slice e) => (tsz P e).map fun n => .slc n x lo hi
  | some .string => some (.slcs x lo hi)
  | some (.array n e) => (tsz P e).map fun z => .slca n z x lo hi
  | _ => none

def cCallB (b : Builtin) (ats : List TypeId) (xs : List Opd) : Option EOp :=
  match b, ats, xs with
  | .len, [t], [x] => match P.underlying t with
    | some (.slice _) => some (.len false x)
    | some .string => some (.len true x)
    | _ => none
  | .cap, [t], [x] => match P.underlying t with
    | some (.slice _) => some (.capo x)
    | _ => none
  | .min, _, [x, y] => some (.mm false x y)
  | .max, _, [x, y] => some (.mm true x y)
  | .clear, [t], [x] => match P.underlying t with
    | some (.slice e) => (tzero P e).map fun z => .clr z x
    | _ => none
  | .copy, [t, _], [x, y] => match P.underlying t with
    | some (.slice e) => (tsz P e).map fun n => .cpy n x y
    | _ => none
  | .append, [t, u], [x, y] => match P.underlying t, P.underlying u with
    | some (.slice e), some (.int _) => match P.info? e, tzero P e with
      | some i, some z => if 0 < i.size then some (.app e 0 i.bytes z x y) else none
      | _, _ => none
    | some (.slice e), some _ => match P.info? e, tzero P e with
      | some i, some z => if 0 < i.size then some (.app e i.size i.bytes z x y) else none
      | _, _ => none
    | _, _ => none
  | _, _, _ => none

def cOp (o : Oper) : Option EOp :=
  match o.op with
  | .move x => (cOpd G x).map .mv
  | .assign x => (cOpd G x).map .mv
  | .pick c a b => match cOpd G c, cOpd G a, cOpd G b with
    | some c, some a, some b => some (.pick c a b)
    | _, _, _ => none
  | .alloc t => match tzero P t with
    | some zs => some (.alloc (match o.dst with | some d => !hp d | none => false) t zs)
    | none => none
  | .box t x => match cOpd G x with
    | some x => some (.box (match o.dst with | some d => !hp d | none => false) t x)
    | none => none
  | .build t ps => match tzero P t, P.underlying t with
    | some zs, some (.struct fs) => match places P fs.toList with
      | some pl => (cParts G (fun i => pl[i]?) ps.toList).map fun l => .build zs l
      | none => none
    | some zs, some (.array _ e) => match tsz P e with
      | some n => (cParts G (fun i => some (i * n, n)) ps.toList).map fun l => .build zs l
      | none => none
    | _, _ => none
  | .buildSlice t len ps => match P.underlying t with
    | some (.slice e) => match tzero P e with
      | some zs => if 0 < zs.length ∧ len * zs.length ≤ 16777216 then (cParts G (fun i => some (i * zs.length, zs.length)) ps.toList).map fun l => .bslice e len (reps len zs) l else none
      | none => none
    | _ => none
  | .load t x => match cOpd G x, tagg P t, tsz P t with
    | some x, some a, some n => if a || n == 1 then some (.ld a n x) else none
    | _, _, _ => none
  | .store t x y => match cOpd G x, tsz P t, cOpd G y with
    | some x, some n, some y => some (.st n x y)
    | _, _, _ => none
  | .nilCheck x => (cOpd G x).map .nck
  | .binOp op xt x y _ => match cOpd G x, cOpd G y with
    | some x, some y => cBin P op xt x y
    | _, _ => none
  | .unOp op _ x => (cOpd G x).map (.un op)
  | .convert s d x => match cOpd G x, P.underlying s, P.underlying d with
    | some x, some (.int _), some (.int k) => some (.conv k x)
    | _, _, _ => some .stuck
  | .makeFunc (.func f) a b => match cOpds G a.toList, cOpds G b.toList with
    | some a, some b => some (.mkfn f a b)
    | _, _ => none
  | .makeSlice t l c => match P.underlying t, cOpd G l, cOpd G c with
    | some (.slice e), some l, some c => match tzero P e, P.info? e with
      | some zs, some i => some (.mksl e zs i.bytes l c)
      | _, _ => none
    | _, _, _ => none
  | .slice t x lo hi none => match cOpd G x, cOpt G lo, cOpt G hi with
    | some x, some lo, some hi => cSlice P t x lo hi
    | _, _, _ => none
  | .fieldAddr s x f => match P.underlying s, cOpd G x with
    | some (.struct fs), some x => match fs[f]? with
      | some f => match tsz P f.type with
        | some n => if n = 0 then none else some (.fa f.offset x)
        | none => none
      | none => none
    | _, _ => none
  | .field t x f => match P.underlying t, cOpd G x with
    | some (.struct fs), some x => match fs[f]? with
      | some f => match tsz P f.type, tagg P f.type with
        | some n, some a => if a || n == 1 then some (.fld a n f.offset x) else none
        | _, _ => none
      | none => none
    | _, _ => none
  | .indexAddr t x i => match P.underlying t, cOpd G x, cOpd G i with
    | some (.slice e), some x, some i => (tsz P e).map fun n => .ixs n x i
    | some (.array m e), some x, some i => (tsz P e).map fun n => .ixa m n x i
    | _, _, _ => none
  | .index t x i => match P.underlying t, cOpd G x, cOpd G i with
    | some (.array m e), some x, some i => match tsz P e, tagg P e with
      | some n, some a => if a || n == 1 then some (.idx a m n x i) else none
      | _, _ => none
    | some .string, some x, some i => some (.ixstr x i)
    | _, _, _ => none
  | .extract x n => (cOpd G x).map fun x => .ext x n
  | .call c => match c.callee, cOpds G c.args.toList with
    | .value f, some xs => (cOpd G f).map fun f => .call f xs
    | .builtin b, some xs => cCallB P b c.argTypes.toList xs
    | _, _ => none
  | .makeInterface _ _ => some .stuck
  | .panic _ => some .stuck
  | .makeMap t none => match P.underlying t with
    | some (.map _ _) => some .mkmap
    | _ => none
  | .insert t m k x => match P.underlying t, cOpd G m, cOpd G k, cOpd G x with
    | some (.map kt _), some m, some k, some x => match P.underlying kt with
      | some (.int _) => some (.mset m k x)
      | _ => none
    | _, _, _, _ => none
  | .lookup t m k ok => match P.underlying t, cOpd G m, cOpd G k with
    | some (.map kt et), some m, some k => match P.underlying kt, (P.info? et).bind (fun i => i.zero.bind toC) with
      | some (.int _), some z => some (.look ok [z] m k)
      | _, _ => none
    | _, _, _ => none
  | _ => none

/-- an operation, with its guard's temporary -/
def cOper (all : Array Oper) (o : Oper) : Option EOper :=
  match cOp P G hp o with
  | some op => match o.guard with
    | none => some { dst := o.dst, op := op, guard := none }
    | some (i, b) => match all[i]? with
      | some q => match q.dst with
        | some t => some { dst := o.dst, op := op, guard := some (t, b) }
        | none => none
      | none => none
  | none => none

def cOpers (all : Array Oper) : List Oper → Option (List EOper)
  | [] => some []
  | o :: r => match cOper P G hp all o, cOpers all r with
    | some a, some b => some (a :: b)
    | _, _ => none

/-- where the first new variable of the call is made -/
def allocAt : List Oper → Nat → Option Nat
  | [], _ => none
  | o :: r, i => match o.op, o.guard, o.dst with
    | .alloc _, none, some d => if hp d then allocAt r (i + 1) else some i
    | _, _, _ => allocAt r (i + 1)

/-- the first call that waits for all that stands ahead of it, and whose followers all wait for it -/
def callAt (ops : Array Oper) : List Oper → Nat → Option Nat
  | [], _ => none
  | o :: r, i => match o.op, o.guard with
    | .call _, none => if tailOk ops i i then some i else callAt ops r (i + 1)
    | .store _ _ _, none => if tailOk ops i i then some i else callAt ops r (i + 1)
    | _, _ => callAt ops r (i + 1)

def regAt (ops : Array Oper) : Option Nat :=
  match allocAt hp ops.toList 0 with
  | some p => some p
  | none => callAt ops ops.toList 0

/-- how many operations from there on make or fill new variables -/
def effRun : List Oper → Nat
  | [] => 0
  | o :: r => match o.op, o.guard with
    | .alloc _, none => effRun r + 1
    | .store _ _ _, none => effRun r + 1
    | _, _ => 0

/-- where the new variables' chain ends -/
def regN (ops : Array Oper) (p : Nat) : Nat :=
  match allocAt hp ops.toList 0 with
  | some _ => p + effRun (ops.toList.drop p)
  | none => p

/-- what asks nothing of the memory but the call's own variables (a load may be one) -/
def silC (o : Oper) : Bool :=
  match o.op with
  | .move _ | .assign _ | .pick _ _ _ | .nilCheck _ | .binOp _ _ _ _ _ | .unOp _ _ _ | .convert _ _ _ | .fieldAddr _ _ _ | .field _ _ _ | .indexAddr _ _ _ | .index _ _ _ | .extract _ _ | .slice _ _ _ _ _ | .makeFunc _ _ _ | .build _ _ => true
  | .call cl => match cl.callee with
    | .builtin .len => true
    | _ => false
  | _ => false

/-- a load out of a variable of the call's own: told by the temporaries that hold such -/
def locLd (o : Oper) : Bool :=
  match o.op with
  | .load _ (.tmp t) => hp (2000000 + t)
  | _ => false

def bothL : List Sch → Option Sch
  | [] => none
  | s :: r => match r with
    | [] => some s
    | _ => match bothL r with
      | some t => some (.both s t)
      | none => none

def branchL (F : Nat → Option Sch) : List Nat → Option (List Sch)
  | [] => some []
  | i :: r => match F i, branchL F r with
    | some a, some b => some (a :: b)
    | _, _ => none

def silAt (ops : Array Oper) (listed : Array Bool) (i : Nat) : Bool :=
  match ops[i]? with
  | some o => (silC o || locLd hp o) && Region.free .any ops listed i
  | none => false

def schOne (ops : Array Oper) (mk : EOper → Sch → Sch) (i : Nat) (r : Option Sch) : Option Sch :=
  match ops[i]?, r with
  | some o, some s => match cOper P G hp ops o with
    | some eo => some (mk eo s)
    | none => none
  | _, _ => none

def schX (ops : Array Oper) : Nat → Array Bool → Option Sch
  | 0, listed => if Region.ready .any ops listed = [] then some .done else none
  | f + 1, listed =>
    match Region.ready .any ops listed with
    | [] => some .done
    | i0 :: rs =>
      match (i0 :: rs).find? (silAt hp ops listed) with
      | some i => schOne P G hp ops .sil i (schX ops f (listed.setIfInBounds i true))
      | none => match branchL (fun i => schOne P G hp ops .op i (schX ops f (listed.setIfInBounds i true))) (i0 :: rs) with
        | some l => bothL l
        | none => none

/-- does a region call or make blocks? -/
def hasEff (ops : Array Oper) : Bool := ops.any fun o => match o.op with
  | .buildSlice _ _ _ | .makeSlice _ _ _ | .box _ _ => true
  | .call cl => match cl.callee with
    | .builtin .len => false
    | _ => true
  | _ => false

def cCode : Code → Option EC
  | .skip => some .skip
  | .region _ ops false => (cOpers P G hp ops ops.toList).map fun l => .ops false l
  | .region _ ops true => if hp 3000000 && hasEff ops && (allocAt hp ops.toList 0).isNone then (if Region.noSelect ops then (schX P G hp ops ops.size (Array.replicate ops.size false)).map .opsX else none) else match regAt hp ops with
    | none => if Region.lexB .any ops then (cOpers P G hp ops ops.toList).map fun l => .ops true l else none
    | some p =>
      let n := regN hp ops p
      if tailOk ops p n then match cOpers P G hp ops (ops.toList.take p), cOpers P G hp ops ((ops.toList.drop p).take (n - p)), cOpers P G hp ops (ops.toList.drop n) with
      | some a, some b, some c => some (.opsT a b c)
      | _, _, _ => none
      else none
  | .seq a b => match cCode a, cCode b with
    | some a, some b => some (.seq a b)
    | _, _ => none
  | .cond x a b => match cOpd G x, cCode a, cCode b with
    | some x, some a, some b => some (.cond x a b)
    | _, _, _ => none
  | .block id c => (cCode c).map fun c => .block id c
  | .loop c => (cCode c).map fun c => .loop c
  | .exit id => some (.exit id)
  | .ret => some .ret
  | _ => none

def cRes : List ResultVar → Option (List ERes)
  | [] => some []
  | .tmp t :: r => (cRes r).map fun l => .t t :: l
  | .cell a t :: r => match tagg P t, tsz P t, cRes r with
    | some true, some n, some l => some (.c a n :: l)
    | _, _, _ => none

def cFun (fn : Func) : Option EFun :=
  match fn.body with
  | some c => match cCode P G hp c, cRes P fn.results.toList with
    | some b, some r => some { nt := fn.ntmps, res := r, body := b }
    | _, _ => none
  | none => none
end

end Go.Ev
