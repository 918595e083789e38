/- From the translated code to the abstract machine's: each function's body is checked, operation by operation. No condition. -/
import Derived.Test.YtflekaacffdakaaAmB
import Derived.Orders
namespace Go.AM
open Go

def toAVs (f : Value → Option AV) : List Value → Option (List AV)
  | [] => some []
  | v :: vs => (f v).bind fun x => (toAVs f vs).map (x :: ·)
def toAV1 : Value → Option AV
  | .int k n => some (.int k n)
  | .bool b => some (.b b)
  | .slice none 0 0 => some .nils
  | .pointer none => some .nilp
  | .nilFunc => some .nilf
  | _ => none
def toAV : Value → Option AV
  | .agg cs => (toAVs toAV1 cs.toList).map .ag
  | v => toAV1 v

structure Cfg where
  P : Program
  eqT : Nat → Option Nat
  kd : Nat → Kd

def prepX (nt : Nat) : Operand → Option AX
  | .tmp t => if t < nt then some (.t t) else none
  | .const v => (toAV v).map .c
  | .func f => some (.c (.fn f [] []))
  | .global _ => none
def prepXs (nt : Nat) : List Operand → Option (List AX)
  | [] => some []
  | x :: xs => (prepX nt x).bind fun y => (prepXs nt xs).map (y :: ·)
def prepO (nt : Nat) : Option Operand → Option (Option AX)
  | none => some none
  | some x => (prepX nt x).map some

def zeroA (P : Program) (t : TypeId) : Option (List AV) :=
  match P.info? t with
  | some i => match i.zero with
    | some z => toAVs toAV1 z.cells.toList
    | none => none
  | none => none
def sizeA (P : Program) (t : TypeId) : Option Nat := (P.info? t).map (·.size)
def bytesA (P : Program) (t : TypeId) : Option Nat := (P.info? t).map (·.bytes)
/-- none: one cell; some n: n cells -/
def shapeA (P : Program) (t : TypeId) : Option (Option Nat) :=
  match P.underlying t with
  | some (.struct _) => (sizeA P t).map some
  | some (.array _ _) => (sizeA P t).map some
  | some _ => some none
  | none => none

def prepParts (P : Program) (nt : Nat) (place : Nat → Option (Nat × Nat)) : List (Nat × Operand) → Option (List (Nat × Nat × AX))
  | [] => some []
  | (i, x) :: r => (place i).bind fun q => (prepX nt x).bind fun y => (prepParts P nt place r).map ((q.1, q.2, y) :: ·)
def prepSParts (nt : Nat) : List (Nat × Operand) → Option (List (Nat × AX))
  | [] => some []
  | (i, x) :: r => (prepX nt x).bind fun y => (prepSParts nt r).map ((i, y) :: ·)

def sameX : Operand → Operand → Bool
  | .tmp i, .tmp j => i == j
  | _, _ => false

def prepOp (C : Cfg) (nt : Nat) (op : Op) : Option AOp :=
  match op with
  | .move x | .assign x => (prepX nt x).map .mv
  | .pick c x y => (prepX nt c).bind fun c => (prepX nt x).bind fun x => (prepX nt y).map fun y => .pick c x y
  | .alloc t => (zeroA C.P t).map .alloc
  | .box _ x => (prepX nt x).map .box
  | .build t parts =>
    (zeroA C.P t).bind fun z =>
      match C.P.underlying t with
      | some (.struct fs) => if fs.toList.any (fun f => (sizeA C.P f.type).isNone) then none else (prepParts C.P nt (fun i => (fs[i]?).bind fun f => (sizeA C.P f.type).map fun n => (f.offset, n)) parts.toList).map (.build z)
      | some (.array _ e) => (sizeA C.P e).bind fun n => (prepParts C.P nt (fun i => some (i * n, n)) parts.toList).map (.build z)
      | _ => none
  | .buildSlice t len parts =>
    match C.P.underlying t with
    | some (.slice e) => (sizeA C.P e).bind fun es => (zeroA C.P e).bind fun z =>
        if z.length = es ∧ len * es ≤ 2 ^ 24 then (prepSParts nt parts.toList).map (.bslice z len es) else none
    | _ => none
  | .load t x => (shapeA C.P t).bind fun n => (prepX nt x).map (.load n)
  | .store t p x => (sizeA C.P t).bind fun n => (prepX nt p).bind fun p => (prepX nt x).map (.store n p)
  | .binOp op t x y _ =>
    (prepX nt x).bind fun x => (prepX nt y).bind fun y =>
      match C.P.underlying t with
      | some (.int _) => some (.bin op x y)
      | some .bool => match op with
        | .eql => some (.beq false x y)
        | .neq => some (.beq true x y)
        | _ => none
      | some (.slice _) => match op with
        | .eql => some (.seq false x y)
        | .neq => some (.seq true x y)
        | _ => none
      | _ => (C.eqT t).bind fun n => match op with
        | .eql => some (.aeq false n x y)
        | .neq => some (.aeq true n x y)
        | _ => none
  | .unOp op _ x => (prepX nt x).map (.un op)
  | .convert src dst x =>
    match C.P.underlying src, C.P.underlying dst with
    | some _, some (.int k) => (prepX nt x).map (.conv k)
    | _, _ => none
  | .makeFunc fn first caps =>
    match fn with
    | .func f => (prepXs nt first.toList).bind fun us => (prepXs nt caps.toList).map (.mkfn f us)
    | _ => none
  | .makeSlice t l c =>
    match C.P.underlying t with
    | some (.slice e) => (sizeA C.P e).bind fun es => (bytesA C.P e).bind fun by' => (zeroA C.P e).bind fun z =>
        if sameX l c then (prepX nt l).map (.mkslice es by' z) else none
    | _ => none
  | .slice t x lo hi mx =>
    match C.P.underlying t with
    | some (.slice e) => (sizeA C.P e).bind fun es => (prepX nt x).bind fun x => (prepO nt lo).bind fun lo => (prepO nt hi).bind fun hi => (prepO nt mx).bind fun mx =>
        if mx.isSome && hi.isNone then none else some (.slice es x lo hi mx)
    | some (.array n e) => (sizeA C.P e).bind fun es => (prepX nt x).bind fun x => (prepO nt lo).bind fun lo => (prepO nt hi).bind fun hi =>
        if mx.isSome then none else some (.slarr n es x lo hi)
    | _ => none
  | .fieldAddr t x f =>
    match C.P.underlying t with
    | some (.struct fs) => (fs[f]?).bind fun fd => (sizeA C.P fd.type).bind fun n => if n = 0 then none else (prepX nt x).map (.faddr fd.offset)
    | _ => none
  | .field t x f =>
    match C.P.underlying t with
    | some (.struct fs) => (fs[f]?).bind fun fd => (shapeA C.P fd.type).bind fun n => (prepX nt x).map (.field fd.offset n)
    | _ => none
  | .indexAddr t x i =>
    match C.P.underlying t with
    | some (.slice e) => (sizeA C.P e).bind fun es => (prepX nt x).bind fun x => (prepX nt i).map (.iaddr es x)
    | some (.array n e) => (sizeA C.P e).bind fun es => (prepX nt x).bind fun x => (prepX nt i).map (.iaddrA n es x)
    | _ => none
  | .index t x i =>
    match C.P.underlying t with
    | some (.array n e) => (sizeA C.P e).bind fun es => (shapeA C.P e).bind fun sh => (prepX nt x).bind fun x => (prepX nt i).map (.index n es sh.isSome x)
    | _ => none
  | .extract x i => (prepX nt x).map fun x => .extr x i
  | .nilCheck x => (prepX nt x).map .nilchk
  | .call c =>
    (prepXs nt c.args.toList).bind fun args =>
      match c.callee with
      | .value (.func f) => some (.call f args)
      | .value x => (prepX nt x).map fun x => .callv x args
      | .builtin .len => match args, (c.argTypes[0]?).bind C.P.underlying with
        | [x], some (.slice _) => some (.len x)
        | [_], some (.array n _) => some (.lenA n)
        | _, _ => none
      | .builtin .cap => match args, (c.argTypes[0]?).bind C.P.underlying with
        | [x], some (.slice _) => some (.cap x)
        | _, _ => none
      | .builtin .min => if args.isEmpty then none else some (.mn args)
      | .builtin .max => if args.isEmpty then none else some (.mx args)
      | .builtin .append => match args, (c.argTypes[0]?).bind C.P.underlying, (c.argTypes[1]?).bind C.P.underlying with
        | [x, y], some (.slice e), some u => (sizeA C.P e).bind fun es => (bytesA C.P e).bind fun by' => (zeroA C.P e).bind fun z =>
            if by' = 0 ∨ z.length ≠ es then none
            else match u with
              | .int _ => some (.appendz es by' z x y)
              | .slice _ => some (.append es by' x y)
              | _ => none
        | _, _, _ => none
      | .builtin .copy => match args, (c.argTypes[0]?).bind C.P.underlying with
        | [x, y], some (.slice e) => (sizeA C.P e).map fun es => .copy es x y
        | _, _ => none
      | _ => none
  | .panic _ | .makeInterface _ _ => some .bad
  | _ => none

/-- an operation with its place to write to and its guard -/
def prepOper (C : Cfg) (nt : Nat) (ops : Array Oper) (o : Oper) : Option AOper :=
  (prepOp C nt o.op).bind fun op =>
    match o.dst with
    | some d => if d < nt then (match o.guard with
      | none => some { dst := some d, op }
      | some (j, want) => ((ops[j]?).bind (·.dst)).bind fun s => if s < nt then some { dst := some d, op, guard := some (s, want) } else none) else none
    | none => match o.guard with
      | none => some { dst := none, op }
      | some (j, want) => ((ops[j]?).bind (·.dst)).bind fun s => if s < nt then some { dst := none, op, guard := some (s, want) } else none
def prepOpers (C : Cfg) (nt : Nat) (ops : Array Oper) : List Oper → Option (List AOper)
  | [] => some []
  | o :: os => (prepOper C nt ops o).bind fun x => (prepOpers C nt ops os).map (x :: ·)

/-! ### Regions that draw their order -/
def AX.reads : AX → List Nat
  | .t n => [n]
  | .c _ => []
def readsO : Option AX → List Nat
  | some x => x.reads
  | none => []
def AOp.reads : AOp → List Nat
  | .mv x | .box x | .load _ x | .un _ x | .conv _ x | .mkslice _ _ _ x | .faddr _ x | .field _ _ x | .len x | .cap x | .extr x _ | .nilchk x => x.reads
  | .pick c x y => c.reads ++ x.reads ++ y.reads
  | .alloc _ | .lenA _ | .bad => []
  | .build _ ps => ps.flatMap fun q => q.2.2.reads
  | .bslice _ _ _ ps => ps.flatMap fun q => q.2.reads
  | .store _ x y | .bin _ x y | .beq _ x y | .seq _ x y | .aeq _ _ x y | .iaddr _ x y | .iaddrA _ _ x y | .index _ _ _ x y | .append _ _ x y | .appendz _ _ _ x y | .copy _ x y => x.reads ++ y.reads
  | .mkfn _ us xs => us.flatMap AX.reads ++ xs.flatMap AX.reads
  | .mn xs | .mx xs | .call _ xs => xs.flatMap AX.reads
  | .slice _ x l h m => x.reads ++ readsO l ++ readsO h ++ readsO m
  | .slarr _ _ x l h => x.reads ++ readsO l ++ readsO h
  | .callv x xs => x.reads ++ xs.flatMap AX.reads
def AOper.reads (o : AOper) : List Nat := o.op.reads ++ (match o.guard with | some (s, _) => [s] | none => [])

/-- How an operation stands to memory: not at all · it lays one new block · it reads cells · it calls what writes to nothing older · it writes. -/
inductive Cl where
  | pure | new | load | call | write
  deriving DecidableEq
def AOp.cl (kd : Nat → Kd) : AOp → Cl
  | .mv .. | .pick .. | .build .. | .bin .. | .beq .. | .seq .. | .aeq .. | .un .. | .conv .. | .mkfn .. | .slice .. | .faddr .. | .field .. | .iaddr .. | .iaddrA .. | .index .. | .len .. | .lenA .. | .cap .. | .mn .. | .mx .. | .extr .. | .nilchk .. => .pure
  | .alloc .. | .box .. | .bslice .. | .mkslice .. => .new
  | .load .. => .load
  | .call f _ => match kd f with
    | .wrt => .write
    | _ => .call
  | .store .. | .append .. | .appendz .. | .copy .. | .callv .. | .slarr .. | .bad => .write

/-- the operations that stand ahead in whatever order -/
def edges (o : Oper) : List Nat := (o.after.toList.filter fun e => Region.binds .any e).map (·.on)
/-- an operation, as its order needs it: the place it writes to, those it reads (a mask), how it stands to memory, all that stand ahead of it (a mask) -/
structure OI where
  dst : Option Nat
  rd : Nat
  c : Cl
  up : Nat
def maskOf (l : List Nat) : Nat := l.foldl (fun m t => m ||| 2 ^ t) 0
def upOf (acc : List Nat) (es : List Nat) : Nat := es.foldl (fun m e => m ||| 2 ^ e ||| acc.getD e 0) 0
def ups : List Nat → List Oper → List Nat
  | acc, [] => acc
  | acc, o :: os => ups (acc ++ [upOf acc (edges o)]) os
def infos (kd : Nat → Kd) : List Nat → List AOper → List OI
  | u :: us, x :: xs => ⟨x.dst, maskOf x.reads, x.op.cl kd, u⟩ :: infos kd us xs
  | _, _ => []

def memOk (ck : List (Nat × Nat)) (i j : Nat) : Cl → Cl → Bool
  | .pure, _ | _, .pure => true
  | .write, .load => ck.contains (j, i)
  | .load, .write => ck.contains (i, j)
  | .write, .new => true
  | .write, _ | _, .write => false
  | _, _ => true
def offMask (m : Nat) : Option Nat → Bool
  | some d => !m.testBit d
  | none => true
def apart : Option Nat → Option Nat → Bool
  | some d, some d' => d != d'
  | _, _ => true
/-- i < j -/
def pairOk (ck : List (Nat × Nat)) (i j : Nat) (x y : OI) : Bool :=
  apart x.dst y.dst && (y.up.testBit i || (offMask y.rd x.dst && offMask x.rd y.dst && memOk ck i j x.c y.c))
def pairsOk (ck : List (Nat × Nat)) (j : Nat) (y : OI) : Nat → List OI → Bool
  | _, [] => true
  | i, x :: xs => pairOk ck i j x y && pairsOk ck j y (i + 1) xs
def allOk (ck : List (Nat × Nat)) : List OI → Nat → List OI → Bool
  | _, _, [] => true
  | past, j, y :: ys => pairsOk ck j y 0 past && allOk ck (past ++ [y]) (j + 1) ys
def ckRow (j : Nat) (y : OI) : Nat → List OI → List (Nat × Nat)
  | _, [] => []
  | i, x :: xs =>
    let r := ckRow j y (i + 1) xs
    if y.up.testBit i then r
    else match x.c, y.c with
      | .write, .load => (j, i) :: r
      | .load, .write => (i, j) :: r
      | _, _ => r
def ckAll : List OI → Nat → List OI → List (Nat × Nat)
  | _, _, [] => []
  | past, j, y :: ys => ckRow j y 0 past ++ ckAll (past ++ [y]) (j + 1) ys
def edgesOk : Nat → List Oper → Bool
  | _, [] => true
  | j, o :: os => (edges o).all (· < j) && edgesOk (j + 1) os
def drawOk (kd : Nat → Kd) (ops : List Oper) (l : List AOper) (ck : List (Nat × Nat)) : Bool :=
  edgesOk 0 ops && allOk ck [] 0 (infos kd (ups [] ops) l)
def ckOf (kd : Nat → Kd) (ops : List Oper) (l : List AOper) : List (Nat × Nat) := ckAll [] 0 (infos kd (ups [] ops) l)

def prepC (C : Cfg) (nt : Nat) : Code → Option ACode
  | .skip => some .skip
  | .label _ => some .skip
  | .ret => some .ret
  | .exit id => some (.exit id)
  | .region _ ops draw => (prepOpers C nt ops ops.toList).bind fun l =>
      if draw then (if drawOk C.kd ops.toList l (ckOf C.kd ops.toList l) then some (.reg (some (ckOf C.kd ops.toList l)) l) else none)
      else some (.reg none l)
  | .seq x y => (prepC C nt x).bind fun x => (prepC C nt y).map fun y => .seq x y
  | .cond c x y => (prepX nt c).bind fun c => (prepC C nt x).bind fun x => (prepC C nt y).map fun y => .cond c x y
  | .block id c => (prepC C nt c).map (.block id)
  | .loop c => (prepC C nt c).map .loop
  | .rangeFunc f ps asg body =>
    if ps.toList.all (· < nt) then
      (prepX nt f).bind fun x => (prepC C nt asg).bind fun a => (prepC C nt body).map fun b => .rangeF nt x ps.toList a b
    else none
  | _ => none

def prepRes (C : Cfg) (nt : Nat) : List ResultVar → Option (List RVar)
  | [] => some []
  | .tmp t :: r => if t < nt then (prepRes C nt r).map (.t t :: ·) else none
  | .cell a t :: r => if a < nt then (shapeA C.P t).bind fun n => (prepRes C nt r).map (.c a n :: ·) else none

def prepF (C : Cfg) (fn : Func) : Option AFunc :=
  match fn.body with
  | none => none
  | some c =>
    if fn.params.size + fn.nfree ≤ fn.ntmps ∧ fn.name ≠ "runtime.NumGoroutine" then
      (prepRes C fn.ntmps fn.results.toList).bind fun rs => (prepC C fn.ntmps c).map fun body => { nargs := fn.params.size + fn.nfree, res := rs, body }
    else none

end Go.AM
