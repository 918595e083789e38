/- The abstract machine, its evaluator, what it means in the machine's memory; its operations. No condition. -/
import Derived.WalkKit
import Derived.Orders
import Derived.Below
import Derived.AtR
import Derived.RangeFuncRecord
import Derived.RangeFuncNested
import Derived.Deep.AppendSrc
import Derived.Laws.IdiomCopy
import Derived.Deep.Upon
import Derived.Laws.Slices
import Derived.Laws.Cover3
import Derived.Laws.MakeOwn
set_option linter.unusedSimpArgs false
set_option linter.unusedVariables false
namespace Go.AM
open Go

/-- Values. 'un': nothing is known of the machine's value. -/
inductive AV where
  | un
  | int (k : IntKind) (n : Int)
  | b (x : Bool)
  | nilp
  | p (blk off : Nat)
  | nils
  | s (es blk off len : Nat) (cap : Option Nat)
  | nilf
  | fn (f : Nat) (fst caps : List AV)
  | yl (l : Nat)
  | m (blk : Nat)
  | ag (vs : List AV)
  | tp (vs : List AV)
  deriving Inhabited

abbrev AV.i (n : Int) : AV := .int .i64 n
abbrev AV.u (n : Int) : AV := .int .u64 n
/-- what the machine writes where an operation is passed over -/
abbrev AV.no : AV := .tp []

def AV.cells : AV → List AV
  | .ag vs => vs
  | v => [v]

mutual
/-- no address in it -/
def AV.pure : AV → Bool
  | .un | .p _ _ | .s _ _ _ _ _ | .yl _ | .m _ => false
  | .int _ _ | .b _ | .nilp | .nils | .nilf => true
  | .fn _ us vs => AV.pureAll us && AV.pureAll vs
  | .ag vs | .tp vs => AV.pureAll vs
def AV.pureAll : List AV → Bool
  | [] => true
  | v :: vs => v.pure && AV.pureAll vs
end

/-- the value of one cell of memory -/
def AV.one : AV → Bool
  | .un | .ag _ | .tp _ => false
  | _ => true

mutual
/-- the same value, as a computation -/
def AV.same : AV → AV → Bool
  | .int k n, .int k' n' => decide (k = k') && decide (n = n')
  | .b x, .b y => x == y
  | .nilp, .nilp | .nils, .nils | .nilf, .nilf => true
  | .p q o, .p q' o' => q == q' && o == o'
  | .s e q o n c, .s e' q' o' n' c' => e == e' && q == q' && o == o' && n == n' && c == c'
  | .fn f us vs, .fn f' us' vs' => f == f' && AV.sameL us us' && AV.sameL vs vs'
  | .yl l, .yl l' => l == l'
  | .m l, .m l' => l == l'
  | .ag vs, .ag vs' | .tp vs, .tp vs' => AV.sameL vs vs'
  | .un, .un => true
  | _, _ => false
def AV.sameL : List AV → List AV → Bool
  | [], [] => true
  | v :: vs, u :: us => v.same u && AV.sameL vs us
  | _, _ => false
end
mutual
theorem AV.eq_of_same : ∀ (v u : AV), v.same u = true → v = u
  | .int k n, u, h => by cases u <;> simp [AV.same] at h; simp [h]
  | .b x, u, h => by cases u <;> simp [AV.same] at h; simp [h]
  | .nilp, u, h => by cases u <;> simp [AV.same] at h; rfl
  | .nils, u, h => by cases u <;> simp [AV.same] at h; rfl
  | .nilf, u, h => by cases u <;> simp [AV.same] at h; rfl
  | .un, u, h => by cases u <;> simp [AV.same] at h; rfl
  | .p q o, u, h => by cases u <;> simp [AV.same] at h; simp [h]
  | .yl q, u, h => by cases u <;> simp [AV.same] at h; simp [h]
  | .m q, u, h => by cases u <;> simp [AV.same] at h; simp [h]
  | .s e q o n c, u, h => by cases u <;> simp [AV.same] at h; simp [h]
  | .fn f us vs, u, h => by
    cases u <;> simp [AV.same] at h
    obtain ⟨⟨h1, h2⟩, h3⟩ := h
    rw [h1, AV.eq_of_sameL _ _ h2, AV.eq_of_sameL _ _ h3]
  | .ag vs, u, h => by cases u <;> simp [AV.same] at h; rw [AV.eq_of_sameL _ _ h]
  | .tp vs, u, h => by cases u <;> simp [AV.same] at h; rw [AV.eq_of_sameL _ _ h]
theorem AV.eq_of_sameL : ∀ (vs us : List AV), AV.sameL vs us = true → vs = us
  | [], us, h => by cases us <;> simp [AV.sameL] at h; rfl
  | v :: vs, us, h => by
    cases us <;> simp [AV.sameL] at h
    rw [AV.eq_of_same _ _ h.1, AV.eq_of_sameL _ _ h.2]
end
mutual
theorem AV.same_refl : ∀ v : AV, v.same v = true
  | .int _ _ | .b _ | .nilp | .nils | .nilf | .un | .p _ _ | .yl _ | .m _ | .s _ _ _ _ _ => by simp [AV.same]
  | .fn _ us vs => by simp [AV.same, AV.sameL_refl us, AV.sameL_refl vs]
  | .ag vs => by simp [AV.same, AV.sameL_refl vs]
  | .tp vs => by simp [AV.same, AV.sameL_refl vs]
theorem AV.sameL_refl : ∀ vs : List AV, AV.sameL vs vs = true
  | [] => by simp [AV.sameL]
  | v :: vs => by simp [AV.sameL, AV.same_refl v, AV.sameL_refl vs]
end

inductive AX where
  | t (n : Nat)
  | c (v : AV)
  deriving Inhabited

inductive AOp where
  | mv (x : AX)
  | pick (c x y : AX)
  | alloc (z : List AV)
  | box (x : AX)
  | build (z : List AV) (parts : List (Nat × Nat × AX))
  | bslice (z : List AV) (len : Nat) (es : Nat) (parts : List (Nat × AX))
  | load (n : Option Nat) (x : AX)
  | store (n : Nat) (p x : AX)
  | bin (op : BinOp) (x y : AX)
  | beq (neg : Bool) (x y : AX)
  | seq (neg : Bool) (x y : AX)
  | aeq (neg : Bool) (n : Nat) (x y : AX)
  | un (op : UnOp) (x : AX)
  | conv (k : IntKind) (x : AX)
  | mkfn (f : Nat) (fst caps : List AX)
  | mkslice (es bytes : Nat) (z : List AV) (l : AX)
  | slice (es : Nat) (x : AX) (lo hi mx : Option AX)
  | slarr (n es : Nat) (x : AX) (lo hi : Option AX)
  | faddr (off : Nat) (x : AX)
  | field (off : Nat) (n : Option Nat) (x : AX)
  | iaddr (es : Nat) (x i : AX)
  | iaddrA (n es : Nat) (x i : AX)
  | index (n es : Nat) (ag : Bool) (x i : AX)
  | len (x : AX)
  | lenA (n : Nat)
  | cap (x : AX)
  | mn (xs : List AX)
  | mx (xs : List AX)
  | append (es bytes : Nat) (s x : AX)
  | appendz (es bytes : Nat) (z : List AV) (s n : AX)
  | copy (es : Nat) (d s : AX)
  | clr (es : Nat) (z : List AV) (x : AX)
  | call (f : Nat) (args : List AX)
  | callv (x : AX) (args : List AX)
  | extr (x : AX) (i : Nat)
  | nilchk (x : AX)
  | mkmap (n : Nat)
  | mlook (n : Nat) (z : AV) (ok : Bool) (x : AX) (i : AX)
  | mset (n : Nat) (x : AX) (i : AX) (y : AX)
  | bad
  deriving Inhabited

structure AOper where
  dst : Option Nat
  op : AOp
  guard : Option (Nat × Bool) := none
  deriving Inhabited

inductive ACode where
  | skip
  | reg (draw : Option (List (Nat × Nat))) (l : List AOper)
  | seq (x y : ACode)
  | cond (c : AX) (x y : ACode)
  | block (id : Nat) (c : ACode)
  | loop (c : ACode)
  | rangeF (nt : Nat) (x : AX) (ps : List Nat) (asg body : ACode)
  | exit (id : Nat)
  | ret
  | bad
  deriving Inhabited

abbrev Fr := Nat → AV
def Fr.upd (a : Fr) (d : Nat) (v : AV) : Fr := fun t => if t = d then v else a t
def Fr.put (a : Fr) : Option Nat → AV → Fr
  | some d, v => a.upd d v
  | none, _ => a
def ev (a : Fr) : AX → AV
  | .t n => a n
  | .c v => v

inductive Jmp where
  | ret
  | exit (id : Nat)
def Jmp.code : Jmp → ACode
  | .ret => .ret
  | .exit id => .exit id

inductive LSt where
  | ready | busy | done

inductive Blk where
  | cells (vs : List AV)
  | dead
  | loop (st : LSt) (pend : Option Jmp) (nt : Nat) (fr : Fr) (ps : List Nat) (asg body : ACode)
  | map (n : Nat) (es : List (List Int × AV))
/-- nothing of a loop's record, and of a map, is kept -/
def Blk.shut : Blk → Blk
  | .loop .. => .dead
  | .map _ _ => .dead
  | k => k
abbrev Heap := List Blk

def ld (H : Heap) (b o : Nat) : Option AV :=
  match H[b]? with
  | some (.cells vs) => vs[o]?
  | _ => none
def ldn (H : Heap) (b o n : Nat) : Option (List AV) :=
  match H[b]? with
  | some (.cells vs) => if o + n ≤ vs.length then some ((vs.drop o).take n) else none
  | _ => none
def wr (cs : List AV) (o : Nat) : List AV → List AV
  | [] => cs
  | v :: vs => wr (cs.set o v) (o + 1) vs
def st (lo : Nat) (H : Heap) (b o : Nat) (vs : List AV) : Option Heap :=
  if lo ≤ b then
    match H[b]? with
    | some (.cells cs) => if o + vs.length ≤ cs.length then some (H.set b (.cells (wr cs o vs))) else none
    | _ => none
  else none

def mostBytes : Nat := 2 ^ 40

def reps (n : Nat) (z : List AV) : List AV := match n with
  | 0 => []
  | n + 1 => z ++ reps n z

/-- 'xs' (m elements) behind a slice. -/
def appendA (lo es bytes : Nat) (sv : AV) (xs : List AV) (m : Nat) (H : Heap) : Option (AV × Heap) :=
  match sv with
  | .nils =>
    if m = 0 then some (.nils, H)
    else if m * bytes ≤ mostBytes then some (.s es H.length 0 m none, H ++ [.cells xs]) else none
  | .s es' b o n c =>
    if es' ≠ es then none
    else if m = 0 then some (sv, H)
    else match H[b]? with
      | some (.cells cs) =>
        if o + n * es ≤ cs.length ∧ (n + m) * bytes ≤ mostBytes then
          if c = some n then some (.s es H.length 0 (n + m) none, H ++ [.cells ((cs.drop o).take (n * es) ++ xs)])
          else if lo ≤ b then some (.s es H.length 0 (n + m) none, H.set b .dead ++ [.cells ((cs.drop o).take (n * es) ++ xs)])
          else none
        else none
      | _ => none
  | _ => none

/-- the first cells of a slice of m elements, of es cells each -/
def cellsOf (es m : Nat) (x : AV) (H : Heap) : Option (List AV) :=
  match x with
  | .nils => if m = 0 then some [] else none
  | .s es' b o n _ => if m ≤ n ∧ es' = es then (if m = 0 then some [] else ldn H b o (m * es)) else none
  | _ => none
def lenA : AV → Option Nat
  | .nils => some 0
  | .s _ _ _ n _ => some n
  | _ => none

def intOf : AV → Option (IntKind × Int)
  | .int k n => some (k, n)
  | _ => none

def binA (op : BinOp) (x y : AV) : Option AV :=
  match op, x, y with
  | .shl, .int k a, .int _ b => if b < 0 then none else some (.int k (k.wrap (a * 2 ^ (min b.toNat k.bits))))
  | .shr, .int k a, .int _ b => if b < 0 then none else some (.int k (a.fdiv (2 ^ (min b.toNat k.bits))))
  | op, .int k a, .int k' b =>
    if k = k' then
      match op with
      | .add => some (.int k (k.wrap (a + b)))
      | .sub => some (.int k (k.wrap (a - b)))
      | .mul => some (.int k (k.wrap (a * b)))
      | .quo => if b = 0 then none else some (.int k (k.wrap (a.tdiv b)))
      | .rem => if b = 0 then none else some (.int k (a.tmod b))
      | .and => some (.int k (k.wrap (BitVec.ofInt k.bits a &&& BitVec.ofInt k.bits b).toNat))
      | .or => some (.int k (k.wrap (BitVec.ofInt k.bits a ||| BitVec.ofInt k.bits b).toNat))
      | .xor => some (.int k (k.wrap (BitVec.ofInt k.bits a ^^^ BitVec.ofInt k.bits b).toNat))
      | .andNot => some (.int k (k.wrap (BitVec.ofInt k.bits a &&& ~~~(BitVec.ofInt k.bits b)).toNat))
      | .eql => some (.b (a == b))
      | .neq => some (.b (a != b))
      | .lss => some (.b (decide (a < b)))
      | .leq => some (.b (decide (a ≤ b)))
      | .gtr => some (.b (decide (a > b)))
      | .geq => some (.b (decide (a ≥ b)))
      | _ => none
    else none
  | _, _, _ => none

def unA (op : UnOp) (x : AV) : Option AV :=
  match op, x with
  | .neg, .int k n => some (.int k (k.wrap (0 - n)))
  | .xor, .int k n => some (.int k (k.wrap (BitVec.ofInt k.bits (if k.signed then -1 else k.max) ^^^ BitVec.ofInt k.bits n).toNat))
  | .not, .b x => some (.b !x)
  | _, _ => none

/-- whole numbers of one kind, i64, side by side -/
def eqInts : List AV → List AV → Option Bool
  | [], [] => some true
  | .int .i64 x :: xs, .int .i64 y :: ys => (eqInts xs ys).map fun r => (x == y) && r
  | _, _ => none

def foldMin (k : IntKind) : Int → List AV → Option Int
  | x, [] => some x
  | x, .int _ y :: r => foldMin k (if y < x then y else x) r
  | _, _ => none
def foldMax (k : IntKind) : Int → List AV → Option Int
  | x, [] => some x
  | x, .int _ y :: r => foldMax k (if y > x then y else x) r
  | _, _ => none

def fillA (cells : List AV) : List (Nat × Nat × AV) → Option (List AV)
  | [] => some cells
  | (off, size, v) :: r =>
    if v.cells.length = size ∧ off + size ≤ cells.length ∧ v.cells.all AV.one then fillA (wr cells off v.cells) r else none

/-- an index within bounds; no operand: the default -/
def boundA (a : Fr) (x : Option AX) (dflt most : Nat) : Option Nat :=
  match x with
  | none => if dflt ≤ most then some dflt else none
  | some x => match ev a x with
    | .int _ i => if 0 ≤ i ∧ i ≤ (most : Int) then some i.toNat else none
    | _ => none

/-- a slice cut within its length: l ≤ h ≤ m; 'none': the capacity is not cut -/
def sliceA (es : Nat) (x : AV) (l h : Nat) (mx : Option Nat) : Option AV :=
  match x with
  | .nils => if l + h + mx.getD 0 = 0 then some .nils else none
  | .s es' b o n c =>
    if es' ≠ es then none else
    match mx with
    | some m => if m ≤ n ∧ h ≤ m ∧ l ≤ h then some (.s es b (if m = l then o else o + l * es) (h - l) (some (m - l))) else none
    | none => if h ≤ n ∧ l ≤ h then some (.s es b (o + l * es) (h - l) (c.map (· - l))) else none
  | _ => none

/-- a key: whole numbers -/
def keyA : List AV → Option (List Int)
  | [] => some []
  | .int .i64 x :: r => (keyA r).map (x :: ·)
  | _ => none
/-- the entries of a map of the call's own -/
def mapAt (lo n : Nat) (H : Heap) (b : Nat) : Option (List (List Int × AV)) :=
  if lo ≤ b then
    match H[b]? with
    | some (.map m es) => if m = n then some es else none
    | _ => none
  else none
def mapGet (z : AV) (ok : Bool) (es : List (List Int × AV)) (ks : List Int) : AV :=
  match es.find? (fun e => e.1 == ks) with
  | some e => if ok then .tp [e.2, .b true] else e.2
  | none => if ok then .tp [z, .b false] else z
def mapLook (lo n : Nat) (z : AV) (ok : Bool) (b : Nat) (vs : List AV) (H : Heap) : Option AV :=
  (mapAt lo n H b).bind fun es => if vs.length = n then (keyA vs).map (mapGet z ok es) else none
/-- an entry at a key that the map does not have -/
def mapSet (lo n b : Nat) (vs : List AV) (x : AV) (H : Heap) : Option Heap :=
  (mapAt lo n H b).bind fun es => if vs.length = n then (keyA vs).bind fun ks => if es.any (fun e => e.1 == ks) then none else some (H.set b (.map n (es ++ [(ks, x)]))) else none

/-- Operations without a call. -/
def opA (lo : Nat) (o : AOp) (a : Fr) (H : Heap) : Option (AV × Heap) :=
  match o with
  | .mv x => some (ev a x, H)
  | .pick c x y => match ev a c with
    | .b true => some (ev a x, H)
    | .b false => some (ev a y, H)
    | _ => none
  | .alloc z => some (.p H.length 0, H ++ [.cells z])
  | .box x => if (ev a x).cells.all AV.one then some (.p H.length 0, H ++ [.cells (ev a x).cells]) else none
  | .build z parts => (fillA z (parts.map fun q => (q.1, q.2.1, ev a q.2.2))).map fun cs => (.ag cs, H)
  | .bslice z len es parts =>
    (fillA (reps len z) (parts.map fun q => (q.1 * es, es, ev a q.2))).map fun cs => (.s es H.length 0 len (some len), H ++ [.cells cs])
  | .load n x => match ev a x, n with
    | .p b o, none => (ld H b o).map fun v => (v, H)
    | .p b o, some n => (ldn H b o n).map fun vs => (.ag vs, H)
    | _, _ => none
  | .store n p x => match ev a p with
    | .p b o => if (ev a x).cells.length = n ∧ (ev a x).cells.all AV.one then (st lo H b o (ev a x).cells).map fun H' => (.no, H') else none
    | _ => none
  | .bin op x y => (binA op (ev a x) (ev a y)).map fun v => (v, H)
  | .beq neg x y => match ev a x, ev a y with
    | .b p, .b q => some (.b ((p == q) != neg), H)
    | _, _ => none
  | .seq neg x y => match ev a x, ev a y with
    | .nils, .nils => some (.b (!neg), H)
    | .nils, .s _ _ _ _ _ => some (.b neg, H)
    | .s _ _ _ _ _, .nils => some (.b neg, H)
    | _, _ => none
  | .aeq neg n x y => match ev a x, ev a y with
    | .ag xs, .ag ys => if xs.length = n ∧ ys.length = n then (eqInts xs ys).map fun r => (.b (r != neg), H) else none
    | _, _ => none
  | .un op x => (unA op (ev a x)).map fun v => (v, H)
  | .conv k x => match ev a x with
    | .int _ n => some (.int k (k.wrap n), H)
    | _ => none
  | .mkfn f us caps => some (.fn f (us.map (ev a)) (caps.map (ev a)), H)
  | .mkslice es bytes z l => match ev a l with
    | .int .i64 n => if 0 ≤ n ∧ n.toNat * bytes ≤ mostBytes ∧ n ≤ 2 ^ 40 ∧ z.length = es then some (.s es H.length 0 n.toNat (some n.toNat), H ++ [.cells (reps n.toNat z)]) else none
    | _ => none
  | .slice es x l h m => match lenA (ev a x) with
    | some n =>
      match boundA a m n n with
      | some mx => match boundA a h n mx with
        | some hi => match boundA a l 0 hi with
          | some lo' => (sliceA es (ev a x) lo' hi (if m.isSome then some mx else none)).map fun v => (v, H)
          | none => none
        | none => none
      | none => none
    | none => none
  | .slarr n es x l h => match ev a x with
    | .p b o => match boundA a h n n with
      | some hi => match boundA a l 0 hi with
        | some lo' => match H[b]? with
          | some (.cells cs) => if es = 1 ∧ lo ≤ b ∧ o + n ≤ cs.length ∧ n ≤ 1048576 then some (.s 1 b (o + lo') (hi - lo') (some (n - lo')), H) else none
          | _ => none
        | none => none
      | none => none
    | _ => none
  | .faddr off x => match ev a x with
    | .p b o => some (.p b (o + off), H)
    | _ => none
  | .field off n x => match ev a x, n with
    | .ag vs, none => (vs[off]?).map fun v => (v, H)
    | .ag vs, some n => if off + n ≤ vs.length then some (.ag ((vs.drop off).take n), H) else none
    | _, _ => none
  | .iaddr es x i => match ev a x, ev a i with
    | .s es' b o n _, .int _ i => if 0 ≤ i ∧ i < n ∧ es' = es then some (.p b (o + i.toNat * es), H) else none
    | _, _ => none
  | .iaddrA n es x i => match ev a x, ev a i with
    | .p b o, .int _ i => if 0 ≤ i ∧ i < n then some (.p b (o + i.toNat * es), H) else none
    | _, _ => none
  | .index n es ag x i => match ev a x, ev a i with
    | .ag vs, .int _ i => if 0 ≤ i ∧ i < n then
        (if ag then (if i.toNat * es + es ≤ vs.length then some (.ag ((vs.drop (i.toNat * es)).take es), H) else none)
         else (vs[i.toNat * es]?).map fun v => (v, H)) else none
    | _, _ => none
  | .len x => (lenA (ev a x)).map fun (n : Nat) => (AV.i (n : Int), H)
  | .lenA n => some (.i n, H)
  | .cap x => match ev a x with
    | .nils => some (.i 0, H)
    | .s _ _ _ _ (some c) => some (.i c, H)
    | _ => none
  | .mn xs => match xs.map (ev a) with
    | .int k x :: r => (foldMin k x r).map fun n => (.int k n, H)
    | _ => none
  | .mx xs => match xs.map (ev a) with
    | .int k x :: r => (foldMax k x r).map fun n => (.int k n, H)
    | _ => none
  | .append es bytes s x => match lenA (ev a x) with
    | some m => match cellsOf es m (ev a x) H with
      | some xs => appendA lo es bytes (ev a s) xs m H
      | none => none
    | none => none
  | .appendz es bytes z s n => match ev a n with
    | .int .i64 n => if 0 ≤ n ∧ n ≤ 2 ^ 40 ∧ n.toNat * bytes ≤ mostBytes ∧ z.length = es then appendA lo es bytes (ev a s) (reps n.toNat z) n.toNat H else none
    | _ => none
  | .copy es d s => match ev a d, lenA (ev a s) with
    | .s es' b o n _, some m => if es' ≠ es then none else match cellsOf es (min m n) (ev a s) H with
      | some xs => if xs = [] then some (.i (min m n : Nat), H) else if xs.all AV.one then (st lo H b o xs).map fun H' => (.i (min m n : Nat), H') else none
      | none => none
    | .nils, some _ => some (.i 0, H)
    | _, _ => none
  | .clr es z x => match ev a x with
    | .s es' b o n _ => if es' ≠ es then none else if n = 0 then some (.tp [], H) else (st lo H b o (reps n z)).map fun H' => (.tp [], H')
    | .nils => some (.tp [], H)
    | _ => none
  | .extr x i => match ev a x with
    | .tp vs => (vs[i]?).map fun v => (v, H)
    | _ => none
  | .nilchk x => match ev a x with
    | .p b o => some (.p b o, H)
    | .fn f u c => some (.fn f u c, H)
    | .yl l => some (.yl l, H)
    | _ => none
  | .mkmap n => some (.m H.length, H ++ [.map n []])
  | .mlook n z ok x i => match ev a x, ev a i with
    | .m b, .ag vs => (mapLook lo n z ok b vs H).map fun v => (v, H)
    | _, _ => none
  | .mset n x i y => match ev a x, ev a i with
    | .m b, .ag vs => (mapSet lo n b vs (ev a y) H).map fun H' => (.no, H')
    | _, _ => none
  | .call _ _ | .callv _ _ | .bad => none

end Go.AM

namespace Go.AM
open Go

inductive RVar where
  | t (n : Nat)
  | c (n : Nat) (k : Option Nat)

structure AFunc where
  nargs : Nat
  res : List RVar
  body : ACode

/-- How a function is called: 'wrt': it may write to what is older; 'ro': it may not; 'closed': no address goes in or out. -/
inductive Kd where
  | wrt | ro | closed
  | prim (g : List AV → Option AV)
  | del

structure Tab where
  fn : Nat → Option AFunc
  kd : Nat → Kd

inductive AI where
  | code (c : ACode)
  | blk (id : Nat)
  | lp (c : ACode)
  | begin

inductive Out where
  | done | ret
  | exit (id : Nat)

def Out.jmp : Out → Option Jmp
  | .done => none
  | .ret => some .ret
  | .exit id => some (.exit id)

abbrev Res := Out × Fr × Heap
/-- the lowest block that may be written · the loop whose round this is · what is to do -/
abbrev Rec := Nat → Option Nat → List AI → Fr → Heap → Option Res

def exitA (id : Nat) : List AI → Option (List AI)
  | [] => none
  | .blk j :: k => if j = id then some k else exitA id k
  | _ :: k => exitA id k

def initFr (vs : List AV) : Fr := fun t => vs.getD t .un
def setPs (a : Fr) : List Nat → List AV → Fr
  | p :: ps, v :: vs => setPs (a.upd p v) ps vs
  | _, _ => a

def resVar (a : Fr) (H : Heap) : RVar → Option AV
  | .t n => some (a n)
  | .c n k => match a n, k with
    | .p b o, none => ld H b o
    | .p b o, some m => (ldn H b o m).map .ag
    | _, _ => none
def resVars (a : Fr) (H : Heap) : List RVar → Option (List AV)
  | [] => some []
  | r :: rs => (resVar a H r).bind fun v => (resVars a H rs).map (v :: ·)
def resA (rs : List RVar) (a : Fr) (H : Heap) : Option AV :=
  match resVars a H rs with
  | some [v] => some v
  | some vs => some (.tp vs)
  | none => none

def runF (rec : Rec) (lo : Nat) (af : AFunc) (vs : List AV) (H : Heap) : Option (AV × Heap) :=
  if vs.length = af.nargs then
    match rec lo none [.code af.body] (initFr vs) H with
    | some (.done, a, H') => (resA af.res a H').map fun v => (v, H')
    | some (.ret, a, H') => (resA af.res a H').map fun v => (v, H')
    | _ => none
  else none

/-- whole numbers, i64, side by side -/
def intsOf : List AV → Option (List Int)
  | [] => some []
  | .int .i64 n :: r => (intsOf r).map (n :: ·)
  | _ => none
/-- elements i to j of a slice of whole numbers are taken out, in place -/
def delV (lo : Nat) (vs : List AV) (H : Heap) : Option (AV × Heap) := match vs with
  | [.s es b o n c, .int .i64 i, .int .i64 j] =>
    if es = 1 ∧ lo ≤ b ∧ 0 ≤ i ∧ i ≤ j ∧ j ≤ n ∧ 0 < n then match H[b]? with
      | some (.cells cs) => match intsOf ((cs.drop o).take n) with
        | some zs => if zs.length = n then some (.s 1 b o (n - (j.toNat - i.toNat)) c, H.set b (.cells (wr cs o ((zs.take i.toNat ++ zs.drop j.toNat ++ List.replicate (j.toNat - i.toNat) 0).map AV.i)))) else none
        | none => none
      | _ => none
    else none
  | _ => none

theorem delV_set {lo : Nat} {vs : List AV} {H H' : Heap} {v : AV} (hx : delV lo vs H = some (v, H')) : ∃ b k, lo ≤ b ∧ H' = H.set b k := by
  unfold delV at hx
  split at hx
  · split at hx
    · rename_i hc
      split at hx
      · split at hx
        · split at hx
          · cases hx; exact ⟨_, _, hc.2.1, rfl⟩
          · cases hx
        · cases hx
      · cases hx
    · cases hx
  · cases hx

def callF (E : Tab) (rec : Rec) (lo : Nat) (f : Nat) (vs : List AV) (H : Heap) : Option (AV × Heap) :=
  match E.kd f with
  | .prim g => (g vs).bind fun v => if v.pure && AV.pureAll vs then some (v, H) else none
  | .wrt => (E.fn f).bind fun af => runF rec lo af vs H
  | .ro => (E.fn f).bind fun af => (runF rec H.length af vs H).map fun r => (r.1, if r.1.pure then H else H ++ (r.2.drop H.length).map Blk.shut)
  | .closed => if AV.pureAll vs then (E.fn f).bind fun af => (runF rec 0 af vs []).bind fun r => if r.1.pure then some (r.1, H) else none else none
  | .del => delV lo vs H

def roundA (rec : Rec) (lo l : Nat) (fr : Fr) (ps : List Nat) (asg body : ACode) (vs : List AV) (H : Heap) : Option (AV × Heap) :=
  if vs.length = ps.length ∧ lo ≤ l then
    match rec lo (some l) [.code asg, .begin, .code body] (setPs fr ps vs) H with
    | some (out, _, H') => match H'[l]? with
      | some (.loop .busy _ nt' fr' ps' asg' body') =>
        some (.b out.jmp.isNone, H'.set l (.loop (if out.jmp.isNone then .ready else .done) out.jmp nt' fr' ps' asg' body'))
      | _ => none
    | none => none
  else none

def callV (E : Tab) (rec : Rec) (lo : Nat) (fv : AV) (vs : List AV) (H : Heap) : Option (AV × Heap) :=
  match fv with
  | .fn f us caps => callF E rec lo f (us ++ vs ++ caps) H
  | .yl l => match H[l]? with
    | some (.loop .ready _ _ fr ps asg body) => roundA rec lo l fr ps asg body vs H
    | _ => none
  | _ => none

def opF (E : Tab) (rec : Rec) (lo : Nat) (o : AOp) (a : Fr) (H : Heap) : Option (AV × Heap) :=
  match o with
  | .call f args => callF E rec lo f (args.map (ev a)) H
  | .callv x args => callV E rec lo (ev a x) (args.map (ev a)) H
  | o => opA lo o a H

/-- is an operation wanted? -/
def wantedA (a : Fr) : Option (Nat × Bool) → Option Bool
  | none => some true
  | some (s, w) => match a s with
    | .b x => some (x == w)
    | .tp [] => some false
    | _ => none

def runOps (E : Tab) (rec : Rec) (lo : Nat) : List AOper → Fr → Heap → Option (Fr × Heap)
  | [], a, H => some (a, H)
  | o :: os, a, H =>
    match wantedA a o.guard with
    | some true => (opF E rec lo o.op a H).bind fun r => runOps E rec lo os (a.put o.dst r.1) r.2
    | some false => runOps E rec lo os (a.put o.dst .no) H
    | none => none

/-- the states ahead of each operation, and behind the last -/
def runTr (E : Tab) (rec : Rec) (lo : Nat) : List AOper → Fr → Heap → Option (List (Fr × Heap))
  | [], a, H => some [(a, H)]
  | o :: os, a, H =>
    match wantedA a o.guard with
    | some true => (opF E rec lo o.op a H).bind fun r => (runTr E rec lo os (a.put o.dst r.1) r.2).map ((a, H) :: ·)
    | some false => (runTr E rec lo os (a.put o.dst .no) H).map ((a, H) :: ·)
    | none => none
def sameO : Option AV → Option AV → Bool
  | some v, some u => v.same u
  | none, none => true
  | _, _ => false
def sameLO : Option (List AV) → Option (List AV) → Bool
  | some v, some u => AV.sameL v u
  | none, none => true
  | _, _ => false
/-- what the load at q.1 reads is the same ahead of and behind q.2 -/
def chk1 (l : List AOper) (tr : List (Fr × Heap)) (q : Nat × Nat) : Bool :=
  match l[q.1]?, tr[q.1]?, tr[q.2]?, tr[q.2 + 1]? with
  | some ⟨_, .load n x, _⟩, some s, some s1, some s2 =>
    match ev s.1 x with
    | .p b o => decide (s1.2.length ≤ b) || (match n with
      | none => sameO (ld s1.2 b o) (ld s2.2 b o)
      | some n => sameLO (ldn s1.2 b o n) (ldn s2.2 b o n))
    | _ => true
  | _, _, _, _ => false
/-- operations whose order is drawn: ck: the loads that are not ordered against an operation that writes -/
def runD (E : Tab) (rec : Rec) (lo : Nat) (ck : List (Nat × Nat)) (l : List AOper) (a : Fr) (H : Heap) : Option (Fr × Heap) :=
  (runTr E rec lo l a H).bind fun tr => if ck.all (chk1 l tr) then tr[l.length]? else none

/-- may the loop's record be laid? -/
def mayLoop (lo : Nat) (rd : Option Nat) (H : Heap) : Bool :=
  match rd with
  | none => true
  | some l => lo ≤ l && (match H[l]? with
    | some (.loop _ _ _ _ _ _ _) => true
    | _ => false)

def stepR (E : Tab) (rec : Rec) (lo : Nat) (rd : Option Nat) (k : List AI) (a : Fr) (H : Heap) : Option Res :=
  match k with
  | [] => some (.done, a, H)
  | .blk _ :: k => rec lo rd k a H
  | .lp c :: k => rec lo rd (.code c :: .lp c :: k) a H
  | .begin :: k => match rd with
    | some l => match H[l]? with
      | some (.loop .ready p nt fr ps asg body) => if lo ≤ l then rec lo rd k a (H.set l (.loop .busy p nt fr ps asg body)) else none
      | _ => none
    | none => none
  | .code .ret :: _ => some (.ret, a, H)
  | .code .skip :: k => rec lo rd k a H
  | .code (.seq x y) :: k => rec lo rd (.code x :: .code y :: k) a H
  | .code (.cond c x y) :: k => match ev a c with
    | .b true => rec lo rd (.code x :: k) a H
    | .b false => rec lo rd (.code y :: k) a H
    | _ => none
  | .code (.block id c) :: k => rec lo rd (.code c :: .blk id :: k) a H
  | .code (.loop c) :: k => rec lo rd (.code c :: .lp c :: k) a H
  | .code (.exit id) :: k => match exitA id k with
    | some k' => rec lo rd k' a H
    | none => some (.exit id, a, H)
  | .code (.reg none l) :: k => (runOps E rec lo l a H).bind fun r => rec lo rd k r.1 r.2
  | .code (.reg (some ck) l) :: k => (runD E rec lo ck l a H).bind fun r => rec lo rd k r.1 r.2
  | .code (.rangeF nt x ps asg body) :: k =>
    if mayLoop lo rd H then
    match ev a x with
    | .fn f us caps =>
      (callF E rec lo f (us ++ .yl H.length :: caps) (H ++ [.loop .ready none nt a ps asg body])).bind fun r =>
        match r.2[H.length]? with
        | some (.loop .busy _ _ _ _ _ _) => none
        | some (.loop _ none _ _ _ _ _) => rec lo rd k a (r.2.set H.length .dead)
        | some (.loop _ (some j) _ _ _ _ _) => rec lo rd (.code j.code :: k) a (r.2.set H.length .dead)
        | _ => none
    | _ => none
    else none
  | .code .bad :: _ => none

def R (E : Tab) : Nat → Rec
  | 0 => fun _ _ _ _ _ => none
  | n + 1 => stepR E (R E n)

/-! ### More fuel tells the same -/
def LeR (r r' : Rec) : Prop := ∀ lo rd k a H x, r lo rd k a H = some x → r' lo rd k a H = some x
theorem LeR.refl (r : Rec) : LeR r r := fun _ _ _ _ _ _ h => h
section mono
variable {r r' : Rec} {E : Tab} {lo : Nat} {rd : Option Nat}

theorem runF_mono (h : LeR r r') {af : AFunc} {vs : List AV} {H : Heap} {x} (hx : runF r lo af vs H = some x) : runF r' lo af vs H = some x := by
  unfold runF at hx ⊢
  split at hx
  · rename_i hl
    rw [if_pos hl]
    split at hx
    · rename_i e; rw [h _ _ _ _ _ _ e]; exact hx
    · rename_i e; rw [h _ _ _ _ _ _ e]; exact hx
    · cases hx
  · cases hx
theorem callF_mono (h : LeR r r') {f : Nat} {vs : List AV} {H : Heap} {x} (hx : callF E r lo f vs H = some x) : callF E r' lo f vs H = some x := by
  unfold callF at hx ⊢
  cases hk : E.kd f with
  | prim g => rw [hk] at hx; exact hx
  | del => rw [hk] at hx; exact hx
  | wrt =>
    simp only [hk] at hx ⊢
    cases hf : E.fn f with
    | none => simp [hf] at hx
    | some af => simp only [hf, Option.bind_some] at hx ⊢; exact runF_mono h hx
  | ro =>
    simp only [hk] at hx ⊢
    cases hf : E.fn f with
    | none => simp [hf] at hx
    | some af =>
      simp only [hf, Option.bind_some, Option.map_eq_some_iff] at hx ⊢
      obtain ⟨y, hy, e⟩ := hx
      exact ⟨y, runF_mono h hy, e⟩
  | closed =>
    simp only [hk] at hx ⊢
    split at hx
    · rename_i hp
      rw [if_pos hp]
      cases hf : E.fn f with
      | none => simp [hf] at hx
      | some af =>
        simp only [hf, Option.bind_some, Option.bind_eq_some_iff] at hx ⊢
        obtain ⟨y, hy, e⟩ := hx
        exact ⟨y, runF_mono h hy, e⟩
    · cases hx
theorem roundA_mono (h : LeR r r') {l : Nat} {fr : Fr} {ps : List Nat} {asg body : ACode} {vs : List AV} {H : Heap} {x} (hx : roundA r lo l fr ps asg body vs H = some x) : roundA r' lo l fr ps asg body vs H = some x := by
  unfold roundA at hx ⊢
  split at hx
  · rename_i hl
    rw [if_pos hl]
    split at hx
    · rename_i e; rw [h _ _ _ _ _ _ e]; exact hx
    · cases hx
  · cases hx
theorem callV_mono (h : LeR r r') {fv : AV} {vs : List AV} {H : Heap} {x} (hx : callV E r lo fv vs H = some x) : callV E r' lo fv vs H = some x := by
  unfold callV at hx ⊢
  split at hx
  · exact callF_mono h hx
  · split at hx
    · exact roundA_mono h hx
    · cases hx
  · cases hx
theorem opF_mono (h : LeR r r') {o : AOp} {a : Fr} {H : Heap} {x} (hx : opF E r lo o a H = some x) : opF E r' lo o a H = some x := by
  unfold opF at hx ⊢
  split at hx
  · exact callF_mono h hx
  · exact callV_mono h hx
  · exact hx
theorem runOps_mono (h : LeR r r') {l : List AOper} : ∀ {a : Fr} {H : Heap} {x}, runOps E r lo l a H = some x → runOps E r' lo l a H = some x := by
  induction l with
  | nil => exact fun hx => hx
  | cons o os ih =>
    intro a H x hx
    unfold runOps at hx ⊢
    split at hx
    · simp only [Option.bind_eq_some_iff] at hx ⊢
      obtain ⟨y, hy, e'⟩ := hx
      exact ⟨y, opF_mono h hy, ih e'⟩
    · exact ih hx
    · cases hx
theorem runTr_mono (h : LeR r r') {l : List AOper} : ∀ {a : Fr} {H : Heap} {x}, runTr E r lo l a H = some x → runTr E r' lo l a H = some x := by
  induction l with
  | nil => exact fun hx => hx
  | cons o os ih =>
    intro a H x hx
    unfold runTr at hx ⊢
    split at hx
    · simp only [Option.bind_eq_some_iff, Option.map_eq_some_iff] at hx ⊢
      obtain ⟨y, hy, z, hz, e'⟩ := hx
      exact ⟨y, opF_mono h hy, z, ih hz, e'⟩
    · simp only [Option.map_eq_some_iff] at hx ⊢
      obtain ⟨z, hz, e'⟩ := hx
      exact ⟨z, ih hz, e'⟩
    · cases hx
theorem runD_mono (h : LeR r r') {ck : List (Nat × Nat)} {l : List AOper} {a : Fr} {H : Heap} {x} (hx : runD E r lo ck l a H = some x) : runD E r' lo ck l a H = some x := by
  unfold runD at hx ⊢
  obtain ⟨y, hy, e⟩ := Option.bind_eq_some_iff.1 hx
  exact Option.bind_eq_some_iff.2 ⟨y, runTr_mono h hy, e⟩
theorem stepR_mono (h : LeR r r') {k : List AI} {a : Fr} {H : Heap} {x} (hx : stepR E r lo rd k a H = some x) : stepR E r' lo rd k a H = some x := by
  unfold stepR at hx ⊢
  split at hx
  · exact hx
  · exact h _ _ _ _ _ _ hx
  · exact h _ _ _ _ _ _ hx
  · split at hx
    · split at hx
      · split at hx
        · rename_i hl; rw [if_pos hl]; exact h _ _ _ _ _ _ hx
        · cases hx
      · cases hx
    · cases hx
  · exact hx
  · exact h _ _ _ _ _ _ hx
  · exact h _ _ _ _ _ _ hx
  · split at hx
    · exact h _ _ _ _ _ _ hx
    · exact h _ _ _ _ _ _ hx
    · cases hx
  · exact h _ _ _ _ _ _ hx
  · exact h _ _ _ _ _ _ hx
  · split at hx
    · exact h _ _ _ _ _ _ hx
    · exact hx
  · simp only [Option.bind_eq_some_iff] at hx ⊢
    obtain ⟨y, hy, e⟩ := hx
    exact ⟨y, runOps_mono h hy, h _ _ _ _ _ _ e⟩
  · simp only [Option.bind_eq_some_iff] at hx ⊢
    obtain ⟨y, hy, e⟩ := hx
    exact ⟨y, runD_mono h hy, h _ _ _ _ _ _ e⟩
  · split at hx
    · rename_i hm
      rw [if_pos hm]
      split at hx
      · simp only [Option.bind_eq_some_iff] at hx ⊢
        obtain ⟨y, hy, e⟩ := hx
        refine ⟨y, callF_mono h hy, ?_⟩
        split at e
        · cases e
        · exact h _ _ _ _ _ _ e
        · exact h _ _ _ _ _ _ e
        · cases e
      · cases hx
    · cases hx
  · cases hx
end mono
theorem R_succ (E : Tab) : ∀ n, LeR (R E n) (R E (n + 1))
  | 0 => fun _ _ _ _ _ _ h => by cases h
  | n + 1 => fun _ _ _ _ _ _ h => stepR_mono (R_succ E n) h
theorem R_le (E : Tab) {n m : Nat} (h : n ≤ m) : LeR (R E n) (R E m) := by
  induction h with
  | refl => exact LeR.refl _
  | step _ ih => exact fun lo rd k a H x hx => R_succ E _ lo rd k a H x (ih lo rd k a H x hx)

end Go.AM

namespace Go.AM
open Go

def toAVs (f : Value → Option AV) : List Value → Option (List AV)
  | [] => some []
  | v :: vs => (f v).bind fun x => (toAVs f vs).map (x :: ·)
def toAV1 : Value → Option AV
  | .int k n => some (.int k n)
  | .bool b => some (.b b)
  | .slice none 0 0 => some .nils
  | .pointer none => some .nilp
  | .nilFunc => some .nilf
  | _ => none
def toAV : Value → Option AV
  | .agg cs => (toAVs toAV1 cs.toList).map .ag
  | v => toAV1 v

structure Cfg where
  P : Program
  eqT : Nat → Option Nat
  kd : Nat → Kd
  /-- maps whose keys are arrays of so many whole numbers -/
  keyT : Nat → Option Nat := fun _ => none

def prepX (nt : Nat) : Operand → Option AX
  | .tmp t => if t < nt then some (.t t) else none
  | .const v => (toAV v).map .c
  | .func f => some (.c (.fn f [] []))
  | .global _ => none
def prepXs (nt : Nat) : List Operand → Option (List AX)
  | [] => some []
  | x :: xs => (prepX nt x).bind fun y => (prepXs nt xs).map (y :: ·)
def prepO (nt : Nat) : Option Operand → Option (Option AX)
  | none => some none
  | some x => (prepX nt x).map some

def zeroA (P : Program) (t : TypeId) : Option (List AV) :=
  match P.info? t with
  | some i => match i.zero with
    | some z => toAVs toAV1 z.cells.toList
    | none => none
  | none => none
def zero1A (P : Program) (t : TypeId) : Option AV :=
  match P.info? t with
  | some i => match i.zero with
    | some z => toAV1 z
    | none => none
  | none => none
def sizeA (P : Program) (t : TypeId) : Option Nat := (P.info? t).map (·.size)
def bytesA (P : Program) (t : TypeId) : Option Nat := (P.info? t).map (·.bytes)
/-- none: one cell; some n: n cells -/
def shapeA (P : Program) (t : TypeId) : Option (Option Nat) :=
  match P.underlying t with
  | some (.struct _) => (sizeA P t).map some
  | some (.array _ _) => (sizeA P t).map some
  | some _ => some none
  | none => none

def prepParts (P : Program) (nt : Nat) (place : Nat → Option (Nat × Nat)) : List (Nat × Operand) → Option (List (Nat × Nat × AX))
  | [] => some []
  | (i, x) :: r => (place i).bind fun q => (prepX nt x).bind fun y => (prepParts P nt place r).map ((q.1, q.2, y) :: ·)
def prepSParts (nt : Nat) : List (Nat × Operand) → Option (List (Nat × AX))
  | [] => some []
  | (i, x) :: r => (prepX nt x).bind fun y => (prepSParts nt r).map ((i, y) :: ·)

def sameX : Operand → Operand → Bool
  | .tmp i, .tmp j => i == j
  | _, _ => false

def prepOp (C : Cfg) (nt : Nat) (op : Op) : Option AOp :=
  match op with
  | .move x | .assign x => (prepX nt x).map .mv
  | .pick c x y => (prepX nt c).bind fun c => (prepX nt x).bind fun x => (prepX nt y).map fun y => .pick c x y
  | .alloc t => (zeroA C.P t).map .alloc
  | .box _ x => (prepX nt x).map .box
  | .build t parts =>
    (zeroA C.P t).bind fun z =>
      match C.P.underlying t with
      | some (.struct fs) => if fs.toList.any (fun f => (sizeA C.P f.type).isNone) then none else (prepParts C.P nt (fun i => (fs[i]?).bind fun f => (sizeA C.P f.type).map fun n => (f.offset, n)) parts.toList).map (.build z)
      | some (.array _ e) => (sizeA C.P e).bind fun n => (prepParts C.P nt (fun i => some (i * n, n)) parts.toList).map (.build z)
      | _ => none
  | .buildSlice t len parts =>
    match C.P.underlying t with
    | some (.slice e) => (sizeA C.P e).bind fun es => (zeroA C.P e).bind fun z =>
        if z.length = es ∧ len * es ≤ 2 ^ 24 ∧ len ≤ 2 ^ 24 then (prepSParts nt parts.toList).map (.bslice z len es) else none
    | _ => none
  | .load t x => (shapeA C.P t).bind fun n => (prepX nt x).map (.load n)
  | .store t p x => (sizeA C.P t).bind fun n => (prepX nt p).bind fun p => (prepX nt x).map (.store n p)
  | .binOp op t x y _ =>
    (prepX nt x).bind fun x => (prepX nt y).bind fun y =>
      match C.P.underlying t with
      | some (.int _) => some (.bin op x y)
      | some .bool => match op with
        | .eql => some (.beq false x y)
        | .neq => some (.beq true x y)
        | _ => none
      | some (.slice _) => match op with
        | .eql => some (.seq false x y)
        | .neq => some (.seq true x y)
        | _ => none
      | _ => (C.eqT t).bind fun n => match op with
        | .eql => some (.aeq false n x y)
        | .neq => some (.aeq true n x y)
        | _ => none
  | .unOp op _ x => (prepX nt x).map (.un op)
  | .convert src dst x =>
    match C.P.underlying src, C.P.underlying dst with
    | some _, some (.int k) => (prepX nt x).map (.conv k)
    | _, _ => none
  | .makeFunc fn first caps =>
    match fn with
    | .func f => (prepXs nt first.toList).bind fun us => (prepXs nt caps.toList).map (.mkfn f us)
    | _ => none
  | .makeSlice t l c =>
    match C.P.underlying t with
    | some (.slice e) => (sizeA C.P e).bind fun es => (bytesA C.P e).bind fun by' => (zeroA C.P e).bind fun z =>
        if sameX l c then (prepX nt l).map (.mkslice es by' z) else none
    | _ => none
  | .slice t x lo hi mx =>
    match C.P.underlying t with
    | some (.slice e) => (sizeA C.P e).bind fun es => (prepX nt x).bind fun x => (prepO nt lo).bind fun lo => (prepO nt hi).bind fun hi => (prepO nt mx).bind fun mx =>
        if mx.isSome && hi.isNone then none else some (.slice es x lo hi mx)
    | some (.array n e) => (sizeA C.P e).bind fun es => (prepX nt x).bind fun x => (prepO nt lo).bind fun lo => (prepO nt hi).bind fun hi =>
        if mx.isSome then none else some (.slarr n es x lo hi)
    | _ => none
  | .fieldAddr t x f =>
    match C.P.underlying t with
    | some (.struct fs) => (fs[f]?).bind fun fd => (sizeA C.P fd.type).bind fun n => if n = 0 then none else (prepX nt x).map (.faddr fd.offset)
    | _ => none
  | .field t x f =>
    match C.P.underlying t with
    | some (.struct fs) => (fs[f]?).bind fun fd => (shapeA C.P fd.type).bind fun n => (prepX nt x).map (.field fd.offset n)
    | _ => none
  | .indexAddr t x i =>
    match C.P.underlying t with
    | some (.slice e) => (sizeA C.P e).bind fun es => (prepX nt x).bind fun x => (prepX nt i).map (.iaddr es x)
    | some (.array n e) => (sizeA C.P e).bind fun es => (prepX nt x).bind fun x => (prepX nt i).map (.iaddrA n es x)
    | _ => none
  | .index t x i =>
    match C.P.underlying t with
    | some (.array n e) => (sizeA C.P e).bind fun es => (shapeA C.P e).bind fun sh => (prepX nt x).bind fun x => (prepX nt i).map (.index n es sh.isSome x)
    | _ => none
  | .extract x i => (prepX nt x).map fun x => .extr x i
  | .nilCheck x => (prepX nt x).map .nilchk
  | .makeMap t r => if r.isSome then none else (C.keyT t).map .mkmap
  | .lookup t x i ok => (C.keyT t).bind fun n =>
    match C.P.underlying t with
    | some (.map _ e) => (zero1A C.P e).bind fun z => (prepX nt x).bind fun x => (prepX nt i).map (.mlook n z ok x)
    | _ => none
  | .mapUpdate t x i y | .insert t x i y => (C.keyT t).bind fun n => (prepX nt x).bind fun x => (prepX nt i).bind fun i => (prepX nt y).map (.mset n x i)
  | .call c =>
    (prepXs nt c.args.toList).bind fun args =>
      match c.callee with
      | .value (.func f) => some (.call f args)
      | .value x => (prepX nt x).map fun x => .callv x args
      | .builtin .len => match args, (c.argTypes[0]?).bind C.P.underlying with
        | [x], some (.slice _) => some (.len x)
        | [_], some (.array n _) => some (.lenA n)
        | _, _ => none
      | .builtin .cap => match args, (c.argTypes[0]?).bind C.P.underlying with
        | [x], some (.slice _) => some (.cap x)
        | _, _ => none
      | .builtin .min => if args.isEmpty then none else some (.mn args)
      | .builtin .max => if args.isEmpty then none else some (.mx args)
      | .builtin .append => match args, (c.argTypes[0]?).bind C.P.underlying, (c.argTypes[1]?).bind C.P.underlying with
        | [x, y], some (.slice e), some u => (sizeA C.P e).bind fun es => (bytesA C.P e).bind fun by' => (zeroA C.P e).bind fun z =>
            if by' = 0 ∨ z.length ≠ es then none
            else match u with
              | .int _ => some (.appendz es by' z x y)
              | .slice _ => some (.append es by' x y)
              | _ => none
        | _, _, _ => none
      | .builtin .copy => match args, (c.argTypes[0]?).bind C.P.underlying with
        | [x, y], some (.slice e) => (sizeA C.P e).map fun es => .copy es x y
        | _, _ => none
      | .builtin .clear => match args, (c.argTypes[0]?).bind C.P.underlying with
        | [x], some (.slice e) => (sizeA C.P e).bind fun es => (zeroA C.P e).bind fun z => if z.length ≠ es then none else some (.clr es z x)
        | _, _ => none
      | _ => none
  | .panic _ | .makeInterface _ _ => some .bad
  | _ => none

/-- an operation with its place to write to and its guard -/
def prepOper (C : Cfg) (nt : Nat) (ops : Array Oper) (o : Oper) : Option AOper :=
  (prepOp C nt o.op).bind fun op =>
    match o.dst with
    | some d => if d < nt then (match o.guard with
      | none => some { dst := some d, op }
      | some (j, want) => ((ops[j]?).bind (·.dst)).bind fun s => if s < nt then some { dst := some d, op, guard := some (s, want) } else none) else none
    | none => match o.guard with
      | none => some { dst := none, op }
      | some (j, want) => ((ops[j]?).bind (·.dst)).bind fun s => if s < nt then some { dst := none, op, guard := some (s, want) } else none
def prepOpers (C : Cfg) (nt : Nat) (ops : Array Oper) : List Oper → Option (List AOper)
  | [] => some []
  | o :: os => (prepOper C nt ops o).bind fun x => (prepOpers C nt ops os).map (x :: ·)

/-! ### Regions that draw their order -/
def AX.reads : AX → List Nat
  | .t n => [n]
  | .c _ => []
def readsO : Option AX → List Nat
  | some x => x.reads
  | none => []
def AOp.reads : AOp → List Nat
  | .mv x | .box x | .load _ x | .un _ x | .conv _ x | .mkslice _ _ _ x | .faddr _ x | .field _ _ x | .len x | .cap x | .clr _ _ x | .extr x _ | .nilchk x => x.reads
  | .pick c x y | .mset _ c x y => c.reads ++ x.reads ++ y.reads
  | .alloc _ | .lenA _ | .mkmap _ | .bad => []
  | .build _ ps => ps.flatMap fun q => q.2.2.reads
  | .bslice _ _ _ ps => ps.flatMap fun q => q.2.reads
  | .store _ x y | .bin _ x y | .beq _ x y | .seq _ x y | .aeq _ _ x y | .iaddr _ x y | .iaddrA _ _ x y | .index _ _ _ x y | .append _ _ x y | .appendz _ _ _ x y | .copy _ x y | .mlook _ _ _ x y => x.reads ++ y.reads
  | .mkfn _ us xs => us.flatMap AX.reads ++ xs.flatMap AX.reads
  | .mn xs | .mx xs | .call _ xs => xs.flatMap AX.reads
  | .slice _ x l h m => x.reads ++ readsO l ++ readsO h ++ readsO m
  | .slarr _ _ x l h => x.reads ++ readsO l ++ readsO h
  | .callv x xs => x.reads ++ xs.flatMap AX.reads
def AOper.reads (o : AOper) : List Nat := o.op.reads ++ (match o.guard with | some (s, _) => [s] | none => [])

/-- How an operation stands to memory: not at all · it lays one new block · it reads cells · it calls what writes to nothing older · it writes. -/
inductive Cl where
  | pure | new | load | call | write
  deriving DecidableEq
def AOp.cl (kd : Nat → Kd) : AOp → Cl
  | .mv .. | .pick .. | .build .. | .bin .. | .beq .. | .seq .. | .aeq .. | .un .. | .conv .. | .mkfn .. | .slice .. | .faddr .. | .field .. | .iaddr .. | .iaddrA .. | .index .. | .len .. | .lenA .. | .cap .. | .mn .. | .mx .. | .extr .. | .nilchk .. => .pure
  | .alloc .. | .box .. | .bslice .. | .mkslice .. => .new
  | .load .. => .load
  | .call f _ => match kd f with
    | .wrt => .write
    | .del => .write
    | _ => .call
  | .store .. | .append .. | .appendz .. | .copy .. | .clr .. | .callv .. | .slarr .. | .mkmap .. | .mlook .. | .mset .. | .bad => .write

/-- the operations that stand ahead in whatever order -/
def edges (o : Oper) : List Nat := (o.after.toList.filter fun e => Region.binds .any e).map (·.on)
/-- an operation, as its order needs it: the place it writes to, those it reads (a mask), how it stands to memory, all that stand ahead of it (a mask) -/
structure OI where
  dst : Option Nat
  rd : Nat
  c : Cl
  up : Nat
def maskOf (l : List Nat) : Nat := l.foldl (fun m t => m ||| 2 ^ t) 0
def upOf (acc : List Nat) (es : List Nat) : Nat := es.foldl (fun m e => m ||| 2 ^ e ||| acc.getD e 0) 0
def ups : List Nat → List Oper → List Nat
  | acc, [] => acc
  | acc, o :: os => ups (acc ++ [upOf acc (edges o)]) os
def infos (kd : Nat → Kd) : List Nat → List AOper → List OI
  | u :: us, x :: xs => ⟨x.dst, maskOf x.reads, x.op.cl kd, u⟩ :: infos kd us xs
  | _, _ => []

def memOk (ck : List (Nat × Nat)) (i j : Nat) : Cl → Cl → Bool
  | .pure, _ | _, .pure => true
  | .write, .load => ck.contains (j, i)
  | .load, .write => ck.contains (i, j)
  | .write, .new => true
  | .write, _ | _, .write => false
  | _, _ => true
def offMask (m : Nat) : Option Nat → Bool
  | some d => !m.testBit d
  | none => true
def apart : Option Nat → Option Nat → Bool
  | some d, some d' => d != d'
  | _, _ => true
/-- i < j -/
def pairOk (ck : List (Nat × Nat)) (i j : Nat) (x y : OI) : Bool :=
  apart x.dst y.dst && (y.up.testBit i || (offMask y.rd x.dst && offMask x.rd y.dst && memOk ck i j x.c y.c))
def pairsOk (ck : List (Nat × Nat)) (j : Nat) (y : OI) : Nat → List OI → Bool
  | _, [] => true
  | i, x :: xs => pairOk ck i j x y && pairsOk ck j y (i + 1) xs
def allOk (ck : List (Nat × Nat)) : List OI → Nat → List OI → Bool
  | _, _, [] => true
  | past, j, y :: ys => pairsOk ck j y 0 past && allOk ck (past ++ [y]) (j + 1) ys
def ckRow (j : Nat) (y : OI) : Nat → List OI → List (Nat × Nat)
  | _, [] => []
  | i, x :: xs =>
    let r := ckRow j y (i + 1) xs
    if y.up.testBit i then r
    else match x.c, y.c with
      | .write, .load => (j, i) :: r
      | .load, .write => (i, j) :: r
      | _, _ => r
def ckAll : List OI → Nat → List OI → List (Nat × Nat)
  | _, _, [] => []
  | past, j, y :: ys => ckRow j y 0 past ++ ckAll (past ++ [y]) (j + 1) ys
def edgesOk : Nat → List Oper → Bool
  | _, [] => true
  | j, o :: os => (edges o).all (· < j) && edgesOk (j + 1) os
def drawOk (kd : Nat → Kd) (ops : List Oper) (l : List AOper) (ck : List (Nat × Nat)) : Bool :=
  edgesOk 0 ops && allOk ck [] 0 (infos kd (ups [] ops) l)
def ckOf (kd : Nat → Kd) (ops : List Oper) (l : List AOper) : List (Nat × Nat) := ckAll [] 0 (infos kd (ups [] ops) l)

def prepC (C : Cfg) (nt : Nat) : Code → Option ACode
  | .skip => some .skip
  | .label _ => some .skip
  | .ret => some .ret
  | .exit id => some (.exit id)
  | .region _ ops draw => (prepOpers C nt ops ops.toList).bind fun l =>
      if draw then (if drawOk C.kd ops.toList l (ckOf C.kd ops.toList l) then some (.reg (some (ckOf C.kd ops.toList l)) l) else none)
      else some (.reg none l)
  | .seq x y => (prepC C nt x).bind fun x => (prepC C nt y).map fun y => .seq x y
  | .cond c x y => (prepX nt c).bind fun c => (prepC C nt x).bind fun x => (prepC C nt y).map fun y => .cond c x y
  | .block id c => (prepC C nt c).map (.block id)
  | .loop c => (prepC C nt c).map .loop
  | .scope c => (prepC C nt c).map fun c => .seq c .skip
  | .rangeFunc f ps asg body =>
    if ps.toList.all (· < nt) then
      (prepX nt f).bind fun x => (prepC C nt asg).bind fun a => (prepC C nt body).map fun b => .rangeF nt x ps.toList a b
    else none
  | _ => none

def prepRes (C : Cfg) (nt : Nat) : List ResultVar → Option (List RVar)
  | [] => some []
  | .tmp t :: r => if t < nt then (prepRes C nt r).map (.t t :: ·) else none
  | .cell a t :: r => if a < nt then (shapeA C.P t).bind fun n => (prepRes C nt r).map (.c a n :: ·) else none

def prepF (C : Cfg) (fn : Func) : Option AFunc :=
  match fn.body with
  | none => none
  | some c =>
    if fn.params.size + fn.nfree ≤ fn.ntmps ∧ fn.name ≠ "runtime.NumGoroutine" then
      (prepRes C fn.ntmps fn.results.toList).bind fun rs => (prepC C fn.ntmps c).map fun body => { nargs := fn.params.size + fn.nfree, res := rs, body }
    else none

end Go.AM

namespace Go.AM
open Go Go.RowKit

/-- Where a block lies: its first cell, and how many cells it has room for (none: it is not the call's own). -/
structure PB where
  a : Addr
  room : Option Nat
abbrev Mp := Nat → Option PB
def Mp.le (ρ ρ' : Mp) : Prop := ∀ b r, ρ b = some r → ρ' b = some r
theorem Mp.le_refl (ρ : Mp) : Mp.le ρ ρ := fun _ _ h => h
theorem Mp.le_trans {ρ ρ' ρ'' : Mp} (h : Mp.le ρ ρ') (k : Mp.le ρ' ρ'') : Mp.le ρ ρ'' := fun b r e => k b r (h b r e)
def Mp.add (ρ : Mp) (b : Nat) (r : PB) : Mp := fun i => if i = b then some r else ρ i
theorem Mp.add_same (ρ : Mp) (b : Nat) (r : PB) : ρ.add b r b = some r := by simp [Mp.add]
theorem Mp.add_ne (ρ : Mp) {b i : Nat} (r : PB) (h : i ≠ b) : ρ.add b r i = ρ i := by simp [Mp.add, h]
theorem Mp.le_add (ρ : Mp) {b : Nat} (r : PB) (h : ρ b = none) : Mp.le ρ (ρ.add b r) := fun i q e => by
  by_cases hi : i = b
  · subst hi; rw [h] at e; cases e
  · rw [Mp.add_ne ρ r hi]; exact e

mutual
/-- The machine's value is the abstract one's, blocks placed by ρ. -/
def VRel (ρ : Mp) : AV → Value → Prop
  | .un, _ => True
  | .int k n, v => v = .int k n
  | .b x, v => v = .bool x
  | .nilp, v => v = .pointer none
  | .nilf, v => v = .nilFunc
  | .p b o, v => ∃ r, ρ b = some r ∧ v = .pointer (some (r.a.add o))
  | .nils, v => v = .slice none 0 0
  | .s es b o n c, v => ∃ r o' c', ρ b = some r ∧ v = .slice (some (r.a.add o')) n c' ∧ (n ≤ c' ∧ c' ≤ 9223372036854775807) ∧ (∀ k, c = some k → c' = k) ∧ (n ≠ 0 → o' = o) ∧ (∀ m, r.room = some m → o' + c' * es ≤ m)
  | .fn f us caps, v => ∃ ds cs, v = .func (.func f) ds cs ∧ VRelL ρ us ds.toList ∧ VRelL ρ caps cs.toList
  | .yl l, v => ∃ r, ρ l = some r ∧ v = .func (.yield r.a.block) #[] #[]
  | .m b, v => ∃ r, ρ b = some r ∧ v = .map (some r.a.block)
  | .ag vs, v => ∃ cs, v = .agg cs ∧ VRelL ρ vs cs.toList
  | .tp vs, v => ∃ cs, v = .tuple cs ∧ VRelL ρ vs cs.toList
def VRelL (ρ : Mp) : List AV → List Value → Prop
  | [], l => l = []
  | v :: vs, l => ∃ x xs, l = x :: xs ∧ VRel ρ v x ∧ VRelL ρ vs xs
end

mutual
theorem VRel.mono {ρ ρ' : Mp} (h : Mp.le ρ ρ') : ∀ (v : AV) (x : Value), VRel ρ v x → VRel ρ' v x
  | .un, _, _ => by simp [VRel]
  | .int _ _, _, hv => by simpa [VRel] using hv
  | .b _, _, hv => by simpa [VRel] using hv
  | .nilp, _, hv => by simpa [VRel] using hv
  | .nilf, _, hv => by simpa [VRel] using hv
  | .p b o, _, hv => by simp only [VRel] at hv ⊢; obtain ⟨r, e, q⟩ := hv; exact ⟨r, h _ _ e, q⟩
  | .nils, _, hv => by simpa [VRel] using hv
  | .s es b o n c, _, hv => by simp only [VRel] at hv ⊢; obtain ⟨r, o', c', e, q⟩ := hv; exact ⟨r, o', c', h _ _ e, q⟩
  | .fn f us caps, _, hv => by simp only [VRel] at hv ⊢; obtain ⟨ds, cs, e, p, q⟩ := hv; exact ⟨ds, cs, e, VRelL.mono h us _ p, VRelL.mono h caps _ q⟩
  | .yl l, _, hv => by simp only [VRel] at hv ⊢; obtain ⟨r, e, q⟩ := hv; exact ⟨r, h _ _ e, q⟩
  | .m l, _, hv => by simp only [VRel] at hv ⊢; obtain ⟨r, e, q⟩ := hv; exact ⟨r, h _ _ e, q⟩
  | .ag vs, _, hv => by simp only [VRel] at hv ⊢; obtain ⟨cs, e, q⟩ := hv; exact ⟨cs, e, VRelL.mono h vs _ q⟩
  | .tp vs, _, hv => by simp only [VRel] at hv ⊢; obtain ⟨cs, e, q⟩ := hv; exact ⟨cs, e, VRelL.mono h vs _ q⟩
theorem VRelL.mono {ρ ρ' : Mp} (h : Mp.le ρ ρ') : ∀ (vs : List AV) (xs : List Value), VRelL ρ vs xs → VRelL ρ' vs xs
  | [], _, hv => by simpa [VRelL] using hv
  | v :: vs, _, hv => by
    simp only [VRelL] at hv ⊢
    obtain ⟨x, xs, e, hx, hxs⟩ := hv
    exact ⟨x, xs, e, VRel.mono h v x hx, VRelL.mono h vs xs hxs⟩
end

mutual
theorem VRel.pure {ρ ρ' : Mp} : ∀ (v : AV) (x : Value), v.pure = true → VRel ρ v x → VRel ρ' v x
  | .un, _, _, _ => by simp [VRel]
  | .int _ _, _, _, hv => by simpa [VRel] using hv
  | .b _, _, _, hv => by simpa [VRel] using hv
  | .nilp, _, _, hv => by simpa [VRel] using hv
  | .nilf, _, _, hv => by simpa [VRel] using hv
  | .p b o, _, hp, _ => by simp [AV.pure] at hp
  | .nils, _, _, hv => by simpa [VRel] using hv
  | .s _ _ _ _ _, _, hp, _ => by simp [AV.pure] at hp
  | .fn f us caps, _, hp, hv => by simp only [VRel, AV.pure, Bool.and_eq_true] at hv hp ⊢; obtain ⟨ds, cs, e, p, q⟩ := hv; exact ⟨ds, cs, e, VRelL.pure us _ hp.1 p, VRelL.pure caps _ hp.2 q⟩
  | .yl l, _, hp, _ => by simp [AV.pure] at hp
  | .m l, _, hp, _ => by simp [AV.pure] at hp
  | .ag vs, _, hp, hv => by simp only [VRel, AV.pure] at hv hp ⊢; obtain ⟨cs, e, q⟩ := hv; exact ⟨cs, e, VRelL.pure vs _ hp q⟩
  | .tp vs, _, hp, hv => by simp only [VRel, AV.pure] at hv hp ⊢; obtain ⟨cs, e, q⟩ := hv; exact ⟨cs, e, VRelL.pure vs _ hp q⟩
theorem VRelL.pure {ρ ρ' : Mp} : ∀ (vs : List AV) (xs : List Value), AV.pureAll vs = true → VRelL ρ vs xs → VRelL ρ' vs xs
  | [], _, _, hv => by simpa [VRelL] using hv
  | v :: vs, _, hp, hv => by
    simp only [VRelL] at hv ⊢
    simp only [AV.pureAll, Bool.and_eq_true] at hp
    obtain ⟨x, xs, e, hx, hxs⟩ := hv
    exact ⟨x, xs, e, VRel.pure v x hp.1 hx, VRelL.pure vs xs hp.2 hxs⟩
end

theorem VRelL.length {ρ : Mp} : ∀ {vs : List AV} {xs : List Value}, VRelL ρ vs xs → xs.length = vs.length
  | [], _, h => by simp only [VRelL] at h; subst h; rfl
  | v :: vs, _, h => by
    simp only [VRelL] at h
    obtain ⟨x, xs, rfl, _, q⟩ := h
    simp [VRelL.length q]
theorem VRelL.get {ρ : Mp} : ∀ {vs : List AV} {xs : List Value} {i : Nat} {v : AV}, VRelL ρ vs xs → vs[i]? = some v → ∃ x, xs[i]? = some x ∧ VRel ρ v x
  | [], _, _, _, _, e => by simp at e
  | u :: us, _, i, v, h, e => by
    simp only [VRelL] at h
    obtain ⟨x, xs, rfl, hx, q⟩ := h
    cases i with
    | zero => simp at e; subst e; exact ⟨x, by simp, hx⟩
    | succ i => simp at e; obtain ⟨y, hy, hr⟩ := VRelL.get q e; exact ⟨y, by simpa using hy, hr⟩
theorem VRelL.of_get {ρ : Mp} : ∀ {vs : List AV} {xs : List Value}, xs.length = vs.length → (∀ (i : Nat) (v : AV), vs[i]? = some v → ∃ x, xs[i]? = some x ∧ VRel ρ v x) → VRelL ρ vs xs
  | [], [], _, _ => by simp [VRelL]
  | [], _ :: _, h, _ => by simp at h
  | _ :: _, [], h, _ => by simp at h
  | v :: vs, x :: xs, h, hg => by
    simp only [VRelL]
    refine ⟨x, xs, rfl, ?_, VRelL.of_get (by simpa using h) (fun i u hu => by simpa using hg (i + 1) u (by simpa using hu))⟩
    obtain ⟨y, hy, hr⟩ := hg 0 v (by simp)
    simp at hy; subst hy; exact hr
theorem VRelL.append {ρ : Mp} : ∀ {vs us : List AV} {xs ys : List Value}, VRelL ρ vs xs → VRelL ρ us ys → VRelL ρ (vs ++ us) (xs ++ ys)
  | [], _, _, _, h, k => by simp only [VRelL] at h; subst h; simpa using k
  | v :: vs, _, _, _, h, k => by
    simp only [VRelL] at h
    obtain ⟨x, xs, rfl, hx, q⟩ := h
    simp only [List.cons_append, VRelL]
    exact ⟨x, _, rfl, hx, VRelL.append q k⟩
theorem VRelL.take {ρ : Mp} {vs : List AV} {xs : List Value} (h : VRelL ρ vs xs) (n : Nat) : VRelL ρ (vs.take n) (xs.take n) :=
  VRelL.of_get (by simp [h.length]) fun i v hv => by
    rw [List.getElem?_take] at hv
    split at hv
    · rename_i hlt
      obtain ⟨x, hx, hr⟩ := h.get hv
      exact ⟨x, by rw [List.getElem?_take, if_pos hlt]; exact hx, hr⟩
    · cases hv
theorem VRelL.drop {ρ : Mp} {vs : List AV} {xs : List Value} (h : VRelL ρ vs xs) (n : Nat) : VRelL ρ (vs.drop n) (xs.drop n) :=
  VRelL.of_get (by simp [h.length]) fun i v hv => by
    rw [List.getElem?_drop] at hv
    obtain ⟨x, hx, hr⟩ := h.get hv
    exact ⟨x, by rw [List.getElem?_drop]; exact hx, hr⟩
theorem VRelL.set {ρ : Mp} {vs : List AV} {xs : List Value} (h : VRelL ρ vs xs) (i : Nat) {v : AV} {x : Value} (hv : VRel ρ v x) : VRelL ρ (vs.set i v) (xs.set i x) :=
  VRelL.of_get (by simp [h.length]) fun j u hu => by
    rw [List.getElem?_set] at hu
    have hl := h.length
    split at hu
    · subst i
      split at hu
      · cases hu; exact ⟨x, by rw [List.getElem?_set, if_pos rfl, if_pos (by omega)], hv⟩
      · cases hu
    · rename_i hne
      obtain ⟨y, hy, hr⟩ := h.get hu
      exact ⟨y, by rw [List.getElem?_set, if_neg hne]; exact hy, hr⟩

/-- the value of one cell -/
theorem VRel.one {ρ : Mp} {v : AV} {x : Value} (h : VRel ρ v x) (h1 : v.one = true) : x.oneCell' = true := by
  cases v <;> simp [AV.one] at h1 <;> simp only [VRel] at h
  all_goals first
    | (subst h; rfl)
    | (obtain ⟨_, _, rfl⟩ := h; rfl)
    | (obtain ⟨_, rfl, _⟩ := h; rfl)
    | (obtain ⟨_, _, rfl, _⟩ := h; rfl)
    | (obtain ⟨_, _, _, _, rfl, _⟩ := h; rfl)
theorem VRelL.one {ρ : Mp} {vs : List AV} {xs : List Value} (h : VRelL ρ vs xs) (h1 : vs.all AV.one = true) : ∀ x ∈ xs, x.oneCell' = true := by
  intro x hx
  obtain ⟨i, hi, rfl⟩ := List.mem_iff_getElem.1 hx
  have hl := h.length
  obtain ⟨y, hy, hr⟩ := h.get (i := i) (v := vs[i]'(by omega)) (by simp)
  rw [List.getElem?_eq_getElem hi] at hy
  cases hy
  exact hr.one (List.all_eq_true.1 h1 _ (List.getElem_mem _))
/-- the cells of a value -/
theorem VRel.cells {ρ : Mp} {v : AV} {x : Value} (h : VRel ρ v x) (h1 : v.cells.all AV.one = true) : VRelL ρ v.cells x.cells.toList := by
  cases v <;> simp only [AV.cells] at h1 ⊢ <;> simp only [VRel] at h
  case ag vs => obtain ⟨cs, rfl, q⟩ := h; simpa [Value.cells] using q
  case fn f us caps => obtain ⟨ds, cs, rfl, q⟩ := h; simp only [VRelL, Value.cells]; exact ⟨_, _, rfl, by simp only [VRel]; exact ⟨ds, cs, rfl, q⟩, rfl⟩
  case un => simp [AV.one] at h1
  case tp => simp [AV.one] at h1
  all_goals first
    | (subst h; simp [VRelL, Value.cells, VRel])
    | (obtain ⟨r, e, rfl⟩ := h; simp [VRelL, Value.cells, VRel]; exact ⟨r, e, rfl⟩)
    | (obtain ⟨r, e, rfl⟩ := h; simp [VRelL, Value.cells, VRel]; first | exact ⟨r, e⟩ | exact e)
    | (obtain ⟨r, o', c', e, rfl, q⟩ := h; simp only [VRelL, Value.cells]; exact ⟨_, _, rfl, by simp only [VRel]; exact ⟨r, o', c', e, rfl, q⟩, rfl⟩)

/-! ### Frames -/
structure FrRel (ρ : Mp) (nt : Nat) (a : Fr) (tmps : Array Value) : Prop where
  size : tmps.size = nt
  val : ∀ t, t < nt → VRel ρ (a t) (tmps.getD t undef)
theorem FrRel.mono {ρ ρ' : Mp} (h : Mp.le ρ ρ') {nt : Nat} {a : Fr} {tmps : Array Value} (f : FrRel ρ nt a tmps) : FrRel ρ' nt a tmps :=
  ⟨f.size, fun t ht => (f.val t ht).mono h _ _⟩
theorem FrRel.put {ρ : Mp} {nt : Nat} {a : Fr} {tmps : Array Value} (f : FrRel ρ nt a tmps) {d : Nat} (hd : d < nt) {v : AV} {x : Value} (hv : VRel ρ v x) : FrRel ρ nt (a.upd d v) (tmps.setIfInBounds d x) := by
  refine ⟨by simp [f.size], fun t ht => ?_⟩
  by_cases e : t = d
  · subst e
    simp only [Fr.upd, if_true]
    have : (tmps.setIfInBounds t x).getD t undef = x := by simp [Array.getD, f.size, ht]
    rw [this]; exact hv
  · simp only [Fr.upd, if_neg e]
    have : (tmps.setIfInBounds d x).getD t undef = tmps.getD t undef := by
      simp only [Array.getD_eq_getD_getElem?, Array.getElem?_setIfInBounds_ne (Ne.symm e)]
    rw [this]; exact f.val t ht

theorem toAVs_rel {f : Value → Option AV} {ρ : Mp} (hf : ∀ v x, f v = some x → VRel ρ x v) : ∀ {l : List Value} {r : List AV}, toAVs f l = some r → VRelL ρ r l
  | [], _, h => by simp [toAVs] at h; subst h; simp [VRelL]
  | v :: vs, _, h => by
    simp only [toAVs, Option.bind_eq_some_iff, Option.map_eq_some_iff] at h
    obtain ⟨x, hx, xs, hxs, rfl⟩ := h
    simp only [VRelL]
    exact ⟨v, vs, rfl, hf _ _ hx, toAVs_rel hf hxs⟩
theorem toAV1_rel {ρ : Mp} {v : Value} {x : AV} (h : toAV1 v = some x) : VRel ρ x v ∧ x.one = true := by
  unfold toAV1 at h
  split at h <;> cases h <;> simp [VRel, AV.one]
theorem toAV_rel {ρ : Mp} {v : Value} {x : AV} (h : toAV v = some x) : VRel ρ x v := by
  unfold toAV at h
  split at h
  · simp only [Option.map_eq_some_iff] at h
    obtain ⟨r, hr, rfl⟩ := h
    simp only [VRel]
    exact ⟨_, rfl, toAVs_rel (fun v x e => (toAV1_rel e).1) hr⟩
  · exact (toAV1_rel h).1
theorem toAVs_one : ∀ {l : List Value} {r : List AV}, toAVs toAV1 l = some r → r.all AV.one = true
  | [], _, h => by simp [toAVs] at h; subst h; rfl
  | v :: vs, _, h => by
    simp only [toAVs, Option.bind_eq_some_iff, Option.map_eq_some_iff] at h
    obtain ⟨x, hx, xs, hxs, rfl⟩ := h
    simp [(toAV1_rel (ρ := fun _ => none) hx).2, toAVs_one hxs]

theorem evalX {ρ : Mp} {nt : Nat} {a : Fr} {am : Act} {x : Operand} {ax : AX} (h : prepX nt x = some ax) (f : FrRel ρ nt a am.tmps) : VRel ρ (ev a ax) (am.eval x) := by
  cases x with
  | tmp t =>
    simp only [prepX] at h
    split at h
    · cases h; exact f.val _ (by assumption)
    · cases h
  | const v =>
    simp only [prepX, Option.map_eq_some_iff] at h
    obtain ⟨y, hy, rfl⟩ := h
    exact toAV_rel hy
  | global g => simp [prepX] at h
  | func g => simp only [prepX] at h; cases h; simp only [ev, Act.eval, VRel]; exact ⟨#[], #[], rfl, by simp [VRelL]⟩
theorem evalXs {ρ : Mp} {nt : Nat} {a : Fr} {am : Act} (f : FrRel ρ nt a am.tmps) : ∀ {xs : List Operand} {l : List AX}, prepXs nt xs = some l → VRelL ρ (l.map (ev a)) (xs.map am.eval)
  | [], _, h => by simp [prepXs] at h; subst h; simp [VRelL]
  | x :: xs, _, h => by
    simp only [prepXs, Option.bind_eq_some_iff, Option.map_eq_some_iff] at h
    obtain ⟨y, hy, ys, hys, rfl⟩ := h
    simp only [List.map_cons, VRelL]
    exact ⟨_, _, rfl, evalX hy f, evalXs f hys⟩

end Go.AM

namespace Go.AM
open Go Go.RowKit

theorem add_spot {a : Addr} (h : a.spot = none) (i : Nat) : a.add i = ⟨a.block, a.off + i, none⟩ := by
  obtain ⟨b, o, s⟩ := a
  simp only at h
  subst h
  unfold Addr.add
  split
  · rename_i e; subst e; simp
  · rfl
theorem addBlk (a : Addr) (n : Nat) : (a.add n).block = a.block := by unfold Addr.add; split <;> rfl
theorem cellB {w w' : World} {a : Addr} (h : w'.heap[a.block]? = w.heap[a.block]?) : w'.cell? a = w.cell? a := by simp only [World.cell?, h]

def StRel : LSt → LoopState → Prop
  | .ready, s => s = .ready
  | .busy, s => s = .busy
  | .done, s => s = .done
def JmpRel : Option Jmp → Option Code → Prop
  | none, c => c = none
  | some .ret, c => c = some .ret
  | some (.exit i), c => c = some (.exit i)

/-- the cells from an address on -/
def CellsRel (ρ : Mp) (w : World) (a : Addr) (vs : List AV) : Prop :=
  ∀ (i : Nat) (v : AV), vs[i]? = some v → ∃ x, w.cell? (a.add i) = some x ∧ VRel ρ v x ∧ x.oneCell' = true

/-- the entries of a map -/
def ERel (ρ : Mp) (es : List (List Int × AV)) (ks : List MapEntry) : Prop :=
  ks.map (·.key) = es.map (fun e => Value.agg (e.1.map (Value.int .i64)).toArray) ∧ VRelL ρ (es.map (·.2)) (ks.map (·.val))
theorem ERel.mono {ρ ρ' : Mp} (hle : Mp.le ρ ρ') {es : List (List Int × AV)} {ks : List MapEntry} (h : ERel ρ es ks) : ERel ρ' es ks := ⟨h.1, VRelL.mono hle _ _ h.2⟩

def BRel (C : Cfg) (ρ : Mp) (own : Prop) (B0 : Nat) (w : World) (r : PB) : Blk → Prop
  | .cells vs => CellsRel ρ w r.a vs ∧ (own → ∃ cs t m, w.heap[r.a.block]? = some (.cells cs t (0, 0)) ∧ r.room = some m ∧ vs.length ≤ m ∧ r.a.off + m ≤ cs.size) ∧
      (¬ own → vs ≠ [] → r.a.block < B0)
  | .dead => True
  | .loop st pend nt fr ps asg body => own → ∃ rec, w.heap[r.a.block]? = some (.loop rec) ∧ StRel st rec.state ∧ JmpRel pend rec.pending ∧ FrRel ρ nt fr rec.tmps ∧
      rec.params.toList = ps ∧ (∀ p ∈ ps, p < nt) ∧ prepC C nt rec.assign = some asg ∧ prepC C nt rec.body = some body
  | .map n es => own → ∃ ks c, w.heap[r.a.block]? = some (.map ks c) ∧ ERel ρ es ks.toList ∧ ∀ e ∈ es, e.1.length = n

def Blk.live : Blk → Prop
  | .dead => False
  | _ => True

structure HRel (C : Cfg) (I : World → Prop) (ρ : Mp) (L0 : Nat) (w0 : World) (H : Heap) (w : World) : Prop where
  below : Below w0.heap.size w0 w
  inv : I w0
  lt : L0 ≤ H.length
  dom : ∀ b r, ρ b = some r → b < H.length
  own : ∀ b r, ρ b = some r → L0 ≤ b → w0.heap.size ≤ r.a.block ∧ r.a.block < w.heap.size ∧ r.a.spot = none
  apart : ∀ b b' r r' k k', ρ b = some r → ρ b' = some r' → L0 ≤ b → L0 ≤ b' → H[b]? = some k → H[b']? = some k' → k.live → k'.live → r.a.block = r'.a.block → b = b'
  blk : ∀ b r k, ρ b = some r → H[b]? = some k → BRel C ρ (L0 ≤ b) w0.heap.size w r k

/-- What the moves from w to w' leave as it was. -/
structure Ext (ρ : Mp) (L0 n : Nat) (w : World) (ρ' : Mp) (w' : World) : Prop where
  le : Mp.le ρ ρ'
  fresh : ∀ b r, ρ' b = some r → ρ b = none → n ≤ b ∧ (w.heap.size ≤ r.a.block ∨ ∃ b0 r0, L0 ≤ b0 ∧ ρ b0 = some r0 ∧ r0.a.block = r.a.block)
  size : w.heap.size ≤ w'.heap.size
  keep : ∀ pb, pb < w.heap.size → (∀ b r, ρ b = some r → L0 ≤ b → r.a.block ≠ pb) → w'.heap[pb]? = w.heap[pb]?

section
variable {C : Cfg} {I : World → Prop} {ρ ρ' ρ'' : Mp} {L0 n n' : Nat} {w0 w w' w'' : World} {H : Heap}

theorem Ext.refl (ρ : Mp) (L0 n : Nat) (w : World) : Ext ρ L0 n w ρ w := ⟨Mp.le_refl ρ, fun b r e e' => (by rw [e] at e'; cases e'), Nat.le_refl _, fun _ _ _ => rfl⟩
theorem Ext.trans (h : Ext ρ L0 n w ρ' w') (k : Ext ρ' L0 n' w' ρ'' w'') (hn : n ≤ n') : Ext ρ L0 n w ρ'' w'' := by
  refine ⟨Mp.le_trans h.le k.le, fun b r e e0 => ?_, Nat.le_trans h.size k.size, fun pb hpb hno => ?_⟩
  · cases e1 : ρ' b with
    | some r1 =>
      have := k.le b r1 e1
      rw [e] at this; cases this
      exact h.fresh b r e1 e0
    | none =>
      obtain ⟨hb, hr⟩ := k.fresh b r e e1
      refine ⟨by omega, ?_⟩
      rcases hr with hr | ⟨b0, r0, hL0, e2, e3⟩
      · exact .inl (Nat.le_trans h.size hr)
      · cases e4 : ρ b0 with
        | some r4 =>
          have := h.le b0 r4 e4
          rw [e2] at this; cases this
          exact .inr ⟨b0, r0, hL0, e4, e3⟩
        | none =>
          obtain ⟨_, hr⟩ := h.fresh b0 r0 e2 e4
          rw [e3] at hr
          exact hr
  · rw [k.keep pb (Nat.lt_of_lt_of_le hpb h.size) ?_, h.keep pb hpb hno]
    intro b r e hL' hbl
    cases e1 : ρ b with
    | some r1 =>
      have := h.le b r1 e1
      rw [e] at this; cases this
      exact hno b r e1 hL' hbl
    | none =>
      obtain ⟨_, hr⟩ := h.fresh b r e e1
      rcases hr with hr | ⟨b0, r0, hL0, e2, e3⟩
      · omega
      · exact hno b0 r0 e2 hL0 (e3.trans hbl)

theorem CellsRel.mono {a : Addr} {vs : List AV} (h : CellsRel ρ w a vs) (hle : Mp.le ρ ρ') (hw : w'.heap[a.block]? = w.heap[a.block]?) : CellsRel ρ' w' a vs := fun i v e => by
  obtain ⟨x, hx, hr, h1⟩ := h i v e
  exact ⟨x, by rw [cellB (w := w) (by rw [addBlk]; exact hw)]; exact hx, hr.mono hle _ _, h1⟩
theorem BRel.mono {own : Prop} {B0 : Nat} {r : PB} {k : Blk} (h : BRel C ρ own B0 w r k) (hle : Mp.le ρ ρ') (hw : w'.heap[r.a.block]? = w.heap[r.a.block]?) : BRel C ρ' own B0 w' r k := by
  cases k with
  | cells vs =>
    refine ⟨h.1.mono hle hw, fun ho => ?_, h.2.2⟩
    obtain ⟨cs, t, m, h1, h2⟩ := h.2.1 ho
    exact ⟨cs, t, m, hw.trans h1, h2⟩
  | dead => trivial
  | loop st pend nt fr ps asg body =>
    intro ho
    obtain ⟨rec, h1, h2, h3, h4, h5⟩ := h ho
    exact ⟨rec, hw.trans h1, h2, h3, h4.mono hle, h5⟩
  | map n es =>
    intro ho
    obtain ⟨ks, c, h1, h2, h3⟩ := h ho
    exact ⟨ks, c, hw.trans h1, h2.mono hle, h3⟩
/-- a block with no cell needs nothing -/
theorem BRel.away (h : HRel C I ρ L0 w0 H w) {b b' : Nat} {r r' : PB} {k k' : Blk} (hb : ρ b = some r) (hL : L0 ≤ b) (hk : H[b]? = some k) (hl : k.live) (hb' : ρ b' = some r') (hk' : H[b']? = some k')
    (hne : b' ≠ b) (hle : Mp.le ρ ρ') (hw : ∀ pb, pb ≠ r.a.block → pb < w.heap.size → w'.heap[pb]? = w.heap[pb]?) : BRel C ρ' (L0 ≤ b') w0.heap.size w' r' k' := by
  have hB := h.blk b' r' k' hb' hk'
  have keep : r'.a.block ≠ r.a.block → r'.a.block < w.heap.size → BRel C ρ' (L0 ≤ b') w0.heap.size w' r' k' := fun e e' => hB.mono hle (hw _ e e')
  by_cases hL' : L0 ≤ b'
  · by_cases hl' : k'.live
    · exact keep (fun e => hne (h.apart b' b r' r k' k hb' hb hL' hL hk' hk hl' hl e)) (h.own b' r' hb' hL').2.1
    · cases k' with
      | dead => trivial
      | cells vs => exact absurd trivial hl'
      | loop => exact absurd trivial hl'
      | map => exact absurd trivial hl'
  · cases k' with
    | dead => trivial
    | loop => exact fun ho => absurd ho hL'
    | map => exact fun ho => absurd ho hL'
    | cells vs =>
      cases vs with
      | nil => exact ⟨fun i v e => by simp at e, fun ho => absurd ho hL', fun _ e => absurd rfl e⟩
      | cons v vs =>
        have h1 := hB.2.2 hL' (by simp)
        exact keep (by have := (h.own b r hb hL).1; omega) (Nat.lt_of_lt_of_le h1 h.below.size)

theorem HRel.none_of_ge (h : HRel C I ρ L0 w0 H w) {b : Nat} (hb : H.length ≤ b) : ρ b = none := by
  cases e : ρ b with
  | none => rfl
  | some r => have := h.dom b r e; omega

/-- the machine lays a block; the abstract heap too -/
theorem HRel.push (h : HRel C I ρ L0 w0 H w) (o : Obj) (k : Blk) (room : Option Nat) (off : Nat)
    (hk : BRel C (ρ.add H.length ⟨⟨w.heap.size, off, none⟩, room⟩) True w0.heap.size (w.alloc o) ⟨⟨w.heap.size, off, none⟩, room⟩ k) :
    HRel C I (ρ.add H.length ⟨⟨w.heap.size, off, none⟩, room⟩) L0 w0 (H ++ [k]) (w.alloc o) ∧ Ext ρ L0 H.length w (ρ.add H.length ⟨⟨w.heap.size, off, none⟩, room⟩) (w.alloc o) := by
  have hnew : ρ H.length = none := h.none_of_ge (Nat.le_refl _)
  have hle := Mp.le_add ρ ⟨⟨w.heap.size, off, none⟩, room⟩ hnew
  have get : ∀ b r, (ρ.add H.length ⟨⟨w.heap.size, off, none⟩, room⟩) b = some r → (b = H.length ∧ r = ⟨⟨w.heap.size, off, none⟩, room⟩) ∨ (ρ b = some r ∧ b < H.length) := fun b r e => by
    by_cases hb : b = H.length
    · subst hb; rw [Mp.add_same] at e; cases e; exact .inl ⟨rfl, rfl⟩
    · rw [Mp.add_ne ρ _ hb] at e; exact .inr ⟨e, h.dom b r e⟩
  have old : ∀ pb, pb < w.heap.size → (w.alloc o).heap[pb]? = w.heap[pb]? := fun pb hp => Below.heap_alloc w o pb hp
  have hget : ∀ b k', (H ++ [k])[b]? = some k' → b < H.length → H[b]? = some k' := fun b k' e hb => by rwa [List.getElem?_append_left hb] at e
  refine ⟨⟨h.below.alloc h.below.size o, h.inv, ?_, ?_, ?_, ?_, ?_⟩, hle, ?_, by simp, fun pb hp _ => old pb hp⟩
  · have := h.lt; simp; omega
  · intro b r e
    rcases get b r e with ⟨rfl, _⟩ | ⟨_, hb⟩ <;> simp <;> omega
  · intro b r e hL
    rcases get b r e with ⟨rfl, rfl⟩ | ⟨e', _⟩
    · exact ⟨h.below.size, by simp, rfl⟩
    · have := h.own b r e' hL
      exact ⟨this.1, by simp; omega, this.2.2⟩
  · intro b b' r r' k1 k2 e e' hL hL' hk1 hk2 hl1 hl2 hbl
    rcases get b r e with ⟨rfl, rfl⟩ | ⟨e1, hb⟩ <;> rcases get b' r' e' with ⟨rfl, rfl⟩ | ⟨e2, hb'⟩
    · rfl
    · have := (h.own b' r' e2 hL').2.1; simp at hbl; omega
    · have := (h.own b r e1 hL).2.1; simp at hbl; omega
    · exact h.apart b b' r r' k1 k2 e1 e2 hL hL' (hget _ _ hk1 hb) (hget _ _ hk2 hb') hl1 hl2 hbl
  · intro b r k1 e hk1
    rcases get b r e with ⟨rfl, rfl⟩ | ⟨e1, hb⟩
    · rw [List.getElem?_append_right (Nat.le_refl _)] at hk1
      simp at hk1
      subst hk1
      have : (L0 ≤ H.length) = True := by simp [h.lt]
      rw [this]; exact hk
    · have hB := h.blk b r k1 e1 (hget _ _ hk1 hb)
      by_cases hL : L0 ≤ b
      · exact hB.mono hle (old _ (h.own b r e1 hL).2.1)
      · cases k1 with
        | dead => trivial
        | loop => exact fun ho => absurd ho hL
        | map => exact fun ho => absurd ho hL
        | cells vs =>
          cases vs with
          | nil => exact ⟨fun i v e => by simp at e, fun ho => absurd ho hL, fun _ e => absurd rfl e⟩
          | cons v vs => exact hB.mono hle (old _ (Nat.lt_of_lt_of_le (hB.2.2 hL (by simp)) h.below.size))
  · intro b r e e0
    rcases get b r e with ⟨rfl, rfl⟩ | ⟨e1, _⟩
    · exact ⟨Nat.le_refl _, .inl (Nat.le_refl _)⟩
    · rw [e0] at e1; cases e1

/-- a world whose memory is the same -/
theorem HRel.congr (h : HRel C I ρ L0 w0 H w) (hh : w'.heap = w.heap) (ho : w'.os = w.os) (ht : w'.tape = w.tape) (hp : w'.output = w.output) : HRel C I ρ L0 w0 H w' := by
  refine ⟨⟨ho.trans h.below.os, ht.trans h.below.tape, hp.trans h.below.output, by rw [hh]; exact h.below.size, fun k hk => by rw [hh]; exact h.below.block k hk⟩, h.inv, h.lt, h.dom, fun b r e hL => by rw [hh]; exact h.own b r e hL, h.apart,
    fun b r k e hk => (h.blk b r k e hk).mono (Mp.le_refl ρ) (by rw [hh])⟩
theorem HRel.drew (h : HRel C I ρ L0 w0 H w) : HRel C I ρ L0 w0 H w.drew := h.congr rfl rfl rfl rfl
theorem Ext.congr (ρ : Mp) (L0 n : Nat) (w : World) (hh : w'.heap = w.heap) : Ext ρ L0 n w ρ w' := ⟨Mp.le_refl ρ, fun b r e e' => (by rw [e] at e'; cases e'), by rw [hh]; exact Nat.le_refl _, fun _ _ _ => by rw [hh]⟩
/-- the machine lays a block of which the abstract heap does not know -/
theorem HRel.alloc (h : HRel C I ρ L0 w0 H w) (o : Obj) : HRel C I ρ L0 w0 H (w.alloc o) ∧ Ext ρ L0 n w ρ (w.alloc o) := by
  have old : ∀ pb, pb < w.heap.size → (w.alloc o).heap[pb]? = w.heap[pb]? := fun pb hp => Below.heap_alloc w o pb hp
  refine ⟨⟨h.below.alloc h.below.size o, h.inv, h.lt, h.dom, fun b r e hL => ?_, h.apart, fun b r k e hk => ?_⟩, Mp.le_refl ρ, fun b r e e' => (by rw [e] at e'; cases e'), by simp, fun pb hp _ => old pb hp⟩
  · have := h.own b r e hL
    exact ⟨this.1, by simp; omega, this.2.2⟩
  · have hB := h.blk b r k e hk
    by_cases hL : L0 ≤ b
    · exact hB.mono (Mp.le_refl ρ) (old _ (h.own b r e hL).2.1)
    · cases k with
      | dead => trivial
      | loop => exact fun ho => absurd ho hL
      | map => exact fun ho => absurd ho hL
      | cells vs =>
        cases vs with
        | nil => exact ⟨fun i v e => by simp at e, fun ho => absurd ho hL, fun _ e => absurd rfl e⟩
        | cons v vs => exact hB.mono (Mp.le_refl ρ) (old _ (Nat.lt_of_lt_of_le (hB.2.2 hL (by simp)) h.below.size))

theorem Ext.turn {b : Nat} {r : PB} (hb : ρ b = some r) (hL : L0 ≤ b) (hsz : w'.heap.size = w.heap.size) (hw : ∀ pb, pb ≠ r.a.block → pb < w.heap.size → w'.heap[pb]? = w.heap[pb]?) : Ext ρ L0 n w ρ w' :=
  ⟨Mp.le_refl ρ, fun b r e e' => (by rw [e] at e'; cases e'), by omega, fun pb hp hno => hw pb (fun e => hno b r hb hL e.symm) hp⟩
/-- one block of the call's own is turned, in the machine's memory and in the abstract heap -/
theorem HRel.turn (h : HRel C I ρ L0 w0 H w) {b : Nat} {r : PB} {k : Blk} (hb : ρ b = some r) (hL : L0 ≤ b) (hk : H[b]? = some k) (hl : k.live) (k' : Blk)
    (hwB : Below w0.heap.size w0 w') (hsz : w'.heap.size = w.heap.size) (hw : ∀ pb, pb ≠ r.a.block → pb < w.heap.size → w'.heap[pb]? = w.heap[pb]?) (hk' : BRel C ρ True w0.heap.size w' r k') :
    HRel C I ρ L0 w0 (H.set b k') w' := by
  have hbl : b < H.length := h.dom b r hb
  refine ⟨hwB, h.inv, by simpa using h.lt, fun b' r' e => by simpa using h.dom b' r' e, fun b' r' e hL' => by rw [hsz]; exact h.own b' r' e hL', ?_, ?_⟩
  · intro b1 b2 r1 r2 k1 k2 e1 e2 hL1 hL2 hk1 hk2 hl1 hl2 hbk
    have up : ∀ (i : Nat) (ki : Blk), (H.set b k')[i]? = some ki → ki.live → ∃ kj : Blk, H[i]? = some kj ∧ kj.live := fun i ki hki hli => by
      rw [List.getElem?_set] at hki
      split at hki
      · subst i; exact ⟨k, hk, hl⟩
      · exact ⟨ki, hki, hli⟩
    obtain ⟨j1, hj1, hlj1⟩ := up b1 k1 hk1 hl1
    obtain ⟨j2, hj2, hlj2⟩ := up b2 k2 hk2 hl2
    exact h.apart b1 b2 r1 r2 j1 j2 e1 e2 hL1 hL2 hj1 hj2 hlj1 hlj2 hbk
  · intro b1 r1 k1 e1 hk1
    rw [List.getElem?_set] at hk1
    split at hk1
    · subst b1
      cases hk1
      rw [hb] at e1; cases e1
      have : (L0 ≤ b) = True := by simp [hL]
      rw [this]; exact hk'
    · rename_i hne
      exact BRel.away h hb hL hk hl e1 hk1 (Ne.symm hne) (Mp.le_refl ρ) hw

/-- a block of which the abstract heap forgets -/
theorem HRel.kill (h : HRel C I ρ L0 w0 H w) (b : Nat) : HRel C I ρ L0 w0 (H.set b .dead) w := by
  refine ⟨h.below, h.inv, by simpa using h.lt, fun b' r' e => by simpa using h.dom b' r' e, h.own, ?_, ?_⟩
  · intro b1 b2 r1 r2 k1 k2 e1 e2 hL1 hL2 hk1 hk2 hl1 hl2 hbk
    have up : ∀ (i : Nat) (ki : Blk), (H.set b Blk.dead)[i]? = some ki → ki.live → H[i]? = some ki := fun i ki hki hli => by
      rw [List.getElem?_set] at hki
      split at hki
      · split at hki
        · cases hki; exact hli.elim
        · cases hki
      · exact hki
    exact h.apart b1 b2 r1 r2 k1 k2 e1 e2 hL1 hL2 (up _ _ hk1 hl1) (up _ _ hk2 hl2) hl1 hl2 hbk
  · intro b1 r1 k1 e1 hk1
    rw [List.getElem?_set] at hk1
    split at hk1
    · split at hk1
      · cases hk1; trivial
      · cases hk1
    · exact h.blk b1 r1 k1 e1 hk1
end

/-! ### Cells of an own block are written -/
def setMany : Array Value → Nat → List Value → Array Value
  | cs, _, [] => cs
  | cs, o, x :: xs => setMany (cs.setIfInBounds o x) (o + 1) xs
theorem setMany_size : ∀ (xs : List Value) (cs : Array Value) (o : Nat), (setMany cs o xs).size = cs.size
  | [], _, _ => rfl
  | x :: xs, cs, o => by rw [setMany, setMany_size xs]; simp
theorem setCells_heap {b : Nat} {t : TypeId} {f : Nat × Nat} : ∀ (xs : List Value) (o : Nat) (w : World) (cs : Array Value), w.heap[b]? = some (.cells cs t f) → (w.setCells b o xs).heap[b]? = some (.cells (setMany cs o xs) t f)
  | [], _, _, _, h => h
  | x :: xs, o, w, cs, h => by
    simp only [World.setCells, setMany]
    refine setCells_heap xs (o + 1) _ _ ?_
    have hlt := (Array.getElem?_eq_some_iff.1 h).1
    have hv := (Array.getElem?_eq_some_iff.1 h).2
    show (w.heap.modify b _)[b]? = _
    rw [Array.getElem?_eq_getElem (by rw [Array.size_modify]; exact hlt), Array.getElem_modify_self, hv]
    simp
theorem setCells_other {b : Nat} : ∀ (xs : List Value) (o : Nat) (w : World) (pb : Nat), pb ≠ b → (w.setCells b o xs).heap[pb]? = w.heap[pb]?
  | [], _, _, _, _ => rfl
  | x :: xs, o, w, pb, h => by
    simp only [World.setCells]
    rw [setCells_other xs (o + 1) _ pb h, Below.heap_setCell _ _ _ _ h]
theorem setCells_below {B b : Nat} {a : World} (hb : B ≤ b) : ∀ (xs : List Value) (o : Nat) (w : World), Below B a w → Below B a (w.setCells b o xs)
  | [], _, _, h => h
  | x :: xs, o, w, h => by
    simp only [World.setCells]
    exact setCells_below hb xs (o + 1) _ (h.setCell (p := ⟨b, o, none⟩) hb x)
theorem setCells_size {b : Nat} : ∀ (xs : List Value) (o : Nat) (w : World), (w.setCells b o xs).heap.size = w.heap.size
  | [], _, _ => rfl
  | x :: xs, o, w => by
    simp only [World.setCells]
    rw [setCells_size xs (o + 1)]; simp

/-- cells of an array from 'off' on -/
def ArrRel (ρ : Mp) (cs : Array Value) (off : Nat) (vs : List AV) : Prop := ∀ (i : Nat) (v : AV), vs[i]? = some v → ∃ x, cs[off + i]? = some x ∧ VRel ρ v x ∧ x.oneCell' = true
theorem ArrRel.set {ρ : Mp} {cs : Array Value} {off : Nat} {vs : List AV} (h : ArrRel ρ cs off vs) {o : Nat} (ho : o < vs.length) {v : AV} {x : Value} (hv : VRel ρ v x) (h1 : x.oneCell' = true) : ArrRel ρ (cs.setIfInBounds (off + o) x) off (vs.set o v) := by
  intro i u hu
  rw [List.getElem?_set] at hu
  split at hu
  · subst i
    cases hu
    obtain ⟨y, hy, _⟩ := h o vs[o] (by simp [ho])
    have := (Array.getElem?_eq_some_iff.1 hy).1
    exact ⟨x, by simp [this], hv, h1⟩
  · rename_i hne
    obtain ⟨y, hy, hr⟩ := h i u hu
    exact ⟨y, by rw [Array.getElem?_setIfInBounds_ne (by omega)]; exact hy, hr⟩
theorem wr_length : ∀ (us : List AV) (vs : List AV) (o : Nat), (wr vs o us).length = vs.length
  | [], _, _ => rfl
  | u :: us, vs, o => by rw [wr, wr_length us]; simp
theorem ArrRel.wr {ρ : Mp} {off : Nat} : ∀ {us : List AV} {xs : List Value} {cs : Array Value} {vs : List AV} {o : Nat}, ArrRel ρ cs off vs → VRelL ρ us xs → (∀ x ∈ xs, x.oneCell' = true) → o + us.length ≤ vs.length → ArrRel ρ (setMany cs (off + o) xs) off (wr vs o us)
  | [], _, _, _, _, h, hu, _, _ => by simp only [VRelL] at hu; subst hu; exact h
  | u :: us, _, _, _, o, h, hu, h1, hl => by
    simp only [VRelL] at hu
    obtain ⟨x, xs, rfl, hx, hxs⟩ := hu
    simp only [setMany, AM.wr]
    simp at hl
    exact ArrRel.wr (h.set (by omega) hx (h1 x (by simp))) hxs (fun y hy => h1 y (by simp [hy])) (by simp; omega)
theorem cellsRel_arr {ρ : Mp} {w : World} {a : Addr} {cs : Array Value} {t : TypeId} {f : Nat × Nat} {vs : List AV} (hs : a.spot = none) (h : w.heap[a.block]? = some (.cells cs t f)) : CellsRel ρ w a vs ↔ ArrRel ρ cs a.off vs := by
  have e : ∀ i, w.cell? (a.add i) = cs[a.off + i]? := fun i => by rw [add_spot hs, cell_of_row w _ _ cs t f h]
  unfold CellsRel ArrRel
  simp only [e]

section
variable {C : Cfg} {I : World → Prop} {ρ : Mp} {L0 n : Nat} {w0 w : World} {H : Heap}
/-- a store into an own block -/
theorem HRel.store (h : HRel C I ρ L0 w0 H w) {b : Nat} {r : PB} {vs us : List AV} {xs : List Value} {o : Nat} (hb : ρ b = some r) (hL : L0 ≤ b) (hk : H[b]? = some (.cells vs)) (hl : o + us.length ≤ vs.length)
    (hu : VRelL ρ us xs) (h1 : ∀ x ∈ xs, x.oneCell' = true) :
    HRel C I ρ L0 w0 (H.set b (.cells (wr vs o us))) (w.setCells r.a.block (r.a.off + o) xs) ∧ Ext ρ L0 n w ρ (w.setCells r.a.block (r.a.off + o) xs) ∧
    (storeCells (r.a.add o) xs).run C.P w = .ok () (w.setCells r.a.block (r.a.off + o) xs) := by
  obtain ⟨hB1, hB2, _⟩ := h.blk b r _ hb hk
  obtain ⟨cs, t, m, hc, hm, hv, hcs⟩ := hB2 hL
  obtain ⟨ho1, ho2, hs⟩ := h.own b r hb hL
  have hA := (cellsRel_arr hs hc).1 hB1
  have hc' := setCells_heap xs (r.a.off + o) w cs hc
  have hA' := (cellsRel_arr (w := w.setCells r.a.block (r.a.off + o) xs) hs hc').2 (ArrRel.wr hA hu h1 hl)
  refine ⟨HRel.turn h hb hL hk trivial (.cells (wr vs o us)) (setCells_below ho1 xs _ w h.below) (setCells_size xs _ w) (fun pb e _ => setCells_other xs _ w pb e) ⟨hA', fun _ => ⟨_, t, m, hc', hm, by rw [wr_length]; exact hv, by rw [setMany_size]; exact hcs⟩, fun e => absurd trivial e⟩,
    Ext.turn hb hL (setCells_size xs _ w) (fun pb e _ => setCells_other xs _ w pb e), ?_⟩
  · have hx := hu.length
    rw [add_spot hs]
    have := run_storeCells_cells (P := C.P) r.a.block (r.a.off + o) xs 0 w (fun j hj => ?_) (fun j hj => ?_) h1
    · simpa using this
    · rw [cell_of_row w _ _ cs t (0, 0) hc]
      simp; omega
    · simp [World.frozen?, hc]
end
end Go.AM

namespace Go.AM
open Go Go.RowKit

/-- the operation goes through: its value, the heap behind it -/
def Gives (C : Cfg) (I : World → Prop) (ρ : Mp) (L0 : Nat) (w0 : World) (H : Heap) (w : World) (s : Sem Next) (v : AV) (H' : Heap) : Prop :=
  ∃ ρ' nx x w', s.run C.P w = .ok nx w' ∧ (nx = .value x ∨ (nx = .skip ∧ x = undef)) ∧ VRel ρ' v x ∧ HRel C I ρ' L0 w0 H' w' ∧ Ext ρ L0 H.length w ρ' w'

section
variable {C : Cfg} {I : World → Prop} {ρ : Mp} {L0 : Nat} {w0 w : World} {H : Heap}

theorem Gives.pure (h : HRel C I ρ L0 w0 H w) {s : Sem Next} {v : AV} {x : Value} (hs : s.run C.P w = .ok (.value x) w) (hv : VRel ρ v x) : Gives C I ρ L0 w0 H w s v H :=
  ⟨ρ, _, x, w, hs, .inl rfl, hv, h, Ext.refl ..⟩

theorem Gives.val {s : Sem Next} {v : AV} {H' : Heap} (ρ' : Mp) (x : Value) (w' : World) (hs : s.run C.P w = .ok (.value x) w') (hv : VRel ρ' v x) (hH : HRel C I ρ' L0 w0 H' w') (hE : Ext ρ L0 H.length w ρ' w') : Gives C I ρ L0 w0 H w s v H' :=
  ⟨ρ', _, x, w', hs, .inl rfl, hv, hH, hE⟩
theorem run_typeInfo' {t : TypeId} {i : TypeInfo} (h : C.P.info? t = some i) (w : World) : (typeInfo t).run C.P w = .ok i w := by simp [typeInfo, h]
theorem run_sizeOf' {t : TypeId} {n : Nat} (h : sizeA C.P t = some n) (w : World) : (sizeOf t).run C.P w = .ok n w := by
  simp only [sizeA, Option.map_eq_some_iff] at h
  obtain ⟨i, hi, rfl⟩ := h
  simp [sizeOf, run_typeInfo' hi]
theorem zeroA_spec {t : TypeId} {z : List AV} (h : zeroA C.P t = some z) : ∃ i zv, C.P.info? t = some i ∧ i.zero = some zv ∧ toAVs toAV1 zv.cells.toList = some z := by
  unfold zeroA at h
  split at h
  · rename_i i hi
    split at h
    · rename_i zv hz; exact ⟨i, zv, hi, hz, h⟩
    · cases h
  · cases h
theorem run_zeroValue' {t : TypeId} {i : TypeInfo} {z : Value} (h : C.P.info? t = some i) (hz : i.zero = some z) (w : World) : (zeroValue t).run C.P w = .ok z w := by
  simp [zeroValue, run_typeInfo' h, hz]
theorem shapeA_none {t : TypeId} (h : shapeA C.P t = some none) (w : World) : (isAgg t).run C.P w = .ok false w := by
  unfold shapeA at h
  split at h
  · simp at h
  · simp at h
  · rename_i d h1 h2 hd
    simp only [isAgg, Sem.run_bind, run_underlying hd, Result.andThen_ok]
    cases d <;> first | rfl | exact absurd hd (h1 _) | exact absurd hd (h2 _ _)
  · cases h
theorem shapeA_some {t : TypeId} {n : Nat} (h : shapeA C.P t = some (some n)) (w : World) : (isAgg t).run C.P w = .ok true w ∧ sizeA C.P t = some n := by
  unfold shapeA at h
  split at h
  · rename_i hd
    simp at h
    exact ⟨by simp [isAgg, run_underlying hd], h⟩
  · rename_i hd
    simp at h
    exact ⟨by simp [isAgg, run_underlying hd], h⟩
  · simp at h
  · cases h

/-- a new block of cells -/
theorem newCells (h : HRel C I ρ L0 w0 H w) {vs : List AV} {cs : Array Value} (t : TypeId) (hl : vs.length ≤ cs.size) (hv : ∀ (i : Nat) (v : AV), vs[i]? = some v → ∃ x, cs[i]? = some x ∧ VRel ρ v x ∧ x.oneCell' = true) :
    ∃ ρ', ρ' H.length = some ⟨⟨w.heap.size, 0, none⟩, some cs.size⟩ ∧ HRel C I ρ' L0 w0 (H ++ [.cells vs]) (w.alloc (.cells cs t)) ∧ Ext ρ L0 H.length w ρ' (w.alloc (.cells cs t)) := by
  have hle := Mp.le_add ρ ⟨⟨w.heap.size, 0, none⟩, some cs.size⟩ (h.none_of_ge (Nat.le_refl _))
  have hn : (w.alloc (.cells cs t)).heap[w.heap.size]? = some (.cells cs t (0, 0)) := World.alloc_heap_new w _
  refine ⟨_, Mp.add_same .., HRel.push h (.cells cs t) (.cells vs) (some cs.size) 0 ⟨(cellsRel_arr rfl hn).2 fun i v hv' => ?_, fun _ => ⟨cs, t, cs.size, hn, rfl, hl, by simp⟩, fun e => absurd trivial e⟩⟩
  obtain ⟨x, hx, hr, h1⟩ := hv i v hv'
  exact ⟨x, by simpa using hx, hr.mono hle _ _, h1⟩
theorem newCellsL (h : HRel C I ρ L0 w0 H w) {vs : List AV} {cs : Array Value} (t : TypeId) (hv : VRelL ρ vs cs.toList) (h1 : vs.all AV.one = true) :
    ∃ ρ', ρ' H.length = some ⟨⟨w.heap.size, 0, none⟩, some cs.size⟩ ∧ HRel C I ρ' L0 w0 (H ++ [.cells vs]) (w.alloc (.cells cs t)) ∧ Ext ρ L0 H.length w ρ' (w.alloc (.cells cs t)) :=
  newCells h t (by have := hv.length; simp at this; omega) fun i v hv' => by
    obtain ⟨x, hx, hr⟩ := hv.get hv'
    exact ⟨x, by simpa using hx, hr, hr.one (List.all_eq_true.1 h1 _ (List.mem_of_getElem? hv'))⟩

theorem gives_alloc (h : HRel C I ρ L0 w0 H w) {t : TypeId} {z : List AV} (hz : zeroA C.P t = some z) : Gives C I ρ L0 w0 H w (do pure (.value (← Instr.alloc t true (.tuple #[])))) (.p H.length 0) (H ++ [.cells z]) := by
  obtain ⟨i, zv, hi, hzv, hr⟩ := zeroA_spec hz
  obtain ⟨ρ', e, hH, hE⟩ := newCellsL h (cs := zv.cells) t (toAVs_rel (fun v x e => (toAV1_rel e).1) hr) (toAVs_one hr)
  refine Gives.val ρ' (.pointer (some ⟨w.heap.size, 0, none⟩)) _ ?_ ?_ hH hE
  · simp [Instr.alloc, run_zeroValue' hi hzv, newVar, newRow]
  · simp only [VRel]; exact ⟨_, e, rfl⟩

theorem gives_box (h : HRel C I ρ L0 w0 H w) {t : TypeId} {v : AV} {x : Value} (hv : VRel ρ v x) (h1 : v.cells.all AV.one = true) : Gives C I ρ L0 w0 H w (do pure (.value (← Instr.box t x))) (.p H.length 0) (H ++ [.cells v.cells]) := by
  obtain ⟨ρ', e, hH, hE⟩ := newCellsL h (cs := x.cells) t (hv.cells h1) h1
  refine Gives.val ρ' (.pointer (some ⟨w.heap.size, 0, none⟩)) _ ?_ ?_ hH hE
  · simp [Instr.box, newVar, newRow]
  · simp only [VRel]; exact ⟨_, e, rfl⟩

/-! ### Reading -/
theorem ld_spec {b o : Nat} {v : AV} (h : ld H b o = some v) : ∃ vs, H[b]? = some (.cells vs) ∧ vs[o]? = some v := by
  unfold ld at h
  split at h
  · rename_i vs e; exact ⟨vs, e, h⟩
  · cases h
theorem ldn_spec {b o n : Nat} {us : List AV} (h : ldn H b o n = some us) : ∃ vs, H[b]? = some (.cells vs) ∧ o + n ≤ vs.length ∧ us = (vs.drop o).take n := by
  unfold ldn at h
  split at h
  · rename_i vs e
    split at h
    · rename_i hl; cases h; exact ⟨vs, e, hl, rfl⟩
    · cases h
  · cases h
theorem read1 (h : HRel C I ρ L0 w0 H w) {b o : Nat} {v : AV} {r : PB} (hb : ρ b = some r) (hl : ld H b o = some v) : ∃ x, w.cell? (r.a.add o) = some x ∧ VRel ρ v x ∧ x.oneCell' = true := by
  obtain ⟨vs, e, hv⟩ := ld_spec hl
  exact (h.blk b r _ hb e).1 o v hv
theorem cellsOfRel (h : HRel C I ρ L0 w0 H w) {b o n : Nat} {us : List AV} {r : PB} (hb : ρ b = some r) (hl : ldn H b o n = some us) :
    ∃ xs : List Value, xs.length = n ∧ us.length = n ∧ VRelL ρ us xs ∧ (∀ x ∈ xs, x.oneCell' = true) ∧ ∀ j v, xs[j]? = some v → w.cell? ((r.a.add o).add j) = some v := by
  obtain ⟨vs, e, hle, rfl⟩ := ldn_spec hl
  have hB := (h.blk b r _ hb e).1
  have hlen : ((vs.drop o).take n).length = n := by simp; omega
  have key : ∀ m, m ≤ n → ∃ xs : List Value, xs.length = m ∧ ∀ (j : Nat), j < m → ∃ v x, vs[o + j]? = some v ∧ xs[j]? = some x ∧ w.cell? (r.a.add (o + j)) = some x ∧ VRel ρ v x ∧ x.oneCell' = true := by
    intro m
    induction m with
    | zero => exact fun _ => ⟨[], rfl, fun j hj => by omega⟩
    | succ m ih =>
      intro hm
      obtain ⟨xs, hx, hp⟩ := ih (by omega)
      have hv : vs[o + m]? = some (vs[o + m]'(by omega)) := List.getElem?_eq_getElem _
      obtain ⟨x, hc, hr, h1⟩ := hB (o + m) _ hv
      refine ⟨xs ++ [x], by simp [hx], fun j hj => ?_⟩
      by_cases e' : j = m
      · subst e'
        exact ⟨_, x, hv, by simp [hx], hc, hr, h1⟩
      · obtain ⟨v, y, h2, h3, h4⟩ := hp j (by omega)
        exact ⟨v, y, h2, by rw [List.getElem?_append_left (by omega)]; exact h3, h4⟩
  obtain ⟨xs, hx, hp⟩ := key n (Nat.le_refl _)
  refine ⟨xs, hx, hlen, VRelL.of_get (by rw [hx, hlen]) fun i v hv => ?_, fun x hxm => ?_, fun j v hv => ?_⟩
  · have hi : i < n := by have := (List.getElem?_eq_some_iff.1 hv).1; omega
    obtain ⟨v', x, h2, h3, _, hr, _⟩ := hp i hi
    rw [List.getElem?_take, if_pos hi, List.getElem?_drop, h2] at hv
    cases hv
    exact ⟨x, h3, hr⟩
  · obtain ⟨i, hi, rfl⟩ := List.mem_iff_getElem.1 hxm
    obtain ⟨v', x, _, h3, _, _, h1⟩ := hp i (by omega)
    rw [List.getElem?_eq_getElem hi] at h3; cases h3; exact h1
  · have hj : j < n := by have := (List.getElem?_eq_some_iff.1 hv).1; omega
    obtain ⟨v', x, _, h3, hc, _, _⟩ := hp j hj
    rw [hv] at h3; cases h3
    rw [Addr.add_add]; exact hc

theorem run_loadVar1 {t : TypeId} (hs : shapeA C.P t = some none) {a : Addr} {x : Value} (hc : w.cell? a = some x) : (loadVar t a).run C.P w = .ok x w := by
  simp [loadVar, shapeA_none hs, hc]
theorem run_loadVarN {t : TypeId} {n : Nat} (hs : shapeA C.P t = some (some n)) {a : Addr} {xs : List Value} (hl : xs.length = n) (hc : ∀ j v, xs[j]? = some v → w.cell? (a.add j) = some v) : (loadVar t a).run C.P w = .ok (.agg xs.toArray) w := by
  obtain ⟨h1, h2⟩ := shapeA_some hs w
  have := run_loadCells_list (P := C.P) w a xs hc
  rw [hl] at this
  simp [loadVar, h1, run_sizeOf' h2, this]

theorem load_spec (h : HRel C I ρ L0 w0 H w) {t : TypeId} {n : Option Nat} (hs : shapeA C.P t = some n) {b o : Nat} {r : PB} (hb : ρ b = some r) {v : AV}
    (hx : (match n with
      | none => ld H b o
      | some n => (ldn H b o n).map .ag) = some v) : ∃ x, (loadVar t (r.a.add o)).run C.P w = .ok x w ∧ VRel ρ v x := by
  cases n with
  | none =>
    obtain ⟨x, hc, hr, _⟩ := read1 h hb hx
    exact ⟨x, run_loadVar1 hs hc, hr⟩
  | some n =>
    simp only [Option.map_eq_some_iff] at hx
    obtain ⟨us, hu, rfl⟩ := hx
    obtain ⟨xs, hl, _, hr, _, hc⟩ := cellsOfRel h hb hu
    exact ⟨_, run_loadVarN hs hl hc, by simp only [VRel]; exact ⟨_, rfl, by simpa using hr⟩⟩

theorem storeVar_spec (h : HRel C I ρ L0 w0 H w) {t : TypeId} {n : Nat} (hs : sizeA C.P t = some n) {lo b o : Nat} {r : PB} (hb : ρ b = some r) (hlo : L0 ≤ lo) {v : AV} {x : Value} (hv : VRel ρ v x) (hn : v.cells.length = n) (h1 : v.cells.all AV.one = true)
    {H' : Heap} (hst : st lo H b o v.cells = some H') : ∃ w', (storeVar t (r.a.add o) x).run C.P w = .ok () w' ∧ HRel C I ρ L0 w0 H' w' ∧ Ext ρ L0 H.length w ρ w' := by
  unfold st at hst
  split at hst
  · rename_i hle
    split at hst
    · rename_i vs e
      split at hst
      · rename_i hl
        cases hst
        have hc := hv.cells h1
        obtain ⟨hH, hE, hrun⟩ := HRel.store (n := H.length) h hb (by omega) e hl hc (hc.one h1)
        refine ⟨_, ?_, hH, hE⟩
        have hsz : x.cells.size = n := by have := hc.length; simp at this; omega
        simp [storeVar, run_sizeOf' hs, hsz, hrun]
      · cases hst
    · cases hst
  · cases hst

/-! ### Building -/
theorem setMany_foldl : ∀ (xs : List Value) (cs : Array Value) (o k : Nat), (xs.zipIdx k).foldl (fun cs (c, j) => cs.setIfInBounds (o + j) c) cs = setMany cs (o + k) xs
  | [], _, _, _ => rfl
  | x :: xs, cs, o, k => by
    simp only [List.zipIdx_cons, List.foldl_cons, setMany]
    rw [setMany_foldl xs _ o (k + 1)]
    congr 1
theorem foldl_zipIdx (v : Array Value) (cs : Array Value) (o : Nat) : v.zipIdx.foldl (fun cs (c, j) => cs.setIfInBounds (o + j) c) cs = setMany cs o v.toList := by
  rw [← Array.foldl_toList]
  have : v.zipIdx.toList = v.toList.zipIdx := by simp [Array.toList_zipIdx]
  rw [this]
  exact setMany_foldl v.toList cs o 0
theorem VRelL.wr {ρ : Mp} : ∀ {us : List AV} {xs : List Value} {vs : List AV} {cs : Array Value} {o : Nat}, VRelL ρ vs cs.toList → VRelL ρ us xs → VRelL ρ (AM.wr vs o us) (setMany cs o xs).toList
  | [], _, _, _, _, h, hu => by simp only [VRelL] at hu; subst hu; exact h
  | u :: us, _, vs, cs, o, h, hu => by
    simp only [VRelL] at hu
    obtain ⟨x, xs, rfl, hx, hxs⟩ := hu
    simp only [AM.wr, setMany]
    refine VRelL.wr ?_ hxs
    simpa using h.set o hx
theorem wr_all {p : AV → Bool} : ∀ {us vs : List AV} {o : Nat}, vs.all p = true → us.all p = true → (AM.wr vs o us).all p = true
  | [], _, _, h, _ => h
  | u :: us, vs, o, h, hu => by
    simp only [List.all_cons, Bool.and_eq_true] at hu
    simp only [AM.wr]
    refine wr_all ?_ hu.2
    rw [List.all_eq_true] at h ⊢
    intro x hx
    rcases List.mem_or_eq_of_mem_set hx with hx | rfl
    · exact h x hx
    · exact hu.1
def PartsRel (ρ : Mp) (place : Nat → Option (Nat × Nat)) : List (Nat × Value) → List (Nat × Nat × AV) → Prop
  | [], ps => ps = []
  | (i, x) :: l, ps => ∃ off size v ps', ps = (off, size, v) :: ps' ∧ place i = some (off, size) ∧ VRel ρ v x ∧ PartsRel ρ place l ps'
theorem fill_spec {place : Nat → Option (Nat × Nat)} : ∀ {l : List (Nat × Value)} {ps : List (Nat × Nat × AV)} {z : List AV} {zc : Array Value} {cs : List AV},
    PartsRel ρ place l ps → VRelL ρ z zc.toList → z.all AV.one = true → fillA z ps = some cs →
    ∃ cc, Instr.fill place zc l = some cc ∧ VRelL ρ cs cc.toList ∧ cs.all AV.one = true
  | [], _, _, zc, _, h, hz, h1, hf => by simp only [PartsRel] at h; subst h; simp [fillA] at hf; subst hf; exact ⟨zc, rfl, hz, h1⟩
  | (i, x) :: l, _, z, zc, cs, h, hz, h1, hf => by
    simp only [PartsRel] at h
    obtain ⟨off, size, v, ps, rfl, hpl, hv, hr⟩ := h
    simp only [fillA] at hf
    split at hf
    · rename_i hc
      obtain ⟨hc1, hc2, hc3⟩ := hc
      have hcs := hv.cells hc3
      have e1 : x.cells.size = size := by have := hcs.length; simp at this; omega
      have e2 := hz.length
      obtain ⟨cc, hcc, hrr, hone⟩ := fill_spec hr (hz.wr (o := off) hcs) (wr_all h1 hc3) hf
      refine ⟨cc, ?_, hrr, hone⟩
      simp at e2
      simp only [Instr.fill]
      rw [hpl]
      simp only [e1]
      rw [if_neg (by simp; omega), foldl_zipIdx]
      exact hcc
    · cases hf
end
end Go.AM

namespace Go.AM
open Go Go.RowKit
section
variable {C : Cfg} {I : World → Prop} {ρ : Mp} {L0 : Nat} {w0 w : World} {H : Heap} {nt lo : Nat} {a : Fr} {am : Act}

theorem run_mapM {α β : Type} {P : Program} {w : World} {f : α → Sem β} {g : α → β} : ∀ {l : List α}, (∀ x ∈ l, (f x).run P w = .ok (g x) w) → (l.mapM f).run P w = .ok (l.map g) w
  | [], _ => by simp
  | x :: l, h => by
    rw [List.mapM_cons]
    simp [h x (by simp), run_mapM (l := l) fun y hy => h y (by simp [hy])]
theorem run_mapMA {α β : Type} {P : Program} {w : World} {f : α → Sem β} {g : α → β} {l : Array α} (h : ∀ x ∈ l.toList, (f x).run P w = .ok (g x) w) : (l.mapM f).run P w = .ok (l.map g) w := by
  obtain ⟨l⟩ := l
  rw [List.mapM_toArray]
  simp [run_mapM (l := l) h]

theorem prepParts_rel {P : Program} {place : Nat → Option (Nat × Nat)} (hf : FrRel ρ nt a am.tmps) : ∀ {l : List (Nat × Operand)} {ps : List (Nat × Nat × AX)}, prepParts P nt place l = some ps →
    PartsRel ρ place (l.map fun q => (q.1, am.eval q.2)) (ps.map fun q => (q.1, q.2.1, ev a q.2.2))
  | [], _, h => by simp [prepParts] at h; subst h; simp [PartsRel]
  | (i, x) :: l, _, h => by
    simp only [prepParts, Option.bind_eq_some_iff, Option.map_eq_some_iff] at h
    obtain ⟨q, hq, y, hy, ps, hps, rfl⟩ := h
    simp only [List.map_cons, PartsRel]
    exact ⟨q.1, q.2, _, _, rfl, hq, evalX hy hf, prepParts_rel hf hps⟩
theorem prepSParts_rel {es : Nat} (hf : FrRel ρ nt a am.tmps) : ∀ {l : List (Nat × Operand)} {ps : List (Nat × AX)}, prepSParts nt l = some ps →
    PartsRel ρ (fun i => some (i * es, es)) (l.map fun q => (q.1, am.eval q.2)) (ps.map fun q => (q.1 * es, es, ev a q.2))
  | [], _, h => by simp [prepSParts] at h; subst h; simp [PartsRel]
  | (i, x) :: l, _, h => by
    simp only [prepSParts, Option.bind_eq_some_iff, Option.map_eq_some_iff] at h
    obtain ⟨y, hy, ps, hps, rfl⟩ := h
    simp only [List.map_cons, PartsRel]
    exact ⟨_, _, _, _, rfl, rfl, evalX hy hf, prepSParts_rel hf hps⟩
theorem PartsRel.congr {place place' : Nat → Option (Nat × Nat)} (h : ∀ i q, place i = some q → place' i = some q) : ∀ {l : List (Nat × Value)} {ps : List (Nat × Nat × AV)}, PartsRel ρ place l ps → PartsRel ρ place' l ps
  | [], _, h' => h'
  | (i, x) :: l, _, h' => by
    simp only [PartsRel] at h' ⊢
    obtain ⟨off, size, v, ps, e, hp, hv, hr⟩ := h'
    exact ⟨off, size, v, ps, e, h _ _ hp, hv, PartsRel.congr h hr⟩

theorem gives_build (h : HRel C I ρ L0 w0 H w) (hf : FrRel ρ nt a am.tmps) {t : TypeId} {parts : Array (Nat × Operand)} {ao : AOp} (hp : prepOp C nt (.build t parts) = some ao) {v : AV} {H' : Heap} (hx : opA lo ao a H = some (v, H')) :
    Gives C I ρ L0 w0 H w (do pure (.value (← Instr.build t (parts.map fun (i, x) => (i, am.eval x))))) v H' := by
  simp only [prepOp, Option.bind_eq_some_iff] at hp
  obtain ⟨z, hz, hp⟩ := hp
  obtain ⟨i, zv, hi, hzv, hr⟩ := zeroA_spec hz
  have hzr : VRelL ρ z zv.cells.toList := toAVs_rel (fun v x e => (toAV1_rel e).1) hr
  have hl : (parts.map fun (i, x) => (i, am.eval x)).toList = parts.toList.map fun q => (q.1, am.eval q.2) := by simp
  split at hp
  · rename_i fs hu
    split at hp
    · cases hp
    · rename_i hall
      simp only [Option.map_eq_some_iff] at hp
      obtain ⟨ps, hps, rfl⟩ := hp
      simp only [opA, Option.map_eq_some_iff] at hx
      obtain ⟨cs, hcs, e⟩ := hx
      cases e
      have hsz : ∀ f ∈ fs.toList, sizeA C.P f.type = some ((sizeA C.P f.type).getD 0) := fun f hf' => by
        cases e : sizeA C.P f.type with
        | none => exact absurd (List.any_eq_true.2 ⟨f, hf', by simp [e]⟩) hall
        | some n => rfl
      have hm := run_mapMA (P := C.P) (w := w) (l := fs) (f := fun f => do pure (f.offset, ← sizeOf f.type)) (g := fun f => (f.offset, (sizeA C.P f.type).getD 0)) fun f hf' => by simp [run_sizeOf' (hsz f hf')]
      have hpr := PartsRel.congr (place' := fun i => (fs.map fun f => (f.offset, (sizeA C.P f.type).getD 0))[i]?) (fun i q hq => by
        simp only [Option.bind_eq_some_iff, Option.map_eq_some_iff] at hq
        obtain ⟨f, hf', n, hn, rfl⟩ := hq
        simp [hf', hn]) (prepParts_rel hf hps)
      obtain ⟨cc, hcc, hrr, _⟩ := fill_spec hpr hzr (toAVs_one hr) hcs
      rw [← hl] at hcc
      refine Gives.pure h (x := .agg cc) ?_ (by simp only [VRel]; exact ⟨cc, rfl, hrr⟩)
      simp only [Instr.build, Sem.run_bind, run_zeroValue' hi hzv, Result.andThen_ok, run_underlying hu, hm, hcc, Sem.run_pure]
  · rename_i n e hu
    simp only [Option.bind_eq_some_iff, Option.map_eq_some_iff] at hp
    obtain ⟨es, hes, ps, hps, rfl⟩ := hp
    simp only [opA, Option.map_eq_some_iff] at hx
    obtain ⟨cs, hcs, e'⟩ := hx
    cases e'
    obtain ⟨cc, hcc, hrr, _⟩ := fill_spec (prepParts_rel hf hps) hzr (toAVs_one hr) hcs
    rw [← hl] at hcc
    refine Gives.pure h (x := .agg cc) ?_ (by simp only [VRel]; exact ⟨cc, rfl, hrr⟩)
    simp only [Instr.build, Sem.run_bind, run_zeroValue' hi hzv, Result.andThen_ok, run_underlying hu, run_sizeOf' hes, hcc, Sem.run_pure]
  · cases hp

theorem reps_length (z : List AV) : ∀ n, (reps n z).length = n * z.length
  | 0 => by simp [reps]
  | n + 1 => by simp [reps, reps_length z n, Nat.succ_mul, Nat.add_comm]
theorem reps_all {p : AV → Bool} {z : List AV} (h : z.all p = true) : ∀ n, (reps n z).all p = true
  | 0 => rfl
  | n + 1 => by simp only [reps, List.all_append, h, reps_all h n, Bool.and_self]
theorem reps_get (z : List AV) : ∀ (n i : Nat), i < n * z.length → (reps n z)[i]? = z[i % z.length]?
  | 0, i, h => by simp at h
  | n + 1, i, h => by
    simp only [reps]
    by_cases hi : i < z.length
    · rw [List.getElem?_append_left hi, Nat.mod_eq_of_lt hi]
    · rw [List.getElem?_append_right (by omega), reps_get z n (i - z.length) (by rw [Nat.succ_mul] at h; omega)]
      congr 1
      rw [Nat.mod_eq_sub_mod (a := i) (by omega)]
/-- zero cells, many times -/
theorem reps_rel {z : List AV} {zc : Array Value} (hz : VRelL ρ z zc.toList) (n m : Nat) (hm : m = n * zc.size) : VRelL ρ (reps n z) ((Array.range m).map (zc[· % zc.size]!)).toList := by
  have hl : zc.size = z.length := by have := hz.length; simpa using this
  refine VRelL.of_get (by simp [reps_length, hm, hl]) fun i v hv => ?_
  have hi : i < n * z.length := by have := (List.getElem?_eq_some_iff.1 hv).1; rwa [reps_length] at this
  rw [reps_get z n i hi] at hv
  obtain ⟨x, hx, hr⟩ := hz.get hv
  refine ⟨x, ?_, hr⟩
  have hpos : 0 < zc.size := by
    rcases Nat.eq_zero_or_pos zc.size with h0 | h0
    · rw [← hl, h0] at hi; simp at hi
    · exact h0
  have hx' : zc[i % zc.size]? = some x := by simpa [hl] using hx
  have hi' : i < m := by rw [hm, hl]; exact hi
  have hg : zc[i % zc.size]! = x := by rw [getElem!_def, hx']
  simp [hi', hg]

theorem gives_bslice (h : HRel C I ρ L0 w0 H w) (hf : FrRel ρ nt a am.tmps) {t : TypeId} {len : Nat} {parts : Array (Nat × Operand)} {ao : AOp} (hp : prepOp C nt (.buildSlice t len parts) = some ao) {v : AV} {H' : Heap} (hx : opA lo ao a H = some (v, H')) :
    Gives C I ρ L0 w0 H w (do pure (.value (← Instr.buildSlice t len (parts.map fun (i, x) => (i, am.eval x))))) v H' := by
  simp only [prepOp] at hp
  split at hp
  · rename_i e hu
    simp only [Option.bind_eq_some_iff] at hp
    obtain ⟨es, hes, z, hz, hp⟩ := hp
    split at hp
    · rename_i hc
      obtain ⟨hzl, hbig⟩ := hc
      simp only [Option.map_eq_some_iff] at hp
      obtain ⟨ps, hps, rfl⟩ := hp
      obtain ⟨i, zv, hi, hzv, hr⟩ := zeroA_spec hz
      have hzr : VRelL ρ z zv.cells.toList := toAVs_rel (fun v x e => (toAV1_rel e).1) hr
      have hzs : zv.cells.size = es := by have := hzr.length; simp at this; omega
      simp only [opA, Option.map_eq_some_iff] at hx
      obtain ⟨cs, hcs, e'⟩ := hx
      cases e'
      have hl : (parts.map fun (i, x) => (i, am.eval x)).toList = parts.toList.map fun q => (q.1, am.eval q.2) := by simp
      have hrp : VRelL ρ (reps len z) ((Array.range (len * es)).map (zv.cells[· % zv.cells.size]!)).toList := reps_rel hzr len _ (by rw [hzs])
      obtain ⟨cc, hcc, hrr, hone⟩ := fill_spec (prepSParts_rel hf hps) hrp (reps_all (toAVs_one hr) len) hcs
      rw [← hl] at hcc
      obtain ⟨ρ', e1, hH, hE⟩ := newCellsL h (cs := cc) e hrr hone
      have hccs : cc.size = len * es := by
        have h1 := hrr.length
        have h2 : ∀ {ps : List (Nat × Nat × AV)} {z cs : List AV}, fillA z ps = some cs → cs.length = z.length := by
          intro ps
          induction ps with
          | nil => intro z cs h; simp [fillA] at h; subst h; rfl
          | cons p ps ih =>
            intro z cs h
            obtain ⟨off, size, v⟩ := p
            simp only [fillA] at h
            split at h
            · rw [ih h, wr_length]
            · cases h
        have h3 := h2 hcs
        rw [reps_length, hzl] at h3
        simp at h1
        omega
      refine Gives.val ρ' (.slice (some ⟨w.heap.size, 0, none⟩) len len) (w.alloc (.cells cc e)) ?_ ?_ hH hE
      · have hsz : ¬ (len * es > 2 ^ 24) := by omega
        by_cases h0 : len * es = 0
        · have hemp : ∀ f : Nat → Value, (Array.range (len * es)).map f = #[] := fun f => by rw [h0]; simp
          rw [hemp] at hcc
          simp only [Instr.buildSlice, Sem.run_bind, run_underlying hu, Result.andThen_ok, run_sizeOf' hes, if_neg hsz, if_pos h0, Sem.run_pure, hemp, hcc, newRow, run_newObj]
          rfl
        · simp only [Instr.buildSlice, Sem.run_bind, run_underlying hu, Result.andThen_ok, run_sizeOf' hes, if_neg hsz, if_neg h0, run_zeroValue' hi hzv, Sem.run_pure, hcc, newRow, run_newObj]
          rfl
      · simp only [VRel]
        refine ⟨_, 0, len, e1, rfl, by omega, fun k e => by cases e; rfl, fun _ => rfl, fun m hm => ?_⟩
        simp at hm; omega
    · cases hp
  · cases hp

/-! ### Arithmetic -/
theorem binA_spec {op : BinOp} {t : TypeId} {x y v : AV} {xm ym : Value} {xo yo : Operand} (hx : VRel ρ x xm) (hy : VRel ρ y ym) (h : binA op x y = some v) (w : World) :
    ∃ vm, (do eqGuard op t xo yo xm ym; binOp op t xm ym : Sem Value).run C.P w = .ok vm w ∧ VRel ρ v vm := by
  cases x <;> cases y <;> (try (cases op <;> simp [binA] at h; done))
  rename_i k m k' n
  simp only [VRel] at hx hy
  subst hx hy
  have hg : (eqGuard op t xo yo (.int k m) (.int k' n)).run C.P w = .ok () w := by
    unfold eqGuard
    cases op <;> simp
  simp only [Sem.run_bind, hg, Result.andThen_ok]
  cases op <;> simp only [binA] at h
  case shl =>
    split at h
    · cases h
    · rename_i hn; cases h; simp [binOp, Op.shift, hn, VRel]
  case shr =>
    split at h
    · cases h
    · rename_i hn; cases h; simp [binOp, Op.shift, hn, VRel]
  all_goals
    split at h
    · rename_i hk
      subst hk
      first
        | (cases h; simp [binOp, Op.intArith, Op.intBits, Op.intCmp, VRel]; done)
        | (split at h
           · cases h
           · rename_i hn; cases h; simp [binOp, Op.intDiv, hn, VRel])
        | cases h
    · cases h
theorem unA_spec {op : UnOp} {x v : AV} {xm : Value} (hx : VRel ρ x xm) (h : unA op x = some v) (w : World) : ∃ vm, (Op.unary op xm).run C.P w = .ok vm w ∧ VRel ρ v vm := by
  unfold unA at h
  split at h
  · cases h; simp only [VRel] at hx; subst hx; simp [Op.unary, Op.intArith, VRel]
  · cases h; simp only [VRel] at hx; subst hx; simp [Op.unary, Op.intBits, VRel]
  · cases h; simp only [VRel] at hx; subst hx; simp [Op.unary, VRel]
  · cases h
theorem foldMin_spec {k : IntKind} {P : Program} {w : World} : ∀ {l : List AV} {xs : List Value} {x n : Int}, VRelL ρ l xs → foldMin k x l = some n → (xs.foldlM Builtin.min2 (.int k x)).run P w = .ok (.int k n) w
  | [], _, x, n, h, e => by simp only [VRelL] at h; subst h; simp [foldMin] at e; subst e; simp
  | v :: l, _, x, n, h, e => by
    simp only [VRelL] at h
    obtain ⟨y, ys, rfl, hy, hr⟩ := h
    cases v <;> simp only [foldMin] at e <;> try cases e
    simp only [VRel] at hy
    subst hy
    simp only [List.foldlM_cons, Builtin.min2, Sem.run_bind, Sem.run_pure, Result.andThen_ok]
    exact foldMin_spec hr e
theorem foldMax_spec {k : IntKind} {P : Program} {w : World} : ∀ {l : List AV} {xs : List Value} {x n : Int}, VRelL ρ l xs → foldMax k x l = some n → (xs.foldlM Builtin.max2 (.int k x)).run P w = .ok (.int k n) w
  | [], _, x, n, h, e => by simp only [VRelL] at h; subst h; simp [foldMax] at e; subst e; simp
  | v :: l, _, x, n, h, e => by
    simp only [VRelL] at h
    obtain ⟨y, ys, rfl, hy, hr⟩ := h
    cases v <;> simp only [foldMax] at e <;> try cases e
    simp only [VRel] at hy
    subst hy
    simp only [List.foldlM_cons, Builtin.max2, Sem.run_bind, Sem.run_pure, Result.andThen_ok]
    exact foldMax_spec hr e
end
end Go.AM

namespace Go.AM
open Go Go.RowKit

/-- What the second argument of an append yields: m elements, the cells 'news'. -/
structure AppSrc (P : Program) (t tx e : TypeId) (i : TypeInfo) (x : Value) (m : Nat) (news : List Value) (w : World) : Prop where
  len : news.length = m * i.size
  one : ∀ u ∈ news, u.oneCell' = true
  nothing : m = 0 → ∀ ty base sLen sCap, sLen ≤ sCap → (Builtin.append_ #[t, tx] ty #[.slice base sLen sCap, x]).run P w = .ok (.slice base sLen sCap) w
  room : 0 < m → ∀ ty b off sLen sCap, sLen + m ≤ sCap → (∀ j, j < news.length → (w.cell? ⟨b, off + sLen * i.size + j, none⟩).isSome = true) → (∀ j, j < news.length → w.frozen? ⟨b, off + sLen * i.size + j, none⟩ = false) →
    (Builtin.append_ #[t, tx] ty #[.slice (some ⟨b, off, none⟩) sLen sCap, x]).run P w = .ok (.slice (some ⟨b, off, none⟩) (sLen + m) sCap) (w.setCells b (off + sLen * i.size) news)
  grow : ∀ ty base sLen sCap (olds : List Value), (Builtin.firstCells i.size sLen (.slice base sLen sCap)).run P w.drew = .ok olds.toArray w.drew → sCap < sLen + m → (sLen + m) * i.bytes ≤ 140737488355328 → sLen + m ≤ 9223372036854775807 →
    ∃ cap' zs, (sLen + m ≤ cap' ∧ cap' ≤ 9223372036854775807) ∧ olds.length + news.length + zs.size = (olds.length + news.length) + (cap' - (sLen + m)) * i.size ∧
      (Builtin.append_ #[t, tx] ty #[.slice base sLen sCap, x]).run P w = .ok (.slice (some ⟨w.heap.size, 0, none⟩) (sLen + m) cap') (w.drew.alloc (.cells ((olds ++ news).toArray ++ zs) e))

section
variable {P : Program} {w : World}
theorem appSrc_slice {t tx e : TypeId} {i : TypeInfo} {z : Value} (ht : P.underlying t = some (.slice e)) (hi : P.info? e = some i) (hz : i.zero = some z) (hzs : z.cells.size = i.size)
    {x : Value} {m : Nat} {news : List Value} (hs : Src P i.size tx x m news w) : AppSrc P t tx e i x m news w := by
  refine ⟨hs.newsLen, hs.one, fun h0 ty base sLen sCap hle => ?_, fun _ ty b off sLen sCap hr hc hf => run_append_room_src w t tx ty e i ht hi b off sLen sCap x m news hs hr hc hf, fun ty base sLen sCap olds hold hg hb h63 => ?_⟩
  · subst h0
    have : news = [] := List.eq_nil_of_length_eq_zero (by rw [hs.newsLen]; simp)
    subst this
    exact run_append_nothing w t tx ty e i ht hi base sLen sCap hle x hs
  · refine ⟨grownCap w (sLen + m) sCap e, Builtin.zeroCells z.cells (grownCap w (sLen + m) sCap e - (sLen + m)), ⟨grownCap_ge w _ _ e, grownCap_le_maxLen w _ _ e (by unfold maxLen; omega)⟩, ?_, run_append_grow_src w t tx ty e i z ht hi hz base sLen sCap olds hold x m news hs hg (by omega) (growslice_fits hg hb)⟩
    rw [size_zeroCells, hzs]

theorem appSrc_zeros {t tx e : TypeId} {i : TypeInfo} {z : Value} {k : IntKind} (ht : P.underlying t = some (.slice e)) (hi : P.info? e = some i) (hz : i.zero = some z) (hzs : z.cells.size = i.size) (htx : P.underlying tx = some (.int k))
    (h1 : ∀ u ∈ z.cells.toList, u.oneCell' = true) {kx : IntKind} {m : Nat} (hm : m ≤ 1099511627776) (hmb : m * i.bytes ≤ 140737488355328) : AppSrc P t tx e i (.int kx m) m (Builtin.zeroCells z.cells m).toList w := by
  have hw : IntKind.i64.wrap (m : Int) = m := by rw [IntKind.wrap_i64]; omega
  have hneg : ¬ ((m : Int) < 0) := by omega
  have hbig : ¬ (281474976710656 < (m : Int) * (i.bytes : Int)) := by rw [← Int.natCast_mul]; omega
  have hone : ∀ u ∈ (Builtin.zeroCells z.cells m).toList, u.oneCell' = true := by
    intro u hu
    simp only [Builtin.zeroCells, Array.toList_map, List.mem_map] at hu
    obtain ⟨j, hj, rfl⟩ := hu
    simp at hj
    have hlt : j % z.cells.size < z.cells.size := Nat.mod_lt _ (Nat.pos_of_ne_zero fun h0 => by rw [h0] at hj; simp at hj)
    have : z.cells[j % z.cells.size]! = z.cells[j % z.cells.size] := by simp [hlt]
    rw [this]
    exact h1 _ (Array.mem_toList_iff.2 (Array.getElem_mem hlt))
  have hl : (Builtin.zeroCells z.cells m).toList.length = m * i.size := by rw [Array.length_toList, size_zeroCells, hzs]
  obtain ⟨news, hnews⟩ : ∃ news, news = (Builtin.zeroCells z.cells m).toList := ⟨_, rfl⟩
  rw [← hnews] at hone hl ⊢
  have hna : Builtin.zeroCells z.cells m = news.toArray := by rw [hnews]
  refine ⟨hl, hone, fun h0 ty base sLen sCap hle => ?_, fun hpos ty b off sLen sCap hr hc hf => ?_, fun ty base sLen sCap olds hold hg hb h63 => ?_⟩
  · subst h0
    have h00 : IntKind.i64.wrap 0 = 0 := by simpa using hw
    cases base <;> simp [Builtin.append_, run_underlying ht, run_underlying htx, sizeOf, typeInfo, hi, asInt, asIntOf, h00, hle, storeCells]
  · have hst := run_storeCells_cells (P := P) b (off + sLen * i.size) news 0 w (by simpa using hc) (by simpa using hf) hone
    simp only [Nat.add_zero] at hst
    by_cases hms : m * i.size = 0
    · have hnil : news = [] := List.eq_nil_of_length_eq_zero (by rw [hl, hms])
      subst hnil
      simp [Builtin.append_, run_underlying ht, run_underlying htx, sizeOf, typeInfo, hi, asInt, asIntOf, hw, hneg, hbig, hr, hms, storeCells, World.setCells]
    · simp [Builtin.append_, run_underlying ht, run_underlying htx, sizeOf, typeInfo, zeroValue, hi, hz, asInt, asIntOf, hw, hneg, hbig, hr, hms, hna, Addr.add_lit, hst]
  · have hn : ¬ (sLen + m ≤ sCap) := by omega
    have h63' : ¬ (9223372036854775807 < ((sLen : Int) + (m : Int))) := by omega
    have hfit := growslice_fits hg hb
    have h48' : ¬ (281474976710656 < Builtin.nextslicecap (sLen + m) sCap * i.bytes) := by omega
    refine ⟨grownCap w (sLen + m) sCap e, Builtin.zeroCells z.cells (grownCap w (sLen + m) sCap e - (sLen + m)), ⟨grownCap_ge w _ _ e, grownCap_le_maxLen w _ _ e (by unfold maxLen; omega)⟩, by rw [size_zeroCells, hzs], ?_⟩
    by_cases hms : m * i.size = 0
    · have hnil : news = [] := List.eq_nil_of_length_eq_zero (by rw [hl, hms])
      subst hnil
      simp [Builtin.append_, run_underlying ht, run_underlying htx, sizeOf, typeInfo, zeroValue, hi, hz, asInt, asIntOf, hw, hneg, hbig, hn, hms, h63', h48', Question.forced, hold, newRow, grownCap]
    · simp [Builtin.append_, run_underlying ht, run_underlying htx, sizeOf, typeInfo, zeroValue, hi, hz, asInt, asIntOf, hw, hneg, hbig, hn, hms, h63', h48', Question.forced, hold, newRow, grownCap, hna]
      congr 2
      apply Array.ext'
      simp [List.append_assoc]
end

section
variable {C : Cfg} {I : World → Prop} {ρ : Mp} {L0 lo : Nat} {w0 w : World} {H : Heap}

theorem mostBytes_val : mostBytes = 1099511627776 := rfl

theorem VRelL.toArr {vs : List AV} {xs : List Value} (hr : VRelL ρ vs xs) (h1 : ∀ x ∈ xs, x.oneCell' = true) (zs : Array Value) : ∀ (i : Nat) (v : AV), vs[i]? = some v → ∃ x, (xs.toArray ++ zs)[i]? = some x ∧ VRel ρ v x ∧ x.oneCell' = true := fun i v hv => by
  obtain ⟨x, hx, hrx⟩ := hr.get hv
  have hlt := (List.getElem?_eq_some_iff.1 hx).1
  refine ⟨x, ?_, hrx, h1 _ (List.mem_of_getElem? hx)⟩
  rw [Array.getElem?_append_left (by simpa using hlt)]
  simpa using hx

theorem append_spec (h : HRel C I ρ L0 w0 H w) (hlo : L0 ≤ lo) {t tx e ty : TypeId} {i : TypeInfo} {es by' : Nat} (hes : i.size = es) (hby : i.bytes = by') (hb0 : by' ≠ 0) {sv : AV} {sm : Value} (hs : VRel ρ sv sm) {xm : Value} {m : Nat} {us : List AV} {news : List Value}
    (hsrc : AppSrc C.P t tx e i xm m news w) (hu : VRelL ρ us news) {v : AV} {H' : Heap} (hx : appendA lo es by' sv us m H = some (v, H')) :
    ∃ ρ' vm w', (Builtin.append_ #[t, tx] ty #[sm, xm]).run C.P w = .ok vm w' ∧ VRel ρ' v vm ∧ HRel C I ρ' L0 w0 H' w' ∧ Ext ρ L0 H.length w ρ' w' := by
  have hnl : news.length = m * es := by rw [hsrc.len, hes]
  have hul : us.length = m * es := by rw [← hnl, hu.length]
  have small : ∀ q, q * by' ≤ mostBytes → q ≤ 1099511627776 := fun q hq => Nat.le_trans (Nat.le_mul_of_pos_right _ (Nat.pos_of_ne_zero hb0)) hq
  cases sv <;> simp only [appendA] at hx <;> try (cases hx; done)
  case nils =>
    simp only [VRel] at hs
    subst hs
    split at hx
    · rename_i h0
      cases hx
      exact ⟨ρ, _, w, hsrc.nothing h0 ty none 0 0 (Nat.le_refl _), by simp [VRel], h, Ext.refl ..⟩
    · rename_i h0
      split at hx
      · rename_i hb
        cases hx
        have hq := small _ hb
        rw [mostBytes_val] at hb
        obtain ⟨cap', zs, hc, hzs, hrun⟩ := hsrc.grow ty none 0 0 [] (run_firstCells_none w.drew i.size 0 0 0) (by omega) (by rw [hby, Nat.zero_add]; omega) (by omega)
        simp only [List.nil_append, Nat.zero_add, List.length_nil] at hrun hc hzs
        obtain ⟨ρ', e1, hH, hE⟩ := newCells (h.drew) (vs := us) (cs := news.toArray ++ zs) e (by simp; omega) (hu.toArr hsrc.one zs)
        refine ⟨ρ', _, _, hrun, ?_, hH, ?_⟩
        · simp only [VRel]
          refine ⟨_, 0, cap', e1, rfl, hc, (fun k e => by cases e), fun _ => rfl, fun m' hm' => ?_⟩
          simp at hm'
          have : cap' = m + (cap' - m) := by omega
          have h2 : cap' * es = m * es + (cap' - m) * es := by rw [← Nat.add_mul, ← this]
          rw [hes] at hzs
          omega
        · exact ⟨hE.le, hE.fresh, hE.size, hE.keep⟩
      · cases hx
  case s es' b o n c =>
    simp only [VRel] at hs
    obtain ⟨r, o', c', hb, rfl, hnc, hck, ho, hroom⟩ := hs
    split at hx
    · cases hx
    · rename_i hes'
      have hes' : es' = es := by simpa using hes'
      subst hes'
      split at hx
      · rename_i h0
        cases hx
        refine ⟨ρ, _, w, hsrc.nothing h0 ty _ n c' hnc.1, ?_, h, Ext.refl ..⟩
        simp only [VRel]; exact ⟨r, o', c', hb, rfl, hnc, hck, ho, hroom⟩
      · rename_i h0
        split at hx
        · rename_i cs hk
          split at hx
          · rename_i hc
            obtain ⟨hfit, hbig⟩ := hc
            have hq := small _ hbig
            rw [mostBytes_val] at hbig
            -- what the slice holds
            have hold : ∃ olds : List Value, olds.length = n * es' ∧ VRelL ρ ((cs.drop o).take (n * es')) olds ∧ (∀ x ∈ olds, x.oneCell' = true) ∧ ∀ w2 : World, w2.heap = w.heap → (Builtin.firstCells i.size n (.slice (some (r.a.add o')) n c')).run C.P w2 = .ok olds.toArray w2 := by
              rcases Nat.eq_zero_or_pos n with hn | hn
              · subst hn
                refine ⟨[], by simp, by simp [VRelL], by simp, fun w2 _ => ?_⟩
                simp [Builtin.firstCells, loadCells, loadCellsFrom]
              · have ho' := ho (by omega)
                subst ho'
                obtain ⟨olds, h1, _, h3, h4, h5⟩ := cellsOfRel h hb (o := o') (n := n * es') (us := (cs.drop o').take (n * es')) (by simp [ldn, hk, hfit])
                refine ⟨olds, h1, h3, h4, fun w2 hw2 => ?_⟩
                refine run_firstCells_some w2 i.size n (r.a.add o') n c' olds (by rw [h1, hes]) fun j u hu' => ?_
                have := h5 j u hu'
                simpa [World.cell?, hw2] using this
            obtain ⟨olds, hol, hor, ho1, hof⟩ := hold
            have hone : ∀ x ∈ olds ++ news, x.oneCell' = true := fun x hx' => by
              rcases List.mem_append.1 hx' with hx' | hx'
              · exact ho1 x hx'
              · exact hsrc.one x hx'
            have hnr : VRelL ρ ((cs.drop o).take (n * es') ++ us) (olds ++ news) := hor.append hu
            -- a new row
            have grown : c' < n + m → ∀ {Hk : Heap}, Hk.length = H.length → HRel C I ρ L0 w0 Hk w → ∃ ρ' vm w', (Builtin.append_ #[t, tx] ty #[.slice (some (r.a.add o')) n c', xm]).run C.P w = .ok vm w' ∧ VRel ρ' (.s es' H.length 0 (n + m) none) vm ∧
                HRel C I ρ' L0 w0 (Hk ++ [.cells ((cs.drop o).take (n * es') ++ us)]) w' ∧ Ext ρ L0 H.length w ρ' w' := by
              intro hg Hk hlk hHk
              obtain ⟨cap', zs, hcp, hzs, hrun⟩ := hsrc.grow ty (some (r.a.add o')) n c' olds (hof w.drew rfl) hg (by rw [hby]; omega) (by omega)
              obtain ⟨ρ', e1, hH, hE⟩ := newCells (hHk.drew) (vs := (cs.drop o).take (n * es') ++ us) (cs := (olds ++ news).toArray ++ zs) e (by have := hnr.length; simp at this ⊢; omega) (hnr.toArr hone zs)
              rw [hlk] at e1 hE
              refine ⟨ρ', _, _, hrun, ?_, hH, ⟨hE.le, hE.fresh, hE.size, hE.keep⟩⟩
              simp only [VRel]
              refine ⟨_, 0, cap', e1, rfl, hcp, (fun k e => by cases e), fun _ => rfl, fun m' hm' => ?_⟩
              simp at hm'
              have : cap' = (n + m) + (cap' - (n + m)) := by omega
              have h2 : cap' * es' = (n + m) * es' + (cap' - (n + m)) * es' := by rw [← Nat.add_mul, ← this]
              have h3 : (n + m) * es' = n * es' + m * es' := Nat.add_mul ..
              rw [hes] at hzs
              omega
            split at hx
            · rename_i hcn
              cases hx
              have := hck n hcn
              exact grown (by omega) rfl h
            · split at hx
              · rename_i hle
                cases hx
                by_cases hg : c' < n + m
                · exact grown hg (by simp) (h.kill b)
                · -- there is room: the cells behind are written
                  have hL : L0 ≤ b := Nat.le_trans hlo hle
                  obtain ⟨hB1, hB2, _⟩ := h.blk b r _ hb hk
                  obtain ⟨mc, tc, rm, hmc, hrm, hvl, hrs⟩ := hB2 hL
                  obtain ⟨hw1, hw2, hsp⟩ := h.own b r hb hL
                  have hr1 := hroom rm hrm
                  have hcells : (n + m) * es' ≤ c' * es' := Nat.mul_le_mul_right _ (by omega)
                  have h3 : (n + m) * es' = n * es' + m * es' := Nat.add_mul ..
                  have hrun := hsrc.room (Nat.pos_of_ne_zero h0) ty r.a.block (r.a.off + o') n c' (by omega) (fun j hj => by rw [cell_of_row w _ _ mc tc (0, 0) hmc]; simp; rw [hes]; omega) (fun j _ => by simp [World.frozen?, hmc])
                  rw [hes] at hrun
                  have hadd : r.a.add o' = ⟨r.a.block, r.a.off + o', none⟩ := add_spot hsp o'
                  rw [← hadd] at hrun
                  obtain ⟨w', hw'⟩ : ∃ w', w.setCells r.a.block (r.a.off + o' + n * es') news = w' := ⟨_, rfl⟩
                  rw [hw'] at hrun
                  have hsz : w'.heap.size = w.heap.size := by rw [← hw']; exact setCells_size ..
                  have hoth : ∀ pb, pb ≠ r.a.block → w'.heap[pb]? = w.heap[pb]? := fun pb hp => by rw [← hw']; exact setCells_other _ _ _ _ hp
                  have hin : w'.heap[r.a.block]? = some (.cells (setMany mc (r.a.off + o' + n * es') news) tc (0, 0)) := by rw [← hw']; exact setCells_heap _ _ _ _ hmc
                  have hbel : Below w0.heap.size w0 w' := by rw [← hw']; exact setCells_below hw1 _ _ _ h.below
                  have hnew : ρ H.length = none := h.none_of_ge (Nat.le_refl _)
                  obtain ⟨q, hq'⟩ : ∃ q : PB, q = ⟨⟨r.a.block, r.a.off + o', none⟩, some (rm - o')⟩ := ⟨_, rfl⟩
                  have hle' := Mp.le_add ρ q hnew
                  have hbH : b < H.length := h.dom b r hb
                  have getL : ∀ (xs : List Value) (cs2 : Array Value) (o2 j : Nat), j < o2 → (setMany cs2 o2 xs)[j]? = cs2[j]? := by
                    intro xs
                    induction xs with
                    | nil => intro cs2 o2 j _; rfl
                    | cons x xs ih => intro cs2 o2 j hj; rw [setMany, ih _ _ _ (by omega), Array.getElem?_setIfInBounds_ne (by omega)]
                  have getR : ∀ (xs : List Value) (cs2 : Array Value) (o2 j : Nat), j < xs.length → o2 + j < cs2.size → (setMany cs2 o2 xs)[o2 + j]? = xs[j]? := by
                    intro xs
                    induction xs with
                    | nil => intro cs2 o2 j hj; simp at hj
                    | cons x xs ih =>
                      intro cs2 o2 j hj hs2
                      rw [setMany]
                      cases j with
                      | zero => rw [Nat.add_zero, getL _ _ _ _ (by omega)]; simp [show o2 < cs2.size by omega]
                      | succ j =>
                        have := ih (cs2.setIfInBounds o2 x) (o2 + 1) j (by simpa using hj) (by simp; omega)
                        rw [show o2 + (j + 1) = o2 + 1 + j by omega, this]
                        simp
                  refine ⟨ρ.add H.length q, _, w', hrun, ?_, ⟨hbel, h.inv, ?_, ?_, ?_, ?_, ?_⟩, hle', ?_, by omega, fun pb hp hno => hoth pb (fun e => hno b r hb hL e.symm)⟩
                  · simp only [VRel]
                    refine ⟨q, 0, c', Mp.add_same .., ?_, by omega, (fun k e => by cases e), fun _ => rfl, fun m' hm' => ?_⟩
                    · subst hq'; rw [hadd]; rfl
                    · subst hq'; simp at hm'; omega
                  · have := h.lt; simp; omega
                  · intro b2 r2 e2
                    by_cases hb2 : b2 = H.length
                    · subst hb2; simp
                    · rw [Mp.add_ne ρ _ hb2] at e2; have := h.dom b2 r2 e2; simp; omega
                  · intro b2 r2 e2 hL2
                    by_cases hb2 : b2 = H.length
                    · subst hb2; rw [Mp.add_same] at e2; cases e2; subst hq'; exact ⟨hw1, by rw [hsz]; exact hw2, rfl⟩
                    · rw [Mp.add_ne ρ _ hb2] at e2; rw [hsz]; exact h.own b2 r2 e2 hL2
                  · -- apart
                    have key : ∀ (b2 : Nat) (r2 : PB) (k2 : Blk), ρ b2 = some r2 → L0 ≤ b2 → (H.set b .dead ++ [Blk.cells ((cs.drop o).take (n * es') ++ us)])[b2]? = some k2 → k2.live → b2 ≠ H.length → r2.a.block ≠ r.a.block ∧ H[b2]? = some k2 := by
                      intro b2 r2 k2 e2 hL2 hk2 hl2 hne
                      have hb2 := h.dom b2 r2 e2
                      rw [List.getElem?_append_left (by simpa using hb2), List.getElem?_set] at hk2
                      split at hk2
                      · cases hk2; exact hl2.elim
                      · rename_i hne2
                        exact ⟨fun e3 => hne2 (h.apart b2 b r2 r k2 _ e2 hb hL2 hL hk2 hk hl2 trivial e3).symm, hk2⟩
                    intro b1 b2 r1 r2 k1 k2 e1 e2 hL1 hL2 hk1 hk2 hl1 hl2 hbk
                    by_cases hb1 : b1 = H.length <;> by_cases hb2 : b2 = H.length
                    · rw [hb1, hb2]
                    · subst hb1
                      rw [Mp.add_same] at e1; cases e1
                      rw [Mp.add_ne ρ _ hb2] at e2
                      subst hq'
                      exact absurd hbk.symm (key b2 r2 k2 e2 hL2 hk2 hl2 hb2).1
                    · subst hb2
                      rw [Mp.add_same] at e2; cases e2
                      rw [Mp.add_ne ρ _ hb1] at e1
                      subst hq'
                      exact absurd hbk (key b1 r1 k1 e1 hL1 hk1 hl1 hb1).1
                    · rw [Mp.add_ne ρ _ hb1] at e1
                      rw [Mp.add_ne ρ _ hb2] at e2
                      exact h.apart b1 b2 r1 r2 k1 k2 e1 e2 hL1 hL2 (key b1 r1 k1 e1 hL1 hk1 hl1 hb1).2 (key b2 r2 k2 e2 hL2 hk2 hl2 hb2).2 hl1 hl2 hbk
                  · intro b1 r1 k1 e1 hk1
                    by_cases hb1 : b1 = H.length
                    · subst hb1
                      rw [Mp.add_same] at e1; cases e1
                      rw [List.getElem?_append_right (by simp)] at hk1
                      simp at hk1
                      subst hk1
                      have hT : (L0 ≤ H.length) = True := by simp [h.lt]
                      rw [hT]
                      have hqb : q.a.block = r.a.block := by subst hq'; rfl
                      have hqs : q.a.spot = none := by subst hq'; rfl
                      have hqo : q.a.off = r.a.off + o' := by subst hq'; rfl
                      have hqr : q.room = some (rm - o') := by subst hq'; rfl
                      refine ⟨(cellsRel_arr (w := w') hqs (by rw [hqb]; exact hin)).2 ?_, fun _ => ⟨_, tc, rm - o', by rw [hqb]; exact hin, hqr, ?_, ?_⟩, fun e => absurd trivial e⟩
                      · intro j v hv
                        rw [hqo]
                        by_cases hj : j < n * es'
                        · rw [List.getElem?_append_left (by have := hor.length; omega)] at hv
                          rw [getL _ _ _ _ (by omega)]
                          rw [List.getElem?_take, if_pos hj, List.getElem?_drop] at hv
                          have hn : n ≠ 0 := fun e => by subst e; simp at hj
                          have ho' := ho hn
                          subst ho'
                          obtain ⟨x, hx', hr', h1'⟩ := (cellsRel_arr hsp hmc).1 hB1 _ _ hv
                          exact ⟨x, by rw [← hx']; congr 1; omega, hr'.mono hle' _ _, h1'⟩
                        · have hlen := hor.length
                          rw [List.getElem?_append_right (by omega)] at hv
                          obtain ⟨x, hx', hr'⟩ := hu.get hv
                          have hxl := (List.getElem?_eq_some_iff.1 hx').1
                          refine ⟨x, ?_, hr'.mono hle' _ _, hsrc.one _ (List.mem_of_getElem? hx')⟩
                          have := getR news mc (r.a.off + o' + n * es') (j - n * es') (by omega) (by omega)
                          rw [show r.a.off + o' + j = r.a.off + o' + n * es' + (j - n * es') by omega, this, ← hx']
                          congr 1
                          omega
                      · have := hnr.length; simp at this ⊢; omega
                      · rw [setMany_size, hqo]; omega
                    · rw [Mp.add_ne ρ _ hb1] at e1
                      have hb1' := h.dom b1 r1 e1
                      rw [List.getElem?_append_left (by simpa using hb1'), List.getElem?_set] at hk1
                      split at hk1
                      · cases hk1; trivial
                      · rename_i hne
                        exact BRel.away h hb hL hk trivial e1 hk1 (Ne.symm hne) hle' (fun pb hp _ => hoth pb hp)
                  · intro b1 r1 e1 e0
                    by_cases hb1 : b1 = H.length
                    · subst hb1; rw [Mp.add_same] at e1; cases e1; exact ⟨Nat.le_refl _, .inr ⟨b, r, hL, hb, by subst hq'; rfl⟩⟩
                    · rw [Mp.add_ne ρ _ hb1, e0] at e1; cases e1
              · cases hx
          · cases hx
        · cases hx
end
end Go.AM

namespace Go.AM
open Go Go.RowKit

def ints (xs : List Int) : Array Value := (xs.map (Value.int .i64)).toArray
/-- '==' and '!=' of aggregates of whole numbers, at the types that eqT names -/
def EqOk (C : Cfg) : Prop := ∀ t n, C.eqT t = some n → ∀ (xs ys : List Int), xs.length = n → ys.length = n → ∀ (neg : Bool) (xo yo : Operand) (w : World),
  (do eqGuard (if neg then .neq else .eql) t xo yo (.agg (ints xs)) (.agg (ints ys)); binOp (if neg then .neq else .eql) t (.agg (ints xs)) (.agg (ints ys)) : Sem Value).run C.P w = .ok (.bool ((xs == ys) != neg)) w

/-- maps keyed by arrays of whole numbers: a key passes, and two of them are compared number by number -/
def KeyOk (C : Cfg) : Prop := ∀ t n, C.keyT t = some n → ∃ kt et l e, C.P.underlying t = some (.map kt et) ∧ C.P.underlying kt = some (.array l e) ∧
  (∀ (xs : List Int), xs.length = n → ∀ (em : Bool) (w : World), (Instr.checkKey em 10000 kt (.agg (ints xs))).run C.P w = .ok () w) ∧
  ∀ (xs ys : List Int), xs.length = n → ys.length = n → ∀ (w : World), (Op.equal kt (.agg (ints xs)) (.agg (ints ys))).run C.P w = .ok (xs == ys) w

section
variable {C : Cfg} {I : World → Prop} {ρ : Mp} {L0 : Nat} {w0 w : World} {H : Heap} {nt lo : Nat} {a : Fr} {am : Act}

theorem eqInts_spec : ∀ {xs ys : List AV} {r : Bool}, eqInts xs ys = some r → ∃ ms ns : List Int, xs = ms.map (AV.int .i64) ∧ ys = ns.map (AV.int .i64) ∧ r = (ms == ns) ∧ ms.length = ns.length
  | [], [], _, h => by simp [eqInts] at h; subst h; exact ⟨[], [], rfl, rfl, rfl, rfl⟩
  | [], _ :: _, _, h => by simp [eqInts] at h
  | x :: xs, [], _, h => by unfold eqInts at h; split at h <;> simp_all
  | x :: xs, y :: ys, _, h => by
    unfold eqInts at h
    split at h
    · simp_all
    · rename_i m xs' n ys' e1 e2
      cases e1; cases e2
      simp only [Option.map_eq_some_iff] at h
      obtain ⟨r, hr, rfl⟩ := h
      obtain ⟨ms, ns, rfl, rfl, rfl, hl⟩ := eqInts_spec hr
      exact ⟨m :: ms, n :: ns, rfl, rfl, by simp, by simp [hl]⟩
    · cases h
theorem intsRel : ∀ {ms : List Int} {xs : List Value}, VRelL ρ (ms.map (AV.int .i64)) xs → xs = ms.map (Value.int .i64)
  | [], _, h => by simpa [VRelL] using h
  | m :: ms, _, h => by
    simp only [List.map_cons, VRelL, VRel] at h
    obtain ⟨x, xs, rfl, rfl, hr⟩ := h
    rw [intsRel hr]; rfl

theorem bound_spec {x : Option AX} {xo : Option Operand} (hp : prepO nt xo = some x) (hf : FrRel ρ nt a am.tmps) {dflt most m : Nat} (h : boundA a x dflt most = some m) :
    (x = none ∧ xo = none ∧ m = dflt ∧ dflt ≤ most) ∨ ∃ (y : Operand) (k : IntKind) (i : Int), xo = some y ∧ am.eval y = .int k i ∧ 0 ≤ i ∧ i ≤ (most : Int) ∧ m = i.toNat ∧ x.isSome = true := by
  cases xo with
  | none =>
    simp [prepO] at hp; subst hp
    simp only [boundA] at h
    split at h
    · cases h; exact .inl ⟨rfl, rfl, rfl, by assumption⟩
    · cases h
  | some y =>
    simp only [prepO, Option.map_eq_some_iff] at hp
    obtain ⟨ax, hax, rfl⟩ := hp
    have hv := evalX hax hf
    simp only [boundA] at h
    split at h
    · rename_i k i e
      split at h
      · rename_i hc
        cases h
        rw [e] at hv
        simp only [VRel] at hv
        exact .inr ⟨y, k, i, rfl, hv, hc.1, hc.2, rfl, rfl⟩
      · cases h
    · cases h
theorem run_sliceBound' {P : Program} {w : World} {k : IntKind} {i : Int} {y : Nat} {code : BoundsCode} (h0 : 0 ≤ i) (h1 : i ≤ (y : Int)) : (Instr.sliceBound (.int k i) y code).run P w = .ok i.toNat w := by
  simp [Instr.sliceBound, asIntOf, h0, h1]

/-- the bounds of a cut, as the machine finds them -/
theorem sliceBounds_spec (hf : FrRel ρ nt a am.tmps) {len cap : Nat} {lo' hi' mx' : Option Operand} {lx hx mx : Option AX} (hpl : prepO nt lo' = some lx) (hph : prepO nt hi' = some hx) (hpm : prepO nt mx' = some mx)
    {m h l : Nat} (isS : Bool) {mostm mosth : Nat} (hm : boundA a mx mostm mostm = some m) (hmc : mx'.isSome = true → m ≤ cap) (hh : boundA a hx len mosth = some h) (hhc : h ≤ if mx'.isSome then m else cap) (hl : boundA a lx 0 h = some l) (hmh : mx'.isSome = true → hi'.isSome = true) :
    (Instr.sliceBounds isS len cap (lo'.map am.eval) (hi'.map am.eval) (mx'.map am.eval)).run C.P w = .ok (l, h, if mx'.isSome then m else cap) w := by
  unfold Instr.sliceBounds
  rcases bound_spec hpm hf hm with ⟨_, rfl, _, _⟩ | ⟨ym, km, im, rfl, em, hm0, _, hmm, _⟩ <;> rcases bound_spec hph hf hh with ⟨_, rfl, rfl, _⟩ | ⟨yh, kh, ih, rfl, eh, hh0, _, hhh, _⟩ <;>
    rcases bound_spec hpl hf hl with ⟨_, rfl, rfl, _⟩ | ⟨yl, kl, il, rfl, el, hl0, hl1, hll, _⟩
  · simp
  · subst hll; simp [el, run_sliceBound' hl0 hl1]
  · subst hhh
    have : ih ≤ (cap : Int) := by simp at hhc; omega
    simp [eh, run_sliceBound' hh0 this]
  · subst hhh hll
    have : ih ≤ (cap : Int) := by simp at hhc; omega
    simp [eh, run_sliceBound' hh0 this, el, run_sliceBound' hl0 hl1]
  · simp at hmh
  · simp at hmh
  · subst hmm hhh
    have h1 : im ≤ (cap : Int) := by have := hmc rfl; omega
    have h2 : ih ≤ (im.toNat : Int) := by simp at hhc; omega
    simp [em, run_sliceBound' hm0 h1, eh, run_sliceBound' hh0 h2]
  · subst hmm hhh hll
    have h1 : im ≤ (cap : Int) := by have := hmc rfl; omega
    have h2 : ih ≤ (im.toNat : Int) := by simp at hhc; omega
    simp [em, run_sliceBound' hm0 h1, eh, run_sliceBound' hh0 h2, el, run_sliceBound' hl0 hl1]

theorem slice_spec (hf : FrRel ρ nt a am.tmps) {t e : TypeId} {es : Nat} (hu : C.P.underlying t = some (.slice e)) (hes : sizeA C.P e = some es) {xo : Operand} {lo' hi' mx' : Option Operand} {x : AX} {lx hx mx : Option AX}
    (hpx : prepX nt xo = some x) (hpl : prepO nt lo' = some lx) (hph : prepO nt hi' = some hx) (hpm : prepO nt mx' = some mx) (hmh : ¬ ((mx.isSome && hx.isNone) = true)) {v : AV} {H' : Heap} (hv : opA lo (.slice es x lx hx mx) a H = some (v, H')) :
    ∃ vm, (Instr.sliceAt t (am.eval xo) (lo'.map am.eval) (hi'.map am.eval) (mx'.map am.eval)).run C.P w = .ok vm w ∧ VRel ρ v vm ∧ H' = H := by
  have isS : ∀ {y : Option Operand} {z : Option AX}, prepO nt y = some z → y.isSome = z.isSome := fun {y z} e => by
    cases y with
    | none => simp [prepO] at e; subst e; rfl
    | some y => simp only [prepO, Option.map_eq_some_iff] at e; obtain ⟨_, _, rfl⟩ := e; rfl
  have hx0 := evalX hpx hf
  have hmh' : mx'.isSome = true → hi'.isSome = true := fun e => by
    rw [isS hpm] at e
    rw [isS hph]
    cases hx with
    | none => simp [e] at hmh
    | some _ => rfl
  simp only [opA] at hv
  split at hv
  · rename_i n hn
    split at hv
    · rename_i m hm
      split at hv
      · rename_i h hh
        split at hv
        · rename_i l hl
          simp only [Option.map_eq_some_iff] at hv
          obtain ⟨v', hv', e'⟩ := hv
          cases e'
          cases hxv : ev a x <;> rw [hxv] at hv' hx0 hn <;> simp only [sliceA] at hv' <;> try (cases hv'; done)
          case nils =>
            simp only [VRel] at hx0
            have hc : l + h + (if mx.isSome = true then some m else none).getD 0 = 0 := by
              by_cases hc : l + h + (if mx.isSome = true then some m else none).getD 0 = 0
              · exact hc
              · rw [if_neg hc] at hv'; cases hv'
            rw [if_pos hc] at hv'
            cases hv'
            have hn0 : n = 0 := by simp [lenA] at hn; exact hn.symm
            subst hn0
            obtain rfl : l = 0 := by omega
            obtain rfl : h = 0 := by omega
            refine ⟨.slice none 0 0, ?_, by simp [VRel], rfl⟩
            have hm0 : mx'.isSome = true → m ≤ 0 := fun e => by
              rw [isS hpm] at e
              rw [if_pos e] at hc
              simp at hc
              omega
            have := sliceBounds_spec (C := C) (w := w) hf hpl hph hpm true (len := 0) (cap := 0) hm hm0 hh (by simp) hl hmh'
            simp only [Instr.sliceAt, hx0, Sem.run_bind, run_underlying hu, Result.andThen_ok, Instr.slice, this, run_sizeOf' hes, Sem.run_pure]
            by_cases hms : mx'.isSome = true
            · have := hm0 hms; simp [hms]; omega
            · simp [hms]
          case s es' b o n' c =>
            simp only [VRel] at hx0
            obtain ⟨r, o', c', hb, hxe, hnc, hck, ho, hroom⟩ := hx0
            have hn0 : n' = n := by simp [lenA] at hn; exact hn
            subst hn0
            split at hv'
            · cases hv'
            · rename_i hes'
              have hes' : es' = es := by simpa using hes'
              subst hes'
              cases hms : mx'.isSome with
              | true =>
                have hms' := isS hpm
                rw [hms] at hms'
                rw [if_pos hms'.symm] at hv'
                simp only at hv'
                split at hv'
                · rename_i hc
                  obtain ⟨hc1, hc2, hc3⟩ := hc
                  cases hv'
                  have hmc : m ≤ c' := by omega
                  have := sliceBounds_spec (C := C) (w := w) hf hpl hph hpm true (len := n') (cap := c') hm (fun _ => hmc) hh (by rw [hms]; simpa using hc2) hl hmh'
                  refine ⟨.slice (if m = l then some (r.a.add o') else (some (r.a.add o')).map (·.add (l * es'))) (h - l) (m - l), ?_, ?_, rfl⟩
                  · simp only [Instr.sliceAt, hxe, Sem.run_bind, run_underlying hu, Result.andThen_ok, Instr.slice, this, run_sizeOf' hes, Sem.run_pure, hms, if_true]
                  · simp only [VRel]
                    by_cases hml : m = l
                    · refine ⟨r, o', m - l, hb, by simp [hml], by omega, fun k e => by cases e; rfl, fun hne => by omega, fun q hq => ?_⟩
                      have := hroom q hq
                      have h0 : m - l = 0 := by omega
                      rw [h0]; omega
                    · refine ⟨r, o' + l * es', m - l, hb, by simp [hml, Addr.add_add], by omega, fun k e => by cases e; rfl, fun hne => by rw [if_neg hml]; congr 1; exact ho (by omega), fun q hq => ?_⟩
                      have := hroom q hq
                      have h1 : (l + (m - l)) * es' ≤ c' * es' := Nat.mul_le_mul_right _ (by omega)
                      rw [Nat.add_mul] at h1
                      omega
                · cases hv'
              | false =>
                have hms' := isS hpm
                rw [hms] at hms'
                rw [if_neg (by rw [← hms']; simp)] at hv'
                simp only at hv'
                split at hv'
                · rename_i hc
                  obtain ⟨hc1, hc3⟩ := hc
                  cases hv'
                  have hhc : h ≤ c' := by omega
                  have := sliceBounds_spec (C := C) (w := w) hf hpl hph hpm true (len := n') (cap := c') hm (fun e => by rw [hms] at e; cases e) hh (by rw [hms]; simpa using hhc) hl hmh'
                  refine ⟨.slice (if c' = l then some (r.a.add o') else (some (r.a.add o')).map (·.add (l * es'))) (h - l) (c' - l), ?_, ?_, rfl⟩
                  · simp only [Instr.sliceAt, hxe, Sem.run_bind, run_underlying hu, Result.andThen_ok, Instr.slice, this, run_sizeOf' hes, Sem.run_pure, hms, Bool.false_eq_true, if_false]
                  · simp only [VRel]
                    have hcap : ∀ k, c.map (· - l) = some k → c' - l = k := fun k e => by
                      simp only [Option.map_eq_some_iff] at e
                      obtain ⟨k', hk', rfl⟩ := e
                      rw [hck k' hk']
                    by_cases hml : c' = l
                    · refine ⟨r, o', c' - l, hb, by simp [hml], by omega, hcap, fun hne => by omega, fun q hq => ?_⟩
                      have := hroom q hq
                      have h0 : c' - l = 0 := by omega
                      rw [h0]; omega
                    · refine ⟨r, o' + l * es', c' - l, hb, by simp [hml, Addr.add_add], by omega, hcap, fun hne => by congr 1; exact ho (by omega), fun q hq => ?_⟩
                      have := hroom q hq
                      have h1 : (l + (c' - l)) * es' ≤ c' * es' := Nat.mul_le_mul_right _ (by omega)
                      rw [Nat.add_mul] at h1
                      omega
                · cases hv'
        · cases hv
      · cases hv
    · cases hv
  · cases hv
end
end Go.AM

namespace Go.AM
open Go Go.RowKit
section
variable {C : Cfg} {I : World → Prop} {ρ : Mp} {L0 : Nat} {w0 w : World} {H : Heap} {nt lo : Nat} {a : Fr} {am : Act}

theorem VRel.int {k : IntKind} {n : Int} {x : Value} (h : VRel ρ (.int k n) x) : x = .int k n := by simpa [VRel] using h
theorem VRel.bool {b : Bool} {x : Value} (h : VRel ρ (.b b) x) : x = .bool b := by simpa [VRel] using h
theorem VRel.ptr {b o : Nat} {x : Value} (h : VRel ρ (.p b o) x) : ∃ r, ρ b = some r ∧ x = .pointer (some (r.a.add o)) := by simpa [VRel] using h
theorem VRel.agg {vs : List AV} {x : Value} (h : VRel ρ (.ag vs) x) : ∃ cs, x = .agg cs ∧ VRelL ρ vs cs.toList := by simpa [VRel] using h
theorem VRel.slc {es b o n : Nat} {c : Option Nat} {x : Value} (h : VRel ρ (.s es b o n c) x) : ∃ r o' c', ρ b = some r ∧ x = .slice (some (r.a.add o')) n c' ∧ (n ≤ c' ∧ c' ≤ 9223372036854775807) ∧ (∀ k, c = some k → c' = k) ∧ (n ≠ 0 → o' = o) ∧ (∀ m, r.room = some m → o' + c' * es ≤ m) := by simpa only [VRel] using h

theorem lenRel {v : AV} {x : Value} {n : Nat} (h : VRel ρ v x) (hn : lenA v = some n) : ∃ ad c, x = .slice ad n c := by
  cases v <;> simp [lenA] at hn <;> subst hn
  · simp only [VRel] at h; exact ⟨none, 0, h⟩
  · obtain ⟨r, o', c', _, e, _⟩ := h.slc; exact ⟨_, _, e⟩

theorem cells_spec (h : HRel C I ρ L0 w0 H w) {es m : Nat} {v : AV} {x : Value} (hv : VRel ρ v x) {us : List AV} (hc : cellsOf es m v H = some us) :
    ∃ xs : List Value, xs.length = m * es ∧ VRelL ρ us xs ∧ (∀ x ∈ xs, x.oneCell' = true) ∧ ∀ w2 : World, w2.heap = w.heap → (Builtin.firstCells es m x).run C.P w2 = .ok xs.toArray w2 := by
  cases v <;> simp only [cellsOf] at hc <;> try (cases hc; done)
  case nils =>
    split at hc
    · rename_i h0
      cases hc
      subst h0
      simp only [VRel] at hv
      subst hv
      exact ⟨[], by simp, by simp [VRelL], by simp, fun w2 _ => run_firstCells_none w2 es 0 0 0⟩
    · cases hc
  case s es' b o n c =>
    split at hc
    · rename_i hc1
      obtain ⟨hmn, rfl⟩ := hc1
      obtain ⟨r, o', c', hb, rfl, hnc, _, ho, _⟩ := hv.slc
      split at hc
      · rename_i h0
        cases hc
        subst h0
        exact ⟨[], by simp, by simp [VRelL], by simp, fun w2 _ => by simp [Builtin.firstCells, loadCells, loadCellsFrom]⟩
      · rename_i h0
        have ho' := ho (by omega)
        subst ho'
        obtain ⟨xs, h1, _, h3, h4, h5⟩ := cellsOfRel h hb hc
        exact ⟨xs, h1, h3, h4, fun w2 hw2 => run_firstCells_some w2 es' m (r.a.add o') n c' xs h1 fun j u hu' => by
          have := h5 j u hu'
          simpa [World.cell?, hw2] using this⟩
    · cases hc

theorem args1 {c : Array Operand} {x : AX} (h : prepXs nt c.toList = some [x]) : ∃ y, c = #[y] ∧ prepX nt y = some x := by
  obtain ⟨l⟩ := c
  match l with
  | [] => simp [prepXs] at h
  | [y] =>
    simp only [prepXs, Option.bind_eq_some_iff, Option.map_eq_some_iff, Option.some.injEq] at h
    obtain ⟨_, h1, _, rfl, e⟩ := h
    cases e
    exact ⟨y, rfl, h1⟩
  | y :: z :: l =>
    simp only [prepXs, Option.bind_eq_some_iff, Option.map_eq_some_iff] at h
    obtain ⟨_, _, _, ⟨_, _, _, _, rfl⟩, e⟩ := h
    simp at e
theorem args2 {c : Array Operand} {x x' : AX} (h : prepXs nt c.toList = some [x, x']) : ∃ y y', c = #[y, y'] ∧ prepX nt y = some x ∧ prepX nt y' = some x' := by
  obtain ⟨l⟩ := c
  match l with
  | [] => simp [prepXs] at h
  | [y] =>
    simp only [prepXs, Option.bind_eq_some_iff, Option.map_eq_some_iff, Option.some.injEq] at h
    obtain ⟨_, h1, _, rfl, e⟩ := h
    cases e
  | [y, z] =>
    simp only [prepXs, Option.bind_eq_some_iff, Option.map_eq_some_iff, Option.some.injEq] at h
    obtain ⟨_, h1, _, ⟨_, h2, _, rfl, rfl⟩, e⟩ := h
    cases e
    exact ⟨y, z, rfl, h1, h2⟩
  | y :: z :: u :: l =>
    simp only [prepXs, Option.bind_eq_some_iff, Option.map_eq_some_iff] at h
    obtain ⟨_, _, _, ⟨_, _, _, ⟨_, _, _, _, rfl⟩, rfl⟩, e⟩ := h
    simp at e
theorem argTy {ts : Array TypeId} {P : Program} {i : Nat} {d : TypeDesc} (h : (ts[i]?).bind P.underlying = some d) : ∃ t, ts[i]? = some t ∧ P.underlying t = some d := by
  simpa only [Option.bind_eq_some_iff] using h

theorem run_builtin (b : Builtin) (c : Call) (hc : c.callee = .builtin b) (o : Oper) (ho : o.op = .call c) (P : Program) :
    ∃ cs, ∀ w : World, (execOp am.eval o).run P w = (builtin b c.argTypes o.type cs (c.args.map am.eval)).run P w := by
  refine ⟨c.args.map fun | .const _ => true | _ => false, fun w => ?_⟩
  simp only [execOp, ho, resolve, hc, invoke, Sem.run_bind, Sem.run_pure, Result.andThen_ok]
  rfl

/-- append's own first argument's type alone counts -/
theorem append_types {ts : Array TypeId} {t tx ty : TypeId} (h0 : ts[0]? = some t) (h1 : ts[1]? = some tx) (args : Array Value) : Builtin.append_ ts ty args = Builtin.append_ #[t, tx] ty args := by
  unfold Builtin.append_
  rw [h0, h1]
  rfl

theorem simBuiltin (h : HRel C I ρ L0 w0 H w) (hf : FrRel ρ nt a am.tmps) (hlo : L0 ≤ lo) {b : Builtin} {c : Call} (hc : c.callee = .builtin b) {ao : AOp} (hp : prepOp C nt (.call c) = some ao) {v : AV} {H' : Heap} (hx : opA lo ao a H = some (v, H')) (o : Oper) (ho : o.op = .call c) :
    Gives C I ρ L0 w0 H w (execOp am.eval o) v H' := by
  obtain ⟨consts, run⟩ := run_builtin (am := am) b c hc o ho C.P
  obtain ⟨callee, cargs, cts⟩ := c
  simp only at hc
  subst hc
  simp only [prepOp, Option.bind_eq_some_iff] at hp
  obtain ⟨args, hargs, hp⟩ := hp
  have hal := evalXs hf hargs
  have pure1 : ∀ {x : Value} {s : Sem Value}, (∀ w, (execOp am.eval o).run C.P w = (do pure (.value (← s)) : Sem Next).run C.P w) → s.run C.P w = .ok x w → VRel ρ v x → H' = H → Gives C I ρ L0 w0 H w (execOp am.eval o) v H' := fun {x s} h1 h2 h3 h4 => by
    subst h4
    refine Gives.pure h (x := x) ?_ h3
    rw [h1 w]; simp [h2]
  cases b <;> simp only at hp <;> try (cases hp; done)
  case append =>
    split at hp
    · rename_i x y e u h0 h1
      obtain ⟨t, ht0, ht⟩ := argTy h0
      obtain ⟨tx, htx0, htx⟩ := argTy h1
      simp only [Option.bind_eq_some_iff] at hp
      obtain ⟨es, hes, by', hby, z, hz, hp⟩ := hp
      obtain ⟨sx, xx, rfl, hsx, hxx⟩ := args2 hargs
      obtain ⟨i, zv, hi, hzv, hzr⟩ := zeroA_spec hz
      have hsz : i.size = es := by simp only [sizeA, Option.map_eq_some_iff] at hes; obtain ⟨i', hi', rfl⟩ := hes; rw [hi] at hi'; cases hi'; rfl
      have hbz : i.bytes = by' := by simp only [bytesA, Option.map_eq_some_iff] at hby; obtain ⟨i', hi', rfl⟩ := hby; rw [hi] at hi'; cases hi'; rfl
      split at hp
      · cases hp
      · rename_i hcond
        have hb0 : by' ≠ 0 := fun e => hcond (.inl e)
        have hzl : z.length = es := by
          by_cases e : z.length = es
          · exact e
          · exact absurd (.inr e) hcond
        have hzrel : VRelL ρ z zv.cells.toList := toAVs_rel (fun v x e => (toAV1_rel e).1) hzr
        have hzs : zv.cells.size = i.size := by have := hzrel.length; simp at this; omega
        have hsv := evalX hsx hf
        have hxv := evalX hxx hf
        have fin : ∀ {m : Nat} {us : List AV} {news : List Value}, AppSrc C.P t tx e i (am.eval xx) m news w → VRelL ρ us news → appendA lo es by' (ev a x) us m H = some (v, H') → Gives C I ρ L0 w0 H w (execOp am.eval o) v H' := fun {m us news} hsrc hu hap => by
          obtain ⟨ρ', vm, w', hr, hv, hH, hEx⟩ := append_spec h hlo (ty := o.type) hsz hbz hb0 hsv hsrc hu hap
          refine Gives.val ρ' vm w' ?_ hv hH hEx
          rw [run w]
          simp only [builtin]
          rw [append_types ht0 htx0]
          simp [hr]
        split at hp
        · rename_i k
          cases hp
          simp only [opA] at hx
          split at hx
          · rename_i n hn
            rw [hn] at hxv
            have hxe := hxv.int
            split at hx
            · rename_i hc
              obtain ⟨hn0, hn1, hnb, _⟩ := hc
              rw [mostBytes_val] at hnb
              have hcast : ((n.toNat : Nat) : Int) = n := by omega
              have hone : ∀ u ∈ zv.cells.toList, u.oneCell' = true := hzrel.one (toAVs_one hzr)
              have hsrc := appSrc_zeros (P := C.P) (w := w) (tx := tx) (k := k) ht hi hzv hzs htx hone (kx := .i64) (m := n.toNat) (by omega) (by rw [hbz]; omega)
              rw [hcast, ← hxe] at hsrc
              refine fin hsrc ?_ hx
              have := reps_rel hzrel n.toNat (n.toNat * zv.cells.size) rfl
              simpa [Builtin.zeroCells] using this
            · cases hx
          · cases hx
        · rename_i e'
          cases hp
          simp only [opA] at hx
          split at hx
          · rename_i m hm
            split at hx
            · rename_i us hus
              obtain ⟨news, h1, h2, h3, h4⟩ := cells_spec h hxv hus
              obtain ⟨ad, cc, hxe⟩ := lenRel hxv hm
              refine fin (appSrc_slice ht hi hzv hzs ⟨.inl ⟨e', htx⟩, fun w' => by rw [hxe]; rfl, by rw [hsz]; exact h4 w rfl, by rw [hsz]; exact h4 w.drew rfl, by rw [hsz]; exact h1, h3⟩) h2 hx
            · cases hx
          · cases hx
        · cases hp
    · cases hp
  case clear =>
    split at hp
    · rename_i x e h0
      obtain ⟨t, ht0, ht⟩ := argTy h0
      simp only [Option.bind_eq_some_iff] at hp
      obtain ⟨es, hes, z, hz, hp⟩ := hp
      split at hp
      · cases hp
      · rename_i hzl
        have hzl : z.length = es := by simpa using hzl
        cases hp
        obtain ⟨y, rfl, hy⟩ := args1 hargs
        have hyv := evalX hy hf
        obtain ⟨i, zv, hi, hzv, hzr⟩ := zeroA_spec hz
        have hzrel : VRelL ρ z zv.cells.toList := toAVs_rel (fun v x e => (toAV1_rel e).1) hzr
        have hone : ∀ u ∈ zv.cells.toList, u.oneCell' = true := hzrel.one (toAVs_one hzr)
        simp only [opA] at hx
        split at hx
        · rename_i es' b off n c hd
          rw [hd] at hyv
          obtain ⟨r, o', c', hb, hde, hnc, _, hoff, _⟩ := hyv.slc
          split at hx
          · cases hx
          · rename_i hes'
            have hes' : es' = es := by simpa using hes'
            subst hes'
            split at hx
            · rename_i hn0
              cases hx
              subst hn0
              exact Gives.val ρ (.tuple #[]) w (by rw [run w]; simp [builtin, Builtin.clear_, ht0, run_underlying ht, hde]) (by simp only [VRel]; exact ⟨#[], rfl, by simp [VRelL]⟩) h (Ext.refl ..)
            · rename_i hn0
              obtain ⟨H2, hH2, e2⟩ := Option.map_eq_some_iff.1 hx
              cases e2
              have hrel : VRelL ρ (reps n z) (Builtin.zeroCells zv.cells n).toList := by
                have := reps_rel hzrel n (n * zv.cells.size) rfl
                simpa [Builtin.zeroCells] using this
              have hall : ∀ u ∈ (Builtin.zeroCells zv.cells n).toList, u.oneCell' = true := by
                intro u hu
                simp only [Builtin.zeroCells, Array.toList_map, List.mem_map] at hu
                obtain ⟨j, hj, rfl⟩ := hu
                simp at hj
                have hlt : j % zv.cells.size < zv.cells.size := Nat.mod_lt _ (Nat.pos_of_ne_zero fun h0 => by rw [h0] at hj; simp at hj)
                have : zv.cells[j % zv.cells.size]! = zv.cells[j % zv.cells.size] := by simp [hlt]
                rw [this]
                exact hone _ (Array.mem_toList_iff.2 (Array.getElem_mem hlt))
              unfold st at hH2
              split at hH2
              · rename_i hle
                split at hH2
                · rename_i vs hk
                  split at hH2
                  · rename_i hlen
                    cases hH2
                    have ho' := hoff hn0
                    subst ho'
                    obtain ⟨hH, hEx, hst⟩ := HRel.store (n := H.length) h hb (by omega) hk hlen hrel hall
                    refine Gives.val ρ (.tuple #[]) _ ?_ (by simp only [VRel]; exact ⟨#[], rfl, by simp [VRelL]⟩) hH hEx
                    rw [run w]
                    obtain ⟨m, rfl⟩ : ∃ m, n = m + 1 := ⟨n - 1, by omega⟩
                    simp [builtin, Builtin.clear_, ht0, run_underlying ht, hde, run_zeroValue' hi hzv, hst]
                  · cases hH2
                · cases hH2
              · cases hH2
        · rename_i hd
          cases hx
          rw [hd] at hyv
          simp only [VRel] at hyv
          exact Gives.val ρ (.tuple #[]) w (by rw [run w]; simp [builtin, Builtin.clear_, ht0, run_underlying ht, hyv]) (by simp only [VRel]; exact ⟨#[], rfl, by simp [VRelL]⟩) h (Ext.refl ..)
        · cases hx
    · cases hp
  case cap =>
    split at hp
    · rename_i x e h0
      obtain ⟨t, ht0, ht⟩ := argTy h0
      obtain ⟨y, rfl, hy⟩ := args1 hargs
      cases hp
      have hv := evalX hy hf
      simp only [opA] at hx
      split at hx
      · rename_i e1
        cases hx
        rw [e1] at hv
        simp only [VRel] at hv
        exact pure1 (x := goInt 0) (s := Builtin.cap_ cts o.type (#[y].map am.eval)) (fun w => by rw [run w]; rfl) (by simp [Builtin.cap_, ht0, run_underlying ht, hv]) (by simp [VRel, goInt]) rfl
      · rename_i e1
        cases hx
        rw [e1] at hv
        obtain ⟨r, o', c', _, hxe, _, hck, _⟩ := hv.slc
        have := hck _ rfl
        subst this
        exact pure1 (x := goInt c') (s := Builtin.cap_ cts o.type (#[y].map am.eval)) (fun w => by rw [run w]; rfl) (by simp [Builtin.cap_, ht0, run_underlying ht, hxe]) (by simp [VRel, goInt]) rfl
      · cases hx
    · cases hp
  case copy =>
    split at hp
    · rename_i x y e h0
      obtain ⟨t, ht0, ht⟩ := argTy h0
      simp only [Option.map_eq_some_iff] at hp
      obtain ⟨es, hes, rfl⟩ := hp
      obtain ⟨dx, sx, rfl, hdx, hsx⟩ := args2 hargs
      have hdv := evalX hdx hf
      have hsv := evalX hsx hf
      simp only [opA] at hx
      split at hx
      · rename_i es' b off n c m hd hm
        rw [hd] at hdv
        obtain ⟨r, o', c', hb, hde, hnc, _, hoff, _⟩ := hdv.slc
        split at hx
        · cases hx
        · rename_i hes'
          have hes' : es' = es := by simpa using hes'
          subst hes'
          split at hx
          · rename_i us hus
            obtain ⟨xs, h1, h2, h3, h4⟩ := cells_spec h hsv hus
            obtain ⟨ad, cc, hse⟩ := lenRel hsv hm
            have hrun : ∀ w', (storeCells (r.a.add o') xs).run C.P w = .ok () w' → (execOp am.eval o).run C.P w = .ok (.value (goInt ((min m n : Nat) : Int))) w' := fun w' hw' => by
              rw [run w]
              have h4' := h4 w rfl
              rw [hse] at h4'
              have hmin : m.min n = min m n := rfl
              simp [builtin, Builtin.copy_, ht0, run_underlying ht, hde, hse, Builtin.lenOf, run_sizeOf' hes, hmin, h4', hw']
            split at hx
            · rename_i hnil
              cases hx
              subst hnil
              simp only [VRelL] at h2
              subst h2
              exact Gives.val ρ (goInt ((min m n : Nat) : Int)) w (hrun w (by simp [storeCells])) (by simp [VRel, goInt]) h (Ext.refl ..)
            · rename_i hne
              split at hx
              · rename_i h1s
                simp only [Option.map_eq_some_iff] at hx
                obtain ⟨H2, hH2, e2⟩ := hx
                cases e2
                unfold st at hH2
                split at hH2
                · rename_i hle
                  split at hH2
                  · rename_i vs hk
                    split at hH2
                    · rename_i hlen
                      cases hH2
                      have hn0 : n ≠ 0 := fun e => by
                        subst e
                        have : xs.length = 0 := by rw [h1]; simp
                        have := h2.length
                        exact hne (List.eq_nil_of_length_eq_zero (by omega))
                      have ho' := hoff hn0
                      subst ho'
                      obtain ⟨hH, hEx, hst⟩ := HRel.store (n := H.length) h hb (by omega) hk hlen h2 h3
                      exact Gives.val ρ (goInt ((min m n : Nat) : Int)) _ (hrun _ hst) (by simp [VRel, goInt]) hH hEx
                    · cases hH2
                  · cases hH2
                · cases hH2
              · cases hx
          · cases hx
      · rename_i m hd hm
        cases hx
        rw [hd] at hdv
        simp only [VRel] at hdv
        obtain ⟨ad, cc, hse⟩ := lenRel hsv hm
        refine pure1 (x := goInt 0) (s := Builtin.copy_ cts o.type (#[dx, sx].map am.eval)) (fun w => by rw [run w]; rfl) ?_ (by simp [VRel, goInt]) rfl
        cases ad <;> simp [Builtin.copy_, ht0, run_underlying ht, hdv, hse, Builtin.lenOf, run_sizeOf' hes, Builtin.firstCells, loadCells, loadCellsFrom]
      · cases hx
    · cases hp
  case len =>
    split at hp
    · rename_i x e h0
      obtain ⟨t, ht0, ht⟩ := argTy h0
      obtain ⟨y, rfl, hy⟩ := args1 hargs
      cases hp
      simp only [opA] at hx
      obtain ⟨n, hn, e1⟩ := Option.map_eq_some_iff.1 hx
      cases e1
      obtain ⟨ad, c, hxe⟩ := lenRel (evalX hy hf) hn
      exact pure1 (x := goInt n) (s := Builtin.len_ cts o.type (#[y].map am.eval)) (fun w => by rw [run w]; rfl) (by simp [Builtin.len_, ht0, run_underlying ht, hxe]) (by simp [VRel, goInt]) rfl
    · rename_i y n e h0
      obtain ⟨t, ht0, ht⟩ := argTy h0
      obtain ⟨y, rfl, hy⟩ := args1 hargs
      cases hp
      simp only [opA] at hx
      cases hx
      exact pure1 (x := goInt n) (s := Builtin.len_ cts o.type (#[y].map am.eval)) (fun w => by rw [run w]; rfl) (by simp [Builtin.len_, ht0, run_underlying ht]) (by simp [VRel, goInt]) rfl
    · cases hp
  case max =>
    split at hp
    · cases hp
    · cases hp
      simp only [opA] at hx
      split at hx
      · rename_i k x r e
        simp only [Option.map_eq_some_iff] at hx
        obtain ⟨n, hn, e1⟩ := hx
        cases e1
        rw [e] at hal
        simp only [VRelL, VRel] at hal
        obtain ⟨y, ys, hys, rfl, hr⟩ := hal
        refine pure1 (x := .int k n) (s := Builtin.max_ cts o.type (cargs.map am.eval)) (fun w => by rw [run w]; rfl) ?_ (by simp [VRel]) rfl
        have : (cargs.map am.eval).toList = .int k x :: ys := by simpa using hys
        simp only [Builtin.max_, this]
        exact foldMax_spec hr hn
      · cases hx
  case min =>
    split at hp
    · cases hp
    · cases hp
      simp only [opA] at hx
      split at hx
      · rename_i k x r e
        simp only [Option.map_eq_some_iff] at hx
        obtain ⟨n, hn, e1⟩ := hx
        cases e1
        rw [e] at hal
        simp only [VRelL, VRel] at hal
        obtain ⟨y, ys, hys, rfl, hr⟩ := hal
        refine pure1 (x := .int k n) (s := Builtin.min_ cts o.type (cargs.map am.eval)) (fun w => by rw [run w]; rfl) ?_ (by simp [VRel]) rfl
        have : (cargs.map am.eval).toList = .int k x :: ys := by simpa using hys
        simp only [Builtin.min_, this]
        exact foldMin_spec hr hn
      · cases hx
end
end Go.AM

namespace Go.AM
open Go Go.RowKit
section
variable {C : Cfg} {I : World → Prop} {ρ : Mp} {L0 : Nat} {w0 w : World} {H : Heap} {nt lo : Nat} {a : Fr} {am : Act}

theorem sizeA_info {t : TypeId} {n : Nat} (h : sizeA C.P t = some n) : ∃ i, C.P.info? t = some i ∧ i.size = n := by
  simpa only [sizeA, Option.map_eq_some_iff] using h
theorem VRel.intOf {k : IntKind} {n : Int} {x : Value} (h : VRel ρ (.int k n) x) : x = .int k n := h.int

def partA (sh : Option Nat) (vs : List AV) (off : Nat) : Option AV :=
  match sh with
  | none => vs[off]?
  | some n => if off + n ≤ vs.length then some (.ag ((vs.drop off).take n)) else none
theorem part_spec {t : TypeId} {sh : Option Nat} (hs : shapeA C.P t = some sh) {vs : List AV} {cs : Array Value} (hr : VRelL ρ vs cs.toList) {off : Nat} {v : AV}
    (hv : partA sh vs off = some v) : ∃ x, (part t cs off).run C.P w = .ok x w ∧ VRel ρ v x := by
  cases sh with
  | none =>
    simp only [partA] at hv
    obtain ⟨x, hx, hrx⟩ := hr.get hv
    refine ⟨x, ?_, hrx⟩
    have hx' : cs[off]? = some x := by simpa using hx
    simp [part, shapeA_none hs, hx']
  | some n =>
    simp only [partA] at hv
    split at hv
    · cases hv
      obtain ⟨h1, h2⟩ := shapeA_some hs w
      refine ⟨.agg (cs.extract off (off + n)), by simp [part, h1, run_sizeOf' h2], ?_⟩
      simp only [VRel]
      refine ⟨_, rfl, ?_⟩
      have : (cs.extract off (off + n)).toList = (cs.toList.drop off).take n := by simp [Array.toList_extract]
      rw [this]
      exact (hr.drop off).take n
    · cases hv

theorem run_equalIn_nils {t e : TypeId} (ht : C.P.underlying t = some (.slice e)) (d : Nat) {p q : Option Addr} {l1 c1 l2 c2 : Nat} (hn : p = none ∨ q = none) :
    (Op.equalIn (d + 1) t (.slice p l1 c1) (.slice q l2 c2)).run C.P w = .ok (p.isNone && q.isNone) w := by
  rcases hn with rfl | rfl
  · cases q <;> simp [Op.equalIn, run_underlying ht]
  · cases p <;> simp [Op.equalIn, run_underlying ht]
theorem run_equal_nils {t e : TypeId} (ht : C.P.underlying t = some (.slice e)) {p q : Option Addr} {l1 c1 l2 c2 : Nat} (hn : p = none ∨ q = none) :
    (Op.equal t (.slice p l1 c1) (.slice q l2 c2)).run C.P w = .ok (p.isNone && q.isNone) w := run_equalIn_nils ht 9999 hn
theorem run_seq_nil {t e : TypeId} (ht : C.P.underlying t = some (.slice e)) (neg : Bool) {p q : Option Addr} {l1 c1 l2 c2 : Nat} (hn : p = none ∨ q = none) {xo yo : Operand} :
    (do eqGuard (if neg then .neq else .eql) t xo yo (.slice p l1 c1) (.slice q l2 c2); binOp (if neg then .neq else .eql) t (.slice p l1 c1) (.slice q l2 c2) : Sem Value).run C.P w = .ok (.bool ((p.isNone && q.isNone) != neg)) w := by
  have := run_equal_nils (w := w) ht (p := p) (q := q) (l1 := l1) (c1 := c1) (l2 := l2) (c2 := c2) hn
  cases neg
  · simp only [Bool.false_eq_true, if_false, binOp]
    simp [eqGuard, this]
  · simp only [if_true, binOp]
    simp [eqGuard, this]

theorem prepO_isSome {y : Option Operand} {z : Option AX} (e : prepO nt y = some z) : y.isSome = z.isSome := by
  cases y with
  | none => simp [prepO] at e; subst e; rfl
  | some y => simp only [prepO, Option.map_eq_some_iff] at e; obtain ⟨_, _, rfl⟩ := e; rfl

theorem simBin (h : HRel C I ρ L0 w0 H w) (hf : FrRel ρ nt a am.tmps) (hEq : EqOk C) {op : BinOp} {t : TypeId} {x y : Operand} {fused : TypeId} {ao : AOp} (hp : prepOp C nt (.binOp op t x y fused) = some ao) {v : AV} {H' : Heap} (hx : opA lo ao a H = some (v, H')) (o : Oper) (ho : o.op = .binOp op t x y fused) :
    Gives C I ρ L0 w0 H w (execOp am.eval o) v H' := by
  have pure1 : ∀ {x : Value} {s : Sem Value}, (execOp am.eval o) = (do pure (.value (← s)) : Sem Next) → s.run C.P w = .ok x w → VRel ρ v x → H' = H → Gives C I ρ L0 w0 H w (execOp am.eval o) v H' := fun {x s} h1 h2 h3 h4 => by
    subst h4
    refine Gives.pure h (x := x) ?_ h3
    rw [h1]; simp [h2]
  simp only [prepOp] at hp
  simp only [Option.bind_eq_some_iff] at hp
  obtain ⟨x', hx', y', hy', hp⟩ := hp
  have hxv := evalX hx' hf
  have hyv := evalX hy' hf
  have hE : execOp am.eval o = (do pure (.value (← (do eqGuard op t x y (am.eval x) (am.eval y); binOp op t (am.eval x) (am.eval y)))) : Sem Next) := by rw [execOp, ho]
  split at hp
  · cases hp
    simp only [opA] at hx
    obtain ⟨u, hu, e⟩ := Option.map_eq_some_iff.1 hx
    cases e
    obtain ⟨vm, h1, h2⟩ := binA_spec (C := C) (t := t) (xo := x) (yo := y) hxv hyv hu w
    exact pure1 hE h1 h2 rfl
  · rename_i ht
    split at hp
    · cases hp
      simp only [opA] at hx
      split at hx
      · rename_i p q e1 e2
        cases hx
        rw [e1] at hxv; rw [e2] at hyv
        refine pure1 hE (x := .bool ((p == q) != false)) ?_ (by simp [VRel]) rfl
        rw [hxv.bool, hyv.bool]
        simp [eqGuard, run_eql_bool w t p q ht]
      · cases hx
    · cases hp
      simp only [opA] at hx
      split at hx
      · rename_i p q e1 e2
        cases hx
        rw [e1] at hxv; rw [e2] at hyv
        refine pure1 hE (x := .bool ((p == q) != true)) ?_ (by simp [VRel]) rfl
        rw [hxv.bool, hyv.bool]
        simp [eqGuard, run_neq_bool w t p q ht]
      · cases hx
    · cases hp
  · rename_i e ht
    have key : ∀ (neg : Bool), (op = if neg then .neq else .eql) → opA lo (.seq neg x' y') a H = some (v, H') → Gives C I ρ L0 w0 H w (execOp am.eval o) v H' := fun neg hop hx => by
      simp only [opA] at hx
      have go : ∀ (p q : Option Addr) (l1 c1 l2 c2 : Nat), am.eval x = .slice p l1 c1 → am.eval y = .slice q l2 c2 → (p = none ∨ q = none) → v = .b ((p.isNone && q.isNone) != neg) → H' = H → Gives C I ρ L0 w0 H w (execOp am.eval o) v H' := fun p q l1 c1 l2 c2 e1 e2 hn hv hH => by
        subst hv
        refine pure1 hE (x := .bool ((p.isNone && q.isNone) != neg)) ?_ (by simp [VRel]) hH
        rw [e1, e2]
        rw [hop]
        exact run_seq_nil ht neg hn
      split at hx
      · rename_i e1 e2
        cases hx
        rw [e1] at hxv; rw [e2] at hyv
        simp only [VRel] at hxv hyv
        exact go none none 0 0 0 0 hxv hyv (.inl rfl) (by simp) rfl
      · rename_i e1 e2
        cases hx
        rw [e1] at hxv; rw [e2] at hyv
        simp only [VRel] at hxv
        obtain ⟨r, o', c', _, e3, _⟩ := hyv.slc
        exact go none _ 0 0 _ _ hxv e3 (.inl rfl) (by simp) rfl
      · rename_i e1 e2
        cases hx
        rw [e1] at hxv; rw [e2] at hyv
        simp only [VRel] at hyv
        obtain ⟨r, o', c', _, e3, _⟩ := hxv.slc
        exact go _ none _ _ 0 0 e3 hyv (.inr rfl) (by simp) rfl
      · cases hx
    split at hp
    · cases hp; exact key false rfl hx
    · cases hp; exact key true rfl hx
    · cases hp
  · obtain ⟨n, hn, hp⟩ := Option.bind_eq_some_iff.1 hp
    have key : ∀ (neg : Bool), (op = if neg then .neq else .eql) → opA lo (.aeq neg n x' y') a H = some (v, H') → Gives C I ρ L0 w0 H w (execOp am.eval o) v H' := fun neg hop hx => by
      simp only [opA] at hx
      split at hx
      · rename_i xs ys e1 e2
        split at hx
        · rename_i hl
          obtain ⟨r, hr, e⟩ := Option.map_eq_some_iff.1 hx
          cases e
          obtain ⟨ms, ns, rfl, rfl, rfl, _⟩ := eqInts_spec hr
          rw [e1] at hxv; rw [e2] at hyv
          obtain ⟨cs, hcs, r1⟩ := hxv.agg
          obtain ⟨ds, hds, r2⟩ := hyv.agg
          have hc1 := intsRel r1
          have hd1 := intsRel r2
          have hc : cs = ints ms := by apply Array.ext'; simpa [ints] using hc1
          have hd : ds = ints ns := by apply Array.ext'; simpa [ints] using hd1
          refine pure1 hE (x := .bool ((ms == ns) != neg)) ?_ (by simp [VRel]) rfl
          rw [hcs, hds, hc, hd, hop]
          simp only [List.length_map] at hl
          exact hEq t n hn ms ns hl.1 hl.2 neg x y w
        · cases hx
      · cases hx
    split at hp
    · cases hp; exact key false rfl hx
    · cases hp; exact key true rfl hx
    · cases hp

/-! ### Maps -/
theorem keyA_map : ∀ {vs : List AV} {ks : List Int}, keyA vs = some ks → vs = ks.map (AV.int .i64)
  | [], _, h => by cases h; rfl
  | x :: r, _, h => by
    unfold keyA at h
    split at h
    · rename_i e; cases e
    · rename_i n r' e
      cases e
      obtain ⟨u, hu, rfl⟩ := Option.map_eq_some_iff.1 h
      rw [keyA_map hu]; rfl
    · cases h
theorem run_findAsking {kt : TypeId} {n : Nat} (heq : ∀ (xs ys : List Int), xs.length = n → ys.length = n → ∀ (w : World), (Op.equal kt (.agg (ints xs)) (.agg (ints ys))).run C.P w = .ok (xs == ys) w)
    {k : List Int} (hk : k.length = n) (w : World) : ∀ {es : List (List Int × AV)} {ks : List MapEntry} (i : Nat), (∀ e ∈ es, e.1.length = n) → ERel ρ es ks →
    (es.find? (fun e => e.1 == k) = none ∧ (Instr.findAsking kt (.agg (ints k)) ks i).run C.P w = .ok none w) ∨
    ∃ e j v, es.find? (fun e => e.1 == k) = some e ∧ (Instr.findAsking kt (.agg (ints k)) ks i).run C.P w = .ok (some (j, v)) w ∧ VRel ρ e.2 v
  | [], ks, i, _, h => by
    have : ks = [] := by simpa using h.1
    subst this
    exact .inl ⟨rfl, by simp [Instr.findAsking]⟩
  | e :: es, ks, i, hn, h => by
    obtain ⟨h1, h2⟩ := h
    cases ks with
    | nil => simp at h1
    | cons q ks =>
      simp only [List.map_cons, List.cons.injEq] at h1
      simp only [List.map_cons, VRelL, List.cons.injEq] at h2
      obtain ⟨x, xs, ⟨rfl, rfl⟩, h2, h3⟩ := h2
      have hq := heq k e.1 hk (hn e (by simp)) w
      have hkey : q.key = .agg (ints e.1) := h1.1
      by_cases he : e.1 = k
      · refine .inr ⟨e, i, q.val, by simp [he], ?_, h2⟩
        rw [he] at hkey hq
        simp [Instr.findAsking, hkey, hq]
      · have he' : ¬ k = e.1 := fun q => he q.symm
        rcases run_findAsking heq hk w (i + 1) (fun e' h' => hn e' (by simp [h'])) ⟨h1.2, h3⟩ with ⟨g1, g2⟩ | ⟨e', j, v, g1, g2, g3⟩
        · exact .inl ⟨by simp [he, g1], by simp [Instr.findAsking, hkey, hq, he', g2]⟩
        · exact .inr ⟨e', j, v, by simp [he, g1], by simp [Instr.findAsking, hkey, hq, he', g2], g3⟩
theorem run_findKey {kt : TypeId} {n l e : Nat} (hu : C.P.underlying kt = some (.array l e)) (heq : ∀ (xs ys : List Int), xs.length = n → ys.length = n → ∀ (w : World), (Op.equal kt (.agg (ints xs)) (.agg (ints ys))).run C.P w = .ok (xs == ys) w)
    {k : List Int} (hk : k.length = n) (w : World) {es : List (List Int × AV)} {ks : List MapEntry} (hn : ∀ e ∈ es, e.1.length = n) (h : ERel ρ es ks) :
    (es.find? (fun e => e.1 == k) = none ∧ (Instr.findKey kt (.agg (ints k)) ks).run C.P w = .ok none w) ∨
    ∃ e j v, es.find? (fun e => e.1 == k) = some e ∧ (Instr.findKey kt (.agg (ints k)) ks).run C.P w = .ok (some (j, v)) w ∧ VRel ρ e.2 v := by
  have hf := run_findAsking heq hk w 0 hn h
  cases ks with
  | nil =>
    have : es = [] := by simpa using h.1
    subst this
    exact .inl ⟨rfl, by simp [Instr.findKey, run_underlying hu, Instr.findNow]⟩
  | cons q ks =>
    have h0 : Instr.findNow (.array l e) (.agg (ints k)) (q :: ks) 0 = none := by simp [Instr.findNow, Instr.sameNow]
    have : (Instr.findKey kt (.agg (ints k)) (q :: ks)).run C.P w = (Instr.findAsking kt (.agg (ints k)) (q :: ks)).run C.P w := by simp [Instr.findKey, run_underlying hu, h0]
    rw [this]; exact hf
theorem mapAt_spec {n b : Nat} {es : List (List Int × AV)} (h : mapAt lo n H b = some es) : lo ≤ b ∧ H[b]? = some (.map n es) := by
  unfold mapAt at h
  split at h
  · rename_i hl
    split at h
    · rename_i m es' e
      split at h
      · rename_i hm; cases h; subst hm; exact ⟨hl, e⟩
      · cases h
    · cases h
  · cases h
theorem zero1A_spec {t : TypeId} {z : AV} (h : zero1A C.P t = some z) (w : World) : ∃ zv, (zeroValue t).run C.P w = .ok zv w ∧ VRel ρ z zv := by
  unfold zero1A at h
  split at h
  · rename_i i hi
    split at h
    · rename_i zv hz; exact ⟨zv, run_zeroValue' hi hz w, (toAV1_rel h).1⟩
    · cases h
  · cases h
theorem VRel.mp {b : Nat} {x : Value} (h : VRel ρ (.m b) x) : ∃ r, ρ b = some r ∧ x = .map (some r.a.block) := by simpa only [VRel] using h
theorem VRel.agInts {vs : List AV} {ks : List Int} {x : Value} (h : VRel ρ (.ag vs) x) (hk : keyA vs = some ks) : x = .agg (ints ks) := by
  simp only [VRel] at h
  obtain ⟨cs, rfl, hr⟩ := h
  rw [keyA_map hk] at hr
  have := intsRel hr
  congr 1
  rw [← Array.toList_inj, this]; simp [ints]
theorem gives_mkmap (h : HRel C I ρ L0 w0 H w) {t : TypeId} {n : Nat} : Gives C I ρ L0 w0 H w (do pure (.value (← Instr.makeMap t none))) (.m H.length) (H ++ [.map n []]) := by
  have hn : (w.alloc (.map #[] 0)).heap[w.heap.size]? = some (.map #[] 0) := World.alloc_heap_new w _
  have hk : BRel C (ρ.add H.length ⟨⟨w.heap.size, 0, none⟩, some 0⟩) True w0.heap.size (w.alloc (.map #[] 0)) ⟨⟨w.heap.size, 0, none⟩, some 0⟩ (.map n []) :=
    fun _ => ⟨#[], 0, hn, ⟨rfl, by simp [VRelL]⟩, fun e he => by cases he⟩
  obtain ⟨hH, hE⟩ := HRel.push h (.map #[] 0) (.map n []) (some 0) 0 hk
  refine Gives.val _ (.map (some w.heap.size)) _ ?_ ?_ hH hE
  · simp [Instr.makeMap]
  · simp only [VRel]; exact ⟨_, Mp.add_same .., rfl⟩

theorem simSet (h : HRel C I ρ L0 w0 H w) (hf : FrRel ρ nt a am.tmps) (hlo : L0 ≤ lo) (hKey : KeyOk C) {t : TypeId} {x i y : Operand} {ao : AOp} (hp : prepOp C nt (.mapUpdate t x i y) = some ao) {v : AV} {H' : Heap} (hx : opA lo ao a H = some (v, H'))
    (o : Oper) (ho : execOp am.eval o = (do Instr.mapUpdate t (am.eval x) (am.eval i) (am.eval y); pure .skip : Sem Next)) : Gives C I ρ L0 w0 H w (execOp am.eval o) v H' := by
  simp only [prepOp, Option.bind_eq_some_iff, Option.map_eq_some_iff] at hp
  obtain ⟨n, hn, x', hx', i', hi', y', hy', rfl⟩ := hp
  obtain ⟨kt, et, l, e, hut, huk, hck, heq⟩ := hKey t n hn
  simp only [opA] at hx
  split at hx
  · rename_i b vs e1 e2
    obtain ⟨H2, hu, e3⟩ := Option.map_eq_some_iff.1 hx
    cases e3
    have hxv := evalX hx' hf
    have hiv := evalX hi' hf
    have hyv := evalX hy' hf
    rw [e1] at hxv
    rw [e2] at hiv
    obtain ⟨r, hr, hxe⟩ := hxv.mp
    unfold mapSet at hu
    obtain ⟨es, hes, hu⟩ := Option.bind_eq_some_iff.1 hu
    split at hu
    · rename_i hvn
      obtain ⟨ks, hks, hu⟩ := Option.bind_eq_some_iff.1 hu
      split at hu
      · cases hu
      · rename_i hany
        cases hu
        have hie := hiv.agInts hks
        have hkn : ks.length = n := by have := keyA_map hks; rw [this] at hvn; simpa using hvn
        obtain ⟨hlb, hb⟩ := mapAt_spec hes
        obtain ⟨ms, c, hm, hER, hln⟩ := h.blk b r _ hr hb (by omega)
        have hg : (getObj r.a.block).run C.P w = .ok (.map ms c) w := by simp [getObj, Sem.run, hm]
        have hnone : es.find? (fun e => e.1 == ks) = none := by
          rw [List.find?_eq_none]
          intro q hq he
          exact hany (List.any_eq_true.2 ⟨q, hq, he⟩)
        have hck' := hck ks hkn false w
        rcases run_findKey huk heq hkn w hln hER with ⟨g1, g2⟩ | ⟨e', j, v, g1, g2, g3⟩
        · obtain ⟨o1, o2, o3⟩ := h.own b r hr (by omega)
          have hsz := o2
          have hset : (w.putObj r.a.block (.map (ms.push ⟨.agg (ints ks), am.eval y, c⟩) (c + 1))).heap[r.a.block]? = some (.map (ms.push ⟨.agg (ints ks), am.eval y, c⟩) (c + 1)) := World.putObj_heap_same o2
          have hoth : ∀ pb, pb ≠ r.a.block → pb < w.heap.size → (w.putObj r.a.block (.map (ms.push ⟨.agg (ints ks), am.eval y, c⟩) (c + 1))).heap[pb]? = w.heap[pb]? := fun pb e _ => World.putObj_heap_other e
          have hbel : Below w0.heap.size w (w.putObj r.a.block (.map (ms.push ⟨.agg (ints ks), am.eval y, c⟩) (c + 1))) := ⟨rfl, rfl, rfl, by simp, fun k hk => World.putObj_heap_other (by omega)⟩
          refine ⟨ρ, .skip, undef, w.putObj r.a.block (.map (ms.push ⟨.agg (ints ks), am.eval y, c⟩) (c + 1)), ?_, .inr ⟨rfl, rfl⟩, by simp only [VRel, undef]; exact ⟨#[], rfl, by simp [VRelL]⟩,
            HRel.turn h hr (by omega) hb trivial _ (h.below.trans hbel) (by simp) hoth ?_, Ext.turn hr (by omega) (by simp) hoth⟩
          · rw [ho, hxe, hie]
            have hso : ∀ ob, (setObj r.a.block ob).run C.P w = .ok () (w.putObj r.a.block ob) := fun ob => by simp [setObj, Sem.run, hm, World.putObj]
            simp [Instr.mapUpdate, run_underlying hut, hg, hck', g2, hso]
          · refine fun _ => ⟨_, _, hset, ⟨?_, ?_⟩, ?_⟩
            · simp [hER.1, ints]
            · simp only [Array.toList_push, List.map_append, List.map_cons, List.map_nil]
              exact hER.2.append (by simp only [VRelL]; exact ⟨_, _, rfl, hyv, rfl⟩)
            · intro q hq
              rcases List.mem_append.1 hq with hq | hq
              · exact hln q hq
              · simp at hq; subst hq; exact hkn
        · rw [g1] at hnone; cases hnone
    · cases hu
  · cases hx

theorem simOp (h : HRel C I ρ L0 w0 H w) (hf : FrRel ρ nt a am.tmps) (hlo : L0 ≤ lo) (hEq : EqOk C) (hKey : KeyOk C) {op : Op} {ao : AOp} (hp : prepOp C nt op = some ao) {v : AV} {H' : Heap} (hx : opA lo ao a H = some (v, H')) (o : Oper) (ho : o.op = op) :
    Gives C I ρ L0 w0 H w (execOp am.eval o) v H' := by
  have pure1 : ∀ {x : Value} {s : Sem Value}, (execOp am.eval o) = (do pure (.value (← s)) : Sem Next) → s.run C.P w = .ok x w → VRel ρ v x → H' = H → Gives C I ρ L0 w0 H w (execOp am.eval o) v H' := fun {x s} h1 h2 h3 h4 => by
    subst h4
    refine Gives.pure h (x := x) ?_ h3
    rw [h1]; simp [h2]
  cases op <;> simp only [prepOp] at hp <;> try (cases hp; done)
  case move x =>
    obtain ⟨y, hy, rfl⟩ := Option.map_eq_some_iff.1 hp
    simp only [opA] at hx
    cases hx
    exact Gives.pure h (by rw [execOp, ho]; simp) (evalX hy hf)
  case assign x =>
    obtain ⟨y, hy, rfl⟩ := Option.map_eq_some_iff.1 hp
    simp only [opA] at hx
    cases hx
    exact Gives.pure h (by rw [execOp, ho]; simp) (evalX hy hf)
  case pick c x y =>
    simp only [Option.bind_eq_some_iff, Option.map_eq_some_iff] at hp
    obtain ⟨c', hc, x', hx', y', hy, rfl⟩ := hp
    simp only [opA] at hx
    split at hx
    · rename_i e; cases hx
      have := evalX hc hf
      rw [e] at this
      exact Gives.pure h (by rw [execOp, ho]; simp [asBool, this.bool]) (evalX hx' hf)
    · rename_i e; cases hx
      have := evalX hc hf
      rw [e] at this
      exact Gives.pure h (by rw [execOp, ho]; simp [asBool, this.bool]) (evalX hy hf)
    · cases hx
  case alloc t =>
    obtain ⟨z, hz, rfl⟩ := Option.map_eq_some_iff.1 hp
    simp only [opA] at hx
    cases hx
    have := gives_alloc h hz
    rw [execOp, ho]; exact this
  case box t x =>
    obtain ⟨y, hy, rfl⟩ := Option.map_eq_some_iff.1 hp
    simp only [opA] at hx
    split at hx
    · rename_i h1
      cases hx
      have := gives_box h (t := t) (evalX hy hf) h1
      rw [execOp, ho]; exact this
    · cases hx
  case build t ps =>
    have := gives_build h hf (t := t) (parts := ps) (by simpa only [prepOp] using hp) hx
    rw [execOp, ho]; exact this
  case buildSlice t len ps =>
    have := gives_bslice h hf (t := t) (len := len) (parts := ps) (by simpa only [prepOp] using hp) hx
    rw [execOp, ho]; exact this
  case load t x =>
    simp only [Option.bind_eq_some_iff, Option.map_eq_some_iff] at hp
    obtain ⟨n, hn, y, hy, rfl⟩ := hp
    simp only [opA] at hx
    have hy' := evalX hy hf
    split at hx
    · rename_i b o' e
      rw [e] at hy'
      obtain ⟨r, hr, hxe⟩ := hy'.ptr
      obtain ⟨u, hu, e2⟩ := Option.map_eq_some_iff.1 hx
      cases e2
      obtain ⟨xv, h1, h2⟩ := load_spec h hn hr (v := v) hu
      exact pure1 (by rw [execOp, ho]) (by rw [hxe]; simp [Instr.loadAt, Instr.sureAddr, h1]) h2 rfl
    · rename_i b o' m e
      rw [e] at hy'
      obtain ⟨r, hr, hxe⟩ := hy'.ptr
      obtain ⟨u, hu, e2⟩ := Option.map_eq_some_iff.1 hx
      cases e2
      obtain ⟨xv, h1, h2⟩ := load_spec (o := o') h hn hr (v := .ag u) (by simp [hu])
      exact pure1 (by rw [execOp, ho]) (by rw [hxe]; simp [Instr.loadAt, Instr.sureAddr, h1]) h2 rfl
    · cases hx
  case store t p x =>
    simp only [Option.bind_eq_some_iff, Option.map_eq_some_iff] at hp
    obtain ⟨n, hn, q, hq, y, hy, rfl⟩ := hp
    simp only [opA] at hx
    split at hx
    · rename_i b o' e
      split at hx
      · rename_i hc
        obtain ⟨hc1, hc2⟩ := hc
        obtain ⟨H2, hH2, e2⟩ := Option.map_eq_some_iff.1 hx
        cases e2
        have hq' := evalX hq hf
        rw [e] at hq'
        obtain ⟨r, hr, hpe⟩ := hq'.ptr
        obtain ⟨w', h1, h2, h3⟩ := storeVar_spec h hn hr hlo (evalX hy hf) hc1 hc2 hH2
        exact ⟨ρ, .skip, undef, w', by rw [execOp, ho]; simp [hpe, Instr.storeAt, Instr.sureAddr, h1], .inr ⟨rfl, rfl⟩, by simp only [VRel, undef]; exact ⟨#[], rfl, by simp [VRelL]⟩, h2, h3⟩
      · cases hx
    · cases hx
  case binOp op t x y fused => exact simBin h hf hEq (by simpa only [prepOp] using hp) hx o ho
  case unOp op t x =>
    obtain ⟨y, hy, rfl⟩ := Option.map_eq_some_iff.1 hp
    simp only [opA] at hx
    obtain ⟨u, hu, e⟩ := Option.map_eq_some_iff.1 hx
    cases e
    obtain ⟨vm, h1, h2⟩ := unA_spec (C := C) (evalX hy hf) hu w
    exact pure1 (by rw [execOp, ho]) h1 h2 rfl
  case convert src dst x =>
    split at hp
    · rename_i ds k hs hd
      obtain ⟨y, hy, rfl⟩ := Option.map_eq_some_iff.1 hp
      simp only [opA] at hx
      split at hx
      · rename_i k' n e
        cases hx
        have := evalX hy hf
        rw [e] at this
        exact pure1 (x := .int k (k.wrap n)) (by rw [execOp, ho]) (by rw [this.int]; simp [convert, run_underlying hs, run_underlying hd, Conv.intToInt]) (by simp [VRel]) rfl
      · cases hx
    · cases hp
  case makeFunc fn first caps =>
    split at hp
    · rename_i f
      obtain ⟨us, hus, hp2⟩ := Option.bind_eq_some_iff.1 hp
      obtain ⟨l, hl, rfl⟩ := Option.map_eq_some_iff.1 hp2
      simp only [opA] at hx
      cases hx
      refine Gives.pure h (x := .func (.func f) (first.map am.eval) (caps.map am.eval)) (by rw [execOp, ho]; simp [Instr.makeFunc]) ?_
      simp only [VRel]
      exact ⟨_, _, rfl, by simpa using evalXs hf hus, by simpa using evalXs hf hl⟩
    · cases hp
  case makeSlice t l c =>
    split at hp
    · rename_i e ht
      simp only [Option.bind_eq_some_iff] at hp
      obtain ⟨es, hes, by', hby, z, hz, hp⟩ := hp
      split at hp
      · rename_i hsame
        obtain ⟨y, hy, rfl⟩ := Option.map_eq_some_iff.1 hp
        simp only [opA] at hx
        split at hx
        · rename_i n en
          split at hx
          · rename_i hc
            obtain ⟨hn0, hnb, hn1, hzl⟩ := hc
            cases hx
            have hlc : l = c := by
              unfold sameX at hsame
              split at hsame
              · rename_i i j; have : i = j := by simpa using hsame
                rw [this]
              · cases hsame
            subst hlc
            have hyv := evalX hy hf
            rw [en] at hyv
            obtain ⟨i, zv, hi, hzv, hzr⟩ := zeroA_spec hz
            have hsz : i.size = es := by obtain ⟨i', hi', rfl⟩ := sizeA_info hes; rw [hi] at hi'; cases hi'; rfl
            have hbz : i.bytes = by' := by simp only [bytesA, Option.map_eq_some_iff] at hby; obtain ⟨i', hi', rfl⟩ := hby; rw [hi] at hi'; cases hi'; rfl
            have hzrel : VRelL ρ z zv.cells.toList := toAVs_rel (fun v x e => (toAV1_rel e).1) hzr
            have hzs : zv.cells.size = i.size := by have := hzrel.length; simp at this; omega
            rw [mostBytes_val] at hnb
            have hb : (i.bytes : Int) * n ≤ 281474976710656 := by
              have : ((n.toNat * by' : Nat) : Int) ≤ 1099511627776 := Int.ofNat_le.2 hnb
              rw [Int.natCast_mul, Int.toNat_of_nonneg hn0, Int.mul_comm] at this
              rw [hbz]; omega
            have hrun := run_make (P := C.P) w t e i zv ht hi hzv .i64 .i64 n n hn0 (Int.le_refl _) hb (by omega)
            have hrel : VRelL ρ (reps n.toNat z) (madeCells zv.cells (n.toNat * i.size)).toList := reps_rel hzrel n.toNat _ (by rw [hzs])
            obtain ⟨ρ', e1, hH, hE⟩ := newCellsL h e hrel (reps_all (toAVs_one hzr) _)
            refine Gives.val ρ' _ _ (by rw [execOp, ho]; simp only [hyv.int, Sem.run_bind, hrun, Result.andThen_ok, Sem.run_pure]; rfl) ?_ hH hE
            simp only [VRel]
            refine ⟨_, 0, n.toNat, e1, rfl, by omega, fun k e => by cases e; rfl, fun _ => rfl, fun m hm => ?_⟩
            simp only [Option.some.injEq] at hm
            rw [← hm, size_madeCells, hsz]
            omega
          · cases hx
        · cases hx
      · cases hp
    · cases hp
  case slice t x l hi mx =>
    split at hp
    · rename_i e ht
      simp only [Option.bind_eq_some_iff] at hp
      obtain ⟨es, hes, x', hx', l', hl', h', hh', m', hm', hp⟩ := hp
      split at hp
      · cases hp
      · rename_i hc
        cases hp
        obtain ⟨vm, h1, h2, h3⟩ := slice_spec (C := C) (w := w) hf ht hes hx' hl' hh' hm' hc hx
        exact pure1 (by rw [execOp, ho]) h1 h2 h3
    · rename_i n e ht
      simp only [Option.bind_eq_some_iff] at hp
      obtain ⟨es, hes, x', hx', l', hl', h', hh', hp⟩ := hp
      split at hp
      · cases hp
      · rename_i hc
        cases hp
        have hmx : mx = none := by cases mx <;> simp_all
        subst hmx
        simp only [opA] at hx
        split at hx
        · rename_i b o' ex
          split at hx
          · rename_i hv ehv
            split at hx
            · rename_i lv elv
              split at hx
              · rename_i cs ecs
                split at hx
                · rename_i hcond
                  obtain ⟨hc1, hc2, hc3, hc4⟩ := hcond
                  cases hx
                  subst hc1
                  have hxv := evalX hx' hf
                  rw [ex] at hxv
                  obtain ⟨r, hr, hxe⟩ := hxv.ptr
                  have hhn : hv ≤ n := by
                    rcases bound_spec hh' hf ehv with ⟨_, _, rfl, h2⟩ | ⟨_, _, i, _, _, h1, h2, h3, _⟩ <;> omega
                  have hlh : lv ≤ hv := by
                    rcases bound_spec hl' hf elv with ⟨_, _, rfl, h2⟩ | ⟨_, _, i, _, _, h1, h2, h3, _⟩ <;> omega
                  have hb := sliceBounds_spec (C := C) (w := w) (mx' := none) (mx := none) (m := n) hf hl' hh' (by rfl) false (len := n) (cap := n) (mostm := n) (by simp [boundA]) (fun e => by simp at e) ehv (by simpa using hhn) elv (fun e => by simp at e)
                  refine pure1 (x := .slice (some (if n = lv then r.a.add o' else (r.a.add o').add (lv * 1))) (hv - lv) (n - lv)) (by rw [execOp, ho]) ?_ ?_ rfl
                  · rw [hxe]
                    simp only [Option.isSome_none, Bool.false_eq_true, if_false, Option.map_none] at hb
                    simp [Instr.sliceAt, run_underlying ht, Instr.sureAddr, hb, run_sizeOf' hes]
                  · obtain ⟨_, hB2, _⟩ := h.blk b r _ hr ecs
                    obtain ⟨cs', t', m, _, hm, hvm, _⟩ := hB2 (by omega)
                    simp only [VRel]
                    by_cases hnl : n = lv
                    · exact ⟨r, o', n - lv, hr, by rw [if_pos hnl], by omega, fun k e => by cases e; rfl, fun e => by omega, fun q hq => by rw [hm] at hq; cases hq; omega⟩
                    · exact ⟨r, o' + lv, n - lv, hr, by rw [if_neg hnl, Addr.add_add, Nat.mul_one], by omega, fun k e => by cases e; rfl, fun _ => rfl, fun q hq => by rw [hm] at hq; cases hq; omega⟩
                · cases hx
              · cases hx
            · cases hx
          · cases hx
        · cases hx
    · cases hp
  case fieldAddr t x f =>
    split at hp
    · rename_i fs ht
      simp only [Option.bind_eq_some_iff] at hp
      obtain ⟨fd, hfd, n, hn, hp⟩ := hp
      split at hp
      · cases hp
      · rename_i hn0
        obtain ⟨y, hy, rfl⟩ := Option.map_eq_some_iff.1 hp
        simp only [opA] at hx
        split at hx
        · rename_i b o' e
          cases hx
          have hyv := evalX hy hf
          rw [e] at hyv
          obtain ⟨r, hr, hxe⟩ := hyv.ptr
          refine pure1 (x := .pointer (some (r.a.add (o' + fd.offset)))) (by rw [execOp, ho]) ?_ (by simp only [VRel]; exact ⟨r, hr, rfl⟩) rfl
          rw [hxe]
          simp [Instr.fieldAt, run_underlying ht, hfd, Instr.sureAddr, fieldPlace, run_sizeOf' hn, hn0, Addr.add_add]
        · cases hx
    · cases hp
  case field t x f =>
    split at hp
    · rename_i fs ht
      simp only [Option.bind_eq_some_iff] at hp
      obtain ⟨fd, hfd, n, hn, hp⟩ := hp
      obtain ⟨y, hy, rfl⟩ := Option.map_eq_some_iff.1 hp
      have hyv := evalX hy hf
      simp only [opA] at hx
      have fin : ∀ vs, ev a y = .ag vs → partA n vs fd.offset = some v → H' = H → Gives C I ρ L0 w0 H w (execOp am.eval o) v H' := fun vs e hv hH => by
        rw [e] at hyv
        obtain ⟨cs, hxe, hr⟩ := hyv.agg
        obtain ⟨xv, h1, h2⟩ := part_spec (C := C) (w := w) hn hr hv
        exact pure1 (by rw [execOp, ho]) (by rw [hxe]; simp [Instr.field, run_underlying ht, hfd, asAgg, h1]) h2 hH
      split at hx
      · rename_i vs e
        obtain ⟨u, hu, e2⟩ := Option.map_eq_some_iff.1 hx
        cases e2
        exact fin vs e (by simpa [partA] using hu) rfl
      · rename_i vs m e
        split at hx
        · rename_i hle
          cases hx
          exact fin vs e (by simp [partA, hle]) rfl
        · cases hx
      · cases hx
    · cases hp
  case indexAddr t x i =>
    split at hp
    · rename_i e ht
      simp only [Option.bind_eq_some_iff] at hp
      obtain ⟨es, hes, x', hx', hp⟩ := hp
      obtain ⟨i', hi', rfl⟩ := Option.map_eq_some_iff.1 hp
      simp only [opA] at hx
      split at hx
      · rename_i es' b o' n c k j ex ei
        split at hx
        · rename_i hc
          obtain ⟨hc1, hc2, rfl⟩ := hc
          cases hx
          have hxv := evalX hx' hf
          have hiv := evalX hi' hf
          rw [ex] at hxv; rw [ei] at hiv
          obtain ⟨r, o2, c', hr, hxe, _, _, ho2, _⟩ := hxv.slc
          have ho2' := ho2 (by omega)
          subst ho2'
          refine pure1 (x := .pointer (some (r.a.add (o2 + j.toNat * es')))) (by rw [execOp, ho]) ?_ (by simp only [VRel]; exact ⟨r, hr, rfl⟩) rfl
          rw [hxe, hiv.int]
          simp [Instr.indexAt, asIntOf, run_underlying ht, run_sizeOf' hes, Addr.add_add, hc1, hc2]
        · cases hx
      · cases hx
    · rename_i n e ht
      simp only [Option.bind_eq_some_iff] at hp
      obtain ⟨es, hes, x', hx', hp⟩ := hp
      obtain ⟨i', hi', rfl⟩ := Option.map_eq_some_iff.1 hp
      simp only [opA] at hx
      split at hx
      · rename_i b o' k j ex ei
        split at hx
        · rename_i hc
          obtain ⟨hc1, hc2⟩ := hc
          cases hx
          have hxv := evalX hx' hf
          have hiv := evalX hi' hf
          rw [ex] at hxv; rw [ei] at hiv
          obtain ⟨r, hr, hxe⟩ := hxv.ptr
          refine pure1 (x := .pointer (some (r.a.add (o' + j.toNat * es)))) (by rw [execOp, ho]) ?_ (by simp only [VRel]; exact ⟨r, hr, rfl⟩) rfl
          rw [hxe, hiv.int]
          simp [Instr.indexAt, asIntOf, run_underlying ht, run_sizeOf' hes, Instr.sureAddr, Addr.add_add, hc1, hc2]
        · cases hx
      · cases hx
    · cases hp
  case index t x i =>
    split at hp
    · rename_i n e ht
      simp only [Option.bind_eq_some_iff] at hp
      obtain ⟨es, hes, sh, hsh, x', hx', hp⟩ := hp
      obtain ⟨i', hi', rfl⟩ := Option.map_eq_some_iff.1 hp
      simp only [opA] at hx
      split at hx
      · rename_i vs k j ex ei
        split at hx
        · rename_i hc
          obtain ⟨hc1, hc2⟩ := hc
          have hxv := evalX hx' hf
          have hiv := evalX hi' hf
          rw [ex] at hxv; rw [ei] at hiv
          obtain ⟨cs, hxe, hr⟩ := hxv.agg
          have fin : partA sh vs (j.toNat * es) = some v → H' = H → Gives C I ρ L0 w0 H w (execOp am.eval o) v H' := fun hv hH => by
            obtain ⟨xv, h1, h2⟩ := part_spec (C := C) (w := w) hsh hr hv
            exact pure1 (by rw [execOp, ho]) (by rw [hxe, hiv.int]; simp [Instr.index, asIntOf, run_underlying ht, run_sizeOf' hes, hc1, hc2, h1]) h2 hH
          cases sh with
          | none =>
            simp only [Option.isSome_none, Bool.false_eq_true, if_false] at hx
            obtain ⟨u, hu, e2⟩ := Option.map_eq_some_iff.1 hx
            cases e2
            exact fin (by simpa [partA] using hu) rfl
          | some m =>
            obtain ⟨_, hm⟩ := shapeA_some hsh w
            have : m = es := by rw [hm] at hes; cases hes; rfl
            subst this
            simp only [Option.isSome_some, if_true] at hx
            split at hx
            · rename_i hle
              cases hx
              exact fin (by simp [partA, hle]) rfl
            · cases hx
        · cases hx
      · cases hx
    · cases hp
  case extract x i =>
    obtain ⟨y, hy, rfl⟩ := Option.map_eq_some_iff.1 hp
    simp only [opA] at hx
    split at hx
    · rename_i vs e
      obtain ⟨u, hu, e2⟩ := Option.map_eq_some_iff.1 hx
      cases e2
      have hyv := evalX hy hf
      rw [e] at hyv
      simp only [VRel] at hyv
      obtain ⟨cs, hxe, hr⟩ := hyv
      obtain ⟨xv, h1, h2⟩ := hr.get hu
      have h1' : cs[i]? = some xv := by simpa using h1
      exact pure1 (by rw [execOp, ho]) (by rw [hxe]; simp [Instr.extract, h1']) h2 rfl
    · cases hx
  case makeMap t r =>
    split at hp
    · cases hp
    · rename_i hr
      obtain ⟨n, hn, rfl⟩ := Option.map_eq_some_iff.1 hp
      simp only [opA] at hx
      cases hx
      have hr' : r = none := by cases r <;> simp at hr ⊢
      subst hr'
      have := gives_mkmap h (t := t) (n := n)
      rw [execOp, ho]; exact this
  case lookup t x i ok =>
    obtain ⟨n, hn, hp⟩ := Option.bind_eq_some_iff.1 hp
    obtain ⟨kt, et, l, e, hut, huk, hck, heq⟩ := hKey t n hn
    simp only [hut, Option.bind_eq_some_iff, Option.map_eq_some_iff] at hp
    obtain ⟨z, hz, x', hx', i', hi', rfl⟩ := hp
    simp only [opA] at hx
    split at hx
    · rename_i b vs e1 e2
      obtain ⟨u, hu, e3⟩ := Option.map_eq_some_iff.1 hx
      cases e3
      have hxv := evalX hx' hf
      have hiv := evalX hi' hf
      rw [e1] at hxv
      rw [e2] at hiv
      obtain ⟨r, hr, hxe⟩ := hxv.mp
      unfold mapLook at hu
      obtain ⟨es, hes, hu⟩ := Option.bind_eq_some_iff.1 hu
      split at hu
      · rename_i hvn
        obtain ⟨ks, hks, rfl⟩ := Option.map_eq_some_iff.1 hu
        have hie := hiv.agInts hks
        have hkn : ks.length = n := by have := keyA_map hks; rw [this] at hvn; simpa using hvn
        obtain ⟨hlb, hb⟩ := mapAt_spec hes
        obtain ⟨ms, c, hm, hER, hln⟩ := h.blk b r _ hr hb (by omega)
        obtain ⟨zv, hzv, hzr⟩ := zero1A_spec (ρ := ρ) hz w
        have hg : (getObj r.a.block).run C.P w = .ok (.map ms c) w := by simp [getObj, Sem.run, hm]
        have hfk := run_findKey huk heq hkn w hln hER
        have hck' := hck ks hkn ms.isEmpty w
        rcases hfk with ⟨g1, g2⟩ | ⟨e', j, v, g1, g2, g3⟩
        · refine pure1 (x := if ok then .tuple #[zv, .bool false] else zv) (by rw [execOp, ho]) ?_ ?_ rfl
          · rw [hxe, hie]
            simp [Instr.lookup, run_underlying hut, hg, hck', g2, hzv]
          · simp only [mapGet, g1]
            cases ok
            · exact hzr
            · simp only [if_true, VRel, VRelL]
              exact ⟨_, rfl, _, _, rfl, hzr, _, _, rfl, rfl, rfl⟩
        · refine pure1 (x := if ok then .tuple #[v, .bool true] else v) (by rw [execOp, ho]) ?_ ?_ rfl
          · rw [hxe, hie]
            simp [Instr.lookup, run_underlying hut, hg, hck', g2]
          · simp only [mapGet, g1]
            cases ok
            · exact g3
            · simp only [if_true, VRel, VRelL]
              exact ⟨_, rfl, _, _, rfl, g3, _, _, rfl, rfl, rfl⟩
      · cases hu
    · cases hx
  case mapUpdate t x i y => exact simSet h hf hlo hKey (by simpa only [prepOp] using hp) hx o (by rw [execOp, ho])
  case insert t x i y => exact simSet h hf hlo hKey (by simpa only [prepOp] using hp) hx o (by rw [execOp, ho])
  case nilCheck x =>
    obtain ⟨y, hy, rfl⟩ := Option.map_eq_some_iff.1 hp
    simp only [opA] at hx
    have hyv := evalX hy hf
    split at hx
    · rename_i b o' e
      cases hx
      rw [e] at hyv
      obtain ⟨r, hr, hxe⟩ := hyv.ptr
      exact Gives.pure h (x := .pointer (some (r.a.add o'))) (by rw [execOp, ho]; simp [hxe]) (by simp only [VRel]; exact ⟨r, hr, rfl⟩)
    · rename_i f u c e
      cases hx
      rw [e] at hyv
      simp only [VRel] at hyv
      obtain ⟨ds, cs, hxe, hr⟩ := hyv
      exact Gives.pure h (x := .func (.func f) ds cs) (by rw [execOp, ho]; simp [hxe]) (by simp only [VRel]; exact ⟨ds, cs, rfl, hr⟩)
    · rename_i l e
      cases hx
      rw [e] at hyv
      simp only [VRel] at hyv
      obtain ⟨r, hr, hxe⟩ := hyv
      exact Gives.pure h (x := .func (.yield r.a.block) #[] #[]) (by rw [execOp, ho]; simp [hxe]) (by simp only [VRel]; exact ⟨r, hr, rfl⟩)
    · cases hx
  case call c =>
    cases hcal : c.callee with
    | builtin b => exact simBuiltin h hf hlo hcal (by simpa only [prepOp] using hp) hx o ho
    | value f =>
      rw [hcal] at hp
      simp only [Option.bind_eq_some_iff] at hp
      obtain ⟨args, _, hp⟩ := hp
      cases f <;> simp only at hp <;> first
        | (cases hp; simp [opA] at hx; done)
        | (obtain ⟨_, _, rfl⟩ := Option.map_eq_some_iff.1 hp; simp [opA] at hx)
    | _ => rw [hcal] at hp; simp at hp
  case panic x => cases hp; simp [opA] at hx
  case makeInterface t x => cases hp; simp [opA] at hx
end
end Go.AM

namespace Go.AM
open Go

theorem st_len {lo : Nat} {H H' : Heap} {b o : Nat} {vs : List AV} (h : st lo H b o vs = some H') : H'.length = H.length := by
  unfold st at h
  split at h
  · split at h
    · split at h
      · cases h; simp
      · cases h
    · cases h
  · cases h
theorem appendA_len {lo es bytes : Nat} {sv : AV} {xs : List AV} {m : Nat} {H H' : Heap} {v : AV} (h : appendA lo es bytes sv xs m H = some (v, H')) : H.length ≤ H'.length := by
  unfold appendA at h
  split at h
  · split at h
    · cases h; exact Nat.le_refl _
    · split at h
      · cases h; simp
      · cases h
  · split at h
    · cases h
    · split at h
      · cases h; exact Nat.le_refl _
      · split at h
        · split at h
          · split at h
            · cases h; simp
            · split at h
              · cases h; simp
              · cases h
          · cases h
        · cases h
  · cases h
theorem map_len {α : Type} {x : Option α} {f : α → AV} {H H' : Heap} {v : AV} (h : x.map (fun u => (f u, H)) = some (v, H')) : H.length ≤ H'.length := by
  obtain ⟨u, _, e⟩ := Option.map_eq_some_iff.1 h
  cases e
  exact Nat.le_refl _
theorem mapSet_len {lo n b : Nat} {vs : List AV} {x : AV} {H H' : Heap} (h : mapSet lo n b vs x H = some H') : H'.length = H.length := by
  unfold mapSet at h
  obtain ⟨es, _, h⟩ := Option.bind_eq_some_iff.1 h
  split at h
  · obtain ⟨ks, _, h⟩ := Option.bind_eq_some_iff.1 h
    split at h
    · cases h
    · cases h; simp
  · cases h
theorem opA_len {lo : Nat} {o : AOp} {a : Fr} {H H' : Heap} {v : AV} (h : opA lo o a H = some (v, H')) : H.length ≤ H'.length := by
  cases o <;> simp only [opA] at h
  case store n p x =>
    split at h
    · split at h
      · obtain ⟨u, hu, e⟩ := Option.map_eq_some_iff.1 h
        cases e
        rw [st_len hu]; exact Nat.le_refl _
      · cases h
    · cases h
  case append =>
    split at h
    · split at h
      · exact appendA_len h
      · cases h
    · cases h
  case appendz =>
    split at h
    · split at h
      · exact appendA_len h
      · cases h
    · cases h
  case mset =>
    split at h
    · obtain ⟨u, hu, e⟩ := Option.map_eq_some_iff.1 h
      cases e
      rw [mapSet_len hu]; exact Nat.le_refl _
    · cases h
  case clr =>
    split at h
    · split at h
      · cases h
      · split at h
        · cases h; exact Nat.le_refl _
        · obtain ⟨u, hu, e⟩ := Option.map_eq_some_iff.1 h
          cases e
          rw [st_len hu]; exact Nat.le_refl _
    · cases h; exact Nat.le_refl _
    · cases h
  case copy =>
    split at h
    · split at h
      · cases h
      · split at h
        · split at h
          · cases h; exact Nat.le_refl _
          · split at h
            · obtain ⟨u, hu, e⟩ := Option.map_eq_some_iff.1 h
              cases e
              rw [st_len hu]; exact Nat.le_refl _
            · cases h
        · cases h
    · cases h; exact Nat.le_refl _
    · cases h
  all_goals
    repeat' (split at h)
    all_goals first
      | (cases h; done)
      | (cases h; exact Nat.le_refl _)
      | (cases h; simp; done)
      | exact map_len h
      | (obtain ⟨u, hu, e⟩ := Option.map_eq_some_iff.1 h; cases e; simp; done)

def LenR (rec : Rec) : Prop := ∀ lo rd k a H o a' H', rec lo rd k a H = some (o, a', H') → H.length ≤ H'.length
section
variable {rec : Rec} {E : Tab} {lo : Nat} {rd : Option Nat}
theorem runF_len (h : LenR rec) {af : AFunc} {vs : List AV} {H H' : Heap} {v : AV} (hx : runF rec lo af vs H = some (v, H')) : H.length ≤ H'.length := by
  unfold runF at hx
  split at hx
  · split at hx
    · rename_i e; obtain ⟨_, _, e2⟩ := Option.map_eq_some_iff.1 hx; cases e2; exact h _ _ _ _ _ _ _ _ e
    · rename_i e; obtain ⟨_, _, e2⟩ := Option.map_eq_some_iff.1 hx; cases e2; exact h _ _ _ _ _ _ _ _ e
    · cases hx
  · cases hx
theorem callF_len (h : LenR rec) {f : Nat} {vs : List AV} {H H' : Heap} {v : AV} (hx : callF E rec lo f vs H = some (v, H')) : H.length ≤ H'.length := by
  unfold callF at hx
  split at hx
  · obtain ⟨u, _, e⟩ := Option.bind_eq_some_iff.1 hx
    split at e
    · cases e; exact Nat.le_refl _
    · cases e
  · obtain ⟨af, _, e⟩ := Option.bind_eq_some_iff.1 hx
    exact runF_len h e
  · obtain ⟨af, _, e⟩ := Option.bind_eq_some_iff.1 hx
    obtain ⟨r, _, e2⟩ := Option.map_eq_some_iff.1 e
    cases e2
    split
    · exact Nat.le_refl _
    · simp
  · split at hx
    · obtain ⟨af, _, e⟩ := Option.bind_eq_some_iff.1 hx
      obtain ⟨r, _, e2⟩ := Option.bind_eq_some_iff.1 e
      split at e2
      · cases e2; exact Nat.le_refl _
      · cases e2
    · cases hx
  · obtain ⟨b, k, _, rfl⟩ := delV_set hx
    simp
theorem roundA_len (h : LenR rec) {l : Nat} {fr : Fr} {ps : List Nat} {asg body : ACode} {vs : List AV} {H H' : Heap} {v : AV} (hx : roundA rec lo l fr ps asg body vs H = some (v, H')) : H.length ≤ H'.length := by
  unfold roundA at hx
  split at hx
  · split at hx
    · rename_i e
      split at hx
      · cases hx; simp; exact h _ _ _ _ _ _ _ _ e
      · cases hx
    · cases hx
  · cases hx
theorem callV_len (h : LenR rec) {fv : AV} {vs : List AV} {H H' : Heap} {v : AV} (hx : callV E rec lo fv vs H = some (v, H')) : H.length ≤ H'.length := by
  unfold callV at hx
  split at hx
  · exact callF_len h hx
  · split at hx
    · exact roundA_len h hx
    · cases hx
  · cases hx
theorem opF_len (h : LenR rec) {o : AOp} {a : Fr} {H H' : Heap} {v : AV} (hx : opF E rec lo o a H = some (v, H')) : H.length ≤ H'.length := by
  unfold opF at hx
  split at hx
  · exact callF_len h hx
  · exact callV_len h hx
  · exact opA_len hx
theorem runOps_len (h : LenR rec) {l : List AOper} : ∀ {a a' : Fr} {H H' : Heap}, runOps E rec lo l a H = some (a', H') → H.length ≤ H'.length := by
  induction l with
  | nil => intro a a' H H' hx; cases hx; exact Nat.le_refl _
  | cons o os ih =>
    intro a a' H H' hx
    unfold runOps at hx
    split at hx
    · obtain ⟨y, hy, e⟩ := Option.bind_eq_some_iff.1 hx
      exact Nat.le_trans (opF_len h hy) (ih e)
    · exact ih hx
    · cases hx
theorem runTr_len (h : LenR rec) {l : List AOper} : ∀ {a : Fr} {H : Heap} {tr : List (Fr × Heap)}, runTr E rec lo l a H = some tr → ∃ a' H', tr[l.length]? = some (a', H') ∧ H.length ≤ H'.length := by
  induction l with
  | nil => intro a H tr hx; cases hx; exact ⟨a, H, rfl, Nat.le_refl _⟩
  | cons o os ih =>
    intro a H tr hx
    unfold runTr at hx
    split at hx
    · obtain ⟨y, hy, e⟩ := Option.bind_eq_some_iff.1 hx
      obtain ⟨t, ht, rfl⟩ := Option.map_eq_some_iff.1 e
      obtain ⟨a', H', h1, h2⟩ := ih ht
      exact ⟨a', H', by simpa using h1, Nat.le_trans (opF_len h hy) h2⟩
    · obtain ⟨t, ht, rfl⟩ := Option.map_eq_some_iff.1 hx
      obtain ⟨a', H', h1, h2⟩ := ih ht
      exact ⟨a', H', by simpa using h1, h2⟩
    · cases hx
theorem runD_len (h : LenR rec) {ck : List (Nat × Nat)} {l : List AOper} {a a' : Fr} {H H' : Heap} (hx : runD E rec lo ck l a H = some (a', H')) : H.length ≤ H'.length := by
  unfold runD at hx
  obtain ⟨tr, ht, e⟩ := Option.bind_eq_some_iff.1 hx
  obtain ⟨a1, H1, h1, h2⟩ := runTr_len h ht
  split at e
  · rw [h1] at e; cases e; exact h2
  · cases e
theorem stepR_len (h : LenR rec) {k : List AI} {a a' : Fr} {H H' : Heap} {o : Out} (hx : stepR E rec lo rd k a H = some (o, a', H')) : H.length ≤ H'.length := by
  unfold stepR at hx
  split at hx
  · cases hx; exact Nat.le_refl _
  · exact h _ _ _ _ _ _ _ _ hx
  · exact h _ _ _ _ _ _ _ _ hx
  · split at hx
    · split at hx
      · split at hx
        · have := h _ _ _ _ _ _ _ _ hx; simpa using this
        · cases hx
      · cases hx
    · cases hx
  · cases hx; exact Nat.le_refl _
  · exact h _ _ _ _ _ _ _ _ hx
  · exact h _ _ _ _ _ _ _ _ hx
  · split at hx
    · exact h _ _ _ _ _ _ _ _ hx
    · exact h _ _ _ _ _ _ _ _ hx
    · cases hx
  · exact h _ _ _ _ _ _ _ _ hx
  · exact h _ _ _ _ _ _ _ _ hx
  · split at hx
    · exact h _ _ _ _ _ _ _ _ hx
    · cases hx; exact Nat.le_refl _
  · obtain ⟨y, hy, e⟩ := Option.bind_eq_some_iff.1 hx
    exact Nat.le_trans (runOps_len h hy) (h _ _ _ _ _ _ _ _ e)
  · obtain ⟨y, hy, e⟩ := Option.bind_eq_some_iff.1 hx
    exact Nat.le_trans (runD_len h hy) (h _ _ _ _ _ _ _ _ e)
  · split at hx
    · split at hx
      · obtain ⟨y, hy, e⟩ := Option.bind_eq_some_iff.1 hx
        have h1 := callF_len h hy
        simp at h1
        split at e
        · cases e
        · have := h _ _ _ _ _ _ _ _ e; simp at this; omega
        · have := h _ _ _ _ _ _ _ _ e; simp at this; omega
        · cases e
      · cases hx
    · cases hx
  · cases hx
end
theorem R_len (E : Tab) : ∀ n, LenR (R E n)
  | 0 => fun _ _ _ _ _ _ _ _ h => by cases h
  | n + 1 => fun _ _ _ _ _ _ _ _ h => stepR_len (R_len E n) h

end Go.AM

namespace Go.AM
open Go Go.RowKit

/-- what holds of a world holds of each later one that has kept its memory -/
def Stable (I : World → Prop) : Prop := ∀ w w', I w → Below w.heap.size w w' → I w'

section
variable {C : Cfg} {I : World → Prop} {ρ ρ' : Mp} {L0 n : Nat} {w0 w w' : World} {H H' : Heap}

theorem HRel.later (h : HRel C I ρ L0 w0 H w) (hb : Below w.heap.size w w') : HRel C I ρ L0 w0 H w' := by
  refine ⟨h.below.trans (hb.mono h.below.size), h.inv, h.lt, h.dom, fun b r e hL => ?_, h.apart, fun b r k e hk => ?_⟩
  · have := h.own b r e hL
    have := hb.size
    exact ⟨by omega, by omega, by simp_all⟩
  · have hB := h.blk b r k e hk
    by_cases hL : L0 ≤ b
    · exact hB.mono (Mp.le_refl ρ) (hb.block _ (h.own b r e hL).2.1)
    · cases k with
      | dead => trivial
      | loop => exact fun ho => absurd ho hL
      | map => exact fun ho => absurd ho hL
      | cells vs =>
        cases vs with
        | nil => exact ⟨fun i v e => by simp at e, fun ho => absurd ho hL, fun _ e => absurd rfl e⟩
        | cons v vs =>
          have h1 := hB.2.2 hL (by simp)
          exact hB.mono (Mp.le_refl ρ) (hb.block _ (Nat.lt_of_lt_of_le h1 h.below.size))
theorem Ext.later (ρ : Mp) (L0 n : Nat) (hb : Below w.heap.size w w') : Ext ρ L0 n w ρ w' :=
  ⟨Mp.le_refl ρ, fun b r e e' => (by rw [e] at e'; cases e'), hb.size, fun pb hp _ => hb.block pb hp⟩

/-- a call that writes to nothing older begins -/
theorem HRel.start (h : HRel C I ρ L0 w0 H w) (hI : Stable I) : HRel C I ρ H.length w H w := by
  refine ⟨Below.refl _ w, hI _ _ h.inv h.below, Nat.le_refl _, h.dom, fun b r e hL => ?_, fun b b' r r' k k' e _ hL => ?_, fun b r k e hk => ?_⟩
  · have := h.dom b r e; omega
  · have := h.dom b r e; omega
  · have hB := h.blk b r k e hk
    have hd := h.dom b r e
    have hno : ¬ H.length ≤ b := by omega
    cases k with
    | dead => trivial
    | loop => exact fun ho => absurd ho hno
    | map => exact fun ho => absurd ho hno
    | cells vs =>
      refine ⟨hB.1, fun ho => absurd ho hno, fun _ hne => ?_⟩
      by_cases hL : L0 ≤ b
      · exact (h.own b r e hL).2.1
      · exact Nat.lt_of_lt_of_le (hB.2.2 hL hne) h.below.size

/-- a call without an address in or out begins -/
theorem HRel.empty (C : Cfg) (I : World → Prop) (hI : I w) : HRel C I (fun _ => none) 0 w [] w :=
  ⟨Below.refl _ w, hI, Nat.le_refl _, (fun _ _ e => by cases e), (fun _ _ e => by cases e), (fun _ _ _ _ _ _ e => by cases e), (fun _ _ _ e => by cases e)⟩

/-- … and ends with an address in its result: its own blocks are added -/
theorem HRel.back (h : HRel C I ρ L0 w0 H w) (h' : HRel C I ρ' H.length w H' w') (hE : Ext ρ H.length H.length w ρ' w') :
    HRel C I ρ' L0 w0 (H ++ H'.drop H.length) w' ∧ Ext ρ L0 H.length w ρ' w' := by
  have hlt := h'.lt
  have hL0 := h.lt
  have hlen : (H ++ H'.drop H.length).length = H'.length := by simp; omega
  have hold : ∀ b r, ρ' b = some r → b < H.length → ρ b = some r := fun b r e hb => by
    cases e0 : ρ b with
    | none => have := (hE.fresh b r e e0).1; omega
    | some r0 => have := hE.le b r0 e0; rw [e] at this; cases this; rfl
  have hget : ∀ b, ¬ b < H.length → (H ++ H'.drop H.length)[b]? = H'[b]? := fun b hb => by
    rw [List.getElem?_append_right (by omega), List.getElem?_drop]
    congr 1; omega
  have hget0 : ∀ b, b < H.length → (H ++ H'.drop H.length)[b]? = H[b]? := fun b hb => List.getElem?_append_left hb
  have hl := h.later h'.below
  refine ⟨⟨hl.below, h.inv, by rw [hlen]; omega, fun b r e => by rw [hlen]; exact h'.dom b r e, fun b r e hL => ?_, ?_, ?_⟩, hE.le, fun b r e e0 => ?_, hE.size, fun pb hp _ => h'.below.block pb hp⟩
  · by_cases hb : b < H.length
    · exact hl.own b r (hold b r e hb) hL
    · have := h'.own b r e (by omega)
      have := h.below.size
      exact ⟨by omega, by omega, by simp_all⟩
  · intro b b' r r' k k' e e' hL hL' hk hk' hl1 hl2 hbl
    by_cases hb : b < H.length <;> by_cases hb' : b' < H.length
    · rw [hget0 b hb] at hk; rw [hget0 b' hb'] at hk'
      exact h.apart b b' r r' k k' (hold b r e hb) (hold b' r' e' hb') hL hL' hk hk' hl1 hl2 hbl
    · have := (h.own b r (hold b r e hb) hL).2.1
      have := (h'.own b' r' e' (by omega)).1
      omega
    · have := (h.own b' r' (hold b' r' e' hb') hL').2.1
      have := (h'.own b r e (by omega)).1
      omega
    · rw [hget b hb] at hk; rw [hget b' hb'] at hk'
      exact h'.apart b b' r r' k k' e e' (by omega) (by omega) hk hk' hl1 hl2 hbl
  · intro b r k e hk
    by_cases hb : b < H.length
    · rw [hget0 b hb] at hk
      have hB := hl.blk b r k (hold b r e hb) hk
      exact hB.mono hE.le rfl
    · rw [hget b hb] at hk
      have hB := h'.blk b r k e hk
      have e1 : (H.length ≤ b) = True := by simp; omega
      have e2 : (L0 ≤ b) = True := by simp; omega
      rw [e1] at hB; rw [e2]
      cases k with
      | dead => trivial
      | loop => exact hB
      | map => exact hB
      | cells vs => exact ⟨hB.1, hB.2.1, fun ho => absurd trivial ho⟩
  · obtain ⟨h1, h2⟩ := hE.fresh b r e e0
    refine ⟨h1, ?_⟩
    rcases h2 with h2 | ⟨b0, r0, hb0, e1, e2⟩
    · exact .inl h2
    · have := h.dom b0 r0 e1; omega

/-- some blocks are let go -/
theorem HRel.fade (h : HRel C I ρ L0 w0 H w) {H2 : Heap} (hl : H2.length = H.length) (hk : ∀ (b : Nat) (k : Blk), H2[b]? = some k → H[b]? = some k ∨ k = .dead) : HRel C I ρ L0 w0 H2 w := by
  refine ⟨h.below, h.inv, by rw [hl]; exact h.lt, fun b r e => by rw [hl]; exact h.dom b r e, h.own, ?_, ?_⟩
  · intro b b' r r' k k' e e' hL hL' h1 h2 hl1 hl2 hbl
    rcases hk b k h1 with h1 | rfl
    · rcases hk b' k' h2 with h2 | rfl
      · exact h.apart b b' r r' k k' e e' hL hL' h1 h2 hl1 hl2 hbl
      · exact absurd hl2 id
    · exact absurd hl1 id
  · intro b r k e h1
    rcases hk b k h1 with h1 | rfl
    · exact h.blk b r k e h1
    · trivial
theorem seal_spec (H H' : Heap) : (H ++ (H'.drop H.length).map Blk.shut).length = (H ++ H'.drop H.length).length ∧ ∀ (b : Nat) (k : Blk), (H ++ (H'.drop H.length).map Blk.shut)[b]? = some k → (H ++ H'.drop H.length)[b]? = some k ∨ k = .dead := by
  refine ⟨by simp, fun b k h => ?_⟩
  by_cases hb : b < H.length
  · rw [List.getElem?_append_left hb] at h
    exact .inl (by rw [List.getElem?_append_left hb]; exact h)
  · rw [List.getElem?_append_right (by omega), List.getElem?_map] at h
    obtain ⟨u, hu, e⟩ := Option.map_eq_some_iff.1 h
    rw [List.getElem?_append_right (by omega), hu]
    cases u <;> simp only [Blk.shut] at e <;> subst e
    · exact .inl rfl
    · exact .inl rfl
    · exact .inr rfl
    · exact .inr rfl

/-! ### The marks of loops over functions -/
structure Mark (ρ : Mp) (L0 base : Nat) (w : World) (D : Nat) : Prop where
  ge : base ≤ D
  at' : w.heap[D]? = some (.deferred (some []))
  free : ∀ b r, ρ b = some r → L0 ≤ b → r.a.block ≠ D
def markOf (D : Nat) : Deferred := { target := .collected D, args := #[] }
def Marks (ρ : Mp) (L0 base : Nat) (w : World) (ds : List Deferred) : Prop :=
  ∃ Ds : List Nat, ds = Ds.map markOf ∧ Ds.Nodup ∧ ∀ D ∈ Ds, Mark ρ L0 base w D

theorem Mark.lt {base D : Nat} (m : Mark ρ L0 base w D) : D < w.heap.size := (Array.getElem?_eq_some_iff.1 m.at').1
theorem Mark.ext {base D : Nat} (m : Mark ρ L0 base w D) (hE : Ext ρ L0 n w ρ' w') : Mark ρ' L0 base w' D := by
  refine ⟨m.ge, (hE.keep D m.lt m.free).trans m.at', fun b r e hL => ?_⟩
  cases e0 : ρ b with
  | some r0 =>
    have := hE.le b r0 e0; rw [e] at this; cases this
    exact m.free b r e0 hL
  | none =>
    obtain ⟨_, h⟩ := hE.fresh b r e e0
    rcases h with h | ⟨b0, r0, hL0, e1, e2⟩
    · have := m.lt; omega
    · rw [← e2]; exact m.free b0 r0 e1 hL0
theorem Marks.ext {base : Nat} {ds : List Deferred} (m : Marks ρ L0 base w ds) (hE : Ext ρ L0 n w ρ' w') : Marks ρ' L0 base w' ds := by
  obtain ⟨Ds, h1, h2, h3⟩ := m
  exact ⟨Ds, h1, h2, fun D hD => (h3 D hD).ext hE⟩
theorem Marks.nil (ρ : Mp) (L0 base : Nat) (w : World) : Marks ρ L0 base w [] := ⟨[], rfl, .nil, fun _ h => by cases h⟩
end
end Go.AM
