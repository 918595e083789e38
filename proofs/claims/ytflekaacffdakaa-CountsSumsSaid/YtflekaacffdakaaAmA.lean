/- The abstract machine: a cleaned form of the translated code, a logical heap, and an evaluator with fuel. No condition. -/
import Derived.WalkKit
namespace Go.AM
open Go

/-- Values. 'un': nothing is known of the machine's value. -/
inductive AV where
  | un
  | int (k : IntKind) (n : Int)
  | b (x : Bool)
  | nilp
  | p (blk off : Nat)
  | nils
  | s (es blk off len : Nat) (cap : Option Nat)
  | nilf
  | fn (f : Nat) (fst caps : List AV)
  | yl (l : Nat)
  | ag (vs : List AV)
  | tp (vs : List AV)
  deriving Inhabited

abbrev AV.i (n : Int) : AV := .int .i64 n
abbrev AV.u (n : Int) : AV := .int .u64 n
/-- what the machine writes where an operation is passed over -/
abbrev AV.no : AV := .tp []

def AV.cells : AV → List AV
  | .ag vs => vs
  | v => [v]

mutual
/-- no address in it -/
def AV.pure : AV → Bool
  | .un | .p _ _ | .s _ _ _ _ _ | .yl _ => false
  | .int _ _ | .b _ | .nilp | .nils | .nilf => true
  | .fn _ us vs => AV.pureAll us && AV.pureAll vs
  | .ag vs | .tp vs => AV.pureAll vs
def AV.pureAll : List AV → Bool
  | [] => true
  | v :: vs => v.pure && AV.pureAll vs
end

/-- the value of one cell of memory -/
def AV.one : AV → Bool
  | .un | .ag _ | .tp _ => false
  | _ => true

mutual
/-- the same value, as a computation -/
def AV.same : AV → AV → Bool
  | .int k n, .int k' n' => decide (k = k') && decide (n = n')
  | .b x, .b y => x == y
  | .nilp, .nilp | .nils, .nils | .nilf, .nilf => true
  | .p q o, .p q' o' => q == q' && o == o'
  | .s e q o n c, .s e' q' o' n' c' => e == e' && q == q' && o == o' && n == n' && c == c'
  | .fn f us vs, .fn f' us' vs' => f == f' && AV.sameL us us' && AV.sameL vs vs'
  | .yl l, .yl l' => l == l'
  | .ag vs, .ag vs' | .tp vs, .tp vs' => AV.sameL vs vs'
  | .un, .un => true
  | _, _ => false
def AV.sameL : List AV → List AV → Bool
  | [], [] => true
  | v :: vs, u :: us => v.same u && AV.sameL vs us
  | _, _ => false
end
mutual
theorem AV.eq_of_same : ∀ (v u : AV), v.same u = true → v = u
  | .int k n, u, h => by cases u <;> simp [AV.same] at h; simp [h]
  | .b x, u, h => by cases u <;> simp [AV.same] at h; simp [h]
  | .nilp, u, h => by cases u <;> simp [AV.same] at h; rfl
  | .nils, u, h => by cases u <;> simp [AV.same] at h; rfl
  | .nilf, u, h => by cases u <;> simp [AV.same] at h; rfl
  | .un, u, h => by cases u <;> simp [AV.same] at h; rfl
  | .p q o, u, h => by cases u <;> simp [AV.same] at h; simp [h]
  | .yl q, u, h => by cases u <;> simp [AV.same] at h; simp [h]
  | .s e q o n c, u, h => by cases u <;> simp [AV.same] at h; simp [h]
  | .fn f us vs, u, h => by
    cases u <;> simp [AV.same] at h
    obtain ⟨⟨h1, h2⟩, h3⟩ := h
    rw [h1, AV.eq_of_sameL _ _ h2, AV.eq_of_sameL _ _ h3]
  | .ag vs, u, h => by cases u <;> simp [AV.same] at h; rw [AV.eq_of_sameL _ _ h]
  | .tp vs, u, h => by cases u <;> simp [AV.same] at h; rw [AV.eq_of_sameL _ _ h]
theorem AV.eq_of_sameL : ∀ (vs us : List AV), AV.sameL vs us = true → vs = us
  | [], us, h => by cases us <;> simp [AV.sameL] at h; rfl
  | v :: vs, us, h => by
    cases us <;> simp [AV.sameL] at h
    rw [AV.eq_of_same _ _ h.1, AV.eq_of_sameL _ _ h.2]
end
mutual
theorem AV.same_refl : ∀ v : AV, v.same v = true
  | .int _ _ | .b _ | .nilp | .nils | .nilf | .un | .p _ _ | .yl _ | .s _ _ _ _ _ => by simp [AV.same]
  | .fn _ us vs => by simp [AV.same, AV.sameL_refl us, AV.sameL_refl vs]
  | .ag vs => by simp [AV.same, AV.sameL_refl vs]
  | .tp vs => by simp [AV.same, AV.sameL_refl vs]
theorem AV.sameL_refl : ∀ vs : List AV, AV.sameL vs vs = true
  | [] => by simp [AV.sameL]
  | v :: vs => by simp [AV.sameL, AV.same_refl v, AV.sameL_refl vs]
end

inductive AX where
  | t (n : Nat)
  | c (v : AV)
  deriving Inhabited

inductive AOp where
  | mv (x : AX)
  | pick (c x y : AX)
  | alloc (z : List AV)
  | box (x : AX)
  | build (z : List AV) (parts : List (Nat × Nat × AX))
  | bslice (z : List AV) (len : Nat) (es : Nat) (parts : List (Nat × AX))
  | load (n : Option Nat) (x : AX)
  | store (n : Nat) (p x : AX)
  | bin (op : BinOp) (x y : AX)
  | beq (neg : Bool) (x y : AX)
  | seq (neg : Bool) (x y : AX)
  | aeq (neg : Bool) (n : Nat) (x y : AX)
  | un (op : UnOp) (x : AX)
  | conv (k : IntKind) (x : AX)
  | mkfn (f : Nat) (fst caps : List AX)
  | mkslice (es bytes : Nat) (z : List AV) (l : AX)
  | slice (es : Nat) (x : AX) (lo hi mx : Option AX)
  | slarr (n es : Nat) (x : AX) (lo hi : Option AX)
  | faddr (off : Nat) (x : AX)
  | field (off : Nat) (n : Option Nat) (x : AX)
  | iaddr (es : Nat) (x i : AX)
  | iaddrA (n es : Nat) (x i : AX)
  | index (n es : Nat) (ag : Bool) (x i : AX)
  | len (x : AX)
  | lenA (n : Nat)
  | cap (x : AX)
  | mn (xs : List AX)
  | mx (xs : List AX)
  | append (es bytes : Nat) (s x : AX)
  | appendz (es bytes : Nat) (z : List AV) (s n : AX)
  | copy (es : Nat) (d s : AX)
  | call (f : Nat) (args : List AX)
  | callv (x : AX) (args : List AX)
  | extr (x : AX) (i : Nat)
  | nilchk (x : AX)
  | bad
  deriving Inhabited

structure AOper where
  dst : Option Nat
  op : AOp
  guard : Option (Nat × Bool) := none
  deriving Inhabited

inductive ACode where
  | skip
  | reg (draw : Option (List (Nat × Nat))) (l : List AOper)
  | seq (x y : ACode)
  | cond (c : AX) (x y : ACode)
  | block (id : Nat) (c : ACode)
  | loop (c : ACode)
  | rangeF (nt : Nat) (x : AX) (ps : List Nat) (asg body : ACode)
  | exit (id : Nat)
  | ret
  | bad
  deriving Inhabited

abbrev Fr := Nat → AV
def Fr.upd (a : Fr) (d : Nat) (v : AV) : Fr := fun t => if t = d then v else a t
def Fr.put (a : Fr) : Option Nat → AV → Fr
  | some d, v => a.upd d v
  | none, _ => a
def ev (a : Fr) : AX → AV
  | .t n => a n
  | .c v => v

inductive Jmp where
  | ret
  | exit (id : Nat)
def Jmp.code : Jmp → ACode
  | .ret => .ret
  | .exit id => .exit id

inductive LSt where
  | ready | busy | done

inductive Blk where
  | cells (vs : List AV)
  | dead
  | loop (st : LSt) (pend : Option Jmp) (nt : Nat) (fr : Fr) (ps : List Nat) (asg body : ACode)
/-- nothing of a loop's record is kept -/
def Blk.shut : Blk → Blk
  | .loop .. => .dead
  | k => k
abbrev Heap := List Blk

def ld (H : Heap) (b o : Nat) : Option AV :=
  match H[b]? with
  | some (.cells vs) => vs[o]?
  | _ => none
def ldn (H : Heap) (b o n : Nat) : Option (List AV) :=
  match H[b]? with
  | some (.cells vs) => if o + n ≤ vs.length then some ((vs.drop o).take n) else none
  | _ => none
def wr (cs : List AV) (o : Nat) : List AV → List AV
  | [] => cs
  | v :: vs => wr (cs.set o v) (o + 1) vs
def st (lo : Nat) (H : Heap) (b o : Nat) (vs : List AV) : Option Heap :=
  if lo ≤ b then
    match H[b]? with
    | some (.cells cs) => if o + vs.length ≤ cs.length then some (H.set b (.cells (wr cs o vs))) else none
    | _ => none
  else none

def mostBytes : Nat := 2 ^ 40

def reps (n : Nat) (z : List AV) : List AV := match n with
  | 0 => []
  | n + 1 => z ++ reps n z

/-- 'xs' (m elements) behind a slice. -/
def appendA (lo es bytes : Nat) (sv : AV) (xs : List AV) (m : Nat) (H : Heap) : Option (AV × Heap) :=
  match sv with
  | .nils =>
    if m = 0 then some (.nils, H)
    else if m * bytes ≤ mostBytes then some (.s es H.length 0 m none, H ++ [.cells xs]) else none
  | .s es' b o n c =>
    if es' ≠ es then none
    else if m = 0 then some (sv, H)
    else match H[b]? with
      | some (.cells cs) =>
        if o + n * es ≤ cs.length ∧ (n + m) * bytes ≤ mostBytes then
          if c = some n then some (.s es H.length 0 (n + m) none, H ++ [.cells ((cs.drop o).take (n * es) ++ xs)])
          else if lo ≤ b then some (.s es H.length 0 (n + m) none, H.set b .dead ++ [.cells ((cs.drop o).take (n * es) ++ xs)])
          else none
        else none
      | _ => none
  | _ => none

/-- the first cells of a slice of m elements, of es cells each -/
def cellsOf (es m : Nat) (x : AV) (H : Heap) : Option (List AV) :=
  match x with
  | .nils => if m = 0 then some [] else none
  | .s es' b o n _ => if m ≤ n ∧ es' = es then (if m = 0 then some [] else ldn H b o (m * es)) else none
  | _ => none
def lenA : AV → Option Nat
  | .nils => some 0
  | .s _ _ _ n _ => some n
  | _ => none

def intOf : AV → Option (IntKind × Int)
  | .int k n => some (k, n)
  | _ => none

def binA (op : BinOp) (x y : AV) : Option AV :=
  match op, x, y with
  | .shl, .int k a, .int _ b => if b < 0 then none else some (.int k (k.wrap (a * 2 ^ (min b.toNat k.bits))))
  | .shr, .int k a, .int _ b => if b < 0 then none else some (.int k (a.fdiv (2 ^ (min b.toNat k.bits))))
  | op, .int k a, .int k' b =>
    if k = k' then
      match op with
      | .add => some (.int k (k.wrap (a + b)))
      | .sub => some (.int k (k.wrap (a - b)))
      | .mul => some (.int k (k.wrap (a * b)))
      | .quo => if b = 0 then none else some (.int k (k.wrap (a.tdiv b)))
      | .rem => if b = 0 then none else some (.int k (a.tmod b))
      | .and => some (.int k (k.wrap (BitVec.ofInt k.bits a &&& BitVec.ofInt k.bits b).toNat))
      | .or => some (.int k (k.wrap (BitVec.ofInt k.bits a ||| BitVec.ofInt k.bits b).toNat))
      | .xor => some (.int k (k.wrap (BitVec.ofInt k.bits a ^^^ BitVec.ofInt k.bits b).toNat))
      | .andNot => some (.int k (k.wrap (BitVec.ofInt k.bits a &&& ~~~(BitVec.ofInt k.bits b)).toNat))
      | .eql => some (.b (a == b))
      | .neq => some (.b (a != b))
      | .lss => some (.b (decide (a < b)))
      | .leq => some (.b (decide (a ≤ b)))
      | .gtr => some (.b (decide (a > b)))
      | .geq => some (.b (decide (a ≥ b)))
      | _ => none
    else none
  | _, _, _ => none

def unA (op : UnOp) (x : AV) : Option AV :=
  match op, x with
  | .neg, .int k n => some (.int k (k.wrap (0 - n)))
  | .xor, .int k n => some (.int k (k.wrap (BitVec.ofInt k.bits (if k.signed then -1 else k.max) ^^^ BitVec.ofInt k.bits n).toNat))
  | .not, .b x => some (.b !x)
  | _, _ => none

/-- whole numbers of one kind, i64, side by side -/
def eqInts : List AV → List AV → Option Bool
  | [], [] => some true
  | .int .i64 x :: xs, .int .i64 y :: ys => (eqInts xs ys).map fun r => (x == y) && r
  | _, _ => none

def foldMin (k : IntKind) : Int → List AV → Option Int
  | x, [] => some x
  | x, .int _ y :: r => foldMin k (if y < x then y else x) r
  | _, _ => none
def foldMax (k : IntKind) : Int → List AV → Option Int
  | x, [] => some x
  | x, .int _ y :: r => foldMax k (if y > x then y else x) r
  | _, _ => none

def fillA (cells : List AV) : List (Nat × Nat × AV) → Option (List AV)
  | [] => some cells
  | (off, size, v) :: r =>
    if v.cells.length = size ∧ off + size ≤ cells.length ∧ v.cells.all AV.one then fillA (wr cells off v.cells) r else none

/-- an index within bounds; no operand: the default -/
def boundA (a : Fr) (x : Option AX) (dflt most : Nat) : Option Nat :=
  match x with
  | none => if dflt ≤ most then some dflt else none
  | some x => match ev a x with
    | .int _ i => if 0 ≤ i ∧ i ≤ (most : Int) then some i.toNat else none
    | _ => none

/-- a slice cut within its length: l ≤ h ≤ m; 'none': the capacity is not cut -/
def sliceA (es : Nat) (x : AV) (l h : Nat) (mx : Option Nat) : Option AV :=
  match x with
  | .nils => if l + h + mx.getD 0 = 0 then some .nils else none
  | .s es' b o n c =>
    if es' ≠ es then none else
    match mx with
    | some m => if m ≤ n ∧ h ≤ m ∧ l ≤ h then some (.s es b (if m = l then o else o + l * es) (h - l) (some (m - l))) else none
    | none => if h ≤ n ∧ l ≤ h then some (.s es b (o + l * es) (h - l) (c.map (· - l))) else none
  | _ => none

/-- Operations without a call. -/
def opA (lo : Nat) (o : AOp) (a : Fr) (H : Heap) : Option (AV × Heap) :=
  match o with
  | .mv x => some (ev a x, H)
  | .pick c x y => match ev a c with
    | .b true => some (ev a x, H)
    | .b false => some (ev a y, H)
    | _ => none
  | .alloc z => some (.p H.length 0, H ++ [.cells z])
  | .box x => if (ev a x).cells.all AV.one then some (.p H.length 0, H ++ [.cells (ev a x).cells]) else none
  | .build z parts => (fillA z (parts.map fun q => (q.1, q.2.1, ev a q.2.2))).map fun cs => (.ag cs, H)
  | .bslice z len es parts =>
    (fillA (reps len z) (parts.map fun q => (q.1 * es, es, ev a q.2))).map fun cs => (.s es H.length 0 len (some len), H ++ [.cells cs])
  | .load n x => match ev a x, n with
    | .p b o, none => (ld H b o).map fun v => (v, H)
    | .p b o, some n => (ldn H b o n).map fun vs => (.ag vs, H)
    | _, _ => none
  | .store n p x => match ev a p with
    | .p b o => if (ev a x).cells.length = n ∧ (ev a x).cells.all AV.one then (st lo H b o (ev a x).cells).map fun H' => (.no, H') else none
    | _ => none
  | .bin op x y => (binA op (ev a x) (ev a y)).map fun v => (v, H)
  | .beq neg x y => match ev a x, ev a y with
    | .b p, .b q => some (.b ((p == q) != neg), H)
    | _, _ => none
  | .seq neg x y => match ev a x, ev a y with
    | .nils, .nils => some (.b (!neg), H)
    | .nils, .s _ _ _ _ _ => some (.b neg, H)
    | .s _ _ _ _ _, .nils => some (.b neg, H)
    | _, _ => none
  | .aeq neg n x y => match ev a x, ev a y with
    | .ag xs, .ag ys => if xs.length = n ∧ ys.length = n then (eqInts xs ys).map fun r => (.b (r != neg), H) else none
    | _, _ => none
  | .un op x => (unA op (ev a x)).map fun v => (v, H)
  | .conv k x => match ev a x with
    | .int _ n => some (.int k (k.wrap n), H)
    | _ => none
  | .mkfn f us caps => some (.fn f (us.map (ev a)) (caps.map (ev a)), H)
  | .mkslice es bytes z l => match ev a l with
    | .int .i64 n => if 0 ≤ n ∧ n.toNat * bytes ≤ mostBytes ∧ n ≤ 2 ^ 40 ∧ z.length = es then some (.s es H.length 0 n.toNat (some n.toNat), H ++ [.cells (reps n.toNat z)]) else none
    | _ => none
  | .slice es x l h m => match lenA (ev a x) with
    | some n =>
      match boundA a m n n with
      | some mx => match boundA a h n mx with
        | some hi => match boundA a l 0 hi with
          | some lo' => (sliceA es (ev a x) lo' hi (if m.isSome then some mx else none)).map fun v => (v, H)
          | none => none
        | none => none
      | none => none
    | none => none
  | .slarr n es x l h => match ev a x with
    | .p b o => match boundA a h n n with
      | some hi => match boundA a l 0 hi with
        | some lo' => match H[b]? with
          | some (.cells cs) => if es = 1 ∧ lo ≤ b ∧ o + n ≤ cs.length then some (.s 1 b (o + lo') (hi - lo') (some (n - lo')), H) else none
          | _ => none
        | none => none
      | none => none
    | _ => none
  | .faddr off x => match ev a x with
    | .p b o => some (.p b (o + off), H)
    | _ => none
  | .field off n x => match ev a x, n with
    | .ag vs, none => (vs[off]?).map fun v => (v, H)
    | .ag vs, some n => if off + n ≤ vs.length then some (.ag ((vs.drop off).take n), H) else none
    | _, _ => none
  | .iaddr es x i => match ev a x, ev a i with
    | .s es' b o n _, .int _ i => if 0 ≤ i ∧ i < n ∧ es' = es then some (.p b (o + i.toNat * es), H) else none
    | _, _ => none
  | .iaddrA n es x i => match ev a x, ev a i with
    | .p b o, .int _ i => if 0 ≤ i ∧ i < n then some (.p b (o + i.toNat * es), H) else none
    | _, _ => none
  | .index n es ag x i => match ev a x, ev a i with
    | .ag vs, .int _ i => if 0 ≤ i ∧ i < n then
        (if ag then (if i.toNat * es + es ≤ vs.length then some (.ag ((vs.drop (i.toNat * es)).take es), H) else none)
         else (vs[i.toNat * es]?).map fun v => (v, H)) else none
    | _, _ => none
  | .len x => (lenA (ev a x)).map fun (n : Nat) => (AV.i (n : Int), H)
  | .lenA n => some (.i n, H)
  | .cap x => match ev a x with
    | .nils => some (.i 0, H)
    | .s _ _ _ _ (some c) => some (.i c, H)
    | _ => none
  | .mn xs => match xs.map (ev a) with
    | .int k x :: r => (foldMin k x r).map fun n => (.int k n, H)
    | _ => none
  | .mx xs => match xs.map (ev a) with
    | .int k x :: r => (foldMax k x r).map fun n => (.int k n, H)
    | _ => none
  | .append es bytes s x => match lenA (ev a x) with
    | some m => match cellsOf es m (ev a x) H with
      | some xs => appendA lo es bytes (ev a s) xs m H
      | none => none
    | none => none
  | .appendz es bytes z s n => match ev a n with
    | .int .i64 n => if 0 ≤ n ∧ n ≤ 2 ^ 40 ∧ n.toNat * bytes ≤ mostBytes ∧ z.length = es then appendA lo es bytes (ev a s) (reps n.toNat z) n.toNat H else none
    | _ => none
  | .copy es d s => match ev a d, lenA (ev a s) with
    | .s es' b o n _, some m => if es' ≠ es then none else match cellsOf es (min m n) (ev a s) H with
      | some xs => if xs = [] then some (.i (min m n : Nat), H) else if xs.all AV.one then (st lo H b o xs).map fun H' => (.i (min m n : Nat), H') else none
      | none => none
    | .nils, some _ => some (.i 0, H)
    | _, _ => none
  | .extr x i => match ev a x with
    | .tp vs => (vs[i]?).map fun v => (v, H)
    | _ => none
  | .nilchk x => match ev a x with
    | .p b o => some (.p b o, H)
    | .fn f u c => some (.fn f u c, H)
    | .yl l => some (.yl l, H)
    | _ => none
  | .call _ _ | .callv _ _ | .bad => none

end Go.AM
