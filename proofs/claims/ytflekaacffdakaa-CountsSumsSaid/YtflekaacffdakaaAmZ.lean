/- A fast form of the evaluator, for the kernel's own computing: equal to the plain one. No condition. -/
import Derived.Test.YtflekaacffdakaaAmY
namespace Go.AM
open Go

def wrapQ (k : IntKind) (n : Int) : Int :=
  match k with
  | .i64 => match n with
    | .ofNat m => if m < 2 ^ 63 then .ofNat m else IntKind.i64.wrap (.ofNat m)
    | .negSucc m => if m < 2 ^ 63 then .negSucc m else IntKind.i64.wrap (.negSucc m)
  | k => k.wrap n
theorem wrapQ_eq (k : IntKind) (n : Int) : wrapQ k n = k.wrap n := by
  unfold wrapQ
  split
  · split
    · rename_i m
      by_cases h : m < 2 ^ 63
      · rw [if_pos h, IntKind.wrap_i64]
        simp only [Int.ofNat_eq_natCast]
        omega
      · rw [if_neg h]
    · rename_i m
      by_cases h : m < 2 ^ 63
      · rw [if_pos h, IntKind.wrap_i64, Int.negSucc_eq m]
        omega
      · rw [if_neg h]
  · rfl
def ltQ : Int → Int → Bool
  | .ofNat a, .ofNat b => Nat.ble (a + 1) b
  | .negSucc _, .ofNat _ => true
  | .ofNat _, .negSucc _ => false
  | .negSucc a, .negSucc b => Nat.ble (b + 1) a
theorem ltQ_eq (m n : Int) : ltQ m n = decide (m < n) := by
  cases m <;> cases n <;> simp only [ltQ]
  · rename_i a b
    rw [Bool.eq_iff_iff, Nat.ble_eq, decide_eq_true_eq]
    simp only [Int.ofNat_eq_natCast]; omega
  · rename_i a b
    rw [eq_comm, decide_eq_false_iff_not]
    simp only [Int.ofNat_eq_natCast]; omega
  · rename_i a b
    rw [eq_comm, decide_eq_true_eq]
    simp only [Int.ofNat_eq_natCast]; omega
  · rename_i a b
    rw [Bool.eq_iff_iff, Nat.ble_eq, decide_eq_true_eq]
    omega
def eqQ : Int → Int → Bool
  | .ofNat a, .ofNat b => Nat.beq a b
  | .negSucc a, .negSucc b => Nat.beq a b
  | _, _ => false
theorem eqQ_eq (m n : Int) : eqQ m n = (m == n) := by
  cases m <;> cases n <;> simp only [eqQ]
  · rename_i a b
    rw [Bool.eq_iff_iff, Nat.beq_eq, beq_iff_eq]
    simp only [Int.ofNat_eq_natCast]; omega
  · rw [eq_comm, beq_eq_false_iff_ne]; simp
  · rw [eq_comm, beq_eq_false_iff_ne]; simp
  · rename_i a b
    rw [Bool.eq_iff_iff, Nat.beq_eq, beq_iff_eq]
    omega
def i64s (x y : AV) (f : Int → Int → AV) (other : Unit → Option AV) : Option AV :=
  match x with
  | .int k m => match k with
    | .i64 => match y with
      | .int k' n => match k' with
        | .i64 => some (f m n)
        | _ => other ()
      | _ => other ()
    | _ => other ()
  | _ => other ()
theorem i64s_eq {x y : AV} {f : Int → Int → AV} {r : Option AV} (h : ∀ m n, x = .i m → y = .i n → r = some (f m n)) : i64s x y f (fun _ => r) = r := by
  unfold i64s
  split
  · split
    · split
      · split
        · exact (h _ _ rfl rfl).symm
        · rfl
      · rfl
    · rfl
  · rfl
def binQ (op : BinOp) (x y : AV) : Option AV :=
  match op with
  | .add => i64s x y (fun m n => .i (wrapQ .i64 (m + n))) fun _ => binA .add x y
  | .sub => i64s x y (fun m n => .i (wrapQ .i64 (m - n))) fun _ => binA .sub x y
  | .mul => i64s x y (fun m n => .i (wrapQ .i64 (m * n))) fun _ => binA .mul x y
  | .lss => i64s x y (fun m n => .b (ltQ m n)) fun _ => binA .lss x y
  | .gtr => i64s x y (fun m n => .b (ltQ n m)) fun _ => binA .gtr x y
  | .leq => i64s x y (fun m n => .b (!ltQ n m)) fun _ => binA .leq x y
  | .geq => i64s x y (fun m n => .b (!ltQ m n)) fun _ => binA .geq x y
  | .eql => i64s x y (fun m n => .b (eqQ m n)) fun _ => binA .eql x y
  | .neq => i64s x y (fun m n => .b (!eqQ m n)) fun _ => binA .neq x y
  | op => binA op x y
theorem binQ_eq (op : BinOp) (x y : AV) : binQ op x y = binA op x y := by
  cases op <;> simp only [binQ] <;> refine i64s_eq fun m n hx hy => ?_
  all_goals
    subst hx hy
    simp only [binA, if_true, wrapQ_eq, ltQ_eq, eqQ_eq]
  all_goals first
    | rfl
    | (rw [← decide_not, decide_eq_decide.2 (by omega : m ≤ n ↔ ¬ n < m)]; done)
    | (rw [← decide_not, decide_eq_decide.2 (by omega : m ≥ n ↔ ¬ m < n)]; done)

def x_mv (x : AX) (_lo : Nat) (a : Fr) (H : Heap) : Option (AV × Heap) := some (ev a x, H)
def x_pick (c : AX) (x : AX) (y : AX) (_lo : Nat) (a : Fr) (H : Heap) : Option (AV × Heap) :=
  match ev a c with
    | .b true => some (ev a x, H)
    | .b false => some (ev a y, H)
    | _ => none
def x_alloc (z : List AV) (_lo : Nat) (_a : Fr) (H : Heap) : Option (AV × Heap) := some (.p H.length 0, H ++ [.cells z])
def x_box (x : AX) (_lo : Nat) (a : Fr) (H : Heap) : Option (AV × Heap) := if (ev a x).cells.all AV.one then some (.p H.length 0, H ++ [.cells (ev a x).cells]) else none
def x_build (z : List AV) (parts : List (Nat × Nat × AX)) (_lo : Nat) (a : Fr) (H : Heap) : Option (AV × Heap) := (fillA z (parts.map fun q => (q.1, q.2.1, ev a q.2.2))).map fun cs => (.ag cs, H)
def x_bslice (z : List AV) (len : Nat) (es : Nat) (parts : List (Nat × AX)) (_lo : Nat) (a : Fr) (H : Heap) : Option (AV × Heap) :=    (fillA (reps len z) (parts.map fun q => (q.1 * es, es, ev a q.2))).map fun cs => (.s es H.length 0 len (some len), H ++ [.cells cs])
def x_load (n : Option Nat) (x : AX) (_lo : Nat) (a : Fr) (H : Heap) : Option (AV × Heap) :=
  match ev a x with
    | .p b o => (match n with
      | none => (ld H b o).map fun v => (v, H)
      | some n => (ldn H b o n).map fun vs => (.ag vs, H))
    | _ => none
def x_store (n : Nat) (p : AX) (x : AX) (lo : Nat) (a : Fr) (H : Heap) : Option (AV × Heap) :=
  match ev a p with
    | .p b o => if (ev a x).cells.length = n ∧ (ev a x).cells.all AV.one then (st lo H b o (ev a x).cells).map fun H' => (.no, H') else none
    | _ => none
def x_bin (op : BinOp) (x : AX) (y : AX) (_lo : Nat) (a : Fr) (H : Heap) : Option (AV × Heap) := (binQ op (ev a x) (ev a y)).map fun v => (v, H)
def x_beq (neg : Bool) (x : AX) (y : AX) (_lo : Nat) (a : Fr) (H : Heap) : Option (AV × Heap) :=
  match ev a x, ev a y with
    | .b p, .b q => some (.b ((p == q) != neg), H)
    | _, _ => none
def x_seq (neg : Bool) (x : AX) (y : AX) (_lo : Nat) (a : Fr) (H : Heap) : Option (AV × Heap) :=
  match ev a x, ev a y with
    | .nils, .nils => some (.b (!neg), H)
    | .nils, .s _ _ _ _ _ => some (.b neg, H)
    | .s _ _ _ _ _, .nils => some (.b neg, H)
    | _, _ => none
def x_aeq (neg : Bool) (n : Nat) (x : AX) (y : AX) (_lo : Nat) (a : Fr) (H : Heap) : Option (AV × Heap) :=
  match ev a x, ev a y with
    | .ag xs, .ag ys => if xs.length = n ∧ ys.length = n then (eqInts xs ys).map fun r => (.b (r != neg), H) else none
    | _, _ => none
def x_un (op : UnOp) (x : AX) (_lo : Nat) (a : Fr) (H : Heap) : Option (AV × Heap) := (unA op (ev a x)).map fun v => (v, H)
def x_conv (k : IntKind) (x : AX) (_lo : Nat) (a : Fr) (H : Heap) : Option (AV × Heap) :=
  match ev a x with
    | .int _ n => some (.int k (wrapQ k n), H)
    | _ => none
def x_mkfn (f : Nat) (us : List AX) (caps : List AX) (_lo : Nat) (a : Fr) (H : Heap) : Option (AV × Heap) := some (.fn f (us.map (ev a)) (caps.map (ev a)), H)
def x_mkslice (es : Nat) (bytes : Nat) (z : List AV) (l : AX) (_lo : Nat) (a : Fr) (H : Heap) : Option (AV × Heap) :=
  match ev a l with
    | .int .i64 n => if 0 ≤ n ∧ n.toNat * bytes ≤ mostBytes ∧ n ≤ 2 ^ 40 ∧ z.length = es then some (.s es H.length 0 n.toNat (some n.toNat), H ++ [.cells (reps n.toNat z)]) else none
    | _ => none
def x_slice (es : Nat) (x : AX) (l : Option AX) (h : Option AX) (m : Option AX) (_lo : Nat) (a : Fr) (H : Heap) : Option (AV × Heap) :=
  match lenA (ev a x) with
    | some n =>
      match boundA a m n n with
      | some mx => match boundA a h n mx with
        | some hi => match boundA a l 0 hi with
          | some lo' => (sliceA es (ev a x) lo' hi (if m.isSome then some mx else none)).map fun v => (v, H)
          | none => none
        | none => none
      | none => none
    | none => none
def x_slarr (n : Nat) (es : Nat) (x : AX) (l : Option AX) (h : Option AX) (lo : Nat) (a : Fr) (H : Heap) : Option (AV × Heap) :=
  match ev a x with
    | .p b o => match boundA a h n n with
      | some hi => match boundA a l 0 hi with
        | some lo' => match H[b]? with
          | some (.cells cs) => if es = 1 ∧ lo ≤ b ∧ o + n ≤ cs.length then some (.s 1 b (o + lo') (hi - lo') (some (n - lo')), H) else none
          | _ => none
        | none => none
      | none => none
    | _ => none
def x_faddr (off : Nat) (x : AX) (_lo : Nat) (a : Fr) (H : Heap) : Option (AV × Heap) :=
  match ev a x with
    | .p b o => some (.p b (o + off), H)
    | _ => none
def x_field (off : Nat) (n : Option Nat) (x : AX) (_lo : Nat) (a : Fr) (H : Heap) : Option (AV × Heap) :=
  match ev a x, n with
    | .ag vs, none => (vs[off]?).map fun v => (v, H)
    | .ag vs, some n => if off + n ≤ vs.length then some (.ag ((vs.drop off).take n), H) else none
    | _, _ => none
def x_iaddr (es : Nat) (x : AX) (i : AX) (_lo : Nat) (a : Fr) (H : Heap) : Option (AV × Heap) :=
  match ev a x with
    | .s es' b o n _ => (match ev a i with
      | .int _ i => if 0 ≤ i ∧ i < n ∧ es' = es then some (.p b (o + i.toNat * es), H) else none
      | _ => none)
    | _ => none
def x_iaddrA (n : Nat) (es : Nat) (x : AX) (i : AX) (_lo : Nat) (a : Fr) (H : Heap) : Option (AV × Heap) :=
  match ev a x, ev a i with
    | .p b o, .int _ i => if 0 ≤ i ∧ i < n then some (.p b (o + i.toNat * es), H) else none
    | _, _ => none
def x_index (n : Nat) (es : Nat) (ag : Bool) (x : AX) (i : AX) (_lo : Nat) (a : Fr) (H : Heap) : Option (AV × Heap) :=
  match ev a x, ev a i with
    | .ag vs, .int _ i => if 0 ≤ i ∧ i < n then
        (if ag then (if i.toNat * es + es ≤ vs.length then some (.ag ((vs.drop (i.toNat * es)).take es), H) else none)
         else (vs[i.toNat * es]?).map fun v => (v, H)) else none
    | _, _ => none
def x_len (x : AX) (_lo : Nat) (a : Fr) (H : Heap) : Option (AV × Heap) := (lenA (ev a x)).map fun (n : Nat) => (AV.i (n : Int), H)
def x_lenA (n : Nat) (_lo : Nat) (_a : Fr) (H : Heap) : Option (AV × Heap) := some (.i n, H)
def x_cap (x : AX) (_lo : Nat) (a : Fr) (H : Heap) : Option (AV × Heap) :=
  match ev a x with
    | .nils => some (.i 0, H)
    | .s _ _ _ _ (some c) => some (.i c, H)
    | _ => none
def x_mn (xs : List AX) (_lo : Nat) (a : Fr) (H : Heap) : Option (AV × Heap) :=
  match xs.map (ev a) with
    | .int k x :: r => (foldMin k x r).map fun n => (.int k n, H)
    | _ => none
def x_mx (xs : List AX) (_lo : Nat) (a : Fr) (H : Heap) : Option (AV × Heap) :=
  match xs.map (ev a) with
    | .int k x :: r => (foldMax k x r).map fun n => (.int k n, H)
    | _ => none
def x_append (es : Nat) (bytes : Nat) (s : AX) (x : AX) (lo : Nat) (a : Fr) (H : Heap) : Option (AV × Heap) :=
  match lenA (ev a x) with
    | some m => match cellsOf es m (ev a x) H with
      | some xs => appendA lo es bytes (ev a s) xs m H
      | none => none
    | none => none
def x_appendz (es : Nat) (bytes : Nat) (z : List AV) (s : AX) (n : AX) (lo : Nat) (a : Fr) (H : Heap) : Option (AV × Heap) :=
  match ev a n with
    | .int .i64 n => if 0 ≤ n ∧ n ≤ 2 ^ 40 ∧ n.toNat * bytes ≤ mostBytes ∧ z.length = es then appendA lo es bytes (ev a s) (reps n.toNat z) n.toNat H else none
    | _ => none
def x_copy (es : Nat) (d : AX) (s : AX) (lo : Nat) (a : Fr) (H : Heap) : Option (AV × Heap) :=
  match ev a d, lenA (ev a s) with
    | .s es' b o n _, some m => if es' ≠ es then none else match cellsOf es (min m n) (ev a s) H with
      | some xs => if xs = [] then some (.i (min m n : Nat), H) else if xs.all AV.one then (st lo H b o xs).map fun H' => (.i (min m n : Nat), H') else none
      | none => none
    | .nils, some _ => some (.i 0, H)
    | _, _ => none
def x_extr (x : AX) (i : Nat) (_lo : Nat) (a : Fr) (H : Heap) : Option (AV × Heap) :=
  match ev a x with
    | .tp vs => (vs[i]?).map fun v => (v, H)
    | _ => none
def x_nilchk (x : AX) (_lo : Nat) (a : Fr) (H : Heap) : Option (AV × Heap) :=
  match ev a x with
    | .p b o => some (.p b o, H)
    | .fn f u c => some (.fn f u c, H)
    | .yl l => some (.yl l, H)
    | _ => none

noncomputable def opQ (o : AOp) : Nat → Fr → Heap → Option (AV × Heap) :=
  @AOp.rec (fun _ => Nat → Fr → Heap → Option (AV × Heap)) x_mv x_pick x_alloc x_box x_build x_bslice x_load x_store x_bin x_beq x_seq x_aeq x_un x_conv x_mkfn x_mkslice x_slice x_slarr x_faddr x_field x_iaddr x_iaddrA x_index x_len x_lenA x_cap x_mn x_mx x_append x_appendz x_copy (fun _ _ _ _ _ => none) (fun _ _ _ _ _ => none) x_extr x_nilchk (fun _ _ _ => none) o
theorem opQ_eq (lo : Nat) (o : AOp) (a : Fr) (H : Heap) : opQ o lo a H = opA lo o a H := by
  cases o
  case bin op x y => simp only [opQ, x_bin, opA, binQ_eq]
  case conv k x =>
    simp only [opQ, x_conv, opA, wrapQ_eq]
    cases ev a x <;> rfl
  case iaddr es x i =>
    simp only [opQ, x_iaddr, opA]
    cases ev a x <;> cases ev a i <;> rfl
  case load n x =>
    simp only [opQ, x_load, opA]
    cases ev a x <;> cases n <;> rfl
  all_goals rfl

section
variable (E : Tab) (rec : Rec) (lo : Nat)
noncomputable def opFQ (o : AOp) (a : Fr) (H : Heap) : Option (AV × Heap) :=
  @AOp.casesOn (fun _ => Tab → Rec → Nat → Fr → Heap → Option (AV × Heap)) o (fun u0 _ _ lo a H => x_mv u0 lo a H) (fun u0 u1 u2 _ _ lo a H => x_pick u0 u1 u2 lo a H) (fun u0 _ _ lo a H => x_alloc u0 lo a H) (fun u0 _ _ lo a H => x_box u0 lo a H) (fun u0 u1 _ _ lo a H => x_build u0 u1 lo a H) (fun u0 u1 u2 u3 _ _ lo a H => x_bslice u0 u1 u2 u3 lo a H) (fun u0 u1 _ _ lo a H => x_load u0 u1 lo a H) (fun u0 u1 u2 _ _ lo a H => x_store u0 u1 u2 lo a H) (fun u0 u1 u2 _ _ lo a H => x_bin u0 u1 u2 lo a H) (fun u0 u1 u2 _ _ lo a H => x_beq u0 u1 u2 lo a H) (fun u0 u1 u2 _ _ lo a H => x_seq u0 u1 u2 lo a H) (fun u0 u1 u2 u3 _ _ lo a H => x_aeq u0 u1 u2 u3 lo a H) (fun u0 u1 _ _ lo a H => x_un u0 u1 lo a H) (fun u0 u1 _ _ lo a H => x_conv u0 u1 lo a H) (fun u0 u1 u2 _ _ lo a H => x_mkfn u0 u1 u2 lo a H) (fun u0 u1 u2 u3 _ _ lo a H => x_mkslice u0 u1 u2 u3 lo a H) (fun u0 u1 u2 u3 u4 _ _ lo a H => x_slice u0 u1 u2 u3 u4 lo a H) (fun u0 u1 u2 u3 u4 _ _ lo a H => x_slarr u0 u1 u2 u3 u4 lo a H) (fun u0 u1 _ _ lo a H => x_faddr u0 u1 lo a H) (fun u0 u1 u2 _ _ lo a H => x_field u0 u1 u2 lo a H) (fun u0 u1 u2 _ _ lo a H => x_iaddr u0 u1 u2 lo a H) (fun u0 u1 u2 u3 _ _ lo a H => x_iaddrA u0 u1 u2 u3 lo a H) (fun u0 u1 u2 u3 u4 _ _ lo a H => x_index u0 u1 u2 u3 u4 lo a H) (fun u0 _ _ lo a H => x_len u0 lo a H) (fun u0 _ _ lo a H => x_lenA u0 lo a H) (fun u0 _ _ lo a H => x_cap u0 lo a H) (fun u0 _ _ lo a H => x_mn u0 lo a H) (fun u0 _ _ lo a H => x_mx u0 lo a H) (fun u0 u1 u2 u3 _ _ lo a H => x_append u0 u1 u2 u3 lo a H) (fun u0 u1 u2 u3 u4 _ _ lo a H => x_appendz u0 u1 u2 u3 u4 lo a H) (fun u0 u1 u2 _ _ lo a H => x_copy u0 u1 u2 lo a H) (fun f args E rec lo a H => callF E rec lo f (args.map (ev a)) H) (fun x args E rec lo a H => callV E rec lo (ev a x) (args.map (ev a)) H) (fun u0 u1 _ _ lo a H => x_extr u0 u1 lo a H) (fun u0 _ _ lo a H => x_nilchk u0 lo a H) (fun _ _ _ _ _ => none) E rec lo a H

theorem opFQ_eq (o : AOp) (a : Fr) (H : Heap) : opFQ E rec lo o a H = opF E rec lo o a H := by
  have h := opQ_eq lo o a H
  cases o <;> first | rfl | exact h
noncomputable def runOpsQ (l : List AOper) : Fr → Heap → Option (Fr × Heap) :=
  @List.rec AOper (fun _ => Fr → Heap → Option (Fr × Heap)) (fun a H => some (a, H))
    (fun o _ ih a H => @Option.rec (Nat × Bool) (fun _ => Option (Fr × Heap))
      (@Option.rec (AV × Heap) (fun _ => Option (Fr × Heap)) none (fun r => ih (a.put o.dst r.1) r.2) (opFQ E rec lo o.op a H))
      (fun g => match wantedA a (some g) with
        | some true => @Option.rec (AV × Heap) (fun _ => Option (Fr × Heap)) none (fun r => ih (a.put o.dst r.1) r.2) (opFQ E rec lo o.op a H)
        | some false => ih (a.put o.dst .no) H
        | none => none) o.guard) l
theorem runOpsQ_cons (o : AOper) (os : List AOper) (a : Fr) (H : Heap) : runOpsQ E rec lo (o :: os) a H =
    @Option.rec (Nat × Bool) (fun _ => Option (Fr × Heap))
      (@Option.rec (AV × Heap) (fun _ => Option (Fr × Heap)) none (fun r => runOpsQ E rec lo os (a.put o.dst r.1) r.2) (opFQ E rec lo o.op a H))
      (fun g => match wantedA a (some g) with
        | some true => @Option.rec (AV × Heap) (fun _ => Option (Fr × Heap)) none (fun r => runOpsQ E rec lo os (a.put o.dst r.1) r.2) (opFQ E rec lo o.op a H)
        | some false => runOpsQ E rec lo os (a.put o.dst .no) H
        | none => none) o.guard := rfl
theorem runOpsQ_eq : ∀ (l : List AOper) (a : Fr) (H : Heap), runOpsQ E rec lo l a H = runOps E rec lo l a H
  | [], _, _ => rfl
  | o :: os, a, H => by
    rw [runOpsQ_cons]
    simp only [runOps, opFQ_eq]
    obtain ⟨dst, op, guard⟩ := o
    cases guard with
    | none =>
      simp only [wantedA]
      cases opF E rec lo op a H with
      | none => rfl
      | some r => exact runOpsQ_eq os _ _
    | some g =>
      simp only
      cases wantedA a (some g) with
      | none => rfl
      | some t => cases t with
        | false => exact runOpsQ_eq os _ _
        | true =>
          simp only
          cases opF E rec lo op a H with
          | none => rfl
          | some r => exact runOpsQ_eq os _ _
theorem runTr_ops : ∀ (l : List AOper) (a : Fr) (H : Heap), (runTr E rec lo l a H).bind (fun tr => tr[l.length]?) = runOps E rec lo l a H
  | [], _, _ => rfl
  | o :: os, a, H => by
    simp only [runTr, runOps]
    cases wantedA a o.guard with
    | none => rfl
    | some t => cases t with
      | false =>
        rw [← runTr_ops os]
        simp only [Option.bind_map]
        cases runTr E rec lo os (a.put o.dst .no) H <;> rfl
      | true =>
        simp only
        cases opF E rec lo o.op a H with
        | none => rfl
        | some r =>
          simp only [Option.bind_some]
          rw [← runTr_ops os]
          simp only [Option.bind_map]
          cases runTr E rec lo os (a.put o.dst r.1) r.2 <;> rfl
noncomputable def runDQ (ck : List (Nat × Nat)) (l : List AOper) (a : Fr) (H : Heap) : Option (Fr × Heap) :=
  match ck with
  | [] => runOpsQ E rec lo l a H
  | ck => runD E rec lo ck l a H
theorem runDQ_eq (ck : List (Nat × Nat)) (l : List AOper) (a : Fr) (H : Heap) : runDQ E rec lo ck l a H = runD E rec lo ck l a H := by
  unfold runDQ
  split
  · rw [runOpsQ_eq, ← runTr_ops]; rfl
  · rfl
noncomputable def stepQ (rd : Option Nat) (k : List AI) (a : Fr) (H : Heap) : Option Res :=
  match k with
  | [] => some (.done, a, H)
  | i :: k => match i with
    | .blk _ => rec lo rd k a H
    | .lp c => rec lo rd (.code c :: .lp c :: k) a H
    | .begin => stepR E rec lo rd (.begin :: k) a H
    | .code c => match c with
      | .seq x y => rec lo rd (.code x :: .code y :: k) a H
      | .reg d l => match d with
        | none => match runOpsQ E rec lo l a H with
          | some r => rec lo rd k r.1 r.2
          | none => none
        | some ck => match runDQ E rec lo ck l a H with
          | some r => rec lo rd k r.1 r.2
          | none => none
      | .cond c x y => match ev a c with
        | .b t => rec lo rd (.code (bif t then x else y) :: k) a H
        | _ => none
      | .block id c => rec lo rd (.code c :: .blk id :: k) a H
      | .loop c => rec lo rd (.code c :: .lp c :: k) a H
      | .skip => rec lo rd k a H
      | .ret => some (.ret, a, H)
      | c => stepR E rec lo rd (.code c :: k) a H
theorem stepQ_eq (rd : Option Nat) (k : List AI) (a : Fr) (H : Heap) : stepQ E rec lo rd k a H = stepR E rec lo rd k a H := by
  cases k with
  | nil => rfl
  | cons i k => cases i with
    | blk _ => rfl
    | lp c => rfl
    | begin => rfl
    | code c => cases c with
      | reg d l => cases d with
        | none =>
          simp only [stepQ, stepR, runOpsQ_eq]
          cases runOps E rec lo l a H <;> rfl
        | some ck =>
          simp only [stepQ, stepR, runDQ_eq]
          cases runD E rec lo ck l a H <;> rfl
      | cond c x y =>
        simp only [stepQ, stepR]
        cases ev a c <;> try rfl
        rename_i t
        cases t <;> rfl
      | _ => rfl
end
noncomputable def RQ (E : Tab) (n : Nat) : Rec := @Nat.rec (fun _ => Rec) (fun _ _ _ _ _ => none) (fun _ rec => stepQ E rec) n
theorem RQ_eq (E : Tab) : ∀ n, RQ E n = R E n
  | 0 => rfl
  | n + 1 => by
    show stepQ E (RQ E n) = stepR E (R E n)
    rw [RQ_eq E n]
    funext lo rd k a H
    exact stepQ_eq ..
end Go.AM
