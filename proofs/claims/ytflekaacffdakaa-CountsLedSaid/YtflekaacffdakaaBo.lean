/- Symbolic steps of the abstract machine; values, memory, slices; a row's arguments. No condition. -/
import Derived.Test.YtflekaacffdakaaAm2
import Derived.Deep.Slices
import Derived.ChangeSame
import Derived.ChangeOld
import Derived.Carry
set_option linter.unusedSimpArgs false
set_option linter.unusedVariables false
namespace Go.AM
theorem yx0 : ∀ {α : Type} [inst : BEq α] [ReflBEq α] (a : α), (a == a) = true := @beq_self_eq_true
theorem yx1 : (!true) = false := @Bool.not_true
theorem yx2 : (!false) = true := @Bool.not_false
theorem yx3 : ∀ {α : Type} {β : Type} (a : α) (f : α → Option β), Option.bind (some a) f = f a := @Option.bind_some
theorem yx4 : ∀ {α : Type} {a : α} {l : List α} {f : α → Bool}, List.all (a :: l) f = (f a && List.all l f) := @List.all_cons
theorem yx5 : ∀ {α : Type} {f : α → Bool}, List.all [] f = true := @List.all_nil
theorem yx6 : ∀ (b : Bool), (b || false) = b := @Bool.or_false
theorem yx7 : ∀ (b : Bool), (false || b) = b := @Bool.false_or
theorem yx8 : ∀ (b : Bool), (b || true) = true := @Bool.or_true
theorem yx9 : ∀ (b : Bool), (true || b) = true := @Bool.true_or
theorem yx10 : ∀ (b : Bool), (b && true) = b := @Bool.and_true
theorem yx11 : ∀ (b : Bool), (true && b) = b := @Bool.true_and
theorem yx12 : ∀ (b : Bool), (b && false) = false := @Bool.and_false
theorem yx13 : ∀ (b : Bool), (false && b) = false := @Bool.false_and
theorem yx14 : ∀ (b : Bool), (b && b) = b := @Bool.and_self
theorem yx15 : ∀ (p : Prop), (p ∧ p) = p := @and_self
theorem yx16 : ∀ (p : Prop), (p ∧ True) = p := @and_true
theorem yx17 : ∀ (p : Prop), (True ∧ p) = p := @true_and
theorem yx18 : ∀ {α : Type} {a : α} {as : List α}, List.length (a :: as) = List.length as + 1 := @List.length_cons
theorem yx19 : ∀ {α : Type}, List.length ([] : List α) = 0 := @List.length_nil
theorem yx20 : ∀ {α : Type} {as bs : List α}, List.length (as ++ bs) = List.length as + List.length bs := @List.length_append
theorem yx21 : ∀ {α : Type} {x : α} {xs : List α} {a : α}, List.set (x :: xs) 0 a = a :: xs := @List.set_cons_zero
theorem yx22 : ∀ {α : Type} {x : α} {xs : List α} {i : Nat} {a : α}, List.set (x :: xs) (i + 1) a = x :: List.set xs i a := @List.set_cons_succ
theorem yx23 : ∀ {α : Type} {a : α} {l : List α}, (a :: l)[0]? = some a := @List.getElem?_cons_zero
theorem yx24 : ∀ {α : Type} {a : α} {i : Nat} {l : List α}, (a :: l)[i + 1]? = l[i]? := @List.getElem?_cons_succ
theorem yx25 : ∀ {α : Type} {l₁ l₂ : List α} {i : Nat}, i < List.length l₁ → (l₁ ++ l₂)[i]? = l₁[i]? := @List.getElem?_append_left
theorem yx26 : ∀ {α : Type} {l₁ l₂ : List α} {i : Nat}, List.length l₁ ≤ i → (l₁ ++ l₂)[i]? = l₂[i - List.length l₁]? := @List.getElem?_append_right
theorem yx27 : ∀ {α : Type} (as : List α), [] ++ as = as := @List.nil_append
theorem yx28 : ∀ {α : Type} {a : α} {as bs : List α}, a :: as ++ bs = a :: (as ++ bs) := @List.cons_append
theorem yx29 : ∀ {α : Type} (as : List α), as ++ [] = as := @List.append_nil
theorem yx30 : ∀ {α : Type} {l : List α}, List.drop 0 l = l := @List.drop_zero
theorem yx31 : ∀ {α : Type} {a : α} {l : List α} {i : Nat}, List.drop (i + 1) (a :: l) = List.drop i l := @List.drop_succ_cons
theorem yx32 : ∀ {α : Type} {l : List α}, List.take 0 l = [] := @List.take_zero
theorem yx33 : ∀ {α : Type} {a : α} {as : List α} {i : Nat}, List.take (i + 1) (a :: as) = a :: List.take i as := @List.take_succ_cons
theorem yx34 : ∀ {α : Type} {i : Nat}, List.take i ([] : List α) = [] := @List.take_nil
theorem yx35 : ∀ (n : Nat), n - n = 0 := @Nat.sub_self
theorem yx36 : ∀ (n m : Nat), n + m - n = m := @Nat.add_sub_cancel_left
theorem yx37 : ∀ (n : Nat), 0 + n = n := @Nat.zero_add
theorem yx38 : ∀ (n : Nat), n + 0 = n := @Nat.add_zero
theorem yx39 : ∀ (n : Nat), n ≤ n := @Nat.le_refl
theorem yx40 : ∀ (n : Nat), 0 * n = 0 := @Nat.zero_mul
theorem yx41 : ∀ (n : Nat), n * 1 = n := @Nat.mul_one
theorem yx42 : ∀ (n m : Nat), ((n + m : Nat) : Int) = (n : Int) + (m : Int) := @Int.natCast_add
theorem yx43 : ((1 : Nat) : Int) = 1 := @Int.natCast_one
theorem yx45 : ((0 : Nat) : Int) = 0 := @Int.natCast_zero
theorem yx46 : ∀ {α : Type} {c : Prop} {d : Decidable c} (a : α), (if c then a else a) = a := @ite_self
theorem yx47 : ∀ {α : Type} [inst : BEq α] [LawfulBEq α] (a : α), (a != a) = false := @bne_self_eq_false
theorem yx48 : ∀ {α : Type} {β : Type} {f : α → β} {a : α} {l : List α}, List.map f (a :: l) = f a :: List.map f l := @List.map_cons
theorem yx49 : ∀ {α : Type} {β : Type} {f : α → β}, List.map f [] = [] := @List.map_nil
theorem yx50 : ∀ {α : Type} {β : Type} (a : α) (f : α → β), Option.map f (some a) = some (f a) := @Option.map_some
theorem yx51 : ∀ {α : Type} {β : Type} (f : α → β), Option.map f none = none := @Option.map_none
theorem yx52 : ∀ {α : Type} {x : Decidable True} (t e : α), (if True then t else e) = t := @if_true
theorem yx53 : ∀ {α : Type} {x : Decidable False} (t e : α), (if False then t else e) = e := @if_false
theorem yx54 : (false = true) = False := @Bool.false_eq_true
theorem yx55 : (true = false) = False := @Bool.true_eq_false
theorem yx56 : ∀ (h : Decidable True), decide True = true := @decide_true
theorem yx57 : ∀ (h : Decidable False), decide False = false := @decide_false
theorem yx58 : (¬True) = False := @not_true_eq_false
theorem yx59 : (¬False) = True := @not_false_eq_true
theorem yx60 : ∀ (n : Nat), (n : Int).toNat = n := @Int.toNat_natCast
end Go.AM

namespace Go.AM
open Go

/-! ### Waiting forms: only the value is looked at; what is behind it stands where simp does not look (as an instance) -/
class Ct (α : Type) where
  q : α → Prop
class Ct2 where
  q : AV → Heap → Prop
class St where
  p : Prop
def optP {α : Type} (o : Option α) [Q : Ct α] : Prop := ∃ v, o = some v ∧ Q.q v
def valP (v : AV) [Q : Ct AV] : Prop := Q.q v
def condP (v : AV) [p : St] [q : St] : Prop := match v with
  | .b true => p.p
  | .b false => q.p
  | _ => False
/-- a guard: w is wanted -/
def guardP (v : AV) (w : Bool) [p : St] [q : St] : Prop := match v with
  | .b x => if x = w then p.p else q.p
  | .tp [] => q.p
  | _ => False
def lpP [p : St] : Prop := p.p
def callP (E : Tab) (lo f : Nat) (vs : List AV) (H : Heap) [Q : Ct2] : Prop := WpF E lo f vs H Q.q
def callvP (E : Tab) (lo : Nat) (v : AV) (vs : List AV) (H : Heap) [Q : Ct2] : Prop := WpV E lo v vs H Q.q
theorem zx59 {α : Type} {v : α} {Q : α → Prop} : @optP α (some v) ⟨Q⟩ = Q v := by simp [optP]
theorem zx60 {v : AV} {Q : AV → Prop} : @valP v ⟨Q⟩ = Q v := (rfl)
theorem zx61 {p q : Prop} : @condP (.b true) ⟨p⟩ ⟨q⟩ = p := (rfl)
theorem zx62 {p q : Prop} : @condP (.b false) ⟨p⟩ ⟨q⟩ = q := (rfl)
theorem zx63 {p q : Prop} : @guardP (.b true) true ⟨p⟩ ⟨q⟩ = p := (rfl)
theorem zx64 {p q : Prop} : @guardP (.b false) false ⟨p⟩ ⟨q⟩ = p := (rfl)
theorem zx65 {p q : Prop} : @guardP (.b true) false ⟨p⟩ ⟨q⟩ = q := (rfl)
theorem zx66 {p q : Prop} : @guardP (.b false) true ⟨p⟩ ⟨q⟩ = q := (rfl)
theorem zx67 {w : Bool} {p q : Prop} : @guardP (.tp []) w ⟨p⟩ ⟨q⟩ = q := (rfl)
theorem optP_of {α : Type} {o : Option α} {v : α} {Q : α → Prop} (e : o = some v) (h : Q v) : @optP α o ⟨Q⟩ := ⟨v, e, h⟩
theorem lpI {p : Prop} (h : p) : @lpP ⟨p⟩ := h
theorem callI {E : Tab} {lo f : Nat} {vs : List AV} {H : Heap} {Q : AV → Heap → Prop} (h : WpF E lo f vs H Q) : @callP E lo f vs H ⟨Q⟩ := h
theorem callvI {E : Tab} {lo : Nat} {v : AV} {vs : List AV} {H : Heap} {Q : AV → Heap → Prop} (h : WpV E lo v vs H Q) : @callvP E lo v vs H ⟨Q⟩ := h
theorem condP_split {c : Prop} [Decidable c] {p q : Prop} (h1 : c → p) (h2 : ¬ c → q) : @condP (.b (decide c)) ⟨p⟩ ⟨q⟩ := by
  by_cases h : c
  · simpa [h, condP] using h1 h
  · simpa [h, condP] using h2 h
theorem condP_bool {t : Bool} {p q : Prop} (h1 : t = true → p) (h2 : t = false → q) : @condP (.b t) ⟨p⟩ ⟨q⟩ := by
  cases t
  · exact h2 rfl
  · exact h1 rfl
theorem guardP_split {c : Prop} [Decidable c] {p q : Prop} (h1 : c → p) (h2 : ¬ c → q) : @guardP (.b (decide c)) true ⟨p⟩ ⟨q⟩ := by
  by_cases h : c
  · simpa [h, guardP] using h1 h
  · simpa [h, guardP] using h2 h
theorem guardP_splitF {c : Prop} [Decidable c] {p q : Prop} (h1 : ¬ c → p) (h2 : c → q) : @guardP (.b (decide c)) false ⟨p⟩ ⟨q⟩ := by
  by_cases h : c
  · simpa [h, guardP] using h2 h
  · simpa [h, guardP] using h1 h
theorem guardP_bool {t : Bool} {p q : Prop} (h1 : t = true → p) (h2 : t = false → q) : @guardP (.b t) true ⟨p⟩ ⟨q⟩ := by
  cases t
  · exact h2 rfl
  · exact h1 rfl
theorem guardP_boolF {t : Bool} {p q : Prop} (h1 : t = false → p) (h2 : t = true → q) : @guardP (.b t) false ⟨p⟩ ⟨q⟩ := by
  cases t
  · exact h1 rfl
  · exact h2 rfl

/-! ### Operations -/
def ldA (H : Heap) (n : Option Nat) : AV → Option AV
  | .p b o => match n with
    | none => ld H b o
    | some n => (ldn H b o n).map .ag
  | _ => none
def stA (lo : Nat) (H : Heap) (n : Nat) (p x : AV) : Option Heap := match p with
  | .p b o => if x.cells.length = n ∧ x.cells.all AV.one then st lo H b o x.cells else none
  | _ => none
def lenV : AV → Option AV
  | .nils => some (.i 0)
  | .s _ _ _ n _ => some (.i n)
  | _ => none
def iaddrV (es : Nat) (x i : AV) : Option AV := match x, i with
  | .s es' b o n _, .int _ i => if 0 ≤ i ∧ i < n ∧ es' = es then some (.p b (o + i.toNat * es)) else none
  | _, _ => none
def iaddrAV (n es : Nat) (x i : AV) : Option AV := match x, i with
  | .p b o, .int _ i => if 0 ≤ i ∧ i < n then some (.p b (o + i.toNat * es)) else none
  | _, _ => none
def zx161 (n es : Nat) (ag : Bool) (x i : AV) : Option AV := match x, i with
  | .ag vs, .int _ i => if 0 ≤ i ∧ i < n then
        (if ag then (if i.toNat * es + es ≤ vs.length then some (.ag ((vs.drop (i.toNat * es)).take es)) else none)
         else vs[i.toNat * es]?) else none
  | _, _ => none
def zx159 (off : Nat) (n : Option Nat) (x : AV) : Option AV := match x, n with
  | .ag vs, none => vs[off]?
  | .ag vs, some n => if off + n ≤ vs.length then some (.ag ((vs.drop off).take n)) else none
  | _, _ => none
def beqV (neg : Bool) (x y : AV) : Option AV := match x, y with
  | .b p, .b q => some (.b ((p == q) != neg))
  | _, _ => none
def seqV (neg : Bool) (x y : AV) : Option AV := match x, y with
  | .nils, .nils => some (.b (!neg))
  | .nils, .s _ _ _ _ _ => some (.b neg)
  | .s _ _ _ _ _, .nils => some (.b neg)
  | _, _ => none
def aeqV (neg : Bool) (n : Nat) (x y : AV) : Option AV := match x, y with
  | .ag xs, .ag ys => if xs.length = n ∧ ys.length = n then (eqInts xs ys).map fun r => .b (r != neg) else none
  | _, _ => none
def convV (k : IntKind) : AV → Option AV
  | .int _ n => some (.int k (k.wrap n))
  | _ => none
def zx160 (off : Nat) : AV → Option AV
  | .p b o => some (.p b (o + off))
  | _ => none
def zx162 : AV → Option AV
  | .nils => some (.i 0)
  | .s _ _ _ _ (some c) => some (.i c)
  | _ => none
def extrV (i : Nat) : AV → Option AV
  | .tp vs => vs[i]?
  | _ => none
def nilchkV : AV → Option AV
  | .p b o => some (.p b o)
  | .fn f u c => some (.fn f u c)
  | .yl l => some (.yl l)
  | _ => none
def boundV (x : Option AV) (dflt most : Nat) : Option Nat :=
  match x with
  | none => if dflt ≤ most then some dflt else none
  | some (.int _ i) => if 0 ≤ i ∧ i ≤ (most : Int) then some i.toNat else none
  | _ => none
def slV (es : Nat) (x : AV) (l h m : Option AV) : Option AV := match lenA x with
  | some n =>
    match boundV m n n with
    | some mx => match boundV h n mx with
      | some hi => match boundV l 0 hi with
        | some lo' => sliceA es x lo' hi (if m.isSome then some mx else none)
        | none => none
      | none => none
    | none => none
  | none => none
def slarrV (lo : Nat) (H : Heap) (n es : Nat) (x : AV) (l h : Option AV) : Option AV := match x with
  | .p b o => match boundV h n n with
    | some hi => match boundV l 0 hi with
      | some lo' => match H[b]? with
        | some (.cells cs) => if es = 1 ∧ lo ≤ b ∧ o + n ≤ cs.length ∧ n ≤ 1048576 then some (.s 1 b (o + lo') (hi - lo') (some (n - lo'))) else none
        | _ => none
      | none => none
    | none => none
  | _ => none
def mnV : List AV → Option AV
  | .int k x :: r => (foldMin k x r).map fun n => .int k n
  | _ => none
def mxV : List AV → Option AV
  | .int k x :: r => (foldMax k x r).map fun n => .int k n
  | _ => none
def zx150 (z : List AV) (ps : List (Nat × Nat × AV)) : Option AV := (fillA z ps).map .ag
def zx151 (z : List AV) (len es : Nat) (ps : List (Nat × AV)) : Option (List AV) := fillA (reps len z) (ps.map fun q => (q.1 * es, es, q.2))
def mksliceV (es bytes : Nat) (z : List AV) (l : AV) : Option Nat := match l with
  | .int .i64 n => if 0 ≤ n ∧ n.toNat * bytes ≤ mostBytes ∧ n ≤ 2 ^ 40 ∧ z.length = es then some n.toNat else none
  | _ => none
def appendV (lo es bytes : Nat) (s x : AV) (H : Heap) : Option (AV × Heap) := match lenA x with
  | some m => match cellsOf es m x H with
    | some xs => appendA lo es bytes s xs m H
    | none => none
  | none => none
def appendzV (lo es bytes : Nat) (z : List AV) (s n : AV) (H : Heap) : Option (AV × Heap) := match n with
  | .int .i64 n => if 0 ≤ n ∧ n ≤ 2 ^ 40 ∧ n.toNat * bytes ≤ mostBytes ∧ z.length = es then appendA lo es bytes s (reps n.toNat z) n.toNat H else none
  | _ => none
def copyV (lo es : Nat) (d s : AV) (H : Heap) : Option (AV × Heap) := match d, lenA s with
  | .s es' b o n _, some m => if es' ≠ es then none else match cellsOf es (min m n) s H with
    | some xs => if xs = [] then some (.i (min m n : Nat), H) else if xs.all AV.one then (st lo H b o xs).map fun H' => (.i (min m n : Nat), H') else none
    | none => none
  | .nils, some _ => some (.i 0, H)
  | _, _ => none
def clrV (lo es : Nat) (z : List AV) (x : AV) (H : Heap) : Option (AV × Heap) := match x with
  | .s es' b o n _ => if es' ≠ es then none else if n = 0 then some (.tp [], H) else (st lo H b o (reps n z)).map fun H' => (.tp [], H')
  | .nils => some (.tp [], H)
  | _ => none
def boxV (x : AV) : Option (List AV) := if x.cells.all AV.one then some x.cells else none
def pickV (c x y : AV) : Option AV := match c with
  | .b true => some x
  | .b false => some y
  | _ => none

section
variable {E : Tab} {lo : Nat} {a : Fr} {H : Heap} {Q : AV → Heap → Prop}
theorem wo {α : Type} {o : AOp} {x : Option α} (f : α → AV × Heap) (hc : WpOp E lo o a H Q = ∃ v H', opA lo o a H = some (v, H') ∧ Q v H') (h : opA lo o a H = x.map f) : WpOp E lo o a H Q = @optP _ x ⟨fun u => Q (f u).1 (f u).2⟩ := by
  rw [hc, h]
  apply propext
  constructor
  · rintro ⟨v, H', e, q⟩
    obtain ⟨u, hu, e2⟩ := Option.map_eq_some_iff.1 e
    refine ⟨u, hu, ?_⟩
    change Q (f u).1 (f u).2
    rw [e2]; exact q
  · rintro ⟨u, hu, q⟩
    exact ⟨_, _, by rw [hu]; rfl, q⟩
theorem wo1 {o : AOp} {r : AV × Heap} (hc : WpOp E lo o a H Q = ∃ v H', opA lo o a H = some (v, H') ∧ Q v H') (h : opA lo o a H = some r) : WpOp E lo o a H Q = Q r.1 r.2 := by
  rw [hc, h]
  apply propext
  constructor
  · rintro ⟨v, H', e, q⟩; cases e; exact q
  · intro q; exact ⟨_, _, rfl, q⟩
theorem omap_eta (x : Option (AV × Heap)) : x.map (fun r : AV × Heap => (r.1, r.2)) = x := by cases x <;> rfl
theorem zx21 {x : AX} : WpOp E lo (.mv x) a H Q = @valP (ev a x) ⟨fun v => Q v H⟩ := wo1 (r := (ev a x, H)) rfl rfl
theorem zx22 {c x y : AX} : WpOp E lo (.pick c x y) a H Q = @optP _ (pickV (ev a c) (ev a x) (ev a y)) ⟨fun v => Q v H⟩ :=
  wo (fun v => (v, H)) rfl (by simp only [opA, pickV]; cases ev a c <;> first | rfl | (rename_i b; cases b <;> rfl))
theorem zx23 {z : List AV} : WpOp E lo (.alloc z) a H Q = Q (.p H.length 0) (H ++ [.cells z]) := wo1 (r := (.p H.length 0, H ++ [.cells z])) rfl rfl
theorem zx24 {x : AX} : WpOp E lo (.box x) a H Q = @optP _ (boxV (ev a x)) ⟨fun z => Q (.p H.length 0) (H ++ [.cells z])⟩ :=
  wo (fun z => (.p H.length 0, H ++ [.cells z])) rfl (by simp only [opA, boxV]; split <;> rfl)
theorem zx25 {z : List AV} {ps : List (Nat × Nat × AX)} : WpOp E lo (.build z ps) a H Q = @optP _ (zx150 z (ps.map fun q => (q.1, q.2.1, ev a q.2.2))) ⟨fun v => Q v H⟩ :=
  wo (fun v => (v, H)) rfl (by simp only [opA, zx150, Option.map_map]; rfl)
theorem zx26 {z : List AV} {len es : Nat} {ps : List (Nat × AX)} : WpOp E lo (.bslice z len es ps) a H Q = @optP _ (zx151 z len es (ps.map fun q => (q.1, ev a q.2))) ⟨fun cs => Q (.s es H.length 0 len (some len)) (H ++ [.cells cs])⟩ :=
  wo (fun cs => (.s es H.length 0 len (some len), H ++ [.cells cs])) rfl (by simp only [opA, zx151, List.map_map, Function.comp_def])
theorem zx27 {n : Option Nat} {x : AX} : WpOp E lo (.load n x) a H Q = @optP _ (ldA H n (ev a x)) ⟨fun v => Q v H⟩ :=
  wo (fun v => (v, H)) rfl (by simp only [opA, ldA]; cases ev a x <;> cases n <;> first | rfl | (simp only [Option.map_map]; rfl))
theorem zx28 {n : Nat} {p x : AX} : WpOp E lo (.store n p x) a H Q = @optP _ (stA lo H n (ev a p) (ev a x)) ⟨fun H' => Q .no H'⟩ :=
  wo (fun H' => (.no, H')) rfl (by simp only [opA, stA]; cases ev a p <;> first | rfl | (simp only []; split <;> rfl))
theorem zx29 {op : BinOp} {x y : AX} : WpOp E lo (.bin op x y) a H Q = @optP _ (binA op (ev a x) (ev a y)) ⟨fun v => Q v H⟩ :=
  wo (fun v => (v, H)) rfl (by rfl)
theorem zx30 {neg : Bool} {x y : AX} : WpOp E lo (.beq neg x y) a H Q = @optP _ (beqV neg (ev a x) (ev a y)) ⟨fun v => Q v H⟩ :=
  wo (fun v => (v, H)) rfl (by simp only [opA, beqV]; cases ev a x <;> cases ev a y <;> rfl)
theorem zx31 {neg : Bool} {x y : AX} : WpOp E lo (.seq neg x y) a H Q = @optP _ (seqV neg (ev a x) (ev a y)) ⟨fun v => Q v H⟩ :=
  wo (fun v => (v, H)) rfl (by simp only [opA, seqV]; cases ev a x <;> cases ev a y <;> rfl)
theorem zx32 {neg : Bool} {n : Nat} {x y : AX} : WpOp E lo (.aeq neg n x y) a H Q = @optP _ (aeqV neg n (ev a x) (ev a y)) ⟨fun v => Q v H⟩ :=
  wo (fun v => (v, H)) rfl (by simp only [opA, aeqV]; cases ev a x <;> cases ev a y <;> first | rfl | (simp only []; split <;> simp [Option.map_map, Function.comp_def]))
theorem zx33 {op : UnOp} {x : AX} : WpOp E lo (.un op x) a H Q = @optP _ (unA op (ev a x)) ⟨fun v => Q v H⟩ :=
  wo (fun v => (v, H)) rfl (by rfl)
theorem zx34 {k : IntKind} {x : AX} : WpOp E lo (.conv k x) a H Q = @optP _ (convV k (ev a x)) ⟨fun v => Q v H⟩ :=
  wo (fun v => (v, H)) rfl (by simp only [opA, convV]; cases ev a x <;> rfl)
theorem zx35 {f : Nat} {us cs : List AX} : WpOp E lo (.mkfn f us cs) a H Q = Q (.fn f (us.map (ev a)) (cs.map (ev a))) H := wo1 (r := (.fn f (us.map (ev a)) (cs.map (ev a)), H)) rfl rfl
theorem zx36 {es bytes : Nat} {z : List AV} {l : AX} : WpOp E lo (.mkslice es bytes z l) a H Q = @optP _ (mksliceV es bytes z (ev a l)) ⟨fun n => Q (.s es H.length 0 n (some n)) (H ++ [.cells (reps n z)])⟩ :=
  wo (fun n => (.s es H.length 0 n (some n), H ++ [.cells (reps n z)])) rfl (by simp only [opA, mksliceV]; cases ev a l <;> first | rfl | (rename_i k n; cases k <;> first | rfl | (simp only []; split <;> rfl)))
theorem boundA_eq (x : Option AX) (d m : Nat) : boundA a x d m = boundV (x.map (ev a)) d m := by
  cases x with
  | none => rfl
  | some x => simp only [boundA, boundV, Option.map_some]; cases ev a x <;> rfl
theorem zx37 {es : Nat} {x : AX} {l h m : Option AX} : WpOp E lo (.slice es x l h m) a H Q = @optP _ (slV es (ev a x) (l.map (ev a)) (h.map (ev a)) (m.map (ev a))) ⟨fun v => Q v H⟩ := by
  refine wo (fun v => (v, H)) rfl ?_
  simp only [opA, slV, boundA_eq]
  cases lenA (ev a x) with
  | none => rfl
  | some n =>
    simp only []
    cases boundV (m.map (ev a)) n n with
    | none => rfl
    | some mx =>
      simp only []
      cases boundV (h.map (ev a)) n mx with
      | none => rfl
      | some hi =>
        simp only []
        cases boundV (l.map (ev a)) 0 hi with
        | none => rfl
        | some lo' => simp only [Option.isSome_map]
theorem zx38 {n es : Nat} {x : AX} {l h : Option AX} : WpOp E lo (.slarr n es x l h) a H Q = @optP _ (slarrV lo H n es (ev a x) (l.map (ev a)) (h.map (ev a))) ⟨fun v => Q v H⟩ := by
  refine wo (fun v => (v, H)) rfl ?_
  simp only [opA, slarrV, boundA_eq]
  cases ev a x <;> try rfl
  rename_i b o
  simp only []
  cases boundV (h.map (ev a)) n n with
  | none => rfl
  | some hi =>
    simp only []
    cases boundV (l.map (ev a)) 0 hi with
    | none => rfl
    | some lo' =>
      simp only []
      cases H[b]? with
      | none => rfl
      | some k =>
        cases k <;> try rfl
        simp only []; split <;> rfl
theorem zx39 {off : Nat} {x : AX} : WpOp E lo (.faddr off x) a H Q = @optP _ (zx160 off (ev a x)) ⟨fun v => Q v H⟩ :=
  wo (fun v => (v, H)) rfl (by simp only [opA, zx160]; cases ev a x <;> rfl)
theorem zx40 {off : Nat} {n : Option Nat} {x : AX} : WpOp E lo (.field off n x) a H Q = @optP _ (zx159 off n (ev a x)) ⟨fun v => Q v H⟩ :=
  wo (fun v => (v, H)) rfl (by simp only [opA, zx159]; cases ev a x <;> cases n <;> first | rfl | (simp only []; split <;> rfl))
theorem zx41 {es : Nat} {x i : AX} : WpOp E lo (.iaddr es x i) a H Q = @optP _ (iaddrV es (ev a x) (ev a i)) ⟨fun v => Q v H⟩ :=
  wo (fun v => (v, H)) rfl (by simp only [opA, iaddrV]; cases ev a x <;> cases ev a i <;> first | rfl | (simp only []; split <;> rfl))
theorem zx42 {n es : Nat} {x i : AX} : WpOp E lo (.iaddrA n es x i) a H Q = @optP _ (iaddrAV n es (ev a x) (ev a i)) ⟨fun v => Q v H⟩ :=
  wo (fun v => (v, H)) rfl (by simp only [opA, iaddrAV]; cases ev a x <;> cases ev a i <;> first | rfl | (simp only []; split <;> rfl))
theorem zx43 {n es : Nat} {ag : Bool} {x i : AX} : WpOp E lo (.index n es ag x i) a H Q = @optP _ (zx161 n es ag (ev a x) (ev a i)) ⟨fun v => Q v H⟩ :=
  wo (fun v => (v, H)) rfl (by simp only [opA, zx161]; cases ev a x <;> cases ev a i <;> first | rfl | (simp only []; split; (split; (split <;> rfl); rfl); rfl))
theorem zx44 {x : AX} : WpOp E lo (.len x) a H Q = @optP _ (lenV (ev a x)) ⟨fun v => Q v H⟩ :=
  wo (fun v => (v, H)) rfl (by simp only [opA, lenV]; cases ev a x <;> rfl)
theorem zx45 {n : Nat} : WpOp E lo (.lenA n) a H Q = Q (.i n) H := wo1 (r := (.i n, H)) rfl rfl
theorem zx46 {x : AX} : WpOp E lo (.cap x) a H Q = @optP _ (zx162 (ev a x)) ⟨fun v => Q v H⟩ :=
  wo (fun v => (v, H)) rfl (by simp only [opA, zx162]; cases ev a x <;> first | rfl | (rename_i c; cases c <;> rfl))
theorem zx50 {xs : List AX} : WpOp E lo (.mn xs) a H Q = @optP _ (mnV (xs.map (ev a))) ⟨fun v => Q v H⟩ :=
  wo (fun v => (v, H)) rfl (by simp only [opA, mnV]; cases xs.map (ev a) with | nil => rfl | cons v r => cases v <;> first | rfl | (simp only [Option.map_map]; rfl))
theorem zx51 {xs : List AX} : WpOp E lo (.mx xs) a H Q = @optP _ (mxV (xs.map (ev a))) ⟨fun v => Q v H⟩ :=
  wo (fun v => (v, H)) rfl (by simp only [opA, mxV]; cases xs.map (ev a) with | nil => rfl | cons v r => cases v <;> first | rfl | (simp only [Option.map_map]; rfl))
theorem zx52 {es bytes : Nat} {s x : AX} : WpOp E lo (.append es bytes s x) a H Q = @optP _ (appendV lo es bytes (ev a s) (ev a x) H) ⟨fun r => Q r.1 r.2⟩ :=
  wo (fun r : AV × Heap => (r.1, r.2)) rfl (by rw [omap_eta]; rfl)
theorem zx53 {es bytes : Nat} {z : List AV} {s n : AX} : WpOp E lo (.appendz es bytes z s n) a H Q = @optP _ (appendzV lo es bytes z (ev a s) (ev a n) H) ⟨fun r => Q r.1 r.2⟩ :=
  wo (fun r : AV × Heap => (r.1, r.2)) rfl (by rw [omap_eta]; simp only [opA, appendzV]; cases ev a n <;> first | rfl | (rename_i k n; cases k <;> rfl))
theorem zx191 {es : Nat} {z : List AV} {x : AX} : WpOp E lo (.clr es z x) a H Q = @optP _ (clrV lo es z (ev a x) H) ⟨fun r => Q r.1 r.2⟩ :=
  wo (fun r : AV × Heap => (r.1, r.2)) rfl (by rw [omap_eta]; rfl)
theorem zx54 {es : Nat} {d s : AX} : WpOp E lo (.copy es d s) a H Q = @optP _ (copyV lo es (ev a d) (ev a s) H) ⟨fun r => Q r.1 r.2⟩ :=
  wo (fun r : AV × Heap => (r.1, r.2)) rfl (by rw [omap_eta]; rfl)
def mlookV (lo n : Nat) (z : AV) (ok : Bool) (x i : AV) (H : Heap) : Option AV := match x, i with
  | .m b, .ag vs => mapLook lo n z ok b vs H
  | _, _ => none
def msetV (lo n : Nat) (x i y : AV) (H : Heap) : Option Heap := match x, i with
  | .m b, .ag vs => mapSet lo n b vs y H
  | _, _ => none
theorem zx192 {n : Nat} : WpOp E lo (.mkmap n) a H Q = Q (.m H.length) (H ++ [.map n []]) := wo1 (r := (.m H.length, H ++ [.map n []])) rfl rfl
theorem zx193 {n : Nat} {z : AV} {ok : Bool} {x i : AX} : WpOp E lo (.mlook n z ok x i) a H Q = @optP _ (mlookV lo n z ok (ev a x) (ev a i) H) ⟨fun v => Q v H⟩ :=
  wo (fun v => (v, H)) rfl (by simp only [opA, mlookV]; cases ev a x <;> cases ev a i <;> rfl)
theorem zx194 {n : Nat} {x i y : AX} : WpOp E lo (.mset n x i y) a H Q = @optP _ (msetV lo n (ev a x) (ev a i) (ev a y) H) ⟨fun H' => Q .no H'⟩ :=
  wo (fun H' => (.no, H')) rfl (by simp only [opA, msetV]; cases ev a x <;> cases ev a i <;> rfl)
theorem zx55 {x : AX} {i : Nat} : WpOp E lo (.extr x i) a H Q = @optP _ (extrV i (ev a x)) ⟨fun v => Q v H⟩ :=
  wo (fun v => (v, H)) rfl (by simp only [opA, extrV]; cases ev a x <;> rfl)
theorem zx56 {x : AX} : WpOp E lo (.nilchk x) a H Q = @optP _ (nilchkV (ev a x)) ⟨fun v => Q v H⟩ :=
  wo (fun v => (v, H)) rfl (by simp only [opA, nilchkV]; cases ev a x <;> rfl)
theorem zx57 {f : Nat} {xs : List AX} : WpOp E lo (.call f xs) a H Q = @callP E lo f (xs.map (ev a)) H ⟨Q⟩ := (rfl)
theorem zx58 {x : AX} {xs : List AX} : WpOp E lo (.callv x xs) a H Q = @callvP E lo (ev a x) (xs.map (ev a)) H ⟨Q⟩ := (rfl)
end

/-! ### Operations in a row -/
section
variable {E : Tab} {lo : Nat} {a : Fr} {H : Heap}
theorem zx16 {Q : Fr → Heap → Prop} : WpOps E lo [] a H Q = Q a H := (rfl)
theorem zx17 {d : Nat} {op : AOp} {os : List AOper} {Q : Fr → Heap → Prop} : WpOps E lo (⟨some d, op, none⟩ :: os) a H Q = WpOp E lo op a H fun v H' => WpOps E lo os (a.upd d v) H' Q := (rfl)
theorem zx18 {op : AOp} {os : List AOper} {Q : Fr → Heap → Prop} : WpOps E lo (⟨none, op, none⟩ :: os) a H Q = WpOp E lo op a H fun _ H' => WpOps E lo os a H' Q := (rfl)
theorem zx19 {d : Nat} {op : AOp} {s : Nat} {w : Bool} {os : List AOper} {Q : Fr → Heap → Prop} : WpOps E lo (⟨some d, op, some (s, w)⟩ :: os) a H Q = @guardP (a s) w ⟨WpOp E lo op a H fun v H' => WpOps E lo os (a.upd d v) H' Q⟩ ⟨WpOps E lo os (a.upd d .no) H Q⟩ := by
  simp only [WpOps, wantedA, guardP, Fr.put]
  split
  · rename_i h
    split at h
    · rename_i x hx; simp at h; simp [hx, h]
    · cases h
    · cases h
  · rename_i h
    split at h
    · rename_i x hx; simp at h; simp [hx, h]
    · rename_i hx; simp [hx]
    · cases h
  · rename_i h
    split at h
    · cases h
    · cases h
    · rename_i h1 h2
      split
      · rename_i x hx; exact absurd hx (h1 x)
      · rename_i hx; exact absurd hx h2
      · rfl
theorem zx20 {op : AOp} {s : Nat} {w : Bool} {os : List AOper} {Q : Fr → Heap → Prop} : WpOps E lo (⟨none, op, some (s, w)⟩ :: os) a H Q = @guardP (a s) w ⟨WpOp E lo op a H fun _ H' => WpOps E lo os a H' Q⟩ ⟨WpOps E lo os a H Q⟩ := by
  simp only [WpOps, wantedA, guardP, Fr.put]
  split
  · rename_i h
    split at h
    · rename_i x hx; simp at h; simp [hx, h]
    · cases h
    · cases h
  · rename_i h
    split at h
    · rename_i x hx; simp at h; simp [hx, h]
    · rename_i hx; simp [hx]
    · cases h
  · rename_i h
    split at h
    · cases h
    · cases h
    · rename_i h1 h2
      split
      · rename_i x hx; exact absurd hx (h1 x)
      · rename_i hx; exact absurd hx h2
      · rfl
theorem zx68 {n : Nat} : ev a (.t n) = a n := (rfl)
theorem zx69 {v : AV} : ev a (.c v) = v := (rfl)
theorem upd_at {d t : Nat} {v : AV} : a.upd d v t = if t = d then v else a t := (rfl)
theorem initFr_at {vs : List AV} {t : Nat} : initFr vs t = vs.getD t .un := (rfl)
end

/-! ### Items -/
section
variable {E : Tab} {lo : Nat} {rd : Option Nat} {k : List AI} {a : Fr} {H : Heap} {Q : Out → Fr → Heap → Prop}
theorem Wp_iff : Wp E lo rd k a H Q ↔ ∃ n o a' H', stepR E (R E n) lo rd k a H = some (o, a', H') ∧ Q o a' H' := by
  constructor
  · rintro ⟨n, o, a', H', h1, h2⟩
    cases n with
    | zero => cases h1
    | succ n => exact ⟨n, o, a', H', h1, h2⟩
  · exact Wp.step
theorem opF_wp {n : Nat} {o : AOp} {v : AV} {H' : Heap} {P : AV → Heap → Prop} (h : opF E (R E n) lo o a H = some (v, H')) (hp : P v H') : WpOp E lo o a H P := by
  cases o <;> first | exact ⟨n, v, H', h, hp⟩ | exact ⟨v, H', h, hp⟩
theorem runOps_wp {n : Nat} : ∀ {l : List AOper} {a : Fr} {H : Heap} {a' : Fr} {H' : Heap} {P : Fr → Heap → Prop}, runOps E (R E n) lo l a H = some (a', H') → P a' H' → WpOps E lo l a H P
  | [], a, H, a', H', P, h, hp => by simp only [runOps, Option.some.injEq, Prod.mk.injEq] at h; obtain ⟨rfl, rfl⟩ := h; exact hp
  | o :: os, a, H, a', H', P, h, hp => by
    simp only [runOps] at h
    simp only [WpOps]
    cases hw : wantedA a o.guard with
    | none => simp [hw] at h
    | some b =>
      cases b with
      | true =>
        simp only [hw] at h
        obtain ⟨r, h1, h2⟩ := Option.bind_eq_some_iff.1 h
        exact opF_wp h1 (runOps_wp h2 hp)
      | false =>
        simp only [hw] at h
        exact runOps_wp h hp
theorem zx0 : Wp E lo rd [] a H Q = Q .done a H := by
  apply propext
  rw [Wp_iff]
  constructor
  · rintro ⟨n, o, a', H', h1, h2⟩; simp only [stepR] at h1; cases h1; exact h2
  · exact fun h => ⟨0, _, _, _, rfl, h⟩
theorem zx1 : Wp E lo rd (.code .ret :: k) a H Q = Q .ret a H := by
  apply propext
  rw [Wp_iff]
  constructor
  · rintro ⟨n, o, a', H', h1, h2⟩; simp only [stepR] at h1; cases h1; exact h2
  · exact fun h => ⟨0, _, _, _, rfl, h⟩
theorem zx2 {id : Nat} : Wp E lo rd (.blk id :: k) a H Q = Wp E lo rd k a H Q := propext Wp_iff
theorem w_lp {c : ACode} : Wp E lo rd (.lp c :: k) a H Q = Wp E lo rd (.code c :: .lp c :: k) a H Q := propext Wp_iff
theorem zx3 : Wp E lo rd (.code .skip :: k) a H Q = Wp E lo rd k a H Q := propext Wp_iff
theorem zx4 {x y : ACode} : Wp E lo rd (.code (.seq x y) :: k) a H Q = Wp E lo rd (.code x :: .code y :: k) a H Q := propext Wp_iff
theorem zx5 {id : Nat} {c : ACode} : Wp E lo rd (.code (.block id c) :: k) a H Q = Wp E lo rd (.code c :: .blk id :: k) a H Q := propext Wp_iff
theorem zx6 {c : ACode} : Wp E lo rd (.code (.loop c) :: k) a H Q = @lpP ⟨Wp E lo rd (.lp c :: k) a H Q⟩ := (propext Wp_iff : Wp E lo rd (.code (.loop c) :: k) a H Q = Wp E lo rd (.code c :: .lp c :: k) a H Q).trans w_lp.symm
theorem zx7 {x : AX} {c d : ACode} : Wp E lo rd (.code (.cond x c d) :: k) a H Q = @condP (ev a x) ⟨Wp E lo rd (.code c :: k) a H Q⟩ ⟨Wp E lo rd (.code d :: k) a H Q⟩ := by
  apply propext
  rw [Wp_iff]
  simp only [stepR, condP]
  cases ev a x <;> try (simp; done)
  rename_i b
  cases b
  · exact Iff.rfl
  · exact Iff.rfl
def WpX (E : Tab) (lo : Nat) (rd : Option Nat) (id : Nat) : List AI → Fr → Heap → (Out → Fr → Heap → Prop) → Prop
  | [], a, H, Q => Q (.exit id) a H
  | .blk j :: k, a, H, Q => if j = id then Wp E lo rd k a H Q else WpX E lo rd id k a H Q
  | _ :: k, a, H, Q => WpX E lo rd id k a H Q
theorem wpX_eq {id : Nat} : ∀ {k : List AI}, WpX E lo rd id k a H Q ↔ Wp E lo rd (.code (.exit id) :: k) a H Q
  | [] => by
    rw [Wp_iff]
    simp only [stepR, exitA, WpX]
    constructor
    · exact fun h => ⟨0, _, _, _, rfl, h⟩
    · rintro ⟨n, o, a', H', h1, h2⟩; cases h1; exact h2
  | .blk j :: k => by
    by_cases e : j = id
    · rw [Wp_iff]; simp only [stepR, exitA, WpX, if_pos e]; exact Iff.rfl
    · have := wpX_eq (id := id) (k := k)
      rw [Wp_iff] at this ⊢; simp only [stepR, exitA, WpX, if_neg e] at this ⊢; exact this
  | .code c :: k => by
    have := wpX_eq (id := id) (k := k)
    rw [Wp_iff] at this ⊢; simp only [stepR, exitA, WpX] at this ⊢; exact this
  | .lp c :: k => by
    have := wpX_eq (id := id) (k := k)
    rw [Wp_iff] at this ⊢; simp only [stepR, exitA, WpX] at this ⊢; exact this
  | .begin :: k => by
    have := wpX_eq (id := id) (k := k)
    rw [Wp_iff] at this ⊢; simp only [stepR, exitA, WpX] at this ⊢; exact this
theorem zx8 {id : Nat} : Wp E lo rd (.code (.exit id) :: k) a H Q = WpX E lo rd id k a H Q := propext wpX_eq.symm
theorem zx9 {id : Nat} : WpX E lo rd id [] a H Q = Q (.exit id) a H := (rfl)
theorem zx10 {id j : Nat} : WpX E lo rd id (.blk j :: k) a H Q = if j = id then Wp E lo rd k a H Q else WpX E lo rd id k a H Q := (rfl)
theorem zx11 {id : Nat} {c : ACode} : WpX E lo rd id (.code c :: k) a H Q = WpX E lo rd id k a H Q := (rfl)
theorem zx12 {id : Nat} {c : ACode} : WpX E lo rd id (.lp c :: k) a H Q = WpX E lo rd id k a H Q := (rfl)
theorem zx13 {id : Nat} : WpX E lo rd id (.begin :: k) a H Q = WpX E lo rd id k a H Q := (rfl)
theorem zx14 {l : List AOper} : Wp E lo rd (.code (.reg none l) :: k) a H Q = WpOps E lo l a H fun a' H' => Wp E lo rd k a' H' Q := by
  apply propext
  constructor
  · rw [Wp_iff]
    rintro ⟨n, o, a', H', h1, h2⟩
    simp only [stepR] at h1
    obtain ⟨r, h3, h4⟩ := Option.bind_eq_some_iff.1 h1
    exact runOps_wp h3 ⟨n, o, a', H', h4, h2⟩
  · exact Wp.reg
theorem zx15 {l : List AOper} : Wp E lo rd (.code (.reg (some []) l) :: k) a H Q = WpOps E lo l a H fun a' H' => Wp E lo rd k a' H' Q := by
  apply propext
  constructor
  · rw [Wp_iff]
    rintro ⟨n, o, a', H', h1, h2⟩
    simp only [stepR] at h1
    obtain ⟨r, h3, h4⟩ := Option.bind_eq_some_iff.1 h1
    have h5 : runOps E (R E n) lo l a H = some r := by
      have := runTr_ops E (R E n) lo l a H
      unfold runD at h3
      obtain ⟨tr, h6, h7⟩ := Option.bind_eq_some_iff.1 h3
      rw [h6] at this
      rw [← this]
      simpa using h7
    exact runOps_wp h5 ⟨n, o, a', H', h4, h2⟩
  · exact Wp.regD
end
end Go.AM

namespace Go.AM
open Go

def Low (lo : Nat) (H H' : Heap) : Prop := H.length ≤ H'.length ∧ ∀ b, b < lo → b < H.length → H'[b]? = H[b]?
theorem Low.refl (lo : Nat) (H : Heap) : Low lo H H := ⟨Nat.le_refl _, fun _ _ _ => rfl⟩
theorem Low.trans {lo : Nat} {H H1 H2 : Heap} (h : Low lo H H1) (h' : Low lo H1 H2) : Low lo H H2 :=
  ⟨Nat.le_trans h.1 h'.1, fun b h1 h2 => by rw [h'.2 b h1 (Nat.lt_of_lt_of_le h2 h.1), h.2 b h1 h2]⟩
theorem Low.app (lo : Nat) (H N : Heap) : Low lo H (H ++ N) := ⟨by simp, fun b _ h2 => List.getElem?_append_left h2⟩
theorem Low.set {lo b : Nat} (h : lo ≤ b) (H : Heap) (k : Blk) : Low lo H (H.set b k) := ⟨by simp, fun b' h1 h2 => by rw [List.getElem?_set_ne (by omega)]⟩
theorem st_low {lo : Nat} {H H' : Heap} {b o : Nat} {vs : List AV} (h : st lo H b o vs = some H') : Low lo H H' := by
  unfold st at h
  split at h
  · rename_i hl
    split at h
    · split at h
      · cases h; exact .set hl _ _
      · cases h
    · cases h
  · cases h
theorem appendA_low {lo es bytes : Nat} {sv : AV} {xs : List AV} {m : Nat} {H H' : Heap} {v : AV} (h : appendA lo es bytes sv xs m H = some (v, H')) : Low lo H H' := by
  unfold appendA at h
  split at h
  · split at h
    · cases h; exact .refl _ _
    · split at h
      · cases h; exact .app _ _ _
      · cases h
  · split at h
    · cases h
    · split at h
      · cases h; exact .refl _ _
      · split at h
        · split at h
          · split at h
            · cases h; exact .app _ _ _
            · split at h
              · rename_i hl; cases h; exact (Low.set hl _ _).trans (.app _ _ _)
              · cases h
          · cases h
        · cases h
  · cases h
theorem map_low {α : Type} {x : Option α} {f : α → AV} {lo : Nat} {H H' : Heap} {v : AV} (h : x.map (fun u => (f u, H)) = some (v, H')) : Low lo H H' := by
  obtain ⟨u, _, e⟩ := Option.map_eq_some_iff.1 h
  cases e
  exact .refl _ _
theorem mapSet_low {lo n b : Nat} {vs : List AV} {x : AV} {H H' : Heap} (h : mapSet lo n b vs x H = some H') : Low lo H H' := by
  unfold mapSet at h
  obtain ⟨es, h0, h⟩ := Option.bind_eq_some_iff.1 h
  unfold mapAt at h0
  split at h0
  · rename_i hl
    clear h0
    split at h
    · obtain ⟨ks, _, h⟩ := Option.bind_eq_some_iff.1 h
      split at h
      · cases h
      · cases h; exact .set hl _ _
    · cases h
  · cases h0
theorem opA_low {lo : Nat} {o : AOp} {a : Fr} {H H' : Heap} {v : AV} (h : opA lo o a H = some (v, H')) : Low lo H H' := by
  cases o <;> simp only [opA] at h
  case store n p x =>
    split at h
    · split at h
      · obtain ⟨u, hu, e⟩ := Option.map_eq_some_iff.1 h
        cases e
        exact st_low hu
      · cases h
    · cases h
  case append =>
    split at h
    · split at h
      · exact appendA_low h
      · cases h
    · cases h
  case appendz =>
    split at h
    · split at h
      · exact appendA_low h
      · cases h
    · cases h
  case mset =>
    split at h
    · obtain ⟨u, hu, e⟩ := Option.map_eq_some_iff.1 h
      cases e
      exact mapSet_low hu
    · cases h
  case clr =>
    split at h
    · split at h
      · cases h
      · split at h
        · cases h; exact .refl _ _
        · obtain ⟨u, hu, e⟩ := Option.map_eq_some_iff.1 h
          cases e
          exact st_low hu
    · cases h; exact .refl _ _
    · cases h
  case copy =>
    split at h
    · split at h
      · cases h
      · split at h
        · split at h
          · cases h; exact .refl _ _
          · split at h
            · obtain ⟨u, hu, e⟩ := Option.map_eq_some_iff.1 h
              cases e
              exact st_low hu
            · cases h
        · cases h
    · cases h; exact .refl _ _
    · cases h
  all_goals
    repeat' (split at h)
    all_goals first
      | (cases h; done)
      | (cases h; exact .refl _ _)
      | (cases h; exact .app _ _ _)
      | exact map_low h
      | (obtain ⟨u, hu, e⟩ := Option.map_eq_some_iff.1 h; cases e; exact .app _ _ _)

def LowR (rec : Rec) : Prop := ∀ lo rd k a H o a' H', rec lo rd k a H = some (o, a', H') → Low lo H H'
section
variable {rec : Rec} {E : Tab} {lo : Nat} {rd : Option Nat}
theorem runF_low (h : LowR rec) {af : AFunc} {vs : List AV} {H H' : Heap} {v : AV} (hx : runF rec lo af vs H = some (v, H')) : Low lo H H' := by
  unfold runF at hx
  split at hx
  · split at hx
    · rename_i e; obtain ⟨_, _, e2⟩ := Option.map_eq_some_iff.1 hx; cases e2; exact h _ _ _ _ _ _ _ _ e
    · rename_i e; obtain ⟨_, _, e2⟩ := Option.map_eq_some_iff.1 hx; cases e2; exact h _ _ _ _ _ _ _ _ e
    · cases hx
  · cases hx
theorem callF_low (h : LowR rec) {f : Nat} {vs : List AV} {H H' : Heap} {v : AV} (hx : callF E rec lo f vs H = some (v, H')) : Low lo H H' := by
  unfold callF at hx
  split at hx
  · obtain ⟨u, _, e⟩ := Option.bind_eq_some_iff.1 hx
    split at e
    · cases e; exact .refl _ _
    · cases e
  · obtain ⟨af, _, e⟩ := Option.bind_eq_some_iff.1 hx
    exact runF_low h e
  · obtain ⟨af, _, e⟩ := Option.bind_eq_some_iff.1 hx
    obtain ⟨r, _, e2⟩ := Option.map_eq_some_iff.1 e
    cases e2
    split
    · exact .refl _ _
    · exact .app _ _ _
  · split at hx
    · obtain ⟨af, _, e⟩ := Option.bind_eq_some_iff.1 hx
      obtain ⟨r, _, e2⟩ := Option.bind_eq_some_iff.1 e
      split at e2
      · cases e2; exact .refl _ _
      · cases e2
    · cases hx
  · obtain ⟨b, k, hb, rfl⟩ := delV_set hx
    exact .set hb _ _
theorem roundA_low (h : LowR rec) {l : Nat} {fr : Fr} {ps : List Nat} {asg body : ACode} {vs : List AV} {H H' : Heap} {v : AV} (hx : roundA rec lo l fr ps asg body vs H = some (v, H')) : Low lo H H' := by
  unfold roundA at hx
  split at hx
  · rename_i hl
    split at hx
    · rename_i e
      split at hx
      · cases hx; exact (h _ _ _ _ _ _ _ _ e).trans (.set hl.2 _ _)
      · cases hx
    · cases hx
  · cases hx
theorem callV_low (h : LowR rec) {fv : AV} {vs : List AV} {H H' : Heap} {v : AV} (hx : callV E rec lo fv vs H = some (v, H')) : Low lo H H' := by
  unfold callV at hx
  split at hx
  · exact callF_low h hx
  · split at hx
    · exact roundA_low h hx
    · cases hx
  · cases hx
theorem opF_low (h : LowR rec) {o : AOp} {a : Fr} {H H' : Heap} {v : AV} (hx : opF E rec lo o a H = some (v, H')) : Low lo H H' := by
  unfold opF at hx
  split at hx
  · exact callF_low h hx
  · exact callV_low h hx
  · exact opA_low hx
theorem runOps_low (h : LowR rec) {l : List AOper} : ∀ {a a' : Fr} {H H' : Heap}, runOps E rec lo l a H = some (a', H') → Low lo H H' := by
  induction l with
  | nil => intro a a' H H' hx; cases hx; exact .refl _ _
  | cons o os ih =>
    intro a a' H H' hx
    unfold runOps at hx
    split at hx
    · obtain ⟨y, hy, e⟩ := Option.bind_eq_some_iff.1 hx
      exact (opF_low h hy).trans (ih e)
    · exact ih hx
    · cases hx
theorem runTr_low (h : LowR rec) {l : List AOper} : ∀ {a : Fr} {H : Heap} {tr : List (Fr × Heap)}, runTr E rec lo l a H = some tr → ∃ a' H', tr[l.length]? = some (a', H') ∧ Low lo H H' := by
  induction l with
  | nil => intro a H tr hx; cases hx; exact ⟨a, H, rfl, .refl _ _⟩
  | cons o os ih =>
    intro a H tr hx
    unfold runTr at hx
    split at hx
    · obtain ⟨y, hy, e⟩ := Option.bind_eq_some_iff.1 hx
      obtain ⟨t, ht, rfl⟩ := Option.map_eq_some_iff.1 e
      obtain ⟨a', H', h1, h2⟩ := ih ht
      exact ⟨a', H', by simpa using h1, (opF_low h hy).trans h2⟩
    · obtain ⟨t, ht, rfl⟩ := Option.map_eq_some_iff.1 hx
      obtain ⟨a', H', h1, h2⟩ := ih ht
      exact ⟨a', H', by simpa using h1, h2⟩
    · cases hx
theorem runD_low (h : LowR rec) {ck : List (Nat × Nat)} {l : List AOper} {a a' : Fr} {H H' : Heap} (hx : runD E rec lo ck l a H = some (a', H')) : Low lo H H' := by
  unfold runD at hx
  obtain ⟨tr, ht, e⟩ := Option.bind_eq_some_iff.1 hx
  obtain ⟨a1, H1, h1, h2⟩ := runTr_low h ht
  split at e
  · rw [h1] at e; cases e; exact h2
  · cases e
theorem stepR_low (h : LowR rec) {k : List AI} {a a' : Fr} {H H' : Heap} {o : Out} (hx : stepR E rec lo rd k a H = some (o, a', H')) : Low lo H H' := by
  unfold stepR at hx
  split at hx
  · cases hx; exact .refl _ _
  · exact h _ _ _ _ _ _ _ _ hx
  · exact h _ _ _ _ _ _ _ _ hx
  · split at hx
    · split at hx
      · split at hx
        · rename_i hl; exact (Low.set hl _ _).trans (h _ _ _ _ _ _ _ _ hx)
        · cases hx
      · cases hx
    · cases hx
  · cases hx; exact .refl _ _
  · exact h _ _ _ _ _ _ _ _ hx
  · exact h _ _ _ _ _ _ _ _ hx
  · split at hx
    · exact h _ _ _ _ _ _ _ _ hx
    · exact h _ _ _ _ _ _ _ _ hx
    · cases hx
  · exact h _ _ _ _ _ _ _ _ hx
  · exact h _ _ _ _ _ _ _ _ hx
  · split at hx
    · exact h _ _ _ _ _ _ _ _ hx
    · cases hx; exact .refl _ _
  · obtain ⟨y, hy, e⟩ := Option.bind_eq_some_iff.1 hx
    exact (runOps_low h hy).trans (h _ _ _ _ _ _ _ _ e)
  · obtain ⟨y, hy, e⟩ := Option.bind_eq_some_iff.1 hx
    exact (runD_low h hy).trans (h _ _ _ _ _ _ _ _ e)
  · split at hx
    · split at hx
      · obtain ⟨y, hy, e⟩ := Option.bind_eq_some_iff.1 hx
        have h1 := (Low.app lo H _).trans (callF_low h hy)
        have h2 : ∀ r, Low lo y.2 r → Low lo H r := fun r q => h1.trans q
        have h3 : Low lo H (y.2.set H.length .dead) := ⟨by simpa using h1.1, fun b q1 q2 => by rw [List.getElem?_set_ne (by omega)]; exact h1.2 b q1 q2⟩
        split at e
        · cases e
        · exact h3.trans (h _ _ _ _ _ _ _ _ e)
        · exact h3.trans (h _ _ _ _ _ _ _ _ e)
        · cases e
      · cases hx
    · cases hx
  · cases hx
end
theorem R_low (E : Tab) : ∀ n, LowR (R E n)
  | 0 => fun _ _ _ _ _ _ _ _ h => by cases h
  | n + 1 => fun _ _ _ _ _ _ _ _ h => stepR_low (R_low E n) h
theorem Wp.low {E : Tab} {lo : Nat} {rd : Option Nat} {k : List AI} {a : Fr} {H : Heap} {Q : Out → Fr → Heap → Prop} (h : Wp E lo rd k a H Q) : Wp E lo rd k a H fun o a' H' => Low lo H H' ∧ Q o a' H' := by
  obtain ⟨n, o, a', H', h1, h2⟩ := h
  exact ⟨n, o, a', H', h1, R_low E n _ _ _ _ _ _ _ _ h1, h2⟩
theorem WpF.low {E : Tab} {lo f : Nat} {vs : List AV} {H : Heap} {Q : AV → Heap → Prop} (h : WpF E lo f vs H Q) : WpF E lo f vs H fun v H' => Low lo H H' ∧ Q v H' := by
  obtain ⟨n, v, H', h1, h2⟩ := h
  exact ⟨n, v, H', h1, callF_low (R_low E n) h1, h2⟩
theorem WpV.low {E : Tab} {lo : Nat} {fv : AV} {vs : List AV} {H : Heap} {Q : AV → Heap → Prop} (h : WpV E lo fv vs H Q) : WpV E lo fv vs H fun v H' => Low lo H H' ∧ Q v H' := by
  obtain ⟨n, v, H', h1, h2⟩ := h
  exact ⟨n, v, H', h1, callV_low (R_low E n) h1, h2⟩
end Go.AM

namespace Go.AM
open Go

/-! ### Whole numbers -/
theorem zx172 {n : Int} (h1 : -9223372036854775808 ≤ n) (h2 : n ≤ 9223372036854775807) : IntKind.wrap .i64 n = n := by
  have e1 : IntKind.i64.bits = 64 := rfl
  have e2 : IntKind.i64.signed = true := rfl
  simp only [IntKind.wrap, e1, e2, Bool.true_and, Bool.false_and, decide_eq_true_eq, ge_iff_le, Nat.reduceSub, Int.reducePow, Bool.false_eq_true, if_false]
  first | (split <;> omega) | omega
theorem wrapU {n : Int} (h1 : 0 ≤ n) (h2 : n ≤ 18446744073709551615) : IntKind.wrap .u64 n = n := by
  have e1 : IntKind.u64.bits = 64 := rfl
  have e2 : IntKind.u64.signed = false := rfl
  simp only [IntKind.wrap, e1, e2, Bool.true_and, Bool.false_and, decide_eq_true_eq, ge_iff_le, Nat.reduceSub, Int.reducePow, Bool.false_eq_true, if_false]
  first | (split <;> omega) | omega
theorem zx81 {k : IntKind} {x y : Int} : binA .add (.int k x) (.int k y) = some (.int k (k.wrap (x + y))) := by simp [binA]
theorem zx82 {k : IntKind} {x y : Int} : binA .sub (.int k x) (.int k y) = some (.int k (k.wrap (x - y))) := by simp [binA]
theorem zx83 {k : IntKind} {x y : Int} : binA .mul (.int k x) (.int k y) = some (.int k (k.wrap (x * y))) := by simp [binA]
theorem zx84 {k : IntKind} {x y : Int} (h : y ≠ 0) : binA .quo (.int k x) (.int k y) = some (.int k (k.wrap (x.tdiv y))) := by simp [binA, h]
theorem zx85 {k : IntKind} {x y : Int} (h : y ≠ 0) : binA .rem (.int k x) (.int k y) = some (.int k (x.tmod y)) := by simp [binA, h]
theorem zx86 {k : IntKind} {x y : Int} : binA .lss (.int k x) (.int k y) = some (.b (decide (x < y))) := by simp [binA]
theorem zx87 {k : IntKind} {x y : Int} : binA .leq (.int k x) (.int k y) = some (.b (decide (x ≤ y))) := by simp [binA]
theorem zx88 {k : IntKind} {x y : Int} : binA .gtr (.int k x) (.int k y) = some (.b (decide (y < x))) := by simp [binA]
theorem zx89 {k : IntKind} {x y : Int} : binA .geq (.int k x) (.int k y) = some (.b (decide (y ≤ x))) := by simp [binA]
theorem zx90 {k : IntKind} {x y : Int} : binA .eql (.int k x) (.int k y) = some (.b (decide (x = y))) := by simp [binA]; rfl
theorem zx91 {k : IntKind} {x y : Int} : binA .neq (.int k x) (.int k y) = some (.b (decide (¬ x = y))) := by
  simp [binA]; by_cases h : x = y <;> simp [h]
theorem zx92 {b : Bool} : unA .not (.b b) = some (.b (!b)) := (rfl)
theorem zx93 {k : IntKind} {n : Int} : unA .neg (.int k n) = some (.int k (k.wrap (0 - n))) := (rfl)
theorem zx94 {c : Prop} [Decidable c] : (!decide c) = decide (¬ c) := by simp
theorem zx95 {k k' : IntKind} {n : Int} : convV k (.int k' n) = some (.int k (k.wrap n)) := (rfl)
theorem zx96 {x y : AV} : pickV (.b true) x y = some x := (rfl)
theorem zx97 {x y : AV} : pickV (.b false) x y = some y := (rfl)
theorem zx98 {b : Bool} {x : AV} : pickV (.b b) x x = some x := by cases b <;> rfl
theorem zx99 {b c : Bool} : pickV (.b b) (.b true) (.b c) = some (.b (b || c)) := by cases b <;> rfl
theorem zx100 {b c : Bool} : pickV (.b b) (.b c) (.b false) = some (.b (b && c)) := by cases b <;> rfl
theorem zx101 {v : AV} {vs : List AV} : extrV 0 (.tp (v :: vs)) = some v := (rfl)
theorem e_consS {v : AV} {vs : List AV} {i : Nat} : extrV (i + 1) (.tp (v :: vs)) = extrV i (.tp vs) := (rfl)
theorem zx102 {v u : AV} {vs : List AV} : extrV 1 (.tp (v :: u :: vs)) = some u := (rfl)
theorem zx103 {v u t : AV} {vs : List AV} : extrV 2 (.tp (v :: u :: t :: vs)) = some t := (rfl)

/-- the element at a whole number -/
def gi {α : Type} [Inhabited α] (xs : List α) (k : Int) : α := xs.getD k.toNat default
theorem gi_nat {α : Type} [Inhabited α] {xs : List α} {i : Nat} (h : i < xs.length) : gi xs (i : Int) = xs[i] := by
  simp [gi, h]
theorem gi_mem {α : Type} [Inhabited α] {xs : List α} {k : Int} (h0 : 0 ≤ k) (h : k < xs.length) : gi xs k ∈ xs := by
  obtain ⟨i, rfl⟩ := Int.eq_ofNat_of_zero_le h0
  rw [gi_nat (by omega)]; exact List.getElem_mem _

/-! ### Heaps that keep blocks -/
/-- the blocks of which p holds stay as they are -/
def Kp (p : Nat → Prop) (H H' : Heap) : Prop := H.length ≤ H'.length ∧ ∀ b k, p b → H[b]? = some (.cells k) → H'[b]? = some (.cells k)
theorem Kp.refl (p : Nat → Prop) (H : Heap) : Kp p H H := ⟨Nat.le_refl _, fun _ _ _ h => h⟩
theorem Kp.trans {p q : Nat → Prop} {H H1 H2 : Heap} (h : Kp p H H1) (h' : Kp q H1 H2) (hq : ∀ b, p b → q b) : Kp p H H2 :=
  ⟨Nat.le_trans h.1 h'.1, fun b k hp hb => h'.2 b k (hq b hp) (h.2 b k hp hb)⟩
theorem Kp.app (p : Nat → Prop) (H N : Heap) : Kp p H (H ++ N) :=
  ⟨by simp, fun b k _ hb => by rw [List.getElem?_append_left (List.getElem?_eq_some_iff.1 hb).1]; exact hb⟩
theorem Kp.weak {p q : Nat → Prop} {H H' : Heap} (h : Kp p H H') (hq : ∀ b, q b → p b) : Kp q H H' := ⟨h.1, fun b k hp hb => h.2 b k (hq b hp) hb⟩
theorem Kp.weakT {q : Nat → Prop} {H H' : Heap} (h : Kp (fun _ => True) H H') : Kp q H H' := h.weak fun _ _ => trivial
theorem Kp.app' {p : Nat → Prop} {H H1 : Heap} (h : Kp p H H1) (N : Heap) : Kp p H (H1 ++ N) := h.trans (Kp.app (fun _ => True) H1 N) fun _ _ => trivial

/-! ### Values that stand for something -/
class Rep (α : Type) where
  sz : Nat
  pos : 0 < sz
  rep : (Nat → Prop) → Heap → List AV → α → Prop
  len : ∀ {p H cs x}, rep p H cs x → cs.length = sz
  one : ∀ {p H cs x}, rep p H cs x → cs.all AV.one = true
  mono : ∀ {p q H H' cs x}, rep p H cs x → Kp p H H' → (∀ b, p b → q b) → rep q H' cs x
  /-- no address in it: whatever the heap -/
  pure : ∀ {p q H H' cs x}, rep p H cs x → AV.pureAll cs = true → rep q H' cs x
  /-- its blocks are there -/
  low : ∀ {p H cs x}, rep p H cs x → rep (fun b => p b ∧ b < H.length) H cs x

theorem pureAll_append {us vs : List AV} : AV.pureAll (us ++ vs) = (AV.pureAll us && AV.pureAll vs) := by
  induction us with
  | nil => simp [AV.pureAll]
  | cons u us ih => simp [AV.pureAll, ih, Bool.and_assoc]

instance : Rep Int where
  sz := 1
  pos := Nat.one_pos
  rep _ _ cs x := cs = [.i x]
  len h := by rw [h]; rfl
  one h := by rw [h]; rfl
  mono h _ _ := h
  pure h _ := h
  low h := h
instance : Rep Bool where
  sz := 1
  pos := Nat.one_pos
  rep _ _ cs x := cs = [.b x]
  len h := by rw [h]; rfl
  one h := by rw [h]; rfl
  mono h _ _ := h
  pure h _ := h
  low h := h
instance {α β : Type} [Rep α] [Rep β] : Rep (α × β) where
  sz := Rep.sz α + Rep.sz β
  pos := Nat.add_pos_left Rep.pos _
  rep p H cs x := ∃ c1 c2, cs = c1 ++ c2 ∧ Rep.rep p H c1 x.1 ∧ Rep.rep p H c2 x.2
  len := by rintro p H cs x ⟨c1, c2, rfl, h1, h2⟩; rw [List.length_append, Rep.len h1, Rep.len h2]
  one := by rintro p H cs x ⟨c1, c2, rfl, h1, h2⟩; rw [List.all_append, Rep.one h1, Rep.one h2]; rfl
  mono := by rintro p q H H' cs x ⟨c1, c2, rfl, h1, h2⟩ hk hq; exact ⟨c1, c2, rfl, Rep.mono h1 hk hq, Rep.mono h2 hk hq⟩
  pure := by
    rintro p q H H' cs x ⟨c1, c2, rfl, h1, h2⟩ hp
    rw [pureAll_append, Bool.and_eq_true] at hp
    exact ⟨c1, c2, rfl, Rep.pure h1 hp.1, Rep.pure h2 hp.2⟩
  low := by rintro p H cs x ⟨c1, c2, rfl, h1, h2⟩; exact ⟨c1, c2, rfl, Rep.low h1, Rep.low h2⟩

/-- a slice; its block and those behind it are some of which p holds -/
def Sl {α : Type} [Rep α] (p : Nat → Prop) (H : Heap) (v : AV) (xs : List α) : Prop :=
  (v = .nils ∧ xs = []) ∨ ∃ b o c k, v = .s (Rep.sz α) b o xs.length c ∧ p b ∧ H[b]? = some (.cells k) ∧ o + xs.length * Rep.sz α ≤ k.length ∧ xs.length ≤ 9223372036854775807 ∧
    ∀ (i : Nat) (h : i < xs.length), Rep.rep p H ((k.drop (o + i * Rep.sz α)).take (Rep.sz α)) xs[i]
section
variable {α : Type} [Rep α] {p q : Nat → Prop} {H H' : Heap} {v : AV} {xs : List α}
theorem Sl.nil : Sl p H .nils ([] : List α) := .inl ⟨rfl, rfl⟩
theorem Sl.mono (h : Sl p H v xs) (hk : Kp p H H') (hq : ∀ b, p b → q b) : Sl q H' v xs := by
  rcases h with h | ⟨b, o, c, k, e, hb, hk1, h1, h2, h3⟩
  · exact .inl h
  · exact .inr ⟨b, o, c, k, e, hq b hb, hk.2 b k hb hk1, h1, h2, fun i hi => Rep.mono (h3 i hi) hk hq⟩
theorem Sl.kp (h : Sl p H v xs) (hk : Kp p H H') : Sl p H' v xs := h.mono hk fun _ h => h
theorem Sl.weak (h : Sl p H v xs) (hq : ∀ b, p b → q b) : Sl q H v xs := h.mono (Kp.refl _ _) hq
theorem Sl.app (h : Sl p H v xs) (N : Heap) : Sl p (H ++ N) v xs := h.kp (Kp.app _ _ _)
theorem Sl.low (h : Sl p H v xs) : Sl (fun b => p b ∧ b < H.length) H v xs := by
  rcases h with h | ⟨b, o, c, k, e, hb, hk1, h1, h2, h3⟩
  · exact .inl h
  · exact .inr ⟨b, o, c, k, e, ⟨hb, (List.getElem?_eq_some_iff.1 hk1).1⟩, hk1, h1, h2, fun i hi => Rep.low (h3 i hi)⟩
theorem Sl.pure (h : Sl p H v xs) (hp : v.pure = true) : Sl q H' v xs := by
  rcases h with h | ⟨b, o, c, k, e, _⟩
  · exact .inl h
  · subst e; simp [AV.pure] at hp
theorem Sl.lenV (h : Sl p H v xs) : lenV v = some (.i xs.length) := by
  rcases h with ⟨rfl, rfl⟩ | ⟨b, o, c, k, rfl, _⟩ <;> rfl
theorem Sl.lenA (h : Sl p H v xs) : lenA v = some xs.length := by
  rcases h with ⟨rfl, rfl⟩ | ⟨b, o, c, k, rfl, _⟩ <;> rfl
theorem Sl.bound (h : Sl p H v xs) : xs.length ≤ 9223372036854775807 := by
  rcases h with ⟨rfl, rfl⟩ | ⟨b, o, c, k, rfl, _, _, _, h, _⟩
  · simp
  · exact h
theorem Sl.one (h : Sl p H v xs) : v.one = true := by
  rcases h with ⟨rfl, rfl⟩ | ⟨b, o, c, k, rfl, _⟩ <;> rfl
end
instance {α : Type} [Rep α] : Rep (List α) where
  sz := 1
  pos := Nat.one_pos
  rep p H cs xs := ∃ v, cs = [v] ∧ Sl p H v xs
  len := by rintro p H cs x ⟨v, rfl, _⟩; rfl
  one := by rintro p H cs x ⟨v, rfl, h⟩; simp [h.one]
  mono := by rintro p q H H' cs x ⟨v, rfl, h⟩ hk hq; exact ⟨v, rfl, h.mono hk hq⟩
  pure := by rintro p q H H' cs x ⟨v, rfl, h⟩ hp; exact ⟨v, rfl, h.pure (by simpa [AV.pureAll] using hp)⟩
  low := by rintro p H cs x ⟨v, rfl, h⟩; exact ⟨v, rfl, h.low⟩

/-- the place of an element -/
def AV.at (es : Nat) (v : AV) (k : Int) : AV := match v with
  | .s _ bb oo _ _ => .p bb (oo + k.toNat * es)
  | _ => .un
/-- the value of an element of one cell -/
def AV.get (H : Heap) (v : AV) (k : Int) : AV := match v with
  | .s es bb oo _ _ => (ld H bb (oo + k.toNat * es)).getD .un
  | _ => .un
/-- the cells of an element -/
def AV.getn (H : Heap) (v : AV) (k : Int) : List AV := match v with
  | .s es bb oo _ _ => (ldn H bb (oo + k.toNat * es) es).getD []
  | _ => []
section
variable {p q : Nat → Prop} {H H' : Heap} {v : AV}
theorem Sl.iaddr {α : Type} [Rep α] {xs : List α} {kk : IntKind} {k : Int} (h : Sl p H v xs) (h0 : 0 ≤ k) (h1 : k < xs.length) : iaddrV (Rep.sz α) v (.int kk k) = some (v.at (Rep.sz α) k) := by
  rcases h with ⟨rfl, rfl⟩ | ⟨b, o, c, kk, rfl, _⟩
  · simp at h1; omega
  · simp [iaddrV, AV.at, h0, h1]
theorem Sl.cells {α : Type} [Rep α] [Inhabited α] {xs : List α} {k : Int} (h : Sl p H v xs) (h0 : 0 ≤ k) (h1 : k < xs.length) : ∃ b o n c ks, v = .s (Rep.sz α) b o n c ∧ H[b]? = some (.cells ks) ∧ o + k.toNat * Rep.sz α + Rep.sz α ≤ ks.length ∧ Rep.rep p H ((ks.drop (o + k.toNat * Rep.sz α)).take (Rep.sz α)) (gi xs k) := by
  rcases h with ⟨rfl, rfl⟩ | ⟨b, o, c, ks, rfl, _, h2, h3, _, h4⟩
  · simp at h1; omega
  · obtain ⟨i, rfl⟩ := Int.eq_ofNat_of_zero_le h0
    have hi : i < xs.length := by omega
    refine ⟨b, o, _, c, ks, rfl, h2, ?_, ?_⟩
    · have := Nat.mul_le_mul_right (Rep.sz α) (Nat.succ_le_of_lt hi)
      rw [Nat.succ_mul] at this
      simp only [Int.toNat_natCast]; omega
    · rw [gi_nat hi]; exact h4 i hi
theorem take1 {α : Type} {l : List α} {n : Nat} {x : α} (h : (l.drop n).take 1 = [x]) : l[n]? = some x := by
  have : ((l.drop n).take 1)[0]? = some x := by rw [h]; rfl
  simpa using this
theorem Sl.ld_int {xs : List Int} {k : Int} (h : Sl p H v xs) (h0 : 0 ≤ k) (h1 : k < xs.length) : ldA H none (v.at 1 k) = some (.i (gi xs k)) := by
  obtain ⟨b, o, n, c, ks, rfl, h2, h3, h4⟩ := h.cells h0 h1
  have h5 := take1 h4
  change ld H b (o + k.toNat * 1) = _
  simp only [ld, h2]
  exact h5
theorem Sl.ld_bool {xs : List Bool} {k : Int} (h : Sl p H v xs) (h0 : 0 ≤ k) (h1 : k < xs.length) : ldA H none (v.at 1 k) = some (.b (gi xs k)) := by
  obtain ⟨b, o, n, c, ks, rfl, h2, h3, h4⟩ := h.cells h0 h1
  have h5 := take1 h4
  change ld H b (o + k.toNat * 1) = _
  simp only [ld, h2]
  exact h5
theorem Sl.ld_get {α : Type} [Rep α] {xs : List (List α)} {k : Int} (h : Sl p H v xs) (h0 : 0 ≤ k) (h1 : k < xs.length) : ldA H none (v.at 1 k) = some (v.get H k) ∧ Sl p H (v.get H k) (gi xs k) := by
  obtain ⟨b, o, n, c, ks, rfl, h2, h3, u, h4, h6⟩ := h.cells h0 h1
  have h5 := take1 h4
  have e : ld H b (o + k.toNat * 1) = some u := by simp only [ld, h2]; exact h5
  constructor
  · change ld H b (o + k.toNat * 1) = some ((ld H b (o + k.toNat * 1)).getD .un)
    rw [e]; rfl
  · change Sl p H ((ld H b (o + k.toNat * 1)).getD .un) _
    rw [e]; exact h6
theorem Sl.ld_list {α : Type} [Rep α] {xs : List (List α)} {k : Int} (h : Sl p H v xs) (h0 : 0 ≤ k) (h1 : k < xs.length) : ldA H none (v.at 1 k) = some (v.get H k) := (h.ld_get h0 h1).1
theorem Sl.get {α : Type} [Rep α] {xs : List (List α)} {k : Int} (h : Sl p H v xs) (h0 : 0 ≤ k) (h1 : k < xs.length) : Sl p H (v.get H k) (gi xs k) := (h.ld_get h0 h1).2
theorem Sl.ld_n {α : Type} [Rep α] [Inhabited α] {xs : List α} {k : Int} (h : Sl p H v xs) (h0 : 0 ≤ k) (h1 : k < xs.length) : ldA H (some (Rep.sz α)) (v.at (Rep.sz α) k) = some (.ag (v.getn H k)) ∧ Rep.rep p H (v.getn H k) (gi xs k) := by
  obtain ⟨b, o, n, c, ks, rfl, h2, h3, h4⟩ := h.cells h0 h1
  have e : ldn H b (o + k.toNat * Rep.sz α) (Rep.sz α) = some ((ks.drop (o + k.toNat * Rep.sz α)).take (Rep.sz α)) := by simp only [ldn, h2, if_pos h3]
  constructor
  · change (ldn H b (o + k.toNat * Rep.sz α) (Rep.sz α)).map AV.ag = some (.ag ((ldn H b (o + k.toNat * Rep.sz α) (Rep.sz α)).getD []))
    rw [e]; rfl
  · change Rep.rep p H ((ldn H b (o + k.toNat * Rep.sz α) (Rep.sz α)).getD []) _
    rw [e]; exact h4
theorem Sl.ld_two {xs : List (Int × Int)} {k : Int} (h : Sl p H v xs) (h0 : 0 ≤ k) (h1 : k < xs.length) : ldA H (some 2) (v.at 2 k) = some (.ag [.i (gi xs k).1, .i (gi xs k).2]) := by
  obtain ⟨e1, c1, c2, e2, r1, r2⟩ := h.ld_n h0 h1
  change ldA H (some 2) (v.at 2 k) = _ at e1
  rw [e1, e2]
  change c1 = _ at r1; change c2 = _ at r2
  rw [r1, r2]; rfl
end

/-! ### What functions return -/
/-- a result: a number, a slice, a struct, or several -/
class RV (α : Type) where
  rv : (Nat → Prop) → Heap → AV → α → Prop
  mono : ∀ {p q H H' v x}, rv p H v x → Kp p H H' → (∀ b, p b → q b) → rv q H' v x
  pure : ∀ {p q H H' v x}, rv p H v x → v.pure = true → rv q H' v x
instance : RV Int := ⟨fun _ _ v x => v = .i x, fun h _ _ => h, fun h _ => h⟩
instance : RV Bool := ⟨fun _ _ v x => v = .b x, fun h _ _ => h, fun h _ => h⟩
instance {α : Type} [Rep α] : RV (List α) := ⟨fun p H v x => Sl p H v x, fun h a b => Sl.mono h a b, fun h a => Sl.pure h a⟩
instance {α β : Type} [Rep α] [Rep β] : RV (α × β) :=
  ⟨fun p H v x => ∃ cs, v = .ag cs ∧ Rep.rep p H cs x, by rintro p q H H' v x ⟨cs, rfl, h⟩ a b; exact ⟨cs, rfl, Rep.mono h a b⟩,
   by rintro p q H H' v x ⟨cs, rfl, h⟩ a; exact ⟨cs, rfl, Rep.pure h (by simpa [AV.pure] using a)⟩⟩
/-- two results -/
structure T2 (α β : Type) where
  a : α
  b : β
structure T3 (α β γ : Type) where
  a : α
  b : β
  c : γ
instance {α β : Type} [RV α] [RV β] : RV (T2 α β) :=
  ⟨fun p H v x => ∃ v1 v2, v = .tp [v1, v2] ∧ RV.rv p H v1 x.a ∧ RV.rv p H v2 x.b,
   by rintro p q H H' v x ⟨v1, v2, rfl, h1, h2⟩ a b; exact ⟨v1, v2, rfl, RV.mono h1 a b, RV.mono h2 a b⟩,
   by
    rintro p q H H' v x ⟨v1, v2, rfl, h1, h2⟩ a
    simp only [AV.pure, AV.pureAll, Bool.and_true, Bool.and_eq_true] at a
    exact ⟨v1, v2, rfl, RV.pure h1 a.1, RV.pure h2 a.2⟩⟩
instance {α β γ : Type} [RV α] [RV β] [RV γ] : RV (T3 α β γ) :=
  ⟨fun p H v x => ∃ v1 v2 v3, v = .tp [v1, v2, v3] ∧ RV.rv p H v1 x.a ∧ RV.rv p H v2 x.b ∧ RV.rv p H v3 x.c,
   by rintro p q H H' v x ⟨v1, v2, v3, rfl, h1, h2, h3⟩ a b; exact ⟨v1, v2, v3, rfl, RV.mono h1 a b, RV.mono h2 a b, RV.mono h3 a b⟩,
   by
    rintro p q H H' v x ⟨v1, v2, v3, rfl, h1, h2, h3⟩ a
    simp only [AV.pure, AV.pureAll, Bool.and_true, Bool.and_eq_true] at a
    exact ⟨v1, v2, v3, rfl, RV.pure h1 a.1, RV.pure h2 a.2.1, RV.pure h3 a.2.2⟩⟩

/-- **a call returns what stands for x**, in memory of which p holds, or new; the heap is only added to -/
def Ret {α : Type} [RV α] (E : Tab) (f : Nat) (vs : List AV) (p : Nat → Prop) (H : Heap) (x : α) : Prop :=
  ∀ lo, WpF E lo f vs H fun v H' => ∃ N, H' = H ++ N ∧ RV.rv (fun b => p b ∨ H.length ≤ b) H' v x
/-- a call returns this very value; the heap stays -/
def RetP (E : Tab) (f : Nat) (vs : List AV) (H : Heap) (v : AV) : Prop :=
  ∀ lo, WpF E lo f vs H fun v' H' => v' = v ∧ H' = H
theorem WpF.det {E : Tab} {lo f : Nat} {vs : List AV} {H : Heap} {Q Q' : AV → Heap → Prop} (h : WpF E lo f vs H Q) (h' : WpF E lo f vs H Q') : WpF E lo f vs H fun v H => Q v H ∧ Q' v H := by
  obtain ⟨n, v, H1, e, q⟩ := h
  obtain ⟨m, v', H1', e', q'⟩ := h'
  have a := callF_mono (R_le E (Nat.le_max_left n m)) e
  have b := callF_mono (R_le E (Nat.le_max_right n m)) e'
  rw [a] at b
  cases b
  exact ⟨_, _, _, a, q, q'⟩
theorem RetP.iff {E : Tab} {f : Nat} {vs : List AV} {H : Heap} {v : AV} (h : RetP E f vs H v) {lo : Nat} {Q : AV → Heap → Prop} : WpF E lo f vs H Q = Q v H := by
  apply propext
  constructor
  · intro h'
    obtain ⟨n, v', H1, _, q, rfl, rfl⟩ := WpF.det h' (h lo)
    exact q
  · intro hq
    exact (h lo).mono fun v' H' ⟨e1, e2⟩ => by rw [e1, e2]; exact hq
theorem RetP.call {E : Tab} {f : Nat} {vs : List AV} {H : Heap} {v : AV} (h : RetP E f vs H v) {lo : Nat} {Q : AV → Heap → Prop} : @callP E lo f vs H ⟨Q⟩ = Q v H := h.iff
theorem Ret.use {α : Type} [RV α] {E : Tab} {f : Nat} {vs : List AV} {p : Nat → Prop} {H : Heap} {x : α} (h : Ret E f vs p H x) {lo : Nat} {Q : AV → Heap → Prop}
    (hq : ∀ v N, RV.rv (fun b => p b ∨ H.length ≤ b) (H ++ N) v x → Q v (H ++ N)) : WpF E lo f vs H Q :=
  (h lo).mono fun v H' ⟨N, e, hr⟩ => by subst e; exact hq v N hr
theorem RetP.ret {α : Type} [RV α] {E : Tab} {f : Nat} {vs : List AV} {p : Nat → Prop} {H : Heap} {x : α} {v : AV} (h : RetP E f vs H v) (hv : ∀ p H, RV.rv p H v x) : Ret E f vs p H x :=
  fun lo => (h lo).mono fun v' H' ⟨e1, e2⟩ => by subst e1 e2; exact ⟨[], by simp, hv _ _⟩

/-- how a function's body ends -/
def RetQ (res : List RVar) (P : AV → Heap → Prop) (o : Out) (a : Fr) (H : Heap) : Prop := match o with
  | .exit _ => False
  | _ => @optP _ (resA res a H) ⟨fun v => P v H⟩
theorem zx104 {res : List RVar} {P : AV → Heap → Prop} {a : Fr} {H : Heap} : RetQ res P .ret a H = @optP _ (resA res a H) ⟨fun v => P v H⟩ := (rfl)
theorem zx105 {res : List RVar} {P : AV → Heap → Prop} {a : Fr} {H : Heap} : RetQ res P .done a H = @optP _ (resA res a H) ⟨fun v => P v H⟩ := (rfl)
theorem res_1 {t : Nat} {a : Fr} {H : Heap} : resA [.t t] a H = some (a t) := (rfl)
theorem res_2 {t u : Nat} {a : Fr} {H : Heap} : resA [.t t, .t u] a H = some (.tp [a t, a u]) := (rfl)
theorem res_3 {t u s : Nat} {a : Fr} {H : Heap} : resA [.t t, .t u, .t s] a H = some (.tp [a t, a u, a s]) := (rfl)
theorem res_0 {a : Fr} {H : Heap} : resA [] a H = some (.tp []) := (rfl)

section
variable {E : Tab} {f : Nat} {af : AFunc} {vs : List AV} {H : Heap}
theorem RetP.ro (hk : E.kd f = .ro) (hf : E.fn f = some af) (hn : vs.length = af.nargs) {v : AV} (hv : v.pure = true)
    (h : Wp E H.length none [.code af.body] (initFr vs) H (RetQ af.res fun v' _ => v' = v)) : RetP E f vs H v := fun lo => by
  refine WpF.of_ro hk hf hn (h.mono fun o a' H' hq => ?_)
  cases o with
  | exit id => exact hq.elim
  | done => obtain ⟨u, e, rfl⟩ := hq; exact ⟨.inl rfl, u, e, rfl, by simp [hv]⟩
  | ret => obtain ⟨u, e, rfl⟩ := hq; exact ⟨.inr rfl, u, e, rfl, by simp [hv]⟩
theorem Ret.ro {α : Type} [RV α] (hk : E.kd f = .ro) (hf : E.fn f = some af) (hn : vs.length = af.nargs) {p : Nat → Prop} {x : α}
    (h : Wp E H.length none [.code af.body] (initFr vs) H (RetQ af.res fun v H' => RV.rv (fun b => p b ∨ H.length ≤ b) H' v x)) : Ret E f vs p H x := fun lo => by
  refine WpF.of_ro hk hf hn (h.low.mono fun o a' H' hq => ?_)
  obtain ⟨hlow, hq⟩ := hq
  have key : ∀ {u : AV}, RV.rv (fun b => p b ∨ H.length ≤ b) H' u x →
      ∃ N, (if u.pure = true then H else H ++ (H'.drop H.length).map Blk.shut) = H ++ N ∧ RV.rv (fun b => p b ∨ H.length ≤ b) (if u.pure = true then H else H ++ (H'.drop H.length).map Blk.shut) u x := by
    intro u q3
    by_cases hp : u.pure = true
    · rw [if_pos hp]; exact ⟨[], by simp, RV.pure q3 hp⟩
    · rw [if_neg hp]
      refine ⟨_, rfl, RV.mono q3 ⟨by have := hlow.1; simp; omega, fun b k _ hb => ?_⟩ fun _ h => h⟩
      by_cases hl : b < H.length
      · rw [List.getElem?_append_left hl, ← hlow.2 b hl hl]; exact hb
      · have hl' : H.length ≤ b := by omega
        rw [List.getElem?_append_right hl', List.getElem?_map, List.getElem?_drop, Nat.add_sub_cancel' hl', hb]
        rfl
  cases o with
  | exit id => exact hq.elim
  | done => obtain ⟨u, e, q⟩ := hq; exact ⟨.inl rfl, u, e, key q⟩
  | ret => obtain ⟨u, e, q⟩ := hq; exact ⟨.inr rfl, u, e, key q⟩
end
end Go.AM

namespace Go.AM
open Go

class Va where
  v : AV
def iteP (c : Bool) [v : Va] [u : Va] : AV := match c with
  | true => v.v
  | false => u.v
theorem zx71 {v u : AV} : @iteP true ⟨v⟩ ⟨u⟩ = v := (rfl)
theorem zx72 {v u : AV} : @iteP false ⟨v⟩ ⟨u⟩ = u := (rfl)
theorem zx70 {a : Fr} {d t : Nat} {v : AV} : a.upd d v t = @iteP (t == d) ⟨v⟩ ⟨a t⟩ := by
  unfold Fr.upd iteP
  by_cases h : t = d
  · simp [h]
  · rw [if_neg h, beq_eq_false_iff_ne.2 h]; rfl
theorem zx170 {c : Prop} [Decidable c] (h : c) : decide c = true := decide_eq_true h
theorem zx171 {c : Prop} [Decidable c] (h : ¬ c) : decide c = false := decide_eq_false h
theorem zx168 : lenV .nils = some (.i 0) := (rfl)
theorem zx169 {e b o n : Nat} {c : Option Nat} : lenV (.s e b o n c) = some (.i n) := (rfl)
theorem zx73 {v : AV} {vs : List AV} : initFr (v :: vs) 0 = v := (rfl)
theorem zx74 {v0 v : AV} {vs : List AV} : initFr (v0 :: v :: vs) 1 = v := (rfl)
theorem zx75 {v0 v1 v : AV} {vs : List AV} : initFr (v0 :: v1 :: v :: vs) 2 = v := (rfl)
theorem zx76 {v0 v1 v2 v : AV} {vs : List AV} : initFr (v0 :: v1 :: v2 :: v :: vs) 3 = v := (rfl)
theorem zx77 {v0 v1 v2 v3 v : AV} {vs : List AV} : initFr (v0 :: v1 :: v2 :: v3 :: v :: vs) 4 = v := (rfl)
theorem zx78 {v0 v1 v2 v3 v4 v : AV} {vs : List AV} : initFr (v0 :: v1 :: v2 :: v3 :: v4 :: v :: vs) 5 = v := (rfl)
theorem zx79 {v0 v1 v2 v3 v4 v5 v : AV} {vs : List AV} : initFr (v0 :: v1 :: v2 :: v3 :: v4 :: v5 :: v :: vs) 6 = v := (rfl)
theorem zx80 {v0 v1 v2 v3 v4 v5 v6 v : AV} {vs : List AV} : initFr (v0 :: v1 :: v2 :: v3 :: v4 :: v5 :: v6 :: v :: vs) 7 = v := (rfl)
/-- frames that agree but at m -/
def Ag (m : List Nat) (a0 a : Fr) : Prop := ∀ t, m.contains t = false → a t = a0 t
theorem Ag.refl (m : List Nat) (a : Fr) : Ag m a a := fun _ _ => rfl
theorem Ag.upd {m : List Nat} {a0 a : Fr} (h : Ag m a0 a) {d : Nat} {v : AV} (hd : m.contains d = true) : Ag m a0 (a.upd d v) := by
  intro t ht
  unfold Fr.upd
  split
  · rename_i e; subst e; rw [hd] at ht; cases ht
  · exact h t ht
class FH where
  p : Fr → Heap → Prop
/-- what is to be shown of the next round -/
def Nx (J : Fr → Heap → Prop) [P : FH] : Prop := ∀ a H, J a H → P.p a H
theorem Nx.go {J P : Fr → Heap → Prop} (h : @Nx J ⟨P⟩) {a : Fr} {H : Heap} (hj : J a H) : @lpP ⟨P a H⟩ := h a H hj
theorem zx164 {E : Tab} {lo : Nat} {rd : Option Nat} {k : List AI} {a : Fr} {H : Heap} {Q : Out → Fr → Heap → Prop} {c : ACode} : Wp E lo rd (.lp c :: k) a H Q = @lpP ⟨Wp E lo rd (.lp c :: k) a H Q⟩ := (rfl)
/-- a loop whose rounds are counted -/
theorem Wp.for {E : Tab} {lo : Nat} {rd : Option Nat} {k : List AI} {a : Fr} {H : Heap} {Q : Out → Fr → Heap → Prop} {c : ACode} (n : Nat) (J : Nat → Fr → Heap → Prop)
    (h : ∀ i a H, i ≤ n → J i a H → (i < n → @Nx (J (i + 1)) ⟨fun a' H' => Wp E lo rd (.lp c :: k) a' H' Q⟩) → Wp E lo rd (.code c :: .lp c :: k) a H Q) (h0 : J 0 a H) : @lpP ⟨Wp E lo rd (.lp c :: k) a H Q⟩ := by
  have key : ∀ (m i : Nat), n - i = m → i ≤ n → ∀ a H, J i a H → Wp E lo rd (.lp c :: k) a H Q := by
    intro m
    induction m with
    | zero =>
      intro i e hi a H hJ
      exact Wp.lp (h i a H hi hJ fun hlt => absurd hlt (by omega))
    | succ m ih =>
      intro i e hi a H hJ
      exact Wp.lp (h i a H hi hJ fun hlt a' H' hJ' => ih (i + 1) (by omega) (by omega) a' H' hJ')
  exact key n 0 (by omega) (Nat.zero_le _) a H h0
/-- a loop, with what grows less -/
theorem Wp.dec {E : Tab} {lo : Nat} {rd : Option Nat} {k : List AI} {a : Fr} {H : Heap} {Q : Out → Fr → Heap → Prop} {c : ACode} (J : Nat → Fr → Heap → Prop) (n : Nat)
    (h : ∀ i a H, J i a H → @Nx (fun a H => ∃ j, j < i ∧ J j a H) ⟨fun a' H' => Wp E lo rd (.lp c :: k) a' H' Q⟩ → Wp E lo rd (.code c :: .lp c :: k) a H Q) (h0 : J n a H) : @lpP ⟨Wp E lo rd (.lp c :: k) a H Q⟩ := by
  have key : ∀ (m : Nat) (a : Fr) (H : Heap), J m a H → Wp E lo rd (.lp c :: k) a H Q := by
    intro m
    induction m using Nat.strongRecOn with
    | ind m ih =>
      intro a H hJ
      exact Wp.lp (h m a H hJ fun a' H' ⟨j, hj, hJ'⟩ => ih j hj a' H' hJ')
  exact key n a H h0
theorem Sl.cellsV {α : Type} [Rep α] {p : Nat → Prop} {H : Heap} {v : AV} {xs : List α} (h : Sl p H v xs) : v.cells = [v] ∧ v.one = true := by
  rcases h with ⟨rfl, rfl⟩ | ⟨b, o, c, k, rfl, _⟩ <;> exact ⟨rfl, rfl⟩

section
variable {p : Nat → Prop} {H : Heap} {v : AV}
theorem Sl.I {xs : List Int} (h : Sl p H v xs) : Go.AM.lenV v = some (.i xs.length) ∧ (∀ (kk : IntKind) (k : Int), 0 ≤ k → k < xs.length → iaddrV 1 v (.int kk k) = some (v.at 1 k)) ∧ (∀ k : Int, 0 ≤ k → k < xs.length → ldA H none (v.at 1 k) = some (.i (gi xs k))) ∧ v.cells = [v] ∧ v.one = true :=
  ⟨h.lenV, fun _ _ h0 h1 => h.iaddr h0 h1, fun _ h0 h1 => h.ld_int h0 h1, h.cellsV⟩
theorem Sl.B {xs : List Bool} (h : Sl p H v xs) : Go.AM.lenV v = some (.i xs.length) ∧ (∀ (kk : IntKind) (k : Int), 0 ≤ k → k < xs.length → iaddrV 1 v (.int kk k) = some (v.at 1 k)) ∧ (∀ k : Int, 0 ≤ k → k < xs.length → ldA H none (v.at 1 k) = some (.b (gi xs k))) ∧ v.cells = [v] ∧ v.one = true :=
  ⟨h.lenV, fun _ _ h0 h1 => h.iaddr h0 h1, fun _ h0 h1 => h.ld_bool h0 h1, h.cellsV⟩
theorem Sl.L {α : Type} [Rep α] {xs : List (List α)} (h : Sl p H v xs) : Go.AM.lenV v = some (.i xs.length) ∧ (∀ (kk : IntKind) (k : Int), 0 ≤ k → k < xs.length → iaddrV 1 v (.int kk k) = some (v.at 1 k)) ∧ (∀ k : Int, 0 ≤ k → k < xs.length → ldA H none (v.at 1 k) = some (v.get H k)) ∧ v.cells = [v] ∧ v.one = true :=
  ⟨h.lenV, fun _ _ h0 h1 => h.iaddr h0 h1, fun _ h0 h1 => h.ld_list h0 h1, h.cellsV⟩
theorem Sl.T {xs : List (Int × Int)} (h : Sl p H v xs) : Go.AM.lenV v = some (.i xs.length) ∧ (∀ (kk : IntKind) (k : Int), 0 ≤ k → k < xs.length → iaddrV 2 v (.int kk k) = some (v.at 2 k)) ∧ (∀ k : Int, 0 ≤ k → k < xs.length → ldA H (some 2) (v.at 2 k) = some (.ag [.i (gi xs k).1, .i (gi xs k).2])) ∧ v.cells = [v] ∧ v.one = true :=
  ⟨h.lenV, fun _ _ h0 h1 => h.iaddr h0 h1, fun _ h0 h1 => h.ld_two h0 h1, h.cellsV⟩
end
end Go.AM

namespace Go.AM
open Go Go.RowKit Go.ChangeShapes

def FRel (C : Cfg) (ρ : Mp) (H : Heap) (w : World) : Prop :=
  (∀ b r, ρ b = some r → b < H.length) ∧ ∀ b r k, ρ b = some r → H[b]? = some k → BRel C ρ False w.heap.size w r k
theorem FRel.nil (C : Cfg) (w : World) : FRel C (fun _ => none) [] w := ⟨fun _ _ h => (nomatch h), fun _ _ _ h => (nomatch h)⟩
theorem CellsRel.le {ρ ρ' : Mp} (h : Mp.le ρ ρ') {w : World} {a : Addr} {vs : List AV} (hc : CellsRel ρ w a vs) : CellsRel ρ' w a vs := fun i v e => by
  obtain ⟨x, h1, h2, h3⟩ := hc i v e
  exact ⟨x, h1, h2.mono h _ _, h3⟩
theorem BRel.far {C : Cfg} {ρ ρ' : Mp} (h : Mp.le ρ ρ') {B0 : Nat} {w : World} {r : PB} {k : Blk} (hb : BRel C ρ False B0 w r k) : BRel C ρ' False B0 w r k := by
  cases k with
  | cells vs => exact ⟨hb.1.le h, fun q => q.elim, hb.2.2⟩
  | dead => trivial
  | loop st pend nt fr ps asg body => exact fun q => q.elim
  | map n es => exact fun q => q.elim
theorem FRel.push {C : Cfg} {ρ : Mp} {H : Heap} {w : World} (h : FRel C ρ H w) {a : Addr} {vs : List AV} (hc : CellsRel ρ w a vs) (hb : vs ≠ [] → a.block < w.heap.size) :
    FRel C (ρ.add H.length ⟨a, none⟩) (H ++ [.cells vs]) w ∧ Mp.le ρ (ρ.add H.length ⟨a, none⟩) := by
  have hn : ρ H.length = none := by
    cases e : ρ H.length with
    | none => rfl
    | some r => exact absurd (h.1 _ _ e) (Nat.lt_irrefl _)
  have hle := Mp.le_add ρ ⟨a, none⟩ hn
  refine ⟨⟨fun b r e => ?_, fun b r k e hk => ?_⟩, hle⟩
  · by_cases hbb : b = H.length
    · subst hbb; simp
    · rw [Mp.add_ne _ _ hbb] at e; have := h.1 b r e; simp; omega
  · by_cases hbb : b = H.length
    · subst hbb
      rw [Mp.add_same] at e
      cases e
      rw [List.getElem?_append_right (Nat.le_refl _), Nat.sub_self] at hk
      cases hk
      exact ⟨hc.le hle, fun q => q.elim, fun _ => hb⟩
    · rw [Mp.add_ne _ _ hbb] at e
      rw [List.getElem?_append_left (h.1 b r e)] at hk
      exact (h.2 b r k e hk).far hle

section
variable {H0 : Type} {enc : TypeId × Value → H0} {P : Program} {C : Cfg}
/-- what a type's cells, read, are to the abstract machine -/
def Opn (C : Cfg) (enc : TypeId × Value → H0) (P : Program) (t : TypeId) (α : Type) [Rep α] : Prop :=
  ∀ (fuel : Nat) (cs : List Value) (y : DataW H0 × List MemPlace) (w : World) (ρ : Mp) (H : Heap), DataW.trod enc P w 0 (fun _ => true) true fuel t cs = some y → FRel C ρ H w →
    ∃ (N : Heap) (ρ' : Mp) (vs : List AV) (x : α), FRel C ρ' (H ++ N) w ∧ Mp.le ρ ρ' ∧ VRelL ρ' vs cs ∧ Rep.rep (fun _ => True) (H ++ N) vs x
theorem opn_int {t : TypeId} (ht : P.underlying t = some (.int .i64)) : Opn C enc P t Int := by
  intro fuel cs y w ρ H h hF
  obtain ⟨n, rfl, _⟩ := DataW.trod_int ht h
  exact ⟨[], ρ, [.i n], n, by simpa using hF, Mp.le_refl ρ, by simp [VRelL, VRel], rfl⟩
theorem opn_sliceL {t e : TypeId} {α : Type} [Rep α] (ht : P.underlying t = some (.slice e)) (hs : P.cellsOf e = Rep.sz α) (he : Opn C enc P e α)
    (fuel : Nat) (cs : List Value) (y : DataW H0 × List MemPlace) (w : World) (ρ : Mp) (H : Heap) (h : DataW.trod enc P w 0 (fun _ => true) true fuel t cs = some y) (hF : FRel C ρ H w) :
    ∃ (N : Heap) (ρ' : Mp) (vs : List AV) (x : List α), FRel C ρ' (H ++ N) w ∧ Mp.le ρ ρ' ∧ VRelL ρ' vs cs ∧ Rep.rep (fun _ => True) (H ++ N) vs x ∧ ((y.1 = .nil ∧ x = []) ∨ ∃ es sp, y.1 = .slice es sp ∧ x.length = es.length) := by
  rcases Go.Deep.open_slice ht h with ⟨rfl, hy⟩ | ⟨a, len, cap, m, n, D, Pl, rfl, _, hlc, hcm, hm, hy, hx⟩
  · exact ⟨[], ρ, [.nils], [], by simpa using hF, Mp.le_refl ρ, by simp [VRelL, VRel], ⟨.nils, rfl, Sl.nil⟩, .inl ⟨by rw [hy], rfl⟩⟩
  · simp only [if_true] at hm
    subst hm
    have key : ∀ j, j ≤ len → ∃ (N : Heap) (ρ' : Mp) (flat : List AV) (xs : List α), FRel C ρ' (H ++ N) w ∧ Mp.le ρ ρ' ∧ flat.length = j * Rep.sz α ∧ xs.length = j ∧ CellsRel ρ' w a flat ∧
        ∀ (i : Nat) (hi : i < xs.length), Rep.rep (fun _ => True) (H ++ N) ((flat.drop (i * Rep.sz α)).take (Rep.sz α)) xs[i] := by
      intro j
      induction j with
      | zero => intro _; exact ⟨[], ρ, [], [], by simpa using hF, Mp.le_refl ρ, by simp, rfl, fun i v e => by simp at e, fun i hi => by simp at hi⟩
      | succ j ih =>
        intro hj
        obtain ⟨N, ρ1, flat, xs, q1, q2, q3, q4, q5, q6⟩ := ih (by omega)
        obtain ⟨cs', c1, c2⟩ := hx j (by omega)
        obtain ⟨N2, ρ2, vs, x, r1, r2, r3, r4⟩ := he n cs' _ w ρ1 (H ++ N) c2 q1
        obtain ⟨_, c3, c4⟩ := World.cells?_some c1
        rw [List.append_assoc] at r1 r4
        have hvl := Rep.len r4
        refine ⟨N ++ N2, ρ2, flat ++ vs, xs ++ [x], r1, Mp.le_trans q2 r2, by rw [List.length_append, q3, hvl, Nat.succ_mul], by simp [q4], ?_, ?_⟩
        · intro i v ev
          by_cases hi : i < flat.length
          · rw [List.getElem?_append_left hi] at ev
            obtain ⟨z, z1, z2, z3⟩ := q5 i v ev
            exact ⟨z, z1, z2.mono r2 _ _, z3⟩
          · rw [List.getElem?_append_right (by omega)] at ev
            obtain ⟨z, z1, z2⟩ := r3.get ev
            have hlt := (List.getElem?_eq_some_iff.1 z1).1
            have := c4 (i - flat.length) (by omega)
            rw [Go.Deep.add_add, hs, ← q3, Nat.add_sub_cancel' (by omega)] at this
            exact ⟨z, by rw [this]; exact z1, z2, z2.one (List.all_eq_true.1 (Rep.one r4) _ (List.mem_of_getElem? ev))⟩
        · intro i hi
          by_cases hij : i < xs.length
          · rw [List.getElem_append_left hij]
            have hle : i * Rep.sz α + Rep.sz α ≤ flat.length := by
              rw [q3, ← Nat.succ_mul]; exact Nat.mul_le_mul_right _ (by omega)
            rw [List.drop_append_of_le_length (by omega), List.take_append_of_le_length (by rw [List.length_drop]; omega), ← List.append_assoc]
            exact Rep.mono (q6 i hij) (Kp.app _ _ _) fun _ h => h
          · have : i = j := by simp [q4] at hi hij; omega
            subst this
            have e1 : (xs ++ [x])[i]'hi = x := by simp [List.getElem_append_right, q4]
            rw [e1, ← q3, List.drop_append_of_le_length (Nat.le_refl _), List.drop_length, List.nil_append, ← hvl, List.take_length]
            exact r4
    obtain ⟨N, ρ1, flat, xs, q1, q2, q3, q4, q5, q6⟩ := key len (Nat.le_refl _)
    have hb : flat ≠ [] → a.block < w.heap.size := by
      intro hne
      obtain ⟨v, hv⟩ : ∃ v, flat[0]? = some v := by cases flat with | nil => exact absurd rfl hne | cons v r => exact ⟨v, rfl⟩
      obtain ⟨x, hx', _⟩ := q5 0 v hv
      have : a.add 0 = a := by simp [Addr.add]
      rw [this] at hx'
      unfold World.cell? at hx'
      cases e : w.heap[a.block]? with
      | none => simp [e] at hx'
      | some o => exact (Array.getElem?_eq_some_iff.1 e).1
    obtain ⟨p1, p2⟩ := q1.push q5 hb
    rw [List.append_assoc] at p1
    refine ⟨N ++ [.cells flat], _, [.s (Rep.sz α) (H ++ N).length 0 len none], xs, p1, Mp.le_trans q2 p2, ?_, ⟨_, rfl, .inr ⟨(H ++ N).length, 0, none, flat, by rw [q4], trivial, ?_, ?_, ?_, fun i hi => ?_⟩⟩, .inr ⟨_, _, by rw [hy], by simp [q4]⟩⟩
    · simp only [VRelL, VRel]
      exact ⟨_, _, rfl, ⟨⟨a, none⟩, 0, m, Mp.add_same _ _ _, by simp [Addr.add], ⟨hlc, by unfold maxLen at hcm; omega⟩, by simp, by simp, by simp⟩, rfl⟩
    · rw [← List.append_assoc, List.getElem?_append_right (Nat.le_refl _), Nat.sub_self]; rfl
    · rw [q4, q3]; omega
    · rw [q4]; unfold maxLen at hcm; omega
    · rw [Nat.zero_add, ← List.append_assoc]
      exact Rep.mono (q6 i hi) (Kp.app _ _ _) fun _ h => h
theorem opn_slice {t e : TypeId} {α : Type} [Rep α] (ht : P.underlying t = some (.slice e)) (hs : P.cellsOf e = Rep.sz α) (he : Opn C enc P e α) : Opn C enc P t (List α) := by
  intro fuel cs y w ρ H h hF
  obtain ⟨N, ρ', vs, x, q1, q2, q3, q4, _⟩ := opn_sliceL ht hs he fuel cs y w ρ H h hF
  exact ⟨N, ρ', vs, x, q1, q2, q3, q4⟩
theorem opn_struct2 {t : TypeId} {f0 f1 : Field} {α β : Type} [Rep α] [Rep β] (ht : P.underlying t = some (.struct #[f0, f1])) (h0 : f0.offset = 0) (h1 : f1.offset = P.cellsOf f0.type) (hc : P.cellsOf t = P.cellsOf f0.type + P.cellsOf f1.type)
    (ha : Opn C enc P f0.type α) (hb : Opn C enc P f1.type β) : Opn C enc P t (α × β) := by
  intro fuel cs y w ρ H h hF
  obtain ⟨y0, y1, n, _, hl, e0, e1⟩ := trod_struct2 ht h
  rw [h0, List.drop_zero] at e0
  rw [h1, List.take_of_length_le (by rw [List.length_drop]; omega)] at e1
  obtain ⟨N, ρ1, vs, x, q1, q2, q3, q4⟩ := ha n _ _ w ρ H e0 hF
  obtain ⟨N2, ρ2, us, z, r1, r2, r3, r4⟩ := hb n _ _ w ρ1 (H ++ N) e1 q1
  refine ⟨N ++ N2, ρ2, vs ++ us, (x, z), by rw [← List.append_assoc]; exact r1, Mp.le_trans q2 r2, ?_, vs, us, rfl, ?_, ?_⟩
  · rw [← List.take_append_drop (P.cellsOf f0.type) cs]
    exact (VRelL.mono r2 _ _ q3).append r3
  · rw [← List.append_assoc]; exact Rep.mono q4 (Kp.app _ _ _) fun _ h => h
  · rw [← List.append_assoc]; exact r4

/-- the heap of the arguments alone: all of it older than the call -/
theorem FRel.hrel {ρ : Mp} {H : Heap} {w : World} (h : FRel C ρ H w) : HRel C (fun _ => True) ρ H.length w H w where
  below := Below.refl _ _
  inv := trivial
  lt := Nat.le_refl _
  dom := h.1
  own b r e hb := absurd (h.1 b r e) (by omega)
  apart b b' r r' k k' e _ hb := absurd (h.1 b r e) (by omega)
  blk b r k e hk := by
    have hb : ¬ H.length ≤ b := by have := h.1 b r e; omega
    have := h.2 b r k e hk
    cases k with
    | cells vs => exact ⟨this.1, fun q => absurd q hb, fun _ => this.2.2 (fun q => q)⟩
    | dead => trivial
    | loop st pend nt fr ps asg body => exact fun q => absurd q hb
    | map n es => exact fun q => absurd q hb
/-- **from the abstract machine to the row's walk** -/
theorem walk_law {E : Tab} (hE : EOk C (fun _ => True) E) {f : Nat} {vs : List AV} {H : Heap} (hx : WpF E H.length f vs H fun v _ => v = .b true) {ρ : Mp} {w : World} (hF : FRel C ρ H w) {args : Array Value} (ha : VRelL ρ vs args.toList) :
    Calls C.P f args w fun e W' => e = .returned (.bool true) ∧ Below w.heap.size w W' := by
  obtain ⟨n, v, H', h1, rfl⟩ := hx
  refine (calls_of hE rfl h1 hF.hrel ha (Nat.le_refl _)).mono fun e W' h => ?_
  obtain ⟨ρ', x, rfl, h2, h3, _⟩ := h
  rw [h2.bool]
  exact ⟨rfl, h3.below⟩
end
end Go.AM

namespace Go.AM
open Go

/-! ### Results -/
def packV : Option (List AV) → Option AV
  | some [v] => some v
  | some vs => some (.tp vs)
  | none => none
theorem zx106 {rs : List RVar} {a : Fr} {H : Heap} : resA rs a H = packV (resVars a H rs) := by
  unfold resA packV; rfl
theorem zx107 : packV (some []) = some (.tp []) := (rfl)
theorem zx108 {v : AV} : packV (some [v]) = some v := (rfl)
theorem zx109 {v u : AV} {vs : List AV} : packV (some (v :: u :: vs)) = some (.tp (v :: u :: vs)) := (rfl)
theorem zx110 {a : Fr} {H : Heap} : resVars a H [] = some [] := (rfl)
theorem zx111 {a : Fr} {H : Heap} {t : Nat} {rs : List RVar} : resVars a H (.t t :: rs) = (resVars a H rs).map (a t :: ·) := (rfl)
theorem zx112 {a : Fr} {H : Heap} {t : Nat} {k : Option Nat} {rs : List RVar} : resVars a H (.c t k :: rs) = (ldA H k (a t)).bind fun v => (resVars a H rs).map (v :: ·) := by
  simp only [resVars, resVar, ldA]
  cases a t <;> first | rfl | (cases k <;> rfl)

/-! ### Loads and stores at the heap's end -/
section
variable {A B H : Heap} {b o n : Nat} {cs vs : List AV}
theorem ldA_p {k : Option Nat} : ldA H k (.p b o) = match k with | none => ld H b o | some n => (ldn H b o n).map .ag := by cases k <;> rfl
theorem zx113 : ldA H none (.p b o) = ld H b o := (rfl)
theorem zx114 : ldA H (some n) (.p b o) = (ldn H b o n).map .ag := (rfl)
theorem zx115 (h : b < A.length) : ld (A ++ B) b o = ld A b o := by simp only [ld, List.getElem?_append_left h]
theorem zx116 (h : A.length ≤ b) : ld (A ++ B) b o = ld B (b - A.length) o := by simp only [ld, List.getElem?_append_right h]
theorem zx117 : ld (.cells cs :: B) 0 o = cs[o]? := (rfl)
theorem zx118 {x : Blk} : ld (x :: B) (n + 1) o = ld B n o := (rfl)
theorem zx119 (h : b < A.length) : ldn (A ++ B) b o n = ldn A b o n := by simp only [ldn, List.getElem?_append_left h]
theorem zx120 (h : A.length ≤ b) : ldn (A ++ B) b o n = ldn B (b - A.length) o n := by simp only [ldn, List.getElem?_append_right h]
theorem zx121 : ldn (.cells cs :: B) 0 o n = if o + n ≤ cs.length then some ((cs.drop o).take n) else none := (rfl)
theorem zx122 {m : Nat} {x : Blk} : ldn (x :: B) (m + 1) o n = ldn B m o n := (rfl)
theorem ld_of (h : H[b]? = some (.cells cs)) : ld H b o = cs[o]? := by simp only [ld, h]
theorem ldn_of (h : H[b]? = some (.cells cs)) : ldn H b o n = if o + n ≤ cs.length then some ((cs.drop o).take n) else none := by simp only [ldn, h]
theorem zx123 {lo : Nat} {x : AV} : stA lo H n (.p b o) x = if x.cells.length = n ∧ x.cells.all AV.one then st lo H b o x.cells else none := (rfl)
theorem zx124 {lo : Nat} (h : b < A.length) : st lo (A ++ B) b o vs = (st lo A b o vs).map (· ++ B) := by
  simp only [st, List.getElem?_append_left h]
  split
  · cases hA : A[b]? with
    | none => rfl
    | some k =>
      cases k with
      | cells cs =>
        simp only []
        split
        · simp [List.set_append_left _ _ h]
        · rfl
      | dead => rfl
      | loop _ _ _ _ _ _ _ => rfl
      | map _ _ => rfl
  · rfl
theorem zx125 {lo : Nat} (h : A.length ≤ b) (hl : lo ≤ b) : st lo (A ++ B) b o vs = (st 0 B (b - A.length) o vs).map (A ++ ·) := by
  simp only [st, List.getElem?_append_right h, if_pos hl, if_pos (Nat.zero_le _)]
  cases hB : B[b - A.length]? with
  | none => rfl
  | some k =>
    cases k with
    | cells cs =>
      simp only []
      split
      · simp [List.set_append_right _ _ h]
      · rfl
    | dead => rfl
    | loop _ _ _ _ _ _ _ => rfl
    | map _ _ => rfl
theorem zx126 : st 0 (.cells cs :: B) 0 o vs = if o + vs.length ≤ cs.length then some (.cells (wr cs o vs) :: B) else none := by simp [st]
theorem zx127 {x : Blk} {lo : Nat} : st 0 (x :: B) (n + 1) o vs = (st 0 B n o vs).map (x :: ·) := by
  simp only [st, Nat.zero_le, if_true, List.getElem?_cons_succ]
  cases hB : B[n]? with
  | none => rfl
  | some k =>
    cases k with
    | cells cs => simp only []; split <;> rfl
    | dead => rfl
    | loop _ _ _ _ _ _ _ => rfl
    | map _ _ => rfl
theorem zx128 : wr cs o [] = cs := (rfl)
theorem zx129 {v : AV} : wr cs o (v :: vs) = wr (cs.set o v) (o + 1) vs := (rfl)
end
theorem st_of {lo b o : Nat} {H : Heap} {cs vs : List AV} (h : H[b]? = some (.cells cs)) (hl : lo ≤ b) (ho : o + vs.length ≤ cs.length) : st lo H b o vs = some (H.set b (.cells (wr cs o vs))) := by
  simp only [st, if_pos hl, h, if_pos ho]
theorem get_set {b : Nat} {H : Heap} {k k' : Blk} (h : H[b]? = some k') : (H.set b k)[b]? = some k := by
  rw [List.getElem?_set_self (List.getElem?_eq_some_iff.1 h).1]
theorem Kp.set (b : Nat) (H : Heap) (k : Blk) : Kp (fun b' => b' ≠ b) H (H.set b k) := ⟨by simp, fun b' k' hne hk => by rw [List.getElem?_set_ne (Ne.symm hne)]; exact hk⟩
theorem Kp.get {p : Nat → Prop} {b : Nat} {H H' : Heap} {cs : List AV} (h : Kp p H H') (hb : p b) (hk : H[b]? = some (.cells cs)) : H'[b]? = some (.cells cs) := h.2 b cs hb hk
theorem get_last {H : Heap} {k : Blk} : (H ++ [k])[H.length]? = some k := by simp
theorem zx130 {k : IntKind} {n : Int} : (AV.int k n).cells = [.int k n] := (rfl)
theorem zx131 {x : Bool} : (AV.b x).cells = [.b x] := (rfl)
theorem zx132 : AV.nils.cells = [.nils] := (rfl)
theorem zx133 {vs : List AV} : (AV.ag vs).cells = vs := (rfl)
theorem zx134 {b o : Nat} : (AV.p b o).cells = [.p b o] := (rfl)
theorem zx135 {e b o n : Nat} {c : Option Nat} : (AV.s e b o n c).cells = [.s e b o n c] := (rfl)
theorem zx136 {f : Nat} {us vs : List AV} : (AV.fn f us vs).cells = [.fn f us vs] := (rfl)
theorem zx137 {l : Nat} : (AV.yl l).cells = [.yl l] := (rfl)
theorem zx140 {k : IntKind} {n : Int} : (AV.int k n).one = true := (rfl)
theorem zx141 {x : Bool} : (AV.b x).one = true := (rfl)
theorem zx142 : AV.nils.one = true := (rfl)
theorem zx143 {b o : Nat} : (AV.p b o).one = true := (rfl)
theorem zx144 {e b o n : Nat} {c : Option Nat} : (AV.s e b o n c).one = true := (rfl)
theorem zx145 {f : Nat} {us vs : List AV} : (AV.fn f us vs).one = true := (rfl)
theorem zx146 {l : Nat} : (AV.yl l).one = true := (rfl)
theorem zx147 : AV.nilf.one = true := (rfl)
theorem zx148 : AV.nilp.one = true := (rfl)
theorem zx138 : AV.nilf.cells = [.nilf] := (rfl)
theorem zx139 : AV.nilp.cells = [.nilp] := (rfl)
theorem zx149 {x : AV} : boxV x = if x.cells.all AV.one = true then some x.cells else none := (rfl)
theorem zx152 {cs : List AV} : fillA cs [] = some cs := (rfl)
theorem zx153 {cs : List AV} {off size : Nat} {v : AV} {r : List (Nat × Nat × AV)} : fillA cs ((off, size, v) :: r) = if v.cells.length = size ∧ off + size ≤ cs.length ∧ v.cells.all AV.one = true then fillA (wr cs off v.cells) r else none := (rfl)
theorem zx154 {z : List AV} : reps 0 z = [] := (rfl)
theorem reps_s {n : Nat} {z : List AV} : reps (n + 1) z = z ++ reps n z := (rfl)
theorem zx155 {z : List AV} : reps 1 z = z := by simp [reps]
theorem zx156 {z : List AV} : reps 2 z = z ++ z := by simp [reps]
theorem zx157 {z : List AV} : reps 3 z = z ++ (z ++ z) := by simp [reps]
theorem zx158 {z : List AV} : reps 4 z = z ++ (z ++ (z ++ z)) := by simp [reps]
/-! ### A slice that grows -/
def AV.blk : AV → Option Nat
  | .s _ q _ _ _ => some q
  | _ => none
/-- a slice of the call's own: its block is from L on; its elements lie in other blocks, of which p holds -/
def Acc {α : Type} [Rep α] (L : Nat) (p : Nat → Prop) (H : Heap) (v : AV) (xs : List α) : Prop :=
  (v = .nils ∧ xs = []) ∨ ∃ b o c k, v = .s (Rep.sz α) b o xs.length c ∧ L ≤ b ∧ H[b]? = some (.cells k) ∧ o + xs.length * Rep.sz α ≤ k.length ∧ xs.length ≤ 9223372036854775807 ∧
    ∀ (i : Nat) (h : i < xs.length), Rep.rep (fun b' => p b' ∧ b' ≠ b) H ((k.drop (o + i * Rep.sz α)).take (Rep.sz α)) xs[i]
section
variable {α : Type} [Rep α] {L : Nat} {p q : Nat → Prop} {H H' : Heap} {v : AV} {xs : List α}
theorem Acc.nil : Acc L p H .nils ([] : List α) := .inl ⟨rfl, rfl⟩
theorem Acc.mono (h : Acc L p H v xs) (hk : Kp (fun b => L ≤ b ∨ p b) H H') (hq : ∀ b, p b → q b) : Acc L q H' v xs := by
  rcases h with h | ⟨b, o, c, k, e, hb, hk1, h1, h2, h3⟩
  · exact .inl h
  · exact .inr ⟨b, o, c, k, e, hb, hk.2 b k (.inl hb) hk1, h1, h2, fun i hi => Rep.mono (h3 i hi) (hk.weak fun b h => .inr h.1) fun b h => ⟨hq b h.1, h.2⟩⟩
theorem Acc.app (h : Acc L p H v xs) (N : Heap) : Acc L p (H ++ N) v xs := h.mono (Kp.app _ _ _) fun _ h => h
theorem Acc.blk_lt (h : Acc L p H v xs) {b : Nat} (e : v.blk = some b) : L ≤ b ∧ b < H.length := by
  rcases h with ⟨rfl, _⟩ | ⟨b', o, c, k, rfl, hb, hk, _⟩
  · cases e
  · cases e; exact ⟨hb, (List.getElem?_eq_some_iff.1 hk).1⟩
theorem Acc.sl (h : Acc L p H v xs) : Sl (fun b => p b ∨ L ≤ b) H v xs := by
  rcases h with h | ⟨b, o, c, k, e, hb, hk1, h1, h2, h3⟩
  · exact .inl h
  · exact .inr ⟨b, o, c, k, e, .inr hb, hk1, h1, h2, fun i hi => Rep.mono (h3 i hi) (Kp.refl _ _) fun _ h => .inl h.1⟩
theorem Acc.cellsV (h : Acc L p H v xs) : v.cells = [v] ∧ v.one = true := h.sl.cellsV
/-- one element more: 'cs' its cells; behind it all blocks but the slice's old one are kept -/
theorem Acc.push1 {lo bytes : Nat} {cs : List AV} {x : α} {Q : AV × Heap → Prop} (h : Acc L p H v xs) (hlo : lo ≤ L) (hL : L ≤ H.length) (hx : Rep.rep q H cs x) (hq : ∀ b, q b → p b ∧ v.blk ≠ some b)
    (hb : (xs.length + 1) * bytes ≤ 1099511627776) (hb0 : 0 < bytes)
    (go : ∀ v' H', Acc L p H' v' (xs ++ [x]) → Kp (fun b => v.blk ≠ some b) H H' → H.length < H'.length → v'.blk = some (H'.length - 1) → Q (v', H')) :
    @optP _ (appendV lo (Rep.sz α) bytes v (.s (Rep.sz α) H.length 0 1 (some 1)) (H ++ [.cells cs])) ⟨Q⟩ := by
  have hlen : cs.length = Rep.sz α := Rep.len hx
  have hc : cellsOf (Rep.sz α) 1 (.s (Rep.sz α) H.length 0 1 (some 1)) (H ++ [.cells cs]) = some cs := by
    simp [cellsOf, ldn, hlen]
    rw [← hlen]; exact List.take_length
  have hxl : xs.length ≤ 9223372036854775806 := by
    have : xs.length + 1 ≤ (xs.length + 1) * bytes := Nat.le_mul_of_pos_right _ hb0
    omega
  have hmb : mostBytes = 1099511627776 := by decide
  simp only [appendV, Go.AM.lenA, hc, optP]
  rcases h with ⟨rfl, rfl⟩ | ⟨b, o, c, k, rfl, hbl, hk, h1, h2, h3⟩
  · simp only [appendA]
    rw [if_neg (by omega), if_pos (by rw [hmb]; simpa using hb)]
    refine ⟨_, rfl, ?_⟩
    refine go _ _ (.inr ⟨_, 0, none, cs, rfl, by simp; omega, ?_, by simp [hlen], by simp, ?_⟩) ?_ (by simp) (by simp [AV.blk])
    · rw [List.getElem?_append_right (Nat.le_refl _), Nat.sub_self]; rfl
    · intro i hi
      simp at hi
      subst hi
      simp only [Nat.zero_mul, Nat.add_zero, List.drop_zero]
      rw [← hlen, List.take_length]
      have h4 := Rep.low hx
      refine Rep.mono h4 (((Kp.app _ _ _).app' _).weak fun _ h => h) fun b hb => ⟨(hq b hb.1).1, ?_⟩
      have := hb.2; simp; omega
    · exact (Kp.app _ _ _).app' _
  · have hbH : b < H.length := (List.getElem?_eq_some_iff.1 hk).1
    simp only [appendA, ne_eq, not_true_eq_false, if_false, Nat.succ_ne_zero]
    rw [List.getElem?_append_left hbH, hk]
    simp only []
    rw [if_pos ⟨h1, by rw [hmb]; exact hb⟩]
    have hkt : ((k.drop o).take (xs.length * Rep.sz α)).length = xs.length * Rep.sz α := by rw [List.length_take, List.length_drop]; omega
    have fin : ∀ H2 : Heap, H2.length = H.length + 1 → Kp (fun b' => b' ≠ b) H H2 → Q (.s (Rep.sz α) H2.length 0 (xs.length + 1) none, H2 ++ [.cells ((k.drop o).take (xs.length * Rep.sz α) ++ cs)]) := by
      intro H2 hl2 hkp
      refine go _ _ (.inr ⟨H2.length, 0, none, (k.drop o).take (xs.length * Rep.sz α) ++ cs, by simp, by omega, ?_, ?_, by simp; omega, ?_⟩) ?_ (by simp; omega) (by simp [AV.blk])
      · rw [List.getElem?_append_right (Nat.le_refl _), Nat.sub_self]; rfl
      · simp [hkt, hlen, Nat.succ_mul]
      · intro i hi
        rw [Nat.zero_add]
        by_cases hi' : i < xs.length
        · rw [List.getElem_append_left hi']
          have hle : i * Rep.sz α + Rep.sz α ≤ xs.length * Rep.sz α := by rw [← Nat.succ_mul]; exact Nat.mul_le_mul_right _ (by omega)
          have e1 : (((k.drop o).take (xs.length * Rep.sz α) ++ cs).drop (i * Rep.sz α)).take (Rep.sz α) = (k.drop (o + i * Rep.sz α)).take (Rep.sz α) := by
            rw [List.drop_append_of_le_length (by omega), List.take_append_of_le_length (by rw [List.length_drop]; omega), List.drop_take, List.drop_drop, List.take_take]
            congr 1
            omega
          rw [e1]
          refine Rep.mono (Rep.low (h3 i hi')) (((hkp.trans (Kp.app (fun _ => True) _ _) fun _ _ => trivial)).weak fun b' h => h.1.2) fun b' h => ⟨h.1.1, ?_⟩
          have := h.2; omega
        · have : i = xs.length := by simp at hi; omega
          subst this
          have e1 : (xs ++ [x])[xs.length]'hi = x := by simp
          rw [e1, List.drop_append_of_le_length (by omega)]
          have e2 : ((k.drop o).take (xs.length * Rep.sz α)).drop (xs.length * Rep.sz α) = [] := by rw [List.drop_eq_nil_iff]; omega
          rw [e2, List.nil_append, ← hlen, List.take_length]
          refine Rep.mono (Rep.low hx) (((hkp.trans (Kp.app (fun _ => True) _ _) fun _ _ => trivial)).weak fun b' h => fun e => (hq b' h.1).2 (by simp [AV.blk, e])) fun b' h => ⟨(hq b' h.1).1, ?_⟩
          have := h.2; omega
      · exact (hkp.trans (Kp.app (fun _ => True) _ _) fun _ _ => trivial).weak fun b' h e => h (by simp [AV.blk, e])
    by_cases hcap : c = some xs.length
    · rw [if_pos hcap]
      refine ⟨_, rfl, ?_⟩
      exact fin _ (by simp) ((Kp.app _ _ _).weak fun _ h => h)
    · rw [if_neg hcap, if_pos (by omega)]
      refine ⟨_, rfl, ?_⟩
      have := fin ((H ++ [Blk.cells cs]).set b Blk.dead) (by simp) ⟨by simp, fun b' k' hne hk' => by
        rw [List.getElem?_set_ne (Ne.symm hne)]
        rw [List.getElem?_append_left (List.getElem?_eq_some_iff.1 hk').1]; exact hk'⟩
      simpa using this
end

section
variable {p q : Nat → Prop} {L lo : Nat} {H H' H0 : Heap} {v : AV}
theorem Acc.pushI {n : Nat} {xs : List Int} {x : Int} {Q : AV × Heap → Prop} (h : Acc L p H v xs) (hlo : lo ≤ L) (hL : L ≤ H.length) (hb : (xs.length + 1) * 8 ≤ 1099511627776)
    (go : ∀ v' H', Acc L p H' v' (xs ++ [x]) → Kp (fun b => v.blk ≠ some b) H H' → H.length < H'.length → v'.blk = some (H'.length - 1) → Q (v', H')) (hn : n = H.length := by first | rfl | simp) :
    @optP _ (appendV lo 1 8 v (.s 1 n 0 1 (some 1)) (H ++ [.cells [.i x]])) ⟨Q⟩ := by
  subst hn
  exact Acc.push1 (q := fun _ => False) (cs := [.i x]) h hlo hL rfl (fun _ h => h.elim) hb (by omega) go
theorem Acc.pushL {n : Nat} {β : Type} [Rep β] {xs : List (List β)} {x : List β} {y : AV} {Q : AV × Heap → Prop} (h : Acc L p H v xs) (hlo : lo ≤ L) (hL : L ≤ H.length) (hy : Sl q H y x) (hq : ∀ b, q b → p b ∧ v.blk ≠ some b) (hb : (xs.length + 1) * 24 ≤ 1099511627776)
    (go : ∀ v' H', Acc L p H' v' (xs ++ [x]) → Kp (fun b => v.blk ≠ some b) H H' → H.length < H'.length → v'.blk = some (H'.length - 1) → Q (v', H')) (hn : n = H.length := by first | rfl | simp) :
    @optP _ (appendV lo 1 24 v (.s 1 n 0 1 (some 1)) (H ++ [.cells [y]])) ⟨Q⟩ := by
  subst hn
  exact Acc.push1 (q := q) (cs := [y]) h hlo hL ⟨y, rfl, hy⟩ hq hb (by omega) go
theorem Acc.push2 {n : Nat} {xs : List (Int × Int)} {x y : Int} {Q : AV × Heap → Prop} (h : Acc L p H v xs) (hlo : lo ≤ L) (hL : L ≤ H.length) (hb : (xs.length + 1) * 16 ≤ 1099511627776)
    (go : ∀ v' H', Acc L p H' v' (xs ++ [(x, y)]) → Kp (fun b => v.blk ≠ some b) H H' → H.length < H'.length → v'.blk = some (H'.length - 1) → Q (v', H')) (hn : n = H.length := by first | rfl | simp) :
    @optP _ (appendV lo 2 16 v (.s 2 n 0 1 (some 1)) (H ++ [.cells [.i x, .i y]])) ⟨Q⟩ := by
  subst hn
  exact Acc.push1 (q := fun _ => False) (cs := [.i x, .i y]) (x := (x, y)) h hlo hL ⟨[.i x], [.i y], rfl, rfl, rfl⟩ (fun _ h => h.elim) hb (by omega) go
/-- all the blocks that were there stay -/
abbrev Gr (H H' : Heap) : Prop := Kp (fun b => b < H.length) H H'
theorem Gr.refl (H : Heap) : Gr H H := Kp.refl _ _
theorem Gr.all (h : Gr H H') : Kp (fun _ => True) H H' := ⟨h.1, fun b k _ hk => h.2 b k (List.getElem?_eq_some_iff.1 hk).1 hk⟩
theorem Gr.of (h : Kp p H H') (hp : ∀ b, b < H.length → p b) : Gr H H' := h.weak hp
theorem Gr.trans {H2 : Heap} (h : Gr H H') (h' : Gr H' H2) : Gr H H2 := Kp.trans h h' fun b hb => Nat.lt_of_lt_of_le hb h.1
theorem Gr.trans' {H2 : Heap} (h : Gr H H') (h' : Kp p H' H2) (hp : ∀ b, b < H.length → p b) : Gr H H2 := Kp.trans h h' hp
theorem Gr.app (h : Gr H H') (N : Heap) : Gr H (H' ++ N) := Kp.app' h N
theorem Gr.push {α : Type} [Rep α] {xs : List α} (h : Gr H0 H) (ha : Acc L p H v xs) (hL : H0.length ≤ L) (hk : Kp (fun b => v.blk ≠ some b) H H') : Gr H0 H' :=
  Kp.trans h hk fun b hb e => by have := (ha.blk_lt e).1; omega
theorem Gr.set (h : Gr H0 H) {b : Nat} (hb : H0.length ≤ b) (k : Blk) : Gr H0 (H.set b k) :=
  Kp.trans h (Kp.set b H k) fun b' hb' e => by omega
theorem Gr.get (h : Gr H H') {b : Nat} {cs : List AV} (hk : H[b]? = some (.cells cs)) : H'[b]? = some (.cells cs) := h.all.2 b cs trivial hk
theorem Sl.gr {α : Type} [Rep α] {xs : List α} (h : Sl p H v xs) (hg : Gr H H') : Sl p H' v xs := h.mono hg.all.weakT fun _ h => h
theorem Acc.gr {α : Type} [Rep α] {xs : List α} (h : Acc L p H v xs) (hg : Gr H H') : Acc L p H' v xs := h.mono hg.all.weakT fun _ h => h
end

/-! ### Regions that draw their order, with loads to be looked at -/
section
variable {E : Tab} {lo : Nat} {rd : Option Nat} {k : List AI} {a : Fr} {H : Heap}
def chkP (ck : List (Nat × Nat)) (l : List AOper) (tr : List (Fr × Heap)) [p : St] : Prop := ck.all (chk1 l tr) = true ∧ p.p
theorem chkI {ck : List (Nat × Nat)} {l : List AOper} {tr : List (Fr × Heap)} {p : Prop} (h : ck.all (chk1 l tr) = true) (hp : p) : @chkP ck l tr ⟨p⟩ := ⟨h, hp⟩
theorem zx163 {c : Nat × Nat} {cs : List (Nat × Nat)} {l : List AOper} {Q : Out → Fr → Heap → Prop} : Wp E lo rd (.code (.reg (some (c :: cs)) l) :: k) a H Q = @lpP ⟨Wp E lo rd (.code (.reg (some (c :: cs)) l) :: k) a H Q⟩ := (rfl)
class TrC where
  tr : List (Fr × Heap)
def WpT (E : Tab) (lo : Nat) (l : List AOper) (a : Fr) (H : Heap) [tr : TrC] (Q : List (Fr × Heap) → Fr → Heap → Prop) : Prop := WpTr E lo l a H tr.tr Q
theorem wpC {ck : List (Nat × Nat)} {l : List AOper} {Q : Out → Fr → Heap → Prop} (h : @WpT E lo l a H ⟨[]⟩ fun tr a' H' => @chkP ck l tr ⟨Wp E lo rd k a' H' Q⟩) : Wp E lo rd (.code (.reg (some ck) l) :: k) a H Q := Wp.regC h
theorem zx165 {tr : List (Fr × Heap)} {Q : List (Fr × Heap) → Fr → Heap → Prop} : @WpT E lo [] a H ⟨tr⟩ Q = Q (tr ++ [(a, H)]) a H := (rfl)
theorem zx166 {d : Nat} {op : AOp} {os : List AOper} {tr : List (Fr × Heap)} {Q : List (Fr × Heap) → Fr → Heap → Prop} : @WpT E lo (⟨some d, op, none⟩ :: os) a H ⟨tr⟩ Q = WpOp E lo op a H fun v H' => @WpT E lo os (a.upd d v) H' ⟨tr ++ [(a, H)]⟩ Q := (rfl)
theorem zx167 {op : AOp} {os : List AOper} {tr : List (Fr × Heap)} {Q : List (Fr × Heap) → Fr → Heap → Prop} : @WpT E lo (⟨none, op, none⟩ :: os) a H ⟨tr⟩ Q = WpOp E lo op a H fun _ H' => @WpT E lo os a H' ⟨tr ++ [(a, H)]⟩ Q := (rfl)
end
end Go.AM

namespace Go.AM
open Go
theorem avb_f {c : Prop} [Decidable c] (h : ¬ c) : AV.b false = AV.b (decide c) := by rw [decide_eq_false h]
theorem avb_t {c : Prop} [Decidable c] (h : c) : AV.b true = AV.b (decide c) := by rw [decide_eq_true h]
theorem gi_at {α : Type} [Inhabited α] {xs : List α} {i : Nat} (h : i < xs.length) : xs[i]? = some (gi xs (i : Int)) := by
  rw [gi_nat h]; exact List.getElem?_eq_getElem h
theorem take_gi {α : Type} [Inhabited α] {xs : List α} {i : Nat} (h : i < xs.length) : xs.take (i + 1) = xs.take i ++ [gi xs (i : Int)] := by
  rw [List.take_add_one, gi_at h]; rfl
theorem take_eq_succ {α : Type} [Inhabited α] {xs ys : List α} {i : Nat} (h : xs.take i = ys.take i) (h1 : i < xs.length) (h2 : i < ys.length) (e : gi xs (i : Int) = gi ys (i : Int)) : xs.take (i + 1) = ys.take (i + 1) := by
  rw [take_gi h1, take_gi h2, h, e]
theorem take_all {α : Type} {xs ys : List α} {i : Nat} (h : xs.take i = ys.take i) (hl : xs.length = ys.length) (hi : xs.length ≤ i) : xs = ys := by
  rwa [List.take_of_length_le hi, List.take_of_length_le (by omega)] at h
theorem gi_ext {α : Type} [Inhabited α] {xs ys : List α} (hl : xs.length = ys.length) (h : ∀ i : Nat, i < xs.length → gi xs (i : Int) = gi ys (i : Int)) : xs = ys := by
  apply List.ext_getElem hl
  intro i h1 h2
  have := h i h1
  rwa [gi_nat h1, gi_nat h2] at this
theorem rv_si {β : Type} [Rep β] {p : Nat → Prop} {H : Heap} {r : AV} {v : Int} {xs : List β} (h : Sl p H r xs) : RV.rv p H (.ag [.i v, r]) ((v, xs) : Int × List β) :=
  ⟨[.i v, r], rfl, [.i v], [r], rfl, rfl, r, rfl, h⟩
theorem rv_si_elim {β : Type} [Rep β] {p : Nat → Prop} {H : Heap} {u : AV} {v : Int} {xs : List β} (h : RV.rv p H u ((v, xs) : Int × List β)) : ∃ r, u = .ag [.i v, r] ∧ Sl p H r xs := by
  obtain ⟨cs, rfl, c1, c2, rfl, h1, r, h2, h3⟩ := h
  change c1 = _ at h1
  rw [h1, h2]
  exact ⟨r, rfl, h3⟩
theorem rep_si_elim {β : Type} [Rep β] {p : Nat → Prop} {H : Heap} {cs : List AV} {x : Int × List β} (h : Rep.rep p H cs x) : ∃ r, cs = [.i x.1, r] ∧ Sl p H r x.2 := by
  obtain ⟨c1, c2, rfl, h1, r, h2, h3⟩ := h
  change c1 = _ at h1
  rw [h1, h2]
  exact ⟨r, rfl, h3⟩
theorem rv_2 {α β : Type} [RV α] [RV β] {p : Nat → Prop} {H : Heap} {v1 v2 : AV} {x : α} {y : β} (h1 : RV.rv p H v1 x) (h2 : RV.rv p H v2 y) : RV.rv p H (.tp [v1, v2]) (T2.mk x y) := ⟨v1, v2, rfl, h1, h2⟩
theorem rv_3 {α β γ : Type} [RV α] [RV β] [RV γ] {p : Nat → Prop} {H : Heap} {v1 v2 v3 : AV} {x : α} {y : β} {z : γ} (h1 : RV.rv p H v1 x) (h2 : RV.rv p H v2 y) (h3 : RV.rv p H v3 z) : RV.rv p H (.tp [v1, v2, v3]) (T3.mk x y z) := ⟨v1, v2, v3, rfl, h1, h2, h3⟩
theorem rv2 {α β : Type} [RV α] [RV β] {p : Nat → Prop} {H : Heap} {v : AV} {x : α} {y : β} (h : RV.rv p H v (T2.mk x y)) : ∃ v1 v2, v = .tp [v1, v2] ∧ RV.rv p H v1 x ∧ RV.rv p H v2 y := h
theorem rv3 {α β γ : Type} [RV α] [RV β] [RV γ] {p : Nat → Prop} {H : Heap} {v : AV} {x : α} {y : β} {z : γ} (h : RV.rv p H v (T3.mk x y z)) : ∃ v1 v2 v3, v = .tp [v1, v2, v3] ∧ RV.rv p H v1 x ∧ RV.rv p H v2 y ∧ RV.rv p H v3 z := h
theorem rvi {p : Nat → Prop} {H : Heap} {v : AV} {x : Int} (h : RV.rv p H v x) : v = .i x := h
theorem rvb {p : Nat → Prop} {H : Heap} {v : AV} {x : Bool} (h : RV.rv p H v x) : v = .b x := h
theorem rvs {α : Type} [Rep α] {p : Nat → Prop} {H : Heap} {v : AV} {x : List α} (h : RV.rv p H v x) : Sl p H v x := h
theorem rv_i {p : Nat → Prop} {H : Heap} {n : Int} : RV.rv p H (.i n) n := rfl
theorem RetP.closed {E : Tab} {n f : Nat} {af : AFunc} {vs : List AV} {H : Heap} {v : AV} (hk : E.kd f = .closed) (hf : E.fn f = some af) (hp : AV.pureAll vs = true) (hv : v.pure = true)
    (h : (runF (R E n) 0 af vs []).map (·.1) = some v) : RetP E f vs H v := fun lo => by
  obtain ⟨r, h1, h2⟩ := Option.map_eq_some_iff.1 h
  refine ⟨n, v, H, ?_, rfl, rfl⟩
  unfold callF
  simp only [hk, hp, hf, if_true, Option.bind_some, h1, h2, hv]
/-- a law's own call -/
theorem law_of {E : Tab} {f : Nat} {vs : List AV} {H : Heap} (h : RetP E f vs H (.b true)) : WpF E H.length f vs H fun v _ => v = .b true := (h _).mono fun _ _ h => h.1
theorem mul_small {x y m n : Int} (h0 : 0 ≤ x) (h1 : x ≤ m) (h2 : 0 ≤ y) (h3 : y ≤ n) (hm : 0 ≤ m) : 0 ≤ x * y ∧ x * y ≤ m * n :=
  ⟨Int.mul_nonneg h0 h2, Int.mul_le_mul h1 h3 h2 hm⟩
end Go.AM

namespace Go.AM
open Go
section
variable {α : Type} [Rep α] {L lo bytes : Nat} {p q : Nat → Prop} {H H' : Heap} {v y : AV} {xs ys : List α}
theorem Sl.cellsOf (h : Sl p H v xs) : ∃ cs, Go.AM.cellsOf (Rep.sz α) xs.length v H = some cs ∧ cs.length = xs.length * Rep.sz α ∧ ∀ (i : Nat) (hi : i < xs.length), Rep.rep p H ((cs.drop (i * Rep.sz α)).take (Rep.sz α)) xs[i] := by
  rcases h with ⟨rfl, rfl⟩ | ⟨b, o, c, k, rfl, hb, hk, h1, h2, h3⟩
  · exact ⟨[], rfl, by simp, fun i hi => by simp at hi⟩
  · by_cases h0 : xs.length = 0
    · refine ⟨[], ?_, by simp [h0], fun i hi => by omega⟩
      simp [Go.AM.cellsOf, h0]
    · refine ⟨(k.drop o).take (xs.length * Rep.sz α), ?_, by rw [List.length_take, List.length_drop]; omega, fun i hi => ?_⟩
      · simp [Go.AM.cellsOf, h0, ldn, hk, h1]
      · have hle : i * Rep.sz α + Rep.sz α ≤ xs.length * Rep.sz α := by rw [← Nat.succ_mul]; exact Nat.mul_le_mul_right _ (by omega)
        have e : (((k.drop o).take (xs.length * Rep.sz α)).drop (i * Rep.sz α)).take (Rep.sz α) = (k.drop (o + i * Rep.sz α)).take (Rep.sz α) := by
          rw [List.drop_take, List.drop_drop, List.take_take]
          congr 1
          omega
        rw [e]; exact h3 i hi
/-- a slice behind a growing one -/
theorem Acc.extend {Q : AV × Heap → Prop} (h : Acc L p H v xs) (hlo : lo ≤ L) (hL : L ≤ H.length) (hy : Sl q H y ys) (hq : ∀ b, q b → p b ∧ v.blk ≠ some b)
    (hb : (xs.length + ys.length) * bytes ≤ 1099511627776) (hb0 : 0 < bytes)
    (go : ∀ v' H', Acc L p H' v' (xs ++ ys) → Kp (fun b => v.blk ≠ some b) H H' → Q (v', H')) :
    @optP _ (appendV lo (Rep.sz α) bytes v y H) ⟨Q⟩ := by
  obtain ⟨cs, hc, hcl, hcr⟩ := hy.cellsOf
  have hxl : xs.length + ys.length ≤ 9223372036854775806 := by
    have : xs.length + ys.length ≤ (xs.length + ys.length) * bytes := Nat.le_mul_of_pos_right _ hb0
    omega
  have hmb : mostBytes = 1099511627776 := by decide
  simp only [appendV, hy.lenA, hc, optP]
  by_cases h0 : ys.length = 0
  · have hy0 : ys = [] := List.length_eq_zero_iff.1 h0
    subst hy0
    refine ⟨(v, H), ?_, by have := go v H (by rwa [List.append_nil]) (Kp.refl _ _); exact this⟩
    rcases h with ⟨rfl, rfl⟩ | ⟨b, o, c, k, rfl, hbl, hk, h1, h2, h3⟩ <;> simp [appendA]
  rcases h with ⟨rfl, rfl⟩ | ⟨b, o, c, k, rfl, hbl, hk, h1, h2, h3⟩
  · simp only [appendA]
    rw [if_neg h0, if_pos (by rw [hmb]; simpa using hb)]
    refine ⟨_, rfl, ?_⟩
    refine go _ _ (.inr ⟨H.length, 0, none, cs, by simp, by omega, ?_, by simp [hcl], by simp at hxl ⊢; omega, ?_⟩) ((Kp.app _ _ _).weak fun _ h => h)
    · rw [List.getElem?_append_right (Nat.le_refl _), Nat.sub_self]; rfl
    · intro i hi
      simp only [List.nil_append] at hi ⊢
      rw [Nat.zero_add]
      refine Rep.mono (Rep.low (hcr i hi)) (Kp.app _ _ _) fun b hb => ⟨(hq b hb.1).1, ?_⟩
      have := hb.2; omega
  · have hbH : b < H.length := (List.getElem?_eq_some_iff.1 hk).1
    simp only [appendA, ne_eq, not_true_eq_false, if_false]
    rw [if_neg h0, hk]
    simp only []
    rw [if_pos ⟨h1, by rw [hmb]; exact hb⟩]
    have hkt : ((k.drop o).take (xs.length * Rep.sz α)).length = xs.length * Rep.sz α := by rw [List.length_take, List.length_drop]; omega
    have fin : ∀ H2 : Heap, H2.length = H.length → Kp (fun b' => b' ≠ b) H H2 → Q (.s (Rep.sz α) H2.length 0 (xs.length + ys.length) none, H2 ++ [.cells ((k.drop o).take (xs.length * Rep.sz α) ++ cs)]) := by
      intro H2 hl2 hkp
      refine go _ _ (.inr ⟨H2.length, 0, none, (k.drop o).take (xs.length * Rep.sz α) ++ cs, by simp, by omega, ?_, ?_, by simp; omega, ?_⟩) ?_
      · rw [List.getElem?_append_right (Nat.le_refl _), Nat.sub_self]; rfl
      · simp [hkt, hcl, Nat.add_mul]
      · intro i hi
        rw [Nat.zero_add]
        by_cases hi' : i < xs.length
        · rw [List.getElem_append_left hi']
          have hle : i * Rep.sz α + Rep.sz α ≤ xs.length * Rep.sz α := by rw [← Nat.succ_mul]; exact Nat.mul_le_mul_right _ (by omega)
          have e1 : (((k.drop o).take (xs.length * Rep.sz α) ++ cs).drop (i * Rep.sz α)).take (Rep.sz α) = (k.drop (o + i * Rep.sz α)).take (Rep.sz α) := by
            rw [List.drop_append_of_le_length (by omega), List.take_append_of_le_length (by rw [List.length_drop]; omega), List.drop_take, List.drop_drop, List.take_take]
            congr 1
            omega
          rw [e1]
          refine Rep.mono (Rep.low (h3 i hi')) (((hkp.trans (Kp.app (fun _ => True) _ _) fun _ _ => trivial)).weak fun b' h => h.1.2) fun b' h => ⟨h.1.1, ?_⟩
          have := h.2; omega
        · have hi2 : i < xs.length + ys.length := by simpa using hi
          have e1 : (xs ++ ys)[i]'hi = ys[i - xs.length]'(by omega) := List.getElem_append_right (by omega)
          have hge : xs.length * Rep.sz α ≤ i * Rep.sz α := Nat.mul_le_mul_right _ (by omega)
          have e2 : ((k.drop o).take (xs.length * Rep.sz α) ++ cs).drop (i * Rep.sz α) = cs.drop ((i - xs.length) * Rep.sz α) := by
            rw [List.drop_append, hkt, Nat.sub_mul]
            have : ((k.drop o).take (xs.length * Rep.sz α)).drop (i * Rep.sz α) = [] := by rw [List.drop_eq_nil_iff]; omega
            rw [this, List.nil_append]
          rw [e1, e2]
          refine Rep.mono (Rep.low (hcr (i - xs.length) (by omega))) (((hkp.trans (Kp.app (fun _ => True) _ _) fun _ _ => trivial)).weak fun b' h => fun e => (hq b' h.1).2 (by simp [AV.blk, e])) fun b' h => ⟨(hq b' h.1).1, ?_⟩
          have := h.2; omega
      · exact (hkp.trans (Kp.app (fun _ => True) _ _) fun _ _ => trivial).weak fun b' h e => h (by simp [AV.blk, e])
    by_cases hcap : c = some xs.length
    · rw [if_pos hcap]
      exact ⟨_, rfl, fin H rfl (Kp.refl _ _)⟩
    · rw [if_neg hcap, if_pos (by omega)]
      refine ⟨_, rfl, ?_⟩
      have := fin (H.set b Blk.dead) (by simp) (Kp.set _ _ _)
      simpa using this
/-- a new slice of no elements -/
theorem Acc.fresh0 (h : L ≤ H.length) : Acc L p (H ++ [.cells []]) (.s (Rep.sz α) H.length 0 0 (some 0)) ([] : List α) :=
  .inr ⟨H.length, 0, some 0, [], rfl, h, by simp, by simp, by simp, fun i hi => by simp at hi⟩
/-- a slice of the call's own that was made whole -/
theorem Acc.of_sl {b o : Nat} {c : Option Nat} (h : Sl p H (.s (Rep.sz α) b o xs.length c) xs) (hL : L ≤ b) (hq : ∀ b', p b' → b' = b ∨ (q b' ∧ b' ≠ b)) (hd : ∀ (i : Nat) (hi : i < xs.length) (cs : List AV), Rep.rep p H cs xs[i] → Rep.rep (fun b' => q b' ∧ b' ≠ b) H cs xs[i]) : Acc L q H (.s (Rep.sz α) b o xs.length c) xs := by
  rcases h with ⟨e, _⟩ | ⟨b1, o1, c1, k, e, hb, hk, h1, h2, h3⟩
  · cases e
  · cases e
    exact .inr ⟨b, o, c, k, rfl, hL, hk, h1, h2, fun i hi => hd i hi _ (h3 i hi)⟩

/-! ### Cuts -/
/-- from l to h -/
def AV.cut (v : AV) (l h : Nat) : AV := match v with
  | .s es bb oo n c => .s es bb (oo + l * es) (h - l) (c.map (· - l))
  | _ => .nils
/-- from l to h, its capacity cut to m -/
def AV.cut3 (v : AV) (l h m : Nat) : AV := match v with
  | .s es bb oo n c => .s es bb (if m = l then oo else oo + l * es) (h - l) (some (m - l))
  | _ => .nils
theorem bound_some {k : IntKind} {i : Int} {d m : Nat} (h0 : 0 ≤ i) (h1 : i ≤ m) : boundV (some (.int k i)) d m = some i.toNat := by simp [boundV, h0, h1]
theorem bound_none {d m : Nat} (h : d ≤ m) : boundV none d m = some d := by simp [boundV, h]
theorem Sl.slV_lh {a b : Nat} (h : Sl p H v xs) (l u : Option AV) (hu : boundV u xs.length xs.length = some b) (hl : boundV l 0 b = some a) (hab : a ≤ b) (hb : b ≤ xs.length) : slV (Rep.sz α) v l u none = some (v.cut a b) := by
  have hm : boundV none xs.length xs.length = some xs.length := bound_none (Nat.le_refl _)
  rcases h with ⟨rfl, rfl⟩ | ⟨b', o, c, k, rfl, _⟩
  · simp only [List.length_nil] at hu hl hm hb
    simp only [slV, Go.AM.lenA, hm, hu, hl]
    have : a = 0 := by omega
    have : b = 0 := by omega
    subst a b
    simp [sliceA, AV.cut]
  · simp only [slV, Go.AM.lenA, hm, hu, hl]
    simp [sliceA, AV.cut, hb, hab]
theorem Sl.slV_3 {a b m : Nat} (h : Sl p H v xs) (l u w : Option AV) (hw : boundV w xs.length xs.length = some m) (hws : w.isSome = true) (hu : boundV u xs.length m = some b) (hl : boundV l 0 b = some a) (hab : a ≤ b) (hbm : b ≤ m) (hm : m ≤ xs.length) : slV (Rep.sz α) v l u w = some (v.cut3 a b m) := by
  rcases h with ⟨rfl, rfl⟩ | ⟨b', o, c, k, rfl, _⟩
  · simp only [List.length_nil] at hu hl hw hm
    simp only [slV, Go.AM.lenA, hw, hu, hl]
    have : a = 0 := by omega
    have : b = 0 := by omega
    have : m = 0 := by omega
    subst a b m
    simp [sliceA, AV.cut3, hws]
  · simp only [slV, Go.AM.lenA, hw, hu, hl]
    simp [sliceA, AV.cut3, hbm, hab, hm, hws]
theorem Sl.cut {a b : Nat} (h : Sl p H v xs) (hab : a ≤ b) (hb : b ≤ xs.length) : Sl p H (v.cut a b) ((xs.drop a).take (b - a)) := by
  have hl : ((xs.drop a).take (b - a)).length = b - a := by rw [List.length_take, List.length_drop]; omega
  rcases h with ⟨rfl, rfl⟩ | ⟨b', o, c, k, rfl, hb', hk, h1, h2, h3⟩
  · simp at hb; subst hb; exact .inl ⟨rfl, by simp⟩
  · have hmul : a * Rep.sz α + (b - a) * Rep.sz α ≤ xs.length * Rep.sz α := by rw [← Nat.add_mul]; exact Nat.mul_le_mul_right _ (by omega)
    refine .inr ⟨b', o + a * Rep.sz α, _, k, by rw [hl]; rfl, hb', hk, by rw [hl]; omega, by rw [hl]; omega, fun i hi => ?_⟩
    have hi' : a + i < xs.length := by omega
    have e : ((xs.drop a).take (b - a))[i]'hi = xs[a + i] := by simp
    rw [e, Nat.add_assoc, ← Nat.add_mul]
    exact h3 (a + i) hi'
theorem Sl.cut3 {a b m : Nat} (h : Sl p H v xs) (hab : a ≤ b) (hbm : b ≤ m) (hm : m ≤ xs.length) : Sl p H (v.cut3 a b m) ((xs.drop a).take (b - a)) := by
  by_cases e : m = a
  · have hb0 : b = a := by omega
    subst e hb0
    rcases h with ⟨rfl, rfl⟩ | ⟨b', o, c, k, rfl, hb', hk, h1, h2, h3⟩
    · exact .inl ⟨rfl, by simp⟩
    · refine .inr ⟨b', o, some (b - b), k, by simp [AV.cut3], hb', hk, ?_, by simp, fun i hi => by simp at hi⟩
      simp
      have := Nat.zero_le (xs.length * Rep.sz α); omega
  · have hc := h.cut hab (Nat.le_trans hbm hm)
    have hl : ((xs.drop a).take (b - a)).length = b - a := by rw [List.length_take, List.length_drop]; omega
    rcases h with ⟨rfl, rfl⟩ | ⟨b', o, c, k, rfl, hb', hk, h1, h2, h3⟩
    · simp at hm; omega
    · rcases hc with ⟨e1, _⟩ | ⟨b1, o1, c1, k1, e1, r⟩
      · cases e1
      · simp only [AV.cut, AV.s.injEq, true_and] at e1
        obtain ⟨rfl, rfl, _, _⟩ := e1
        exact .inr ⟨b', o + a * Rep.sz α, some (m - a), k1, by rw [hl]; simp [AV.cut3, e], r⟩
end
end Go.AM
namespace Go.AM
open Go
theorem zx178 {es b o n : Nat} {c : Option Nat} {k : IntKind} {i : Int} (h0 : 0 ≤ i) (h1 : i < n) : iaddrV es (.s es b o n c) (.int k i) = some (.p b (o + i.toNat * es)) := by
  simp [iaddrV, h0, h1]
theorem zx173 {neg : Bool} : seqV neg .nils .nils = some (.b (!neg)) := (rfl)
theorem zx174 {neg : Bool} {e b o n : Nat} {c : Option Nat} : seqV neg (.s e b o n c) .nils = some (.b neg) := (rfl)
theorem zx175 {neg : Bool} {e b o n : Nat} {c : Option Nat} : seqV neg .nils (.s e b o n c) = some (.b neg) := (rfl)
theorem zx47 {k k' : IntKind} {a b : Int} : mnV [.int k a, .int k' b] = some (.int k (min a b)) := by
  simp only [mnV, foldMin, Option.map_some]; congr 2; rw [Int.min_def]; split <;> split <;> omega
theorem zx48 {k k' : IntKind} {a b : Int} : mxV [.int k a, .int k' b] = some (.int k (max a b)) := by
  simp only [mxV, foldMax, Option.map_some]; congr 2; rw [Int.max_def]; split <;> split <;> omega
theorem zx49 {k k1 k2 k3 : IntKind} {a b c d : Int} : mnV [.int k a, .int k1 b, .int k2 c, .int k3 d] = some (.int k (min (min (min a b) c) d)) := by
  simp only [mnV, foldMin, Option.map_some]
  congr 2
  simp only [Int.min_def]
  repeat' split
  all_goals omega
/-- a call returns a value of which P holds; the heap stays -/
def RetE (E : Tab) (f : Nat) (vs : List AV) (H : Heap) (P : AV → Prop) : Prop := ∀ lo, WpF E lo f vs H fun v H' => P v ∧ H' = H
theorem RetE.ro {E : Tab} {f : Nat} {af : AFunc} {vs : List AV} {H : Heap} {P : AV → Prop} (hk : E.kd f = .ro) (hf : E.fn f = some af) (hn : vs.length = af.nargs) (hp : ∀ v, P v → v.pure = true)
    (h : Wp E H.length none [.code af.body] (initFr vs) H (RetQ af.res fun v _ => P v)) : RetE E f vs H P := fun lo => by
  refine WpF.of_ro hk hf hn (h.mono fun o a' H' hq => ?_)
  cases o with
  | exit id => exact hq.elim
  | done => obtain ⟨u, e, hu⟩ := hq; exact ⟨.inl rfl, u, e, hu, by simp [hp u hu]⟩
  | ret => obtain ⟨u, e, hu⟩ := hq; exact ⟨.inr rfl, u, e, hu, by simp [hp u hu]⟩
theorem RetE.use {E : Tab} {f : Nat} {vs : List AV} {H : Heap} {P : AV → Prop} (h : RetE E f vs H P) {lo : Nat} {Q : AV → Heap → Prop} (hq : ∀ v, P v → Q v H) : @callP E lo f vs H ⟨Q⟩ :=
  (h lo).mono fun v H' ⟨h1, h2⟩ => by subst h2; exact hq v h1
theorem Ret.go {α : Type} [RV α] {E : Tab} {f : Nat} {vs : List AV} {p : Nat → Prop} {H : Heap} {x : α} (h : Ret E f vs p H x) {lo : Nat} {Q : AV → Heap → Prop}
    (hq : ∀ v N, RV.rv (fun b => p b ∨ H.length ≤ b) (H ++ N) v x → Q v (H ++ N)) : @callP E lo f vs H ⟨Q⟩ := callI (h.use hq)
/-- .. the heap behind it under a letter of its own -/
theorem Ret.to {α : Type} [RV α] {E : Tab} {f : Nat} {vs : List AV} {p : Nat → Prop} {H : Heap} {x : α} (h : Ret E f vs p H x) {lo : Nat} {Q : AV → Heap → Prop}
    (hq : ∀ v H', Gr H H' → RV.rv (fun b => p b ∨ H.length ≤ b) H' v x → Q v H') : @callP E lo f vs H ⟨Q⟩ := h.go fun v N hv => hq v (H ++ N) (Kp.app _ _ _) hv
theorem Ret.toF {α : Type} [Rep α] {E : Tab} {f : Nat} {vs : List AV} {H : Heap} {x : List α} (h : Ret E f vs (fun _ => False) H x) {lo : Nat} {Q : AV → Heap → Prop}
    (hq : ∀ v H', Gr H H' → Sl (fun b => H.length ≤ b) H' v x → Q v H') : @callP E lo f vs H ⟨Q⟩ := h.to fun v H' hg hv => hq v H' hg (Sl.weak hv fun b h => h.elim (fun h => h.elim) id)
end Go.AM

namespace Go.AM
open Go
/-- a slice of the call's own, from L on, written in place -/
def MI (L : Nat) (H : Heap) (v : AV) (ys : List Int) : Prop :=
  ∃ b c, v = .s 1 b 0 ys.length c ∧ L ≤ b ∧ H[b]? = some (.cells (ys.map AV.i)) ∧ ys.length ≤ 9223372036854775807
section
variable {L lo : Nat} {p : Nat → Prop} {H H' : Heap} {v : AV} {ys : List Int} {k x : Int}
theorem MI.acc (h : MI L H v ys) : Acc L p H v ys := by
  obtain ⟨b, c, rfl, hb, hk, hl⟩ := h
  refine .inr ⟨b, 0, c, _, rfl, hb, hk, ?_, hl, fun i hi => ?_⟩
  · change 0 + ys.length * 1 ≤ _; simp
  · change ((ys.map AV.i).drop (0 + i * 1)).take 1 = [.i ys[i]]
    rw [Nat.zero_add, Nat.mul_one, List.take_one, List.head?_drop]
    simp [hi]
theorem MI.sl (h : MI L H v ys) : Sl (fun b => L ≤ b) H v ys := (h.acc (p := fun _ => False)).sl.weak fun b h => h.elim (fun h => h.elim) id
theorem MI.bound (h : MI L H v ys) : ys.length ≤ 9223372036854775807 := by obtain ⟨b, c, _, _, _, h⟩ := h; exact h
theorem MI.mono (h : MI L H v ys) (hk : Kp (fun b => L ≤ b) H H') : MI L H' v ys := by
  obtain ⟨b, c, rfl, hb, hk', hl⟩ := h
  exact ⟨b, c, rfl, hb, hk.2 b _ hb hk', hl⟩
theorem MI.gr (h : MI L H v ys) (hg : Gr H H') : MI L H' v ys := h.mono hg.all.weakT
theorem MI.app (h : MI L H v ys) (N : Heap) : MI L (H ++ N) v ys := h.mono (Kp.app _ _ _)
theorem MI.blk_lt (h : MI L H v ys) {b : Nat} (e : v.blk = some b) : L ≤ b ∧ b < H.length := (h.acc (p := fun _ => True)).blk_lt e
theorem MI.kp (h : MI L H v ys) (hk : Kp p H H') (hp : ∀ b, v.blk = some b → p b) : MI L H' v ys := by
  obtain ⟨b, c, rfl, hb, hk', hl⟩ := h
  exact ⟨b, c, rfl, hb, hk.2 b _ (hp b rfl) hk', hl⟩
theorem Acc.up {α : Type} [Rep α] {xs : List α} (h : Acc L (fun _ => False) H v xs) (hk : Kp (fun b => L ≤ b) H H') : Acc L (fun _ => False) H' v xs :=
  h.mono (hk.weak fun b (hb : L ≤ b ∨ False) => hb.elim id fun h => h.elim) fun _ h => h
theorem Acc.kp {α : Type} [Rep α] {q : Nat → Prop} {xs : List α} (h : Acc L q H v xs) (hk : Kp p H H') (hp : ∀ b, v.blk = some b → p b) (hq : ∀ b, q b → p b) : Acc L q H' v xs := by
  rcases h with h | ⟨b, o, c, k, rfl, hb, hk1, h1, h2, h3⟩
  · exact .inl h
  · exact .inr ⟨b, o, c, k, rfl, hb, hk.2 b k (hp b rfl) hk1, h1, h2, fun i hi => Rep.mono (h3 i hi) (hk.weak fun b h => hq b h.1) fun b h => h⟩
theorem MI.store {Q : Heap → Prop} (h : MI L H v ys) (hlo : lo ≤ L) (h0 : 0 ≤ k) (h1 : k < ys.length)
    (go : ∀ H', MI L H' v (ys.set k.toNat x) → Kp (fun b => v.blk ≠ some b) H H' → H'.length = H.length → Q H') : @optP _ (stA lo H 1 (v.at 1 k) (.i x)) ⟨Q⟩ := by
  obtain ⟨b, c, rfl, hb, hk, hl⟩ := h
  have hkl : k.toNat < ys.length := by omega
  refine ⟨H.set b (.cells ((ys.set k.toNat x).map AV.i)), ?_, go _ ⟨b, c, by simp, hb, get_set hk, by simpa using hl⟩ ((Kp.set b H _).weak fun b' h e => h (by simp [AV.blk, e])) (by simp)⟩
  simp only [stA, AV.at, zx130, List.length_singleton, List.all_cons, List.all_nil, zx140, Bool.and_self, and_self, if_true]
  rw [st_of hk (by omega) (by simp; omega)]
  congr 2
  simp [wr, List.map_set]
theorem reps_z (n : Nat) (z : AV) : reps n [z] = List.replicate n z := by
  induction n with
  | zero => rfl
  | succ n ih => simp [reps, ih, List.replicate_succ]
theorem MI.mk {n : Nat} (hL : L ≤ H.length) (hn : n ≤ 9223372036854775807) : MI L (H ++ [.cells (reps n [.int .i64 0])]) (.s 1 H.length 0 n (some n)) (List.replicate n 0) :=
  ⟨H.length, some n, by simp, hL, by simp [reps_z], by simpa using hn⟩
end
theorem zx176 {z : AV} {n : Int} (h0 : 0 ≤ n) (h1 : n ≤ 137438953472) : mksliceV 1 8 [z] (.int .i64 n) = some n.toNat := by
  have : mostBytes = 1099511627776 := by decide
  simp only [mksliceV, this]
  rw [if_pos ⟨h0, by omega, by omega, rfl⟩]
theorem zx177 {z : AV} {n : Int} (h0 : 0 ≤ n) (h1 : n ≤ 45812984490) : mksliceV 1 24 [z] (.int .i64 n) = some n.toNat := by
  have : mostBytes = 1099511627776 := by decide
  simp only [mksliceV, this]
  rw [if_pos ⟨h0, by omega, by omega, rfl⟩]
/-! ### Sums -/
theorem sum_take {xs : List Int} {i : Nat} (h : i < xs.length) : (xs.take (i + 1)).sum = (xs.take i).sum + gi xs i := by
  rw [take_gi h]; simp [List.sum_append]
theorem sum_take_all {xs : List Int} {i : Nat} (h : xs.length ≤ i) : (xs.take i).sum = xs.sum := by rw [List.take_of_length_le h]
theorem sum_bound {xs : List Int} {m : Int} (h : ∀ x ∈ xs, 0 ≤ x ∧ x ≤ m) : 0 ≤ xs.sum ∧ xs.sum ≤ xs.length * m := by
  induction xs with
  | nil => simp
  | cons x xs ih =>
    have h1 := h x (by simp)
    have h2 := ih fun y hy => h y (by simp [hy])
    simp only [List.sum_cons, List.length_cons, Int.natCast_add, Int.natCast_one, Int.add_mul]
    omega
theorem mem_take_gi {α : Type} [Inhabited α] {xs : List α} {i : Nat} {P : α → Prop} (h : ∀ x ∈ xs.take i, P x) (hi : i < xs.length) (hp : P (gi xs i)) : ∀ x ∈ xs.take (i + 1), P x := by
  rw [take_gi hi]
  intro x hx
  rcases List.mem_append.1 hx with hx | hx
  · exact h x hx
  · simp at hx; rw [hx]; exact hp
theorem mem_take_all {α : Type} {xs : List α} {i : Nat} {P : α → Prop} (h : ∀ x ∈ xs.take i, P x) (hi : xs.length ≤ i) : ∀ x ∈ xs, P x := by rwa [List.take_of_length_le hi] at h
theorem mem_gi {α : Type} [Inhabited α] {xs : List α} {i : Nat} (hi : i < xs.length) : gi xs i ∈ xs := gi_mem (by omega) (by omega)
theorem zx184 {x y : Bool} : beqV false (.b x) (.b y) = some (.b (decide (x = y))) := by cases x <;> cases y <;> rfl
theorem zx185 {x y : Bool} : beqV true (.b x) (.b y) = some (.b (decide (¬ x = y))) := by cases x <;> cases y <;> rfl
theorem zx179 {a b c d : Int} : aeqV false 2 (.ag [.int .i64 a, .int .i64 b]) (.ag [.int .i64 c, .int .i64 d]) = some (.b (decide (a = c ∧ b = d))) := by
  by_cases h1 : a = c <;> by_cases h2 : b = d <;> simp [aeqV, eqInts, h1, h2]
theorem zx180 {a b c d : Int} : aeqV true 2 (.ag [.int .i64 a, .int .i64 b]) (.ag [.int .i64 c, .int .i64 d]) = some (.b (decide (¬ (a = c ∧ b = d)))) := by
  by_cases h1 : a = c <;> by_cases h2 : b = d <;> simp [aeqV, eqInts, h1, h2]
theorem zx181 {α : Type} [Inhabited α] {x : α} {xs : List α} : gi (x :: xs) 0 = x := (rfl)
theorem zx182 {α : Type} [Inhabited α] {x y : α} {xs : List α} : gi (x :: y :: xs) 1 = y := (rfl)
theorem zx183 {α : Type} [Inhabited α] {x y z : α} {xs : List α} : gi (x :: y :: z :: xs) 2 = z := (rfl)
/-- a slice of whole numbers, written out -/
theorem Sl.litI {p : Nat → Prop} {H : Heap} {b : Nat} {c : Option Nat} {xs : List Int} (hk : H[b]? = some (.cells (xs.map AV.i))) (hp : p b) (hl : xs.length ≤ 9223372036854775807) : Sl p H (.s 1 b 0 xs.length c) xs := by
  refine .inr ⟨b, 0, c, _, rfl, hp, hk, ?_, hl, fun i hi => ?_⟩
  · change 0 + xs.length * 1 ≤ _; simp
  · change ((xs.map AV.i).drop (0 + i * 1)).take 1 = [.i xs[i]]
    rw [Nat.zero_add, Nat.mul_one, List.take_one, List.head?_drop]
    simp [hi]
/-- a slice of slices, written out -/
theorem Sl.litL {α : Type} [Rep α] {p : Nat → Prop} {H : Heap} {b : Nat} {c : Option Nat} {us : List AV} {xs : List (List α)} (hk : H[b]? = some (.cells us)) (hp : p b) (hl : xs.length ≤ 9223372036854775807) (hu : us.length = xs.length)
    (h : ∀ (i : Nat) (h1 : i < us.length) (h2 : i < xs.length), Sl p H us[i] xs[i]) : Sl p H (.s 1 b 0 xs.length c) xs := by
  refine .inr ⟨b, 0, c, _, rfl, hp, hk, ?_, hl, fun i hi => ?_⟩
  · change 0 + xs.length * 1 ≤ _; omega
  · refine ⟨us[i], ?_, h i (by omega) hi⟩
    change (us.drop (0 + i * 1)).take 1 = _
    rw [Nat.zero_add, Nat.mul_one, List.take_one, List.head?_drop]
    simp [show i < us.length by omega]
end Go.AM

namespace Go.AM
open Go
/-- a row, and the block that it lies in -/
structure OR where
  b : Nat
  xs : List Int
instance : Inhabited OR := ⟨⟨0, []⟩⟩
instance : Rep OR where
  sz := 1
  pos := Nat.one_pos
  rep p H cs r := ∃ o c k, cs = [.s 1 r.b o r.xs.length c] ∧ p r.b ∧ H[r.b]? = some (.cells k) ∧ o + r.xs.length ≤ k.length ∧ r.xs.length ≤ 9223372036854775807 ∧ ∀ (i : Nat) (h : i < r.xs.length), k[o + i]? = some (.i r.xs[i])
  len := by rintro p H cs x ⟨o, c, k, rfl, _⟩; rfl
  one := by rintro p H cs x ⟨o, c, k, rfl, _⟩; rfl
  mono := by rintro p q H H' cs x ⟨o, c, k, rfl, h1, h2, h3⟩ hk hq; exact ⟨o, c, k, rfl, hq _ h1, hk.2 _ _ h1 h2, h3⟩
  pure := by rintro p q H H' cs x ⟨o, c, k, rfl, _⟩ hp; simp [AV.pureAll, AV.pure] at hp
  low := by rintro p H cs x ⟨o, c, k, rfl, h1, h2, h3⟩; exact ⟨o, c, k, rfl, ⟨h1, (List.getElem?_eq_some_iff.1 h2).1⟩, h2, h3⟩
theorem OR.sl {p : Nat → Prop} {H : Heap} {cs : List AV} {r : OR} (h : Rep.rep p H cs r) : ∃ v, cs = [v] ∧ Sl p H v r.xs := by
  obtain ⟨o, c, k, rfl, h1, h2, h3, h4, h5⟩ := h
  refine ⟨_, rfl, .inr ⟨r.b, o, c, k, rfl, h1, h2, ?_, h4, fun i hi => ?_⟩⟩
  · change o + r.xs.length * 1 ≤ _; omega
  · change (k.drop (o + i * 1)).take 1 = [.i r.xs[i]]
    rw [Nat.mul_one, List.take_one, List.head?_drop, h5 i hi]; rfl
theorem OR.of {p : Nat → Prop} {H : Heap} {v : AV} {xs : List Int} (h : Sl p H v xs) (hne : xs ≠ []) : ∃ b, v.blk = some b ∧ Rep.rep p H [v] (⟨b, xs⟩ : OR) := by
  rcases h with ⟨_, rfl⟩ | ⟨b, o, c, k, rfl, h1, h2, h3, h4, h5⟩
  · exact absurd rfl hne
  · refine ⟨b, rfl, o, c, k, rfl, h1, h2, ?_, h4, fun i hi => ?_⟩
    · change o + xs.length * 1 ≤ _ at h3; simpa using h3
    · have := h5 i hi
      change (k.drop (o + i * 1)).take 1 = [.i xs[i]] at this
      rw [Nat.mul_one] at this
      exact take1 this
/-- a table of the call's own, from L on; its rows apart -/
def MT (L : Nat) (H : Heap) (v : AV) (t : List (List Int)) : Prop :=
  ∃ rs : List OR, rs.map (·.xs) = t ∧ (rs.map (·.b)).Nodup ∧ Acc L (fun b => L ≤ b) H v rs
section
variable {L lo : Nat} {p : Nat → Prop} {H H' : Heap} {v : AV} {t : List (List Int)}
theorem MT.sl (h : MT L H v t) : Sl (fun b => L ≤ b) H v t := by
  obtain ⟨rs, rfl, _, h⟩ := h
  rcases h with ⟨rfl, rfl⟩ | ⟨b, o, c, k, rfl, hb, hk, h1, h2, h3⟩
  · exact .inl ⟨rfl, rfl⟩
  · refine .inr ⟨b, o, c, k, by rw [List.length_map]; rfl, hb, hk, by rw [List.length_map]; exact h1, by rwa [List.length_map], fun i hi => ?_⟩
    have hi' : i < rs.length := by simpa using hi
    have := h3 i hi'
    obtain ⟨u, e, hs⟩ := OR.sl this
    refine ⟨u, e, ?_⟩
    have e2 : (rs.map (·.xs))[i]'hi = rs[i].xs := by simp
    rw [e2]; exact hs.weak fun _ h => h.1
theorem MT.nil : MT L H .nils [] := ⟨[], rfl, List.nodup_nil, Acc.nil⟩
theorem MT.kp (h : MT L H v t) (hk : Kp (fun b => L ≤ b) H H') : MT L H' v t := by
  obtain ⟨rs, e, hn, h⟩ := h
  exact ⟨rs, e, hn, h.mono (hk.weak fun b hb => hb.elim id id) fun _ h => h⟩
theorem MT.gr (h : MT L H v t) (hg : Gr H H') : MT L H' v t := h.kp hg.all.weakT
theorem MT.blk_lt (h : MT L H v t) {b : Nat} (e : v.blk = some b) : L ≤ b ∧ b < H.length := by
  obtain ⟨rs, _, _, h⟩ := h
  exact h.blk_lt e
theorem MT.rows_lt (h : MT L H v t) : ∃ rs : List OR, rs.map (·.xs) = t ∧ (rs.map (·.b)).Nodup ∧ Acc L (fun b => L ≤ b) H v rs ∧ ∀ r ∈ rs, r.b < H.length := by
  obtain ⟨rs, e, hn, h⟩ := h
  refine ⟨rs, e, hn, h, fun r hr => ?_⟩
  rcases h with ⟨rfl, rfl⟩ | ⟨b, o, c, k, rfl, hb, hk, h1, h2, h3⟩
  · cases hr
  · obtain ⟨i, hi, rfl⟩ := List.mem_iff_getElem.1 hr
    obtain ⟨_, _, _, _, _, h4, _⟩ := h3 i hi
    exact (List.getElem?_eq_some_iff.1 h4).1
theorem MT.push {n : Nat} {y : AV} {x : List Int} {Q : AV × Heap → Prop} {H0 : Heap} (h : MT L H0 v t) (hg : Gr H0 H) (hlo : lo ≤ L) (hL : L ≤ H0.length) (hy : Sl (fun b => H0.length ≤ b) H y x) (hne : x ≠ []) (hb : (t.length + 1) * 24 ≤ 1099511627776)
    (go : ∀ v' H', MT L H' v' (t ++ [x]) → Kp (fun b => v.blk ≠ some b) H H' → Q (v', H')) (hn : n = H.length := by first | rfl | simp) :
    @optP _ (appendV lo 1 24 v (.s 1 n 0 1 (some 1)) (H ++ [.cells [y]])) ⟨Q⟩ := by
  subst hn
  obtain ⟨rs, rfl, hn, ha, hrl⟩ := h.rows_lt
  obtain ⟨b, eb, hr⟩ := OR.of hy hne
  have hbl : H0.length ≤ b := hr.choose_spec.choose_spec.choose_spec.2.1
  refine Acc.push1 (α := OR) (q := fun b => H0.length ≤ b) (cs := [y]) (x := ⟨b, x⟩) (bytes := 24) (ha.gr hg) hlo (Nat.le_trans hL hg.1) hr (fun b hb => ⟨by omega, fun e => ?_⟩) (by simpa using hb) (by omega) fun v' H' h1 h2 _ _ => go v' H' ⟨rs ++ [⟨b, x⟩], by simp, ?_, h1⟩ h2
  · have := (ha.blk_lt e).2; omega
  · rw [List.map_append, List.nodup_append]
    refine ⟨hn, by simp, ?_⟩
    intro c hc d hd
    simp at hd
    subst hd
    obtain ⟨r, hr', rfl⟩ := List.mem_map.1 hc
    intro e
    have := hrl r hr'
    omega
theorem MT.store {Q : Heap → Prop} {i k : Int} {x : Int} (h : MT L H v t) (hlo : lo ≤ L) (h0 : 0 ≤ i) (h1 : i < t.length) (k0 : 0 ≤ k) (k1 : k < (gi t i).length)
    (go : ∀ H', MT L H' v (t.set i.toNat ((gi t i).set k.toNat x)) → Kp (fun b => b < L) H H' → H'.length = H.length → Q H') : @optP _ (stA lo H 1 ((v.get H i).at 1 k) (.i x)) ⟨Q⟩ := by
  obtain ⟨rs, rfl, hn, ha⟩ := h
  obtain ⟨i, rfl⟩ := Int.eq_ofNat_of_zero_le h0
  have hi : i < rs.length := by simp at h1; omega
  have eg : gi (rs.map (·.xs)) (i : Int) = rs[i].xs := by rw [gi_nat (by simpa using hi)]; simp
  rw [eg] at k1 go
  rcases ha with ⟨rfl, rfl⟩ | ⟨b, o, c, ks, rfl, hb, hk, q1, q2, q3⟩
  · simp at hi
  · obtain ⟨o', c', k', e1, ⟨pb, nb⟩, hk', q4, q5, q6⟩ := q3 i hi
    change (ks.drop (o + i * 1)).take 1 = _ at e1
    rw [Nat.mul_one] at e1
    have e2 := take1 e1
    have eget : AV.get H (.s (Rep.sz OR) b o rs.length c) (i : Int) = .s 1 rs[i].b o' rs[i].xs.length c' := by
      change (ld H b (o + i * 1)).getD .un = _
      simp only [ld, hk, Nat.mul_one, e2]; rfl
    have hkl : k.toNat < rs[i].xs.length := by omega
    have hst : stA lo H 1 ((AV.get H (.s (Rep.sz OR) b o rs.length c) (i : Int)).at 1 k) (.i x) = some (H.set rs[i].b (.cells (k'.set (o' + k.toNat) (.i x)))) := by
      rw [eget]
      simp only [stA, AV.at, zx130, List.length_singleton, List.all_cons, List.all_nil, zx140, Bool.and_self, and_self, if_true]
      rw [st_of hk' (by omega) (by simp; omega)]
      simp [wr]
    refine ⟨_, hst, go _ ⟨rs.set i ⟨rs[i].b, rs[i].xs.set k.toNat x⟩, ?_, ?_, .inr ⟨b, o, c, ks, by simp, hb, ?_, by rw [List.length_set]; exact q1, by rw [List.length_set]; exact q2, fun j hj => ?_⟩⟩ ?_ (by simp)⟩
    · simp [List.map_set]
    · have : (rs.set i ⟨rs[i].b, rs[i].xs.set k.toNat x⟩).map (·.b) = rs.map (·.b) := by
        rw [List.map_set]
        apply List.ext_getElem (by simp)
        intro j h1 h2
        simp only [List.getElem_set, List.getElem_map]
        split
        · rename_i e; subst e; rfl
        · rfl
      rw [this]; exact hn
    · rw [List.getElem?_set_ne nb]; exact hk
    · have hj' : j < rs.length := by simpa using hj
      by_cases e : i = j
      · subst e
        simp only [List.getElem_set_self]
        refine ⟨o', c', k'.set (o' + k.toNat) (.i x), ?_, ⟨pb, nb⟩, get_set hk', by simpa using q4, by simpa using q5, fun m hm => ?_⟩
        · change (ks.drop (o + i * 1)).take 1 = _; rw [Nat.mul_one, e1]; simp
        · have hm' : m < rs[i].xs.length := by simpa using hm
          by_cases em : k.toNat = m
          · subst em
            rw [List.getElem?_set_self (by omega)]; simp
          · rw [List.getElem?_set_ne (by omega)]
            simp only [List.getElem_set]
            rw [if_neg em]; exact q6 m hm'
      · rw [List.getElem_set_ne e]
        obtain ⟨oj, cj, kj, ej, ⟨pj, nj⟩, hkj, r1⟩ := q3 j hj'
        refine ⟨oj, cj, kj, ej, ⟨pj, nj⟩, ?_, r1⟩
        have hne : rs[i].b ≠ rs[j].b := by
          intro eb
          have hnn := List.pairwise_iff_getElem.1 hn
          rcases Nat.lt_or_gt_of_ne e with hlt | hlt
          · exact hnn i j (by simpa using hi) (by simpa using hj') hlt (by simpa using eb)
          · exact hnn j i (by simpa using hj') (by simpa using hi) hlt (by simpa using eb.symm)
        rw [List.getElem?_set_ne hne]; exact hkj
    · exact (Kp.set _ _ _).weak fun b' hb' e => by omega
/-- a table of the call's own, as a result -/
structure OT where
  t : List (List Int)
instance : RV OT where
  rv p H v x := ∃ rs : List OR, rs.map (·.xs) = x.t ∧ (rs.map (·.b)).Nodup ∧ ((v = .nils ∧ rs = []) ∨ ∃ b o c k, v = .s 1 b o rs.length c ∧ p b ∧ H[b]? = some (.cells k) ∧ o + rs.length ≤ k.length ∧ rs.length ≤ 9223372036854775807 ∧ ∀ (i : Nat) (h : i < rs.length), Rep.rep (fun b' => p b' ∧ b' ≠ b) H ((k.drop (o + i)).take 1) rs[i])
  mono := by
    rintro p q H H' v x ⟨rs, e, hn, h⟩ hk hq
    refine ⟨rs, e, hn, ?_⟩
    rcases h with h | ⟨b, o, c, k, rfl, hb, hk1, h1, h2, h3⟩
    · exact .inl h
    · exact .inr ⟨b, o, c, k, rfl, hq b hb, hk.2 b k hb hk1, h1, h2, fun i hi => Rep.mono (h3 i hi) (hk.weak fun _ h => h.1) fun b h => ⟨hq b h.1, h.2⟩⟩
  pure := by
    rintro p q H H' v x ⟨rs, e, hn, h⟩ hp
    rcases h with h | ⟨b, o, c, k, rfl, _⟩
    · exact ⟨rs, e, hn, .inl h⟩
    · simp [AV.pure] at hp
theorem MT.rv (h : MT L H v t) (hp : ∀ b, L ≤ b → p b) : RV.rv p H v (OT.mk t) := by
  obtain ⟨rs, e, hn, h⟩ := h
  refine ⟨rs, e, hn, ?_⟩
  rcases h with h | ⟨b, o, c, k, rfl, hb, hk1, h1, h2, h3⟩
  · exact .inl h
  · refine .inr ⟨b, o, c, k, rfl, hp b hb, hk1, by change o + rs.length * 1 ≤ _ at h1; simpa using h1, h2, fun i hi => ?_⟩
    have := h3 i hi
    change Rep.rep _ H ((k.drop (o + i * 1)).take 1) _ at this
    rw [Nat.mul_one] at this
    exact Rep.mono this (Kp.refl _ _) fun b h => ⟨hp b h.1, h.2⟩
theorem MT.of (h : RV.rv p H v (OT.mk t)) (hp : ∀ b, p b → L ≤ b) : MT L H v t := by
  obtain ⟨rs, e, hn, h⟩ := h
  refine ⟨rs, e, hn, ?_⟩
  rcases h with h | ⟨b, o, c, k, rfl, hb, hk1, h1, h2, h3⟩
  · exact .inl h
  · refine .inr ⟨b, o, c, k, rfl, hp b hb, hk1, by change o + rs.length * 1 ≤ _; simpa using h1, h2, fun i hi => ?_⟩
    change Rep.rep _ H ((k.drop (o + i * 1)).take 1) _
    rw [Nat.mul_one]
    exact Rep.mono (h3 i hi) (Kp.refl _ _) fun b h => ⟨hp b h.1, h.2⟩
end
/-- one more than the number of a slice's block -/
def AV.bd : AV → Nat
  | .s _ q _ _ _ => q + 1
  | _ => 0
theorem Sl.bd {α : Type} [Rep α] {p : Nat → Prop} {H : Heap} {v : AV} {xs : List α} (h : Sl p H v xs) : v.bd ≤ H.length := by
  rcases h with ⟨rfl, rfl⟩ | ⟨b, o, c, k, rfl, _, hk, _⟩
  · exact Nat.zero_le _
  · exact (List.getElem?_eq_some_iff.1 hk).1
theorem zx186 {A B : Heap} {v : AV} {n : Option Nat} {es : Nat} {k : Int} (h : v.bd ≤ A.length) : ldA (A ++ B) n (v.at es k) = ldA A n (v.at es k) := by
  cases v <;> try rfl
  rename_i e b o m c
  have hb : b < A.length := h
  cases n <;> simp [ldA, AV.at, ld, ldn, List.getElem?_append_left hb]
theorem zx187 {A B : Heap} {v : AV} {k : Int} (h : v.bd ≤ A.length) : AV.get (A ++ B) v k = AV.get A v k := by
  cases v <;> try rfl
  rename_i e b o m c
  have hb : b < A.length := h
  simp [AV.get, ld, List.getElem?_append_left hb]
theorem RetP.go {E : Tab} {f : Nat} {vs : List AV} {H : Heap} {v : AV} (h : RetP E f vs H v) {lo : Nat} {Q : AV → Heap → Prop} (hq : Q v H) : @callP E lo f vs H ⟨Q⟩ := by
  rw [h.call]; exact hq
end Go.AM

namespace Go.AM
open Go

/-- the blocks of which p holds stay just as they are -/
def Kx (p : Nat → Prop) (H H' : Heap) : Prop := H.length ≤ H'.length ∧ ∀ b, b < H.length → p b → H'[b]? = H[b]?
section
variable {p q : Nat → Prop} {H H1 H2 H' : Heap}
theorem Kx.refl (p : Nat → Prop) (H : Heap) : Kx p H H := ⟨Nat.le_refl _, fun _ _ _ => rfl⟩
theorem Kx.trans (h : Kx p H H1) (h' : Kx q H1 H2) (hq : ∀ b, b < H.length → p b → q b) : Kx p H H2 :=
  ⟨Nat.le_trans h.1 h'.1, fun b hb hp => by rw [h'.2 b (Nat.lt_of_lt_of_le hb h.1) (hq b hb hp), h.2 b hb hp]⟩
theorem Kx.weak (h : Kx p H H') (hq : ∀ b, b < H.length → q b → p b) : Kx q H H' := ⟨h.1, fun b hb hp => h.2 b hb (hq b hb hp)⟩
theorem Kx.app (p : Nat → Prop) (H N : Heap) : Kx p H (H ++ N) := ⟨by simp, fun b hb _ => List.getElem?_append_left hb⟩
theorem Kx.app' (h : Kx p H H') (N : Heap) : Kx p H (H' ++ N) := h.trans (Kx.app (fun _ => True) _ _) fun _ _ _ => trivial
theorem Kx.set (b : Nat) (H : Heap) (k : Blk) : Kx (fun b' => b' ≠ b) H (H.set b k) := ⟨by simp, fun b' _ hne => by rw [List.getElem?_set_ne (Ne.symm hne)]⟩
theorem Kx.set' (h : Kx p H H') {b : Nat} (hb : b < H.length → ¬ p b) (k : Blk) : Kx p H (H'.set b k) := h.trans (Kx.set b H' k) fun b' hl hp e => hb (e ▸ hl) (e ▸ hp)
theorem Kx.kp (h : Kx p H H') : Kp p H H' := ⟨h.1, fun b k hp hk => by rw [h.2 b (List.getElem?_eq_some_iff.1 hk).1 hp]; exact hk⟩
theorem Kx.get (h : Kx p H H') {b : Nat} {k : Blk} (hp : p b) (hk : H[b]? = some k) : H'[b]? = some k := by rw [h.2 b (List.getElem?_eq_some_iff.1 hk).1 hp]; exact hk
end

/-! ### Items -/
/-- what belongs to the caller behind a round: what did, the item, and what the round laid -/
def Kn (K Ki : Nat → Prop) (H1 H2 : Heap) (b : Nat) : Prop := K b ∨ Ki b ∨ (H1.length ≤ b ∧ b < H2.length)
section
variable {E : Tab} {lo : Nat} {y : AV} {B : Nat} {X : Type} {A : (Nat → Prop) → Heap → List AV → X → Prop}
theorem WpV.mono {fv : AV} {vs : List AV} {H : Heap} {P P' : AV → Heap → Prop} (h : WpV E lo fv vs H P) (hq : ∀ v H, P v H → P' v H) : WpV E lo fv vs H P' := by
  obtain ⟨n, v, H', h1, h2⟩ := h
  exact ⟨n, v, H', h1, hq _ _ h2⟩
/-- the items are told one by one: K are the caller's blocks; what is older than B, and they, are kept between rounds; a round keeps what is not the caller's -/
def Its (E : Tab) (lo : Nat) (y : AV) (B : Nat) (A : (Nat → Prop) → Heap → List AV → X → Prop) (Q : Bool → (Nat → Prop) → Heap → Prop) : List X → (Nat → Prop) → Heap → Prop
  | [], K, H => ∀ H1, Kx (fun b => b < B ∨ K b) H H1 → Q true K H1
  | x :: xs, K, H => ∀ H1 Ki args, Kx (fun b => b < B ∨ K b) H H1 → A Ki H1 args x → (∀ b, Ki b → B ≤ b ∧ b < H1.length ∧ ¬ K b) →
      WpV E lo y args H1 fun v H2 => Kx (fun b => ¬ (K b ∨ Ki b)) H1 H2 ∧
        ((v = .b true ∧ Its E lo y B A Q xs (Kn K Ki H1 H2) H2) ∨ (v = .b false ∧ ∀ H3, Kx (fun b => b < B ∨ Kn K Ki H1 H2 b) H2 H3 → Q false (Kn K Ki H1 H2) H3))
theorem Its.keep {Q : Bool → (Nat → Prop) → Heap → Prop} {xs : List X} {K : Nat → Prop} {H H1 : Heap} (h : Its E lo y B A Q xs K H) (hk : Kx (fun b => b < B ∨ K b) H H1) : Its E lo y B A Q xs K H1 := by
  cases xs with
  | nil => exact fun H2 h2 => h H2 (hk.trans h2 fun _ _ h => h)
  | cons x xs => exact fun H2 Ki args h2 => h H2 Ki args (hk.trans h2 fun _ _ h => h)
theorem Its.append {Q : Bool → (Nat → Prop) → Heap → Prop} {ys : List X} : ∀ {xs : List X} {K : Nat → Prop} {H : Heap}, Its E lo y B A Q (xs ++ ys) K H →
    Its E lo y B A (fun ok K' H' => (ok = true → Its E lo y B A Q ys K' H') ∧ (ok = false → Q false K' H')) xs K H
  | [], K, H, h => fun H1 hk => ⟨fun _ => Its.keep h hk, fun e => nomatch e⟩
  | x :: xs, K, H, h => fun H1 Ki args hk ha hf => (h H1 Ki args hk ha hf).mono fun v H2 ⟨hx, hc⟩ => by
    refine ⟨hx, ?_⟩
    rcases hc with ⟨e, h1⟩ | ⟨e, h1⟩
    · exact .inl ⟨e, Its.append h1⟩
    · exact .inr ⟨e, fun H3 h3 => ⟨nofun, fun _ => h1 H3 h3⟩⟩
theorem Its.none {Q : Bool → (Nat → Prop) → Heap → Prop} {K : Nat → Prop} {H : Heap} (h : Its E lo y B A Q [] K H) : Q true K H := h H (Kx.refl _ _)
end

/-! ### Rounds -/
section
variable {E : Tab} {lo : Nat} {rd : Option Nat} {k : List AI} {a : Fr} {H : Heap} {Q : Out → Fr → Heap → Prop}
theorem WpV.yl {l : Nat} {args : List AV} {P : AV → Heap → Prop} {p : Option Jmp} {nt : Nat} {fr : Fr} {ps : List Nat} {asg body : ACode} (hl : H[l]? = some (.loop .ready p nt fr ps asg body)) (hlo : lo ≤ l) (hn : args.length = ps.length)
    (h : Wp E lo (some l) [.code asg, .begin, .code body] (setPs fr ps args) H fun out _ H2 => ∃ p' nt' fr' ps' asg' body', H2[l]? = some (.loop .busy p' nt' fr' ps' asg' body') ∧ P (.b out.jmp.isNone) (H2.set l (.loop (if out.jmp.isNone then .ready else .done) out.jmp nt' fr' ps' asg' body'))) : WpV E lo (.yl l) args H P := by
  obtain ⟨n, out, a', H2, h1, p', nt', fr', ps', asg', body', h2, h3⟩ := h
  refine ⟨n, _, _, ?_, h3⟩
  unfold callV roundA
  simp only [hl, hn, hlo, and_self, if_true, h1, h2]
theorem Wp.rangeF {nt : Nat} {x : AX} {ps : List Nat} {asg body : ACode} {f : Nat} {us caps : List AV} (hx : ev a x = .fn f us caps) (hm : mayLoop lo rd H = true)
    (h : WpF E lo f (us ++ .yl H.length :: caps) (H ++ [.loop .ready none nt a ps asg body]) fun _ H' =>
      (∃ nt' fr' ps' asg' body', H'[H.length]? = some (.loop .ready none nt' fr' ps' asg' body') ∧ Wp E lo rd k a (H'.set H.length .dead) Q) ∨
      (∃ j nt' fr' ps' asg' body', H'[H.length]? = some (.loop .done (some j) nt' fr' ps' asg' body') ∧ Wp E lo rd (.code j.code :: k) a (H'.set H.length .dead) Q)) : Wp E lo rd (.code (.rangeF nt x ps asg body) :: k) a H Q := by
  obtain ⟨n, v, H', h1, h2⟩ := h
  rcases h2 with ⟨nt', fr', ps', asg', body', h3, m, o, a2, H2, h4, h5⟩ | ⟨j, nt', fr', ps', asg', body', h3, m, o, a2, H2, h4, h5⟩
  · refine Wp.step ⟨max n m, o, a2, H2, ?_, h5⟩
    simp only [stepR, hm, if_true, hx, callF_mono (R_le E (Nat.le_max_left n m)) h1, Option.bind_some, h3]
    exact R_le E (Nat.le_max_right n m) _ _ _ _ _ _ h4
  · refine Wp.step ⟨max n m, o, a2, H2, ?_, h5⟩
    simp only [stepR, hm, if_true, hx, callF_mono (R_le E (Nat.le_max_left n m)) h1, Option.bind_some, h3]
    exact R_le E (Nat.le_max_right n m) _ _ _ _ _ _ h4
theorem zx188 {l : Nat} {p : Option Jmp} {nt : Nat} {fr : Fr} {ps : List Nat} {asg body : ACode} (hl : H[l]? = some (.loop .ready p nt fr ps asg body)) (hlo : lo ≤ l) : Wp E lo (some l) (.begin :: k) a H Q = Wp E lo (some l) k a (H.set l (.loop .busy p nt fr ps asg body)) Q := by
  apply propext
  rw [Wp_iff]
  simp only [stepR, hl, hlo, if_true]
  exact Iff.rfl

/-- **a range over a function, with what holds between rounds**: K0 the caller's blocks that its body may write (not the loop's record) -/
theorem Wp.range {X : Type} {A : (Nat → Prop) → Heap → List AV → X → Prop} {nt : Nat} {x : AX} {ps : List Nat} {asg body : ACode} {f : Nat} {us caps : List AV} (xs : List X) (K0 : Nat → Prop)
    (I : Nat → (Nat → Prop) → Heap → Prop) (S : Jmp → (Nat → Prop) → Heap → Prop)
    (hx : ev a x = .fn f us caps) (hm : mayLoop lo rd H = true) (hlo : lo ≤ H.length) (hK0 : ∀ b, K0 b → b < H.length)
    (hA : ∀ Ki H1 args x, A Ki H1 args x → args.length = ps.length)
    (it : ∀ (K : Nat → Prop) (H1 : Heap) (Q : Bool → (Nat → Prop) → Heap → Prop), H1.length = H.length + 1 → Kx (fun _ => True) H H1 → (∀ b, K b ↔ K0 b ∨ b = H.length) → Its E lo (.yl H.length) (H.length + 1) A Q xs K H1 →
      WpF E lo f (us ++ .yl H.length :: caps) H1 fun _ H' => ∃ ok K', Q ok K' H')
    (st : ∀ i K H1 H2, I i K H1 → Kx (fun b => b < H.length ∨ K b) H1 H2 → I i K H2)
    (sst : ∀ j K H1 H2, S j K H1 → Kx (fun b => b < H.length ∨ K b) H1 H2 → S j K H2)
    (h0 : I 0 K0 H)
    (step : ∀ (i : Nat) (hi : i < xs.length) (K Ki : Nat → Prop) (args : List AV) (H1 : Heap), I i K H1 → A Ki H1 args xs[i] → (∀ b, Ki b → H.length < b ∧ b < H1.length ∧ ¬ K b) → (∀ b, K b → b < H1.length ∧ b ≠ H.length) →
      Kx (fun b => b < H.length ∧ ¬ K0 b) H H1 → H.length < H1.length → H1[H.length]? = some (.loop .ready none nt a ps asg body) → (∀ b, b < H.length → (K b ↔ K0 b)) →
      Wp E lo (some H.length) [.code asg, .begin, .code body] (setPs a ps args) H1 fun out _ H2 =>
        H2[H.length]? = some (.loop .busy none nt a ps asg body) ∧ Kx (fun b => ¬ (K b ∨ Ki b) ∧ b ≠ H.length) H1 H2 ∧
        (match out.jmp with | none => I (i + 1) (Kn K Ki H1 H2) H2 | some j => S j (Kn K Ki H1 H2) H2))
    (fin : ∀ K H', I xs.length K H' → Kx (fun b => b < H.length ∧ ¬ K0 b) H H' → H.length < H'.length → Wp E lo rd k a H' Q)
    (stop : ∀ j K H', S j K H' → Kx (fun b => b < H.length ∧ ¬ K0 b) H H' → H.length < H'.length → Wp E lo rd (.code j.code :: k) a H' Q) :
    Wp E lo rd (.code (.rangeF nt x ps asg body) :: k) a H Q := by
  have key : ∀ (n i : Nat), xs.length - i = n → i ≤ xs.length → ∀ (K K' : Nat → Prop) (H1 : Heap), (∀ b, K' b ↔ K b ∨ b = H.length) → I i K H1 → H1[H.length]? = some (.loop .ready none nt a ps asg body) → (∀ b, K b → b < H1.length ∧ b ≠ H.length) → H.length < H1.length → Kx (fun b => b < H.length ∧ ¬ K0 b) H H1 → (∀ b, b < H.length → (K b ↔ K0 b)) →
      Its E lo (.yl H.length) (H.length + 1) A (fun ok _ H' => H.length < H'.length ∧ Kx (fun b => b < H.length ∧ ¬ K0 b) H H' ∧ (ok = true → ∃ K, (∀ b, K b → b ≠ H.length) ∧ I xs.length K H' ∧ H'[H.length]? = some (.loop .ready none nt a ps asg body)) ∧ (ok = false → ∃ K j, (∀ b, K b → b ≠ H.length) ∧ S j K H' ∧ H'[H.length]? = some (.loop .done (some j) nt a ps asg body))) (xs.drop i) K' H1 := by
    intro n
    induction n with
    | zero =>
      intro i e hi K K' H1 hK' hI hl hK hH hkk h00
      have : i = xs.length := by omega
      subst this
      rw [List.drop_length]
      intro H2 h2
      refine ⟨by have := h2.1; omega, hkk.trans h2 fun b _ h => .inl (by omega), fun _ => ⟨K, fun b hb => (hK b hb).2, st _ _ _ _ hI (h2.weak fun b _ h => h.elim (fun h => .inl (by omega)) fun h => .inr ((hK' b).2 (.inl h))), h2.get (.inl (by omega)) hl⟩, nofun⟩
    | succ n ih =>
      intro i e hi K K' H1 hK' hI hl hK hH hkk h00
      have hi' : i < xs.length := by omega
      rw [List.drop_eq_getElem_cons hi']
      intro H2 Ki args h2 ha hf
      have hH2 : H.length < H2.length := by have := h2.1; omega
      have hI2 : I i K H2 := st _ _ _ _ hI (h2.weak fun b _ h => h.elim (fun h => .inl (by omega)) fun h => .inr ((hK' b).2 (.inl h)))
      have hl2 := h2.get (Or.inl (Nat.lt_succ_self _)) hl
      have hKi : ∀ b, Ki b → H.length < b ∧ b < H2.length ∧ ¬ K b := fun b hb => ⟨(hf b hb).1, (hf b hb).2.1, fun h => (hf b hb).2.2 ((hK' b).2 (.inl h))⟩
      have hK2 : ∀ b, K b → b < H2.length ∧ b ≠ H.length := fun b hb => ⟨by have := (hK b hb).1; have := h2.1; omega, (hK b hb).2⟩
      have hkk2 : Kx (fun b => b < H.length ∧ ¬ K0 b) H H2 := hkk.trans h2 fun b _ h => .inl (by omega)
      refine WpV.yl hl2 hlo (hA _ _ _ _ ha) ((step i hi' K Ki args H2 hI2 ha hKi hK2 hkk2 hH2 hl2 h00).mono fun out a' H3 ⟨q1, q2, q3⟩ => ⟨none, nt, a, ps, asg, body, q1, ?_, ?_⟩)
      · refine Kx.set' (q2.weak fun b _ h => ⟨fun hh => h (hh.elim (fun hh => .inl ((hK' b).2 (.inl hh))) .inr), fun e => h (.inl ((hK' b).2 (.inr e)))⟩) (fun _ h => h (.inl ((hK' _).2 (.inr rfl)))) _
      · have hkn : ∀ b, Kn K' Ki H2 (H3.set H.length (.loop (if out.jmp.isNone then .ready else .done) out.jmp nt a ps asg body)) b ↔ Kn K Ki H2 H3 b ∨ b = H.length := by
          intro b
          simp only [Kn, List.length_set, hK']
          constructor
          · rintro ((h | h) | h | h)
            · exact .inl (.inl h)
            · exact .inr h
            · exact .inl (.inr (.inl h))
            · exact .inl (.inr (.inr h))
          · rintro ((h | h | h) | h)
            · exact .inl (.inl h)
            · exact .inr (.inl h)
            · exact .inr (.inr h)
            · exact .inl (.inr h)
        have hne : ∀ b, Kn K Ki H2 H3 b → b ≠ H.length := by
          rintro b (h | h | h)
          · exact (hK2 b h).2
          · have := (hKi b h).1; omega
          · omega
        have h23 := q2.1
        have hset : Kx (fun b => b < H.length ∨ Kn K Ki H2 H3 b) H3 (H3.set H.length (.loop (if out.jmp.isNone then .ready else .done) out.jmp nt a ps asg body)) :=
          (Kx.set _ _ _).weak fun b _ h => h.elim (fun h => by omega) (hne b)
        have hkk3 : Kx (fun b => b < H.length ∧ ¬ K0 b) H (H3.set H.length (.loop (if out.jmp.isNone then .ready else .done) out.jmp nt a ps asg body)) :=
          (hkk2.trans q2 fun b hb h => ⟨fun hh => hh.elim (fun hh => h.2 ((h00 b h.1).1 hh)) fun hh => by have := (hKi b hh).1; omega, by omega⟩).set' (fun _ h => by omega) _
        have hgl : (H3.set H.length (.loop (if out.jmp.isNone then .ready else .done) out.jmp nt a ps asg body))[H.length]? = some (.loop (if out.jmp.isNone then .ready else .done) out.jmp nt a ps asg body) := get_set q1
        cases hj : out.jmp with
        | none =>
          simp only [hj, Option.isNone_none, if_true] at q3 hkn hset hkk3 hgl ⊢
          refine .inl ⟨trivial, ih (i + 1) (by omega) (by omega) (Kn K Ki H2 H3) _ _ hkn (st _ _ _ _ q3 hset) hgl ?_ (by simp; omega) hkk3 ?_⟩
          · intro b hb
            refine ⟨?_, hne b hb⟩
            rw [List.length_set]
            rcases hb with h | h | h
            · have := (hK2 b h).1; omega
            · have := (hKi b h).2.1; omega
            · omega
          · intro b hb
            refine ⟨?_, fun h => .inl ((h00 b hb).2 h)⟩
            rintro (h | h | h)
            · exact (h00 b hb).1 h
            · have := (hKi b h).1; omega
            · omega
        | some j =>
          simp only [hj, Option.isNone_some, Bool.false_eq_true, if_false] at q3 hkn hset hkk3 hgl ⊢
          refine .inr ⟨trivial, fun H4 h4 => ⟨by have := h4.1; rw [List.length_set] at this; omega, hkk3.trans h4 fun b _ h => .inl (by omega), nofun, fun _ => ⟨Kn K Ki H2 H3, j, hne, sst _ _ _ _ q3 (hset.trans h4 fun b _ h => h.elim (fun h => .inl (by omega)) fun h => .inr ((hkn b).2 (.inl h))), h4.get (.inl (Nat.lt_succ_self _)) hgl⟩⟩⟩
  refine Wp.rangeF hx hm ?_
  have hK0' : ∀ b, K0 b → b < (H ++ [Blk.loop .ready none nt a ps asg body]).length ∧ b ≠ H.length := fun b hb => by have := hK0 b hb; simp; omega
  have hh0 : Kx (fun _ => True) H (H ++ [.loop .ready none nt a ps asg body]) := Kx.app _ _ _
  refine (it (fun b => K0 b ∨ b = H.length) _ _ (by simp) hh0 (fun b => Iff.rfl) (key _ 0 rfl (Nat.zero_le _) K0 _ _ (fun b => Iff.rfl) (st _ _ _ _ h0 (hh0.weak fun _ _ _ => trivial)) get_last hK0' (by simp) (hh0.weak fun _ _ _ => trivial) fun b _ => Iff.rfl)).mono ?_
  rintro v H' ⟨ok, _, hl, hkk, ht, hf⟩
  have hd : ∀ (K : Nat → Prop), (∀ b, K b → b ≠ H.length) → Kx (fun b => b < H.length ∨ K b) H' (H'.set H.length .dead) := fun K hK => (Kx.set _ _ _).weak fun b _ h => h.elim (fun h => by omega) (hK b)
  have hkd : Kx (fun b => b < H.length ∧ ¬ K0 b) H (H'.set H.length .dead) := hkk.set' (fun h => by omega) _
  cases ok with
  | true =>
    obtain ⟨K, h1, h2, h3⟩ := ht rfl
    exact .inl ⟨_, _, _, _, _, h3, fin K _ (st _ _ _ _ h2 (hd K h1)) hkd (by simpa using hl)⟩
  | false =>
    obtain ⟨K, j, h1, h2, h3⟩ := hf rfl
    exact .inr ⟨j, _, _, _, _, _, h3, stop j K _ (sst _ _ _ _ h2 (hd K h1)) hkd (by simpa using hl)⟩
end

/-! ### A slice cut to its length, with one element more in new memory -/
theorem Sl.ints {p : Nat → Prop} {H : Heap} {v : AV} {xs : List Int} (h : Sl p H v xs) : Go.AM.cellsOf 1 xs.length v H = some (xs.map AV.i) := by
  obtain ⟨cs, h1, h2, h3⟩ := h.cellsOf
  change cs.length = xs.length * 1 at h2
  have : cs = xs.map AV.i := by
    apply List.ext_getElem (by simp; omega)
    intro i h4 h5
    have := h3 i (by omega)
    change (cs.drop (i * 1)).take 1 = [.i xs[i]] at this
    rw [Nat.mul_one] at this
    have := take1 this
    rw [List.getElem?_eq_getElem h4] at this
    simpa using this
  rw [this] at h1; exact h1
theorem Sl.clip {p : Nat → Prop} {H : Heap} {v : AV} {xs : List Int} (h : Sl p H v xs) (hb : (xs.length + 1) * 8 ≤ 1099511627776) :
    ∃ u, (∀ (l : Option AV), (l = none ∨ l = some (.i 0)) → slV 1 v l (some (.i xs.length)) (some (.i xs.length)) = some u) ∧ ∀ (lo n : Nat) (x : Int), n = H.length →
      appendV lo 1 8 u (.s 1 n 0 1 (some 1)) (H ++ [.cells [.i x]]) = some (.s 1 (H.length + 1) 0 (xs.length + 1) none, H ++ [.cells [.i x], .cells ((xs ++ [x]).map AV.i)]) := by
  have hmb : mostBytes = 1099511627776 := by decide
  have hc := h.ints
  rcases h with ⟨rfl, rfl⟩ | ⟨b, o, c, k, rfl, hbp, hk, h1, h2, h3⟩
  · refine ⟨.nils, fun l hl => by rcases hl with rfl | rfl <;> rfl, fun lo n x hn => ?_⟩
    subst hn
    simp [appendV, appendA, Go.AM.lenA, Go.AM.cellsOf, ldn, hmb]
  · change o + xs.length * 1 ≤ k.length at h1
    refine ⟨.s 1 b (if xs.length = 0 then o else o) xs.length (some xs.length), fun l hl => ?_, fun lo n x hn => ?_⟩
    · have e1 : boundV (some (.i xs.length)) xs.length xs.length = some xs.length := by simp [boundV]
      have e2 : boundV l 0 xs.length = some 0 := by rcases hl with rfl | rfl <;> simp [boundV]
      simp only [slV, Go.AM.lenA, e1, e2, Option.isSome_some, if_true, sliceA]
      rw [if_neg (by intro e; exact e rfl), if_pos ⟨Nat.le_refl _, Nat.le_refl _, Nat.zero_le _⟩]
      simp
    · subst hn
      have hbl : b < H.length := (List.getElem?_eq_some_iff.1 hk).1
      have e3 : (k.drop o).take xs.length = xs.map AV.i := by
        change (if xs.length ≤ xs.length ∧ 1 = 1 then (if xs.length = 0 then some [] else ldn H b o (xs.length * 1)) else none) = _ at hc
        rw [if_pos ⟨Nat.le_refl _, rfl⟩] at hc
        by_cases h0 : xs.length = 0
        · rw [List.length_eq_zero_iff] at h0; subst h0; simp
        · rw [if_neg h0, ldn_of hk, if_pos h1, Nat.mul_one] at hc
          exact Option.some.inj hc
      simp only [ite_self, appendV, Go.AM.lenA, Go.AM.cellsOf, Nat.le_refl, and_self, if_true, Nat.one_ne_zero, if_false, Nat.mul_one]
      rw [zx120 (Nat.le_refl _), Nat.sub_self, zx121, if_pos (by simp)]
      simp only [appendA, ne_eq, not_true_eq_false, if_false, Nat.one_ne_zero, if_true]
      rw [List.getElem?_append_left hbl, hk]
      simp only []
      rw [if_pos ⟨by omega, by rw [hmb]; exact hb⟩]
      simp [e3]
theorem WpF.wrt {E : Tab} {lo f : Nat} {af : AFunc} {vs : List AV} {H : Heap} {P : AV → Heap → Prop} (hk : E.kd f = .wrt) (hf : E.fn f = some af) (hn : vs.length = af.nargs)
    (h : Wp E lo none [.code af.body] (initFr vs) H (RetQ af.res P)) : WpF E lo f vs H P := by
  refine WpF.of_wrt hk hf hn (h.mono fun o a' H' hq => ?_)
  cases o with
  | exit id => exact hq.elim
  | done => exact ⟨.inl rfl, hq⟩
  | ret => exact ⟨.inr rfl, hq⟩
/-- an item that is a slice of whole numbers -/
def ArgI (Ki : Nat → Prop) (H : Heap) (args : List AV) (x : List Int) : Prop := ∃ v, args = [v] ∧ Sl Ki H v x
theorem Sl.own {p : Nat → Prop} {H : Heap} {v : AV} {xs : List Int} (h : Sl p H v xs) : Sl (fun b => v.blk = some b) H v xs := by
  rcases h with h | ⟨b, o, c, k, rfl, hbp, hk, h1, h2, h3⟩
  · exact .inl h
  · exact .inr ⟨b, o, c, k, rfl, rfl, hk, h1, h2, fun i hi => h3 i hi⟩
theorem Sl.blkp {α : Type} [Rep α] {p : Nat → Prop} {H : Heap} {v : AV} {xs : List α} (h : Sl p H v xs) {b : Nat} (e : v.blk = some b) : p b ∧ b < H.length := by
  rcases h with ⟨rfl, _⟩ | ⟨b', o, c, k, rfl, hb, hk, _⟩
  · cases e
  · cases e; exact ⟨hb, (List.getElem?_eq_some_iff.1 hk).1⟩
/-- a call's result; all blocks stay just as they were -/
theorem Ret.toX {α : Type} [RV α] {E : Tab} {f : Nat} {vs : List AV} {p : Nat → Prop} {H : Heap} {x : α} (h : Ret E f vs p H x) {lo : Nat} {Q : AV → Heap → Prop}
    (hq : ∀ v H', Kx (fun _ => True) H H' → RV.rv (fun b => p b ∨ H.length ≤ b) H' v x → Q v H') : @callP E lo f vs H ⟨Q⟩ := h.go fun v N hv => hq v (H ++ N) (Kx.app _ _ _) hv
theorem Ret.toFX {α : Type} [Rep α] {E : Tab} {f : Nat} {vs : List AV} {H : Heap} {x : List α} (h : Ret E f vs (fun _ => False) H x) {lo : Nat} {Q : AV → Heap → Prop}
    (hq : ∀ v H', Kx (fun _ => True) H H' → Sl (fun b => H.length ≤ b) H' v x → Q v H') : @callP E lo f vs H ⟨Q⟩ := h.toX fun v H' hg hv => hq v H' hg (Sl.weak hv fun b h => h.elim (fun h => h.elim) id)
theorem Kx.all {H H' : Heap} (h : Kx (fun _ => True) H H') (p : Nat → Prop) : Kx p H H' := h.weak fun _ _ _ => trivial
theorem zx189 {a : Fr} {p : Nat} {ps : List Nat} {v : AV} {vs : List AV} : setPs a (p :: ps) (v :: vs) = setPs (a.upd p v) ps vs := (rfl)
theorem zx190 {a : Fr} {vs : List AV} : setPs a [] vs = a := (rfl)
theorem mayL {lo l : Nat} {H : Heap} {s : LSt} {p : Option Jmp} {nt : Nat} {fr : Fr} {ps : List Nat} {asg body : ACode} (hl : H[l]? = some (.loop s p nt fr ps asg body)) (hlo : lo ≤ l) : mayLoop lo (some l) H = true := by
  simp [mayLoop, hl, hlo]
theorem appendV_kx {lo es bytes : Nat} {v x : AV} {H : Heap} {r : AV × Heap} (h : appendV lo es bytes v x H = some r) : Kx (fun b => v.blk ≠ some b) H r.2 := by
  unfold appendV at h
  split at h
  · split at h
    · unfold appendA at h
      split at h
      · split at h
        · cases h; exact Kx.refl _ _
        · split at h
          · cases h; exact Kx.app _ _ _
          · cases h
      · split at h
        · cases h
        · split at h
          · cases h; exact Kx.refl _ _
          · split at h
            · split at h
              · split at h
                · cases h; exact Kx.app _ _ _
                · split at h
                  · cases h; exact (Kx.set _ _ _).weak (fun b _ hb e => hb (by simp [AV.blk, e])) |>.app' _
                  · cases h
              · cases h
            · cases h
      · cases h
    · cases h
  · cases h
/-- a slice that grows: all blocks but its old one stay just as they were -/
theorem appX {lo es bytes : Nat} {v x : AV} {H : Heap} {Q : AV × Heap → Prop} (h : @optP _ (appendV lo es bytes v x H) ⟨fun r => Kx (fun b => v.blk ≠ some b) H r.2 → Q r⟩) : @optP _ (appendV lo es bytes v x H) ⟨Q⟩ := by
  obtain ⟨r, e, hq⟩ := h
  exact ⟨r, e, hq (appendV_kx e)⟩
end Go.AM
namespace Go.AM
/-- the steps, ahead of what is within -/
theorem wD : type_of% (And.intro (And.intro (And.intro (And.intro (And.intro (And.intro @zx0 @zx1) (And.intro @zx2 @zx3)) (And.intro (And.intro @zx4 @zx5) (And.intro @zx6 (And.intro @zx7 @zx8)))) (And.intro (And.intro (And.intro @zx9 @zx10) (And.intro @zx11 (And.intro @zx12 @zx13))) (And.intro (And.intro @zx14 @zx15) (And.intro @zx16 (And.intro @zx17 @zx18))))) (And.intro (And.intro (And.intro (And.intro @zx19 @zx20) (And.intro @zx21 (And.intro @zx22 @zx23))) (And.intro (And.intro @zx24 @zx25) (And.intro @zx26 (And.intro @zx27 @zx28)))) (And.intro (And.intro (And.intro @zx29 @zx30) (And.intro @zx31 (And.intro @zx32 @zx33))) (And.intro (And.intro @zx34 @zx35) (And.intro @zx36 (And.intro @zx37 @zx38)))))) (And.intro (And.intro (And.intro (And.intro (And.intro @zx39 @zx40) (And.intro @zx41 (And.intro @zx42 @zx43))) (And.intro (And.intro @zx44 @zx45) (And.intro @zx46 (And.intro @zx50 @zx51)))) (And.intro (And.intro (And.intro @zx52 @zx53) (And.intro @zx54 (And.intro @zx191 @zx192))) (And.intro (And.intro @zx193 @zx194) (And.intro @zx55 (And.intro @zx56 @zx57))))) (And.intro (And.intro (And.intro (And.intro @zx58 @zx68) (And.intro @zx69 (And.intro @zx70 @zx73))) (And.intro (And.intro @zx74 @zx75) (And.intro @zx76 (And.intro @zx77 @zx78)))) (And.intro (And.intro (And.intro @zx79 @zx80) (And.intro @zx104 (And.intro @zx105 @zx163))) (And.intro (And.intro @zx164 @zx165) (And.intro @zx166 (And.intro @zx167 @zx188))))))) := (And.intro (And.intro (And.intro (And.intro (And.intro (And.intro @zx0 @zx1) (And.intro @zx2 @zx3)) (And.intro (And.intro @zx4 @zx5) (And.intro @zx6 (And.intro @zx7 @zx8)))) (And.intro (And.intro (And.intro @zx9 @zx10) (And.intro @zx11 (And.intro @zx12 @zx13))) (And.intro (And.intro @zx14 @zx15) (And.intro @zx16 (And.intro @zx17 @zx18))))) (And.intro (And.intro (And.intro (And.intro @zx19 @zx20) (And.intro @zx21 (And.intro @zx22 @zx23))) (And.intro (And.intro @zx24 @zx25) (And.intro @zx26 (And.intro @zx27 @zx28)))) (And.intro (And.intro (And.intro @zx29 @zx30) (And.intro @zx31 (And.intro @zx32 @zx33))) (And.intro (And.intro @zx34 @zx35) (And.intro @zx36 (And.intro @zx37 @zx38)))))) (And.intro (And.intro (And.intro (And.intro (And.intro @zx39 @zx40) (And.intro @zx41 (And.intro @zx42 @zx43))) (And.intro (And.intro @zx44 @zx45) (And.intro @zx46 (And.intro @zx50 @zx51)))) (And.intro (And.intro (And.intro @zx52 @zx53) (And.intro @zx54 (And.intro @zx191 @zx192))) (And.intro (And.intro @zx193 @zx194) (And.intro @zx55 (And.intro @zx56 @zx57))))) (And.intro (And.intro (And.intro (And.intro @zx58 @zx68) (And.intro @zx69 (And.intro @zx70 @zx73))) (And.intro (And.intro @zx74 @zx75) (And.intro @zx76 (And.intro @zx77 @zx78)))) (And.intro (And.intro (And.intro @zx79 @zx80) (And.intro @zx104 (And.intro @zx105 @zx163))) (And.intro (And.intro @zx164 @zx165) (And.intro @zx166 (And.intro @zx167 @zx188)))))))
/-- the steps, behind -/
theorem wU : type_of% (And.intro (And.intro (And.intro (And.intro (And.intro (And.intro (And.intro @zx184 @zx185) (And.intro @zx179 (And.intro @zx180 @zx181))) (And.intro (And.intro @zx182 @zx183) (And.intro @zx176 (And.intro @zx177 @zx178)))) (And.intro (And.intro (And.intro @zx47 @zx48) (And.intro @zx49 (And.intro @zx173 @zx174))) (And.intro (And.intro @zx175 (And.intro @zx59 @zx60)) (And.intro @zx61 (And.intro @zx62 @zx63))))) (And.intro (And.intro (And.intro (And.intro @zx64 @zx65) (And.intro @zx66 (And.intro @zx67 @zx71))) (And.intro (And.intro @zx72 @yx0) (And.intro @zx81 (And.intro @zx82 @zx83)))) (And.intro (And.intro (And.intro @zx84 @zx85) (And.intro @zx86 (And.intro @zx87 @zx88))) (And.intro (And.intro @zx89 (And.intro @zx90 @zx91)) (And.intro @zx92 (And.intro @yx1 @yx2)))))) (And.intro (And.intro (And.intro (And.intro (And.intro @zx93 @zx94) (And.intro @zx95 (And.intro @zx96 @zx97))) (And.intro (And.intro @zx98 @zx99) (And.intro @zx100 (And.intro @zx101 @zx102)))) (And.intro (And.intro (And.intro @zx103 @zx106) (And.intro @zx107 (And.intro @zx108 @zx109))) (And.intro (And.intro @zx110 (And.intro @zx111 @zx112)) (And.intro @yx3 (And.intro @zx186 @zx187))))) (And.intro (And.intro (And.intro (And.intro @zx113 @zx114) (And.intro @zx115 (And.intro @zx116 @zx117))) (And.intro (And.intro @zx118 (And.intro @zx119 @zx120)) (And.intro @zx121 (And.intro @zx122 @zx123)))) (And.intro (And.intro (And.intro @zx124 @zx125) (And.intro @zx126 (And.intro @zx127 @zx128))) (And.intro (And.intro @zx129 (And.intro @zx130 @zx131)) (And.intro @zx132 (And.intro @zx133 @zx134))))))) (And.intro (And.intro (And.intro (And.intro (And.intro (And.intro @zx135 @zx136) (And.intro @zx137 (And.intro @zx138 @zx139))) (And.intro (And.intro @zx140 @zx141) (And.intro @zx142 (And.intro @zx143 @zx144)))) (And.intro (And.intro (And.intro @zx145 @zx146) (And.intro @zx147 (And.intro @zx148 @zx149))) (And.intro (And.intro @zx152 (And.intro @zx153 @zx154)) (And.intro @zx155 (And.intro @zx156 @zx157))))) (And.intro (And.intro (And.intro (And.intro @zx158 @yx4) (And.intro @yx5 (And.intro @yx6 @yx7))) (And.intro (And.intro @yx8 @yx9) (And.intro @yx10 (And.intro @yx11 @yx12)))) (And.intro (And.intro (And.intro @yx13 @yx14) (And.intro @yx15 (And.intro @yx16 @yx17))) (And.intro (And.intro @yx18 (And.intro @yx19 @yx20)) (And.intro @yx21 (And.intro @yx22 @yx23)))))) (And.intro (And.intro (And.intro (And.intro (And.intro @yx24 @yx25) (And.intro @yx26 (And.intro @yx27 @yx28))) (And.intro (And.intro @yx29 @yx30) (And.intro @yx31 (And.intro @yx32 @yx33)))) (And.intro (And.intro (And.intro @yx34 @yx35) (And.intro @yx36 (And.intro @yx37 @yx38))) (And.intro (And.intro @yx39 (And.intro @yx40 @yx41)) (And.intro @zx168 (And.intro @zx169 @yx42))))) (And.intro (And.intro (And.intro (And.intro @yx43 @yx45) (And.intro @yx46 (And.intro @yx47 @yx48))) (And.intro (And.intro @yx49 (And.intro @yx50 @yx51)) (And.intro @yx52 (And.intro @yx53 @yx54)))) (And.intro (And.intro (And.intro @yx55 @yx56) (And.intro @yx57 (And.intro @zx170 @zx171))) (And.intro (And.intro @yx58 (And.intro @yx59 @zx172)) (And.intro @yx60 (And.intro @zx189 @zx190)))))))) := (And.intro (And.intro (And.intro (And.intro (And.intro (And.intro (And.intro @zx184 @zx185) (And.intro @zx179 (And.intro @zx180 @zx181))) (And.intro (And.intro @zx182 @zx183) (And.intro @zx176 (And.intro @zx177 @zx178)))) (And.intro (And.intro (And.intro @zx47 @zx48) (And.intro @zx49 (And.intro @zx173 @zx174))) (And.intro (And.intro @zx175 (And.intro @zx59 @zx60)) (And.intro @zx61 (And.intro @zx62 @zx63))))) (And.intro (And.intro (And.intro (And.intro @zx64 @zx65) (And.intro @zx66 (And.intro @zx67 @zx71))) (And.intro (And.intro @zx72 @yx0) (And.intro @zx81 (And.intro @zx82 @zx83)))) (And.intro (And.intro (And.intro @zx84 @zx85) (And.intro @zx86 (And.intro @zx87 @zx88))) (And.intro (And.intro @zx89 (And.intro @zx90 @zx91)) (And.intro @zx92 (And.intro @yx1 @yx2)))))) (And.intro (And.intro (And.intro (And.intro (And.intro @zx93 @zx94) (And.intro @zx95 (And.intro @zx96 @zx97))) (And.intro (And.intro @zx98 @zx99) (And.intro @zx100 (And.intro @zx101 @zx102)))) (And.intro (And.intro (And.intro @zx103 @zx106) (And.intro @zx107 (And.intro @zx108 @zx109))) (And.intro (And.intro @zx110 (And.intro @zx111 @zx112)) (And.intro @yx3 (And.intro @zx186 @zx187))))) (And.intro (And.intro (And.intro (And.intro @zx113 @zx114) (And.intro @zx115 (And.intro @zx116 @zx117))) (And.intro (And.intro @zx118 (And.intro @zx119 @zx120)) (And.intro @zx121 (And.intro @zx122 @zx123)))) (And.intro (And.intro (And.intro @zx124 @zx125) (And.intro @zx126 (And.intro @zx127 @zx128))) (And.intro (And.intro @zx129 (And.intro @zx130 @zx131)) (And.intro @zx132 (And.intro @zx133 @zx134))))))) (And.intro (And.intro (And.intro (And.intro (And.intro (And.intro @zx135 @zx136) (And.intro @zx137 (And.intro @zx138 @zx139))) (And.intro (And.intro @zx140 @zx141) (And.intro @zx142 (And.intro @zx143 @zx144)))) (And.intro (And.intro (And.intro @zx145 @zx146) (And.intro @zx147 (And.intro @zx148 @zx149))) (And.intro (And.intro @zx152 (And.intro @zx153 @zx154)) (And.intro @zx155 (And.intro @zx156 @zx157))))) (And.intro (And.intro (And.intro (And.intro @zx158 @yx4) (And.intro @yx5 (And.intro @yx6 @yx7))) (And.intro (And.intro @yx8 @yx9) (And.intro @yx10 (And.intro @yx11 @yx12)))) (And.intro (And.intro (And.intro @yx13 @yx14) (And.intro @yx15 (And.intro @yx16 @yx17))) (And.intro (And.intro @yx18 (And.intro @yx19 @yx20)) (And.intro @yx21 (And.intro @yx22 @yx23)))))) (And.intro (And.intro (And.intro (And.intro (And.intro @yx24 @yx25) (And.intro @yx26 (And.intro @yx27 @yx28))) (And.intro (And.intro @yx29 @yx30) (And.intro @yx31 (And.intro @yx32 @yx33)))) (And.intro (And.intro (And.intro @yx34 @yx35) (And.intro @yx36 (And.intro @yx37 @yx38))) (And.intro (And.intro @yx39 (And.intro @yx40 @yx41)) (And.intro @zx168 (And.intro @zx169 @yx42))))) (And.intro (And.intro (And.intro (And.intro @yx43 @yx45) (And.intro @yx46 (And.intro @yx47 @yx48))) (And.intro (And.intro @yx49 (And.intro @yx50 @yx51)) (And.intro @yx52 (And.intro @yx53 @yx54)))) (And.intro (And.intro (And.intro @yx55 @yx56) (And.intro @yx57 (And.intro @zx170 @zx171))) (And.intro (And.intro @yx58 (And.intro @yx59 @zx172)) (And.intro @yx60 (And.intro @zx189 @zx190))))))))
end Go.AM
