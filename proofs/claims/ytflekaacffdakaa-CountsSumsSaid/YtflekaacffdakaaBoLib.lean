/- Laws of the library, under short names. No condition. -/
import Derived.Test.YtflekaacffdakaaAnA
namespace Go.AM
theorem yx0 : ∀ {α : Type} [inst : BEq α] [ReflBEq α] (a : α), (a == a) = true := @beq_self_eq_true
theorem yx1 : (!true) = false := @Bool.not_true
theorem yx2 : (!false) = true := @Bool.not_false
theorem yx3 : ∀ {α : Type} {β : Type} (a : α) (f : α → Option β), Option.bind (some a) f = f a := @Option.bind_some
theorem yx4 : ∀ {α : Type} {a : α} {l : List α} {f : α → Bool}, List.all (a :: l) f = (f a && List.all l f) := @List.all_cons
theorem yx5 : ∀ {α : Type} {f : α → Bool}, List.all [] f = true := @List.all_nil
theorem yx6 : ∀ (b : Bool), (b || false) = b := @Bool.or_false
theorem yx7 : ∀ (b : Bool), (false || b) = b := @Bool.false_or
theorem yx8 : ∀ (b : Bool), (b || true) = true := @Bool.or_true
theorem yx9 : ∀ (b : Bool), (true || b) = true := @Bool.true_or
theorem yx10 : ∀ (b : Bool), (b && true) = b := @Bool.and_true
theorem yx11 : ∀ (b : Bool), (true && b) = b := @Bool.true_and
theorem yx12 : ∀ (b : Bool), (b && false) = false := @Bool.and_false
theorem yx13 : ∀ (b : Bool), (false && b) = false := @Bool.false_and
theorem yx14 : ∀ (b : Bool), (b && b) = b := @Bool.and_self
theorem yx15 : ∀ (p : Prop), (p ∧ p) = p := @and_self
theorem yx16 : ∀ (p : Prop), (p ∧ True) = p := @and_true
theorem yx17 : ∀ (p : Prop), (True ∧ p) = p := @true_and
theorem yx18 : ∀ {α : Type} {a : α} {as : List α}, List.length (a :: as) = List.length as + 1 := @List.length_cons
theorem yx19 : ∀ {α : Type}, List.length ([] : List α) = 0 := @List.length_nil
theorem yx20 : ∀ {α : Type} {as bs : List α}, List.length (as ++ bs) = List.length as + List.length bs := @List.length_append
theorem yx21 : ∀ {α : Type} {x : α} {xs : List α} {a : α}, List.set (x :: xs) 0 a = a :: xs := @List.set_cons_zero
theorem yx22 : ∀ {α : Type} {x : α} {xs : List α} {i : Nat} {a : α}, List.set (x :: xs) (i + 1) a = x :: List.set xs i a := @List.set_cons_succ
theorem yx23 : ∀ {α : Type} {a : α} {l : List α}, (a :: l)[0]? = some a := @List.getElem?_cons_zero
theorem yx24 : ∀ {α : Type} {a : α} {i : Nat} {l : List α}, (a :: l)[i + 1]? = l[i]? := @List.getElem?_cons_succ
theorem yx25 : ∀ {α : Type} {l₁ l₂ : List α} {i : Nat}, i < List.length l₁ → (l₁ ++ l₂)[i]? = l₁[i]? := @List.getElem?_append_left
theorem yx26 : ∀ {α : Type} {l₁ l₂ : List α} {i : Nat}, List.length l₁ ≤ i → (l₁ ++ l₂)[i]? = l₂[i - List.length l₁]? := @List.getElem?_append_right
theorem yx27 : ∀ {α : Type} (as : List α), [] ++ as = as := @List.nil_append
theorem yx28 : ∀ {α : Type} {a : α} {as bs : List α}, a :: as ++ bs = a :: (as ++ bs) := @List.cons_append
theorem yx29 : ∀ {α : Type} (as : List α), as ++ [] = as := @List.append_nil
theorem yx30 : ∀ {α : Type} {l : List α}, List.drop 0 l = l := @List.drop_zero
theorem yx31 : ∀ {α : Type} {a : α} {l : List α} {i : Nat}, List.drop (i + 1) (a :: l) = List.drop i l := @List.drop_succ_cons
theorem yx32 : ∀ {α : Type} {l : List α}, List.take 0 l = [] := @List.take_zero
theorem yx33 : ∀ {α : Type} {a : α} {as : List α} {i : Nat}, List.take (i + 1) (a :: as) = a :: List.take i as := @List.take_succ_cons
theorem yx34 : ∀ {α : Type} {i : Nat}, List.take i ([] : List α) = [] := @List.take_nil
theorem yx35 : ∀ (n : Nat), n - n = 0 := @Nat.sub_self
theorem yx36 : ∀ (n m : Nat), n + m - n = m := @Nat.add_sub_cancel_left
theorem yx37 : ∀ (n : Nat), 0 + n = n := @Nat.zero_add
theorem yx38 : ∀ (n : Nat), n + 0 = n := @Nat.add_zero
theorem yx39 : ∀ (n : Nat), n ≤ n := @Nat.le_refl
theorem yx40 : ∀ (n : Nat), 0 * n = 0 := @Nat.zero_mul
theorem yx41 : ∀ (n : Nat), n * 1 = n := @Nat.mul_one
theorem yx42 : ∀ (n m : Nat), ((n + m : Nat) : Int) = (n : Int) + (m : Int) := @Int.natCast_add
theorem yx43 : ((1 : Nat) : Int) = 1 := @Int.natCast_one
theorem yx45 : ((0 : Nat) : Int) = 0 := @Int.natCast_zero
theorem yx46 : ∀ {α : Type} {c : Prop} {d : Decidable c} (a : α), (if c then a else a) = a := @ite_self
theorem yx47 : ∀ {α : Type} [inst : BEq α] [LawfulBEq α] (a : α), (a != a) = false := @bne_self_eq_false
theorem yx48 : ∀ {α : Type} {β : Type} {f : α → β} {a : α} {l : List α}, List.map f (a :: l) = f a :: List.map f l := @List.map_cons
theorem yx49 : ∀ {α : Type} {β : Type} {f : α → β}, List.map f [] = [] := @List.map_nil
theorem yx50 : ∀ {α : Type} {β : Type} (a : α) (f : α → β), Option.map f (some a) = some (f a) := @Option.map_some
theorem yx51 : ∀ {α : Type} {β : Type} (f : α → β), Option.map f none = none := @Option.map_none
theorem yx52 : ∀ {α : Type} {x : Decidable True} (t e : α), (if True then t else e) = t := @if_true
theorem yx53 : ∀ {α : Type} {x : Decidable False} (t e : α), (if False then t else e) = e := @if_false
theorem yx54 : (false = true) = False := @Bool.false_eq_true
theorem yx55 : (true = false) = False := @Bool.true_eq_false
theorem yx56 : ∀ (h : Decidable True), decide True = true := @decide_true
theorem yx57 : ∀ (h : Decidable False), decide False = false := @decide_false
theorem yx58 : (¬True) = False := @not_true_eq_false
theorem yx59 : (¬False) = True := @not_false_eq_true
theorem yx60 : ∀ (n : Nat), (n : Int).toNat = n := @Int.toNat_natCast
end Go.AM
