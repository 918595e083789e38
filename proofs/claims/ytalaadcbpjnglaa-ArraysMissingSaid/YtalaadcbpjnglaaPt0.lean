/- What the law needs: what its functions do, and the laws on lists behind it. No condition. -/
import Derived.Test.YtalaadcbpjnglaaPi
import Derived.Test.YtalaadcbpjnglaaBo
import Derived.KernelRfl
import Derived.WalkKit
import Derived.ProofKit
import Derived.OpenShut
import Derived.ShutString
import Derived.ChangeOld
import Derived.Below
import Derived.SizedLaws
import Derived.Carry
set_option linter.unusedSimpArgs false
set_option linter.unusedVariables false
namespace Go.Proofs.Ytalaadcbpjnglaa
open Go Go.AM Go.Proofs
theorem equal_ret {p q : Nat → Prop} {H : Heap} {v u : AV} {xs ys : List Int} (hx : Sl p H v xs) (hy : Sl q H u ys) : RetP E 55 [v, u] H (.b (decide (xs = ys))) := by
  refine RetP.ro rfl fn55 rfl rfl ?_
  unfold f55A
  have hbx := hx.bound
  repeat' (first | refine condP_split (fun _ => ?_) (fun _ => ?_) | refine guardP_split (fun _ => ?_) (fun _ => ?_) | refine guardP_splitF (fun _ => ?_) (fun _ => ?_) | (simp (disch := (first | assumption | omega | (simp only [List.length_append, List.length_cons, List.length_nil]; omega))) only [↓wD,wU,Nat.reduceBEq,zx150,zx151,zx159,zx160,zx161,zx162,Nat.reduceAdd,Nat.reduceSub,Nat.reduceMul,Nat.reduceLeDiff,Nat.reduceLT,Nat.reduceEqDiff,Int.reduceAdd,Int.reduceSub,Int.reduceMul,Int.reduceNeg,Int.reduceLT,Int.reduceLE,Int.reduceEq,Int.reduceToNat,Int.cast_ofNat_Int,↓reduceIte, *, hx.I, hy.I]))
  · exact avb_f fun h => by simp_all
  · have hl : xs.length = ys.length := by omega
    refine Wp.for xs.length (fun i a H' => H' = H ∧ a 0 = v ∧ a 1 = u ∧ a 12 = .i xs.length ∧ a 13 = .i i ∧ xs.take i = ys.take i) ?_ ?_
    · rintro i a H' hi ⟨rfl, h0, h1, h12, h13, hh⟩ ih
      simp (disch := (first | assumption | omega | (simp only [List.length_append, List.length_cons, List.length_nil]; omega))) only [↓wD,wU,Nat.reduceBEq,zx150,zx151,zx159,zx160,zx161,zx162,Nat.reduceAdd,Nat.reduceSub,Nat.reduceMul,Nat.reduceLeDiff,Nat.reduceLT,Nat.reduceEqDiff,Int.reduceAdd,Int.reduceSub,Int.reduceMul,Int.reduceNeg,Int.reduceLT,Int.reduceLE,Int.reduceEq,Int.reduceToNat,Int.cast_ofNat_Int,↓reduceIte, *]
      refine condP_split (fun hlt => ?_) (fun hlt => ?_)
      · have hi' : i < xs.length := by omega
        repeat' (first | refine condP_split (fun _ => ?_) (fun _ => ?_) | refine guardP_split (fun _ => ?_) (fun _ => ?_) | refine guardP_splitF (fun _ => ?_) (fun _ => ?_) | (simp (disch := (first | assumption | omega | (simp only [List.length_append, List.length_cons, List.length_nil]; omega))) only [↓wD,wU,Nat.reduceBEq,zx150,zx151,zx159,zx160,zx161,zx162,Nat.reduceAdd,Nat.reduceSub,Nat.reduceMul,Nat.reduceLeDiff,Nat.reduceLT,Nat.reduceEqDiff,Int.reduceAdd,Int.reduceSub,Int.reduceMul,Int.reduceNeg,Int.reduceLT,Int.reduceLE,Int.reduceEq,Int.reduceToNat,Int.cast_ofNat_Int,↓reduceIte, *, hx.I, hy.I]))
        · exact avb_f fun h => by simp_all
        · refine (ih hi').go ⟨rfl, ?_⟩
          simp (disch := (first | assumption | omega | (simp only [List.length_append, List.length_cons, List.length_nil]; omega))) only [↓wD,wU,Nat.reduceBEq,zx150,zx151,zx159,zx160,zx161,zx162,Nat.reduceAdd,Nat.reduceSub,Nat.reduceMul,Nat.reduceLeDiff,Nat.reduceLT,Nat.reduceEqDiff,Int.reduceAdd,Int.reduceSub,Int.reduceMul,Int.reduceNeg,Int.reduceLT,Int.reduceLE,Int.reduceEq,Int.reduceToNat,Int.cast_ofNat_Int,↓reduceIte, *]
          exact take_eq_succ hh hi' (by omega) (by simp_all)
      · simp (disch := (first | assumption | omega | (simp only [List.length_append, List.length_cons, List.length_nil]; omega))) only [↓wD,wU,Nat.reduceBEq,zx150,zx151,zx159,zx160,zx161,zx162,Nat.reduceAdd,Nat.reduceSub,Nat.reduceMul,Nat.reduceLeDiff,Nat.reduceLT,Nat.reduceEqDiff,Int.reduceAdd,Int.reduceSub,Int.reduceMul,Int.reduceNeg,Int.reduceLT,Int.reduceLE,Int.reduceEq,Int.reduceToNat,Int.cast_ofNat_Int,↓reduceIte, *]
        exact avb_t (take_all hh hl (by omega))
    · (simp (disch := (first | assumption | omega | (simp only [List.length_append, List.length_cons, List.length_nil]; omega))) only [↓wD,wU,Nat.reduceBEq,zx150,zx151,zx159,zx160,zx161,zx162,Nat.reduceAdd,Nat.reduceSub,Nat.reduceMul,Nat.reduceLeDiff,Nat.reduceLT,Nat.reduceEqDiff,Int.reduceAdd,Int.reduceSub,Int.reduceMul,Int.reduceNeg,Int.reduceLT,Int.reduceLE,Int.reduceEq,Int.reduceToNat,Int.cast_ofNat_Int,↓reduceIte, *]) <;> simp
theorem clone_ret {p : Nat → Prop} {H : Heap} {v : AV} {xs : List Int} (hx : Sl p H v xs) (hs : xs.length * 8 ≤ 1099511627776) : Ret E 82 [v] (fun _ => False) H xs := by
  refine Ret.ro rfl fn82 rfl ?_
  unfold f82A
  have main : ∀ {Q : AV × Heap → Prop}, (∀ v' H', Sl (fun b => H.length ≤ b) H' v' xs → Q (v', H')) → @optP _ (appendV H.length 1 8 (.s 1 H.length 0 0 (some 0)) v (H ++ [.cells []])) ⟨Q⟩ := fun {Q} go => by
    have ha : Acc H.length (fun _ => True) (H ++ [.cells []]) (.s 1 H.length 0 0 (some 0)) ([] : List Int) := Acc.fresh0 (Nat.le_refl _)
    refine ha.extend (q := fun b => b < H.length) (Nat.le_refl _) (by simp) ((hx.low.app [.cells []]).weak fun b h => h.2) (fun b hb => ⟨trivial, ?_⟩) (by simpa using hs) (by omega) fun v' H' h' _ => go _ _ ?_
    · intro e; simp only [AV.blk, Option.some.injEq] at e; omega
    · rw [List.nil_append] at h'
      rcases h' with h' | ⟨b, o, c, k, e, hb, hk, h1, h2, h3⟩
      · exact .inl h'
      · exact .inr ⟨b, o, c, k, e, hb, hk, h1, h2, h3⟩
  rcases hx with ⟨rfl, rfl⟩ | ⟨b, o, c, k, e, hb, hk, h1, h2, h3⟩
  · simp (disch := (first | assumption | omega | (simp only [List.length_append, List.length_cons, List.length_nil]; omega))) only [↓wD,wU,Nat.reduceBEq,zx150,zx151,zx159,zx160,zx161,zx162,Nat.reduceAdd,Nat.reduceSub,Nat.reduceMul,Nat.reduceLeDiff,Nat.reduceLT,Nat.reduceEqDiff,Int.reduceAdd,Int.reduceSub,Int.reduceMul,Int.reduceNeg,Int.reduceLT,Int.reduceLE,Int.reduceEq,Int.reduceToNat,Int.cast_ofNat_Int,↓reduceIte, *]
    exact Sl.nil
  · subst e
    simp (disch := (first | assumption | omega | (simp only [List.length_append, List.length_cons, List.length_nil]; omega))) only [↓wD,wU,Nat.reduceBEq,zx150,zx151,zx159,zx160,zx161,zx162,Nat.reduceAdd,Nat.reduceSub,Nat.reduceMul,Nat.reduceLeDiff,Nat.reduceLT,Nat.reduceEqDiff,Int.reduceAdd,Int.reduceSub,Int.reduceMul,Int.reduceNeg,Int.reduceLT,Int.reduceLE,Int.reduceEq,Int.reduceToNat,Int.cast_ofNat_Int,↓reduceIte, *]
    refine main fun v' H' h' => ?_
    simp (disch := (first | assumption | omega | (simp only [List.length_append, List.length_cons, List.length_nil]; omega))) only [↓wD,wU,Nat.reduceBEq,zx150,zx151,zx159,zx160,zx161,zx162,Nat.reduceAdd,Nat.reduceSub,Nat.reduceMul,Nat.reduceLeDiff,Nat.reduceLT,Nat.reduceEqDiff,Int.reduceAdd,Int.reduceSub,Int.reduceMul,Int.reduceNeg,Int.reduceLT,Int.reduceLE,Int.reduceEq,Int.reduceToNat,Int.cast_ofNat_Int,↓reduceIte, *]
    exact h'.weak fun _ h => .inr h
end Go.Proofs.Ytalaadcbpjnglaa
namespace Go.Proofs.Ytalaadcbpjnglaa
open Go Go.AM Go.Proofs
def ChR (v : Int) (r : List Int) : Prop := ∀ x ∈ r, 0 ≤ x ∧ x < v
instance (v : Int) (r : List Int) : Decidable (ChR v r) := by unfold ChR; infer_instance
def RowP (v : Int) (k : Nat) (r : List Int) : Prop := r.length = k ∧ 1 ≤ r.length ∧ r.length ≤ 8 ∧ ChR v r
instance (v : Int) (k : Nat) (r : List Int) : Decidable (RowP v k r) := by unfold RowP; infer_instance
def ArrP (v : Int) (t : List (List Int)) : Prop := 2 ≤ v ∧ v ≤ 4 ∧ 1 ≤ t.length ∧ t.length ≤ 16 ∧ ∀ r ∈ t, RowP v (gi t 0).length r
instance (v : Int) (t : List (List Int)) : Decidable (ArrP v t) := by unfold ArrP; infer_instance
/-- how many columns -/
def wd (t : List (List Int)) : Nat := (gi t 0).length
theorem ArrP.row {v : Int} {t : List (List Int)} (h : ArrP v t) {r : List Int} (hr : r ∈ t) : r.length = wd t ∧ ChR v r := ⟨(h.2.2.2.2 r hr).1, (h.2.2.2.2 r hr).2.2.2⟩
theorem ArrP.wd {v : Int} {t : List (List Int)} (h : ArrP v t) : 1 ≤ wd t ∧ wd t ≤ 8 := by
  have := h.2.2.2.2 (gi t 0) (gi_mem (by omega) (by have := h.2.2.1; omega))
  exact ⟨this.2.1, this.2.2.1⟩
theorem foldl_min_le {xs : List Int} : ∀ {m : Int}, xs.foldl min m ≤ m ∧ ∀ x ∈ xs, xs.foldl min m ≤ x := by
  induction xs with
  | nil => simp
  | cons x xs ih =>
    intro m
    have := ih (m := min m x)
    simp only [List.foldl_cons, List.mem_cons, forall_eq_or_imp]
    exact ⟨by omega, by omega, this.2⟩
theorem foldl_max_ge {xs : List Int} : ∀ {m : Int}, m ≤ xs.foldl max m ∧ ∀ x ∈ xs, x ≤ xs.foldl max m := by
  induction xs with
  | nil => simp
  | cons x xs ih =>
    intro m
    have := ih (m := max m x)
    simp only [List.foldl_cons, List.mem_cons, forall_eq_or_imp]
    exact ⟨by omega, by omega, this.2⟩
theorem foldl_min_mem {xs : List Int} : ∀ {m : Int}, xs.foldl min m = m ∨ xs.foldl min m ∈ xs := by
  induction xs with
  | nil => simp
  | cons x xs ih =>
    intro m
    simp only [List.foldl_cons, List.mem_cons]
    rcases ih (m := min m x) with h | h
    · rw [h]; rcases Int.le_total m x with h1 | h1
      · left; omega
      · right; left; omega
    · exact .inr (.inr h)
theorem foldl_max_mem {xs : List Int} : ∀ {m : Int}, xs.foldl max m = m ∨ xs.foldl max m ∈ xs := by
  induction xs with
  | nil => simp
  | cons x xs ih =>
    intro m
    simp only [List.foldl_cons, List.mem_cons]
    rcases ih (m := max m x) with h | h
    · rw [h]; rcases Int.le_total m x with h1 | h1
      · right; left; omega
      · left; omega
    · exact .inr (.inr h)
def minL (xs : List Int) : Int := (xs.drop 1).foldl min (gi xs 0)
def maxL (xs : List Int) : Int := (xs.drop 1).foldl max (gi xs 0)
theorem minL_spec {xs : List Int} (h : 1 ≤ xs.length) : minL xs ∈ xs ∧ ∀ x ∈ xs, minL xs ≤ x := by
  cases xs with
  | nil => simp at h
  | cons x xs =>
    simp only [minL, zx181, List.drop_succ_cons, List.drop_zero]
    have h1 := foldl_min_le (xs := xs) (m := x)
    refine ⟨?_, fun y hy => ?_⟩
    · rcases foldl_min_mem (xs := xs) (m := x) with h | h
      · rw [h]; simp
      · exact List.mem_cons_of_mem _ h
    · rcases List.mem_cons.1 hy with rfl | hy
      · exact h1.1
      · exact h1.2 y hy
theorem maxL_spec {xs : List Int} (h : 1 ≤ xs.length) : maxL xs ∈ xs ∧ ∀ x ∈ xs, x ≤ maxL xs := by
  cases xs with
  | nil => simp at h
  | cons x xs =>
    simp only [maxL, zx181, List.drop_succ_cons, List.drop_zero]
    have h1 := foldl_max_ge (xs := xs) (m := x)
    refine ⟨?_, fun y hy => ?_⟩
    · rcases foldl_max_mem (xs := xs) (m := x) with h | h
      · rw [h]; simp
      · exact List.mem_cons_of_mem _ h
    · rcases List.mem_cons.1 hy with rfl | hy
      · exact h1.1
      · exact h1.2 y hy
theorem take_drop1 {xs : List Int} {i : Nat} (h1 : 1 ≤ i) (h : i < xs.length) : (xs.take (i + 1)).drop 1 = (xs.take i).drop 1 ++ [gi xs i] := by
  rw [take_gi h, List.drop_append_of_le_length (by rw [List.length_take]; omega)]
theorem minL_take {xs : List Int} {i : Nat} (h1 : 1 ≤ i) (h : i < xs.length) : minL (xs.take (i + 1)) = min (minL (xs.take i)) (gi xs i) := by
  have e : ∀ j, 1 ≤ j → gi (xs.take j) 0 = gi xs 0 := fun j hj => by cases xs with | nil => simp at h | cons x r => cases j with | zero => omega | succ j => rfl
  unfold minL
  rw [take_drop1 h1 h, List.foldl_append, e _ h1, e _ (by omega)]; rfl
theorem maxL_take {xs : List Int} {i : Nat} (h1 : 1 ≤ i) (h : i < xs.length) : maxL (xs.take (i + 1)) = max (maxL (xs.take i)) (gi xs i) := by
  have e : ∀ j, 1 ≤ j → gi (xs.take j) 0 = gi xs 0 := fun j hj => by cases xs with | nil => simp at h | cons x r => cases j with | zero => omega | succ j => rfl
  unfold maxL
  rw [take_drop1 h1 h, List.foldl_append, e _ h1, e _ (by omega)]; rfl
theorem min_ret {p : Nat → Prop} {H : Heap} {v : AV} {xs : List Int} (hx : Sl p H v xs) (h : 1 ≤ xs.length) : RetP E 98 [v] H (.i (minL xs)) := by
  refine RetP.ro rfl fn98 rfl rfl ?_
  unfold f98A
  have hb := hx.bound
  simp (disch := (first | assumption | omega | (simp only [List.length_append, List.length_cons, List.length_nil]; omega))) only [↓wD,wU,Nat.reduceBEq,zx150,zx151,zx159,zx160,zx161,zx162,Nat.reduceAdd,Nat.reduceSub,Nat.reduceMul,Nat.reduceLeDiff,Nat.reduceLT,Nat.reduceEqDiff,Int.reduceAdd,Int.reduceSub,Int.reduceMul,Int.reduceNeg,Int.reduceLT,Int.reduceLE,Int.reduceEq,Int.reduceToNat,Int.cast_ofNat_Int,↓reduceIte, *, hx.I]
  refine Wp.for (xs.length - 1) (fun i a H' => H' = H ∧ a 0 = v ∧ a 4 = .i (i + 1) ∧ a 3 = .i (minL (xs.take (i + 1)))) ?_ ?_
  · rintro i a H' hi ⟨rfl, a0, a4, a3⟩ ih
    simp (disch := (first | assumption | omega | (simp only [List.length_append, List.length_cons, List.length_nil]; omega))) only [↓wD,wU,Nat.reduceBEq,zx150,zx151,zx159,zx160,zx161,zx162,Nat.reduceAdd,Nat.reduceSub,Nat.reduceMul,Nat.reduceLeDiff,Nat.reduceLT,Nat.reduceEqDiff,Int.reduceAdd,Int.reduceSub,Int.reduceMul,Int.reduceNeg,Int.reduceLT,Int.reduceLE,Int.reduceEq,Int.reduceToNat,Int.cast_ofNat_Int,↓reduceIte, *, hx.I]
    refine condP_split (fun hlt => ?_) (fun hlt => ?_)
    · have hi' : i < xs.length - 1 := by omega
      have e := minL_take (xs := xs) (i := i + 1) (by omega) (by omega)
      simp only [Int.natCast_add, Int.natCast_one] at e
      simp (disch := (first | assumption | omega | (simp only [List.length_append, List.length_cons, List.length_nil]; omega))) only [↓wD,wU,Nat.reduceBEq,zx150,zx151,zx159,zx160,zx161,zx162,Nat.reduceAdd,Nat.reduceSub,Nat.reduceMul,Nat.reduceLeDiff,Nat.reduceLT,Nat.reduceEqDiff,Int.reduceAdd,Int.reduceSub,Int.reduceMul,Int.reduceNeg,Int.reduceLT,Int.reduceLE,Int.reduceEq,Int.reduceToNat,Int.cast_ofNat_Int,↓reduceIte, *, hx.I]
      refine (ih hi').go ⟨rfl, ?_⟩
      simp (disch := (first | assumption | omega | (simp only [List.length_append, List.length_cons, List.length_nil]; omega))) only [↓wD,wU,Nat.reduceBEq,zx150,zx151,zx159,zx160,zx161,zx162,Nat.reduceAdd,Nat.reduceSub,Nat.reduceMul,Nat.reduceLeDiff,Nat.reduceLT,Nat.reduceEqDiff,Int.reduceAdd,Int.reduceSub,Int.reduceMul,Int.reduceNeg,Int.reduceLT,Int.reduceLE,Int.reduceEq,Int.reduceToNat,Int.cast_ofNat_Int,↓reduceIte, *]
    · simp (disch := (first | assumption | omega | (simp only [List.length_append, List.length_cons, List.length_nil]; omega))) only [↓wD,wU,Nat.reduceBEq,zx150,zx151,zx159,zx160,zx161,zx162,Nat.reduceAdd,Nat.reduceSub,Nat.reduceMul,Nat.reduceLeDiff,Nat.reduceLT,Nat.reduceEqDiff,Int.reduceAdd,Int.reduceSub,Int.reduceMul,Int.reduceNeg,Int.reduceLT,Int.reduceLE,Int.reduceEq,Int.reduceToNat,Int.cast_ofNat_Int,↓reduceIte, *]
      rw [List.take_of_length_le (by omega)]
  · (simp (disch := (first | assumption | omega | (simp only [List.length_append, List.length_cons, List.length_nil]; omega))) only [↓wD,wU,Nat.reduceBEq,zx150,zx151,zx159,zx160,zx161,zx162,Nat.reduceAdd,Nat.reduceSub,Nat.reduceMul,Nat.reduceLeDiff,Nat.reduceLT,Nat.reduceEqDiff,Int.reduceAdd,Int.reduceSub,Int.reduceMul,Int.reduceNeg,Int.reduceLT,Int.reduceLE,Int.reduceEq,Int.reduceToNat,Int.cast_ofNat_Int,↓reduceIte, *]) <;> first | rfl | skip
    unfold minL
    cases xs with
    | nil => simp at h
    | cons x r => simp [zx181]
theorem max_ret {p : Nat → Prop} {H : Heap} {v : AV} {xs : List Int} (hx : Sl p H v xs) (h : 1 ≤ xs.length) : RetP E 99 [v] H (.i (maxL xs)) := by
  refine RetP.ro rfl fn99 rfl rfl ?_
  unfold f99A
  have hb := hx.bound
  simp (disch := (first | assumption | omega | (simp only [List.length_append, List.length_cons, List.length_nil]; omega))) only [↓wD,wU,Nat.reduceBEq,zx150,zx151,zx159,zx160,zx161,zx162,Nat.reduceAdd,Nat.reduceSub,Nat.reduceMul,Nat.reduceLeDiff,Nat.reduceLT,Nat.reduceEqDiff,Int.reduceAdd,Int.reduceSub,Int.reduceMul,Int.reduceNeg,Int.reduceLT,Int.reduceLE,Int.reduceEq,Int.reduceToNat,Int.cast_ofNat_Int,↓reduceIte, *, hx.I]
  refine Wp.for (xs.length - 1) (fun i a H' => H' = H ∧ a 0 = v ∧ a 4 = .i (i + 1) ∧ a 3 = .i (maxL (xs.take (i + 1)))) ?_ ?_
  · rintro i a H' hi ⟨rfl, a0, a4, a3⟩ ih
    simp (disch := (first | assumption | omega | (simp only [List.length_append, List.length_cons, List.length_nil]; omega))) only [↓wD,wU,Nat.reduceBEq,zx150,zx151,zx159,zx160,zx161,zx162,Nat.reduceAdd,Nat.reduceSub,Nat.reduceMul,Nat.reduceLeDiff,Nat.reduceLT,Nat.reduceEqDiff,Int.reduceAdd,Int.reduceSub,Int.reduceMul,Int.reduceNeg,Int.reduceLT,Int.reduceLE,Int.reduceEq,Int.reduceToNat,Int.cast_ofNat_Int,↓reduceIte, *, hx.I]
    refine condP_split (fun hlt => ?_) (fun hlt => ?_)
    · have hi' : i < xs.length - 1 := by omega
      have e := maxL_take (xs := xs) (i := i + 1) (by omega) (by omega)
      simp only [Int.natCast_add, Int.natCast_one] at e
      simp (disch := (first | assumption | omega | (simp only [List.length_append, List.length_cons, List.length_nil]; omega))) only [↓wD,wU,Nat.reduceBEq,zx150,zx151,zx159,zx160,zx161,zx162,Nat.reduceAdd,Nat.reduceSub,Nat.reduceMul,Nat.reduceLeDiff,Nat.reduceLT,Nat.reduceEqDiff,Int.reduceAdd,Int.reduceSub,Int.reduceMul,Int.reduceNeg,Int.reduceLT,Int.reduceLE,Int.reduceEq,Int.reduceToNat,Int.cast_ofNat_Int,↓reduceIte, *, hx.I]
      refine (ih hi').go ⟨rfl, ?_⟩
      simp (disch := (first | assumption | omega | (simp only [List.length_append, List.length_cons, List.length_nil]; omega))) only [↓wD,wU,Nat.reduceBEq,zx150,zx151,zx159,zx160,zx161,zx162,Nat.reduceAdd,Nat.reduceSub,Nat.reduceMul,Nat.reduceLeDiff,Nat.reduceLT,Nat.reduceEqDiff,Int.reduceAdd,Int.reduceSub,Int.reduceMul,Int.reduceNeg,Int.reduceLT,Int.reduceLE,Int.reduceEq,Int.reduceToNat,Int.cast_ofNat_Int,↓reduceIte, *]
    · simp (disch := (first | assumption | omega | (simp only [List.length_append, List.length_cons, List.length_nil]; omega))) only [↓wD,wU,Nat.reduceBEq,zx150,zx151,zx159,zx160,zx161,zx162,Nat.reduceAdd,Nat.reduceSub,Nat.reduceMul,Nat.reduceLeDiff,Nat.reduceLT,Nat.reduceEqDiff,Int.reduceAdd,Int.reduceSub,Int.reduceMul,Int.reduceNeg,Int.reduceLT,Int.reduceLE,Int.reduceEq,Int.reduceToNat,Int.cast_ofNat_Int,↓reduceIte, *]
      rw [List.take_of_length_le (by omega)]
  · (simp (disch := (first | assumption | omega | (simp only [List.length_append, List.length_cons, List.length_nil]; omega))) only [↓wD,wU,Nat.reduceBEq,zx150,zx151,zx159,zx160,zx161,zx162,Nat.reduceAdd,Nat.reduceSub,Nat.reduceMul,Nat.reduceLeDiff,Nat.reduceLT,Nat.reduceEqDiff,Int.reduceAdd,Int.reduceSub,Int.reduceMul,Int.reduceNeg,Int.reduceLT,Int.reduceLE,Int.reduceEq,Int.reduceToNat,Int.cast_ofNat_Int,↓reduceIte, *]) <;> first | rfl | skip
    unfold maxL
    cases xs with
    | nil => simp at h
    | cons x r => simp [zx181]
end Go.Proofs.Ytalaadcbpjnglaa
namespace Go.Proofs.Ytalaadcbpjnglaa
open Go Go.AM Go.Proofs
theorem chr_min {v : Int} {r : List Int} (h : 1 ≤ r.length) (h1 : 0 ≤ minL r) (h2 : maxL r < v) : ChR v r := fun x hx =>
  ⟨Int.le_trans h1 ((minL_spec h).2 x hx), Int.lt_of_le_of_lt ((maxL_spec h).2 x hx) h2⟩
theorem chr_of {v : Int} {r : List Int} (h : 1 ≤ r.length) (hc : ChR v r) : 0 ≤ minL r ∧ maxL r < v := ⟨(hc _ (minL_spec h).1).1, (hc _ (maxL_spec h).1).2⟩
theorem valid_ret {p : Nat → Prop} {H : Heap} {rows : AV} {v : Int} {t : List (List Int)} (ht : Sl p H rows t) : RetP E 74 [.ag [.i v, rows]] H (.b (decide (ArrP v t))) := by
  refine RetP.ro rfl fn74 rfl rfl ?_
  unfold f74A
  have hb := ht.bound
  by_cases h0 : 2 ≤ v ∧ v ≤ 4 ∧ 1 ≤ t.length ∧ t.length ≤ 16
  · obtain ⟨v1, v2, t1, t2⟩ := h0
    simp (disch := (first | assumption | omega | (simp only [List.length_append, List.length_cons, List.length_nil]; omega))) only [↓wD,wU,Nat.reduceBEq,zx150,zx151,zx159,zx160,zx161,zx162,Nat.reduceAdd,Nat.reduceSub,Nat.reduceMul,Nat.reduceLeDiff,Nat.reduceLT,Nat.reduceEqDiff,Int.reduceAdd,Int.reduceSub,Int.reduceMul,Int.reduceNeg,Int.reduceLT,Int.reduceLE,Int.reduceEq,Int.reduceToNat,Int.cast_ofNat_Int,↓reduceIte, *, ht.L]
    have k1 := ht.app [.cells [.i v, rows]]
    refine Wp.for t.length (fun i a H' => H' = H ++ [.cells [.i v, rows]] ∧ a 1 = .p H.length 0 ∧ a 26 = rows ∧ a 27 = .i t.length ∧ a 28 = .i i ∧ ∀ r ∈ t.take i, RowP v (gi t 0).length r) ?_ ?_
    · rintro i a H' hi ⟨rfl, a1, a26, a27, a28, hh⟩ ih
      simp (disch := (first | assumption | omega | (simp only [List.length_append, List.length_cons, List.length_nil]; omega))) only [↓wD,wU,Nat.reduceBEq,zx150,zx151,zx159,zx160,zx161,zx162,Nat.reduceAdd,Nat.reduceSub,Nat.reduceMul,Nat.reduceLeDiff,Nat.reduceLT,Nat.reduceEqDiff,Int.reduceAdd,Int.reduceSub,Int.reduceMul,Int.reduceNeg,Int.reduceLT,Int.reduceLE,Int.reduceEq,Int.reduceToNat,Int.cast_ofNat_Int,↓reduceIte, *]
      refine condP_split (fun hlt => ?_) (fun hlt => ?_)
      · have hi' : i < t.length := by omega
        have g1 := k1.get (k := (i : Int)) (by omega) (by omega)
        have g0 := k1.get (k := 0) (by omega) (by omega)
        have gb := g1.bound
        have gb0 := g0.bound
        have bad : ¬ RowP v (gi t 0).length (gi t i) → AV.b false = AV.b (decide (ArrP v t)) := fun h => avb_f fun hh => h (hh.2.2.2.2 _ (mem_gi hi'))
        by_cases q1 : 1 ≤ (gi t i).length
        · by_cases q2 : (gi t i).length ≤ 8
          · by_cases q3 : (gi t i).length = (gi t 0).length
            · by_cases q4 : 0 ≤ minL (gi t i)
              · by_cases q5 : maxL (gi t i) < v
                · have q3' : ((gi t i).length : Int) = (gi t 0).length := by omega
                  simp (disch := (first | assumption | omega | (simp only [List.length_append, List.length_cons, List.length_nil]; omega))) only [↓wD,wU,Nat.reduceBEq,zx150,zx151,zx159,zx160,zx161,zx162,Nat.reduceAdd,Nat.reduceSub,Nat.reduceMul,Nat.reduceLeDiff,Nat.reduceLT,Nat.reduceEqDiff,Int.reduceAdd,Int.reduceSub,Int.reduceMul,Int.reduceNeg,Int.reduceLT,Int.reduceLE,Int.reduceEq,Int.reduceToNat,Int.cast_ofNat_Int,↓reduceIte, *, k1.L, g1.I, g0.I, (min_ret g1 q1).call, (max_ret g1 q1).call]
                  refine (ih hi').go ⟨rfl, ?_⟩
                  simp (disch := (first | assumption | omega | (simp only [List.length_append, List.length_cons, List.length_nil]; omega))) only [↓wD,wU,Nat.reduceBEq,zx150,zx151,zx159,zx160,zx161,zx162,Nat.reduceAdd,Nat.reduceSub,Nat.reduceMul,Nat.reduceLeDiff,Nat.reduceLT,Nat.reduceEqDiff,Int.reduceAdd,Int.reduceSub,Int.reduceMul,Int.reduceNeg,Int.reduceLT,Int.reduceLE,Int.reduceEq,Int.reduceToNat,Int.cast_ofNat_Int,↓reduceIte, *]
                  exact mem_take_gi hh hi' ⟨q3, q1, q2, chr_min q1 q4 q5⟩
                · have q3' : ((gi t i).length : Int) = (gi t 0).length := by omega
                  simp (disch := (first | assumption | omega | (simp only [List.length_append, List.length_cons, List.length_nil]; omega))) only [↓wD,wU,Nat.reduceBEq,zx150,zx151,zx159,zx160,zx161,zx162,Nat.reduceAdd,Nat.reduceSub,Nat.reduceMul,Nat.reduceLeDiff,Nat.reduceLT,Nat.reduceEqDiff,Int.reduceAdd,Int.reduceSub,Int.reduceMul,Int.reduceNeg,Int.reduceLT,Int.reduceLE,Int.reduceEq,Int.reduceToNat,Int.cast_ofNat_Int,↓reduceIte, *, k1.L, g1.I, g0.I, (min_ret g1 q1).call, (max_ret g1 q1).call]
                  exact bad fun h => q5 (chr_of q1 h.2.2.2).2
              · have q3' : ((gi t i).length : Int) = (gi t 0).length := by omega
                simp (disch := (first | assumption | omega | (simp only [List.length_append, List.length_cons, List.length_nil]; omega))) only [↓wD,wU,Nat.reduceBEq,zx150,zx151,zx159,zx160,zx161,zx162,Nat.reduceAdd,Nat.reduceSub,Nat.reduceMul,Nat.reduceLeDiff,Nat.reduceLT,Nat.reduceEqDiff,Int.reduceAdd,Int.reduceSub,Int.reduceMul,Int.reduceNeg,Int.reduceLT,Int.reduceLE,Int.reduceEq,Int.reduceToNat,Int.cast_ofNat_Int,↓reduceIte, *, k1.L, g1.I, g0.I, (min_ret g1 q1).call, (max_ret g1 q1).call]
                exact bad fun h => q4 (chr_of q1 h.2.2.2).1
            · have q3' : ¬ ((gi t i).length : Int) = (gi t 0).length := by omega
              simp (disch := (first | assumption | omega | (simp only [List.length_append, List.length_cons, List.length_nil]; omega))) only [↓wD,wU,Nat.reduceBEq,zx150,zx151,zx159,zx160,zx161,zx162,Nat.reduceAdd,Nat.reduceSub,Nat.reduceMul,Nat.reduceLeDiff,Nat.reduceLT,Nat.reduceEqDiff,Int.reduceAdd,Int.reduceSub,Int.reduceMul,Int.reduceNeg,Int.reduceLT,Int.reduceLE,Int.reduceEq,Int.reduceToNat,Int.cast_ofNat_Int,↓reduceIte, *, k1.L, g1.I, g0.I]
              exact bad fun h => q3 h.1
          · simp (disch := (first | assumption | omega | (simp only [List.length_append, List.length_cons, List.length_nil]; omega))) only [↓wD,wU,Nat.reduceBEq,zx150,zx151,zx159,zx160,zx161,zx162,Nat.reduceAdd,Nat.reduceSub,Nat.reduceMul,Nat.reduceLeDiff,Nat.reduceLT,Nat.reduceEqDiff,Int.reduceAdd,Int.reduceSub,Int.reduceMul,Int.reduceNeg,Int.reduceLT,Int.reduceLE,Int.reduceEq,Int.reduceToNat,Int.cast_ofNat_Int,↓reduceIte, *, k1.L, g1.I, g0.I]
            exact bad fun h => q2 h.2.2.1
        · simp (disch := (first | assumption | omega | (simp only [List.length_append, List.length_cons, List.length_nil]; omega))) only [↓wD,wU,Nat.reduceBEq,zx150,zx151,zx159,zx160,zx161,zx162,Nat.reduceAdd,Nat.reduceSub,Nat.reduceMul,Nat.reduceLeDiff,Nat.reduceLT,Nat.reduceEqDiff,Int.reduceAdd,Int.reduceSub,Int.reduceMul,Int.reduceNeg,Int.reduceLT,Int.reduceLE,Int.reduceEq,Int.reduceToNat,Int.cast_ofNat_Int,↓reduceIte, *, k1.L, g1.I, g0.I]
          exact bad fun h => q1 h.2.1
      · simp (disch := (first | assumption | omega | (simp only [List.length_append, List.length_cons, List.length_nil]; omega))) only [↓wD,wU,Nat.reduceBEq,zx150,zx151,zx159,zx160,zx161,zx162,Nat.reduceAdd,Nat.reduceSub,Nat.reduceMul,Nat.reduceLeDiff,Nat.reduceLT,Nat.reduceEqDiff,Int.reduceAdd,Int.reduceSub,Int.reduceMul,Int.reduceNeg,Int.reduceLT,Int.reduceLE,Int.reduceEq,Int.reduceToNat,Int.cast_ofNat_Int,↓reduceIte, *]
        exact avb_t ⟨v1, v2, t1, t2, mem_take_all hh (by omega)⟩
    · (simp (disch := (first | assumption | omega | (simp only [List.length_append, List.length_cons, List.length_nil]; omega))) only [↓wD,wU,Nat.reduceBEq,zx150,zx151,zx159,zx160,zx161,zx162,Nat.reduceAdd,Nat.reduceSub,Nat.reduceMul,Nat.reduceLeDiff,Nat.reduceLT,Nat.reduceEqDiff,Int.reduceAdd,Int.reduceSub,Int.reduceMul,Int.reduceNeg,Int.reduceLT,Int.reduceLE,Int.reduceEq,Int.reduceToNat,Int.cast_ofNat_Int,↓reduceIte, *]) <;> simp
  · have bad : ¬ ArrP v t := fun h => h0 ⟨h.1, h.2.1, h.2.2.1, h.2.2.2.1⟩
    by_cases h1 : v < 2
    · clear h0
      simp (disch := (first | assumption | omega | (simp only [List.length_append, List.length_cons, List.length_nil]; omega))) only [↓wD,wU,Nat.reduceBEq,zx150,zx151,zx159,zx160,zx161,zx162,Nat.reduceAdd,Nat.reduceSub,Nat.reduceMul,Nat.reduceLeDiff,Nat.reduceLT,Nat.reduceEqDiff,Int.reduceAdd,Int.reduceSub,Int.reduceMul,Int.reduceNeg,Int.reduceLT,Int.reduceLE,Int.reduceEq,Int.reduceToNat,Int.cast_ofNat_Int,↓reduceIte, *, ht.L]
    by_cases h2 : 4 < v
    · clear h0
      simp (disch := (first | assumption | omega | (simp only [List.length_append, List.length_cons, List.length_nil]; omega))) only [↓wD,wU,Nat.reduceBEq,zx150,zx151,zx159,zx160,zx161,zx162,Nat.reduceAdd,Nat.reduceSub,Nat.reduceMul,Nat.reduceLeDiff,Nat.reduceLT,Nat.reduceEqDiff,Int.reduceAdd,Int.reduceSub,Int.reduceMul,Int.reduceNeg,Int.reduceLT,Int.reduceLE,Int.reduceEq,Int.reduceToNat,Int.cast_ofNat_Int,↓reduceIte, *, ht.L]
    by_cases h3 : t.length < 1
    · clear h0
      simp (disch := (first | assumption | omega | (simp only [List.length_append, List.length_cons, List.length_nil]; omega))) only [↓wD,wU,Nat.reduceBEq,zx150,zx151,zx159,zx160,zx161,zx162,Nat.reduceAdd,Nat.reduceSub,Nat.reduceMul,Nat.reduceLeDiff,Nat.reduceLT,Nat.reduceEqDiff,Int.reduceAdd,Int.reduceSub,Int.reduceMul,Int.reduceNeg,Int.reduceLT,Int.reduceLE,Int.reduceEq,Int.reduceToNat,Int.cast_ofNat_Int,↓reduceIte, *, ht.L]
    · have h4 : 16 < t.length := by omega
      clear h0
      simp (disch := (first | assumption | omega | (simp only [List.length_append, List.length_cons, List.length_nil]; omega))) only [↓wD,wU,Nat.reduceBEq,zx150,zx151,zx159,zx160,zx161,zx162,Nat.reduceAdd,Nat.reduceSub,Nat.reduceMul,Nat.reduceLeDiff,Nat.reduceLT,Nat.reduceEqDiff,Int.reduceAdd,Int.reduceSub,Int.reduceMul,Int.reduceNeg,Int.reduceLT,Int.reduceLE,Int.reduceEq,Int.reduceToNat,Int.cast_ofNat_Int,↓reduceIte, *, ht.L]
theorem columns_ret {p : Nat → Prop} {H : Heap} {rows : AV} {v : Int} {t : List (List Int)} (ht : Sl p H rows t) (h : 1 ≤ t.length) : RetP E 75 [.ag [.i v, rows]] H (.i (wd t)) := by
  refine RetP.ro rfl fn75 rfl rfl ?_
  unfold f75A
  have k1 := ht.app [.cells [.i v, rows]]
  have g0 := k1.get (k := 0) (by omega) (by omega)
  simp (disch := (first | assumption | omega | (simp only [List.length_append, List.length_cons, List.length_nil]; omega))) only [↓wD,wU,Nat.reduceBEq,zx150,zx151,zx159,zx160,zx161,zx162,Nat.reduceAdd,Nat.reduceSub,Nat.reduceMul,Nat.reduceLeDiff,Nat.reduceLT,Nat.reduceEqDiff,Int.reduceAdd,Int.reduceSub,Int.reduceMul,Int.reduceNeg,Int.reduceLT,Int.reduceLE,Int.reduceEq,Int.reduceToNat,Int.cast_ofNat_Int,↓reduceIte, *, k1.L, g0.I]
  rfl
theorem strong_ret {p : Nat → Prop} {H : Heap} {rows : AV} {v k m : Int} {t : List (List Int)} (ht : Sl p H rows t) : RetP E 86 [.ag [.i v, rows], .i k, .i m] H (.b (decide (ArrP v t ∧ 1 ≤ k ∧ k ≤ m ∧ k ≤ wd t))) := by
  refine RetP.ro rfl fn86 rfl rfl ?_
  unfold f86A
  have k1 := ht.app [.cells [.i v, rows]]
  by_cases h : ArrP v t
  · (repeat' (first | refine condP_split (fun _ => ?_) (fun _ => ?_) | refine guardP_split (fun _ => ?_) (fun _ => ?_) | refine guardP_splitF (fun _ => ?_) (fun _ => ?_) | (simp (disch := (first | assumption | omega | (simp only [List.length_append, List.length_cons, List.length_nil]; omega))) only [↓wD,wU,Nat.reduceBEq,zx150,zx151,zx159,zx160,zx161,zx162,Nat.reduceAdd,Nat.reduceSub,Nat.reduceMul,Nat.reduceLeDiff,Nat.reduceLT,Nat.reduceEqDiff,Int.reduceAdd,Int.reduceSub,Int.reduceMul,Int.reduceNeg,Int.reduceLT,Int.reduceLE,Int.reduceEq,Int.reduceToNat,Int.cast_ofNat_Int,↓reduceIte, *, false_and, and_false, ht.L, (valid_ret k1).call, (columns_ret k1 h.2.2.1).call]))) <;> simp_all
  · (repeat' (first | refine condP_split (fun _ => ?_) (fun _ => ?_) | refine guardP_split (fun _ => ?_) (fun _ => ?_) | refine guardP_splitF (fun _ => ?_) (fun _ => ?_) | (simp (disch := (first | assumption | omega | (simp only [List.length_append, List.length_cons, List.length_nil]; omega))) only [↓wD,wU,Nat.reduceBEq,zx150,zx151,zx159,zx160,zx161,zx162,Nat.reduceAdd,Nat.reduceSub,Nat.reduceMul,Nat.reduceLeDiff,Nat.reduceLT,Nat.reduceEqDiff,Int.reduceAdd,Int.reduceSub,Int.reduceMul,Int.reduceNeg,Int.reduceLT,Int.reduceLE,Int.reduceEq,Int.reduceToNat,Int.cast_ofNat_Int,↓reduceIte, *, false_and, and_false, ht.L, (valid_ret k1).call]))) <;> simp_all
theorem rvalid_ret {p : Nat → Prop} {H : Heap} {rows : AV} {v : Int} {t : List (List Int)} (ht : Sl p H rows t) : RetP E 38 [.ag [.i v, rows]] H (.b (decide (ArrP v t))) := by
  refine RetP.ro rfl fn38 rfl rfl ?_
  unfold f38A
  have hb := ht.bound
  by_cases h0 : 2 ≤ v ∧ v ≤ 4 ∧ 1 ≤ t.length ∧ t.length ≤ 16
  · obtain ⟨v1, v2, t1, t2⟩ := h0
    simp (disch := (first | assumption | omega | (simp only [List.length_append, List.length_cons, List.length_nil]; omega))) only [↓wD,wU,Nat.reduceBEq,zx150,zx151,zx159,zx160,zx161,zx162,Nat.reduceAdd,Nat.reduceSub,Nat.reduceMul,Nat.reduceLeDiff,Nat.reduceLT,Nat.reduceEqDiff,Int.reduceAdd,Int.reduceSub,Int.reduceMul,Int.reduceNeg,Int.reduceLT,Int.reduceLE,Int.reduceEq,Int.reduceToNat,Int.cast_ofNat_Int,↓reduceIte, *, ht.L]
    have k1 := ht.app [.cells [.i v, rows]]
    refine Wp.for t.length (fun i a H' => H' = H ++ [.cells [.i v, rows]] ∧ a 1 = .p H.length 0 ∧ a 28 = rows ∧ a 29 = .i t.length ∧ a 30 = .i i ∧ ∀ r ∈ t.take i, RowP v (gi t 0).length r) ?_ ?_
    · rintro i a H' hi ⟨rfl, a1, a28, a29, a30, hh⟩ ih
      simp (disch := (first | assumption | omega | (simp only [List.length_append, List.length_cons, List.length_nil]; omega))) only [↓wD,wU,Nat.reduceBEq,zx150,zx151,zx159,zx160,zx161,zx162,Nat.reduceAdd,Nat.reduceSub,Nat.reduceMul,Nat.reduceLeDiff,Nat.reduceLT,Nat.reduceEqDiff,Int.reduceAdd,Int.reduceSub,Int.reduceMul,Int.reduceNeg,Int.reduceLT,Int.reduceLE,Int.reduceEq,Int.reduceToNat,Int.cast_ofNat_Int,↓reduceIte, *]
      refine condP_split (fun hlt => ?_) (fun hlt => ?_)
      · have hi' : i < t.length := by omega
        have g1 := k1.get (k := (i : Int)) (by omega) (by omega)
        have g0 := k1.get (k := 0) (by omega) (by omega)
        have gb := g1.bound
        have gb0 := g0.bound
        have bad : ¬ RowP v (gi t 0).length (gi t i) → AV.b false = AV.b (decide (ArrP v t)) := fun h => avb_f fun hh => h (hh.2.2.2.2 _ (mem_gi hi'))
        by_cases q3 : (gi t i).length = (gi t 0).length
        · have q3' : ((gi t i).length : Int) = (gi t 0).length := by omega
          by_cases q1 : 1 ≤ (gi t i).length
          · by_cases q2 : (gi t i).length ≤ 8
            · simp (disch := (first | assumption | omega | (simp only [List.length_append, List.length_cons, List.length_nil]; omega))) only [↓wD,wU,Nat.reduceBEq,zx150,zx151,zx159,zx160,zx161,zx162,Nat.reduceAdd,Nat.reduceSub,Nat.reduceMul,Nat.reduceLeDiff,Nat.reduceLT,Nat.reduceEqDiff,Int.reduceAdd,Int.reduceSub,Int.reduceMul,Int.reduceNeg,Int.reduceLT,Int.reduceLE,Int.reduceEq,Int.reduceToNat,Int.cast_ofNat_Int,↓reduceIte, *, k1.L, g1.I, g0.I]
              refine Wp.for (gi t i).length (fun j a H' => H' = H ++ [.cells [.i v, rows]] ∧ a 1 = .p H.length 0 ∧ a 28 = rows ∧ a 29 = .i t.length ∧ a 30 = .i i ∧ a 52 = rows.get (H ++ [.cells [.i v, rows]]) i ∧ (∃ n : Int, a 53 = .i n ∧ n ≤ (gi t i).length ∧ (gi t i).length ≤ n) ∧ a 54 = .i j ∧ ChR v ((gi t i).take j)) ?_ ?_
              · rintro j a H' hj ⟨rfl, a1, a28, a29, a30, a52, ⟨n, a53, n1, n2⟩, a54, hh2⟩ ih2
                simp (disch := (first | assumption | omega | (simp only [List.length_append, List.length_cons, List.length_nil]; omega))) only [↓wD,wU,Nat.reduceBEq,zx150,zx151,zx159,zx160,zx161,zx162,Nat.reduceAdd,Nat.reduceSub,Nat.reduceMul,Nat.reduceLeDiff,Nat.reduceLT,Nat.reduceEqDiff,Int.reduceAdd,Int.reduceSub,Int.reduceMul,Int.reduceNeg,Int.reduceLT,Int.reduceLE,Int.reduceEq,Int.reduceToNat,Int.cast_ofNat_Int,↓reduceIte, *]
                refine condP_split (fun hlt2 => ?_) (fun hlt2 => ?_)
                · have hj' : j < (gi t i).length := by omega
                  have bad2 : ¬ (0 ≤ gi (gi t i) j ∧ gi (gi t i) j < v) → AV.b false = AV.b (decide (ArrP v t)) := fun h => bad fun hh => h (hh.2.2.2 _ (mem_gi hj'))
                  (repeat' (first | refine condP_split (fun _ => ?_) (fun _ => ?_) | refine guardP_split (fun _ => ?_) (fun _ => ?_) | refine guardP_splitF (fun _ => ?_) (fun _ => ?_) | (simp (disch := (first | assumption | omega | (simp only [List.length_append, List.length_cons, List.length_nil]; omega))) only [↓wD,wU,Nat.reduceBEq,zx150,zx151,zx159,zx160,zx161,zx162,Nat.reduceAdd,Nat.reduceSub,Nat.reduceMul,Nat.reduceLeDiff,Nat.reduceLT,Nat.reduceEqDiff,Int.reduceAdd,Int.reduceSub,Int.reduceMul,Int.reduceNeg,Int.reduceLT,Int.reduceLE,Int.reduceEq,Int.reduceToNat,Int.cast_ofNat_Int,↓reduceIte, *, g1.I]))) <;> first | exact bad2 (by omega) | skip
                  refine (ih2 hj').go ⟨rfl, ?_⟩
                  simp (disch := (first | assumption | omega | (simp only [List.length_append, List.length_cons, List.length_nil]; omega))) only [↓wD,wU,Nat.reduceBEq,zx150,zx151,zx159,zx160,zx161,zx162,Nat.reduceAdd,Nat.reduceSub,Nat.reduceMul,Nat.reduceLeDiff,Nat.reduceLT,Nat.reduceEqDiff,Int.reduceAdd,Int.reduceSub,Int.reduceMul,Int.reduceNeg,Int.reduceLT,Int.reduceLE,Int.reduceEq,Int.reduceToNat,Int.cast_ofNat_Int,↓reduceIte, *]
                  exact ⟨⟨n, rfl, by omega, by omega⟩, mem_take_gi (P := fun x => 0 ≤ x ∧ x < v) hh2 hj' (by omega)⟩
                · simp (disch := (first | assumption | omega | (simp only [List.length_append, List.length_cons, List.length_nil]; omega))) only [↓wD,wU,Nat.reduceBEq,zx150,zx151,zx159,zx160,zx161,zx162,Nat.reduceAdd,Nat.reduceSub,Nat.reduceMul,Nat.reduceLeDiff,Nat.reduceLT,Nat.reduceEqDiff,Int.reduceAdd,Int.reduceSub,Int.reduceMul,Int.reduceNeg,Int.reduceLT,Int.reduceLE,Int.reduceEq,Int.reduceToNat,Int.cast_ofNat_Int,↓reduceIte, *]
                  refine (ih hi').go ⟨rfl, ?_⟩
                  simp (disch := (first | assumption | omega | (simp only [List.length_append, List.length_cons, List.length_nil]; omega))) only [↓wD,wU,Nat.reduceBEq,zx150,zx151,zx159,zx160,zx161,zx162,Nat.reduceAdd,Nat.reduceSub,Nat.reduceMul,Nat.reduceLeDiff,Nat.reduceLT,Nat.reduceEqDiff,Int.reduceAdd,Int.reduceSub,Int.reduceMul,Int.reduceNeg,Int.reduceLT,Int.reduceLE,Int.reduceEq,Int.reduceToNat,Int.cast_ofNat_Int,↓reduceIte, *]
                  exact mem_take_gi hh hi' ⟨q3, q1, q2, mem_take_all hh2 (by omega)⟩
              · (simp (disch := (first | assumption | omega | (simp only [List.length_append, List.length_cons, List.length_nil]; omega))) only [↓wD,wU,Nat.reduceBEq,zx150,zx151,zx159,zx160,zx161,zx162,Nat.reduceAdd,Nat.reduceSub,Nat.reduceMul,Nat.reduceLeDiff,Nat.reduceLT,Nat.reduceEqDiff,Int.reduceAdd,Int.reduceSub,Int.reduceMul,Int.reduceNeg,Int.reduceLT,Int.reduceLE,Int.reduceEq,Int.reduceToNat,Int.cast_ofNat_Int,↓reduceIte, *]) <;> (first | exact ⟨⟨_, rfl, by omega, by omega⟩, by simp [ChR]⟩ | simp [ChR])
            · simp (disch := (first | assumption | omega | (simp only [List.length_append, List.length_cons, List.length_nil]; omega))) only [↓wD,wU,Nat.reduceBEq,zx150,zx151,zx159,zx160,zx161,zx162,Nat.reduceAdd,Nat.reduceSub,Nat.reduceMul,Nat.reduceLeDiff,Nat.reduceLT,Nat.reduceEqDiff,Int.reduceAdd,Int.reduceSub,Int.reduceMul,Int.reduceNeg,Int.reduceLT,Int.reduceLE,Int.reduceEq,Int.reduceToNat,Int.cast_ofNat_Int,↓reduceIte, *, k1.L, g1.I, g0.I]
              exact bad fun h => q2 h.2.2.1
          · simp (disch := (first | assumption | omega | (simp only [List.length_append, List.length_cons, List.length_nil]; omega))) only [↓wD,wU,Nat.reduceBEq,zx150,zx151,zx159,zx160,zx161,zx162,Nat.reduceAdd,Nat.reduceSub,Nat.reduceMul,Nat.reduceLeDiff,Nat.reduceLT,Nat.reduceEqDiff,Int.reduceAdd,Int.reduceSub,Int.reduceMul,Int.reduceNeg,Int.reduceLT,Int.reduceLE,Int.reduceEq,Int.reduceToNat,Int.cast_ofNat_Int,↓reduceIte, *, k1.L, g1.I, g0.I]
            exact bad fun h => q1 h.2.1
        · have q3' : ¬ ((gi t i).length : Int) = (gi t 0).length := by omega
          simp (disch := (first | assumption | omega | (simp only [List.length_append, List.length_cons, List.length_nil]; omega))) only [↓wD,wU,Nat.reduceBEq,zx150,zx151,zx159,zx160,zx161,zx162,Nat.reduceAdd,Nat.reduceSub,Nat.reduceMul,Nat.reduceLeDiff,Nat.reduceLT,Nat.reduceEqDiff,Int.reduceAdd,Int.reduceSub,Int.reduceMul,Int.reduceNeg,Int.reduceLT,Int.reduceLE,Int.reduceEq,Int.reduceToNat,Int.cast_ofNat_Int,↓reduceIte, *, k1.L, g1.I, g0.I]
          exact bad fun h => q3 h.1
      · simp (disch := (first | assumption | omega | (simp only [List.length_append, List.length_cons, List.length_nil]; omega))) only [↓wD,wU,Nat.reduceBEq,zx150,zx151,zx159,zx160,zx161,zx162,Nat.reduceAdd,Nat.reduceSub,Nat.reduceMul,Nat.reduceLeDiff,Nat.reduceLT,Nat.reduceEqDiff,Int.reduceAdd,Int.reduceSub,Int.reduceMul,Int.reduceNeg,Int.reduceLT,Int.reduceLE,Int.reduceEq,Int.reduceToNat,Int.cast_ofNat_Int,↓reduceIte, *]
        exact avb_t ⟨v1, v2, t1, t2, mem_take_all hh (by omega)⟩
    · (simp (disch := (first | assumption | omega | (simp only [List.length_append, List.length_cons, List.length_nil]; omega))) only [↓wD,wU,Nat.reduceBEq,zx150,zx151,zx159,zx160,zx161,zx162,Nat.reduceAdd,Nat.reduceSub,Nat.reduceMul,Nat.reduceLeDiff,Nat.reduceLT,Nat.reduceEqDiff,Int.reduceAdd,Int.reduceSub,Int.reduceMul,Int.reduceNeg,Int.reduceLT,Int.reduceLE,Int.reduceEq,Int.reduceToNat,Int.cast_ofNat_Int,↓reduceIte, *]) <;> simp
  · have bad : ¬ ArrP v t := fun h => h0 ⟨h.1, h.2.1, h.2.2.1, h.2.2.2.1⟩
    by_cases h1 : v < 2
    · clear h0
      simp (disch := (first | assumption | omega | (simp only [List.length_append, List.length_cons, List.length_nil]; omega))) only [↓wD,wU,Nat.reduceBEq,zx150,zx151,zx159,zx160,zx161,zx162,Nat.reduceAdd,Nat.reduceSub,Nat.reduceMul,Nat.reduceLeDiff,Nat.reduceLT,Nat.reduceEqDiff,Int.reduceAdd,Int.reduceSub,Int.reduceMul,Int.reduceNeg,Int.reduceLT,Int.reduceLE,Int.reduceEq,Int.reduceToNat,Int.cast_ofNat_Int,↓reduceIte, *, ht.L]
    by_cases h2 : 4 < v
    · clear h0
      simp (disch := (first | assumption | omega | (simp only [List.length_append, List.length_cons, List.length_nil]; omega))) only [↓wD,wU,Nat.reduceBEq,zx150,zx151,zx159,zx160,zx161,zx162,Nat.reduceAdd,Nat.reduceSub,Nat.reduceMul,Nat.reduceLeDiff,Nat.reduceLT,Nat.reduceEqDiff,Int.reduceAdd,Int.reduceSub,Int.reduceMul,Int.reduceNeg,Int.reduceLT,Int.reduceLE,Int.reduceEq,Int.reduceToNat,Int.cast_ofNat_Int,↓reduceIte, *, ht.L]
    by_cases h3 : t.length < 1
    · clear h0
      simp (disch := (first | assumption | omega | (simp only [List.length_append, List.length_cons, List.length_nil]; omega))) only [↓wD,wU,Nat.reduceBEq,zx150,zx151,zx159,zx160,zx161,zx162,Nat.reduceAdd,Nat.reduceSub,Nat.reduceMul,Nat.reduceLeDiff,Nat.reduceLT,Nat.reduceEqDiff,Int.reduceAdd,Int.reduceSub,Int.reduceMul,Int.reduceNeg,Int.reduceLT,Int.reduceLE,Int.reduceEq,Int.reduceToNat,Int.cast_ofNat_Int,↓reduceIte, *, ht.L]
    · have h4 : 16 < t.length := by omega
      clear h0
      simp (disch := (first | assumption | omega | (simp only [List.length_append, List.length_cons, List.length_nil]; omega))) only [↓wD,wU,Nat.reduceBEq,zx150,zx151,zx159,zx160,zx161,zx162,Nat.reduceAdd,Nat.reduceSub,Nat.reduceMul,Nat.reduceLeDiff,Nat.reduceLT,Nat.reduceEqDiff,Int.reduceAdd,Int.reduceSub,Int.reduceMul,Int.reduceNeg,Int.reduceLT,Int.reduceLE,Int.reduceEq,Int.reduceToNat,Int.cast_ofNat_Int,↓reduceIte, *, ht.L]
theorem width_ret {p : Nat → Prop} {H : Heap} {rows : AV} {v : Int} {t : List (List Int)} (ht : Sl p H rows t) (h : 1 ≤ t.length) : RetP E 39 [.ag [.i v, rows]] H (.i (wd t)) := by
  refine RetP.ro rfl fn39 rfl rfl ?_
  unfold f39A
  have k1 := ht.app [.cells [.i v, rows]]
  have g0 := k1.get (k := 0) (by omega) (by omega)
  simp (disch := (first | assumption | omega | (simp only [List.length_append, List.length_cons, List.length_nil]; omega))) only [↓wD,wU,Nat.reduceBEq,zx150,zx151,zx159,zx160,zx161,zx162,Nat.reduceAdd,Nat.reduceSub,Nat.reduceMul,Nat.reduceLeDiff,Nat.reduceLT,Nat.reduceEqDiff,Int.reduceAdd,Int.reduceSub,Int.reduceMul,Int.reduceNeg,Int.reduceLT,Int.reduceLE,Int.reduceEq,Int.reduceToNat,Int.cast_ofNat_Int,↓reduceIte, *, k1.L, g0.I]
  rfl
end Go.Proofs.Ytalaadcbpjnglaa
namespace Go.Proofs.Ytalaadcbpjnglaa
open Go Go.AM Go.Proofs
theorem list_ret {p : Nat → Prop} {H : Heap} {v : AV} {xs : List Int} (hx : Sl p H v xs) : Ret E 35 [v] (fun _ => False) H (xs.take 11) := by
  refine Ret.ro rfl fn35 rfl ?_
  unfold f35A
  have hb := hx.bound
  have hs : slV 1 v none (some (.i (min (xs.length : Int) 11))) none = some (v.cut 0 (min xs.length 11)) := by
    refine hx.slV_lh none _ (b := min xs.length 11) ?_ (bound_none (by omega)) (by omega) (by omega)
    rw [bound_some (by omega) (by omega)]
    congr 1
    omega
  simp (disch := (first | assumption | omega | (simp only [List.length_append, List.length_cons, List.length_nil]; omega))) only [↓wD,wU,Nat.reduceBEq,zx150,zx151,zx159,zx160,zx161,zx162,Nat.reduceAdd,Nat.reduceSub,Nat.reduceMul,Nat.reduceLeDiff,Nat.reduceLT,Nat.reduceEqDiff,Int.reduceAdd,Int.reduceSub,Int.reduceMul,Int.reduceNeg,Int.reduceLT,Int.reduceLE,Int.reduceEq,Int.reduceToNat,Int.cast_ofNat_Int,↓reduceIte, *, hx.I, hs]
  have hc := hx.cut (a := 0) (b := min xs.length 11) (by omega) (by omega)
  have e : (xs.drop 0).take (min xs.length 11 - 0) = xs.take 11 := by
    rw [List.drop_zero, Nat.sub_zero]
    by_cases hl : xs.length ≤ 11
    · rw [List.take_of_length_le (by omega), List.take_of_length_le hl]
    · congr 1; omega
  rw [e] at hc
  refine (clone_ret hc (by rw [List.length_take]; omega)).go fun u N hu => ?_
  simp (disch := (first | assumption | omega | (simp only [List.length_append, List.length_cons, List.length_nil]; omega))) only [↓wD,wU,Nat.reduceBEq,zx150,zx151,zx159,zx160,zx161,zx162,Nat.reduceAdd,Nat.reduceSub,Nat.reduceMul,Nat.reduceLeDiff,Nat.reduceLT,Nat.reduceEqDiff,Int.reduceAdd,Int.reduceSub,Int.reduceMul,Int.reduceNeg,Int.reduceLT,Int.reduceLE,Int.reduceEq,Int.reduceToNat,Int.cast_ofNat_Int,↓reduceIte]
  exact hu
def cutA (t : List (List Int)) : List (List Int) := (t.take 19).map fun r => r.take 11
theorem of_ret {p : Nat → Prop} {H : Heap} {rows : AV} {v : Int} {t : List (List Int)} (ht : Sl p H rows t) : Ret E 32 [.ag [.i v, rows]] (fun _ => False) H ((v, cutA t) : Int × List (List Int)) := by
  refine Ret.ro rfl fn32 rfl ?_
  unfold f32A
  have hb := ht.bound
  simp (disch := (first | assumption | omega | (simp only [List.length_append, List.length_cons, List.length_nil]; omega))) only [↓wD,wU,Nat.reduceBEq,zx150,zx151,zx159,zx160,zx161,zx162,Nat.reduceAdd,Nat.reduceSub,Nat.reduceMul,Nat.reduceLeDiff,Nat.reduceLT,Nat.reduceEqDiff,Int.reduceAdd,Int.reduceSub,Int.reduceMul,Int.reduceNeg,Int.reduceLT,Int.reduceLE,Int.reduceEq,Int.reduceToNat,Int.cast_ofNat_Int,↓reduceIte, *, ht.L]
  replace ht : Sl (fun b => b < H.length) H rows t := ht.low.weak fun _ h => h.2
  refine Wp.for t.length (fun i a H' => ∃ u, a 10 = rows ∧ a 11 = .i t.length ∧ a 12 = .i i ∧ a 2 = .p (H.length + 1) 0 ∧ a 3 = .p (H.length + 2) 0 ∧ Gr H H' ∧ H.length + 3 ≤ H'.length ∧
    H'[H.length + 1]? = some (.cells [.i 0, .nils]) ∧ H'[H.length + 2]? = some (.cells [.i v, u]) ∧ Acc (H.length + 3) (fun b => H.length + 3 ≤ b) H' u (((t.take i).take 19).map fun r => r.take 11)) ?_ ?_
  · rintro i a H1 hi ⟨u, a10, a11, a12, a2, a3, hg, hl, c2, c3, hu⟩ ih
    simp (disch := (first | assumption | omega | (simp only [List.length_append, List.length_cons, List.length_nil]; omega))) only [↓wD,wU,Nat.reduceBEq,zx150,zx151,zx159,zx160,zx161,zx162,Nat.reduceAdd,Nat.reduceSub,Nat.reduceMul,Nat.reduceLeDiff,Nat.reduceLT,Nat.reduceEqDiff,Int.reduceAdd,Int.reduceSub,Int.reduceMul,Int.reduceNeg,Int.reduceLT,Int.reduceLE,Int.reduceEq,Int.reduceToNat,Int.cast_ofNat_Int,↓reduceIte, *]
    refine condP_split (fun hlt => ?_) (fun hlt => ?_)
    · have hi' : i < t.length := by omega
      have ht1 := ht.gr hg
      have g := ht1.get (k := (i : Int)) (by omega) (by omega)
      simp (disch := (first | assumption | omega | (simp only [List.length_append, List.length_cons, List.length_nil]; omega))) only [↓wD,wU,Nat.reduceBEq,zx150,zx151,zx159,zx160,zx161,zx162,Nat.reduceAdd,Nat.reduceSub,Nat.reduceMul,Nat.reduceLeDiff,Nat.reduceLT,Nat.reduceEqDiff,Int.reduceAdd,Int.reduceSub,Int.reduceMul,Int.reduceNeg,Int.reduceLT,Int.reduceLE,Int.reduceEq,Int.reduceToNat,Int.cast_ofNat_Int,↓reduceIte, *, ht1.L]
      refine condP_split (fun h6 => ?_) (fun h6 => ?_)
      · simp (disch := (first | assumption | omega | (simp only [List.length_append, List.length_cons, List.length_nil]; omega))) only [↓wD,wU,Nat.reduceBEq,zx150,zx151,zx159,zx160,zx161,zx162,Nat.reduceAdd,Nat.reduceSub,Nat.reduceMul,Nat.reduceLeDiff,Nat.reduceLT,Nat.reduceEqDiff,Int.reduceAdd,Int.reduceSub,Int.reduceMul,Int.reduceNeg,Int.reduceLT,Int.reduceLE,Int.reduceEq,Int.reduceToNat,Int.cast_ofNat_Int,↓reduceIte, *, ld_of c3]
        refine (list_ret g).toF fun y H2 hg2 hy => ?_
        have hl2 := hg2.1
        simp (disch := (first | assumption | omega | (simp only [List.length_append, List.length_cons, List.length_nil]; omega))) only [↓wD,wU,Nat.reduceBEq,zx150,zx151,zx159,zx160,zx161,zx162,Nat.reduceAdd,Nat.reduceSub,Nat.reduceMul,Nat.reduceLeDiff,Nat.reduceLT,Nat.reduceEqDiff,Int.reduceAdd,Int.reduceSub,Int.reduceMul,Int.reduceNeg,Int.reduceLT,Int.reduceLE,Int.reduceEq,Int.reduceToNat,Int.cast_ofNat_Int,↓reduceIte, *, hy.cellsV]
        have hu2 := hu.gr hg2
        refine hu2.pushL (by omega) (by omega) hy (fun b hb => ⟨by omega, fun e => by have := hu.blk_lt e; omega⟩) ?_ fun u' H3 hu' hk3 hl3' _ => ?_
        · simp; omega
        · have c33 := hk3.get (b := H.length + 2) (fun e => by have := hu2.blk_lt e; omega) (hg2.get c3)
          have c23 := hk3.get (b := H.length + 1) (fun e => by have := hu2.blk_lt e; omega) (hg2.get c2)
          simp (disch := (first | assumption | omega | (simp only [List.length_append, List.length_cons, List.length_nil]; omega))) only [↓wD,wU,Nat.reduceBEq,zx150,zx151,zx159,zx160,zx161,zx162,Nat.reduceAdd,Nat.reduceSub,Nat.reduceMul,Nat.reduceLeDiff,Nat.reduceLT,Nat.reduceEqDiff,Int.reduceAdd,Int.reduceSub,Int.reduceMul,Int.reduceNeg,Int.reduceLT,Int.reduceLE,Int.reduceEq,Int.reduceToNat,Int.cast_ofNat_Int,↓reduceIte, *, st_of c33, hu'.cellsV]
          refine (ih hi').go ⟨u', ?_⟩
          simp (disch := (first | assumption | omega | (simp only [List.length_append, List.length_cons, List.length_nil]; omega))) only [↓wD,wU,Nat.reduceBEq,zx150,zx151,zx159,zx160,zx161,zx162,Nat.reduceAdd,Nat.reduceSub,Nat.reduceMul,Nat.reduceLeDiff,Nat.reduceLT,Nat.reduceEqDiff,Int.reduceAdd,Int.reduceSub,Int.reduceMul,Int.reduceNeg,Int.reduceLT,Int.reduceLE,Int.reduceEq,Int.reduceToNat,Int.cast_ofNat_Int,↓reduceIte, *]
          have e : ((t.take (i + 1)).take 19) = (t.take i).take 19 ++ [gi t i] := by
            rw [List.take_take, List.take_take, show min 19 (i + 1) = i + 1 by omega, show min 19 i = i by omega, take_gi hi']
          rw [e, List.map_append]
          refine ⟨((hg.trans hg2).push hu2 (by omega) hk3).set (by omega) _, by simp; omega, by rw [List.getElem?_set_ne (by omega)]; exact c23, get_set c33, ?_⟩
          exact hu'.mono ((Kp.set _ _ _).weak fun b hb => by omega) fun _ h => h
      · simp (disch := (first | assumption | omega | (simp only [List.length_append, List.length_cons, List.length_nil]; omega))) only [↓wD,wU,Nat.reduceBEq,zx150,zx151,zx159,zx160,zx161,zx162,Nat.reduceAdd,Nat.reduceSub,Nat.reduceMul,Nat.reduceLeDiff,Nat.reduceLT,Nat.reduceEqDiff,Int.reduceAdd,Int.reduceSub,Int.reduceMul,Int.reduceNeg,Int.reduceLT,Int.reduceLE,Int.reduceEq,Int.reduceToNat,Int.cast_ofNat_Int,↓reduceIte, *]
        refine (ih hi').go ⟨u, ?_⟩
        simp (disch := (first | assumption | omega | (simp only [List.length_append, List.length_cons, List.length_nil]; omega))) only [↓wD,wU,Nat.reduceBEq,zx150,zx151,zx159,zx160,zx161,zx162,Nat.reduceAdd,Nat.reduceSub,Nat.reduceMul,Nat.reduceLeDiff,Nat.reduceLT,Nat.reduceEqDiff,Int.reduceAdd,Int.reduceSub,Int.reduceMul,Int.reduceNeg,Int.reduceLT,Int.reduceLE,Int.reduceEq,Int.reduceToNat,Int.cast_ofNat_Int,↓reduceIte, *]
        have e : ((t.take (i + 1)).take 19) = (t.take i).take 19 := by
          rw [List.take_take, List.take_take]; congr 1; omega
        rw [e]; first | exact hu | exact ⟨hg, hu⟩ | exact ⟨hg, hl, hu⟩
    · have e : i = t.length := by omega
      subst e
      simp (disch := (first | assumption | omega | (simp only [List.length_append, List.length_cons, List.length_nil]; omega))) only [↓wD,wU,Nat.reduceBEq,zx150,zx151,zx159,zx160,zx161,zx162,Nat.reduceAdd,Nat.reduceSub,Nat.reduceMul,Nat.reduceLeDiff,Nat.reduceLT,Nat.reduceEqDiff,Int.reduceAdd,Int.reduceSub,Int.reduceMul,Int.reduceNeg,Int.reduceLT,Int.reduceLE,Int.reduceEq,Int.reduceToNat,Int.cast_ofNat_Int,↓reduceIte, *, ldn_of c3, st_of c2, hu.cellsV]
      simp (disch := (first | assumption | omega | (simp only [List.length_append, List.length_cons, List.length_nil]; omega))) only [↓wD,wU,Nat.reduceBEq,zx150,zx151,zx159,zx160,zx161,zx162,Nat.reduceAdd,Nat.reduceSub,Nat.reduceMul,Nat.reduceLeDiff,Nat.reduceLT,Nat.reduceEqDiff,Int.reduceAdd,Int.reduceSub,Int.reduceMul,Int.reduceNeg,Int.reduceLT,Int.reduceLE,Int.reduceEq,Int.reduceToNat,Int.cast_ofNat_Int,↓reduceIte, *, ldn_of (get_set c2)]
      rw [List.take_length] at hu
      exact rv_si ((hu.mono ((Kp.set _ _ _).weak fun b hb => by omega) fun _ h => h).sl.weak fun b h => .inr (by omega))
  · simp (disch := (first | assumption | omega | (simp only [List.length_append, List.length_cons, List.length_nil]; omega))) only [↓wD,wU,Nat.reduceBEq,zx150,zx151,zx159,zx160,zx161,zx162,Nat.reduceAdd,Nat.reduceSub,Nat.reduceMul,Nat.reduceLeDiff,Nat.reduceLT,Nat.reduceEqDiff,Int.reduceAdd,Int.reduceSub,Int.reduceMul,Int.reduceNeg,Int.reduceLT,Int.reduceLE,Int.reduceEq,Int.reduceToNat,Int.cast_ofNat_Int,↓reduceIte, *]
    refine ⟨.nils, ?_⟩
    simp (disch := (first | assumption | omega | (simp only [List.length_append, List.length_cons, List.length_nil]; omega))) only [↓wD,wU,Nat.reduceBEq,zx150,zx151,zx159,zx160,zx161,zx162,Nat.reduceAdd,Nat.reduceSub,Nat.reduceMul,Nat.reduceLeDiff,Nat.reduceLT,Nat.reduceEqDiff,Int.reduceAdd,Int.reduceSub,Int.reduceMul,Int.reduceNeg,Int.reduceLT,Int.reduceLE,Int.reduceEq,Int.reduceToNat,Int.cast_ofNat_Int,↓reduceIte, *]
    exact ⟨(((Gr.refl H).app _).app _).app _, Acc.nil⟩
theorem cutA_ok {v : Int} {t : List (List Int)} (h : ArrP v t) : cutA t = t := by
  unfold cutA
  rw [List.take_of_length_le (by have := h.2.2.2.1; omega)]
  conv => rhs; rw [← List.map_id t]
  apply List.map_congr_left
  intro r hr
  exact List.take_of_length_le (by have := (h.2.2.2.2 r hr).2.2.1; omega)
theorem ArrP_cut {v : Int} {t : List (List Int)} : ArrP v (cutA t) ↔ ArrP v t := by
  constructor
  · intro h
    have e : cutA t = t := by
      have h1 : t.length ≤ 16 := by have := h.2.2.2.1; simp [cutA] at this; omega
      unfold cutA
      rw [List.take_of_length_le (by omega)]
      conv => rhs; rw [← List.map_id t]
      apply List.map_congr_left
      intro r hr
      have hm : r.take 11 ∈ cutA t := by
        unfold cutA
        rw [List.take_of_length_le (by omega)]
        exact List.mem_map_of_mem hr
      have := (h.2.2.2.2 _ hm).2.2.1
      rw [List.length_take] at this
      exact List.take_of_length_le (by omega)
    rwa [e] at h
  · intro h
    rw [cutA_ok h]; exact h
end Go.Proofs.Ytalaadcbpjnglaa
namespace Go.Proofs.Ytalaadcbpjnglaa
open Go Go.AM Go.Proofs
def comesL (rs cs ks : List Int) : Bool := (cs.zip ks).all fun q => gi rs q.1 == q.2
theorem zip_take_succ {α : Type} [Inhabited α] {xs ys : List α} {i : Nat} (h1 : i < xs.length) (h2 : i < ys.length) : (xs.take (i + 1)).zip (ys.take (i + 1)) = (xs.take i).zip (ys.take i) ++ [(gi xs i, gi ys i)] := by
  rw [take_gi h1, take_gi h2, List.zip_append (by simp; omega)]; rfl
theorem comesL_succ {rs cs ks : List Int} {i : Nat} (h1 : i < cs.length) (h2 : i < ks.length) : comesL rs (cs.take (i + 1)) (ks.take (i + 1)) = (comesL rs (cs.take i) (ks.take i) && (gi rs (gi cs i) == gi ks i)) := by
  simp [comesL, zip_take_succ h1 h2, List.all_append]
theorem comesL_all {rs cs ks : List Int} {i : Nat} (h1 : cs.length ≤ i) (h2 : ks.length ≤ i) : comesL rs (cs.take i) (ks.take i) = comesL rs cs ks := by
  rw [List.take_of_length_le h1, List.take_of_length_le h2]
theorem comesL_f {rs cs ks : List Int} {i : Nat} (h1 : i < cs.length) (h2 : i < ks.length) (h : ¬ gi rs (gi cs i) = gi ks i) : comesL rs cs ks = false := by
  rw [← Bool.not_eq_true]
  intro hh
  unfold comesL at hh
  rw [List.all_eq_true] at hh
  have := hh (cs[i], ks[i]) (List.mem_iff_getElem.2 ⟨i, by simp; omega, by simp⟩)
  rw [gi_nat h1, gi_nat h2] at h
  simp at this
  exact h this
theorem comes_ret {p q p' : Nat → Prop} {H : Heap} {row cols ch : AV} {rs cs ks : List Int} (hr : Sl p H row rs) (hc : Sl q H cols cs) (hk : Sl p' H ch ks) (hl : cs.length = ks.length) (hb : ∀ c ∈ cs, 0 ≤ c ∧ c < rs.length) :
    RetP E 101 [row, cols, ch] H (.b (comesL rs cs ks)) := by
  refine RetP.ro rfl fn101 rfl rfl ?_
  unfold f101A
  simp (disch := (first | assumption | omega | (simp only [List.length_append, List.length_cons, List.length_nil]; omega))) only [↓wD,wU,Nat.reduceBEq,zx150,zx151,zx159,zx160,zx161,zx162,Nat.reduceAdd,Nat.reduceSub,Nat.reduceMul,Nat.reduceLeDiff,Nat.reduceLT,Nat.reduceEqDiff,Int.reduceAdd,Int.reduceSub,Int.reduceMul,Int.reduceNeg,Int.reduceLT,Int.reduceLE,Int.reduceEq,Int.reduceToNat,Int.cast_ofNat_Int,↓reduceIte, *, hc.I]
  have hbd := hc.bound
  refine Wp.for cs.length (fun i a H' => H' = H ∧ a 0 = row ∧ a 2 = ch ∧ a 9 = cols ∧ a 10 = .i cs.length ∧ a 11 = .i i ∧ comesL rs (cs.take i) (ks.take i) = true) ?_ ?_
  · rintro i a H' hi ⟨rfl, h0, h2, h9, h10, h11, hh⟩ ih
    simp (disch := (first | assumption | omega | (simp only [List.length_append, List.length_cons, List.length_nil]; omega))) only [↓wD,wU,Nat.reduceBEq,zx150,zx151,zx159,zx160,zx161,zx162,Nat.reduceAdd,Nat.reduceSub,Nat.reduceMul,Nat.reduceLeDiff,Nat.reduceLT,Nat.reduceEqDiff,Int.reduceAdd,Int.reduceSub,Int.reduceMul,Int.reduceNeg,Int.reduceLT,Int.reduceLE,Int.reduceEq,Int.reduceToNat,Int.cast_ofNat_Int,↓reduceIte, *]
    refine condP_split (fun hlt => ?_) (fun hlt => ?_)
    · have hlt' : i < cs.length := by omega
      have hbi := hb (gi cs i) (mem_gi hlt')
      simp (disch := (first | assumption | omega | (simp only [List.length_append, List.length_cons, List.length_nil]; omega))) only [↓wD,wU,Nat.reduceBEq,zx150,zx151,zx159,zx160,zx161,zx162,Nat.reduceAdd,Nat.reduceSub,Nat.reduceMul,Nat.reduceLeDiff,Nat.reduceLT,Nat.reduceEqDiff,Int.reduceAdd,Int.reduceSub,Int.reduceMul,Int.reduceNeg,Int.reduceLT,Int.reduceLE,Int.reduceEq,Int.reduceToNat,Int.cast_ofNat_Int,↓reduceIte, *, hc.I, hr.I, hk.I]
      refine condP_split (fun hne => ?_) (fun hne => ?_)
      · simp (disch := (first | assumption | omega | (simp only [List.length_append, List.length_cons, List.length_nil]; omega))) only [↓wD,wU,Nat.reduceBEq,zx150,zx151,zx159,zx160,zx161,zx162,Nat.reduceAdd,Nat.reduceSub,Nat.reduceMul,Nat.reduceLeDiff,Nat.reduceLT,Nat.reduceEqDiff,Int.reduceAdd,Int.reduceSub,Int.reduceMul,Int.reduceNeg,Int.reduceLT,Int.reduceLE,Int.reduceEq,Int.reduceToNat,Int.cast_ofNat_Int,↓reduceIte, *]
        rw [comesL_f hlt' (by omega) hne]
      · simp (disch := (first | assumption | omega | (simp only [List.length_append, List.length_cons, List.length_nil]; omega))) only [↓wD,wU,Nat.reduceBEq,zx150,zx151,zx159,zx160,zx161,zx162,Nat.reduceAdd,Nat.reduceSub,Nat.reduceMul,Nat.reduceLeDiff,Nat.reduceLT,Nat.reduceEqDiff,Int.reduceAdd,Int.reduceSub,Int.reduceMul,Int.reduceNeg,Int.reduceLT,Int.reduceLE,Int.reduceEq,Int.reduceToNat,Int.cast_ofNat_Int,↓reduceIte, *]
        refine (ih hlt').go ⟨rfl, ?_⟩
        simp (disch := (first | assumption | omega | (simp only [List.length_append, List.length_cons, List.length_nil]; omega))) only [↓wD,wU,Nat.reduceBEq,zx150,zx151,zx159,zx160,zx161,zx162,Nat.reduceAdd,Nat.reduceSub,Nat.reduceMul,Nat.reduceLeDiff,Nat.reduceLT,Nat.reduceEqDiff,Int.reduceAdd,Int.reduceSub,Int.reduceMul,Int.reduceNeg,Int.reduceLT,Int.reduceLE,Int.reduceEq,Int.reduceToNat,Int.cast_ofNat_Int,↓reduceIte, *]
        rw [comesL_succ hlt' (by omega), hh]
        simp; omega
    · simp (disch := (first | assumption | omega | (simp only [List.length_append, List.length_cons, List.length_nil]; omega))) only [↓wD,wU,Nat.reduceBEq,zx150,zx151,zx159,zx160,zx161,zx162,Nat.reduceAdd,Nat.reduceSub,Nat.reduceMul,Nat.reduceLeDiff,Nat.reduceLT,Nat.reduceEqDiff,Int.reduceAdd,Int.reduceSub,Int.reduceMul,Int.reduceNeg,Int.reduceLT,Int.reduceLE,Int.reduceEq,Int.reduceToNat,Int.cast_ofNat_Int,↓reduceIte, *]
      rw [← comesL_all (i := i) (cs := cs) (by omega) (by omega), hh]
  · (simp (disch := (first | assumption | omega | (simp only [List.length_append, List.length_cons, List.length_nil]; omega))) only [↓wD,wU,Nat.reduceBEq,zx150,zx151,zx159,zx160,zx161,zx162,Nat.reduceAdd,Nat.reduceSub,Nat.reduceMul,Nat.reduceLeDiff,Nat.reduceLT,Nat.reduceEqDiff,Int.reduceAdd,Int.reduceSub,Int.reduceMul,Int.reduceNeg,Int.reduceLT,Int.reduceLE,Int.reduceEq,Int.reduceToNat,Int.cast_ofNat_Int,↓reduceIte, *]) <;> simp [comesL]
/-- in how many rows they come -/
def oft (t : List (List Int)) (cs ks : List Int) : Nat := t.countP fun r => comesL r cs ks
theorem oft_succ {t : List (List Int)} {cs ks : List Int} {i : Nat} (h : i < t.length) : oft (t.take (i + 1)) cs ks = oft (t.take i) cs ks + if comesL (gi t i) cs ks = true then 1 else 0 := by
  unfold oft
  rw [take_gi h, List.countP_append]
  simp [List.countP_cons]
theorem oft_le {t : List (List Int)} {cs ks : List Int} : oft t cs ks ≤ t.length := List.countP_le_length
theorem often_ret {p q p' : Nat → Prop} {H : Heap} {rows cols ch : AV} {v : Int} {t : List (List Int)} {cs ks : List Int} (ht : Sl p H rows t) (hc : Sl q H cols cs) (hk : Sl p' H ch ks) (hl : cs.length = ks.length) (hb : ∀ c ∈ cs, 0 ≤ c ∧ ∀ r ∈ t, c < r.length) :
    RetP E 104 [.ag [.i v, rows], cols, ch] H (.i (oft t cs ks)) := by
  refine RetP.ro rfl fn104 rfl rfl ?_
  unfold f104A
  have hbd := ht.bound
  simp (disch := (first | assumption | omega | (simp only [List.length_append, List.length_cons, List.length_nil]; omega))) only [↓wD,wU,Nat.reduceBEq,zx150,zx151,zx159,zx160,zx161,zx162,Nat.reduceAdd,Nat.reduceSub,Nat.reduceMul,Nat.reduceLeDiff,Nat.reduceLT,Nat.reduceEqDiff,Int.reduceAdd,Int.reduceSub,Int.reduceMul,Int.reduceNeg,Int.reduceLT,Int.reduceLE,Int.reduceEq,Int.reduceToNat,Int.cast_ofNat_Int,↓reduceIte, *, ht.L]
  have k1 := ht.app [.cells [.i v, rows]]
  have kc := hc.app [.cells [.i v, rows]]
  have kk := hk.app [.cells [.i v, rows]]
  refine Wp.for t.length (fun i a H' => H' = H ++ [.cells [.i v, rows]] ∧ a 1 = cols ∧ a 2 = ch ∧ a 11 = rows ∧ a 12 = .i t.length ∧ a 13 = .i i ∧ a 7 = .i (oft (t.take i) cs ks)) ?_ ?_
  · rintro i a H' hi ⟨rfl, a1, a2, a11, a12, a13, a7⟩ ih
    have hle := oft_le (t := t.take i) (cs := cs) (ks := ks)
    rw [List.length_take] at hle
    simp (disch := (first | assumption | omega | (simp only [List.length_append, List.length_cons, List.length_nil]; omega))) only [↓wD,wU,Nat.reduceBEq,zx150,zx151,zx159,zx160,zx161,zx162,Nat.reduceAdd,Nat.reduceSub,Nat.reduceMul,Nat.reduceLeDiff,Nat.reduceLT,Nat.reduceEqDiff,Int.reduceAdd,Int.reduceSub,Int.reduceMul,Int.reduceNeg,Int.reduceLT,Int.reduceLE,Int.reduceEq,Int.reduceToNat,Int.cast_ofNat_Int,↓reduceIte, *]
    refine condP_split (fun hlt => ?_) (fun hlt => ?_)
    · have hi' : i < t.length := by omega
      have g := k1.get (k := (i : Int)) (by omega) (by omega)
      have hs := oft_succ (cs := cs) (ks := ks) hi'
      simp (disch := (first | assumption | omega | (simp only [List.length_append, List.length_cons, List.length_nil]; omega))) only [↓wD,wU,Nat.reduceBEq,zx150,zx151,zx159,zx160,zx161,zx162,Nat.reduceAdd,Nat.reduceSub,Nat.reduceMul,Nat.reduceLeDiff,Nat.reduceLT,Nat.reduceEqDiff,Int.reduceAdd,Int.reduceSub,Int.reduceMul,Int.reduceNeg,Int.reduceLT,Int.reduceLE,Int.reduceEq,Int.reduceToNat,Int.cast_ofNat_Int,↓reduceIte, *, k1.L, (comes_ret g kc kk hl fun c hc => ⟨(hb c hc).1, by have := (hb c hc).2 _ (mem_gi hi'); omega⟩).call]
      refine condP_bool (fun hne => ?_) (fun hne => ?_)
      · rw [if_pos hne] at hs
        clear hne
        simp (disch := (first | assumption | omega | (simp only [List.length_append, List.length_cons, List.length_nil]; omega))) only [↓wD,wU,Nat.reduceBEq,zx150,zx151,zx159,zx160,zx161,zx162,Nat.reduceAdd,Nat.reduceSub,Nat.reduceMul,Nat.reduceLeDiff,Nat.reduceLT,Nat.reduceEqDiff,Int.reduceAdd,Int.reduceSub,Int.reduceMul,Int.reduceNeg,Int.reduceLT,Int.reduceLE,Int.reduceEq,Int.reduceToNat,Int.cast_ofNat_Int,↓reduceIte, *]
        refine (ih hi').go ⟨rfl, ?_⟩
        simp (disch := (first | assumption | omega | (simp only [List.length_append, List.length_cons, List.length_nil]; omega))) only [↓wD,wU,Nat.reduceBEq,zx150,zx151,zx159,zx160,zx161,zx162,Nat.reduceAdd,Nat.reduceSub,Nat.reduceMul,Nat.reduceLeDiff,Nat.reduceLT,Nat.reduceEqDiff,Int.reduceAdd,Int.reduceSub,Int.reduceMul,Int.reduceNeg,Int.reduceLT,Int.reduceLE,Int.reduceEq,Int.reduceToNat,Int.cast_ofNat_Int,↓reduceIte, *]
      · rw [if_neg (by simp [hne])] at hs
        clear hne
        simp (disch := (first | assumption | omega | (simp only [List.length_append, List.length_cons, List.length_nil]; omega))) only [↓wD,wU,Nat.reduceBEq,zx150,zx151,zx159,zx160,zx161,zx162,Nat.reduceAdd,Nat.reduceSub,Nat.reduceMul,Nat.reduceLeDiff,Nat.reduceLT,Nat.reduceEqDiff,Int.reduceAdd,Int.reduceSub,Int.reduceMul,Int.reduceNeg,Int.reduceLT,Int.reduceLE,Int.reduceEq,Int.reduceToNat,Int.cast_ofNat_Int,↓reduceIte, *]
        refine (ih hi').go ⟨rfl, ?_⟩
        simp (disch := (first | assumption | omega | (simp only [List.length_append, List.length_cons, List.length_nil]; omega))) only [↓wD,wU,Nat.reduceBEq,zx150,zx151,zx159,zx160,zx161,zx162,Nat.reduceAdd,Nat.reduceSub,Nat.reduceMul,Nat.reduceLeDiff,Nat.reduceLT,Nat.reduceEqDiff,Int.reduceAdd,Int.reduceSub,Int.reduceMul,Int.reduceNeg,Int.reduceLT,Int.reduceLE,Int.reduceEq,Int.reduceToNat,Int.cast_ofNat_Int,↓reduceIte, *]
    · simp (disch := (first | assumption | omega | (simp only [List.length_append, List.length_cons, List.length_nil]; omega))) only [↓wD,wU,Nat.reduceBEq,zx150,zx151,zx159,zx160,zx161,zx162,Nat.reduceAdd,Nat.reduceSub,Nat.reduceMul,Nat.reduceLeDiff,Nat.reduceLT,Nat.reduceEqDiff,Int.reduceAdd,Int.reduceSub,Int.reduceMul,Int.reduceNeg,Int.reduceLT,Int.reduceLE,Int.reduceEq,Int.reduceToNat,Int.cast_ofNat_Int,↓reduceIte, *]
      rw [List.take_of_length_le (by omega)]
  · (simp (disch := (first | assumption | omega | (simp only [List.length_append, List.length_cons, List.length_nil]; omega))) only [↓wD,wU,Nat.reduceBEq,zx150,zx151,zx159,zx160,zx161,zx162,Nat.reduceAdd,Nat.reduceSub,Nat.reduceMul,Nat.reduceLeDiff,Nat.reduceLT,Nat.reduceEqDiff,Int.reduceAdd,Int.reduceSub,Int.reduceMul,Int.reduceNeg,Int.reduceLT,Int.reduceLE,Int.reduceEq,Int.reduceToNat,Int.cast_ofNat_Int,↓reduceIte, *]) <;> simp [oft]
end Go.Proofs.Ytalaadcbpjnglaa
namespace Go.Proofs.Ytalaadcbpjnglaa
open Go Go.AM Go.Proofs
theorem Acc_empty {α : Type} [Rep α] {L : Nat} {p q : Nat → Prop} {H : Heap} {v : AV} (h : Sl p H v ([] : List α)) (hp : ∀ b, p b → L ≤ b) : Acc L q H v ([] : List α) := by
  rcases h with h | ⟨b, o, c, k, e, hb, hk, h1, h2, h3⟩
  · exact .inl h
  · exact .inr ⟨b, o, c, k, e, hp _ hb, hk, h1, h2, fun i hi => by simp at hi⟩
theorem grow0_ret {H : Heap} {n : Int} (h0 : 0 ≤ n) (h1 : n ≤ 1000000) : Ret E 106 [.nils, .i n] (fun _ => False) H ([] : List Int) := by
  refine Ret.ro rfl fn106 rfl ?_
  unfold f106A
  have hc : zx162 .nils = some (.i 0) := rfl
  by_cases hn : 0 < n
  · have hmb : mostBytes = 1099511627776 := by decide
    have hs : slV 1 .nils none (some (.i 0)) none = some .nils := rfl
    have ha : appendzV H.length 1 8 [.int .i64 0] .nils (.i n) H = some (.s 1 H.length 0 n.toNat none, H ++ [.cells (reps n.toNat [.int .i64 0])]) := by
      simp only [appendzV]
      rw [if_pos ⟨h0, by omega, by rw [hmb]; omega, rfl⟩]
      simp only [appendA]
      rw [if_neg (by omega), if_pos (by rw [hmb]; omega)]
    have hs2 : slV 1 (.s 1 H.length 0 n.toNat none) none (some (.i 0)) none = some (.s 1 H.length 0 0 none) := by
      simp [slV, Go.AM.lenA, boundV, sliceA, show 0 ≤ max n 0 by omega]
    simp (disch := (first | assumption | omega | (simp only [List.length_append, List.length_cons, List.length_nil]; omega))) only [↓wD,wU,Nat.reduceBEq,zx150,zx151,zx159,zx160,zx161,zx162,Nat.reduceAdd,Nat.reduceSub,Nat.reduceMul,Nat.reduceLeDiff,Nat.reduceLT,Nat.reduceEqDiff,Int.reduceAdd,Int.reduceSub,Int.reduceMul,Int.reduceNeg,Int.reduceLT,Int.reduceLE,Int.reduceEq,Int.reduceToNat,Int.cast_ofNat_Int,↓reduceIte, *, hc, hs, Int.sub_zero, ha, hs2]
    exact .inr ⟨H.length, 0, none, reps n.toNat [.int .i64 0], rfl, by simp, by simp, by simp, by simp, fun i hi => by simp at hi⟩
  · simp (disch := (first | assumption | omega | (simp only [List.length_append, List.length_cons, List.length_nil]; omega))) only [↓wD,wU,Nat.reduceBEq,zx150,zx151,zx159,zx160,zx161,zx162,Nat.reduceAdd,Nat.reduceSub,Nat.reduceMul,Nat.reduceLeDiff,Nat.reduceLT,Nat.reduceEqDiff,Int.reduceAdd,Int.reduceSub,Int.reduceMul,Int.reduceNeg,Int.reduceLT,Int.reduceLE,Int.reduceEq,Int.reduceToNat,Int.cast_ofNat_Int,↓reduceIte, *, hc]
    exact Sl.nil
def lsum (ls : List (List Int)) : Nat := (ls.map List.length).sum
theorem lsum_take {ls : List (List Int)} {i : Nat} (h : i < ls.length) : lsum (ls.take (i + 1)) = lsum (ls.take i) + (gi ls i).length := by
  unfold lsum; rw [take_gi h]; simp [List.sum_append]
theorem lsum_le {ls : List (List Int)} {i : Nat} : lsum (ls.take i) ≤ lsum ls := by
  have e : lsum ls = lsum (ls.take i) + lsum (ls.drop i) := by
    conv => lhs; rw [← List.take_append_drop i ls]
    unfold lsum; rw [List.map_append, List.sum_append]
  omega
theorem len_flatten (ls : List (List Int)) : ls.flatten.length = lsum ls := by simp [lsum, List.length_flatten]
theorem concat_ret {p : Nat → Prop} {H : Heap} {v : AV} {ls : List (List Int)} (hl : Sl p H v ls) (hs : lsum ls ≤ 1000000) : Ret E 103 [v] (fun _ => False) H ls.flatten := by
  refine Ret.ro rfl fn103 rfl ?_
  unfold f103A
  have hb := hl.bound
  simp (disch := (first | assumption | omega | (simp only [List.length_append, List.length_cons, List.length_nil]; omega))) only [↓wD,wU,Nat.reduceBEq,zx150,zx151,zx159,zx160,zx161,zx162,Nat.reduceAdd,Nat.reduceSub,Nat.reduceMul,Nat.reduceLeDiff,Nat.reduceLT,Nat.reduceEqDiff,Int.reduceAdd,Int.reduceSub,Int.reduceMul,Int.reduceNeg,Int.reduceLT,Int.reduceLE,Int.reduceEq,Int.reduceToNat,Int.cast_ofNat_Int,↓reduceIte, *, hl.L]
  refine Wp.for ls.length (fun i a H' => H' = H ∧ a 0 = v ∧ a 9 = v ∧ a 10 = .i ls.length ∧ a 11 = .i i ∧ a 3 = .i (lsum (ls.take i))) ?_ ?_
  · rintro i a H' hi ⟨rfl, a0, a9, a10, a11, a3⟩ ih
    have hle := lsum_le (ls := ls) (i := i)
    simp (disch := (first | assumption | omega | (simp only [List.length_append, List.length_cons, List.length_nil]; omega))) only [↓wD,wU,Nat.reduceBEq,zx150,zx151,zx159,zx160,zx161,zx162,Nat.reduceAdd,Nat.reduceSub,Nat.reduceMul,Nat.reduceLeDiff,Nat.reduceLT,Nat.reduceEqDiff,Int.reduceAdd,Int.reduceSub,Int.reduceMul,Int.reduceNeg,Int.reduceLT,Int.reduceLE,Int.reduceEq,Int.reduceToNat,Int.cast_ofNat_Int,↓reduceIte, *]
    refine condP_split (fun hlt => ?_) (fun hlt => ?_)
    · have hi' : i < ls.length := by omega
      have g := hl.get (k := (i : Int)) (by omega) (by omega)
      have e := lsum_take hi'
      have hle2 := lsum_le (ls := ls) (i := i + 1)
      simp (disch := (first | assumption | omega | (simp only [List.length_append, List.length_cons, List.length_nil]; omega))) only [↓wD,wU,Nat.reduceBEq,zx150,zx151,zx159,zx160,zx161,zx162,Nat.reduceAdd,Nat.reduceSub,Nat.reduceMul,Nat.reduceLeDiff,Nat.reduceLT,Nat.reduceEqDiff,Int.reduceAdd,Int.reduceSub,Int.reduceMul,Int.reduceNeg,Int.reduceLT,Int.reduceLE,Int.reduceEq,Int.reduceToNat,Int.cast_ofNat_Int,↓reduceIte, *, hl.L, g.I]
      refine (ih hi').go ⟨rfl, ?_⟩
      simp (disch := (first | assumption | omega | (simp only [List.length_append, List.length_cons, List.length_nil]; omega))) only [↓wD,wU,Nat.reduceBEq,zx150,zx151,zx159,zx160,zx161,zx162,Nat.reduceAdd,Nat.reduceSub,Nat.reduceMul,Nat.reduceLeDiff,Nat.reduceLT,Nat.reduceEqDiff,Int.reduceAdd,Int.reduceSub,Int.reduceMul,Int.reduceNeg,Int.reduceLT,Int.reduceLE,Int.reduceEq,Int.reduceToNat,Int.cast_ofNat_Int,↓reduceIte, *]
    · obtain rfl : i = ls.length := by omega
      have e : ls.take ls.length = ls := List.take_length
      rw [e] at a3
      clear hlt hi ih
      simp (disch := (first | assumption | omega | (simp only [List.length_append, List.length_cons, List.length_nil]; omega))) only [↓wD,wU,Nat.reduceBEq,zx150,zx151,zx159,zx160,zx161,zx162,Nat.reduceAdd,Nat.reduceSub,Nat.reduceMul,Nat.reduceLeDiff,Nat.reduceLT,Nat.reduceEqDiff,Int.reduceAdd,Int.reduceSub,Int.reduceMul,Int.reduceNeg,Int.reduceLT,Int.reduceLE,Int.reduceEq,Int.reduceToNat,Int.cast_ofNat_Int,↓reduceIte, *]
      refine (grow0_ret (by omega) (by omega)).toF fun u H2 hg hu => ?_
      have hl2 := (hl.low.weak fun _ h => h.2).gr hg
      simp (disch := (first | assumption | omega | (simp only [List.length_append, List.length_cons, List.length_nil]; omega))) only [↓wD,wU,Nat.reduceBEq,zx150,zx151,zx159,zx160,zx161,zx162,Nat.reduceAdd,Nat.reduceSub,Nat.reduceMul,Nat.reduceLeDiff,Nat.reduceLT,Nat.reduceEqDiff,Int.reduceAdd,Int.reduceSub,Int.reduceMul,Int.reduceNeg,Int.reduceLT,Int.reduceLE,Int.reduceEq,Int.reduceToNat,Int.cast_ofNat_Int,↓reduceIte, *, hl.L, hl2.L]
      have ha0 : Acc H'.length (fun _ => True) H2 u ([] : List Int) := Acc_empty hu fun _ h => h
      refine Wp.for ls.length (fun i a H1 => ∃ u, a 6 = u ∧ a 25 = v ∧ a 26 = .i ls.length ∧ a 27 = .i i ∧ Gr H' H1 ∧ Acc H'.length (fun _ => True) H1 u (ls.take i).flatten) ?_ ?_
      · clear ha0 hu a0 a9 a10 a11 a3
        rintro i a H1 hi ⟨u, a6, a25, a26, a27, hg1, hu⟩ ih
        simp (disch := (first | assumption | omega | (simp only [List.length_append, List.length_cons, List.length_nil]; omega))) only [↓wD,wU,Nat.reduceBEq,zx150,zx151,zx159,zx160,zx161,zx162,Nat.reduceAdd,Nat.reduceSub,Nat.reduceMul,Nat.reduceLeDiff,Nat.reduceLT,Nat.reduceEqDiff,Int.reduceAdd,Int.reduceSub,Int.reduceMul,Int.reduceNeg,Int.reduceLT,Int.reduceLE,Int.reduceEq,Int.reduceToNat,Int.cast_ofNat_Int,↓reduceIte, *]
        refine condP_split (fun hlt => ?_) (fun hlt => ?_)
        · have hi' : i < ls.length := by omega
          have hl1 := (hl.low.weak fun _ h => h.2).gr hg1
          have g := hl1.get (k := (i : Int)) (by omega) (by omega)
          simp (disch := (first | assumption | omega | (simp only [List.length_append, List.length_cons, List.length_nil]; omega))) only [↓wD,wU,Nat.reduceBEq,zx150,zx151,zx159,zx160,zx161,zx162,Nat.reduceAdd,Nat.reduceSub,Nat.reduceMul,Nat.reduceLeDiff,Nat.reduceLT,Nat.reduceEqDiff,Int.reduceAdd,Int.reduceSub,Int.reduceMul,Int.reduceNeg,Int.reduceLT,Int.reduceLE,Int.reduceEq,Int.reduceToNat,Int.cast_ofNat_Int,↓reduceIte, *, hl1.L, g.I]
          refine hu.extend (Nat.le_refl _) (by have := hg1.1; omega) g (fun b hb => ⟨trivial, fun e => by have := hu.blk_lt e; omega⟩) ?_ (by omega) fun u' H3 hu' hk => ?_
          · have e := lsum_take hi'
            have hle2 := lsum_le (ls := ls) (i := i + 1)
            rw [len_flatten, ← e]; omega
          · simp (disch := (first | assumption | omega | (simp only [List.length_append, List.length_cons, List.length_nil]; omega))) only [↓wD,wU,Nat.reduceBEq,zx150,zx151,zx159,zx160,zx161,zx162,Nat.reduceAdd,Nat.reduceSub,Nat.reduceMul,Nat.reduceLeDiff,Nat.reduceLT,Nat.reduceEqDiff,Int.reduceAdd,Int.reduceSub,Int.reduceMul,Int.reduceNeg,Int.reduceLT,Int.reduceLE,Int.reduceEq,Int.reduceToNat,Int.cast_ofNat_Int,↓reduceIte, *]
            refine (ih hi').go ⟨u', ?_⟩
            simp (disch := (first | assumption | omega | (simp only [List.length_append, List.length_cons, List.length_nil]; omega))) only [↓wD,wU,Nat.reduceBEq,zx150,zx151,zx159,zx160,zx161,zx162,Nat.reduceAdd,Nat.reduceSub,Nat.reduceMul,Nat.reduceLeDiff,Nat.reduceLT,Nat.reduceEqDiff,Int.reduceAdd,Int.reduceSub,Int.reduceMul,Int.reduceNeg,Int.reduceLT,Int.reduceLE,Int.reduceEq,Int.reduceToNat,Int.cast_ofNat_Int,↓reduceIte, *]
            refine ⟨hg1.push hu (Nat.le_refl _) hk, ?_⟩
            rw [take_gi hi', List.flatten_append]
            simpa using hu'
        · obtain rfl : i = ls.length := by omega
          simp (disch := (first | assumption | omega | (simp only [List.length_append, List.length_cons, List.length_nil]; omega))) only [↓wD,wU,Nat.reduceBEq,zx150,zx151,zx159,zx160,zx161,zx162,Nat.reduceAdd,Nat.reduceSub,Nat.reduceMul,Nat.reduceLeDiff,Nat.reduceLT,Nat.reduceEqDiff,Int.reduceAdd,Int.reduceSub,Int.reduceMul,Int.reduceNeg,Int.reduceLT,Int.reduceLE,Int.reduceEq,Int.reduceToNat,Int.cast_ofNat_Int,↓reduceIte, *]
          rw [e] at hu
          rcases hu with h | ⟨b, o, c, k, e, hb, hk, h1, h2, h3⟩
          · exact .inl h
          · exact .inr ⟨b, o, c, k, e, .inr hb, hk, h1, h2, h3⟩
      · simp (disch := (first | assumption | omega | (simp only [List.length_append, List.length_cons, List.length_nil]; omega))) only [↓wD,wU,Nat.reduceBEq,zx150,zx151,zx159,zx160,zx161,zx162,Nat.reduceAdd,Nat.reduceSub,Nat.reduceMul,Nat.reduceLeDiff,Nat.reduceLT,Nat.reduceEqDiff,Int.reduceAdd,Int.reduceSub,Int.reduceMul,Int.reduceNeg,Int.reduceLT,Int.reduceLE,Int.reduceEq,Int.reduceToNat,Int.cast_ofNat_Int,↓reduceIte, *]
        exact ⟨u, rfl, by first | exact ha0 | exact ⟨hg, ha0⟩⟩
  · (simp (disch := (first | assumption | omega | (simp only [List.length_append, List.length_cons, List.length_nil]; omega))) only [↓wD,wU,Nat.reduceBEq,zx150,zx151,zx159,zx160,zx161,zx162,Nat.reduceAdd,Nat.reduceSub,Nat.reduceMul,Nat.reduceLeDiff,Nat.reduceLT,Nat.reduceEqDiff,Int.reduceAdd,Int.reduceSub,Int.reduceMul,Int.reduceNeg,Int.reduceLT,Int.reduceLE,Int.reduceEq,Int.reduceToNat,Int.cast_ofNat_Int,↓reduceIte, *]) <;> simp [lsum]
end Go.Proofs.Ytalaadcbpjnglaa
namespace Go.Proofs.Ytalaadcbpjnglaa
open Go Go.AM Go.Proofs
def rng (x n : Int) : List Int := (List.range (n - x).toNat).map fun i : Nat => x + (i : Int)
def sufs (r : Bool) (n : Int) : Nat → Int → List (List Int)
  | 0, _ => [[]]
  | t + 1, x => (rng x n).flatMap fun y => (sufs r n t (if r = true then y + 1 else 0)).map (y :: ·)
def frm (r : Bool) (l : List Int) : Int := if r = true ∧ 0 < l.length then gi l ((l.length : Int) - 1) + 1 else 0
theorem gi_last {l : List Int} {x : Int} : gi (l ++ [x]) (((l ++ [x]).length : Int) - 1) = x := by
  have e : (((l ++ [x]).length : Int) - 1) = ((l.length : Nat) : Int) := by simp
  rw [e, gi_nat (by simp)]; simp
theorem frm_app (r : Bool) (l : List Int) (x : Int) : frm r (l ++ [x]) = if r = true then x + 1 else 0 := by
  unfold frm
  rw [gi_last]
  cases r <;> simp
theorem rng_cons {x n : Int} (h : x < n) : rng x n = x :: rng (x + 1) n := by
  unfold rng
  have e : (n - x).toNat = (n - (x + 1)).toNat + 1 := by omega
  rw [e, List.range_succ_eq_map]
  simp only [List.map_cons, List.map_map]
  congr 1
  · simp
  · apply List.map_congr_left
    intro i _
    simp; omega
theorem rng_nil {x n : Int} (h : n ≤ x) : rng x n = [] := by
  unfold rng
  have e : (n - x).toNat = 0 := by omega
  rw [e]; rfl
/-- the items behind l, from x on -/
def rest (r : Bool) (n : Int) (t : Nat) (l : List Int) (x : Int) : List (List Int) := (rng x n).flatMap fun y => (sufs r n t (frm r (l ++ [y]))).map ((l ++ [y]) ++ ·)
theorem sufs_rest (r : Bool) (n : Int) (t : Nat) (l : List Int) : (sufs r n (t + 1) (frm r l)).map (l ++ ·) = rest r n t l (frm r l) := by
  simp only [sufs, rest, List.map_flatMap, List.map_map, frm_app]
  congr 1
  funext y
  apply List.map_congr_left
  intro s _
  simp
theorem rest_cons {r : Bool} {n : Int} {t : Nat} {l : List Int} {x : Int} (h : x < n) : rest r n t l x = (sufs r n t (frm r (l ++ [x]))).map ((l ++ [x]) ++ ·) ++ rest r n t l (x + 1) := by
  unfold rest; rw [rng_cons h]; rfl
theorem rest_nil {r : Bool} {n : Int} {t : Nat} {l : List Int} {x : Int} (h : n ≤ x) : rest r n t l x = [] := by
  unfold rest; rw [rng_nil h]; rfl
/-- what grow reads: its variables -/
structure Vars (K : Nat → Prop) (H : Heap) (y : AV) (r : Bool) (n t : Int) (bt bY br bn bg : Nat) : Prop where
  t : H[bt]? = some (.cells [.i t]) ∧ ¬ K bt
  y : H[bY]? = some (.cells [y]) ∧ ¬ K bY
  r : H[br]? = some (.cells [.b r]) ∧ ¬ K br
  n : H[bn]? = some (.cells [.i n]) ∧ ¬ K bn
  g : H[bg]? = some (.cells [.fn 97 [] [.p bt 0, .p bY 0, .p br 0, .p bn 0, .p bg 0]]) ∧ ¬ K bg
theorem Vars.mono {K K' : Nat → Prop} {H H' : Heap} {y : AV} {r : Bool} {n t : Int} {bt bY br bn bg : Nat} (h : Vars K H y r n t bt bY br bn bg) (hk : Kx (fun b => ¬ K b) H H') (hK : ∀ b, b < H.length → K' b → K b) : Vars K' H' y r n t bt bY br bn bg :=
  ⟨⟨hk.get h.t.2 h.t.1, fun q => h.t.2 (hK _ (List.getElem?_eq_some_iff.1 h.t.1).1 q)⟩, ⟨hk.get h.y.2 h.y.1, fun q => h.y.2 (hK _ (List.getElem?_eq_some_iff.1 h.y.1).1 q)⟩, ⟨hk.get h.r.2 h.r.1, fun q => h.r.2 (hK _ (List.getElem?_eq_some_iff.1 h.r.1).1 q)⟩, ⟨hk.get h.n.2 h.n.1, fun q => h.n.2 (hK _ (List.getElem?_eq_some_iff.1 h.n.1).1 q)⟩, ⟨hk.get h.g.2 h.g.1, fun q => h.g.2 (hK _ (List.getElem?_eq_some_iff.1 h.g.1).1 q)⟩⟩
theorem grow_ok {lo B : Nat} {y : AV} {r : Bool} {n : Int} {t : Nat} {bt bY br bn bg : Nat} (hlo : lo ≤ B) (ht : t ≤ 1000000) (hn : n ≤ 1000000) :
    ∀ (m : Nat) (l : List Int) (v : AV) (K : Nat → Prop) (H : Heap) (Q : Bool → (Nat → Prop) → Heap → Prop), l.length + m = t → (∀ x ∈ l, 0 ≤ x ∧ x < n) → Vars K H y r n t bt bY br bn bg → Sl (fun b => B ≤ b ∧ ¬ K b) H v l → (∀ b, K b → b < H.length) → B ≤ H.length →
      Its E lo y B ArgI Q ((sufs r n m (frm r l)).map (l ++ ·)) K H →
      WpF E lo 97 [v, .p bt 0, .p bY 0, .p br 0, .p bn 0, .p bg 0] H fun u H' => ∃ ok K', u = .b ok ∧ Q ok K' H' ∧ Kx (fun b => ¬ K b ∧ v.blk ≠ some b) H H' ∧ ∀ b, K' b → b < H'.length ∧ (b < H.length → K b ∨ v.blk = some b) := by
  intro m
  induction m with
  | zero =>
    intro l v K H Q hl hb hv hs hK hB hI
    refine WpF.wrt rfl fn97 rfl ?_
    unfold f97A
    have e : (l.length : Int) = t := by omega
    simp (disch := (first | assumption | omega | (simp only [List.length_append, List.length_cons, List.length_nil]; omega))) only [↓wD,wU,Nat.reduceBEq,zx150,zx151,zx159,zx160,zx161,zx162,Nat.reduceAdd,Nat.reduceSub,Nat.reduceMul,Nat.reduceLeDiff,Nat.reduceLT,Nat.reduceEqDiff,Int.reduceAdd,Int.reduceSub,Int.reduceMul,Int.reduceNeg,Int.reduceLT,Int.reduceLE,Int.reduceEq,Int.reduceToNat,Int.cast_ofNat_Int,↓reduceIte, *, hs.I, ld_of hv.t.1, ld_of hv.y.1]
    refine callvI ((hI H (fun b => v.blk = some b) [v] (Kx.refl _ _) ⟨v, rfl, ?_⟩ ?_).mono ?_)
    · simp only [List.append_nil]; exact hs.own
    · exact fun b e => ⟨(hs.blkp e).1.1, (hs.blkp e).2, (hs.blkp e).1.2⟩
    · rintro u H2 ⟨hx, hc⟩
      rcases hc with ⟨rfl, hc⟩ | ⟨rfl, hc⟩
      · simp (disch := (first | assumption | omega | (simp only [List.length_append, List.length_cons, List.length_nil]; omega))) only [↓wD,wU,Nat.reduceBEq,zx150,zx151,zx159,zx160,zx161,zx162,Nat.reduceAdd,Nat.reduceSub,Nat.reduceMul,Nat.reduceLeDiff,Nat.reduceLT,Nat.reduceEqDiff,Int.reduceAdd,Int.reduceSub,Int.reduceMul,Int.reduceNeg,Int.reduceLT,Int.reduceLE,Int.reduceEq,Int.reduceToNat,Int.cast_ofNat_Int,↓reduceIte, *]
        refine ⟨true, _, rfl, Its.none hc, hx.weak fun b _ h q => q.elim h.1 h.2, ?_⟩
        rintro b (h | h | h)
        · exact ⟨by have := hK b h; have := hx.1; omega, fun _ => .inl h⟩
        · exact ⟨by have := (hs.blkp h).2; have := hx.1; omega, fun _ => .inr h⟩
        · exact ⟨h.2, fun q => by omega⟩
      · simp (disch := (first | assumption | omega | (simp only [List.length_append, List.length_cons, List.length_nil]; omega))) only [↓wD,wU,Nat.reduceBEq,zx150,zx151,zx159,zx160,zx161,zx162,Nat.reduceAdd,Nat.reduceSub,Nat.reduceMul,Nat.reduceLeDiff,Nat.reduceLT,Nat.reduceEqDiff,Int.reduceAdd,Int.reduceSub,Int.reduceMul,Int.reduceNeg,Int.reduceLT,Int.reduceLE,Int.reduceEq,Int.reduceToNat,Int.cast_ofNat_Int,↓reduceIte, *]
        refine ⟨false, _, rfl, hc _ (Kx.refl _ _), hx.weak fun b _ h q => q.elim h.1 h.2, ?_⟩
        rintro b (h | h | h)
        · exact ⟨by have := hK b h; have := hx.1; omega, fun _ => .inl h⟩
        · exact ⟨by have := (hs.blkp h).2; have := hx.1; omega, fun _ => .inr h⟩
        · exact ⟨h.2, fun q => by omega⟩
  | succ m ihm =>
    intro l v K H Q hl hb hv hs hK hB hI
    refine WpF.wrt rfl fn97 rfl ?_
    unfold f97A
    have e : ¬ (l.length : Int) = t := by omega
    rw [sufs_rest] at hI
    obtain ⟨x0, hx0⟩ : ∃ x0, frm r l = x0 := ⟨_, rfl⟩
    rw [hx0] at hI
    have hg : 0 ≤ x0 ∧ x0 ≤ 1000000 ∧ ((r = false ∧ x0 ≤ 0) ∨ (r = true ∧ l.length ≤ 0 ∧ x0 ≤ 0) ∨ (r = true ∧ 0 < l.length ∧ 0 ≤ gi l ((l.length : Int) - 1) ∧ gi l ((l.length : Int) - 1) < n ∧ x0 ≤ gi l ((l.length : Int) - 1) + 1 ∧ gi l ((l.length : Int) - 1) + 1 ≤ x0)) := by
      subst hx0
      cases r
      · simp [frm]
      · by_cases h0 : l.length = 0
        · simp [frm, h0]
        · have := hb _ (gi_mem (xs := l) (k := (l.length : Int) - 1) (by omega) (by omega))
          have e : frm true l = gi l ((l.length : Int) - 1) + 1 := by unfold frm; rw [if_pos ⟨rfl, by omega⟩]
          rw [e]
          exact ⟨by omega, by omega, .inr (.inr ⟨rfl, by omega, this.1, this.2, Int.le_refl _, Int.le_refl _⟩)⟩
    clear hx0
    have hln := hs.bound
    obtain ⟨f1, f2, hg⟩ := hg
    rcases hg with ⟨hr, g1⟩ | ⟨hr, g1, g2⟩ | ⟨hr, g1, g2, g3, g4, g5⟩
    all_goals simp (disch := (first | assumption | omega | (simp only [List.length_append, List.length_cons, List.length_nil]; omega))) only [↓wD,wU,Nat.reduceBEq,zx150,zx151,zx159,zx160,zx161,zx162,Nat.reduceAdd,Nat.reduceSub,Nat.reduceMul,Nat.reduceLeDiff,Nat.reduceLT,Nat.reduceEqDiff,Int.reduceAdd,Int.reduceSub,Int.reduceMul,Int.reduceNeg,Int.reduceLT,Int.reduceLE,Int.reduceEq,Int.reduceToNat,Int.cast_ofNat_Int,↓reduceIte, *, hs.I, ld_of hv.t.1, ld_of hv.y.1, ld_of hv.r.1]
    all_goals clear hr
    all_goals
      refine Wp.for (n - x0).toNat (fun i a H1 => a 0 = v ∧ a 1 = .p bt 0 ∧ a 2 = .p bY 0 ∧ a 3 = .p br 0 ∧ a 4 = .p bn 0 ∧ a 5 = .p bg 0 ∧ (∃ x, a 9 = .i x ∧ x ≤ x0 + i ∧ x0 + i ≤ x) ∧ ∃ K1, Its E lo y B ArgI Q (rest r n m l (x0 + i)) K1 H1 ∧ Kx (fun b => ¬ K b) H H1 ∧ ∀ b, K1 b → b < H1.length ∧ (b < H.length → K b)) ?_ ?_
      · rintro i a H1 hi ⟨a0, a1, a2, a3, a4, a5, ⟨x, a9, hxa, hxb⟩, K1, hI1, hx1, hK1⟩ ih
        rw [Int.le_antisymm hxb hxa] at hI1
        have hv1 := hv.mono hx1 fun b h q => (hK1 b q).2 h
        have hs1 : Sl (fun b => B ≤ b ∧ ¬ K1 b) H1 v l := (hs.low.mono (hx1.weak fun b _ h => h.1.2).kp fun b h => ⟨h.1.1, fun q => h.1.2 ((hK1 b q).2 h.2)⟩)
        simp (disch := (first | assumption | omega | (simp only [List.length_append, List.length_cons, List.length_nil]; omega))) only [↓wD,wU,Nat.reduceBEq,zx150,zx151,zx159,zx160,zx161,zx162,Nat.reduceAdd,Nat.reduceSub,Nat.reduceMul,Nat.reduceLeDiff,Nat.reduceLT,Nat.reduceEqDiff,Int.reduceAdd,Int.reduceSub,Int.reduceMul,Int.reduceNeg,Int.reduceLT,Int.reduceLE,Int.reduceEq,Int.reduceToNat,Int.cast_ofNat_Int,↓reduceIte, *, ld_of hv1.n.1]
        refine condP_split (fun hlt => ?_) (fun hlt => ?_)
        · have hi' : i < (n - x0).toNat := by omega
          obtain ⟨u, hu1, hu2⟩ := hs1.clip (by omega)
          rw [rest_cons hlt] at hI1
          have hI2 := Its.append hI1
          simp (disch := (first | assumption | omega | (simp only [List.length_append, List.length_cons, List.length_nil]; omega))) only [↓wD,wU,Nat.reduceBEq,zx150,zx151,zx159,zx160,zx161,zx162,Nat.reduceAdd,Nat.reduceSub,Nat.reduceMul,Nat.reduceLeDiff,Nat.reduceLT,Nat.reduceEqDiff,Int.reduceAdd,Int.reduceSub,Int.reduceMul,Int.reduceNeg,Int.reduceLT,Int.reduceLE,Int.reduceEq,Int.reduceToNat,Int.cast_ofNat_Int,↓reduceIte, *]
          refine lpI (wpC ?_)
          simp (disch := (first | assumption | omega | (simp only [List.length_append, List.length_cons, List.length_nil]; omega))) only [↓wD,wU,Nat.reduceBEq,zx150,zx151,zx159,zx160,zx161,zx162,Nat.reduceAdd,Nat.reduceSub,Nat.reduceMul,Nat.reduceLeDiff,Nat.reduceLT,Nat.reduceEqDiff,Int.reduceAdd,Int.reduceSub,Int.reduceMul,Int.reduceNeg,Int.reduceLT,Int.reduceLE,Int.reduceEq,Int.reduceToNat,Int.cast_ofNat_Int,↓reduceIte, *, hs1.I, ld_of hv1.g.1, hu1 _ (.inl rfl), hu2 lo H1.length _ rfl]
          have e1 : (l ++ [x]).length = l.length + 1 := by simp
          have hv2 : Vars K1 (H1 ++ [Blk.cells [AV.i x], Blk.cells (List.map AV.i (l ++ [x]))]) y r n t bt bY br bn bg := hv1.mono (Kx.app _ _ _) fun _ _ h => h
          have hs2 : Sl (fun b => B ≤ b ∧ ¬ K1 b) (H1 ++ [Blk.cells [AV.i x], Blk.cells (List.map AV.i (l ++ [x]))]) (.s 1 (H1.length + 1) 0 (l.length + 1) none) (l ++ [x]) := by
            have hh1 := hx1.1
            have := Sl.litI (p := fun b => B ≤ b ∧ ¬ K1 b) (H := H1 ++ [Blk.cells [AV.i x], Blk.cells (List.map AV.i (l ++ [x]))]) (b := H1.length + 1) (c := none) (xs := l ++ [x]) (by simp) ⟨by omega, fun q => by have := (hK1 _ q).1; omega⟩ (by rw [e1]; omega)
            rwa [e1] at this
          refine callvI (WpV.fn (us := []) (vs := [_]) ((ihm (l ++ [x]) _ K1 _ _ (by rw [e1]; omega) ?_ hv2 hs2 (fun b q => by have := (hK1 b q).1; simp; omega) (by have := hx1.1; simp; omega) (hI2.keep (Kx.app _ _ _))).mono ?_))
          · intro z hz
            rcases List.mem_append.1 hz with hz | hz
            · exact hb z hz
            · simp at hz; subst hz; omega
          · rintro u' H' ⟨ok, K', rfl, hq, hx3, hK3⟩
            simp (disch := (first | assumption | omega | (simp only [List.length_append, List.length_cons, List.length_nil]; omega))) only [↓wD,wU,Nat.reduceBEq,zx150,zx151,zx159,zx160,zx161,zx162,Nat.reduceAdd,Nat.reduceSub,Nat.reduceMul,Nat.reduceLeDiff,Nat.reduceLT,Nat.reduceEqDiff,Int.reduceAdd,Int.reduceSub,Int.reduceMul,Int.reduceNeg,Int.reduceLT,Int.reduceLE,Int.reduceEq,Int.reduceToNat,Int.cast_ofNat_Int,↓reduceIte, *]
            refine chkI ?_ ?_
            · have q1 : (H1 ++ [Blk.cells [AV.i x]])[bg]? = _ := (Kx.app (fun _ => True) _ _).get trivial hv1.g.1
              have q2 : (H1 ++ [Blk.cells [AV.i x], Blk.cells (List.map AV.i l ++ [AV.i x])])[bg]? = _ := (Kx.app (fun _ => True) _ _).get trivial hv1.g.1
              simp [chk1, ev, Fr.upd, a5, ld_of q1, ld_of q2, sameO, AV.same_refl]
            · have hx2 : Kx (fun b => ¬ K b) H H' := by
                refine (hx1.app' [Blk.cells [AV.i x], Blk.cells (List.map AV.i (l ++ [x]))]).trans hx3 fun b hb h => ⟨fun q => h ((hK1 b q).2 hb), ?_⟩
                have hh1 := hx1.1
                intro e
                simp only [AV.blk, Option.some.injEq] at e
                omega
              have hK2 : ∀ b, K' b → b < H'.length ∧ (b < H.length → K b) := fun b q => ⟨(hK3 b q).1, fun hb => by
                have hh1 := hx1.1
                rcases (hK3 b q).2 (by simp only [List.length_append]; omega) with h | h
                · exact (hK1 b h).2 hb
                · simp only [AV.blk, Option.some.injEq] at h; omega⟩
              cases ok with
              | true =>
                simp (disch := (first | assumption | omega | (simp only [List.length_append, List.length_cons, List.length_nil]; omega))) only [↓wD,wU,Nat.reduceBEq,zx150,zx151,zx159,zx160,zx161,zx162,Nat.reduceAdd,Nat.reduceSub,Nat.reduceMul,Nat.reduceLeDiff,Nat.reduceLT,Nat.reduceEqDiff,Int.reduceAdd,Int.reduceSub,Int.reduceMul,Int.reduceNeg,Int.reduceLT,Int.reduceLE,Int.reduceEq,Int.reduceToNat,Int.cast_ofNat_Int,↓reduceIte, *]
                refine (ih hi').go ?_
                simp (disch := (first | assumption | omega | (simp only [List.length_append, List.length_cons, List.length_nil]; omega))) only [↓wD,wU,Nat.reduceBEq,zx150,zx151,zx159,zx160,zx161,zx162,Nat.reduceAdd,Nat.reduceSub,Nat.reduceMul,Nat.reduceLeDiff,Nat.reduceLT,Nat.reduceEqDiff,Int.reduceAdd,Int.reduceSub,Int.reduceMul,Int.reduceNeg,Int.reduceLT,Int.reduceLE,Int.reduceEq,Int.reduceToNat,Int.cast_ofNat_Int,↓reduceIte, *]
                exact ⟨⟨x + 1, rfl, by omega, by omega⟩, K', by rw [show x0 + ((i : Int) + 1) = x + 1 by omega]; exact hq.1 rfl, hK2⟩
              | false =>
                simp (disch := (first | assumption | omega | (simp only [List.length_append, List.length_cons, List.length_nil]; omega))) only [↓wD,wU,Nat.reduceBEq,zx150,zx151,zx159,zx160,zx161,zx162,Nat.reduceAdd,Nat.reduceSub,Nat.reduceMul,Nat.reduceLeDiff,Nat.reduceLT,Nat.reduceEqDiff,Int.reduceAdd,Int.reduceSub,Int.reduceMul,Int.reduceNeg,Int.reduceLT,Int.reduceLE,Int.reduceEq,Int.reduceToNat,Int.cast_ofNat_Int,↓reduceIte, *]
                exact ⟨false, K', rfl, hq.2 rfl, hx2.weak fun _ _ h => h.1, fun b q => ⟨(hK2 b q).1, fun hb => .inl ((hK2 b q).2 hb)⟩⟩
        · simp (disch := (first | assumption | omega | (simp only [List.length_append, List.length_cons, List.length_nil]; omega))) only [↓wD,wU,Nat.reduceBEq,zx150,zx151,zx159,zx160,zx161,zx162,Nat.reduceAdd,Nat.reduceSub,Nat.reduceMul,Nat.reduceLeDiff,Nat.reduceLT,Nat.reduceEqDiff,Int.reduceAdd,Int.reduceSub,Int.reduceMul,Int.reduceNeg,Int.reduceLT,Int.reduceLE,Int.reduceEq,Int.reduceToNat,Int.cast_ofNat_Int,↓reduceIte, *]
          rw [rest_nil (by omega)] at hI1
          exact ⟨true, K1, rfl, Its.none hI1, hx1.weak fun _ _ h => h.1, fun b q => ⟨(hK1 b q).1, fun hb => .inl ((hK1 b q).2 hb)⟩⟩
      · simp (disch := (first | assumption | omega | (simp only [List.length_append, List.length_cons, List.length_nil]; omega))) only [↓wD,wU,Nat.reduceBEq,zx150,zx151,zx159,zx160,zx161,zx162,Nat.reduceAdd,Nat.reduceSub,Nat.reduceMul,Nat.reduceLeDiff,Nat.reduceLT,Nat.reduceEqDiff,Int.reduceAdd,Int.reduceSub,Int.reduceMul,Int.reduceNeg,Int.reduceLT,Int.reduceLE,Int.reduceEq,Int.reduceToNat,Int.cast_ofNat_Int,↓reduceIte, *]
        rw [show x0 + 0 = x0 by omega]
        exact ⟨⟨_, rfl, by omega, by omega⟩, K, hI, Kx.refl _ _, fun b q => ⟨hK b q, fun _ => q⟩⟩
theorem tuples_it {lo : Nat} {y : AV} {r : Bool} {n : Int} {t : Nat} {bt br bn : Nat} {K : Nat → Prop} {H : Heap} {Q : Bool → (Nat → Prop) → Heap → Prop} (hlo : lo ≤ H.length) (ht : t ≤ 1000000) (hn : n ≤ 1000000) (hy : y.cells = [y] ∧ y.one = true)
    (h1 : H[bt]? = some (.cells [.i t]) ∧ ¬ K bt) (h2 : H[br]? = some (.cells [.b r]) ∧ ¬ K br) (h3 : H[bn]? = some (.cells [.i n]) ∧ ¬ K bn) (hK : ∀ b, K b → b < H.length)
    (hI : Its E lo y H.length ArgI Q (sufs r n t 0) K H) : WpF E lo 96 [y, .p bt 0, .p br 0, .p bn 0] H fun _ H' => ∃ ok K', Q ok K' H' := by
  refine WpF.wrt rfl fn96 rfl ?_
  unfold f96A
  simp (disch := (first | assumption | omega | (simp only [List.length_append, List.length_cons, List.length_nil]; omega))) only [↓wD,wU,Nat.reduceBEq,zx150,zx151,zx159,zx160,zx161,zx162,Nat.reduceAdd,Nat.reduceSub,Nat.reduceMul,Nat.reduceLeDiff,Nat.reduceLT,Nat.reduceEqDiff,Int.reduceAdd,Int.reduceSub,Int.reduceMul,Int.reduceNeg,Int.reduceLT,Int.reduceLE,Int.reduceEq,Int.reduceToNat,Int.cast_ofNat_Int,↓reduceIte, *]
  have hx : Kx (fun _ => True) H (H ++ [Blk.cells [y]] ++ [Blk.cells [AV.fn 97 [] [AV.p bt 0, AV.p (List.length H) 0, AV.p br 0, AV.p bn 0, AV.p (List.length H + 1) 0]]]) := (Kx.app _ _ _).app' _
  have hv : Vars K _ y r n t bt H.length br bn (H.length + 1) := ⟨⟨hx.get trivial h1.1, h1.2⟩, ⟨by simp, fun q => by have := hK _ q; omega⟩, ⟨hx.get trivial h2.1, h2.2⟩, ⟨hx.get trivial h3.1, h3.2⟩, ⟨by simp, fun q => by have := hK _ q; omega⟩⟩
  refine callvI (WpV.fn (us := []) (vs := [_]) ((grow_ok hlo ht hn t [] .nils K _ Q (by simp) nofun hv Sl.nil (fun b q => by have := hK b q; simp; omega) (by simp) ?_).mono ?_))
  · have e : (sufs r n t (frm r [])).map ([] ++ ·) = sufs r n t 0 := by
      rw [show frm r [] = 0 by simp [frm]]
      simp
    rw [e]
    exact hI.keep (hx.weak fun _ _ _ => trivial)
  · rintro u H' ⟨ok, K', rfl, hq, _⟩
    simp (disch := (first | assumption | omega | (simp only [List.length_append, List.length_cons, List.length_nil]; omega))) only [↓wD,wU,Nat.reduceBEq,zx150,zx151,zx159,zx160,zx161,zx162,Nat.reduceAdd,Nat.reduceSub,Nat.reduceMul,Nat.reduceLeDiff,Nat.reduceLT,Nat.reduceEqDiff,Int.reduceAdd,Int.reduceSub,Int.reduceMul,Int.reduceNeg,Int.reduceLT,Int.reduceLE,Int.reduceEq,Int.reduceToNat,Int.cast_ofNat_Int,↓reduceIte, *]
    exact ⟨ok, K', hq⟩
/-- what tuples returns -/
structure Tup where
  r : Bool
  n : Int
  t : Int
instance : RV Tup where
  rv p H v x := ∃ bt br bn, v = .fn 96 [] [.p bt 0, .p br 0, .p bn 0] ∧ (p bt ∧ p br ∧ p bn) ∧ H[bt]? = some (.cells [.i x.t]) ∧ H[br]? = some (.cells [.b x.r]) ∧ H[bn]? = some (.cells [.i x.n])
  mono := by
    rintro p q H H' v x ⟨bt, br, bn, rfl, hp, h1, h2, h3⟩ hk hq
    exact ⟨bt, br, bn, rfl, ⟨hq _ hp.1, hq _ hp.2.1, hq _ hp.2.2⟩, hk.2 _ _ hp.1 h1, hk.2 _ _ hp.2.1 h2, hk.2 _ _ hp.2.2 h3⟩
  pure := by
    rintro p q H H' v x ⟨bt, br, bn, rfl, _⟩ hp
    simp [AV.pure, AV.pureAll] at hp
theorem tuples_ret {H : Heap} {t n : Int} {r : Bool} : Ret E 72 [.i t, .i n, .b r] (fun _ => False) H (Tup.mk r n t) := by
  refine Ret.ro rfl fn72 rfl ?_
  unfold f72A
  simp (disch := (first | assumption | omega | (simp only [List.length_append, List.length_cons, List.length_nil]; omega))) only [↓wD,wU,Nat.reduceBEq,zx150,zx151,zx159,zx160,zx161,zx162,Nat.reduceAdd,Nat.reduceSub,Nat.reduceMul,Nat.reduceLeDiff,Nat.reduceLT,Nat.reduceEqDiff,Int.reduceAdd,Int.reduceSub,Int.reduceMul,Int.reduceNeg,Int.reduceLT,Int.reduceLE,Int.reduceEq,Int.reduceToNat,Int.cast_ofNat_Int,↓reduceIte, *]
  refine ⟨_, _, _, rfl, ?_, ?_⟩
  · simp; omega
  · refine ⟨by simp, ?_, by simp⟩
    rw [List.getElem?_append_right (by simp)]
    simp
end Go.Proofs.Ytalaadcbpjnglaa
namespace Go.Proofs.Ytalaadcbpjnglaa
open Go Go.AM Go.Proofs
/-- an item of all: a place, and how often it comes -/
def ArgA (Ki : Nat → Prop) (H : Heap) (args : List AV) (x : List Int × Nat) : Prop := ∃ u, args = [u, .i x.2] ∧ Sl Ki H u x.1
def allC (v : Int) (t : List (List Int)) (k : Nat) (cs : List Int) : List (List Int × Nat) := (sufs false v k 0).map fun ks => (cs ++ ks, oft t cs ks)
def allL (v : Int) (t : List (List Int)) (k : Nat) : List (List Int × Nat) := (sufs true (wd t) k 0).flatMap (allC v t k)
theorem rng_mem {x n y : Int} (h : y ∈ rng x n) : x ≤ y ∧ y < n := by
  simp only [rng, List.mem_map, List.mem_range] at h
  obtain ⟨i, hi, rfl⟩ := h
  omega
theorem sufs_len {r : Bool} {n : Int} : ∀ {t : Nat} {x : Int} {s : List Int}, s ∈ sufs r n t x → s.length = t
  | 0, x, s, h => by simp [sufs] at h; subst h; rfl
  | t + 1, x, s, h => by
    simp only [sufs, List.mem_flatMap, List.mem_map] at h
    obtain ⟨y, _, z, hz, rfl⟩ := h
    simp [sufs_len hz]
theorem sufs_in {r : Bool} {n : Int} : ∀ {t : Nat} {x : Int} {s : List Int}, 0 ≤ x → s ∈ sufs r n t x → ∀ c ∈ s, 0 ≤ c ∧ c < n
  | 0, x, s, _, h => by simp [sufs] at h; subst h; nofun
  | t + 1, x, s, hx, h => by
    simp only [sufs, List.mem_flatMap, List.mem_map] at h
    obtain ⟨y, hy, z, hz, rfl⟩ := h
    have h1 := rng_mem hy
    intro c hc
    rcases List.mem_cons.1 hc with rfl | hc
    · omega
    · exact sufs_in (by split <;> omega) hz c hc
theorem gset {b : Nat} {H H2 : Heap} {k k' : Blk} (e : H.set b k = H2) (h : H[b]? = some k') : H2[b]? = some k := by rw [← e]; exact get_set h
theorem all_it {lo : Nat} {y rows : AV} {v : Int} {t : List (List Int)} {k bt ba : Nat} {K : Nat → Prop} {H : Heap} {Q : Bool → (Nat → Prop) → Heap → Prop} (hlo : lo ≤ H.length) (hy : y.cells = [y] ∧ y.one = true)
    (h1 : H[bt]? = some (.cells [.i k]) ∧ ¬ K bt) (h2 : H[ba]? = some (.cells [.i v, rows]) ∧ ¬ K ba) (hr : Sl (fun b => ¬ K b) H rows t) (hA : ArrP v t) (hk : k ≤ 3) (hK : ∀ b, K b → b < H.length)
    (hI : Its E lo y H.length ArgA Q (allL v t k) K H) : WpF E lo 102 [y, .p bt 0, .p ba 0] H fun _ H' => ∃ ok K', Q ok K' H' := by
  refine WpF.wrt rfl fn102 rfl ?_
  unfold f102A
  have hwd := hA.wd
  have hv1 := hA.1
  have hv2 := hA.2.1
  have x1 : Kx (fun _ => True) H (H ++ [.cells [y]]) := Kx.app _ _ _
  have hr1 := hr.app [.cells [y]]
  simp (disch := (first | assumption | omega | (simp only [List.length_append, List.length_cons, List.length_nil]; omega))) only [↓wD,wU,Nat.reduceBEq,zx150,zx151,zx159,zx160,zx161,zx162,Nat.reduceAdd,Nat.reduceSub,Nat.reduceMul,Nat.reduceLeDiff,Nat.reduceLT,Nat.reduceEqDiff,Int.reduceAdd,Int.reduceSub,Int.reduceMul,Int.reduceNeg,Int.reduceLT,Int.reduceLE,Int.reduceEq,Int.reduceToNat,Int.cast_ofNat_Int,↓reduceIte, *, ld_of (x1.get trivial h1.1), ldn_of (x1.get trivial h2.1), (columns_ret hr1 hA.2.2.1).call]
  refine (tuples_ret).toX fun w Hr hg hw => ?_
  obtain ⟨b1, b2, b3, rfl, hp, c1, c2, c3⟩ := hw
  have hp1 : H.length < b1 := by have := hp.1; simp at this; omega
  have hp2 : H.length < b2 := by have := hp.2.1; simp at this; omega
  have hp3 : H.length < b3 := by have := hp.2.2; simp at this; omega
  clear hp
  have x2 : Kx (fun _ => True) H Hr := x1.trans hg fun _ _ _ => trivial
  have d1 := x2.get trivial h1.1
  have d2 := x2.get trivial h2.1
  have d3 : Hr[H.length]? = some (.cells [y]) := hg.get trivial (by simp)
  have hHr : H.length < Hr.length := (List.getElem?_eq_some_iff.1 d3).1
  have hr2 : Sl (fun b => b < H.length ∧ ¬ K b) Hr rows t := (hr.low.weak fun b h => ⟨h.2, h.1⟩).kp x2.kp.weakT
  clear hg hr1 x1
  simp (disch := (first | assumption | omega | (simp only [List.length_append, List.length_cons, List.length_nil]; omega))) only [↓wD,wU,Nat.reduceBEq,zx150,zx151,zx159,zx160,zx161,zx162,Nat.reduceAdd,Nat.reduceSub,Nat.reduceMul,Nat.reduceLeDiff,Nat.reduceLT,Nat.reduceEqDiff,Int.reduceAdd,Int.reduceSub,Int.reduceMul,Int.reduceNeg,Int.reduceLT,Int.reduceLE,Int.reduceEq,Int.reduceToNat,Int.cast_ofNat_Int,↓reduceIte, *]
  refine Wp.range (A := ArgI) (sufs true (wd t) k 0) K (fun i K1 H1 => ∃ Kc, Its E lo y H.length ArgA Q (((sufs true (wd t) k 0).drop i).flatMap (allC v t k)) Kc H1 ∧ ∀ b, Kc b → K1 b ∧ (b < Hr.length → K b))
    (fun j K1 H1 => j = .ret ∧ ∃ Kc, (∀ b, Kc b → K1 b) ∧ ∀ H3, Kx (fun b => b < H.length ∨ Kc b) H1 H3 → Q false Kc H3) (by (simp (disch := (first | assumption | omega | (simp only [List.length_append, List.length_cons, List.length_nil]; omega))) only [↓wD,wU,Nat.reduceBEq,zx150,zx151,zx159,zx160,zx161,zx162,Nat.reduceAdd,Nat.reduceSub,Nat.reduceMul,Nat.reduceLeDiff,Nat.reduceLT,Nat.reduceEqDiff,Int.reduceAdd,Int.reduceSub,Int.reduceMul,Int.reduceNeg,Int.reduceLT,Int.reduceLE,Int.reduceEq,Int.reduceToNat,Int.cast_ofNat_Int,↓reduceIte, *]) <;> rfl) rfl (by omega) (fun b h => by have := hK b h; omega) (by rintro _ _ _ _ ⟨u, rfl, _⟩; rfl) ?_ ?_ ?_ ?_ ?_ ?_ ?_
  · intro K' H1 Q' e hx hK' hI
    rw [← e] at hI
    have hne : ∀ b, H.length < b → b < Hr.length → ¬ K' b := fun b q1 q2 h => by
      rcases (hK' b).1 h with h | h
      · have := hK b h; omega
      · omega
    exact tuples_it (t := k) (n := (wd t : Int)) (by omega) (by omega) (by omega) ⟨rfl, rfl⟩ ⟨hx.get trivial c1, hne _ hp1 (List.getElem?_eq_some_iff.1 c1).1⟩ ⟨hx.get trivial c2, hne _ hp2 (List.getElem?_eq_some_iff.1 c2).1⟩ ⟨hx.get trivial c3, hne _ hp3 (List.getElem?_eq_some_iff.1 c3).1⟩ (fun b h => by
      rcases (hK' b).1 h with h | h
      · have := hK b h; omega
      · omega) hI
  · rintro i K1 H1 H2 ⟨Kc, q1, q2⟩ hx
    exact ⟨Kc, q1.keep (hx.weak fun b _ h => h.elim (fun h => .inl (by omega)) fun h => .inr (q2 b h).1), q2⟩
  · rintro j K1 H1 H2 ⟨rfl, Kc, q0, q1⟩ hx
    exact ⟨rfl, Kc, q0, fun H3 h3 => q1 H3 ((hx.weak fun b _ h => h.elim (fun h => .inl (by omega)) fun h => .inr (q0 b h)).trans h3 fun _ _ h => h)⟩
  · exact ⟨K, hI.keep (x2.all _), fun b h => ⟨h, fun _ => h⟩⟩
  · rintro i hi K1 Ki args H1 ⟨Kc, q1, q2⟩ ⟨cu, rfl, hcu⟩ hKi hK1 hx hl hl1 _
    rw [List.drop_eq_getElem_cons hi, List.flatMap_cons] at q1
    have q1' := Its.append q1
    clear q1
    have hcl := sufs_len (List.getElem_mem hi)
    have hcb := sufs_in (Int.le_refl 0) (List.getElem_mem hi)
    obtain ⟨cs, ecs⟩ : ∃ cs, (sufs true (wd t) k 0)[i] = cs := ⟨_, rfl⟩
    rw [ecs] at hcl hcb q1' hcu
    have f1 := hx.get ⟨(List.getElem?_eq_some_iff.1 d1).1, h1.2⟩ d1
    have f2 := hx.get ⟨(List.getElem?_eq_some_iff.1 d2).1, h2.2⟩ d2
    have f3 := hx.get ⟨hHr, fun q => by have := hK _ q; omega⟩ d3
    have e1 : (H1 ++ [Blk.cells [cu]])[Hr.length]? = _ := (Kx.app (fun _ => True) _ _).get trivial hl1
    simp (disch := (first | assumption | omega | (simp only [List.length_append, List.length_cons, List.length_nil]; omega))) only [↓wD,wU,Nat.reduceBEq,zx150,zx151,zx159,zx160,zx161,zx162,Nat.reduceAdd,Nat.reduceSub,Nat.reduceMul,Nat.reduceLeDiff,Nat.reduceLT,Nat.reduceEqDiff,Int.reduceAdd,Int.reduceSub,Int.reduceMul,Int.reduceNeg,Int.reduceLT,Int.reduceLE,Int.reduceEq,Int.reduceToNat,Int.cast_ofNat_Int,↓reduceIte, *, zx189, zx190, hcu.cellsV, zx188 (lo := lo) e1 (by omega)]
    generalize eH2 : (H1 ++ [Blk.cells [cu]]).set Hr.length _ = H2
    have x12 : Kx (fun b => b ≠ Hr.length) H1 H2 := by rw [← eH2]; exact Kx.set' (Kx.app _ _ _) (fun _ h => h rfl) _
    have n12 : H2.length = H1.length + 1 := by rw [← eH2]; simp
    have gl := gset eH2 e1
    have g4 : H2[H1.length]? = some (.cells [cu]) := by rw [← eH2, List.getElem?_set_ne (by omega)]; simp
    have lt1 := (List.getElem?_eq_some_iff.1 d1).1
    have ltb := (List.getElem?_eq_some_iff.1 h1.1).1
    have lta := (List.getElem?_eq_some_iff.1 h2.1).1
    have g1 := x12.get (by omega) f1
    have g2 := x12.get (by omega) f2
    have g3 := x12.get (by omega) f3
    clear eH2 e1
    simp (disch := (first | assumption | omega | (simp only [List.length_append, List.length_cons, List.length_nil]; omega))) only [↓wD,wU,Nat.reduceBEq,zx150,zx151,zx159,zx160,zx161,zx162,Nat.reduceAdd,Nat.reduceSub,Nat.reduceMul,Nat.reduceLeDiff,Nat.reduceLT,Nat.reduceEqDiff,Int.reduceAdd,Int.reduceSub,Int.reduceMul,Int.reduceNeg,Int.reduceLT,Int.reduceLE,Int.reduceEq,Int.reduceToNat,Int.cast_ofNat_Int,↓reduceIte, *, ld_of g1, ld_of g2]
    refine (tuples_ret).toX fun w3 H3 x23 hw => ?_
    obtain ⟨k1, k2, k3, rfl, hp, m1, m2, m3⟩ := hw
    have hp1 : H1.length < k1 := by have := hp.1; simp at this; omega
    have hp2 : H1.length < k2 := by have := hp.2.1; simp at this; omega
    have hp3 : H1.length < k3 := by have := hp.2.2; simp at this; omega
    clear hp
    have x13 : Kx (fun b => b ≠ Hr.length) H1 H3 := x12.trans x23 fun _ _ _ => trivial
    have gl3 := x23.get trivial gl
    have hl3 := x23.1
    have q2' : ∀ b, Kc b → b < H1.length ∧ b ≠ Hr.length ∧ (b < Hr.length → K b) ∧ ¬ Ki b := fun b h => ⟨(hK1 b (q2 b h).1).1, (hK1 b (q2 b h).1).2, (q2 b h).2, fun q => (hKi b q).2.2 (q2 b h).1⟩
    have hcu3 : Sl (fun b => b < H1.length ∧ Ki b) H3 cu cs := (hcu.low.weak fun b h => ⟨h.2, h.1⟩).kp (x13.weak fun b _ h => by have := (hKi b h.2).1; omega).kp
    have hr3 : Sl (fun b => b < H.length ∧ ¬ K b) H3 rows t := (hr2.kp (hx.weak fun b _ h => ⟨by omega, h.2⟩).kp).kp (x13.weak fun b _ h => by omega).kp
    have s1 := x23.get trivial g1
    have s2 := x23.get trivial g2
    have s3 := x23.get trivial g3
    have s4 := x23.get trivial g4
    simp (disch := (first | assumption | omega | (simp only [List.length_append, List.length_cons, List.length_nil]; omega))) only [↓wD,wU,Nat.reduceBEq,zx150,zx151,zx159,zx160,zx161,zx162,Nat.reduceAdd,Nat.reduceSub,Nat.reduceMul,Nat.reduceLeDiff,Nat.reduceLT,Nat.reduceEqDiff,Int.reduceAdd,Int.reduceSub,Int.reduceMul,Int.reduceNeg,Int.reduceLT,Int.reduceLE,Int.reduceEq,Int.reduceToNat,Int.cast_ofNat_Int,↓reduceIte, *]
    refine Wp.range (A := ArgI) (sufs false v k 0) Kc (fun j K2 H4 => ∃ Kc', Its E lo y H.length ArgA (fun ok K' H' => (ok = true → Its E lo y H.length ArgA Q (((sufs true (wd t) k 0).drop (i + 1)).flatMap (allC v t k)) K' H') ∧ (ok = false → Q false K' H')) ((allC v t k cs).drop j) Kc' H4 ∧ ∀ b, Kc' b → K2 b ∧ b < H4.length ∧ (b < H3.length → Kc b))
      (fun j K2 H4 => j = .ret ∧ ∃ Kc', (∀ b, Kc' b → K2 b ∧ b < H4.length ∧ (b < H3.length → Kc b)) ∧ ∀ H5, Kx (fun b => b < H.length ∨ Kc' b) H4 H5 → Q false Kc' H5) (by (simp (disch := (first | assumption | omega | (simp only [List.length_append, List.length_cons, List.length_nil]; omega))) only [↓wD,wU,Nat.reduceBEq,zx150,zx151,zx159,zx160,zx161,zx162,Nat.reduceAdd,Nat.reduceSub,Nat.reduceMul,Nat.reduceLeDiff,Nat.reduceLT,Nat.reduceEqDiff,Int.reduceAdd,Int.reduceSub,Int.reduceMul,Int.reduceNeg,Int.reduceLT,Int.reduceLE,Int.reduceEq,Int.reduceToNat,Int.cast_ofNat_Int,↓reduceIte, *]) <;> rfl) (mayL gl3 (by omega)) (by omega) (fun b h => by have := (q2' b h).1; omega) (by rintro _ _ _ _ ⟨u, rfl, _⟩; rfl) ?_ ?_ ?_ ?_ ?_ ?_ ?_
    · intro K' H4 Q' e hx' hK' hI
      rw [← e] at hI
      have hne : ∀ b, H1.length < b → b < H3.length → ¬ K' b := fun b q1 q2 h => by
        rcases (hK' b).1 h with h | h
        · have := (q2' b h).1; omega
        · omega
      exact tuples_it (t := k) (n := v) (by omega) (by omega) (by omega) ⟨rfl, rfl⟩ ⟨hx'.get trivial m1, hne _ hp1 (List.getElem?_eq_some_iff.1 m1).1⟩ ⟨hx'.get trivial m2, hne _ hp2 (List.getElem?_eq_some_iff.1 m2).1⟩ ⟨hx'.get trivial m3, hne _ hp3 (List.getElem?_eq_some_iff.1 m3).1⟩ (fun b h => by
        rcases (hK' b).1 h with h | h
        · have := (q2' b h).1; omega
        · omega) hI
    · rintro j K2 H4 H5 ⟨Kc', q1, q2⟩ hx
      exact ⟨Kc', q1.keep (hx.weak fun b _ h => h.elim (fun h => .inl (by omega)) fun h => .inr (q2 b h).1), fun b h => ⟨(q2 b h).1, by have := (q2 b h).2.1; have := hx.1; omega, (q2 b h).2.2⟩⟩
    · rintro j K2 H4 H5 ⟨rfl, Kc', q0, q1⟩ hx
      exact ⟨rfl, Kc', fun b h => ⟨(q0 b h).1, by have := (q0 b h).2.1; have := hx.1; omega, (q0 b h).2.2⟩, fun H6 h6 => q1 H6 ((hx.weak fun b _ h => h.elim (fun h => .inl (by omega)) fun h => .inr (q0 b h).1).trans h6 fun _ _ h => h)⟩
    · exact ⟨Kc, by rw [List.drop_zero]; exact q1'.keep (x13.weak fun b _ h => h.elim (fun h => by omega) fun h => (q2' b h).2.1), fun b h => ⟨h, by have := (q2' b h).1; omega, fun _ => h⟩⟩
    · rintro j hj K2 Ki2 args2 H4 ⟨Kc', q3, q4⟩ ⟨ku, rfl, hku⟩ hKi2 hK2 hx4 hl4 hl41 _
      have hj' : j < (allC v t k cs).length := by unfold allC; rw [List.length_map]; exact hj
      rw [List.drop_eq_getElem_cons hj'] at q3
      have hjl := sufs_len (List.getElem_mem hj)
      have ea : (allC v t k cs)[j] = (cs ++ (sufs false v k 0)[j], oft t cs (sufs false v k 0)[j]) := by simp [allC]
      rw [ea] at q3
      clear ea
      obtain ⟨ks, eks⟩ : ∃ ks, (sufs false v k 0)[j] = ks := ⟨_, rfl⟩
      rw [eks] at q3 hku hjl
      have u2 := hx4.get ⟨(List.getElem?_eq_some_iff.1 s2).1, fun q => h2.2 ((q2' _ q).2.2.1 (by omega))⟩ s2
      have u3 := hx4.get ⟨(List.getElem?_eq_some_iff.1 s3).1, fun q => by have := hK _ ((q2' _ q).2.2.1 hHr); omega⟩ s3
      have u4 := hx4.get ⟨(List.getElem?_eq_some_iff.1 s4).1, fun q => by have := (q2' _ q).1; omega⟩ s4
      have hcu4 := hcu3.kp (hx4.weak fun b _ h => ⟨by omega, fun q => (q2' _ q).2.2.2 h.2⟩).kp
      have hr4 := hr3.kp (hx4.weak fun b _ h => ⟨by omega, fun q => h.2 ((q2' _ q).2.2.1 (by omega))⟩).kp
      simp (disch := (first | assumption | omega | (simp only [List.length_append, List.length_cons, List.length_nil]; omega))) only [↓wD,wU,Nat.reduceBEq,zx150,zx151,zx159,zx160,zx161,zx162,Nat.reduceAdd,Nat.reduceSub,Nat.reduceMul,Nat.reduceLeDiff,Nat.reduceLT,Nat.reduceEqDiff,Int.reduceAdd,Int.reduceSub,Int.reduceMul,Int.reduceNeg,Int.reduceLT,Int.reduceLE,Int.reduceEq,Int.reduceToNat,Int.cast_ofNat_Int,↓reduceIte, *, zx188 (lo := lo) hl41 (by omega)]
      generalize e5 : H4.set H3.length _ = H5
      have x45 : Kx (fun b => b ≠ H3.length) H4 H5 := by rw [← e5]; exact Kx.set _ _ _
      have n45 : H5.length ≤ H4.length ∧ H4.length ≤ H5.length := by rw [← e5]; simp
      have gl5 := gset e5 hl41
      have w2 := x45.get (by omega) u2
      have w3 := x45.get (by omega) u3
      have w4 := x45.get (by omega) u4
      have hcu5 := hcu4.kp (x45.weak fun b _ h => by omega).kp
      have hku5 : Sl (fun b => b < H4.length ∧ Ki2 b) H5 ku ks := (hku.low.weak fun b h => ⟨h.2, h.1⟩).kp (x45.weak fun b _ h => by have := (hKi2 b h.2).1; omega).kp
      have hr5 := hr4.kp (x45.weak fun b _ h => by omega).kp
      clear e5
      simp (disch := (first | assumption | omega | (simp only [List.length_append, List.length_cons, List.length_nil]; omega))) only [↓wD,wU,Nat.reduceBEq,zx150,zx151,zx159,zx160,zx161,zx162,Nat.reduceAdd,Nat.reduceSub,Nat.reduceMul,Nat.reduceLeDiff,Nat.reduceLT,Nat.reduceEqDiff,Int.reduceAdd,Int.reduceSub,Int.reduceMul,Int.reduceNeg,Int.reduceLT,Int.reduceLE,Int.reduceEq,Int.reduceToNat,Int.cast_ofNat_Int,↓reduceIte, *, ld_of w2, ld_of w3, ld_of w4, hcu.cellsV, hku.cellsV]
      have hlit : Sl (fun _ => True) (H5 ++ [Blk.cells [cu, ku]]) (.s 1 H5.length 0 2 (some 2)) [cs, ks] := by
        refine Sl.litL (us := [cu, ku]) (xs := [cs, ks]) (b := H5.length) get_last trivial (show 2 ≤ 9223372036854775807 by omega) rfl fun i h1 h2 => ?_
        match i, h1, h2 with
        | 0, _, _ => exact (hcu5.app _).weak fun _ _ => trivial
        | 1, _, _ => exact (hku5.app _).weak fun _ _ => trivial
        | n + 2, h1, _ => exact absurd h1 (by simp)
      refine (concat_ret hlit (by simp [lsum]; omega)).toFX fun u H6 x56 hu => ?_
      have x56' : Kx (fun _ => True) H5 H6 := (Kx.app _ _ _).trans x56 fun _ _ _ => trivial
      have l56 : H5.length + 1 ≤ H6.length := by have := x56.1; simpa using this
      have v2 := x56'.get trivial w2
      have v3 := x56'.get trivial w3
      have v4 := x56'.get trivial w4
      have hcu6 := hcu5.kp (x56'.all _).kp
      have hku6 := hku5.kp (x56'.all _).kp
      have hr6 := hr5.kp (x56'.all _).kp
      have hu6 : Sl (fun b => H5.length + 1 ≤ b ∧ b < H6.length) H6 u (cs ++ ks) := by
        have := hu.low
        simp only [List.flatten_cons, List.flatten_nil, List.append_nil] at this
        exact this.weak fun b h => ⟨by have := h.1; simpa using this, h.2⟩
      have hof := often_ret (v := v) hr6 hcu6 hku6 (by omega) fun c hc => ⟨(hcb c hc).1, fun r hr => by rw [(hA.row hr).1]; exact (hcb c hc).2⟩
      simp (disch := (first | assumption | omega | (simp only [List.length_append, List.length_cons, List.length_nil]; omega))) only [↓wD,wU,Nat.reduceBEq,zx150,zx151,zx159,zx160,zx161,zx162,Nat.reduceAdd,Nat.reduceSub,Nat.reduceMul,Nat.reduceLeDiff,Nat.reduceLT,Nat.reduceEqDiff,Int.reduceAdd,Int.reduceSub,Int.reduceMul,Int.reduceNeg,Int.reduceLT,Int.reduceLE,Int.reduceEq,Int.reduceToNat,Int.cast_ofNat_Int,↓reduceIte, *, ld_of v2, ldn_of v2, ld_of v3, ld_of v4, hof.call]
      have hq4 : ∀ b, Kc' b → K2 b ∧ b < H4.length ∧ (b < H3.length → Kc b) := q4
      refine callvI ((q3 H6 (fun b => H5.length + 1 ≤ b ∧ b < H6.length) [u, .i (oft t cs ks)] ?_ ⟨u, rfl, hu6⟩ ?_).mono ?_)
      · exact x45.trans (x56'.all _) (fun _ _ _ => trivial) |>.weak fun b _ h => h.elim (fun h => by omega) fun h => (hK2 b (q4 b h).1).2
      · exact fun b h => ⟨by omega, h.2, fun q => by have := (q4 b q).2.1; omega⟩
      · rintro r H7 ⟨x67, hc⟩
        have x47 : Kx (fun b => ¬ (K2 b ∨ Ki2 b) ∧ b ≠ H3.length) H4 H7 := ((x45.trans (x56'.all _) fun _ _ _ => trivial).weak fun b _ h => h.2).trans x67 fun b hb h => fun q => q.elim (fun q => h.1 (.inl (q4 b q).1)) fun q => by omega
        have gl7 := x67.get (b := H3.length) (fun q => q.elim (fun q => (hK2 _ (q4 _ q).1).2 rfl) fun q => by omega) (x56'.get trivial gl5)
        have l67 := x67.1
        have hkn : ∀ b, Kn Kc' (fun b => H5.length + 1 ≤ b ∧ b < H6.length) H6 H7 b → Kn K2 Ki2 H4 H7 b ∧ b < H7.length ∧ (b < H3.length → Kc b) := by
          rintro b (h | h | h)
          · exact ⟨.inl (q4 b h).1, by have := (q4 b h).2.1; omega, (q4 b h).2.2⟩
          · exact ⟨.inr (.inr ⟨by omega, by omega⟩), by omega, fun q => by omega⟩
          · exact ⟨.inr (.inr ⟨by omega, by omega⟩), by omega, fun q => by omega⟩
        rcases hc with ⟨rfl, hc⟩ | ⟨rfl, hc⟩
        · simp (disch := (first | assumption | omega | (simp only [List.length_append, List.length_cons, List.length_nil]; omega))) only [↓wD,wU,Nat.reduceBEq,zx150,zx151,zx159,zx160,zx161,zx162,Nat.reduceAdd,Nat.reduceSub,Nat.reduceMul,Nat.reduceLeDiff,Nat.reduceLT,Nat.reduceEqDiff,Int.reduceAdd,Int.reduceSub,Int.reduceMul,Int.reduceNeg,Int.reduceLT,Int.reduceLE,Int.reduceEq,Int.reduceToNat,Int.cast_ofNat_Int,↓reduceIte, *]
          first | exact ⟨_, hc, hkn⟩ | exact ⟨gl7, x47, _, hc, hkn⟩
        · simp (disch := (first | assumption | omega | (simp only [List.length_append, List.length_cons, List.length_nil]; omega))) only [↓wD,wU,Nat.reduceBEq,zx150,zx151,zx159,zx160,zx161,zx162,Nat.reduceAdd,Nat.reduceSub,Nat.reduceMul,Nat.reduceLeDiff,Nat.reduceLT,Nat.reduceEqDiff,Int.reduceAdd,Int.reduceSub,Int.reduceMul,Int.reduceNeg,Int.reduceLT,Int.reduceLE,Int.reduceEq,Int.reduceToNat,Int.cast_ofNat_Int,↓reduceIte, *]
          first | exact ⟨_, hkn, fun H8 h8 => (hc H8 h8).2 rfl⟩ | exact ⟨gl7, x47, rfl, _, hkn, fun H8 h8 => (hc H8 h8).2 rfl⟩ | exact ⟨rfl, _, hkn, fun H8 h8 => (hc H8 h8).2 rfl⟩
    · rintro K2 H4 ⟨Kc', q3, q4⟩ hx4 hl4
      have gl4 := hx4.get ⟨(List.getElem?_eq_some_iff.1 gl3).1, fun q => (q2' _ q).2.1 rfl⟩ gl3
      rw [List.drop_of_length_le (l := allC v t k cs) (by unfold allC; rw [List.length_map]; exact Nat.le_refl _)] at q3
      have xx : Kx (fun b => ¬ (K1 b ∨ Ki b) ∧ b ≠ Hr.length) H1 H4 := (x13.weak fun b _ h => h.2).trans hx4 fun b hb h => ⟨by omega, fun q => h.1 (.inl (q2 b q).1)⟩
      have hkn : ∀ b, Kc' b → Kn K1 Ki H1 H4 b ∧ (b < Hr.length → K b) := fun b h => by
        by_cases hb : b < H3.length
        · exact ⟨.inl (q2 b ((q4 b h).2.2 hb)).1, fun q => (q2' b ((q4 b h).2.2 hb)).2.2.1 q⟩
        · exact ⟨.inr (.inr ⟨by omega, (q4 b h).2.1⟩), fun q => by omega⟩
      have q5 := q3.none.1 rfl
      simp (disch := (first | assumption | omega | (simp only [List.length_append, List.length_cons, List.length_nil]; omega))) only [↓wD,wU,Nat.reduceBEq,zx150,zx151,zx159,zx160,zx161,zx162,Nat.reduceAdd,Nat.reduceSub,Nat.reduceMul,Nat.reduceLeDiff,Nat.reduceLT,Nat.reduceEqDiff,Int.reduceAdd,Int.reduceSub,Int.reduceMul,Int.reduceNeg,Int.reduceLT,Int.reduceLE,Int.reduceEq,Int.reduceToNat,Int.cast_ofNat_Int,↓reduceIte, *]
      first | exact ⟨_, q5, hkn⟩ | exact ⟨gl4, xx, _, q5, hkn⟩
    · rintro j K2 H4 ⟨rfl, Kc', q3, q4⟩ hx4 hl4
      have gl4 := hx4.get ⟨(List.getElem?_eq_some_iff.1 gl3).1, fun q => (q2' _ q).2.1 rfl⟩ gl3
      have xx : Kx (fun b => ¬ (K1 b ∨ Ki b) ∧ b ≠ Hr.length) H1 H4 := (x13.weak fun b _ h => h.2).trans hx4 fun b hb h => ⟨by omega, fun q => h.1 (.inl (q2 b q).1)⟩
      have hkn : ∀ b, Kc' b → Kn K1 Ki H1 H4 b := fun b h => by
        by_cases hb : b < H3.length
        · exact .inl (q2 b ((q3 b h).2.2 hb)).1
        · exact .inr (.inr ⟨by omega, (q3 b h).2.1⟩)
      change Wp E lo _ (.code .ret :: _) _ _ _
      simp (disch := (first | assumption | omega | (simp only [List.length_append, List.length_cons, List.length_nil]; omega))) only [↓wD,wU,Nat.reduceBEq,zx150,zx151,zx159,zx160,zx161,zx162,Nat.reduceAdd,Nat.reduceSub,Nat.reduceMul,Nat.reduceLeDiff,Nat.reduceLT,Nat.reduceEqDiff,Int.reduceAdd,Int.reduceSub,Int.reduceMul,Int.reduceNeg,Int.reduceLT,Int.reduceLE,Int.reduceEq,Int.reduceToNat,Int.cast_ofNat_Int,↓reduceIte, *]
      first | exact ⟨_, hkn, q4⟩ | exact ⟨gl4, xx, rfl, _, hkn, q4⟩ | exact ⟨rfl, _, hkn, q4⟩
  · rintro K1 H1 ⟨Kc, q1, _⟩ hx hl
    simp (disch := (first | assumption | omega | (simp only [List.length_append, List.length_cons, List.length_nil]; omega))) only [↓wD,wU,Nat.reduceBEq,zx150,zx151,zx159,zx160,zx161,zx162,Nat.reduceAdd,Nat.reduceSub,Nat.reduceMul,Nat.reduceLeDiff,Nat.reduceLT,Nat.reduceEqDiff,Int.reduceAdd,Int.reduceSub,Int.reduceMul,Int.reduceNeg,Int.reduceLT,Int.reduceLE,Int.reduceEq,Int.reduceToNat,Int.cast_ofNat_Int,↓reduceIte, *]
    rw [List.drop_length] at q1
    exact ⟨true, Kc, q1.none⟩
  · rintro j K1 H1 ⟨rfl, Kc, q0, q1⟩ hx hl
    change Wp E lo none (.code .ret :: _) _ _ _
    simp (disch := (first | assumption | omega | (simp only [List.length_append, List.length_cons, List.length_nil]; omega))) only [↓wD,wU,Nat.reduceBEq,zx150,zx151,zx159,zx160,zx161,zx162,Nat.reduceAdd,Nat.reduceSub,Nat.reduceMul,Nat.reduceLeDiff,Nat.reduceLT,Nat.reduceEqDiff,Int.reduceAdd,Int.reduceSub,Int.reduceMul,Int.reduceNeg,Int.reduceLT,Int.reduceLE,Int.reduceEq,Int.reduceToNat,Int.cast_ofNat_Int,↓reduceIte, *]
    exact ⟨false, Kc, q1 _ (Kx.refl _ _)⟩
end Go.Proofs.Ytalaadcbpjnglaa
namespace Go.Proofs.Ytalaadcbpjnglaa
open Go Go.AM Go.Proofs
/-- what all returns -/
structure AllR where
  v : Int
  rows : AV
  k : Int
instance : RV AllR where
  rv p H w x := ∃ bt ba, w = .fn 102 [] [.p bt 0, .p ba 0] ∧ (p bt ∧ p ba) ∧ H[bt]? = some (.cells [.i x.k]) ∧ H[ba]? = some (.cells [.i x.v, x.rows])
  mono := by
    rintro p q H H' v x ⟨bt, ba, rfl, hp, h1, h2⟩ hk hq
    exact ⟨bt, ba, rfl, ⟨hq _ hp.1, hq _ hp.2⟩, hk.2 _ _ hp.1 h1, hk.2 _ _ hp.2 h2⟩
  pure := by
    rintro p q H H' v x ⟨bt, ba, rfl, _⟩ hp
    simp [AV.pure, AV.pureAll] at hp
theorem all_ret {H : Heap} {v k : Int} {rows : AV} (hr : rows.cells = [rows] ∧ rows.one = true) : Ret E 87 [.ag [.i v, rows], .i k] (fun _ => False) H (AllR.mk v rows k) := by
  refine Ret.ro rfl fn87 rfl ?_
  unfold f87A
  simp (disch := (first | assumption | omega | (simp only [List.length_append, List.length_cons, List.length_nil]; omega))) only [↓wD,wU,Nat.reduceBEq,zx150,zx151,zx159,zx160,zx161,zx162,Nat.reduceAdd,Nat.reduceSub,Nat.reduceMul,Nat.reduceLeDiff,Nat.reduceLT,Nat.reduceEqDiff,Int.reduceAdd,Int.reduceSub,Int.reduceMul,Int.reduceNeg,Int.reduceLT,Int.reduceLE,Int.reduceEq,Int.reduceToNat,Int.cast_ofNat_Int,↓reduceIte, *]
  refine ⟨_, _, rfl, ?_, ?_⟩
  · simp
  · simp
/-- the iterator, behind a range over it -/
theorem all_range {lo : Nat} {v : Int} {rows : AV} {t : List (List Int)} {k bt ba : Nat} {H0 Hr H1 : Heap} {K0 K : Nat → Prop} {Q : Bool → (Nat → Prop) → Heap → Prop} (hlo : lo ≤ Hr.length)
    (c1 : Hr[bt]? = some (.cells [.i k])) (c2 : Hr[ba]? = some (.cells [.i v, rows])) (n1 : ¬ K0 bt) (n2 : ¬ K0 ba) (hr : Sl (fun b => b < H0.length) H0 rows t) (hg : Kx (fun _ => True) H0 Hr) (hK0 : ∀ b, K0 b → H0.length ≤ b ∧ b < Hr.length)
    (hA : ArrP v t) (hk : k ≤ 3) (e : H1.length = Hr.length + 1) (hx : Kx (fun _ => True) Hr H1) (hK : ∀ b, K b ↔ K0 b ∨ b = Hr.length) (hI : Its E lo (.yl Hr.length) (Hr.length + 1) ArgA Q (allL v t k) K H1) :
    WpF E lo 102 ([] ++ .yl Hr.length :: [.p bt 0, .p ba 0]) H1 fun _ H' => ∃ ok K', Q ok K' H' := by
  rw [← e] at hI
  have b1 := (List.getElem?_eq_some_iff.1 c1).1
  have b2 := (List.getElem?_eq_some_iff.1 c2).1
  refine all_it (by omega) ⟨rfl, rfl⟩ ⟨hx.get trivial c1, fun q => ((hK _).1 q).elim n1 (by omega)⟩ ⟨hx.get trivial c2, fun q => ((hK _).1 q).elim n2 (by omega)⟩ (((hr.kp (hg.all _).kp).kp (hx.all _).kp).weak fun b h q => ?_) hA hk (fun b q => ?_) hI
  · rcases (hK b).1 q with q | q
    · have := (hK0 b q).1; omega
    · have := hg.1; omega
  · rcases (hK b).1 q with q | q
    · have := (hK0 b q).2; omega
    · omega
def coversB (v : Int) (t : List (List Int)) (k : Nat) : Bool := (allL v t k).all fun x => x.2 != 0
theorem argA_len : ∀ (Ki : Nat → Prop) (H1 : Heap) (args : List AV) (x : List Int × Nat), ArgA Ki H1 args x → args.length = 2 := by rintro _ _ _ _ ⟨u, rfl, _⟩; rfl
theorem covers_ret {p : Nat → Prop} {H : Heap} {rows : AV} {v : Int} {t : List (List Int)} {k : Nat} (ht : Sl p H rows t) (hA : ArrP v t) (h1 : 1 ≤ k) (h2 : k ≤ 3) (h3 : k ≤ wd t) :
    RetP E 46 [.ag [.i v, rows], .i k] H (.tp [.b (coversB v t k), .i 0]) := by
  refine RetP.ro rfl fn46 rfl rfl ?_
  unfold f46A
  have k1 := ((ht.app [.cells [.i v, rows]]).app [.cells [.b false]]).app [.cells [.i 0]]
  have hlow : Sl (fun b => b < H.length) H rows t := ht.low.weak fun _ h => h.2
  have g1 : ArrP v t ∧ 1 ≤ (k : Int) ∧ (k : Int) ≤ 3 ∧ (k : Int) ≤ wd t := ⟨hA, by omega, by omega, by omega⟩
  simp (disch := (first | assumption | omega | (simp only [List.length_append, List.length_cons, List.length_nil]; omega))) only [↓wD,wU,Nat.reduceBEq,zx150,zx151,zx159,zx160,zx161,zx162,Nat.reduceAdd,Nat.reduceSub,Nat.reduceMul,Nat.reduceLeDiff,Nat.reduceLT,Nat.reduceEqDiff,Int.reduceAdd,Int.reduceSub,Int.reduceMul,Int.reduceNeg,Int.reduceLT,Int.reduceLE,Int.reduceEq,Int.reduceToNat,Int.cast_ofNat_Int,↓reduceIte, *, ht.cellsV, (strong_ret k1).call, decide_eq_true g1]
  refine (all_ret ht.cellsV).toX fun w Hr x1 hw => ?_
  obtain ⟨bt, ba, rfl, hp, c1, c2⟩ := hw
  have hp1 : H.length + 3 ≤ bt := by have := hp.1; simp at this; omega
  have hp2 : H.length + 3 ≤ ba := by have := hp.2; simp at this; omega
  clear hp k1
  have d4 : Hr[H.length + 1]? = some (.cells [.b false]) := x1.get trivial (by simp [List.getElem?_append])
  have d5 : Hr[H.length + 2]? = some (.cells [.i 0]) := x1.get trivial (by simp [List.getElem?_append])
  have hx0 : Kx (fun _ => True) H Hr := (((Kx.app (fun _ => True) H _).app' _).app' _).trans x1 fun _ _ _ => trivial
  have hl := (List.getElem?_eq_some_iff.1 c1).1
  clear x1
  simp (disch := (first | assumption | omega | (simp only [List.length_append, List.length_cons, List.length_nil]; omega))) only [↓wD,wU,Nat.reduceBEq,zx150,zx151,zx159,zx160,zx161,zx162,Nat.reduceAdd,Nat.reduceSub,Nat.reduceMul,Nat.reduceLeDiff,Nat.reduceLT,Nat.reduceEqDiff,Int.reduceAdd,Int.reduceSub,Int.reduceMul,Int.reduceNeg,Int.reduceLT,Int.reduceLE,Int.reduceEq,Int.reduceToNat,Int.cast_ofNat_Int,↓reduceIte, *]
  refine Wp.range (A := ArgA) (allL v t k) (fun b => b = H.length + 1 ∨ b = H.length + 2) (fun i K H1 => H1[H.length + 1]? = some (.cells [.b false]) ∧ H1[H.length + 2]? = some (.cells [.i 0]) ∧ ((allL v t k).take i).all (fun x => x.2 != 0) = true)
    (fun j K H1 => j = .ret ∧ H1[H.length + 1]? = some (.cells [.b false]) ∧ H1[H.length + 2]? = some (.cells [.i 0]) ∧ coversB v t k = false) (by (simp (disch := (first | assumption | omega | (simp only [List.length_append, List.length_cons, List.length_nil]; omega))) only [↓wD,wU,Nat.reduceBEq,zx150,zx151,zx159,zx160,zx161,zx162,Nat.reduceAdd,Nat.reduceSub,Nat.reduceMul,Nat.reduceLeDiff,Nat.reduceLT,Nat.reduceEqDiff,Int.reduceAdd,Int.reduceSub,Int.reduceMul,Int.reduceNeg,Int.reduceLT,Int.reduceLE,Int.reduceEq,Int.reduceToNat,Int.cast_ofNat_Int,↓reduceIte, *]) <;> rfl) rfl (by omega) (fun b h => by omega) argA_len ?_ ?_ ?_ ?_ ?_ ?_ ?_
  · exact fun K' H1 Q' e hx hK' hI => all_range (by omega) c1 c2 (by omega) (by omega) hlow hx0 (fun b h => by omega) hA h2 e hx hK' hI
  · exact fun i K H1 H2 h hx => ⟨hx.get (.inl (by omega)) h.1, hx.get (.inl (by omega)) h.2.1, h.2.2⟩
  · exact fun j K H1 H2 h hx => ⟨h.1, hx.get (.inl (by omega)) h.2.1, hx.get (.inl (by omega)) h.2.2.1, h.2.2.2⟩
  · exact ⟨d4, d5, rfl⟩
  · rintro i hi K Ki args H1 ⟨q4, q5, q6⟩ ⟨u, rfl, hu⟩ hKi hK hx hl1 hlr hKK
    simp (disch := (first | assumption | omega | (simp only [List.length_append, List.length_cons, List.length_nil]; omega))) only [↓wD,wU,Nat.reduceBEq,zx150,zx151,zx159,zx160,zx161,zx162,Nat.reduceAdd,Nat.reduceSub,Nat.reduceMul,Nat.reduceLeDiff,Nat.reduceLT,Nat.reduceEqDiff,Int.reduceAdd,Int.reduceSub,Int.reduceMul,Int.reduceNeg,Int.reduceLT,Int.reduceLE,Int.reduceEq,Int.reduceToNat,Int.cast_ofNat_Int,↓reduceIte, *, zx188 (lo := H.length) hlr (by omega)]
    generalize e2 : H1.set Hr.length _ = H2
    have x12 : Kx (fun b => b ≠ Hr.length) H1 H2 := by rw [← e2]; exact Kx.set _ _ _
    have l12 : H2.length ≤ H1.length ∧ H1.length ≤ H2.length := by rw [← e2]; simp
    have gl := gset e2 hlr
    have r4 := x12.get (by omega) q4
    have r5 := x12.get (by omega) q5
    clear e2
    refine condP_split (fun h0 => ?_) (fun h0 => ?_)
    · have r5' : (H2.set (H.length + 1) (.cells [.b false]))[H.length + 2]? = some (.cells [.i 0]) := by rw [List.getElem?_set_ne (by omega)]; exact r5
      simp (disch := (first | assumption | omega | (simp only [List.length_append, List.length_cons, List.length_nil]; omega))) only [↓wD,wU,Nat.reduceBEq,zx150,zx151,zx159,zx160,zx161,zx162,Nat.reduceAdd,Nat.reduceSub,Nat.reduceMul,Nat.reduceLeDiff,Nat.reduceLT,Nat.reduceEqDiff,Int.reduceAdd,Int.reduceSub,Int.reduceMul,Int.reduceNeg,Int.reduceLT,Int.reduceLE,Int.reduceEq,Int.reduceToNat,Int.cast_ofNat_Int,↓reduceIte, *, st_of r4, st_of r5']
      have kc1 := (hKK (H.length + 1) (by omega)).2 (.inl rfl)
      have kc2 := (hKK (H.length + 2) (by omega)).2 (.inr rfl)
      refine ⟨?_, ?_, rfl, ?_, ?_, ?_⟩
      · rw [List.getElem?_set_ne (by omega), List.getElem?_set_ne (by omega)]; exact gl
      · exact ((x12.weak fun b _ h => h.2).set' (fun _ h => h.1 (.inl kc1)) _).set' (fun _ h => h.1 (.inl kc2)) _
      · rw [List.getElem?_set_ne (by omega)]; exact get_set r4
      · exact get_set r5'
      · rw [coversB, ← Bool.not_eq_true, List.all_eq_true]
        intro hh
        have := hh _ (List.getElem_mem hi)
        simp at this; omega
    · simp (disch := (first | assumption | omega | (simp only [List.length_append, List.length_cons, List.length_nil]; omega))) only [↓wD,wU,Nat.reduceBEq,zx150,zx151,zx159,zx160,zx161,zx162,Nat.reduceAdd,Nat.reduceSub,Nat.reduceMul,Nat.reduceLeDiff,Nat.reduceLT,Nat.reduceEqDiff,Int.reduceAdd,Int.reduceSub,Int.reduceMul,Int.reduceNeg,Int.reduceLT,Int.reduceLE,Int.reduceEq,Int.reduceToNat,Int.cast_ofNat_Int,↓reduceIte, *]
      first
        | refine ⟨x12.weak fun b _ h => h.2, ?_⟩
        | refine ⟨gl, x12.weak fun b _ h => h.2, ?_⟩
      have e : ((allL v t k).take (i + 1)).all (fun x => x.2 != 0) = true := by
        rw [List.take_succ_eq_append_getElem hi, List.all_append, q6]
        simp; omega
      first | exact e | exact ⟨r4, r5, e⟩
  · rintro K H1 ⟨q4, q5, q6⟩ hx hl1
    have r5' : (H1.set (H.length + 1) (.cells [.b true]))[H.length + 2]? = some (.cells [.i 0]) := by rw [List.getElem?_set_ne (by omega)]; exact q5
    have lt1 := (List.getElem?_eq_some_iff.1 q4).1
    have lt2 := (List.getElem?_eq_some_iff.1 q5).1
    have r4' : ((H1.set (H.length + 1) (.cells [.b true])).set (H.length + 2) (.cells [.i 0]))[H.length + 1]? = some (.cells [.b true]) := by rw [List.getElem?_set_ne (by omega)]; exact get_set q4
    simp (disch := (first | assumption | omega | (simp only [List.length_append, List.length_cons, List.length_nil]; omega))) only [↓wD,wU,Nat.reduceBEq,zx150,zx151,zx159,zx160,zx161,zx162,Nat.reduceAdd,Nat.reduceSub,Nat.reduceMul,Nat.reduceLeDiff,Nat.reduceLT,Nat.reduceEqDiff,Int.reduceAdd,Int.reduceSub,Int.reduceMul,Int.reduceNeg,Int.reduceLT,Int.reduceLE,Int.reduceEq,Int.reduceToNat,Int.cast_ofNat_Int,↓reduceIte, *, st_of q4, st_of r5', ld_of r4', ld_of (get_set r5')]
    rw [List.take_length] at q6
    rw [coversB, q6]
  · rintro j K H1 ⟨rfl, q4, q5, q6⟩ hx hl1
    change Wp E H.length none (.code .ret :: _) _ _ _
    simp (disch := (first | assumption | omega | (simp only [List.length_append, List.length_cons, List.length_nil]; omega))) only [↓wD,wU,Nat.reduceBEq,zx150,zx151,zx159,zx160,zx161,zx162,Nat.reduceAdd,Nat.reduceSub,Nat.reduceMul,Nat.reduceLeDiff,Nat.reduceLT,Nat.reduceEqDiff,Int.reduceAdd,Int.reduceSub,Int.reduceMul,Int.reduceNeg,Int.reduceLT,Int.reduceLE,Int.reduceEq,Int.reduceToNat,Int.cast_ofNat_Int,↓reduceIte, *, ld_of q4, ld_of q5]
end Go.Proofs.Ytalaadcbpjnglaa
namespace Go.Proofs.Ytalaadcbpjnglaa
open Go Go.AM Go.Proofs
def zeros (l : List (List Int × Nat)) : List (List Int) := (l.filter fun x => x.2 == 0).map Prod.fst
theorem zeros_take {l : List (List Int × Nat)} {i : Nat} (h : i < l.length) : zeros (l.take (i + 1)) = zeros (l.take i) ++ if l[i].2 = 0 then [l[i].1] else [] := by
  unfold zeros
  rw [List.take_succ_eq_append_getElem h, List.filter_append, List.map_append]
  congr 1
  by_cases h0 : l[i].2 = 0 <;> simp [h0]
theorem zeros_len (l : List (List Int × Nat)) : (zeros l).length ≤ l.length := by
  unfold zeros; rw [List.length_map]; exact List.length_filter_le _ _
theorem missing_ret {p : Nat → Prop} {H : Heap} {rows : AV} {v : Int} {t : List (List Int)} {k : Nat} (ht : Sl p H rows t) (hA : ArrP v t) (h2 : k ≤ 3) (hlen : (allL v t k).length ≤ 1000000) :
    Ret E 84 [.ag [.i v, rows], .i k] (fun _ => False) H (zeros (allL v t k)) := by
  refine Ret.ro rfl fn84 rfl ?_
  unfold f84A
  have hlow : Sl (fun b => b < H.length) H rows t := ht.low.weak fun _ h => h.2
  simp (disch := (first | assumption | omega | (simp only [List.length_append, List.length_cons, List.length_nil]; omega))) only [↓wD,wU,Nat.reduceBEq,zx150,zx151,zx159,zx160,zx161,zx162,Nat.reduceAdd,Nat.reduceSub,Nat.reduceMul,Nat.reduceLeDiff,Nat.reduceLT,Nat.reduceEqDiff,Int.reduceAdd,Int.reduceSub,Int.reduceMul,Int.reduceNeg,Int.reduceLT,Int.reduceLE,Int.reduceEq,Int.reduceToNat,Int.cast_ofNat_Int,↓reduceIte, *, ht.cellsV]
  refine (all_ret ht.cellsV).toX fun w Hr x1 hw => ?_
  obtain ⟨bt, ba, rfl, hp, c1, c2⟩ := hw
  have hp1 : H.length + 2 ≤ bt := by have := hp.1; simp at this; omega
  have hp2 : H.length + 2 ≤ ba := by have := hp.2; simp at this; omega
  clear hp
  have d5 : Hr[H.length + 1]? = some (.cells [.nils]) := x1.get trivial (by simp [List.getElem?_append])
  have hx0 : Kx (fun _ => True) H Hr := ((Kx.app (fun _ => True) H _).app' _).trans x1 fun _ _ _ => trivial
  have hl := (List.getElem?_eq_some_iff.1 c1).1
  clear x1
  simp (disch := (first | assumption | omega | (simp only [List.length_append, List.length_cons, List.length_nil]; omega))) only [↓wD,wU,Nat.reduceBEq,zx150,zx151,zx159,zx160,zx161,zx162,Nat.reduceAdd,Nat.reduceSub,Nat.reduceMul,Nat.reduceLeDiff,Nat.reduceLT,Nat.reduceEqDiff,Int.reduceAdd,Int.reduceSub,Int.reduceMul,Int.reduceNeg,Int.reduceLT,Int.reduceLE,Int.reduceEq,Int.reduceToNat,Int.cast_ofNat_Int,↓reduceIte, *]
  obtain ⟨l, el⟩ : ∃ l, allL v t k = l := ⟨_, rfl⟩
  rw [el] at hlen ⊢
  refine Wp.range (A := ArgA) l (fun b => b = H.length + 1) (fun i K H1 => ∃ w, H1[H.length + 1]? = some (.cells [w]) ∧ Acc H.length (fun b => K b ∧ b ≠ H.length + 1) H1 w (zeros (l.take i)) ∧ (∀ b, w.blk = some b → K b ∧ b ≠ H.length + 1) ∧ (∀ b, K b → H.length ≤ b))
    (fun j K H1 => False) (by (simp (disch := (first | assumption | omega | (simp only [List.length_append, List.length_cons, List.length_nil]; omega))) only [↓wD,wU,Nat.reduceBEq,zx150,zx151,zx159,zx160,zx161,zx162,Nat.reduceAdd,Nat.reduceSub,Nat.reduceMul,Nat.reduceLeDiff,Nat.reduceLT,Nat.reduceEqDiff,Int.reduceAdd,Int.reduceSub,Int.reduceMul,Int.reduceNeg,Int.reduceLT,Int.reduceLE,Int.reduceEq,Int.reduceToNat,Int.cast_ofNat_Int,↓reduceIte, *]) <;> rfl) rfl (by omega) (fun b h => by omega) argA_len ?_ ?_ ?_ ?_ ?_ ?_ ?_
  · exact fun K' H1 Q' e hx hK' hI => all_range (by omega) c1 c2 (by omega) (by omega) hlow hx0 (fun b h => by omega) hA h2 e hx hK' (by rw [el]; exact hI)
  · rintro i K H1 H2 ⟨w, q1, q2, q3, q8⟩ hx
    exact ⟨w, hx.get (.inl (by omega)) q1, q2.kp hx.kp (fun b e => .inr (q3 b e).1) fun b h => .inr h.1, q3, q8⟩
  · exact fun j K H1 H2 h hx => h
  · exact ⟨.nils, d5, Acc.nil, nofun, fun b h => by omega⟩
  · rintro i hi K Ki args H1 ⟨w, q4, q5, q6, q8⟩ ⟨u, rfl, hu⟩ hKi hK hx hl1 hlr hKK
    have kc := (hKK (H.length + 1) (by omega)).2 rfl
    have ez := zeros_take hi
    obtain ⟨n, en⟩ : ∃ n, (l[i]).2 = n := ⟨_, rfl⟩
    obtain ⟨x, ex⟩ : ∃ x, (l[i]).1 = x := ⟨_, rfl⟩
    rw [ex] at hu ez
    rw [en] at ez ⊢
    simp (disch := (first | assumption | omega | (simp only [List.length_append, List.length_cons, List.length_nil]; omega))) only [↓wD,wU,Nat.reduceBEq,zx150,zx151,zx159,zx160,zx161,zx162,Nat.reduceAdd,Nat.reduceSub,Nat.reduceMul,Nat.reduceLeDiff,Nat.reduceLT,Nat.reduceEqDiff,Int.reduceAdd,Int.reduceSub,Int.reduceMul,Int.reduceNeg,Int.reduceLT,Int.reduceLE,Int.reduceEq,Int.reduceToNat,Int.cast_ofNat_Int,↓reduceIte, *, zx188 (lo := H.length) hlr (by omega)]
    generalize e2 : H1.set Hr.length _ = H2
    have x12 : Kx (fun b => b ≠ Hr.length) H1 H2 := by rw [← e2]; exact Kx.set _ _ _
    have l12 : H2.length ≤ H1.length ∧ H1.length ≤ H2.length := by rw [← e2]; simp
    have gl := gset e2 hlr
    have r4 := x12.get (by omega) q4
    have hu2 : Sl (fun b => b < H1.length ∧ Ki b) H2 u x := (hu.low.weak fun b h => ⟨h.2, h.1⟩).kp (x12.weak fun b _ h => by have := (hKi b h.2).1; omega).kp
    have q52 := q5.kp x12.kp (fun b e => (hK b (q6 b e).1).2) (fun b h => (hK b h.1).2)
    clear e2
    refine condP_split (fun h0 => ?_) (fun h0 => ?_)
    · simp (disch := (first | assumption | omega | (simp only [List.length_append, List.length_cons, List.length_nil]; omega))) only [↓wD,wU,Nat.reduceBEq,zx150,zx151,zx159,zx160,zx161,zx162,Nat.reduceAdd,Nat.reduceSub,Nat.reduceMul,Nat.reduceLeDiff,Nat.reduceLT,Nat.reduceEqDiff,Int.reduceAdd,Int.reduceSub,Int.reduceMul,Int.reduceNeg,Int.reduceLT,Int.reduceLE,Int.reduceEq,Int.reduceToNat,Int.cast_ofNat_Int,↓reduceIte, *, ld_of r4, hu.cellsV]
      refine appX ((q52.mono (q := fun b => (K b ∨ Ki b) ∧ b ≠ H.length + 1) (Kx.refl _ _).kp fun b h => ⟨.inl h.1, h.2⟩).pushL (Nat.le_refl _) (by omega) hu2 (fun b hb => ⟨⟨.inr hb.2, by have := (hKi b hb.2).1; omega⟩, fun e => (hKi b hb.2).2.2 (q6 b e).1⟩) ?_ fun w' H3 hw' _ hl3 hb3 => fun x23 => ?_)
      · have := zeros_len (l.take i); rw [List.length_take] at this; omega
      · have a23 : Kx (fun b => w.blk ≠ some b) H2 H3 := ((Kx.app (fun b => w.blk ≠ some b) H2 _).trans x23 fun b _ h => h)
        have l23 := a23.1
        have hc : w.blk ≠ some (H.length + 1) := fun e => (q6 _ e).2 rfl
        have hcr : w.blk ≠ some Hr.length := fun e => (hK _ (q6 _ e).1).2 rfl
        have r4' := a23.get hc r4
        have gl' := a23.get hcr gl
        have hn0 : n = 0 := by omega
        rw [if_pos hn0] at ez
        simp (disch := (first | assumption | omega | (simp only [List.length_append, List.length_cons, List.length_nil]; omega))) only [↓wD,wU,Nat.reduceBEq,zx150,zx151,zx159,zx160,zx161,zx162,Nat.reduceAdd,Nat.reduceSub,Nat.reduceMul,Nat.reduceLeDiff,Nat.reduceLT,Nat.reduceEqDiff,Int.reduceAdd,Int.reduceSub,Int.reduceMul,Int.reduceNeg,Int.reduceLT,Int.reduceLE,Int.reduceEq,Int.reduceToNat,Int.cast_ofNat_Int,↓reduceIte, *, hw'.cellsV, st_of r4']
        refine ⟨?_, ?_, w', get_set r4', ?_, ?_, ?_⟩
        · rw [List.getElem?_set_ne (by omega)]; exact gl'
        · exact (((x12.weak fun b _ h => h.2).trans a23 fun b _ h e => h.1 (.inl (q6 b e).1)).set' (fun _ h => h.1 (.inl kc)) _)
        · have hne : ∀ b, w'.blk = some b → b ≠ H.length + 1 := fun b e => by rw [hb3] at e; simp at e; omega
          have h9 := hw'.kp (Kx.set (H.length + 1) H3 (.cells [w'])).kp hne fun b h => h.2
          exact h9.mono (Kx.refl _ _).kp fun b h => ⟨h.1.elim .inl fun h => .inr (.inl h), h.2⟩
        · intro b e
          rw [hb3] at e
          simp only [Option.some.injEq] at e
          exact ⟨.inr (.inr ⟨by omega, by simp; omega⟩), by omega⟩
        · rintro b (h | h | h)
          · exact q8 b h
          · have := (hKi b h).1; omega
          · omega
    · rw [if_neg (by omega), List.append_nil] at ez
      have q53 := q52.mono (q := fun b => Kn K Ki H1 H2 b ∧ b ≠ H.length + 1) (Kx.refl _ _).kp fun b h => ⟨.inl h.1, h.2⟩
      rw [← ez] at q53
      have q7 : ∀ b, w.blk = some b → Kn K Ki H1 H2 b ∧ b ≠ H.length + 1 := fun b e => ⟨.inl (q6 b e).1, (q6 b e).2⟩
      have q9 : ∀ b, Kn K Ki H1 H2 b → H.length ≤ b := by
        rintro b (h | h | h)
        · exact q8 b h
        · have := (hKi b h).1; omega
        · omega
      clear ez
      simp (disch := (first | assumption | omega | (simp only [List.length_append, List.length_cons, List.length_nil]; omega))) only [↓wD,wU,Nat.reduceBEq,zx150,zx151,zx159,zx160,zx161,zx162,Nat.reduceAdd,Nat.reduceSub,Nat.reduceMul,Nat.reduceLeDiff,Nat.reduceLT,Nat.reduceEqDiff,Int.reduceAdd,Int.reduceSub,Int.reduceMul,Int.reduceNeg,Int.reduceLT,Int.reduceLE,Int.reduceEq,Int.reduceToNat,Int.cast_ofNat_Int,↓reduceIte, h0]
      exact ⟨gl, x12.weak fun b _ h => h.2, w, r4, q53, q7, q9⟩
  · rintro K H1 ⟨w, q4, q5, q6, q8⟩ hx hl1
    simp (disch := (first | assumption | omega | (simp only [List.length_append, List.length_cons, List.length_nil]; omega))) only [↓wD,wU,Nat.reduceBEq,zx150,zx151,zx159,zx160,zx161,zx162,Nat.reduceAdd,Nat.reduceSub,Nat.reduceMul,Nat.reduceLeDiff,Nat.reduceLT,Nat.reduceEqDiff,Int.reduceAdd,Int.reduceSub,Int.reduceMul,Int.reduceNeg,Int.reduceLT,Int.reduceLE,Int.reduceEq,Int.reduceToNat,Int.cast_ofNat_Int,↓reduceIte, *, ld_of q4]
    rw [List.take_length] at q5
    exact q5.sl.weak fun b h => by
      rcases h with h | h
      · exact .inr (q8 b h.1)
      · exact .inr h
  · exact fun j K H1 h => h.elim
end Go.Proofs.Ytalaadcbpjnglaa
namespace Go.Proofs.Ytalaadcbpjnglaa
open Go Go.AM Go.Proofs
theorem rng_len {x n : Int} : (rng x n).length = (n - x).toNat := by simp [rng]
theorem flat_le {ys : List Int} {f : Int → List (List Int)} {m : Nat} (h : ∀ y ∈ ys, (f y).length ≤ m) : (ys.flatMap f).length ≤ ys.length * m := by
  induction ys with
  | nil => simp
  | cons y ys ih =>
    have h1 := h y (by simp)
    have h2 := ih fun z hz => h z (by simp [hz])
    simp only [List.flatMap_cons, List.length_append, List.length_cons, Nat.succ_mul]; omega
end Go.Proofs.Ytalaadcbpjnglaa
namespace Go.Proofs.Ytalaadcbpjnglaa
open Go Go.AM Go.Proofs
theorem sufs_count {r : Bool} {n : Int} : ∀ {t : Nat} {x : Int}, 0 ≤ x → (sufs r n t x).length ≤ n.toNat ^ t
  | 0, x, _ => by simp [sufs]
  | t + 1, x, hx => by
    simp only [sufs]
    refine Nat.le_trans (flat_le (m := n.toNat ^ t) fun y hy => ?_) ?_
    · rw [List.length_map]
      exact sufs_count (by have := (rng_mem hy).1; split <;> omega)
    · rw [rng_len, Nat.pow_succ, Nat.mul_comm]
      exact Nat.mul_le_mul_left _ (by omega)
theorem pow_small {a b t m : Nat} (h : a ≤ b) (ht : t ≤ m) (hb : 1 ≤ b) : a ^ t ≤ b ^ m := Nat.le_trans (Nat.pow_le_pow_left h t) (Nat.pow_le_pow_right hb ht)
theorem allL_len {v : Int} {t : List (List Int)} {k : Nat} (hA : ArrP v t) (hk : k ≤ 3) : (allL v t k).length ≤ 1000000 := by
  have hw := hA.wd
  have h1 := sufs_count (r := true) (n := wd t) (t := k) (x := 0) (by omega)
  have h2 := sufs_count (r := false) (n := v) (t := k) (x := 0) (by omega)
  have h3 : (wd t : Int).toNat ^ k ≤ 8 ^ 3 := pow_small (by omega) hk (by omega)
  have h4 : v.toNat ^ k ≤ 4 ^ 3 := pow_small (by have := hA.2.1; omega) hk (by omega)
  have h5 : (allL v t k).length ≤ (sufs true (wd t) k 0).length * 64 := by
    unfold allL
    generalize sufs true (wd t) k 0 = cs
    induction cs with
    | nil => simp
    | cons c cs ih =>
      simp only [List.flatMap_cons, List.length_append, List.length_cons, Nat.succ_mul]
      have : (allC v t k c).length ≤ 64 := by unfold allC; rw [List.length_map]; omega
      omega
  omega
end Go.Proofs.Ytalaadcbpjnglaa
namespace Go.Proofs.Ytalaadcbpjnglaa
open Go Go.AM Go.Proofs
theorem Acc.int {L : Nat} {q : Nat → Prop} {H : Heap} {v : AV} {xs : List Int} (h : Acc L q H v xs) : Sl (fun b => L ≤ b) H v xs := by
  rcases h with h | ⟨b, o, c, k, e, hb, hk, h1, h2, h3⟩
  · exact .inl h
  · exact .inr ⟨b, o, c, k, e, hb, hk, h1, h2, h3⟩
end Go.Proofs.Ytalaadcbpjnglaa
namespace Go.Proofs.Ytalaadcbpjnglaa
open Go Go.AM Go.Proofs
theorem missingX_ret {p : Nat → Prop} {H : Heap} {rows : AV} {v : Int} {t : List (List Int)} {k : Nat} (ht : Sl p H rows t) (hA : ArrP v t) (h1 : 1 ≤ k) (h2 : k ≤ 2) (h3 : k ≤ wd t) :
    Ret E 61 [.ag [.i v, rows], .i k] (fun _ => False) H (T2.mk (zeros (allL v t k)) (0 : Int)) := by
  refine Ret.ro rfl fn61 rfl ?_
  unfold f61A
  have k1 := ht.app [.cells [.i v, rows]]
  have g1 : ArrP v t ∧ 1 ≤ (k : Int) ∧ (k : Int) ≤ 2 ∧ (k : Int) ≤ wd t := ⟨hA, by omega, by omega, by omega⟩
  simp (disch := (first | assumption | omega | (simp only [List.length_append, List.length_cons, List.length_nil]; omega))) only [↓wD,wU,Nat.reduceBEq,zx150,zx151,zx159,zx160,zx161,zx162,Nat.reduceAdd,Nat.reduceSub,Nat.reduceMul,Nat.reduceLeDiff,Nat.reduceLT,Nat.reduceEqDiff,Int.reduceAdd,Int.reduceSub,Int.reduceMul,Int.reduceNeg,Int.reduceLT,Int.reduceLE,Int.reduceEq,Int.reduceToNat,Int.cast_ofNat_Int,↓reduceIte, *, ht.cellsV, (strong_ret k1).call, decide_eq_true g1]
  refine (missing_ret k1 hA (by omega) (allL_len hA (by omega))).toFX fun u H1 x1 hu => ?_
  simp (disch := (first | assumption | omega | (simp only [List.length_append, List.length_cons, List.length_nil]; omega))) only [↓wD,wU,Nat.reduceBEq,zx150,zx151,zx159,zx160,zx161,zx162,Nat.reduceAdd,Nat.reduceSub,Nat.reduceMul,Nat.reduceLeDiff,Nat.reduceLT,Nat.reduceEqDiff,Int.reduceAdd,Int.reduceSub,Int.reduceMul,Int.reduceNeg,Int.reduceLT,Int.reduceLE,Int.reduceEq,Int.reduceToNat,Int.cast_ofNat_Int,↓reduceIte, *]
  exact rv_2 (hu.weak fun b h => .inr (by simp at h; omega)) rv_i
theorem missingX_err {p : Nat → Prop} {H : Heap} {rows : AV} {v k : Int} {t : List (List Int)} (ht : Sl p H rows t) (h : ¬ (ArrP v t ∧ 1 ≤ k ∧ k ≤ 2 ∧ k ≤ wd t)) :
    RetP E 61 [.ag [.i v, rows], .i k] H (.tp [.nils, .i 2]) := by
  refine RetP.ro rfl fn61 rfl rfl ?_
  unfold f61A
  have k1 := ht.app [.cells [.i v, rows]]
  simp (disch := (first | assumption | omega | (simp only [List.length_append, List.length_cons, List.length_nil]; omega))) only [↓wD,wU,Nat.reduceBEq,zx150,zx151,zx159,zx160,zx161,zx162,Nat.reduceAdd,Nat.reduceSub,Nat.reduceMul,Nat.reduceLeDiff,Nat.reduceLT,Nat.reduceEqDiff,Int.reduceAdd,Int.reduceSub,Int.reduceMul,Int.reduceNeg,Int.reduceLT,Int.reduceLE,Int.reduceEq,Int.reduceToNat,Int.cast_ofNat_Int,↓reduceIte, *, ht.cellsV, (strong_ret k1).call, decide_eq_false h]
theorem coversX_err {p : Nat → Prop} {H : Heap} {rows : AV} {v k : Int} {t : List (List Int)} (ht : Sl p H rows t) (h : ¬ (ArrP v t ∧ 1 ≤ k ∧ k ≤ 3 ∧ k ≤ wd t)) :
    RetP E 46 [.ag [.i v, rows], .i k] H (.tp [.b false, .i 2]) := by
  refine RetP.ro rfl fn46 rfl rfl ?_
  unfold f46A
  have k1 := ((ht.app [.cells [.i v, rows]]).app [.cells [.b false]]).app [.cells [.i 0]]
  simp (disch := (first | assumption | omega | (simp only [List.length_append, List.length_cons, List.length_nil]; omega))) only [↓wD,wU,Nat.reduceBEq,zx150,zx151,zx159,zx160,zx161,zx162,Nat.reduceAdd,Nat.reduceSub,Nat.reduceMul,Nat.reduceLeDiff,Nat.reduceLT,Nat.reduceEqDiff,Int.reduceAdd,Int.reduceSub,Int.reduceMul,Int.reduceNeg,Int.reduceLT,Int.reduceLE,Int.reduceEq,Int.reduceToNat,Int.cast_ofNat_Int,↓reduceIte, *, ht.cellsV, (strong_ret k1).call, decide_eq_false h]
end Go.Proofs.Ytalaadcbpjnglaa
namespace Go.Proofs.Ytalaadcbpjnglaa
open Go Go.AM Go.Proofs
theorem _root_.Go.AM.RetP.callv {E : Tab} {f : Nat} {us caps vs : List AV} {H : Heap} {v : AV} (h : RetP E f (us ++ vs ++ caps) H v) {lo : Nat} {Q : AV → Heap → Prop} : @callvP E lo (.fn f us caps) vs H ⟨Q⟩ = Q v H := h.iff
def cmpI (x y : Int) : Int := if x < y then -1 else if y < x then 1 else 0
theorem isNaN_ret {H : Heap} {x : Int} : RetP E 105 [.i x] H (.b false) := by
  refine RetP.ro rfl fn105 rfl rfl ?_
  unfold f105A
  simp (disch := (first | assumption | omega | (simp only [List.length_append, List.length_cons, List.length_nil]; omega))) only [↓wD,wU,Nat.reduceBEq,zx150,zx151,zx159,zx160,zx161,zx162,Nat.reduceAdd,Nat.reduceSub,Nat.reduceMul,Nat.reduceLeDiff,Nat.reduceLT,Nat.reduceEqDiff,Int.reduceAdd,Int.reduceSub,Int.reduceMul,Int.reduceNeg,Int.reduceLT,Int.reduceLE,Int.reduceEq,Int.reduceToNat,Int.cast_ofNat_Int,↓reduceIte, *]
theorem cmp_ret {H : Heap} {x y : Int} : RetP E 93 [.i x, .i y] H (.i (cmpI x y)) := by
  refine RetP.ro rfl fn93 rfl rfl ?_
  unfold f93A
  (repeat' (first | refine condP_split (fun _ => ?_) (fun _ => ?_) | refine guardP_split (fun _ => ?_) (fun _ => ?_) | refine guardP_splitF (fun _ => ?_) (fun _ => ?_) | (simp (disch := (first | assumption | omega | (simp only [List.length_append, List.length_cons, List.length_nil]; omega))) only [↓wD,wU,Nat.reduceBEq,zx150,zx151,zx159,zx160,zx161,zx162,Nat.reduceAdd,Nat.reduceSub,Nat.reduceMul,Nat.reduceLeDiff,Nat.reduceLT,Nat.reduceEqDiff,Int.reduceAdd,Int.reduceSub,Int.reduceMul,Int.reduceNeg,Int.reduceLT,Int.reduceLE,Int.reduceEq,Int.reduceToNat,Int.cast_ofNat_Int,↓reduceIte, *, isNaN_ret.call]))) <;> (unfold cmpI; first | (rw [if_pos (by assumption)]) | (rw [if_neg (by assumption), if_pos (by assumption)]) | (rw [if_neg (by assumption), if_neg (by assumption)]))
/-- how two slices compare -/
def cmpL : List Int → List Int → Int
  | [], [] => 0
  | [], _ :: _ => -1
  | _ :: _, [] => 1
  | x :: xs, y :: ys => if cmpI x y ≠ 0 then cmpI x y else cmpL xs ys
theorem cmpL_drop : ∀ {i : Nat} {xs ys : List Int}, xs.take i = ys.take i → i ≤ xs.length → i ≤ ys.length → cmpL xs ys = cmpL (xs.drop i) (ys.drop i)
  | 0, xs, ys, _, _, _ => by simp
  | i + 1, [], ys, _, h, _ => by simp at h
  | i + 1, x :: xs, [], _, _, h => by simp at h
  | i + 1, x :: xs, y :: ys, h, h1, h2 => by
    simp only [List.take_succ_cons, List.cons.injEq] at h
    obtain ⟨rfl, h⟩ := h
    have e : cmpL (x :: xs) (x :: ys) = cmpL xs ys := by simp [cmpL, cmpI]
    rw [e, List.drop_succ_cons, List.drop_succ_cons]
    exact cmpL_drop h (by simpa using h1) (by simpa using h2)
theorem compare_ret {p q : Nat → Prop} {H : Heap} {v u : AV} {xs ys : List Int} (hx : Sl p H v xs) (hy : Sl q H u ys) : RetP E 67 [v, u] H (.i (cmpL xs ys)) := by
  refine RetP.ro rfl fn67 rfl rfl ?_
  unfold f67A
  have hbx := hx.bound
  have hby := hy.bound
  simp (disch := (first | assumption | omega | (simp only [List.length_append, List.length_cons, List.length_nil]; omega))) only [↓wD,wU,Nat.reduceBEq,zx150,zx151,zx159,zx160,zx161,zx162,Nat.reduceAdd,Nat.reduceSub,Nat.reduceMul,Nat.reduceLeDiff,Nat.reduceLT,Nat.reduceEqDiff,Int.reduceAdd,Int.reduceSub,Int.reduceMul,Int.reduceNeg,Int.reduceLT,Int.reduceLE,Int.reduceEq,Int.reduceToNat,Int.cast_ofNat_Int,↓reduceIte, *, hx.I]
  refine Wp.for xs.length (fun i a H' => H' = H ∧ a 0 = v ∧ a 1 = u ∧ a 9 = v ∧ a 10 = .i xs.length ∧ a 11 = .i i ∧ xs.take i = ys.take i ∧ i ≤ ys.length) ?_ ?_
  · rintro i a H' hi ⟨rfl, h0, h1, h9, h10, h11, hh, hle⟩ ih
    simp (disch := (first | assumption | omega | (simp only [List.length_append, List.length_cons, List.length_nil]; omega))) only [↓wD,wU,Nat.reduceBEq,zx150,zx151,zx159,zx160,zx161,zx162,Nat.reduceAdd,Nat.reduceSub,Nat.reduceMul,Nat.reduceLeDiff,Nat.reduceLT,Nat.reduceEqDiff,Int.reduceAdd,Int.reduceSub,Int.reduceMul,Int.reduceNeg,Int.reduceLT,Int.reduceLE,Int.reduceEq,Int.reduceToNat,Int.cast_ofNat_Int,↓reduceIte, *]
    refine condP_split (fun hlt => ?_) (fun hlt => ?_)
    · have hi' : i < xs.length := by omega
      have ex : xs.drop i = gi xs (i : Int) :: xs.drop (i + 1) := by rw [gi_nat hi']; exact List.drop_eq_getElem_cons hi'
      have e := cmpL_drop hh (by omega) hle
      simp (disch := (first | assumption | omega | (simp only [List.length_append, List.length_cons, List.length_nil]; omega))) only [↓wD,wU,Nat.reduceBEq,zx150,zx151,zx159,zx160,zx161,zx162,Nat.reduceAdd,Nat.reduceSub,Nat.reduceMul,Nat.reduceLeDiff,Nat.reduceLT,Nat.reduceEqDiff,Int.reduceAdd,Int.reduceSub,Int.reduceMul,Int.reduceNeg,Int.reduceLT,Int.reduceLE,Int.reduceEq,Int.reduceToNat,Int.cast_ofNat_Int,↓reduceIte, *, hx.I, hy.I]
      refine condP_split (fun hge => ?_) (fun hge => ?_)
      · rw [e, ex, List.drop_of_length_le (show ys.length ≤ i by omega)]
        (simp (disch := (first | assumption | omega | (simp only [List.length_append, List.length_cons, List.length_nil]; omega))) only [↓wD,wU,Nat.reduceBEq,zx150,zx151,zx159,zx160,zx161,zx162,Nat.reduceAdd,Nat.reduceSub,Nat.reduceMul,Nat.reduceLeDiff,Nat.reduceLT,Nat.reduceEqDiff,Int.reduceAdd,Int.reduceSub,Int.reduceMul,Int.reduceNeg,Int.reduceLT,Int.reduceLE,Int.reduceEq,Int.reduceToNat,Int.cast_ofNat_Int,↓reduceIte]) <;> rfl
      · have hi2 : i < ys.length := by omega
        have ey : ys.drop i = gi ys (i : Int) :: ys.drop (i + 1) := by rw [gi_nat hi2]; exact List.drop_eq_getElem_cons hi2
        rw [ex, ey] at e
        have e2 : cmpL xs ys = if cmpI (gi xs (i : Int)) (gi ys (i : Int)) ≠ 0 then cmpI (gi xs (i : Int)) (gi ys (i : Int)) else cmpL (xs.drop (i + 1)) (ys.drop (i + 1)) := e
        clear e ex ey
        simp (disch := (first | assumption | omega | (simp only [List.length_append, List.length_cons, List.length_nil]; omega))) only [↓wD,wU,Nat.reduceBEq,zx150,zx151,zx159,zx160,zx161,zx162,Nat.reduceAdd,Nat.reduceSub,Nat.reduceMul,Nat.reduceLeDiff,Nat.reduceLT,Nat.reduceEqDiff,Int.reduceAdd,Int.reduceSub,Int.reduceMul,Int.reduceNeg,Int.reduceLT,Int.reduceLE,Int.reduceEq,Int.reduceToNat,Int.cast_ofNat_Int,↓reduceIte, *, hx.I, hy.I, cmp_ret.call]
        refine condP_split (fun hne => ?_) (fun hne => ?_)
        · rw [if_pos hne] at e2
          rw [e2]
          simp (disch := (first | assumption | omega | (simp only [List.length_append, List.length_cons, List.length_nil]; omega))) only [↓wD,wU,Nat.reduceBEq,zx150,zx151,zx159,zx160,zx161,zx162,Nat.reduceAdd,Nat.reduceSub,Nat.reduceMul,Nat.reduceLeDiff,Nat.reduceLT,Nat.reduceEqDiff,Int.reduceAdd,Int.reduceSub,Int.reduceMul,Int.reduceNeg,Int.reduceLT,Int.reduceLE,Int.reduceEq,Int.reduceToNat,Int.cast_ofNat_Int,↓reduceIte]
        · have h0' : gi xs (i : Int) = gi ys (i : Int) := by
            have : ¬ (¬ cmpI (gi xs (i : Int)) (gi ys (i : Int)) = 0) := hne
            unfold cmpI at this
            split at this
            · omega
            · split at this
              · omega
              · omega
          have hh2 := take_eq_succ hh hi' hi2 h0'
          clear e2 hne h0'
          simp (disch := (first | assumption | omega | (simp only [List.length_append, List.length_cons, List.length_nil]; omega))) only [↓wD,wU,Nat.reduceBEq,zx150,zx151,zx159,zx160,zx161,zx162,Nat.reduceAdd,Nat.reduceSub,Nat.reduceMul,Nat.reduceLeDiff,Nat.reduceLT,Nat.reduceEqDiff,Int.reduceAdd,Int.reduceSub,Int.reduceMul,Int.reduceNeg,Int.reduceLT,Int.reduceLE,Int.reduceEq,Int.reduceToNat,Int.cast_ofNat_Int,↓reduceIte, *]
          refine (ih hi').go ⟨rfl, ?_⟩
          simp (disch := (first | assumption | omega | (simp only [List.length_append, List.length_cons, List.length_nil]; omega))) only [↓wD,wU,Nat.reduceBEq,zx150,zx151,zx159,zx160,zx161,zx162,Nat.reduceAdd,Nat.reduceSub,Nat.reduceMul,Nat.reduceLeDiff,Nat.reduceLT,Nat.reduceEqDiff,Int.reduceAdd,Int.reduceSub,Int.reduceMul,Int.reduceNeg,Int.reduceLT,Int.reduceLE,Int.reduceEq,Int.reduceToNat,Int.cast_ofNat_Int,↓reduceIte, *]
          omega
    · obtain rfl : i = xs.length := by omega
      have e := cmpL_drop hh (by omega) hle
      rw [List.drop_length] at e
      simp (disch := (first | assumption | omega | (simp only [List.length_append, List.length_cons, List.length_nil]; omega))) only [↓wD,wU,Nat.reduceBEq,zx150,zx151,zx159,zx160,zx161,zx162,Nat.reduceAdd,Nat.reduceSub,Nat.reduceMul,Nat.reduceLeDiff,Nat.reduceLT,Nat.reduceEqDiff,Int.reduceAdd,Int.reduceSub,Int.reduceMul,Int.reduceNeg,Int.reduceLT,Int.reduceLE,Int.reduceEq,Int.reduceToNat,Int.cast_ofNat_Int,↓reduceIte, *, hx.I, hy.I]
      refine condP_split (fun h2 => ?_) (fun h2 => ?_)
      · have ey : ys.drop xs.length = gi ys (xs.length : Int) :: ys.drop (xs.length + 1) := by rw [gi_nat (by omega)]; exact List.drop_eq_getElem_cons (by omega)
        rw [e, ey]
        (simp (disch := (first | assumption | omega | (simp only [List.length_append, List.length_cons, List.length_nil]; omega))) only [↓wD,wU,Nat.reduceBEq,zx150,zx151,zx159,zx160,zx161,zx162,Nat.reduceAdd,Nat.reduceSub,Nat.reduceMul,Nat.reduceLeDiff,Nat.reduceLT,Nat.reduceEqDiff,Int.reduceAdd,Int.reduceSub,Int.reduceMul,Int.reduceNeg,Int.reduceLT,Int.reduceLE,Int.reduceEq,Int.reduceToNat,Int.cast_ofNat_Int,↓reduceIte]) <;> rfl
      · rw [e, List.drop_of_length_le (by omega)]
        (simp (disch := (first | assumption | omega | (simp only [List.length_append, List.length_cons, List.length_nil]; omega))) only [↓wD,wU,Nat.reduceBEq,zx150,zx151,zx159,zx160,zx161,zx162,Nat.reduceAdd,Nat.reduceSub,Nat.reduceMul,Nat.reduceLeDiff,Nat.reduceLT,Nat.reduceEqDiff,Int.reduceAdd,Int.reduceSub,Int.reduceMul,Int.reduceNeg,Int.reduceLT,Int.reduceLE,Int.reduceEq,Int.reduceToNat,Int.cast_ofNat_Int,↓reduceIte]) <;> rfl
  · (simp (disch := (first | assumption | omega | (simp only [List.length_append, List.length_cons, List.length_nil]; omega))) only [↓wD,wU,Nat.reduceBEq,zx150,zx151,zx159,zx160,zx161,zx162,Nat.reduceAdd,Nat.reduceSub,Nat.reduceMul,Nat.reduceLeDiff,Nat.reduceLT,Nat.reduceEqDiff,Int.reduceAdd,Int.reduceSub,Int.reduceMul,Int.reduceNeg,Int.reduceLT,Int.reduceLE,Int.reduceEq,Int.reduceToNat,Int.cast_ofNat_Int,↓reduceIte, *]) <;> simp
end Go.Proofs.Ytalaadcbpjnglaa
namespace Go.Proofs.Ytalaadcbpjnglaa
open Go Go.AM Go.Proofs
theorem covers_zero (v : Int) (t : List (List Int)) (k : Nat) : coversB v t k = decide ((zeros (allL v t k)).length = 0) := by
  unfold coversB zeros
  rw [List.length_map]
  generalize allL v t k = l
  induction l with
  | nil => rfl
  | cons x l ih =>
    rw [List.all_cons, ih, List.filter_cons]
    by_cases h : x.2 = 0
    · rw [h]; simp
    · have h1 : (x.2 == 0) = false := by simpa using h
      have h2 : (x.2 != 0) = true := by simpa using h
      rw [h1, h2]; simp
theorem strong_mono {v : Int} {t : List (List Int)} {k : Int} (h : ArrP v t ∧ 1 ≤ k ∧ k ≤ 3 ∧ k ≤ wd t) : ∃ n : Nat, k = n ∧ 1 ≤ n ∧ n ≤ 3 ∧ n ≤ wd t := by
  obtain ⟨n, rfl⟩ := Int.eq_ofNat_of_zero_le (show 0 ≤ k by omega)
  exact ⟨n, rfl, by omega, by omega, by omega⟩
theorem awake_ret {H : Heap} : RetP E 25 [] H (.b true) :=
  RetP.closed (n := 300) rfl fn25 rfl rfl (by kernel_rfl)
end Go.Proofs.Ytalaadcbpjnglaa
namespace Go.Proofs.Ytalaadcbpjnglaa
open Go Go.AM Go.Proofs
theorem mem_rng {x n y : Int} : y ∈ rng x n ↔ x ≤ y ∧ y < n :=
  ⟨rng_mem, fun ⟨h1, h2⟩ => by simp only [rng, List.mem_map, List.mem_range]; exact ⟨(y - x).toNat, by omega, by omega⟩⟩
theorem mem_sufs_f {n : Int} : ∀ {t : Nat} {s : List Int}, s ∈ sufs false n t 0 ↔ s.length = t ∧ ∀ c ∈ s, 0 ≤ c ∧ c < n
  | 0, s => by
    simp only [sufs, List.mem_singleton]
    constructor
    · rintro rfl; exact ⟨rfl, nofun⟩
    · rintro ⟨h, _⟩; exact List.length_eq_zero_iff.1 h
  | t + 1, s => by
    simp only [sufs, List.mem_flatMap, List.mem_map, Bool.false_eq_true, if_false]
    constructor
    · rintro ⟨y, hy, z, hz, rfl⟩
      have h1 := mem_rng.1 hy
      have h2 := mem_sufs_f.1 hz
      refine ⟨by simp [h2.1], fun c hc => ?_⟩
      rcases List.mem_cons.1 hc with rfl | hc
      · exact h1
      · exact h2.2 c hc
    · rintro ⟨h1, h2⟩
      cases s with
      | nil => simp at h1
      | cons y z => exact ⟨y, mem_rng.2 (h2 y (by simp)), z, mem_sufs_f.2 ⟨by simpa using h1, fun c hc => h2 c (by simp [hc])⟩, rfl⟩
theorem sufs_cons_t {n x y : Int} {t : Nat} {z : List Int} (h1 : x ≤ y) (h2 : y < n) (h3 : z ∈ sufs true n t (y + 1)) : y :: z ∈ sufs true n (t + 1) x := by
  simp only [sufs, List.mem_flatMap, List.mem_map, if_true]
  exact ⟨y, mem_rng.2 ⟨h1, h2⟩, z, h3, rfl⟩
theorem allL_mem {v : Int} {t : List (List Int)} {k : Nat} {x : List Int × Nat} (h : x ∈ allL v t k) : ∃ cs ks, cs ∈ sufs true (wd t) k 0 ∧ ks ∈ sufs false v k 0 ∧ x = (cs ++ ks, oft t cs ks) := by
  unfold allL at h
  rw [List.mem_flatMap] at h
  obtain ⟨cs, h1, h⟩ := h
  unfold allC at h
  rw [List.mem_map] at h
  obtain ⟨ks, h2, rfl⟩ := h
  exact ⟨cs, ks, h1, h2, rfl⟩
end Go.Proofs.Ytalaadcbpjnglaa
namespace Go.Proofs.Ytalaadcbpjnglaa
open Go Go.AM Go.Proofs
/-- how many of some places a row has -/
def gain (k : Nat) (miss : List (List Int)) (row : List Int) : Nat := miss.countP fun pl => comesL row (pl.take k) (pl.drop k)
theorem zeros_flat {α : Type} (f : α → List (List Int × Nat)) : ∀ l : List α, zeros (l.flatMap f) = l.flatMap fun x => zeros (f x)
  | [] => rfl
  | x :: l => by
    rw [List.flatMap_cons, List.flatMap_cons, ← zeros_flat f l]
    simp [zeros]
end Go.Proofs.Ytalaadcbpjnglaa
namespace Go.Proofs.Ytalaadcbpjnglaa
open Go Go.AM Go.Proofs
theorem zeros_mem {l : List (List Int × Nat)} {x : List Int} : x ∈ zeros l ↔ (x, 0) ∈ l := by
  unfold zeros
  rw [List.mem_map]
  constructor
  · rintro ⟨y, hy, rfl⟩
    rw [List.mem_filter] at hy
    have : y.2 = 0 := by simpa using hy.2
    rw [← this]; exact hy.1
  · intro h
    exact ⟨_, List.mem_filter.2 ⟨h, rfl⟩, rfl⟩
/-- what is missing: columns, and choices -/
theorem miss_mem {v : Int} {t : List (List Int)} {k : Nat} {x : List Int} (h : x ∈ zeros (allL v t k)) : ∃ cs ks, x = cs ++ ks ∧ cs ∈ sufs true (wd t) k 0 ∧ ks ∈ sufs false v k 0 ∧ oft t cs ks = 0 := by
  obtain ⟨cs, ks, h1, h2, e⟩ := allL_mem (zeros_mem.1 h)
  rw [Prod.mk.injEq] at e
  exact ⟨cs, ks, e.1, h1, h2, e.2.symm⟩
end Go.Proofs.Ytalaadcbpjnglaa
namespace Go.Proofs.Ytalaadcbpjnglaa
open Go Go.AM Go.Proofs
theorem wd_app {t : List (List Int)} {r : List Int} (h : 1 ≤ t.length) : wd (t ++ [r]) = wd t := by
  unfold wd
  cases t with
  | nil => simp at h
  | cons x t => rfl
theorem ArrP_app {v : Int} {t : List (List Int)} {r : List Int} (hA : ArrP v t) (h16 : t.length < 16) (hr : r.length = wd t ∧ ChR v r) : ArrP v (t ++ [r]) := by
  refine ⟨hA.1, hA.2.1, by simp, by simp; omega, fun x hx => ?_⟩
  have e : (gi (t ++ [r]) 0).length = wd t := wd_app (r := r) hA.2.2.1
  have hw := hA.wd
  rw [e]
  rcases List.mem_append.1 hx with h | h
  · exact hA.2.2.2.2 x h
  · simp at h; subst h
    exact ⟨hr.1, by omega, by omega, hr.2⟩
end Go.Proofs.Ytalaadcbpjnglaa
namespace Go.Proofs.Ytalaadcbpjnglaa
open Go Go.AM Go.Proofs
def mis (v : Int) (k : Nat) (t : List (List Int)) : List (List Int) := zeros (allL v t k)
theorem oft_app {t : List (List Int)} {r cs ks : List Int} : oft (t ++ [r]) cs ks = oft t cs ks + if comesL r cs ks = true then 1 else 0 := by
  unfold oft
  rw [List.countP_append]
  simp [List.countP_cons]
theorem flat_congr {α β : Type} {f g : α → List β} {l : List α} (h : ∀ x ∈ l, f x = g x) : l.flatMap f = l.flatMap g := by
  rw [List.flatMap_def, List.flatMap_def, List.map_congr_left h]
theorem mis_app {v : Int} {t : List (List Int)} {k : Nat} {r : List Int} (h : 1 ≤ t.length) : mis v k (t ++ [r]) = (mis v k t).filter fun pl => !comesL r (pl.take k) (pl.drop k) := by
  unfold mis allL
  rw [zeros_flat, zeros_flat, wd_app h, List.filter_flatMap]
  apply flat_congr
  intro cs hcs
  have hl := sufs_len hcs
  unfold zeros allC
  simp only [List.filter_map, List.map_map, List.filter_filter]
  congr 1
  apply List.filter_congr
  intro ks _
  simp only [Function.comp, oft_app, ← hl, List.take_left, List.drop_left]
  by_cases h0 : oft t cs ks = 0 <;> cases comesL r cs ks <;> simp [h0]
theorem len_filter_not {l : List (List Int)} {p : List Int → Bool} : (l.filter fun x => !p x).length + l.countP p = l.length := by
  induction l with
  | nil => rfl
  | cons x l ih =>
    rw [List.filter_cons, List.countP_cons]
    cases h : p x <;> simp [h] <;> omega
theorem mis_gain {v : Int} {t : List (List Int)} {k : Nat} {r : List Int} (h : 1 ≤ t.length) : (mis v k (t ++ [r])).length + gain k (mis v k t) r = (mis v k t).length := by
  rw [mis_app h]; exact len_filter_not
/-- rising numbers -/
theorem sufs_rise {n : Int} : ∀ {t : Nat} {x : Int} {s : List Int}, s ∈ sufs true n t x → s.Pairwise (· < ·) ∧ ∀ c ∈ s, x ≤ c
  | 0, x, s, h => by simp [sufs] at h; subst h; exact ⟨List.Pairwise.nil, nofun⟩
  | t + 1, x, s, h => by
    simp only [sufs, List.mem_flatMap, List.mem_map, if_true] at h
    obtain ⟨y, hy, z, hz, rfl⟩ := h
    have h1 := mem_rng.1 hy
    have h2 := sufs_rise hz
    refine ⟨List.pairwise_cons.2 ⟨fun c hc => by have := h2.2 c hc; omega, h2.1⟩, fun c hc => ?_⟩
    rcases List.mem_cons.1 hc with rfl | hc
    · exact h1.1
    · have := h2.2 c hc; omega
end Go.Proofs.Ytalaadcbpjnglaa
namespace Go.Proofs.Ytalaadcbpjnglaa
open Go Go.AM Go.Proofs
def findP {α : Type} (P : α → Bool) : List α → Nat → Int
  | [], _ => -1
  | y :: ys, i => if P y = true then i else findP P ys (i + 1)
theorem findP_ge {α : Type} {P : α → Bool} : ∀ {xs : List α} {i : Nat}, 0 ≤ findP P xs i ↔ xs.any P = true
  | [], i => by simp [findP]
  | y :: ys, i => by
    unfold findP
    by_cases h : P y = true
    · simp [h]
    · rw [if_neg h, findP_ge]; simp [h]
theorem indexFL_ret {p : Nat → Prop} {H : Heap} {v : AV} {xs : List (List Int)} {f : Nat} {us caps : List AV} {P : List Int → Bool} (hx : Sl p H v xs) (hP : ∀ x ∈ xs, ∀ u, Sl p H u x → RetP E f (us ++ [u] ++ caps) H (.b (P x))) :
    RetP E 94 [v, .fn f us caps] H (.i (findP P xs 0)) := by
  refine RetP.ro rfl fn94 rfl rfl ?_
  unfold f94A
  have hb := hx.bound
  obtain ⟨r, er⟩ : ∃ r, findP P xs 0 = r := ⟨_, rfl⟩
  rw [er]
  simp (disch := (first | assumption | omega | (simp only [List.length_append, List.length_cons, List.length_nil]; omega))) only [↓wD,wU,Nat.reduceBEq,zx150,zx151,zx159,zx160,zx161,zx162,Nat.reduceAdd,Nat.reduceSub,Nat.reduceMul,Nat.reduceLeDiff,Nat.reduceLT,Nat.reduceEqDiff,Int.reduceAdd,Int.reduceSub,Int.reduceMul,Int.reduceNeg,Int.reduceLT,Int.reduceLE,Int.reduceEq,Int.reduceToNat,Int.cast_ofNat_Int,↓reduceIte, *, hx.L]
  refine Wp.for xs.length (fun i a H' => H' = H ∧ a 0 = v ∧ a 1 = .fn f us caps ∧ a 7 = .i xs.length ∧ a 8 = .i i ∧ findP P (xs.drop i) i = r) ?_ ?_
  · clear er
    rintro i a H' hi ⟨rfl, h0, h1, h7, h8, hh⟩ ih
    simp (disch := (first | assumption | omega | (simp only [List.length_append, List.length_cons, List.length_nil]; omega))) only [↓wD,wU,Nat.reduceBEq,zx150,zx151,zx159,zx160,zx161,zx162,Nat.reduceAdd,Nat.reduceSub,Nat.reduceMul,Nat.reduceLeDiff,Nat.reduceLT,Nat.reduceEqDiff,Int.reduceAdd,Int.reduceSub,Int.reduceMul,Int.reduceNeg,Int.reduceLT,Int.reduceLE,Int.reduceEq,Int.reduceToNat,Int.cast_ofNat_Int,↓reduceIte, *]
    refine condP_split (fun hlt => ?_) (fun hlt => ?_)
    · have hi' : i < xs.length := by omega
      have e : xs.drop i = gi xs (i : Int) :: xs.drop (i + 1) := by rw [gi_nat hi']; exact List.drop_eq_getElem_cons hi'
      have hp := hP _ (mem_gi hi') _ (hx.get (k := (i : Int)) (by omega) (by omega))
      rw [e, findP] at hh
      clear e
      cases hc : P (gi xs (i : Int)) with
      | true =>
        rw [hc] at hp hh
        simp only [if_true] at hh
        simp (disch := (first | assumption | omega | (simp only [List.length_append, List.length_cons, List.length_nil]; omega))) only [↓wD,wU,Nat.reduceBEq,zx150,zx151,zx159,zx160,zx161,zx162,Nat.reduceAdd,Nat.reduceSub,Nat.reduceMul,Nat.reduceLeDiff,Nat.reduceLT,Nat.reduceEqDiff,Int.reduceAdd,Int.reduceSub,Int.reduceMul,Int.reduceNeg,Int.reduceLT,Int.reduceLE,Int.reduceEq,Int.reduceToNat,Int.cast_ofNat_Int,↓reduceIte, h0, h1, h7, h8, hx.L, hp.callv]
        rw [hh]
      | false =>
        rw [hc] at hp hh
        simp only [Bool.false_eq_true, if_false] at hh
        simp (disch := (first | assumption | omega | (simp only [List.length_append, List.length_cons, List.length_nil]; omega))) only [↓wD,wU,Nat.reduceBEq,zx150,zx151,zx159,zx160,zx161,zx162,Nat.reduceAdd,Nat.reduceSub,Nat.reduceMul,Nat.reduceLeDiff,Nat.reduceLT,Nat.reduceEqDiff,Int.reduceAdd,Int.reduceSub,Int.reduceMul,Int.reduceNeg,Int.reduceLT,Int.reduceLE,Int.reduceEq,Int.reduceToNat,Int.cast_ofNat_Int,↓reduceIte, h0, h1, h7, h8, hx.L, hp.callv]
        refine (ih hi').go ⟨rfl, ?_⟩
        simp (disch := (first | assumption | omega | (simp only [List.length_append, List.length_cons, List.length_nil]; omega))) only [↓wD,wU,Nat.reduceBEq,zx150,zx151,zx159,zx160,zx161,zx162,Nat.reduceAdd,Nat.reduceSub,Nat.reduceMul,Nat.reduceLeDiff,Nat.reduceLT,Nat.reduceEqDiff,Int.reduceAdd,Int.reduceSub,Int.reduceMul,Int.reduceNeg,Int.reduceLT,Int.reduceLE,Int.reduceEq,Int.reduceToNat,Int.cast_ofNat_Int,↓reduceIte, h0, h1, h7, h8]
        exact hh
    · rw [List.drop_of_length_le (by omega), findP] at hh
      subst hh
      clear hP
      simp (disch := (first | assumption | omega | (simp only [List.length_append, List.length_cons, List.length_nil]; omega))) only [↓wD,wU,Nat.reduceBEq,zx150,zx151,zx159,zx160,zx161,zx162,Nat.reduceAdd,Nat.reduceSub,Nat.reduceMul,Nat.reduceLeDiff,Nat.reduceLT,Nat.reduceEqDiff,Int.reduceAdd,Int.reduceSub,Int.reduceMul,Int.reduceNeg,Int.reduceLT,Int.reduceLE,Int.reduceEq,Int.reduceToNat,Int.cast_ofNat_Int,↓reduceIte, *]
  · clear hP
    simp (disch := (first | assumption | omega | (simp only [List.length_append, List.length_cons, List.length_nil]; omega))) only [↓wD,wU,Nat.reduceBEq,zx150,zx151,zx159,zx160,zx161,zx162,Nat.reduceAdd,Nat.reduceSub,Nat.reduceMul,Nat.reduceLeDiff,Nat.reduceLT,Nat.reduceEqDiff,Int.reduceAdd,Int.reduceSub,Int.reduceMul,Int.reduceNeg,Int.reduceLT,Int.reduceLE,Int.reduceEq,Int.reduceToNat,Int.cast_ofNat_Int,↓reduceIte, *]
theorem containsFL_ret {p : Nat → Prop} {H : Heap} {v : AV} {xs : List (List Int)} {f : Nat} {us caps : List AV} {P : List Int → Bool} (hx : Sl p H v xs) (hP : ∀ x ∈ xs, ∀ u, Sl p H u x → RetP E f (us ++ [u] ++ caps) H (.b (P x))) :
    RetP E 68 [v, .fn f us caps] H (.b (xs.any P)) := by
  refine RetP.ro rfl fn68 rfl rfl ?_
  unfold f68A
  have hr := indexFL_ret hx hP
  have hg := findP_ge (P := P) (xs := xs) (i := 0)
  cases h : xs.any P with
  | true =>
    have h1 := hg.2 h
    clear hg h hP
    simp (disch := (first | assumption | omega | (simp only [List.length_append, List.length_cons, List.length_nil]; omega))) only [↓wD,wU,Nat.reduceBEq,zx150,zx151,zx159,zx160,zx161,zx162,Nat.reduceAdd,Nat.reduceSub,Nat.reduceMul,Nat.reduceLeDiff,Nat.reduceLT,Nat.reduceEqDiff,Int.reduceAdd,Int.reduceSub,Int.reduceMul,Int.reduceNeg,Int.reduceLT,Int.reduceLE,Int.reduceEq,Int.reduceToNat,Int.cast_ofNat_Int,↓reduceIte, *, hr.call]
  | false =>
    have h1 : ¬ 0 ≤ findP P xs 0 := fun hh => by rw [hg.1 hh] at h; cases h
    clear hg h hP
    simp (disch := (first | assumption | omega | (simp only [List.length_append, List.length_cons, List.length_nil]; omega))) only [↓wD,wU,Nat.reduceBEq,zx150,zx151,zx159,zx160,zx161,zx162,Nat.reduceAdd,Nat.reduceSub,Nat.reduceMul,Nat.reduceLeDiff,Nat.reduceLT,Nat.reduceEqDiff,Int.reduceAdd,Int.reduceSub,Int.reduceMul,Int.reduceNeg,Int.reduceLT,Int.reduceLE,Int.reduceEq,Int.reduceToNat,Int.cast_ofNat_Int,↓reduceIte, *, hr.call]
end Go.Proofs.Ytalaadcbpjnglaa
namespace Go.AM
open Go
theorem Sl.storeI {p : Nat → Prop} {lo : Nat} {H : Heap} {v : AV} {xs : List Int} {k x : Int} {Q : Heap → Prop} (h : Sl p H v xs) (hlo : ∀ b, p b → lo ≤ b) (h0 : 0 ≤ k) (h1 : k < xs.length)
    (go : ∀ H', Sl p H' v (xs.set k.toNat x) → Kx (fun b => v.blk ≠ some b) H H' → H'.length = H.length → Q H') : @optP _ (stA lo H 1 (v.at 1 k) (.i x)) ⟨Q⟩ := by
  rcases h with ⟨rfl, rfl⟩ | ⟨b, o, c, ks, rfl, hb, hk, h2, h3, h4⟩
  · simp at h1; omega
  · change o + xs.length * 1 ≤ ks.length at h2
    have hkl : k.toNat < xs.length := by omega
    have hst : stA lo H 1 (AV.at 1 (.s (Rep.sz Int) b o xs.length c) k) (.i x) = some (H.set b (.cells (ks.set (o + k.toNat) (.i x)))) := by
      simp only [stA, AV.at, Nat.mul_one, zx130, List.length_singleton, List.all_cons, List.all_nil, zx140, Bool.and_self, and_self, if_true]
      rw [st_of hk (hlo b hb) (by simp; omega)]
      simp [wr]
    refine ⟨_, hst, go _ (.inr ⟨b, o, c, ks.set (o + k.toNat) (.i x), by simp, hb, get_set hk, by simp; change o + xs.length * 1 ≤ _; omega, by simpa using h3, fun i hi => ?_⟩) ?_ (by simp)⟩
    · have hi' : i < xs.length := by simpa using hi
      have h5 := h4 i hi'
      change (ks.drop (o + i * 1)).take 1 = [.i xs[i]] at h5
      change ((ks.set (o + k.toNat) (.i x)).drop (o + i * 1)).take 1 = [.i _]
      rw [Nat.mul_one] at h5 ⊢
      have h6 := take1 h5
      have hlt : o + i < ks.length := by omega
      rw [List.drop_eq_getElem_cons (by simp; omega)]
      by_cases e : k.toNat = i
      · subst e; simp
      · have : ks[o + i]'hlt = .i xs[i] := by
          rw [List.getElem?_eq_getElem hlt] at h6; simpa using h6
        rw [List.getElem_set_ne (by omega), this, List.getElem_set_ne e]
        simp
    · exact (Kx.set _ _ _).weak fun b' _ hb' e => hb' (by simp [AV.blk, e])
/-- a slice of slices of the call's own, with a number ahead, as a result -/
structure OA where
  v : Int
  t : List (List Int)
def OAcc (p : Nat → Prop) (H : Heap) (u : AV) (xs : List (List Int)) : Prop :=
  (u = .nils ∧ xs = []) ∨ ∃ b o c k, u = .s 1 b o xs.length c ∧ p b ∧ H[b]? = some (.cells k) ∧ o + xs.length ≤ k.length ∧ xs.length ≤ 9223372036854775807 ∧ ∀ (i : Nat) (h : i < xs.length), Rep.rep (fun b' => p b' ∧ b' ≠ b) H ((k.drop (o + i)).take 1) xs[i]
instance : RV OA where
  rv p H w x := ∃ u, w = .ag [.i x.v, u] ∧ OAcc p H u x.t
  mono := by
    rintro p q H H' w x ⟨u, rfl, h⟩ hk hq
    refine ⟨u, rfl, ?_⟩
    rcases h with h | ⟨b, o, c, k, rfl, hb, hk1, h1, h2, h3⟩
    · exact .inl h
    · exact .inr ⟨b, o, c, k, rfl, hq b hb, hk.2 b k hb hk1, h1, h2, fun i hi => Rep.mono (h3 i hi) (hk.weak fun _ h => h.1) fun b h => ⟨hq b h.1, h.2⟩⟩
  pure := by
    rintro p q H H' w x ⟨u, rfl, h⟩ hp
    refine ⟨u, rfl, ?_⟩
    rcases h with h | ⟨b, o, c, k, rfl, _⟩
    · exact .inl h
    · simp [AV.pure, AV.pureAll] at hp
theorem OAcc.of {L : Nat} {p q : Nat → Prop} {H : Heap} {u : AV} {xs : List (List Int)} (h : Acc L p H u xs) (hL : ∀ b, L ≤ b → q b) (hp : ∀ b, p b → q b) : OAcc q H u xs := by
  rcases h with h | ⟨b, o, c, k, rfl, hb, hk1, h1, h2, h3⟩
  · exact .inl h
  · refine .inr ⟨b, o, c, k, rfl, hL b hb, hk1, by change o + xs.length * 1 ≤ _ at h1; omega, h2, fun i hi => ?_⟩
    have := h3 i hi
    change Rep.rep _ H ((k.drop (o + i * 1)).take 1) _ at this
    rw [Nat.mul_one] at this
    exact Rep.mono this (Kp.refl _ _) fun b h => ⟨hp b h.1, h.2⟩
theorem OAcc.acc {L : Nat} {q : Nat → Prop} {H : Heap} {u : AV} {xs : List (List Int)} (h : OAcc q H u xs) (hL : ∀ b, q b → L ≤ b) : Acc L q H u xs := by
  rcases h with h | ⟨b, o, c, k, rfl, hb, hk1, h1, h2, h3⟩
  · exact .inl h
  · refine .inr ⟨b, o, c, k, rfl, hL b hb, hk1, by change o + xs.length * 1 ≤ _; omega, h2, fun i hi => ?_⟩
    change Rep.rep _ H ((k.drop (o + i * 1)).take 1) _
    rw [Nat.mul_one]
    exact h3 i hi
end Go.AM
namespace Go.Proofs.Ytalaadcbpjnglaa
open Go Go.AM Go.Proofs
theorem of_retA {p : Nat → Prop} {H : Heap} {rows : AV} {v : Int} {t : List (List Int)} (ht : Sl p H rows t) : Ret E 32 [.ag [.i v, rows]] (fun _ => False) H (OA.mk v (cutA t)) := by
  refine Ret.ro rfl fn32 rfl ?_
  unfold f32A
  have hb := ht.bound
  simp (disch := (first | assumption | omega | (simp only [List.length_append, List.length_cons, List.length_nil]; omega))) only [↓wD,wU,Nat.reduceBEq,zx150,zx151,zx159,zx160,zx161,zx162,Nat.reduceAdd,Nat.reduceSub,Nat.reduceMul,Nat.reduceLeDiff,Nat.reduceLT,Nat.reduceEqDiff,Int.reduceAdd,Int.reduceSub,Int.reduceMul,Int.reduceNeg,Int.reduceLT,Int.reduceLE,Int.reduceEq,Int.reduceToNat,Int.cast_ofNat_Int,↓reduceIte, *, ht.L]
  replace ht : Sl (fun b => b < H.length) H rows t := ht.low.weak fun _ h => h.2
  refine Wp.for t.length (fun i a H' => ∃ u, a 10 = rows ∧ a 11 = .i t.length ∧ a 12 = .i i ∧ a 2 = .p (H.length + 1) 0 ∧ a 3 = .p (H.length + 2) 0 ∧ Gr H H' ∧ H.length + 3 ≤ H'.length ∧
    H'[H.length + 1]? = some (.cells [.i 0, .nils]) ∧ H'[H.length + 2]? = some (.cells [.i v, u]) ∧ Acc (H.length + 3) (fun b => H.length + 3 ≤ b) H' u (((t.take i).take 19).map fun r => r.take 11)) ?_ ?_
  · rintro i a H1 hi ⟨u, a10, a11, a12, a2, a3, hg, hl, c2, c3, hu⟩ ih
    simp (disch := (first | assumption | omega | (simp only [List.length_append, List.length_cons, List.length_nil]; omega))) only [↓wD,wU,Nat.reduceBEq,zx150,zx151,zx159,zx160,zx161,zx162,Nat.reduceAdd,Nat.reduceSub,Nat.reduceMul,Nat.reduceLeDiff,Nat.reduceLT,Nat.reduceEqDiff,Int.reduceAdd,Int.reduceSub,Int.reduceMul,Int.reduceNeg,Int.reduceLT,Int.reduceLE,Int.reduceEq,Int.reduceToNat,Int.cast_ofNat_Int,↓reduceIte, *]
    refine condP_split (fun hlt => ?_) (fun hlt => ?_)
    · have hi' : i < t.length := by omega
      have ht1 := ht.gr hg
      have g := ht1.get (k := (i : Int)) (by omega) (by omega)
      simp (disch := (first | assumption | omega | (simp only [List.length_append, List.length_cons, List.length_nil]; omega))) only [↓wD,wU,Nat.reduceBEq,zx150,zx151,zx159,zx160,zx161,zx162,Nat.reduceAdd,Nat.reduceSub,Nat.reduceMul,Nat.reduceLeDiff,Nat.reduceLT,Nat.reduceEqDiff,Int.reduceAdd,Int.reduceSub,Int.reduceMul,Int.reduceNeg,Int.reduceLT,Int.reduceLE,Int.reduceEq,Int.reduceToNat,Int.cast_ofNat_Int,↓reduceIte, *, ht1.L]
      refine condP_split (fun h6 => ?_) (fun h6 => ?_)
      · simp (disch := (first | assumption | omega | (simp only [List.length_append, List.length_cons, List.length_nil]; omega))) only [↓wD,wU,Nat.reduceBEq,zx150,zx151,zx159,zx160,zx161,zx162,Nat.reduceAdd,Nat.reduceSub,Nat.reduceMul,Nat.reduceLeDiff,Nat.reduceLT,Nat.reduceEqDiff,Int.reduceAdd,Int.reduceSub,Int.reduceMul,Int.reduceNeg,Int.reduceLT,Int.reduceLE,Int.reduceEq,Int.reduceToNat,Int.cast_ofNat_Int,↓reduceIte, *, ld_of c3]
        refine (list_ret g).toF fun y H2 hg2 hy => ?_
        have hl2 := hg2.1
        simp (disch := (first | assumption | omega | (simp only [List.length_append, List.length_cons, List.length_nil]; omega))) only [↓wD,wU,Nat.reduceBEq,zx150,zx151,zx159,zx160,zx161,zx162,Nat.reduceAdd,Nat.reduceSub,Nat.reduceMul,Nat.reduceLeDiff,Nat.reduceLT,Nat.reduceEqDiff,Int.reduceAdd,Int.reduceSub,Int.reduceMul,Int.reduceNeg,Int.reduceLT,Int.reduceLE,Int.reduceEq,Int.reduceToNat,Int.cast_ofNat_Int,↓reduceIte, *, hy.cellsV]
        have hu2 := hu.gr hg2
        refine hu2.pushL (by omega) (by omega) hy (fun b hb => ⟨by omega, fun e => by have := hu.blk_lt e; omega⟩) ?_ fun u' H3 hu' hk3 hl3' _ => ?_
        · simp; omega
        · have c33 := hk3.get (b := H.length + 2) (fun e => by have := hu2.blk_lt e; omega) (hg2.get c3)
          have c23 := hk3.get (b := H.length + 1) (fun e => by have := hu2.blk_lt e; omega) (hg2.get c2)
          simp (disch := (first | assumption | omega | (simp only [List.length_append, List.length_cons, List.length_nil]; omega))) only [↓wD,wU,Nat.reduceBEq,zx150,zx151,zx159,zx160,zx161,zx162,Nat.reduceAdd,Nat.reduceSub,Nat.reduceMul,Nat.reduceLeDiff,Nat.reduceLT,Nat.reduceEqDiff,Int.reduceAdd,Int.reduceSub,Int.reduceMul,Int.reduceNeg,Int.reduceLT,Int.reduceLE,Int.reduceEq,Int.reduceToNat,Int.cast_ofNat_Int,↓reduceIte, *, st_of c33, hu'.cellsV]
          refine (ih hi').go ⟨u', ?_⟩
          simp (disch := (first | assumption | omega | (simp only [List.length_append, List.length_cons, List.length_nil]; omega))) only [↓wD,wU,Nat.reduceBEq,zx150,zx151,zx159,zx160,zx161,zx162,Nat.reduceAdd,Nat.reduceSub,Nat.reduceMul,Nat.reduceLeDiff,Nat.reduceLT,Nat.reduceEqDiff,Int.reduceAdd,Int.reduceSub,Int.reduceMul,Int.reduceNeg,Int.reduceLT,Int.reduceLE,Int.reduceEq,Int.reduceToNat,Int.cast_ofNat_Int,↓reduceIte, *]
          have e : ((t.take (i + 1)).take 19) = (t.take i).take 19 ++ [gi t i] := by
            rw [List.take_take, List.take_take, show min 19 (i + 1) = i + 1 by omega, show min 19 i = i by omega, take_gi hi']
          rw [e, List.map_append]
          refine ⟨((hg.trans hg2).push hu2 (by omega) hk3).set (by omega) _, by simp; omega, by rw [List.getElem?_set_ne (by omega)]; exact c23, get_set c33, ?_⟩
          exact hu'.mono ((Kp.set _ _ _).weak fun b hb => by omega) fun _ h => h
      · simp (disch := (first | assumption | omega | (simp only [List.length_append, List.length_cons, List.length_nil]; omega))) only [↓wD,wU,Nat.reduceBEq,zx150,zx151,zx159,zx160,zx161,zx162,Nat.reduceAdd,Nat.reduceSub,Nat.reduceMul,Nat.reduceLeDiff,Nat.reduceLT,Nat.reduceEqDiff,Int.reduceAdd,Int.reduceSub,Int.reduceMul,Int.reduceNeg,Int.reduceLT,Int.reduceLE,Int.reduceEq,Int.reduceToNat,Int.cast_ofNat_Int,↓reduceIte, *]
        refine (ih hi').go ⟨u, ?_⟩
        simp (disch := (first | assumption | omega | (simp only [List.length_append, List.length_cons, List.length_nil]; omega))) only [↓wD,wU,Nat.reduceBEq,zx150,zx151,zx159,zx160,zx161,zx162,Nat.reduceAdd,Nat.reduceSub,Nat.reduceMul,Nat.reduceLeDiff,Nat.reduceLT,Nat.reduceEqDiff,Int.reduceAdd,Int.reduceSub,Int.reduceMul,Int.reduceNeg,Int.reduceLT,Int.reduceLE,Int.reduceEq,Int.reduceToNat,Int.cast_ofNat_Int,↓reduceIte, *]
        have e : ((t.take (i + 1)).take 19) = (t.take i).take 19 := by
          rw [List.take_take, List.take_take]; congr 1; omega
        rw [e]; first | exact hu | exact ⟨hg, hu⟩ | exact ⟨hg, hl, hu⟩
    · have e : i = t.length := by omega
      subst e
      simp (disch := (first | assumption | omega | (simp only [List.length_append, List.length_cons, List.length_nil]; omega))) only [↓wD,wU,Nat.reduceBEq,zx150,zx151,zx159,zx160,zx161,zx162,Nat.reduceAdd,Nat.reduceSub,Nat.reduceMul,Nat.reduceLeDiff,Nat.reduceLT,Nat.reduceEqDiff,Int.reduceAdd,Int.reduceSub,Int.reduceMul,Int.reduceNeg,Int.reduceLT,Int.reduceLE,Int.reduceEq,Int.reduceToNat,Int.cast_ofNat_Int,↓reduceIte, *, ldn_of c3, st_of c2, hu.cellsV]
      simp (disch := (first | assumption | omega | (simp only [List.length_append, List.length_cons, List.length_nil]; omega))) only [↓wD,wU,Nat.reduceBEq,zx150,zx151,zx159,zx160,zx161,zx162,Nat.reduceAdd,Nat.reduceSub,Nat.reduceMul,Nat.reduceLeDiff,Nat.reduceLT,Nat.reduceEqDiff,Int.reduceAdd,Int.reduceSub,Int.reduceMul,Int.reduceNeg,Int.reduceLT,Int.reduceLE,Int.reduceEq,Int.reduceToNat,Int.cast_ofNat_Int,↓reduceIte, *, ldn_of (get_set c2)]
      rw [List.take_length] at hu
      exact ⟨_, rfl, OAcc.of (hu.mono ((Kp.set _ _ _).weak fun b hb => by omega) fun _ h => h) (fun b h => .inr (by omega)) fun b h => .inr (by omega)⟩
  · simp (disch := (first | assumption | omega | (simp only [List.length_append, List.length_cons, List.length_nil]; omega))) only [↓wD,wU,Nat.reduceBEq,zx150,zx151,zx159,zx160,zx161,zx162,Nat.reduceAdd,Nat.reduceSub,Nat.reduceMul,Nat.reduceLeDiff,Nat.reduceLT,Nat.reduceEqDiff,Int.reduceAdd,Int.reduceSub,Int.reduceMul,Int.reduceNeg,Int.reduceLT,Int.reduceLE,Int.reduceEq,Int.reduceToNat,Int.cast_ofNat_Int,↓reduceIte, *]
    refine ⟨.nils, ?_⟩
    simp (disch := (first | assumption | omega | (simp only [List.length_append, List.length_cons, List.length_nil]; omega))) only [↓wD,wU,Nat.reduceBEq,zx150,zx151,zx159,zx160,zx161,zx162,Nat.reduceAdd,Nat.reduceSub,Nat.reduceMul,Nat.reduceLeDiff,Nat.reduceLT,Nat.reduceEqDiff,Int.reduceAdd,Int.reduceSub,Int.reduceMul,Int.reduceNeg,Int.reduceLT,Int.reduceLE,Int.reduceEq,Int.reduceToNat,Int.cast_ofNat_Int,↓reduceIte, *]
    exact ⟨(((Gr.refl H).app _).app _).app _, Acc.nil⟩
theorem cmpL_cons {y : Int} {s s' : List Int} : cmpL (y :: s) (y :: s') = cmpL s s' := by simp [cmpL, cmpI]
theorem cmpL_lt {y y' : Int} {s s' : List Int} (h : y < y') : cmpL (y :: s) (y' :: s') < 0 := by simp [cmpL, cmpI, h]
theorem cmpL_same {ks ks' : List Int} : ∀ cs : List Int, cmpL (cs ++ ks) (cs ++ ks') = cmpL ks ks'
  | [] => rfl
  | c :: cs => by rw [List.cons_append, List.cons_append, cmpL_cons, cmpL_same cs]
theorem cmpL_app {ks ks' : List Int} : ∀ {cs cs' : List Int}, cs.length = cs'.length → cmpL cs cs' < 0 → cmpL (cs ++ ks) (cs' ++ ks') < 0
  | [], [], _, h => by simp [cmpL] at h
  | [], _ :: _, h, _ => by simp at h
  | _ :: _, [], h, _ => by simp at h
  | c :: cs, c' :: cs', hl, h => by
    rw [List.cons_append, List.cons_append]
    unfold cmpL at h ⊢
    split
    · rename_i hne
      rw [if_pos hne] at h; exact h
    · rename_i hne
      rw [if_neg hne] at h
      exact cmpL_app (by simpa using hl) h
theorem rng_rise {x n : Int} : (rng x n).Pairwise (· < ·) := by
  unfold rng
  rw [List.pairwise_map]
  exact List.pairwise_lt_range.imp fun h => by omega
theorem sufs_lex {r : Bool} {n : Int} : ∀ {t : Nat} {x : Int}, (sufs r n t x).Pairwise fun a b => cmpL a b < 0
  | 0, x => by simp [sufs]
  | t + 1, x => by
    simp only [sufs]
    rw [List.pairwise_flatMap]
    refine ⟨fun y _ => ?_, rng_rise.imp fun {y y'} h a ha b hb => ?_⟩
    · rw [List.pairwise_map]
      exact sufs_lex.imp fun h => by rw [cmpL_cons]; exact h
    · obtain ⟨s, _, rfl⟩ := List.mem_map.1 ha
      obtain ⟨s', _, rfl⟩ := List.mem_map.1 hb
      exact cmpL_lt h
theorem mis_lex {v : Int} {t : List (List Int)} {k : Nat} : (mis v k t).Pairwise fun a b => cmpL a b < 0 := by
  have h : ((allL v t k).map Prod.fst).Pairwise fun a b => cmpL a b < 0 := by
    unfold allL
    rw [List.map_flatMap, List.pairwise_flatMap]
    constructor
    · intro cs _
      unfold allC
      rw [List.map_map, List.pairwise_map]
      exact sufs_lex.imp fun h => by rw [Function.comp, Function.comp]; simpa [cmpL_same] using h
    · apply List.Pairwise.imp_of_mem _ (sufs_lex (r := true) (n := wd t) (t := k) (x := 0))
      intro a b ha hb hab x hx y hy
      obtain ⟨q, hq, rfl⟩ := List.mem_map.1 hx
      obtain ⟨q', hq', rfl⟩ := List.mem_map.1 hy
      unfold allC at hq hq'
      obtain ⟨s, _, rfl⟩ := List.mem_map.1 hq
      obtain ⟨s', _, rfl⟩ := List.mem_map.1 hq'
      exact cmpL_app (by rw [sufs_len ha, sufs_len hb]) hab
  exact h.sublist (List.filter_sublist.map _)
theorem mis_next {v : Int} {t : List (List Int)} {k i : Nat} (h0 : 0 < i) (h : i < (mis v k t).length) : cmpL (gi (mis v k t) ((i : Int) - 1)) (gi (mis v k t) (i : Int)) < 0 := by
  have hp := mis_lex (v := v) (t := t) (k := k)
  rw [List.pairwise_iff_getElem] at hp
  have e : (i : Int) - 1 = ((i - 1 : Nat) : Int) := by omega
  rw [e, gi_nat (show i - 1 < _ by omega), gi_nat h]
  exact hp _ _ _ _ (by omega)
theorem mis_few {v : Int} {t : List (List Int)} {k : Nat} (hA : ArrP v t) (h1 : 1 ≤ k) (h2 : k ≤ 2) : (mis v k t).length ≤ 500 := by
  have hw := hA.wd
  have hv := hA.2.1
  have hv1 := hA.1
  refine Nat.le_trans (zeros_len _) ?_
  have a : (sufs true (wd t) k 0).length ≤ 28 := by
    have : k = 1 ∨ k = 2 := by omega
    generalize wd t = w at hw
    have hw8 : w = 1 ∨ w = 2 ∨ w = 3 ∨ w = 4 ∨ w = 5 ∨ w = 6 ∨ w = 7 ∨ w = 8 := by omega
    rcases this with rfl | rfl <;> rcases hw8 with rfl | rfl | rfl | rfl | rfl | rfl | rfl | rfl <;> decide
  have b : (sufs false v k 0).length ≤ 16 := by
    have := sufs_count (r := false) (n := v) (t := k) (x := 0) (by omega)
    have h4 : v.toNat ^ k ≤ 4 ^ 2 := pow_small (by omega) h2 (by omega)
    omega
  have c : (allL v t k).length ≤ (sufs true (wd t) k 0).length * 16 := by
    unfold allL
    generalize sufs true (wd t) k 0 = cs
    induction cs with
    | nil => simp
    | cons c cs ih =>
      simp only [List.flatMap_cons, List.length_append, List.length_cons, Nat.succ_mul]
      have : (allC v t k c).length ≤ 16 := by unfold allC; rw [List.length_map]; omega
      omega
  omega
/-- choices put into a row -/
def putR (cs ks : List Int) (row : List Int) : Nat → List Int
  | 0 => row
  | j + 1 => (putR cs ks row j).set (gi cs (j : Int)).toNat (gi ks (j : Int))
theorem putR_len {cs ks row : List Int} : ∀ {j : Nat}, (putR cs ks row j).length = row.length
  | 0 => rfl
  | j + 1 => by rw [putR, List.length_set, putR_len]
theorem putR_chr {v : Int} {cs ks row : List Int} (hr : ChR v row) (hk : ChR v ks) : ∀ {j : Nat}, j ≤ ks.length → ChR v (putR cs ks row j)
  | 0, _ => hr
  | j + 1, h => fun x hx => by
    rcases List.mem_or_eq_of_mem_set hx with h1 | h1
    · exact putR_chr hr hk (by omega) x h1
    · rw [h1]; exact hk _ (mem_gi (by omega))
theorem gi_set {xs : List Int} {i c : Int} {x : Int} (h0 : 0 ≤ i) (h1 : i < xs.length) (hc : 0 ≤ c) : gi (xs.set i.toNat x) c = if c = i then x else gi xs c := by
  unfold gi
  simp only [List.getD_eq_getElem?_getD, List.getElem?_set]
  by_cases e : c = i
  · subst e
    rw [if_pos rfl, if_pos (by omega), if_pos rfl]; rfl
  · rw [if_neg (by omega), if_neg e]
theorem putR_comes {cs ks row : List Int} {k : Nat} (h1 : 1 ≤ k) (h2 : k ≤ 2) (hc : cs.length = k) (hk : ks.length = k) (hp : cs.Pairwise (· < ·)) (hb : ∀ c ∈ cs, 0 ≤ c ∧ c < row.length) : comesL (putR cs ks row k) cs ks = true := by
  have : k = 1 ∨ k = 2 := by omega
  rcases this with rfl | rfl
  · match cs, ks, hc, hk with
    | [c], [x], _, _ =>
      have := hb c (by simp)
      have e : gi (putR [c] [x] row 1) c = x := by
        change gi (row.set c.toNat x) c = x
        rw [gi_set this.1 this.2 this.1, if_pos rfl]
      simp [comesL, e]
  · match cs, ks, hc, hk with
    | [c, d], [x, y], _, _ =>
      have b1 := hb c (by simp)
      have b2 := hb d (by simp)
      have hlt : c < d := by
        rw [List.pairwise_cons] at hp
        exact hp.1 d (by simp)
      have e1 : gi (putR [c, d] [x, y] row 2) c = x := by
        change gi ((row.set c.toNat x).set d.toNat y) c = x
        rw [gi_set b2.1 (by simpa using b2.2) b1.1, if_neg (by omega), gi_set b1.1 b1.2 b1.1, if_pos rfl]
      have e2 : gi (putR [c, d] [x, y] row 2) d = y := by
        change gi ((row.set c.toNat x).set d.toNat y) d = y
        rw [gi_set b2.1 (by simpa using b2.2) b2.1, if_pos rfl]
      simp [comesL, e1, e2]
/-- a row that makes something come -/
theorem mis_drop {v : Int} {t : List (List Int)} {k : Nat} {r m : List Int} (h : 1 ≤ t.length) (hm : m ∈ mis v k t) (hc : comesL r (m.take k) (m.drop k) = true) : (mis v k (t ++ [r])).length < (mis v k t).length ∧ ¬ m ∈ mis v k (t ++ [r]) := by
  constructor
  · have := mis_gain (v := v) (k := k) (r := r) h
    have h2 : 0 < gain k (mis v k t) r := List.countP_pos_iff.2 ⟨m, hm, hc⟩
    omega
  · rw [mis_app h, List.mem_filter]
    rintro ⟨_, h2⟩
    rw [hc] at h2
    cases h2
end Go.Proofs.Ytalaadcbpjnglaa
namespace Go.Proofs.Ytalaadcbpjnglaa
open Go Go.AM Go.Proofs
/-- a column as a number -/
def code : List (List Int) → Int → Nat
  | [], _ => 0
  | r :: t, c => (if gi r c = 1 then 1 else 0) + 2 * code t c
theorem w2 {v x y : Int} (h1 : 0 ≤ x) (h2 : x < v) (h3 : 0 ≤ y) (h4 : y < v) : [x, y] ∈ sufs false v 2 0 := mem_sufs_f.2 ⟨rfl, by simp; omega⟩
theorem p2 {n c d : Int} (h : 0 ≤ c) (h' : c < d) (h2 : d < n) : [c, d] ∈ sufs true n 2 0 := sufs_cons_t h (by omega) (sufs_cons_t (by omega) h2 (by simp [sufs]))
end Go.Proofs.Ytalaadcbpjnglaa
namespace Go.Proofs.Ytalaadcbpjnglaa
open Go Go.AM Go.Proofs
theorem mis1_ret {p q : Nat → Prop} {H : Heap} {b : Nat} {u w : AV} {x m : List Int} (hu : Sl p H u x) (hw : Sl q H w m) (hb : H[b]? = some (.cells [w])) : RetP E 69 ([] ++ [u] ++ [.p b 0]) H (.b (decide (x = m))) := by
  refine RetP.ro rfl fn69 rfl rfl ?_
  unfold f69A
  simp (disch := (first | assumption | omega | (simp only [List.length_append, List.length_cons, List.length_nil]; omega))) only [↓wD,wU,Nat.reduceBEq,zx150,zx151,zx159,zx160,zx161,zx162,Nat.reduceAdd,Nat.reduceSub,Nat.reduceMul,Nat.reduceLeDiff,Nat.reduceLT,Nat.reduceEqDiff,Int.reduceAdd,Int.reduceSub,Int.reduceMul,Int.reduceNeg,Int.reduceLT,Int.reduceLE,Int.reduceEq,Int.reduceToNat,Int.cast_ofNat_Int,↓reduceIte, *, ld_of hb, (equal_ret hu hw).call]
theorem u64_idx {k : Int} {n : Nat} (h : 0 < n) (h1 : n ≤ 1000000) : ∃ r : Nat, r < n ∧ IntKind.wrap .u64 (n : Int) = n ∧ (IntKind.wrap .u64 k).tmod n = r ∧ IntKind.wrap .i64 (r : Int) = r := by
  have h2 : 0 ≤ IntKind.wrap .u64 k := by
    have e1 : IntKind.u64.bits = 64 := rfl
    have e2 : IntKind.u64.signed = false := rfl
    simp only [IntKind.wrap, e1, e2, Bool.false_and, Bool.false_eq_true, if_false]
    exact Int.emod_nonneg _ (by decide)
  have h3 := Int.tmod_nonneg (n : Int) h2
  have h4 := Int.tmod_lt_of_pos (IntKind.wrap .u64 k) (show (0 : Int) < n by omega)
  obtain ⟨r, hr⟩ := Int.eq_ofNat_of_zero_le h3
  exact ⟨r, by omega, wrapU (by omega) (by omega), hr, zx172 (by omega) (by omega)⟩
/-- put away: simp does not look into it -/
def Kept (p : Prop) : Prop := p
theorem Walk.ArraysMissing (H : Heap) (cs : List AV) (x : Int × List (List Int)) (h : Rep.rep (fun b => b < H.length) H cs x) (k ix : Int) : WpF E H.length 16 [.ag cs, .i k, .i ix] H fun v _ => v = .b true := by
  obtain ⟨r, rfl, hs⟩ := rep_si_elim h
  obtain ⟨v, t⟩ := x
  change Sl _ H r t at hs
  refine law_of (RetP.ro rfl fn16 rfl rfl ?_)
  unfold f16A
  have c0 : (H ++ [.cells [.i v, r]])[H.length]? = some (.cells [.i v, r]) := get_last
  have hs0 := hs.app [.cells [.i v, r]]
  simp (disch := (first | assumption | omega | (simp only [List.length_append, List.length_cons, List.length_nil]; omega))) only [↓wD,wU,Nat.reduceBEq,zx150,zx151,zx159,zx160,zx161,zx162,Nat.reduceAdd,Nat.reduceSub,Nat.reduceMul,Nat.reduceLeDiff,Nat.reduceLT,Nat.reduceEqDiff,Int.reduceAdd,Int.reduceSub,Int.reduceMul,Int.reduceNeg,Int.reduceLT,Int.reduceLE,Int.reduceEq,Int.reduceToNat,Int.cast_ofNat_Int,↓reduceIte, *, hs.cellsV]
  refine (of_ret hs0).toX fun w H1 x1 hw => ?_
  obtain ⟨u1, rfl, hu1⟩ := rv_si_elim hw
  have c1 := x1.get trivial c0
  have hs1 := hs0.kp (x1.all _).kp
  by_cases hA : ArrP v t ∧ 1 ≤ k ∧ k ≤ 2 ∧ k ≤ wd t
  · obtain ⟨k, rfl, q1, q2, q3⟩ : ∃ n : Nat, k = n ∧ 1 ≤ n ∧ n ≤ 2 ∧ n ≤ wd t := by
      obtain ⟨n, rfl⟩ := Int.eq_ofNat_of_zero_le (show 0 ≤ k by omega)
      exact ⟨n, rfl, by omega, by omega, by omega⟩
    replace hA := hA.1
    rw [cutA_ok hA] at hu1
    have hwd := hA.wd
    have hv1 := hA.1
    have hv2 := hA.2.1
    have ht1 := hA.2.2.1
    have ht16 := hA.2.2.2.1
    simp (disch := (first | assumption | omega | (simp only [List.length_append, List.length_cons, List.length_nil]; omega))) only [↓wD,wU,Nat.reduceBEq,zx150,zx151,zx159,zx160,zx161,zx162,Nat.reduceAdd,Nat.reduceSub,Nat.reduceMul,Nat.reduceLeDiff,Nat.reduceLT,Nat.reduceEqDiff,Int.reduceAdd,Int.reduceSub,Int.reduceMul,Int.reduceNeg,Int.reduceLT,Int.reduceLE,Int.reduceEq,Int.reduceToNat,Int.cast_ofNat_Int,↓reduceIte, *]
    refine (missingX_ret hu1 hA q1 q2 q3).toX fun w H2 x2 hw => ?_
    obtain ⟨mv, m2, rfl, hm1, hm2⟩ := rv2 hw
    obtain rfl := rvi hm2
    have c2 := x2.get trivial c1
    have hs2 := hs1.kp (x2.all _).kp
    simp (disch := (first | assumption | omega | (simp only [List.length_append, List.length_cons, List.length_nil]; omega))) only [↓wD,wU,Nat.reduceBEq,zx150,zx151,zx159,zx160,zx161,zx162,Nat.reduceAdd,Nat.reduceSub,Nat.reduceMul,Nat.reduceLeDiff,Nat.reduceLT,Nat.reduceEqDiff,Int.reduceAdd,Int.reduceSub,Int.reduceMul,Int.reduceNeg,Int.reduceLT,Int.reduceLE,Int.reduceEq,Int.reduceToNat,Int.cast_ofNat_Int,↓reduceIte, *, ldn_of c2]
    refine (of_ret hs2).toX fun w H3 x3 hw => ?_
    obtain ⟨u3, rfl, hu3⟩ := rv_si_elim hw
    have c3 := x3.get trivial c2
    have hs3 := hs2.kp (x3.all _).kp
    have hmv : Sl (fun b => H.length ≤ b ∧ b < H2.length) H3 mv (mis v k t) := ((rvs hm1).low.weak (q := fun b => H.length ≤ b ∧ b < H2.length) fun b h => ⟨by have h9 := x1.1; have h8 := h.1; simp at h9 h8; omega, h.2⟩).kp (x3.all _).kp
    rw [cutA_ok hA] at hu3
    have hcov := covers_ret hu3 hA q1 (by omega) q3
    rw [covers_zero] at hcov
    change RetP E _ _ _ (.tp [.b (decide ((mis v k t).length = 0)), .i 0]) at hcov
    have hfew := mis_few hA q1 q2
    have hkeep : Kept ((∀ i : Nat, 0 < i → i < (mis v k t).length → cmpL (gi (mis v k t) ((i : Int) - 1)) (gi (mis v k t) (i : Int)) < 0) ∧ (∀ m ∈ mis v k t, ∃ cs ks, m = cs ++ ks ∧ cs.length = k ∧ ks.length = k ∧ cs.Pairwise (· < ·) ∧ (∀ c ∈ cs, 0 ≤ c ∧ c < wd t) ∧ ChR v ks ∧ ∀ r ∈ t, comesL r cs ks = false)) := by
      refine ⟨fun i h0 h1 => mis_next h0 h1, fun m hm => ?_⟩
      obtain ⟨cs, ks, e, h1, h2, h3⟩ := miss_mem hm
      refine ⟨cs, ks, e, sufs_len h1, sufs_len h2, (sufs_rise h1).1, sufs_in (Int.le_refl 0) h1, (mem_sufs_f.1 h2).2, fun r hr => ?_⟩
      unfold oft at h3
      have := List.countP_eq_zero.1 h3 r hr
      simpa using this
    have hk2 : 1 ≤ (k : Int) ∧ (k : Int) ≤ 2 ∧ (k : Int) ≤ wd t := by omega
    have hdrop : Kept (∀ r m, m ∈ mis v k t → comesL r (m.take k) (m.drop k) = true → (mis v k (t ++ [r])).length < (mis v k t).length ∧ ¬ m ∈ mis v k (t ++ [r])) := fun r m hm hc => mis_drop ht1 hm hc
    obtain ⟨Z, eZ⟩ : ∃ Z, mis v k t = Z := ⟨_, rfl⟩
    rw [eZ] at hmv hcov hfew hkeep hdrop
    have hx23 := x3.1
    clear eZ hm1 x1 x2 x3 c0 c1 c2 hs0 hs1 hs2 hu1 hu3
    have hz : (decide ((Z.length : Int) = 0)) = decide (Z.length = 0) := by
      by_cases h0 : Z.length = 0
      · rw [decide_eq_true h0, decide_eq_true (by omega)]
      · rw [decide_eq_false h0, decide_eq_false (by omega)]
    obtain ⟨zb, ezb⟩ : ∃ zb, decide (Z.length = 0) = zb := ⟨_, rfl⟩
    rw [ezb] at hcov hz
    simp (disch := (first | assumption | omega | (simp only [List.length_append, List.length_cons, List.length_nil]; omega))) only [↓wD,wU,Nat.reduceBEq,zx150,zx151,zx159,zx160,zx161,zx162,Nat.reduceAdd,Nat.reduceSub,Nat.reduceMul,Nat.reduceLeDiff,Nat.reduceLT,Nat.reduceEqDiff,Int.reduceAdd,Int.reduceSub,Int.reduceMul,Int.reduceNeg,Int.reduceLT,Int.reduceLE,Int.reduceEq,Int.reduceToNat,Int.cast_ofNat_Int,↓reduceIte, *, hcov.call, ldn_of c3, (rvalid_ret hs3).call, decide_eq_true hA, (width_ret hs3 ht1).call, hmv.L, hz]
    clear hz hcov
    refine Wp.for Z.length (fun i a H' => H' = H3 ∧ a 1 = .i k ∧ a 2 = .i ix ∧ a 3 = .p H.length 0 ∧ a 7 = mv ∧ a 9 = .b zb ∧ a 77 = mv ∧ a 78 = .i Z.length ∧ a 79 = .i i) ?_ ?_
    · rintro i a H' hi ⟨rfl, a1, a2, a3, a7, a9, a77, a78, a79⟩ ih
      simp (disch := (first | assumption | omega | (simp only [List.length_append, List.length_cons, List.length_nil]; omega))) only [↓wD,wU,Nat.reduceBEq,zx150,zx151,zx159,zx160,zx161,zx162,Nat.reduceAdd,Nat.reduceSub,Nat.reduceMul,Nat.reduceLeDiff,Nat.reduceLT,Nat.reduceEqDiff,Int.reduceAdd,Int.reduceSub,Int.reduceMul,Int.reduceNeg,Int.reduceLT,Int.reduceLE,Int.reduceEq,Int.reduceToNat,Int.cast_ofNat_Int,↓reduceIte, a1, a2, a3, a7, a9, a77, a78, a79]
      refine condP_split (fun hlt => ?_) (fun hlt => ?_)
      · have hi' : i < Z.length := by omega
        have g := hmv.get (k := (i : Int)) (by omega) (by omega)
        obtain ⟨cs, ks, em, lcs, lks, hrise, hcs, hks, hno⟩ := hkeep.2 _ (mem_gi hi')
        have glen : (gi Z (i : Int)).length = k + k := by rw [em, List.length_append]; omega
        have glen' : ((gi Z (i : Int)).length : Int) = 2 * k := by omega
        have hat1 : ∀ j : Nat, j < k → gi (gi Z (i : Int)) (j : Int) = gi cs (j : Int) := fun j hj => by
          rw [em, gi_nat (by rw [List.length_append]; omega), gi_nat (by omega), List.getElem_append_left (by omega)]
        have hat2 : ∀ j : Nat, j < k → gi (gi Z (i : Int)) ((k : Int) + j) = gi ks (j : Int) := fun j hj => by
          have e : (k : Int) + j = ((k + j : Nat) : Int) := by omega
          rw [e, em, gi_nat (by rw [List.length_append]; omega), gi_nat (by omega), List.getElem_append_right (by omega)]
          congr 1; omega
        have hk9 : Kept ((cs.Pairwise (· < ·)) ∧ (∀ c ∈ cs, 0 ≤ c ∧ c < wd t) ∧ ChR v ks ∧ (∀ r ∈ t, comesL r cs ks = false) ∧ (∀ j : Nat, j < k → gi (gi Z (i : Int)) (j : Int) = gi cs (j : Int)) ∧ (∀ j : Nat, j < k → gi (gi Z (i : Int)) ((k : Int) + j) = gi ks (j : Int))) := ⟨hrise, hcs, hks, hno, hat1, hat2⟩
        clear hrise hcs hks hno hat1 hat2 em
        have gI := g.I
        rw [glen'] at gI
        have hcmp := hkeep.1 i
        have split0 : ¬ 0 < (i : Int) ∨ (0 < (i : Int) ∧ ¬ 0 ≤ cmpL (gi Z ((i : Int) - 1)) (gi Z (i : Int))) := by
          by_cases hi0 : i = 0
          · exact .inl (by omega)
          · exact .inr ⟨by omega, by have := hcmp (by omega) hi'; omega⟩
        clear hcmp
        have gV := g.cellsV
        rcases split0 with hi0 | ⟨hi0, hcmp⟩
        all_goals first
          | (have q9 := hcmp
             have gp := hmv.get (k := (i : Int) - 1) (by omega) (by omega)
             simp (disch := (first | assumption | omega | (simp only [List.length_append, List.length_cons, List.length_nil]; omega))) only [↓wD,wU,Nat.reduceBEq,zx150,zx151,zx159,zx160,zx161,zx162,Nat.reduceAdd,Nat.reduceSub,Nat.reduceMul,Nat.reduceLeDiff,Nat.reduceLT,Nat.reduceEqDiff,Int.reduceAdd,Int.reduceSub,Int.reduceMul,Int.reduceNeg,Int.reduceLT,Int.reduceLE,Int.reduceEq,Int.reduceToNat,Int.cast_ofNat_Int,↓reduceIte, a1, a2, a3, a7, a9, a77, a78, a79, hmv.L, gI, (compare_ret gp g).call]
             clear hi0 hcmp gp q9)
          | (simp (disch := (first | assumption | omega | (simp only [List.length_append, List.length_cons, List.length_nil]; omega))) only [↓wD,wU,Nat.reduceBEq,zx150,zx151,zx159,zx160,zx161,zx162,Nat.reduceAdd,Nat.reduceSub,Nat.reduceMul,Nat.reduceLeDiff,Nat.reduceLT,Nat.reduceEqDiff,Int.reduceAdd,Int.reduceSub,Int.reduceMul,Int.reduceNeg,Int.reduceLT,Int.reduceLE,Int.reduceEq,Int.reduceToNat,Int.cast_ofNat_Int,↓reduceIte, a1, a2, a3, a7, a9, a77, a78, a79, hmv.L, gI]
             clear hi0)
        all_goals
          refine Wp.for k (fun j a Hh => Hh = H' ∧ a 1 = .i k ∧ a 2 = .i ix ∧ a 3 = .p H.length 0 ∧ a 7 = mv ∧ a 9 = .b zb ∧ a 77 = mv ∧ a 78 = .i Z.length ∧ a 79 = .i i ∧ a 12 = mv.get H' i ∧ a 103 = .i k ∧ a 104 = .i j) ?_ ?_
          · clear a1 a2 a3 a7 a9 a77 a78 a79
            rintro j a Hh hj ⟨rfl, a1, a2, a3, a7, a9, a77, a78, a79, a12, a103, a104⟩ ihB
            simp (disch := (first | assumption | omega | (simp only [List.length_append, List.length_cons, List.length_nil]; omega))) only [↓wD,wU,Nat.reduceBEq,zx150,zx151,zx159,zx160,zx161,zx162,Nat.reduceAdd,Nat.reduceSub,Nat.reduceMul,Nat.reduceLeDiff,Nat.reduceLT,Nat.reduceEqDiff,Int.reduceAdd,Int.reduceSub,Int.reduceMul,Int.reduceNeg,Int.reduceLT,Int.reduceLE,Int.reduceEq,Int.reduceToNat,Int.cast_ofNat_Int,↓reduceIte, a1, a2, a3, a7, a9, a77, a78, a79, a12, a103, a104]
            refine condP_split (fun hltB => ?_) (fun hltB => ?_)
            · have hj' : j < k := by omega
              obtain ⟨hrise, hcs, hks, hno, hat1, hat2⟩ := hk9
              have e1 := hat1 j hj'
              have e2 := hat2 j hj'
              have b1 := hcs _ (mem_gi (show j < cs.length by omega))
              have b2 := hks _ (mem_gi (show j < ks.length by omega))
              have splitj : ¬ 0 < (j : Int) ∨ (0 < (j : Int) ∧ gi (gi Z (i : Int)) ((j : Int) - 1) = gi cs ((j : Int) - 1) ∧ gi cs ((j : Int) - 1) < gi cs (j : Int)) := by
                by_cases hj0 : j = 0
                · exact .inl (by omega)
                · have e3 : (j : Int) - 1 = ((j - 1 : Nat) : Int) := by omega
                  refine .inr ⟨by omega, by rw [e3]; exact hat1 _ (by omega), ?_⟩
                  rw [List.pairwise_iff_getElem] at hrise
                  rw [e3, gi_nat (by omega), gi_nat (by omega)]
                  exact hrise _ _ _ _ (by omega)
              clear hrise hcs hks hno hat1 hat2
              rcases splitj with hj0 | ⟨hj0, e3, b3⟩
              · simp (disch := (first | assumption | omega | (simp only [List.length_append, List.length_cons, List.length_nil]; omega))) only [↓wD,wU,Nat.reduceBEq,zx150,zx151,zx159,zx160,zx161,zx162,Nat.reduceAdd,Nat.reduceSub,Nat.reduceMul,Nat.reduceLeDiff,Nat.reduceLT,Nat.reduceEqDiff,Int.reduceAdd,Int.reduceSub,Int.reduceMul,Int.reduceNeg,Int.reduceLT,Int.reduceLE,Int.reduceEq,Int.reduceToNat,Int.cast_ofNat_Int,↓reduceIte, a1, a2, a3, a7, a9, a77, a78, a79, a12, a103, a104, gI, e1, e2, ldn_of c3, ld_of c3, (width_ret hs3 ht1).call]
                refine (ihB hj').go ⟨rfl, ?_⟩
                simp (disch := (first | assumption | omega | (simp only [List.length_append, List.length_cons, List.length_nil]; omega))) only [↓wD,wU,Nat.reduceBEq,zx150,zx151,zx159,zx160,zx161,zx162,Nat.reduceAdd,Nat.reduceSub,Nat.reduceMul,Nat.reduceLeDiff,Nat.reduceLT,Nat.reduceEqDiff,Int.reduceAdd,Int.reduceSub,Int.reduceMul,Int.reduceNeg,Int.reduceLT,Int.reduceLE,Int.reduceEq,Int.reduceToNat,Int.cast_ofNat_Int,↓reduceIte, a1, a2, a3, a7, a9, a77, a78, a79, a12, a103, a104]
              · simp (disch := (first | assumption | omega | (simp only [List.length_append, List.length_cons, List.length_nil]; omega))) only [↓wD,wU,Nat.reduceBEq,zx150,zx151,zx159,zx160,zx161,zx162,Nat.reduceAdd,Nat.reduceSub,Nat.reduceMul,Nat.reduceLeDiff,Nat.reduceLT,Nat.reduceEqDiff,Int.reduceAdd,Int.reduceSub,Int.reduceMul,Int.reduceNeg,Int.reduceLT,Int.reduceLE,Int.reduceEq,Int.reduceToNat,Int.cast_ofNat_Int,↓reduceIte, a1, a2, a3, a7, a9, a77, a78, a79, a12, a103, a104, gI, e1, e2, e3, ldn_of c3, ld_of c3, (width_ret hs3 ht1).call]
                refine (ihB hj').go ⟨rfl, ?_⟩
                simp (disch := (first | assumption | omega | (simp only [List.length_append, List.length_cons, List.length_nil]; omega))) only [↓wD,wU,Nat.reduceBEq,zx150,zx151,zx159,zx160,zx161,zx162,Nat.reduceAdd,Nat.reduceSub,Nat.reduceMul,Nat.reduceLeDiff,Nat.reduceLT,Nat.reduceEqDiff,Int.reduceAdd,Int.reduceSub,Int.reduceMul,Int.reduceNeg,Int.reduceLT,Int.reduceLE,Int.reduceEq,Int.reduceToNat,Int.cast_ofNat_Int,↓reduceIte, a1, a2, a3, a7, a9, a77, a78, a79, a12, a103, a104]
            · simp (disch := (first | assumption | omega | (simp only [List.length_append, List.length_cons, List.length_nil]; omega))) only [↓wD,wU,Nat.reduceBEq,zx150,zx151,zx159,zx160,zx161,zx162,Nat.reduceAdd,Nat.reduceSub,Nat.reduceMul,Nat.reduceLeDiff,Nat.reduceLT,Nat.reduceEqDiff,Int.reduceAdd,Int.reduceSub,Int.reduceMul,Int.reduceNeg,Int.reduceLT,Int.reduceLE,Int.reduceEq,Int.reduceToNat,Int.cast_ofNat_Int,↓reduceIte, a1, a2, a3, a7, a9, a77, a78, a79, a12, a103, a104, ld_of c3, hs3.L]
              refine Wp.for t.length (fun l a Hi => Hi = Hh ∧ a 1 = .i k ∧ a 2 = .i ix ∧ a 3 = .p H.length 0 ∧ a 7 = mv ∧ a 9 = .b zb ∧ a 77 = mv ∧ a 78 = .i Z.length ∧ a 79 = .i i ∧ a 12 = mv.get Hh i ∧ a 159 = r ∧ a 160 = .i t.length ∧ a 161 = .i l) ?_ ?_
              · clear a1 a2 a3 a7 a9 a77 a78 a79 a12 a103 a104 ihB
                rintro l a Hi hl ⟨rfl, a1, a2, a3, a7, a9, a77, a78, a79, a12, a159, a160, a161⟩ ihC
                simp (disch := (first | assumption | omega | (simp only [List.length_append, List.length_cons, List.length_nil]; omega))) only [↓wD,wU,Nat.reduceBEq,zx150,zx151,zx159,zx160,zx161,zx162,Nat.reduceAdd,Nat.reduceSub,Nat.reduceMul,Nat.reduceLeDiff,Nat.reduceLT,Nat.reduceEqDiff,Int.reduceAdd,Int.reduceSub,Int.reduceMul,Int.reduceNeg,Int.reduceLT,Int.reduceLE,Int.reduceEq,Int.reduceToNat,Int.cast_ofNat_Int,↓reduceIte, a1, a2, a3, a7, a9, a77, a78, a79, a12, a159, a160, a161]
                refine condP_split (fun hltC => ?_) (fun hltC => ?_)
                · have hl' : l < t.length := by omega
                  have gr := hs3.get (k := (l : Int)) (by omega) (by omega)
                  have glr := (hA.row (mem_gi hl')).1
                  have hnol := hk9.2.2.2.1 _ (mem_gi hl')
                  simp (disch := (first | assumption | omega | (simp only [List.length_append, List.length_cons, List.length_nil]; omega))) only [↓wD,wU,Nat.reduceBEq,zx150,zx151,zx159,zx160,zx161,zx162,Nat.reduceAdd,Nat.reduceSub,Nat.reduceMul,Nat.reduceLeDiff,Nat.reduceLT,Nat.reduceEqDiff,Int.reduceAdd,Int.reduceSub,Int.reduceMul,Int.reduceNeg,Int.reduceLT,Int.reduceLE,Int.reduceEq,Int.reduceToNat,Int.cast_ofNat_Int,↓reduceIte, a1, a2, a3, a7, a9, a77, a78, a79, a12, a159, a160, a161, hs3.L]
                  refine Wp.for k (fun j a Hj => Hj = Hi ∧ a 1 = .i k ∧ a 2 = .i ix ∧ a 3 = .p H.length 0 ∧ a 7 = mv ∧ a 9 = .b zb ∧ a 77 = mv ∧ a 78 = .i Z.length ∧ a 79 = .i i ∧ a 12 = mv.get Hi i ∧ a 159 = r ∧ a 160 = .i t.length ∧ a 161 = .i l ∧ a 15 = r.get Hi l ∧ a 165 = .i k ∧ a 166 = .i j ∧ a 16 = .b (comesL (gi t (l : Int)) (cs.take j) (ks.take j))) ?_ ?_
                  · clear a1 a2 a3 a7 a9 a77 a78 a79 a12 a159 a160 a161
                    rintro j a Hj hj2 ⟨rfl, a1, a2, a3, a7, a9, a77, a78, a79, a12, a159, a160, a161, a15, a165, a166, a16⟩ ihD
                    simp (disch := (first | assumption | omega | (simp only [List.length_append, List.length_cons, List.length_nil]; omega))) only [↓wD,wU,Nat.reduceBEq,zx150,zx151,zx159,zx160,zx161,zx162,Nat.reduceAdd,Nat.reduceSub,Nat.reduceMul,Nat.reduceLeDiff,Nat.reduceLT,Nat.reduceEqDiff,Int.reduceAdd,Int.reduceSub,Int.reduceMul,Int.reduceNeg,Int.reduceLT,Int.reduceLE,Int.reduceEq,Int.reduceToNat,Int.cast_ofNat_Int,↓reduceIte, a1, a2, a3, a7, a9, a77, a78, a79, a12, a159, a160, a161, a15, a165, a166, a16]
                    refine condP_split (fun hltD => ?_) (fun hltD => ?_)
                    · have hj' : j < k := by omega
                      have e1 := hk9.2.2.2.2.1 j hj'
                      have e2 := hk9.2.2.2.2.2 j hj'
                      have b1 := hk9.2.1 _ (mem_gi (show j < cs.length by omega))
                      have hsc := comesL_succ (rs := gi t (l : Int)) (cs := cs) (ks := ks) (i := j) (by omega) (by omega)
                      cases hcj : comesL (gi t (l : Int)) (cs.take j) (ks.take j) with
                      | false =>
                        rw [hcj] at hsc a16
                        rw [Bool.false_and] at hsc
                        simp (disch := (first | assumption | omega | (simp only [List.length_append, List.length_cons, List.length_nil]; omega))) only [↓wD,wU,Nat.reduceBEq,zx150,zx151,zx159,zx160,zx161,zx162,Nat.reduceAdd,Nat.reduceSub,Nat.reduceMul,Nat.reduceLeDiff,Nat.reduceLT,Nat.reduceEqDiff,Int.reduceAdd,Int.reduceSub,Int.reduceMul,Int.reduceNeg,Int.reduceLT,Int.reduceLE,Int.reduceEq,Int.reduceToNat,Int.cast_ofNat_Int,↓reduceIte, a1, a2, a3, a7, a9, a77, a78, a79, a12, a159, a160, a161, a15, a165, a166, a16]
                        refine (ihD hj').go ⟨rfl, ?_⟩
                        simp (disch := (first | assumption | omega | (simp only [List.length_append, List.length_cons, List.length_nil]; omega))) only [↓wD,wU,Nat.reduceBEq,zx150,zx151,zx159,zx160,zx161,zx162,Nat.reduceAdd,Nat.reduceSub,Nat.reduceMul,Nat.reduceLeDiff,Nat.reduceLT,Nat.reduceEqDiff,Int.reduceAdd,Int.reduceSub,Int.reduceMul,Int.reduceNeg,Int.reduceLT,Int.reduceLE,Int.reduceEq,Int.reduceToNat,Int.cast_ofNat_Int,↓reduceIte, a1, a2, a3, a7, a9, a77, a78, a79, a12, a159, a160, a161, a15, a165, a166, a16, hsc]
                      | true =>
                        rw [hcj] at hsc a16
                        rw [Bool.true_and] at hsc
                        have hsc2 : comesL (gi t (l : Int)) (cs.take (j + 1)) (ks.take (j + 1)) = decide (gi (gi t (l : Int)) (gi cs (j : Int)) = gi ks (j : Int)) := by
                          rw [hsc]
                          by_cases q : gi (gi t (l : Int)) (gi cs (j : Int)) = gi ks (j : Int)
                          · simp [q]
                          · simp [q]
                        simp (disch := (first | assumption | omega | (simp only [List.length_append, List.length_cons, List.length_nil]; omega))) only [↓wD,wU,Nat.reduceBEq,zx150,zx151,zx159,zx160,zx161,zx162,Nat.reduceAdd,Nat.reduceSub,Nat.reduceMul,Nat.reduceLeDiff,Nat.reduceLT,Nat.reduceEqDiff,Int.reduceAdd,Int.reduceSub,Int.reduceMul,Int.reduceNeg,Int.reduceLT,Int.reduceLE,Int.reduceEq,Int.reduceToNat,Int.cast_ofNat_Int,↓reduceIte, a1, a2, a3, a7, a9, a77, a78, a79, a12, a159, a160, a161, a15, a165, a166, a16, gI, gr.I, e1, e2]
                        refine (ihD hj').go ⟨rfl, ?_⟩
                        simp (disch := (first | assumption | omega | (simp only [List.length_append, List.length_cons, List.length_nil]; omega))) only [↓wD,wU,Nat.reduceBEq,zx150,zx151,zx159,zx160,zx161,zx162,Nat.reduceAdd,Nat.reduceSub,Nat.reduceMul,Nat.reduceLeDiff,Nat.reduceLT,Nat.reduceEqDiff,Int.reduceAdd,Int.reduceSub,Int.reduceMul,Int.reduceNeg,Int.reduceLT,Int.reduceLE,Int.reduceEq,Int.reduceToNat,Int.cast_ofNat_Int,↓reduceIte, a1, a2, a3, a7, a9, a77, a78, a79, a12, a159, a160, a161, a15, a165, a166, a16, hsc2]
                    · obtain rfl : j = k := by omega
                      rw [comesL_all (by omega) (by omega), hnol] at a16
                      simp (disch := (first | assumption | omega | (simp only [List.length_append, List.length_cons, List.length_nil]; omega))) only [↓wD,wU,Nat.reduceBEq,zx150,zx151,zx159,zx160,zx161,zx162,Nat.reduceAdd,Nat.reduceSub,Nat.reduceMul,Nat.reduceLeDiff,Nat.reduceLT,Nat.reduceEqDiff,Int.reduceAdd,Int.reduceSub,Int.reduceMul,Int.reduceNeg,Int.reduceLT,Int.reduceLE,Int.reduceEq,Int.reduceToNat,Int.cast_ofNat_Int,↓reduceIte, a1, a2, a3, a7, a9, a77, a78, a79, a12, a159, a160, a161, a15, a165, a166, a16]
                      refine (ihC hl').go ⟨rfl, ?_⟩
                      simp (disch := (first | assumption | omega | (simp only [List.length_append, List.length_cons, List.length_nil]; omega))) only [↓wD,wU,Nat.reduceBEq,zx150,zx151,zx159,zx160,zx161,zx162,Nat.reduceAdd,Nat.reduceSub,Nat.reduceMul,Nat.reduceLeDiff,Nat.reduceLT,Nat.reduceEqDiff,Int.reduceAdd,Int.reduceSub,Int.reduceMul,Int.reduceNeg,Int.reduceLT,Int.reduceLE,Int.reduceEq,Int.reduceToNat,Int.cast_ofNat_Int,↓reduceIte, a1, a2, a3, a7, a9, a77, a78, a79, a12, a159, a160, a161]
                  · simp (disch := (first | assumption | omega | (simp only [List.length_append, List.length_cons, List.length_nil]; omega))) only [↓wD,wU,Nat.reduceBEq,zx150,zx151,zx159,zx160,zx161,zx162,Nat.reduceAdd,Nat.reduceSub,Nat.reduceMul,Nat.reduceLeDiff,Nat.reduceLT,Nat.reduceEqDiff,Int.reduceAdd,Int.reduceSub,Int.reduceMul,Int.reduceNeg,Int.reduceLT,Int.reduceLE,Int.reduceEq,Int.reduceToNat,Int.cast_ofNat_Int,↓reduceIte, a1, a2, a3, a7, a9, a77, a78, a79, a12, a159, a160, a161]
                    simp [comesL]
                · simp (disch := (first | assumption | omega | (simp only [List.length_append, List.length_cons, List.length_nil]; omega))) only [↓wD,wU,Nat.reduceBEq,zx150,zx151,zx159,zx160,zx161,zx162,Nat.reduceAdd,Nat.reduceSub,Nat.reduceMul,Nat.reduceLeDiff,Nat.reduceLT,Nat.reduceEqDiff,Int.reduceAdd,Int.reduceSub,Int.reduceMul,Int.reduceNeg,Int.reduceLT,Int.reduceLE,Int.reduceEq,Int.reduceToNat,Int.cast_ofNat_Int,↓reduceIte, a1, a2, a3, a7, a9, a77, a78, a79, a12, a159, a160, a161]
                  refine (ih hi').go ⟨rfl, ?_⟩
                  simp (disch := (first | assumption | omega | (simp only [List.length_append, List.length_cons, List.length_nil]; omega))) only [↓wD,wU,Nat.reduceBEq,zx150,zx151,zx159,zx160,zx161,zx162,Nat.reduceAdd,Nat.reduceSub,Nat.reduceMul,Nat.reduceLeDiff,Nat.reduceLT,Nat.reduceEqDiff,Int.reduceAdd,Int.reduceSub,Int.reduceMul,Int.reduceNeg,Int.reduceLT,Int.reduceLE,Int.reduceEq,Int.reduceToNat,Int.cast_ofNat_Int,↓reduceIte, a1, a2, a3, a7, a9, a77, a78, a79]
              · simp (disch := (first | assumption | omega | (simp only [List.length_append, List.length_cons, List.length_nil]; omega))) only [↓wD,wU,Nat.reduceBEq,zx150,zx151,zx159,zx160,zx161,zx162,Nat.reduceAdd,Nat.reduceSub,Nat.reduceMul,Nat.reduceLeDiff,Nat.reduceLT,Nat.reduceEqDiff,Int.reduceAdd,Int.reduceSub,Int.reduceMul,Int.reduceNeg,Int.reduceLT,Int.reduceLE,Int.reduceEq,Int.reduceToNat,Int.cast_ofNat_Int,↓reduceIte, a1, a2, a3, a7, a9, a77, a78, a79, a12]
          · simp (disch := (first | assumption | omega | (simp only [List.length_append, List.length_cons, List.length_nil]; omega))) only [↓wD,wU,Nat.reduceBEq,zx150,zx151,zx159,zx160,zx161,zx162,Nat.reduceAdd,Nat.reduceSub,Nat.reduceMul,Nat.reduceLeDiff,Nat.reduceLT,Nat.reduceEqDiff,Int.reduceAdd,Int.reduceSub,Int.reduceMul,Int.reduceNeg,Int.reduceLT,Int.reduceLE,Int.reduceEq,Int.reduceToNat,Int.cast_ofNat_Int,↓reduceIte, a1, a2, a3, a7, a9, a77, a78, a79]
      · obtain rfl : i = Z.length := by omega
        cases zb with
        | true => simp (disch := (first | assumption | omega | (simp only [List.length_append, List.length_cons, List.length_nil]; omega))) only [↓wD,wU,Nat.reduceBEq,zx150,zx151,zx159,zx160,zx161,zx162,Nat.reduceAdd,Nat.reduceSub,Nat.reduceMul,Nat.reduceLeDiff,Nat.reduceLT,Nat.reduceEqDiff,Int.reduceAdd,Int.reduceSub,Int.reduceMul,Int.reduceNeg,Int.reduceLT,Int.reduceLE,Int.reduceEq,Int.reduceToNat,Int.cast_ofNat_Int,↓reduceIte, a1, a2, a3, a7, a9, a77, a78, a79, awake_ret.call]
        | false =>
          have hzn : ¬ Z.length = 0 := by simpa using ezb
          by_cases h16 : t.length = 16
          · have h16' : (t.length : Int) ≤ 16 ∧ 16 ≤ (t.length : Int) := by omega
            have h16e : decide ((t.length : Int) = 16) = true := decide_eq_true (by omega)
            simp (disch := (first | assumption | omega | (simp only [List.length_append, List.length_cons, List.length_nil]; omega))) only [↓wD,wU,Nat.reduceBEq,zx150,zx151,zx159,zx160,zx161,zx162,Nat.reduceAdd,Nat.reduceSub,Nat.reduceMul,Nat.reduceLeDiff,Nat.reduceLT,Nat.reduceEqDiff,Int.reduceAdd,Int.reduceSub,Int.reduceMul,Int.reduceNeg,Int.reduceLT,Int.reduceLE,Int.reduceEq,Int.reduceToNat,Int.cast_ofNat_Int,↓reduceIte, a1, a2, a3, a7, a9, a77, a78, a79, ld_of c3, hs3.L, h16e, awake_ret.call]
          · have h16e : decide ((t.length : Int) = 16) = false := decide_eq_false (by omega)
            obtain ⟨ri, hri, hU, hr, hc⟩ := u64_idx (k := ix) (n := Z.length) (by omega) (by omega)
            have g := hmv.get (k := (ri : Int)) (by omega) (by omega)
            obtain ⟨cs, ks, em, lcs, lks, hrise, hcs, hks, hno⟩ := hkeep.2 _ (mem_gi hri)
            obtain ⟨m, em2⟩ : ∃ m, gi Z (ri : Int) = m := ⟨_, rfl⟩
            have hmZ : m ∈ Z := by rw [← em2]; exact mem_gi hri
            rw [em2] at g em
            have glen : (m.length : Int) = 2 * k := by rw [em, List.length_append]; omega
            have hat1 : ∀ j : Nat, j < k → gi m (j : Int) = gi cs (j : Int) := fun j hj => by
              rw [em, gi_nat (by rw [List.length_append]; omega), gi_nat (by omega), List.getElem_append_left (by omega)]
            have hat2 : ∀ j : Nat, j < k → gi m ((k : Int) + j) = gi ks (j : Int) := fun j hj => by
              have e : (k : Int) + j = ((k + j : Nat) : Int) := by omega
              rw [e, em, gi_nat (by rw [List.length_append]; omega), gi_nat (by omega), List.getElem_append_right (by omega)]
              congr 1; omega
            obtain ⟨mu, emu⟩ : ∃ mu, mv.get H' ri = mu := ⟨_, rfl⟩
            rw [emu] at g
            have g0 := hs3.get (k := 0) (by omega) (by omega)
            obtain ⟨r0, er0⟩ : ∃ r0, gi t 0 = r0 := ⟨_, rfl⟩
            have hr0 : r0.length = wd t ∧ ChR v r0 := by rw [← er0]; exact hA.row (gi_mem (by omega) (by omega))
            rw [er0] at g0
            have hputc := putR_comes (cs := cs) (ks := ks) (row := r0) q1 q2 lcs lks hrise fun c hc => by rw [hr0.1]; exact hcs c hc
            have hputch : ChR v (putR cs ks r0 k) := putR_chr hr0.2 hks (by omega)
            have hAr : ArrP v (t ++ [putR cs ks r0 k]) := ArrP_app hA (by omega) ⟨by rw [putR_len]; exact hr0.1, hputch⟩
            have hfin := hdrop (putR cs ks r0 k) m hmZ (by rw [em, ← lcs, List.take_left, List.drop_left, lcs]; exact hputc)
            have hwr := wd_app (r := putR cs ks r0 k) ht1
            have hk9 : Kept ((∀ c ∈ cs, 0 ≤ c ∧ c < wd t) ∧ (∀ j : Nat, j < k → gi m (j : Int) = gi cs (j : Int)) ∧ (∀ j : Nat, j < k → gi m ((k : Int) + j) = gi ks (j : Int)) ∧ ArrP v (t ++ [putR cs ks r0 k]) ∧ wd (t ++ [putR cs ks r0 k]) = wd t ∧ ((mis v k (t ++ [putR cs ks r0 k])).length < Z.length ∧ ¬ m ∈ mis v k (t ++ [putR cs ks r0 k]))) := ⟨hcs, hat1, hat2, hAr, hwr, hfin⟩
            clear hrise hcs hks hno hat1 hat2 em hputc hputch hAr hfin hwr em2 er0 ezb h16 hkeep hdrop
            have gV := g.cellsV
            have lHH : H.length < H'.length := (List.getElem?_eq_some_iff.1 c3).1
            have hbd := hs3.bd
            simp (disch := (first | assumption | omega | (simp only [List.length_append, List.length_cons, List.length_nil]; omega))) only [↓wD,wU,Nat.reduceBEq,zx150,zx151,zx159,zx160,zx161,zx162,Nat.reduceAdd,Nat.reduceSub,Nat.reduceMul,Nat.reduceLeDiff,Nat.reduceLT,Nat.reduceEqDiff,Int.reduceAdd,Int.reduceSub,Int.reduceMul,Int.reduceNeg,Int.reduceLT,Int.reduceLE,Int.reduceEq,Int.reduceToNat,Int.cast_ofNat_Int,↓reduceIte, a1, a2, a3, a7, a9, a77, a78, a79, ld_of c3, hs3.L, h16e, hmv.L, hU, hr, hc, emu, gV]
            have hglow := g.low.weak (q := fun b => b < H'.length) fun b h => h.2
            have g0low := g0.low.weak (q := fun b => b < H'.length) fun b h => h.2
            have hmvl := hmv.low.weak (q := fun b => b < H'.length) fun b h => h.2
            have hrl : Sl (fun b => b < H.length) H' r t := hs3
            refine (list_ret (g0.app [.cells [mu]])).toFX fun y H4 x4 hy => ?_
            rw [List.take_of_length_le (by omega)] at hy
            have hy4 : Sl (fun b => H'.length + 1 ≤ b) H4 y r0 := hy.weak fun b h => by simpa using h
            have xx4 : Kx (fun _ => True) H' H4 := (Kx.app _ _ _).trans x4 fun _ _ _ => trivial
            have d4 : H4[H'.length]? = some (.cells [mu]) := x4.get trivial (by simp)
            have l4 := (List.getElem?_eq_some_iff.1 d4).1
            clear hy x4
            have eglow : Sl (fun b => b < H'.length) H4 mu m := hglow.kp (xx4.all _).kp
            simp (disch := (first | assumption | omega | (simp only [List.length_append, List.length_cons, List.length_nil]; omega))) only [↓wD,wU,Nat.reduceBEq,zx150,zx151,zx159,zx160,zx161,zx162,Nat.reduceAdd,Nat.reduceSub,Nat.reduceMul,Nat.reduceLeDiff,Nat.reduceLT,Nat.reduceEqDiff,Int.reduceAdd,Int.reduceSub,Int.reduceMul,Int.reduceNeg,Int.reduceLT,Int.reduceLE,Int.reduceEq,Int.reduceToNat,Int.cast_ofNat_Int,↓reduceIte, a1, a2, a3, a7]
            refine Wp.for k (fun j a Hn => a 1 = .i k ∧ a 3 = .p H.length 0 ∧ a 7 = mv ∧ a 18 = .p H'.length 0 ∧ a 19 = y ∧ a 213 = .i k ∧ a 214 = .i j ∧ Kx (fun b => b < H'.length + 1) H4 Hn ∧ Sl (fun b => H'.length + 1 ≤ b) Hn y (putR cs ks r0 j)) ?_ ?_
            · clear a1 a2 a3 a7 a9 a77 a78 a79 ih
              rintro j a Hn hj ⟨a1, a3, a7, a18, a19, a213, a214, hxn, hyn⟩ ihE
              simp (disch := (first | assumption | omega | (simp only [List.length_append, List.length_cons, List.length_nil]; omega))) only [↓wD,wU,Nat.reduceBEq,zx150,zx151,zx159,zx160,zx161,zx162,Nat.reduceAdd,Nat.reduceSub,Nat.reduceMul,Nat.reduceLeDiff,Nat.reduceLT,Nat.reduceEqDiff,Int.reduceAdd,Int.reduceSub,Int.reduceMul,Int.reduceNeg,Int.reduceLT,Int.reduceLE,Int.reduceEq,Int.reduceToNat,Int.cast_ofNat_Int,↓reduceIte, a1, a3, a7, a18, a19, a213, a214]
              refine condP_split (fun hltE => ?_) (fun hltE => ?_)
              · have hj' : j < k := by omega
                have e1 := hk9.2.1 j hj'
                have e2 := hk9.2.2.1 j hj'
                have b1 := hk9.1 _ (mem_gi (show j < cs.length by omega))
                have dn := hxn.get (by omega) d4
                have gn : Sl (fun b => b < H'.length) Hn mu m := eglow.kp (hxn.weak fun b _ h => by omega).kp
                have gnI := gn.I
                rw [glen] at gnI
                have hpl := putR_len (cs := cs) (ks := ks) (row := r0) (j := j)
                have hyI := hyn.iaddr (kk := .i64) (k := gi cs (j : Int)) b1.1 (by rw [hpl, hr0.1]; exact b1.2)
                change iaddrV 1 y _ = some (y.at 1 _) at hyI
                clear hpl
                simp (disch := (first | assumption | omega | (simp only [List.length_append, List.length_cons, List.length_nil]; omega))) only [↓wD,wU,Nat.reduceBEq,zx150,zx151,zx159,zx160,zx161,zx162,Nat.reduceAdd,Nat.reduceSub,Nat.reduceMul,Nat.reduceLeDiff,Nat.reduceLT,Nat.reduceEqDiff,Int.reduceAdd,Int.reduceSub,Int.reduceMul,Int.reduceNeg,Int.reduceLT,Int.reduceLE,Int.reduceEq,Int.reduceToNat,Int.cast_ofNat_Int,↓reduceIte, a1, a3, a7, a18, a19, a213, a214, ld_of dn, gnI, e1, e2, hyI]
                refine hyn.storeI (fun b h => by omega) b1.1 (by rw [putR_len, hr0.1]; exact b1.2) fun Hm hym hxm hlm => ?_
                have hxm' : Kx (fun b => b < H'.length + 1) H4 Hm := hxn.trans hxm fun b _ h e => by have := (hyn.blkp e).1; omega
                simp (disch := (first | assumption | omega | (simp only [List.length_append, List.length_cons, List.length_nil]; omega))) only [↓wD,wU,Nat.reduceBEq,zx150,zx151,zx159,zx160,zx161,zx162,Nat.reduceAdd,Nat.reduceSub,Nat.reduceMul,Nat.reduceLeDiff,Nat.reduceLT,Nat.reduceEqDiff,Int.reduceAdd,Int.reduceSub,Int.reduceMul,Int.reduceNeg,Int.reduceLT,Int.reduceLE,Int.reduceEq,Int.reduceToNat,Int.cast_ofNat_Int,↓reduceIte, a1, a3, a7, a18, a19, a213, a214]
                refine (ihE hj').go ?_
                simp (disch := (first | assumption | omega | (simp only [List.length_append, List.length_cons, List.length_nil]; omega))) only [↓wD,wU,Nat.reduceBEq,zx150,zx151,zx159,zx160,zx161,zx162,Nat.reduceAdd,Nat.reduceSub,Nat.reduceMul,Nat.reduceLeDiff,Nat.reduceLT,Nat.reduceEqDiff,Int.reduceAdd,Int.reduceSub,Int.reduceMul,Int.reduceNeg,Int.reduceLT,Int.reduceLE,Int.reduceEq,Int.reduceToNat,Int.cast_ofNat_Int,↓reduceIte, a1, a3, a7, a18, a19, a213, a214]
                exact ⟨hxm', hym⟩
              · obtain rfl : j = k := by omega
                obtain ⟨_, _, _, hAr, hwr, hlt, hnm⟩ := hk9
                have dn := hxn.get (by omega) d4
                have c3n := hxn.get (by omega) (xx4.get trivial c3)
                have hrn : Sl (fun b => b < H.length) Hn r t := (hrl.kp (xx4.all _).kp).kp (hxn.weak fun b _ h => by omega).kp
                have gn : Sl (fun b => b < H'.length) Hn mu m := eglow.kp (hxn.weak fun b _ h => by omega).kp
                have hmvn : Sl (fun b => H.length ≤ b ∧ b < H2.length) Hn mv Z := (hmv.kp (xx4.all _).kp).kp (hxn.weak fun b _ h => by have := (Sl.low hmv); have := h.2; have : H2.length ≤ H'.length := hx23; omega).kp
                simp (disch := (first | assumption | omega | (simp only [List.length_append, List.length_cons, List.length_nil]; omega))) only [↓wD,wU,Nat.reduceBEq,zx150,zx151,zx159,zx160,zx161,zx162,Nat.reduceAdd,Nat.reduceSub,Nat.reduceMul,Nat.reduceLeDiff,Nat.reduceLT,Nat.reduceEqDiff,Int.reduceAdd,Int.reduceSub,Int.reduceMul,Int.reduceNeg,Int.reduceLT,Int.reduceLE,Int.reduceEq,Int.reduceToNat,Int.cast_ofNat_Int,↓reduceIte, a1, a3, a7, a18, a19, a213, a214, ldn_of c3n]
                have hxl := hxn.1
                refine (of_retA hrn).toX fun w1 Ho xo hw => ?_
                obtain ⟨uo, rfl, ho⟩ := hw
                rw [cutA_ok hA] at ho
                have lo := xo.1
                have ho' : Acc Hn.length (fun b => Hn.length ≤ b) Ho uo t := (ho.acc (L := Hn.length) fun b h => h.elim (fun h => h.elim) id).mono (Kp.refl _ _) fun b h => h.elim (fun h => h.elim) id
                have hoV : uo.cells = [uo] ∧ uo.one = true := ho'.cellsV
                have hst : st H.length (Ho ++ [.cells [.i 0, .nils]]) Ho.length 0 [.i v, uo] = some (Ho ++ [Blk.cells [.i v, uo]]) := by
                  rw [st_of (cs := [.i 0, .nils]) (by simp) (by omega) (by simp)]
                  simp [wr]
                have cp : (Ho ++ [Blk.cells [.i v, uo]])[Ho.length]? = some (.cells [.i v, uo]) := get_last
                have xp : Kx (fun _ => True) Hn (Ho ++ [Blk.cells [.i v, uo]]) := xo.app' _
                have lp : (Ho ++ [Blk.cells [.i v, uo]]).length = Ho.length + 1 := by simp
                have hop : Acc Hn.length (fun b => Hn.length ≤ b ∧ b < Ho.length) (Ho ++ [Blk.cells [.i v, uo]]) uo t := by
                  rcases ho' with ⟨rfl, rfl⟩ | ⟨b, o, c, ks', rfl, hb, hk1, h1, h2, h3⟩
                  · exact Acc.nil
                  · refine .inr ⟨b, o, c, ks', rfl, hb, (Kx.app (fun _ => True) Ho _).get trivial hk1, h1, h2, fun i hi => ?_⟩
                    exact Rep.mono (Rep.low (h3 i hi)) (Kp.app _ _ _) fun b h => ⟨⟨h.1.1, h.2⟩, h.1.2⟩
                have hub : ∀ b, uo.blk = some b → b < Ho.length := fun b e => (ho'.blk_lt e).2
                obtain ⟨Hp, eHp⟩ : ∃ Hp, Ho ++ [Blk.cells [.i v, uo]] = Hp := ⟨_, rfl⟩
                rw [eHp] at hst cp xp hop lp
                clear eHp ho ho' xo
                have hyp : Sl (fun b => H'.length + 1 ≤ b ∧ b < Hn.length) Hp y (putR cs ks r0 j) := hyn.low.kp (xp.all _).kp
                have hypV := hyp.cellsV
                simp (disch := (first | assumption | omega | (simp only [List.length_append, List.length_cons, List.length_nil]; omega))) only [↓wD,wU,Nat.reduceBEq,zx150,zx151,zx159,zx160,zx161,zx162,Nat.reduceAdd,Nat.reduceSub,Nat.reduceMul,Nat.reduceLeDiff,Nat.reduceLT,Nat.reduceEqDiff,Int.reduceAdd,Int.reduceSub,Int.reduceMul,Int.reduceNeg,Int.reduceLT,Int.reduceLE,Int.reduceEq,Int.reduceToNat,Int.cast_ofNat_Int,↓reduceIte, a1, a3, a7, a18, a19, a213, a214, hoV, hst, ld_of cp, hypV]
                refine appX ((hop.mono (q := fun b => H'.length + 1 ≤ b ∧ b < Ho.length) (Kp.refl _ _) fun b h => by omega).pushL (by omega) (by omega) hyp (fun b hb => ⟨by omega, fun e => by have := (hop.blk_lt e).1; omega⟩) (by omega) fun u' Hs hu' _ hls hbs => fun xps => ?_)
                have aps : Kx (fun b => uo.blk ≠ some b) Hp Hs := ((Kx.app (fun b => uo.blk ≠ some b) Hp _).trans xps fun b _ h => h)
                have nO : uo.blk ≠ some Ho.length := fun e => by have := hub _ e; omega
                have cs' := aps.get nO cp
                have lps := aps.1
                have hu'V := hu'.cellsV
                have ns : ∀ b, u'.blk = some b → b ≠ Ho.length := fun b e => by rw [hbs] at e; simp only [Option.some.injEq] at e; omega
                have hu5 := hu'.kp (Kx.set Ho.length Hs (.cells [.i v, u'])).kp ns (fun b h => by omega)
                have cset : (Hs.set Ho.length (.cells [.i v, u']))[Ho.length]? = some (.cells [.i v, u']) := get_set cs'
                have dn' : (Hs.set Ho.length (.cells [.i v, u']))[H'.length]? = some (.cells [mu]) := by
                  rw [List.getElem?_set_ne (by omega)]
                  exact aps.get (fun e => by have := (hop.blk_lt e).1; omega) (xp.get trivial dn)
                have gs : Sl (fun b => b < H'.length) (Hs.set Ho.length (.cells [.i v, u'])) mu m := ((gn.kp (xp.all _).kp).kp (aps.weak fun b _ h e => by have := (hop.blk_lt e).1; omega).kp).kp (Kx.set _ _ _ |>.weak fun b _ h => by omega).kp
                have hmvs : Sl (fun b => H.length ≤ b ∧ b < H2.length) (Hs.set Ho.length (.cells [.i v, u'])) mv Z := ((hmvn.kp (xp.all _).kp).kp (aps.weak fun b _ h e => by have := (hop.blk_lt e).1; omega).kp).kp (Kx.set _ _ _ |>.weak fun b _ h => by omega).kp
                clear hbs ns
                simp (disch := (first | assumption | omega | (simp only [List.length_append, List.length_cons, List.length_nil]; omega))) only [↓wD,wU,Nat.reduceBEq,zx150,zx151,zx159,zx160,zx161,zx162,Nat.reduceAdd,Nat.reduceSub,Nat.reduceMul,Nat.reduceLeDiff,Nat.reduceLT,Nat.reduceEqDiff,Int.reduceAdd,Int.reduceSub,Int.reduceMul,Int.reduceNeg,Int.reduceLT,Int.reduceLE,Int.reduceEq,Int.reduceToNat,Int.cast_ofNat_Int,↓reduceIte, a1, a3, a7, a18, a19, a213, a214, hu'V, st_of cs', ldn_of cset]
                refine (missingX_ret hu5.sl hAr q1 q2 (by omega)).toX fun w1 Ht xt hw => ?_
                obtain ⟨xv, x2', rfl, hx1, hx2⟩ := rv2 hw
                obtain rfl := rvi hx2
                have hxs := rvs hx1
                have gt' := gs.kp (xt.all _).kp
                have dt := xt.get trivial dn'
                have hmvt := hmvs.kp (xt.all _).kp
                have hcf := containsFL_ret (f := 69) (us := []) (caps := [.p H'.length 0]) (P := fun z => decide (z = m)) hxs fun z _ w hw => mis1_ret hw gt' dt
                have hany : (zeros (allL v (t ++ [putR cs ks r0 j]) j)).any (fun z => decide (z = m)) = false := by
                  rw [← Bool.not_eq_true, List.any_eq_true]
                  rintro ⟨z, hz, hz2⟩
                  have : z = m := by simpa using hz2
                  subst this
                  exact hnm hz
                rw [hany] at hcf
                have hlt' : ((zeros (allL v (t ++ [putR cs ks r0 j]) j)).length : Int) < Z.length := by
                  have : (zeros (allL v (t ++ [putR cs ks r0 j]) j)).length < Z.length := hlt
                  omega
                clear hany hnm hlt
                simp (disch := (first | assumption | omega | (simp only [List.length_append, List.length_cons, List.length_nil]; omega))) only [↓wD,wU,Nat.reduceBEq,zx150,zx151,zx159,zx160,zx161,zx162,Nat.reduceAdd,Nat.reduceSub,Nat.reduceMul,Nat.reduceLeDiff,Nat.reduceLT,Nat.reduceEqDiff,Int.reduceAdd,Int.reduceSub,Int.reduceMul,Int.reduceNeg,Int.reduceLT,Int.reduceLE,Int.reduceEq,Int.reduceToNat,Int.cast_ofNat_Int,↓reduceIte, a1, a3, a7, a18, a19, a213, a214, hxs.L, hmvt.L, zx170 hlt', hcf.call, awake_ret.call]
            · simp (disch := (first | assumption | omega | (simp only [List.length_append, List.length_cons, List.length_nil]; omega))) only [↓wD,wU,Nat.reduceBEq,zx150,zx151,zx159,zx160,zx161,zx162,Nat.reduceAdd,Nat.reduceSub,Nat.reduceMul,Nat.reduceLeDiff,Nat.reduceLT,Nat.reduceEqDiff,Int.reduceAdd,Int.reduceSub,Int.reduceMul,Int.reduceNeg,Int.reduceLT,Int.reduceLE,Int.reduceEq,Int.reduceToNat,Int.cast_ofNat_Int,↓reduceIte, a1, a3, a7]
              exact ⟨Kx.refl _ _, hy4⟩
    · simp (disch := (first | assumption | omega | (simp only [List.length_append, List.length_cons, List.length_nil]; omega))) only [↓wD,wU,Nat.reduceBEq,zx150,zx151,zx159,zx160,zx161,zx162,Nat.reduceAdd,Nat.reduceSub,Nat.reduceMul,Nat.reduceLeDiff,Nat.reduceLT,Nat.reduceEqDiff,Int.reduceAdd,Int.reduceSub,Int.reduceMul,Int.reduceNeg,Int.reduceLT,Int.reduceLE,Int.reduceEq,Int.reduceToNat,Int.cast_ofNat_Int,↓reduceIte, *]
  · have hA3 : ¬ (ArrP v (cutA t) ∧ 1 ≤ k ∧ k ≤ 2 ∧ k ≤ wd (cutA t)) := fun hh => hA ⟨ArrP_cut.1 hh.1, by rw [cutA_ok (ArrP_cut.1 hh.1)] at hh; exact hh.2⟩
    clear hA
    simp (disch := (first | assumption | omega | (simp only [List.length_append, List.length_cons, List.length_nil]; omega))) only [↓wD,wU,Nat.reduceBEq,zx150,zx151,zx159,zx160,zx161,zx162,Nat.reduceAdd,Nat.reduceSub,Nat.reduceMul,Nat.reduceLeDiff,Nat.reduceLT,Nat.reduceEqDiff,Int.reduceAdd,Int.reduceSub,Int.reduceMul,Int.reduceNeg,Int.reduceLT,Int.reduceLE,Int.reduceEq,Int.reduceToNat,Int.cast_ofNat_Int,↓reduceIte, *, (missingX_err hu1 hA3).call, ldn_of c1]
    refine (of_ret hs1).toX fun w H2 x2 hw => ?_
    obtain ⟨u2, rfl, hu2⟩ := rv_si_elim hw
    by_cases hC : ArrP v (cutA t) ∧ 1 ≤ k ∧ k ≤ 3 ∧ k ≤ wd (cutA t)
    · obtain ⟨n, rfl, q1, q2, q3⟩ := strong_mono hC
      simp (disch := (first | assumption | omega | (simp only [List.length_append, List.length_cons, List.length_nil]; omega))) only [↓wD,wU,Nat.reduceBEq,zx150,zx151,zx159,zx160,zx161,zx162,Nat.reduceAdd,Nat.reduceSub,Nat.reduceMul,Nat.reduceLeDiff,Nat.reduceLT,Nat.reduceEqDiff,Int.reduceAdd,Int.reduceSub,Int.reduceMul,Int.reduceNeg,Int.reduceLT,Int.reduceLE,Int.reduceEq,Int.reduceToNat,Int.cast_ofNat_Int,↓reduceIte, *, (covers_ret hu2 hC.1 q1 q2 q3).call, awake_ret.call]
    · simp (disch := (first | assumption | omega | (simp only [List.length_append, List.length_cons, List.length_nil]; omega))) only [↓wD,wU,Nat.reduceBEq,zx150,zx151,zx159,zx160,zx161,zx162,Nat.reduceAdd,Nat.reduceSub,Nat.reduceMul,Nat.reduceLeDiff,Nat.reduceLT,Nat.reduceEqDiff,Int.reduceAdd,Int.reduceSub,Int.reduceMul,Int.reduceNeg,Int.reduceLT,Int.reduceLE,Int.reduceEq,Int.reduceToNat,Int.cast_ofNat_Int,↓reduceIte, *, (coversX_err hu2 hC).call, awake_ret.call]
end Go.Proofs.Ytalaadcbpjnglaa
