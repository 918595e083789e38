/- What the law needs: what its functions do, and the laws on lists behind it. No condition. -/
import Derived.Test.YtalaadcbpjnglaaPi
import Derived.Test.YtalaadcbpjnglaaBo
import Derived.KernelRfl
import Derived.WalkKit
import Derived.ProofKit
import Derived.OpenShut
import Derived.ShutString
import Derived.ChangeOld
import Derived.Below
import Derived.SizedLaws
import Derived.Carry
set_option linter.unusedSimpArgs false
set_option linter.unusedVariables false
namespace Go.Proofs.Ytalaadcbpjnglaa
open Go Go.AM Go.Proofs
theorem clone_ret {p : Nat → Prop} {H : Heap} {v : AV} {xs : List Int} (hx : Sl p H v xs) (hs : xs.length * 8 ≤ 1099511627776) : Ret E 82 [v] (fun _ => False) H xs := by
  refine Ret.ro rfl fn82 rfl ?_
  unfold f82A
  have main : ∀ {Q : AV × Heap → Prop}, (∀ v' H', Sl (fun b => H.length ≤ b) H' v' xs → Q (v', H')) → @optP _ (appendV H.length 1 8 (.s 1 H.length 0 0 (some 0)) v (H ++ [.cells []])) ⟨Q⟩ := fun {Q} go => by
    have ha : Acc H.length (fun _ => True) (H ++ [.cells []]) (.s 1 H.length 0 0 (some 0)) ([] : List Int) := Acc.fresh0 (Nat.le_refl _)
    refine ha.extend (q := fun b => b < H.length) (Nat.le_refl _) (by simp) ((hx.low.app [.cells []]).weak fun b h => h.2) (fun b hb => ⟨trivial, ?_⟩) (by simpa using hs) (by omega) fun v' H' h' _ => go _ _ ?_
    · intro e; simp only [AV.blk, Option.some.injEq] at e; omega
    · rw [List.nil_append] at h'
      rcases h' with h' | ⟨b, o, c, k, e, hb, hk, h1, h2, h3⟩
      · exact .inl h'
      · exact .inr ⟨b, o, c, k, e, hb, hk, h1, h2, h3⟩
  rcases hx with ⟨rfl, rfl⟩ | ⟨b, o, c, k, e, hb, hk, h1, h2, h3⟩
  · simp (disch := (first | assumption | omega | (simp only [List.length_append, List.length_cons, List.length_nil]; omega))) only [↓wD,wU,Nat.reduceBEq,zx150,zx151,zx159,zx160,zx161,zx162,Nat.reduceAdd,Nat.reduceSub,Nat.reduceMul,Nat.reduceLeDiff,Nat.reduceLT,Nat.reduceEqDiff,Int.reduceAdd,Int.reduceSub,Int.reduceMul,Int.reduceNeg,Int.reduceLT,Int.reduceLE,Int.reduceEq,Int.reduceToNat,Int.cast_ofNat_Int,↓reduceIte, *]
    exact Sl.nil
  · subst e
    simp (disch := (first | assumption | omega | (simp only [List.length_append, List.length_cons, List.length_nil]; omega))) only [↓wD,wU,Nat.reduceBEq,zx150,zx151,zx159,zx160,zx161,zx162,Nat.reduceAdd,Nat.reduceSub,Nat.reduceMul,Nat.reduceLeDiff,Nat.reduceLT,Nat.reduceEqDiff,Int.reduceAdd,Int.reduceSub,Int.reduceMul,Int.reduceNeg,Int.reduceLT,Int.reduceLE,Int.reduceEq,Int.reduceToNat,Int.cast_ofNat_Int,↓reduceIte, *]
    refine main fun v' H' h' => ?_
    simp (disch := (first | assumption | omega | (simp only [List.length_append, List.length_cons, List.length_nil]; omega))) only [↓wD,wU,Nat.reduceBEq,zx150,zx151,zx159,zx160,zx161,zx162,Nat.reduceAdd,Nat.reduceSub,Nat.reduceMul,Nat.reduceLeDiff,Nat.reduceLT,Nat.reduceEqDiff,Int.reduceAdd,Int.reduceSub,Int.reduceMul,Int.reduceNeg,Int.reduceLT,Int.reduceLE,Int.reduceEq,Int.reduceToNat,Int.cast_ofNat_Int,↓reduceIte, *]
    exact h'.weak fun _ h => .inr h
end Go.Proofs.Ytalaadcbpjnglaa
namespace Go.Proofs.Ytalaadcbpjnglaa
open Go Go.AM Go.Proofs
def ChR (v : Int) (r : List Int) : Prop := ∀ x ∈ r, 0 ≤ x ∧ x < v
instance (v : Int) (r : List Int) : Decidable (ChR v r) := by unfold ChR; infer_instance
def RowP (v : Int) (k : Nat) (r : List Int) : Prop := r.length = k ∧ 1 ≤ r.length ∧ r.length ≤ 8 ∧ ChR v r
instance (v : Int) (k : Nat) (r : List Int) : Decidable (RowP v k r) := by unfold RowP; infer_instance
def ArrP (v : Int) (t : List (List Int)) : Prop := 2 ≤ v ∧ v ≤ 4 ∧ 1 ≤ t.length ∧ t.length ≤ 16 ∧ ∀ r ∈ t, RowP v (gi t 0).length r
instance (v : Int) (t : List (List Int)) : Decidable (ArrP v t) := by unfold ArrP; infer_instance
/-- how many columns -/
def wd (t : List (List Int)) : Nat := (gi t 0).length
theorem ArrP.row {v : Int} {t : List (List Int)} (h : ArrP v t) {r : List Int} (hr : r ∈ t) : r.length = wd t ∧ ChR v r := ⟨(h.2.2.2.2 r hr).1, (h.2.2.2.2 r hr).2.2.2⟩
theorem ArrP.wd {v : Int} {t : List (List Int)} (h : ArrP v t) : 1 ≤ wd t ∧ wd t ≤ 8 := by
  have := h.2.2.2.2 (gi t 0) (gi_mem (by omega) (by have := h.2.2.1; omega))
  exact ⟨this.2.1, this.2.2.1⟩
theorem foldl_min_le {xs : List Int} : ∀ {m : Int}, xs.foldl min m ≤ m ∧ ∀ x ∈ xs, xs.foldl min m ≤ x := by
  induction xs with
  | nil => simp
  | cons x xs ih =>
    intro m
    have := ih (m := min m x)
    simp only [List.foldl_cons, List.mem_cons, forall_eq_or_imp]
    exact ⟨by omega, by omega, this.2⟩
theorem foldl_max_ge {xs : List Int} : ∀ {m : Int}, m ≤ xs.foldl max m ∧ ∀ x ∈ xs, x ≤ xs.foldl max m := by
  induction xs with
  | nil => simp
  | cons x xs ih =>
    intro m
    have := ih (m := max m x)
    simp only [List.foldl_cons, List.mem_cons, forall_eq_or_imp]
    exact ⟨by omega, by omega, this.2⟩
theorem foldl_min_mem {xs : List Int} : ∀ {m : Int}, xs.foldl min m = m ∨ xs.foldl min m ∈ xs := by
  induction xs with
  | nil => simp
  | cons x xs ih =>
    intro m
    simp only [List.foldl_cons, List.mem_cons]
    rcases ih (m := min m x) with h | h
    · rw [h]; rcases Int.le_total m x with h1 | h1
      · left; omega
      · right; left; omega
    · exact .inr (.inr h)
theorem foldl_max_mem {xs : List Int} : ∀ {m : Int}, xs.foldl max m = m ∨ xs.foldl max m ∈ xs := by
  induction xs with
  | nil => simp
  | cons x xs ih =>
    intro m
    simp only [List.foldl_cons, List.mem_cons]
    rcases ih (m := max m x) with h | h
    · rw [h]; rcases Int.le_total m x with h1 | h1
      · right; left; omega
      · left; omega
    · exact .inr (.inr h)
def minL (xs : List Int) : Int := (xs.drop 1).foldl min (gi xs 0)
def maxL (xs : List Int) : Int := (xs.drop 1).foldl max (gi xs 0)
theorem minL_spec {xs : List Int} (h : 1 ≤ xs.length) : minL xs ∈ xs ∧ ∀ x ∈ xs, minL xs ≤ x := by
  cases xs with
  | nil => simp at h
  | cons x xs =>
    simp only [minL, zx181, List.drop_succ_cons, List.drop_zero]
    have h1 := foldl_min_le (xs := xs) (m := x)
    refine ⟨?_, fun y hy => ?_⟩
    · rcases foldl_min_mem (xs := xs) (m := x) with h | h
      · rw [h]; simp
      · exact List.mem_cons_of_mem _ h
    · rcases List.mem_cons.1 hy with rfl | hy
      · exact h1.1
      · exact h1.2 y hy
theorem maxL_spec {xs : List Int} (h : 1 ≤ xs.length) : maxL xs ∈ xs ∧ ∀ x ∈ xs, x ≤ maxL xs := by
  cases xs with
  | nil => simp at h
  | cons x xs =>
    simp only [maxL, zx181, List.drop_succ_cons, List.drop_zero]
    have h1 := foldl_max_ge (xs := xs) (m := x)
    refine ⟨?_, fun y hy => ?_⟩
    · rcases foldl_max_mem (xs := xs) (m := x) with h | h
      · rw [h]; simp
      · exact List.mem_cons_of_mem _ h
    · rcases List.mem_cons.1 hy with rfl | hy
      · exact h1.1
      · exact h1.2 y hy
theorem take_drop1 {xs : List Int} {i : Nat} (h1 : 1 ≤ i) (h : i < xs.length) : (xs.take (i + 1)).drop 1 = (xs.take i).drop 1 ++ [gi xs i] := by
  rw [take_gi h, List.drop_append_of_le_length (by rw [List.length_take]; omega)]
theorem minL_take {xs : List Int} {i : Nat} (h1 : 1 ≤ i) (h : i < xs.length) : minL (xs.take (i + 1)) = min (minL (xs.take i)) (gi xs i) := by
  have e : ∀ j, 1 ≤ j → gi (xs.take j) 0 = gi xs 0 := fun j hj => by cases xs with | nil => simp at h | cons x r => cases j with | zero => omega | succ j => rfl
  unfold minL
  rw [take_drop1 h1 h, List.foldl_append, e _ h1, e _ (by omega)]; rfl
theorem maxL_take {xs : List Int} {i : Nat} (h1 : 1 ≤ i) (h : i < xs.length) : maxL (xs.take (i + 1)) = max (maxL (xs.take i)) (gi xs i) := by
  have e : ∀ j, 1 ≤ j → gi (xs.take j) 0 = gi xs 0 := fun j hj => by cases xs with | nil => simp at h | cons x r => cases j with | zero => omega | succ j => rfl
  unfold maxL
  rw [take_drop1 h1 h, List.foldl_append, e _ h1, e _ (by omega)]; rfl
theorem min_ret {p : Nat → Prop} {H : Heap} {v : AV} {xs : List Int} (hx : Sl p H v xs) (h : 1 ≤ xs.length) : RetP E 98 [v] H (.i (minL xs)) := by
  refine RetP.ro rfl fn98 rfl rfl ?_
  unfold f98A
  have hb := hx.bound
  simp (disch := (first | assumption | omega | (simp only [List.length_append, List.length_cons, List.length_nil]; omega))) only [↓wD,wU,Nat.reduceBEq,zx150,zx151,zx159,zx160,zx161,zx162,Nat.reduceAdd,Nat.reduceSub,Nat.reduceMul,Nat.reduceLeDiff,Nat.reduceLT,Nat.reduceEqDiff,Int.reduceAdd,Int.reduceSub,Int.reduceMul,Int.reduceNeg,Int.reduceLT,Int.reduceLE,Int.reduceEq,Int.reduceToNat,Int.cast_ofNat_Int,↓reduceIte, *, hx.I]
  refine Wp.for (xs.length - 1) (fun i a H' => H' = H ∧ a 0 = v ∧ a 4 = .i (i + 1) ∧ a 3 = .i (minL (xs.take (i + 1)))) ?_ ?_
  · rintro i a H' hi ⟨rfl, a0, a4, a3⟩ ih
    simp (disch := (first | assumption | omega | (simp only [List.length_append, List.length_cons, List.length_nil]; omega))) only [↓wD,wU,Nat.reduceBEq,zx150,zx151,zx159,zx160,zx161,zx162,Nat.reduceAdd,Nat.reduceSub,Nat.reduceMul,Nat.reduceLeDiff,Nat.reduceLT,Nat.reduceEqDiff,Int.reduceAdd,Int.reduceSub,Int.reduceMul,Int.reduceNeg,Int.reduceLT,Int.reduceLE,Int.reduceEq,Int.reduceToNat,Int.cast_ofNat_Int,↓reduceIte, *, hx.I]
    refine condP_split (fun hlt => ?_) (fun hlt => ?_)
    · have hi' : i < xs.length - 1 := by omega
      have e := minL_take (xs := xs) (i := i + 1) (by omega) (by omega)
      simp only [Int.natCast_add, Int.natCast_one] at e
      simp (disch := (first | assumption | omega | (simp only [List.length_append, List.length_cons, List.length_nil]; omega))) only [↓wD,wU,Nat.reduceBEq,zx150,zx151,zx159,zx160,zx161,zx162,Nat.reduceAdd,Nat.reduceSub,Nat.reduceMul,Nat.reduceLeDiff,Nat.reduceLT,Nat.reduceEqDiff,Int.reduceAdd,Int.reduceSub,Int.reduceMul,Int.reduceNeg,Int.reduceLT,Int.reduceLE,Int.reduceEq,Int.reduceToNat,Int.cast_ofNat_Int,↓reduceIte, *, hx.I]
      refine (ih hi').go ⟨rfl, ?_⟩
      simp (disch := (first | assumption | omega | (simp only [List.length_append, List.length_cons, List.length_nil]; omega))) only [↓wD,wU,Nat.reduceBEq,zx150,zx151,zx159,zx160,zx161,zx162,Nat.reduceAdd,Nat.reduceSub,Nat.reduceMul,Nat.reduceLeDiff,Nat.reduceLT,Nat.reduceEqDiff,Int.reduceAdd,Int.reduceSub,Int.reduceMul,Int.reduceNeg,Int.reduceLT,Int.reduceLE,Int.reduceEq,Int.reduceToNat,Int.cast_ofNat_Int,↓reduceIte, *]
    · simp (disch := (first | assumption | omega | (simp only [List.length_append, List.length_cons, List.length_nil]; omega))) only [↓wD,wU,Nat.reduceBEq,zx150,zx151,zx159,zx160,zx161,zx162,Nat.reduceAdd,Nat.reduceSub,Nat.reduceMul,Nat.reduceLeDiff,Nat.reduceLT,Nat.reduceEqDiff,Int.reduceAdd,Int.reduceSub,Int.reduceMul,Int.reduceNeg,Int.reduceLT,Int.reduceLE,Int.reduceEq,Int.reduceToNat,Int.cast_ofNat_Int,↓reduceIte, *]
      rw [List.take_of_length_le (by omega)]
  · (simp (disch := (first | assumption | omega | (simp only [List.length_append, List.length_cons, List.length_nil]; omega))) only [↓wD,wU,Nat.reduceBEq,zx150,zx151,zx159,zx160,zx161,zx162,Nat.reduceAdd,Nat.reduceSub,Nat.reduceMul,Nat.reduceLeDiff,Nat.reduceLT,Nat.reduceEqDiff,Int.reduceAdd,Int.reduceSub,Int.reduceMul,Int.reduceNeg,Int.reduceLT,Int.reduceLE,Int.reduceEq,Int.reduceToNat,Int.cast_ofNat_Int,↓reduceIte, *]) <;> first | rfl | skip
    unfold minL
    cases xs with
    | nil => simp at h
    | cons x r => simp [zx181]
theorem max_ret {p : Nat → Prop} {H : Heap} {v : AV} {xs : List Int} (hx : Sl p H v xs) (h : 1 ≤ xs.length) : RetP E 99 [v] H (.i (maxL xs)) := by
  refine RetP.ro rfl fn99 rfl rfl ?_
  unfold f99A
  have hb := hx.bound
  simp (disch := (first | assumption | omega | (simp only [List.length_append, List.length_cons, List.length_nil]; omega))) only [↓wD,wU,Nat.reduceBEq,zx150,zx151,zx159,zx160,zx161,zx162,Nat.reduceAdd,Nat.reduceSub,Nat.reduceMul,Nat.reduceLeDiff,Nat.reduceLT,Nat.reduceEqDiff,Int.reduceAdd,Int.reduceSub,Int.reduceMul,Int.reduceNeg,Int.reduceLT,Int.reduceLE,Int.reduceEq,Int.reduceToNat,Int.cast_ofNat_Int,↓reduceIte, *, hx.I]
  refine Wp.for (xs.length - 1) (fun i a H' => H' = H ∧ a 0 = v ∧ a 4 = .i (i + 1) ∧ a 3 = .i (maxL (xs.take (i + 1)))) ?_ ?_
  · rintro i a H' hi ⟨rfl, a0, a4, a3⟩ ih
    simp (disch := (first | assumption | omega | (simp only [List.length_append, List.length_cons, List.length_nil]; omega))) only [↓wD,wU,Nat.reduceBEq,zx150,zx151,zx159,zx160,zx161,zx162,Nat.reduceAdd,Nat.reduceSub,Nat.reduceMul,Nat.reduceLeDiff,Nat.reduceLT,Nat.reduceEqDiff,Int.reduceAdd,Int.reduceSub,Int.reduceMul,Int.reduceNeg,Int.reduceLT,Int.reduceLE,Int.reduceEq,Int.reduceToNat,Int.cast_ofNat_Int,↓reduceIte, *, hx.I]
    refine condP_split (fun hlt => ?_) (fun hlt => ?_)
    · have hi' : i < xs.length - 1 := by omega
      have e := maxL_take (xs := xs) (i := i + 1) (by omega) (by omega)
      simp only [Int.natCast_add, Int.natCast_one] at e
      simp (disch := (first | assumption | omega | (simp only [List.length_append, List.length_cons, List.length_nil]; omega))) only [↓wD,wU,Nat.reduceBEq,zx150,zx151,zx159,zx160,zx161,zx162,Nat.reduceAdd,Nat.reduceSub,Nat.reduceMul,Nat.reduceLeDiff,Nat.reduceLT,Nat.reduceEqDiff,Int.reduceAdd,Int.reduceSub,Int.reduceMul,Int.reduceNeg,Int.reduceLT,Int.reduceLE,Int.reduceEq,Int.reduceToNat,Int.cast_ofNat_Int,↓reduceIte, *, hx.I]
      refine (ih hi').go ⟨rfl, ?_⟩
      simp (disch := (first | assumption | omega | (simp only [List.length_append, List.length_cons, List.length_nil]; omega))) only [↓wD,wU,Nat.reduceBEq,zx150,zx151,zx159,zx160,zx161,zx162,Nat.reduceAdd,Nat.reduceSub,Nat.reduceMul,Nat.reduceLeDiff,Nat.reduceLT,Nat.reduceEqDiff,Int.reduceAdd,Int.reduceSub,Int.reduceMul,Int.reduceNeg,Int.reduceLT,Int.reduceLE,Int.reduceEq,Int.reduceToNat,Int.cast_ofNat_Int,↓reduceIte, *]
    · simp (disch := (first | assumption | omega | (simp only [List.length_append, List.length_cons, List.length_nil]; omega))) only [↓wD,wU,Nat.reduceBEq,zx150,zx151,zx159,zx160,zx161,zx162,Nat.reduceAdd,Nat.reduceSub,Nat.reduceMul,Nat.reduceLeDiff,Nat.reduceLT,Nat.reduceEqDiff,Int.reduceAdd,Int.reduceSub,Int.reduceMul,Int.reduceNeg,Int.reduceLT,Int.reduceLE,Int.reduceEq,Int.reduceToNat,Int.cast_ofNat_Int,↓reduceIte, *]
      rw [List.take_of_length_le (by omega)]
  · (simp (disch := (first | assumption | omega | (simp only [List.length_append, List.length_cons, List.length_nil]; omega))) only [↓wD,wU,Nat.reduceBEq,zx150,zx151,zx159,zx160,zx161,zx162,Nat.reduceAdd,Nat.reduceSub,Nat.reduceMul,Nat.reduceLeDiff,Nat.reduceLT,Nat.reduceEqDiff,Int.reduceAdd,Int.reduceSub,Int.reduceMul,Int.reduceNeg,Int.reduceLT,Int.reduceLE,Int.reduceEq,Int.reduceToNat,Int.cast_ofNat_Int,↓reduceIte, *]) <;> first | rfl | skip
    unfold maxL
    cases xs with
    | nil => simp at h
    | cons x r => simp [zx181]
end Go.Proofs.Ytalaadcbpjnglaa
namespace Go.Proofs.Ytalaadcbpjnglaa
open Go Go.AM Go.Proofs
theorem chr_min {v : Int} {r : List Int} (h : 1 ≤ r.length) (h1 : 0 ≤ minL r) (h2 : maxL r < v) : ChR v r := fun x hx =>
  ⟨Int.le_trans h1 ((minL_spec h).2 x hx), Int.lt_of_le_of_lt ((maxL_spec h).2 x hx) h2⟩
theorem chr_of {v : Int} {r : List Int} (h : 1 ≤ r.length) (hc : ChR v r) : 0 ≤ minL r ∧ maxL r < v := ⟨(hc _ (minL_spec h).1).1, (hc _ (maxL_spec h).1).2⟩
theorem valid_ret {p : Nat → Prop} {H : Heap} {rows : AV} {v : Int} {t : List (List Int)} (ht : Sl p H rows t) : RetP E 74 [.ag [.i v, rows]] H (.b (decide (ArrP v t))) := by
  refine RetP.ro rfl fn74 rfl rfl ?_
  unfold f74A
  have hb := ht.bound
  by_cases h0 : 2 ≤ v ∧ v ≤ 4 ∧ 1 ≤ t.length ∧ t.length ≤ 16
  · obtain ⟨v1, v2, t1, t2⟩ := h0
    simp (disch := (first | assumption | omega | (simp only [List.length_append, List.length_cons, List.length_nil]; omega))) only [↓wD,wU,Nat.reduceBEq,zx150,zx151,zx159,zx160,zx161,zx162,Nat.reduceAdd,Nat.reduceSub,Nat.reduceMul,Nat.reduceLeDiff,Nat.reduceLT,Nat.reduceEqDiff,Int.reduceAdd,Int.reduceSub,Int.reduceMul,Int.reduceNeg,Int.reduceLT,Int.reduceLE,Int.reduceEq,Int.reduceToNat,Int.cast_ofNat_Int,↓reduceIte, *, ht.L]
    have k1 := ht.app [.cells [.i v, rows]]
    refine Wp.for t.length (fun i a H' => H' = H ++ [.cells [.i v, rows]] ∧ a 1 = .p H.length 0 ∧ a 26 = rows ∧ a 27 = .i t.length ∧ a 28 = .i i ∧ ∀ r ∈ t.take i, RowP v (gi t 0).length r) ?_ ?_
    · rintro i a H' hi ⟨rfl, a1, a26, a27, a28, hh⟩ ih
      simp (disch := (first | assumption | omega | (simp only [List.length_append, List.length_cons, List.length_nil]; omega))) only [↓wD,wU,Nat.reduceBEq,zx150,zx151,zx159,zx160,zx161,zx162,Nat.reduceAdd,Nat.reduceSub,Nat.reduceMul,Nat.reduceLeDiff,Nat.reduceLT,Nat.reduceEqDiff,Int.reduceAdd,Int.reduceSub,Int.reduceMul,Int.reduceNeg,Int.reduceLT,Int.reduceLE,Int.reduceEq,Int.reduceToNat,Int.cast_ofNat_Int,↓reduceIte, *]
      refine condP_split (fun hlt => ?_) (fun hlt => ?_)
      · have hi' : i < t.length := by omega
        have g1 := k1.get (k := (i : Int)) (by omega) (by omega)
        have g0 := k1.get (k := 0) (by omega) (by omega)
        have gb := g1.bound
        have gb0 := g0.bound
        have bad : ¬ RowP v (gi t 0).length (gi t i) → AV.b false = AV.b (decide (ArrP v t)) := fun h => avb_f fun hh => h (hh.2.2.2.2 _ (mem_gi hi'))
        by_cases q1 : 1 ≤ (gi t i).length
        · by_cases q2 : (gi t i).length ≤ 8
          · by_cases q3 : (gi t i).length = (gi t 0).length
            · by_cases q4 : 0 ≤ minL (gi t i)
              · by_cases q5 : maxL (gi t i) < v
                · have q3' : ((gi t i).length : Int) = (gi t 0).length := by omega
                  simp (disch := (first | assumption | omega | (simp only [List.length_append, List.length_cons, List.length_nil]; omega))) only [↓wD,wU,Nat.reduceBEq,zx150,zx151,zx159,zx160,zx161,zx162,Nat.reduceAdd,Nat.reduceSub,Nat.reduceMul,Nat.reduceLeDiff,Nat.reduceLT,Nat.reduceEqDiff,Int.reduceAdd,Int.reduceSub,Int.reduceMul,Int.reduceNeg,Int.reduceLT,Int.reduceLE,Int.reduceEq,Int.reduceToNat,Int.cast_ofNat_Int,↓reduceIte, *, k1.L, g1.I, g0.I, (min_ret g1 q1).call, (max_ret g1 q1).call]
                  refine (ih hi').go ⟨rfl, ?_⟩
                  simp (disch := (first | assumption | omega | (simp only [List.length_append, List.length_cons, List.length_nil]; omega))) only [↓wD,wU,Nat.reduceBEq,zx150,zx151,zx159,zx160,zx161,zx162,Nat.reduceAdd,Nat.reduceSub,Nat.reduceMul,Nat.reduceLeDiff,Nat.reduceLT,Nat.reduceEqDiff,Int.reduceAdd,Int.reduceSub,Int.reduceMul,Int.reduceNeg,Int.reduceLT,Int.reduceLE,Int.reduceEq,Int.reduceToNat,Int.cast_ofNat_Int,↓reduceIte, *]
                  exact mem_take_gi hh hi' ⟨q3, q1, q2, chr_min q1 q4 q5⟩
                · have q3' : ((gi t i).length : Int) = (gi t 0).length := by omega
                  simp (disch := (first | assumption | omega | (simp only [List.length_append, List.length_cons, List.length_nil]; omega))) only [↓wD,wU,Nat.reduceBEq,zx150,zx151,zx159,zx160,zx161,zx162,Nat.reduceAdd,Nat.reduceSub,Nat.reduceMul,Nat.reduceLeDiff,Nat.reduceLT,Nat.reduceEqDiff,Int.reduceAdd,Int.reduceSub,Int.reduceMul,Int.reduceNeg,Int.reduceLT,Int.reduceLE,Int.reduceEq,Int.reduceToNat,Int.cast_ofNat_Int,↓reduceIte, *, k1.L, g1.I, g0.I, (min_ret g1 q1).call, (max_ret g1 q1).call]
                  exact bad fun h => q5 (chr_of q1 h.2.2.2).2
              · have q3' : ((gi t i).length : Int) = (gi t 0).length := by omega
                simp (disch := (first | assumption | omega | (simp only [List.length_append, List.length_cons, List.length_nil]; omega))) only [↓wD,wU,Nat.reduceBEq,zx150,zx151,zx159,zx160,zx161,zx162,Nat.reduceAdd,Nat.reduceSub,Nat.reduceMul,Nat.reduceLeDiff,Nat.reduceLT,Nat.reduceEqDiff,Int.reduceAdd,Int.reduceSub,Int.reduceMul,Int.reduceNeg,Int.reduceLT,Int.reduceLE,Int.reduceEq,Int.reduceToNat,Int.cast_ofNat_Int,↓reduceIte, *, k1.L, g1.I, g0.I, (min_ret g1 q1).call, (max_ret g1 q1).call]
                exact bad fun h => q4 (chr_of q1 h.2.2.2).1
            · have q3' : ¬ ((gi t i).length : Int) = (gi t 0).length := by omega
              simp (disch := (first | assumption | omega | (simp only [List.length_append, List.length_cons, List.length_nil]; omega))) only [↓wD,wU,Nat.reduceBEq,zx150,zx151,zx159,zx160,zx161,zx162,Nat.reduceAdd,Nat.reduceSub,Nat.reduceMul,Nat.reduceLeDiff,Nat.reduceLT,Nat.reduceEqDiff,Int.reduceAdd,Int.reduceSub,Int.reduceMul,Int.reduceNeg,Int.reduceLT,Int.reduceLE,Int.reduceEq,Int.reduceToNat,Int.cast_ofNat_Int,↓reduceIte, *, k1.L, g1.I, g0.I]
              exact bad fun h => q3 h.1
          · simp (disch := (first | assumption | omega | (simp only [List.length_append, List.length_cons, List.length_nil]; omega))) only [↓wD,wU,Nat.reduceBEq,zx150,zx151,zx159,zx160,zx161,zx162,Nat.reduceAdd,Nat.reduceSub,Nat.reduceMul,Nat.reduceLeDiff,Nat.reduceLT,Nat.reduceEqDiff,Int.reduceAdd,Int.reduceSub,Int.reduceMul,Int.reduceNeg,Int.reduceLT,Int.reduceLE,Int.reduceEq,Int.reduceToNat,Int.cast_ofNat_Int,↓reduceIte, *, k1.L, g1.I, g0.I]
            exact bad fun h => q2 h.2.2.1
        · simp (disch := (first | assumption | omega | (simp only [List.length_append, List.length_cons, List.length_nil]; omega))) only [↓wD,wU,Nat.reduceBEq,zx150,zx151,zx159,zx160,zx161,zx162,Nat.reduceAdd,Nat.reduceSub,Nat.reduceMul,Nat.reduceLeDiff,Nat.reduceLT,Nat.reduceEqDiff,Int.reduceAdd,Int.reduceSub,Int.reduceMul,Int.reduceNeg,Int.reduceLT,Int.reduceLE,Int.reduceEq,Int.reduceToNat,Int.cast_ofNat_Int,↓reduceIte, *, k1.L, g1.I, g0.I]
          exact bad fun h => q1 h.2.1
      · simp (disch := (first | assumption | omega | (simp only [List.length_append, List.length_cons, List.length_nil]; omega))) only [↓wD,wU,Nat.reduceBEq,zx150,zx151,zx159,zx160,zx161,zx162,Nat.reduceAdd,Nat.reduceSub,Nat.reduceMul,Nat.reduceLeDiff,Nat.reduceLT,Nat.reduceEqDiff,Int.reduceAdd,Int.reduceSub,Int.reduceMul,Int.reduceNeg,Int.reduceLT,Int.reduceLE,Int.reduceEq,Int.reduceToNat,Int.cast_ofNat_Int,↓reduceIte, *]
        exact avb_t ⟨v1, v2, t1, t2, mem_take_all hh (by omega)⟩
    · (simp (disch := (first | assumption | omega | (simp only [List.length_append, List.length_cons, List.length_nil]; omega))) only [↓wD,wU,Nat.reduceBEq,zx150,zx151,zx159,zx160,zx161,zx162,Nat.reduceAdd,Nat.reduceSub,Nat.reduceMul,Nat.reduceLeDiff,Nat.reduceLT,Nat.reduceEqDiff,Int.reduceAdd,Int.reduceSub,Int.reduceMul,Int.reduceNeg,Int.reduceLT,Int.reduceLE,Int.reduceEq,Int.reduceToNat,Int.cast_ofNat_Int,↓reduceIte, *]) <;> simp
  · have bad : ¬ ArrP v t := fun h => h0 ⟨h.1, h.2.1, h.2.2.1, h.2.2.2.1⟩
    by_cases h1 : v < 2
    · clear h0
      simp (disch := (first | assumption | omega | (simp only [List.length_append, List.length_cons, List.length_nil]; omega))) only [↓wD,wU,Nat.reduceBEq,zx150,zx151,zx159,zx160,zx161,zx162,Nat.reduceAdd,Nat.reduceSub,Nat.reduceMul,Nat.reduceLeDiff,Nat.reduceLT,Nat.reduceEqDiff,Int.reduceAdd,Int.reduceSub,Int.reduceMul,Int.reduceNeg,Int.reduceLT,Int.reduceLE,Int.reduceEq,Int.reduceToNat,Int.cast_ofNat_Int,↓reduceIte, *, ht.L]
    by_cases h2 : 4 < v
    · clear h0
      simp (disch := (first | assumption | omega | (simp only [List.length_append, List.length_cons, List.length_nil]; omega))) only [↓wD,wU,Nat.reduceBEq,zx150,zx151,zx159,zx160,zx161,zx162,Nat.reduceAdd,Nat.reduceSub,Nat.reduceMul,Nat.reduceLeDiff,Nat.reduceLT,Nat.reduceEqDiff,Int.reduceAdd,Int.reduceSub,Int.reduceMul,Int.reduceNeg,Int.reduceLT,Int.reduceLE,Int.reduceEq,Int.reduceToNat,Int.cast_ofNat_Int,↓reduceIte, *, ht.L]
    by_cases h3 : t.length < 1
    · clear h0
      simp (disch := (first | assumption | omega | (simp only [List.length_append, List.length_cons, List.length_nil]; omega))) only [↓wD,wU,Nat.reduceBEq,zx150,zx151,zx159,zx160,zx161,zx162,Nat.reduceAdd,Nat.reduceSub,Nat.reduceMul,Nat.reduceLeDiff,Nat.reduceLT,Nat.reduceEqDiff,Int.reduceAdd,Int.reduceSub,Int.reduceMul,Int.reduceNeg,Int.reduceLT,Int.reduceLE,Int.reduceEq,Int.reduceToNat,Int.cast_ofNat_Int,↓reduceIte, *, ht.L]
    · have h4 : 16 < t.length := by omega
      clear h0
      simp (disch := (first | assumption | omega | (simp only [List.length_append, List.length_cons, List.length_nil]; omega))) only [↓wD,wU,Nat.reduceBEq,zx150,zx151,zx159,zx160,zx161,zx162,Nat.reduceAdd,Nat.reduceSub,Nat.reduceMul,Nat.reduceLeDiff,Nat.reduceLT,Nat.reduceEqDiff,Int.reduceAdd,Int.reduceSub,Int.reduceMul,Int.reduceNeg,Int.reduceLT,Int.reduceLE,Int.reduceEq,Int.reduceToNat,Int.cast_ofNat_Int,↓reduceIte, *, ht.L]
theorem columns_ret {p : Nat → Prop} {H : Heap} {rows : AV} {v : Int} {t : List (List Int)} (ht : Sl p H rows t) (h : 1 ≤ t.length) : RetP E 75 [.ag [.i v, rows]] H (.i (wd t)) := by
  refine RetP.ro rfl fn75 rfl rfl ?_
  unfold f75A
  have k1 := ht.app [.cells [.i v, rows]]
  have g0 := k1.get (k := 0) (by omega) (by omega)
  simp (disch := (first | assumption | omega | (simp only [List.length_append, List.length_cons, List.length_nil]; omega))) only [↓wD,wU,Nat.reduceBEq,zx150,zx151,zx159,zx160,zx161,zx162,Nat.reduceAdd,Nat.reduceSub,Nat.reduceMul,Nat.reduceLeDiff,Nat.reduceLT,Nat.reduceEqDiff,Int.reduceAdd,Int.reduceSub,Int.reduceMul,Int.reduceNeg,Int.reduceLT,Int.reduceLE,Int.reduceEq,Int.reduceToNat,Int.cast_ofNat_Int,↓reduceIte, *, k1.L, g0.I]
  rfl
theorem strong_ret {p : Nat → Prop} {H : Heap} {rows : AV} {v k m : Int} {t : List (List Int)} (ht : Sl p H rows t) : RetP E 86 [.ag [.i v, rows], .i k, .i m] H (.b (decide (ArrP v t ∧ 1 ≤ k ∧ k ≤ m ∧ k ≤ wd t))) := by
  refine RetP.ro rfl fn86 rfl rfl ?_
  unfold f86A
  have k1 := ht.app [.cells [.i v, rows]]
  by_cases h : ArrP v t
  · (repeat' (first | refine condP_split (fun _ => ?_) (fun _ => ?_) | refine guardP_split (fun _ => ?_) (fun _ => ?_) | refine guardP_splitF (fun _ => ?_) (fun _ => ?_) | (simp (disch := (first | assumption | omega | (simp only [List.length_append, List.length_cons, List.length_nil]; omega))) only [↓wD,wU,Nat.reduceBEq,zx150,zx151,zx159,zx160,zx161,zx162,Nat.reduceAdd,Nat.reduceSub,Nat.reduceMul,Nat.reduceLeDiff,Nat.reduceLT,Nat.reduceEqDiff,Int.reduceAdd,Int.reduceSub,Int.reduceMul,Int.reduceNeg,Int.reduceLT,Int.reduceLE,Int.reduceEq,Int.reduceToNat,Int.cast_ofNat_Int,↓reduceIte, *, false_and, and_false, ht.L, (valid_ret k1).call, (columns_ret k1 h.2.2.1).call]))) <;> simp_all
  · (repeat' (first | refine condP_split (fun _ => ?_) (fun _ => ?_) | refine guardP_split (fun _ => ?_) (fun _ => ?_) | refine guardP_splitF (fun _ => ?_) (fun _ => ?_) | (simp (disch := (first | assumption | omega | (simp only [List.length_append, List.length_cons, List.length_nil]; omega))) only [↓wD,wU,Nat.reduceBEq,zx150,zx151,zx159,zx160,zx161,zx162,Nat.reduceAdd,Nat.reduceSub,Nat.reduceMul,Nat.reduceLeDiff,Nat.reduceLT,Nat.reduceEqDiff,Int.reduceAdd,Int.reduceSub,Int.reduceMul,Int.reduceNeg,Int.reduceLT,Int.reduceLE,Int.reduceEq,Int.reduceToNat,Int.cast_ofNat_Int,↓reduceIte, *, false_and, and_false, ht.L, (valid_ret k1).call]))) <;> simp_all
theorem rvalid_ret {p : Nat → Prop} {H : Heap} {rows : AV} {v : Int} {t : List (List Int)} (ht : Sl p H rows t) : RetP E 38 [.ag [.i v, rows]] H (.b (decide (ArrP v t))) := by
  refine RetP.ro rfl fn38 rfl rfl ?_
  unfold f38A
  have hb := ht.bound
  by_cases h0 : 2 ≤ v ∧ v ≤ 4 ∧ 1 ≤ t.length ∧ t.length ≤ 16
  · obtain ⟨v1, v2, t1, t2⟩ := h0
    simp (disch := (first | assumption | omega | (simp only [List.length_append, List.length_cons, List.length_nil]; omega))) only [↓wD,wU,Nat.reduceBEq,zx150,zx151,zx159,zx160,zx161,zx162,Nat.reduceAdd,Nat.reduceSub,Nat.reduceMul,Nat.reduceLeDiff,Nat.reduceLT,Nat.reduceEqDiff,Int.reduceAdd,Int.reduceSub,Int.reduceMul,Int.reduceNeg,Int.reduceLT,Int.reduceLE,Int.reduceEq,Int.reduceToNat,Int.cast_ofNat_Int,↓reduceIte, *, ht.L]
    have k1 := ht.app [.cells [.i v, rows]]
    refine Wp.for t.length (fun i a H' => H' = H ++ [.cells [.i v, rows]] ∧ a 1 = .p H.length 0 ∧ a 28 = rows ∧ a 29 = .i t.length ∧ a 30 = .i i ∧ ∀ r ∈ t.take i, RowP v (gi t 0).length r) ?_ ?_
    · rintro i a H' hi ⟨rfl, a1, a28, a29, a30, hh⟩ ih
      simp (disch := (first | assumption | omega | (simp only [List.length_append, List.length_cons, List.length_nil]; omega))) only [↓wD,wU,Nat.reduceBEq,zx150,zx151,zx159,zx160,zx161,zx162,Nat.reduceAdd,Nat.reduceSub,Nat.reduceMul,Nat.reduceLeDiff,Nat.reduceLT,Nat.reduceEqDiff,Int.reduceAdd,Int.reduceSub,Int.reduceMul,Int.reduceNeg,Int.reduceLT,Int.reduceLE,Int.reduceEq,Int.reduceToNat,Int.cast_ofNat_Int,↓reduceIte, *]
      refine condP_split (fun hlt => ?_) (fun hlt => ?_)
      · have hi' : i < t.length := by omega
        have g1 := k1.get (k := (i : Int)) (by omega) (by omega)
        have g0 := k1.get (k := 0) (by omega) (by omega)
        have gb := g1.bound
        have gb0 := g0.bound
        have bad : ¬ RowP v (gi t 0).length (gi t i) → AV.b false = AV.b (decide (ArrP v t)) := fun h => avb_f fun hh => h (hh.2.2.2.2 _ (mem_gi hi'))
        by_cases q3 : (gi t i).length = (gi t 0).length
        · have q3' : ((gi t i).length : Int) = (gi t 0).length := by omega
          by_cases q1 : 1 ≤ (gi t i).length
          · by_cases q2 : (gi t i).length ≤ 8
            · simp (disch := (first | assumption | omega | (simp only [List.length_append, List.length_cons, List.length_nil]; omega))) only [↓wD,wU,Nat.reduceBEq,zx150,zx151,zx159,zx160,zx161,zx162,Nat.reduceAdd,Nat.reduceSub,Nat.reduceMul,Nat.reduceLeDiff,Nat.reduceLT,Nat.reduceEqDiff,Int.reduceAdd,Int.reduceSub,Int.reduceMul,Int.reduceNeg,Int.reduceLT,Int.reduceLE,Int.reduceEq,Int.reduceToNat,Int.cast_ofNat_Int,↓reduceIte, *, k1.L, g1.I, g0.I]
              refine Wp.for (gi t i).length (fun j a H' => H' = H ++ [.cells [.i v, rows]] ∧ a 1 = .p H.length 0 ∧ a 28 = rows ∧ a 29 = .i t.length ∧ a 30 = .i i ∧ a 52 = rows.get (H ++ [.cells [.i v, rows]]) i ∧ (∃ n : Int, a 53 = .i n ∧ n ≤ (gi t i).length ∧ (gi t i).length ≤ n) ∧ a 54 = .i j ∧ ChR v ((gi t i).take j)) ?_ ?_
              · rintro j a H' hj ⟨rfl, a1, a28, a29, a30, a52, ⟨n, a53, n1, n2⟩, a54, hh2⟩ ih2
                simp (disch := (first | assumption | omega | (simp only [List.length_append, List.length_cons, List.length_nil]; omega))) only [↓wD,wU,Nat.reduceBEq,zx150,zx151,zx159,zx160,zx161,zx162,Nat.reduceAdd,Nat.reduceSub,Nat.reduceMul,Nat.reduceLeDiff,Nat.reduceLT,Nat.reduceEqDiff,Int.reduceAdd,Int.reduceSub,Int.reduceMul,Int.reduceNeg,Int.reduceLT,Int.reduceLE,Int.reduceEq,Int.reduceToNat,Int.cast_ofNat_Int,↓reduceIte, *]
                refine condP_split (fun hlt2 => ?_) (fun hlt2 => ?_)
                · have hj' : j < (gi t i).length := by omega
                  have bad2 : ¬ (0 ≤ gi (gi t i) j ∧ gi (gi t i) j < v) → AV.b false = AV.b (decide (ArrP v t)) := fun h => bad fun hh => h (hh.2.2.2 _ (mem_gi hj'))
                  (repeat' (first | refine condP_split (fun _ => ?_) (fun _ => ?_) | refine guardP_split (fun _ => ?_) (fun _ => ?_) | refine guardP_splitF (fun _ => ?_) (fun _ => ?_) | (simp (disch := (first | assumption | omega | (simp only [List.length_append, List.length_cons, List.length_nil]; omega))) only [↓wD,wU,Nat.reduceBEq,zx150,zx151,zx159,zx160,zx161,zx162,Nat.reduceAdd,Nat.reduceSub,Nat.reduceMul,Nat.reduceLeDiff,Nat.reduceLT,Nat.reduceEqDiff,Int.reduceAdd,Int.reduceSub,Int.reduceMul,Int.reduceNeg,Int.reduceLT,Int.reduceLE,Int.reduceEq,Int.reduceToNat,Int.cast_ofNat_Int,↓reduceIte, *, g1.I]))) <;> first | exact bad2 (by omega) | skip
                  refine (ih2 hj').go ⟨rfl, ?_⟩
                  simp (disch := (first | assumption | omega | (simp only [List.length_append, List.length_cons, List.length_nil]; omega))) only [↓wD,wU,Nat.reduceBEq,zx150,zx151,zx159,zx160,zx161,zx162,Nat.reduceAdd,Nat.reduceSub,Nat.reduceMul,Nat.reduceLeDiff,Nat.reduceLT,Nat.reduceEqDiff,Int.reduceAdd,Int.reduceSub,Int.reduceMul,Int.reduceNeg,Int.reduceLT,Int.reduceLE,Int.reduceEq,Int.reduceToNat,Int.cast_ofNat_Int,↓reduceIte, *]
                  exact ⟨⟨n, rfl, by omega, by omega⟩, mem_take_gi (P := fun x => 0 ≤ x ∧ x < v) hh2 hj' (by omega)⟩
                · simp (disch := (first | assumption | omega | (simp only [List.length_append, List.length_cons, List.length_nil]; omega))) only [↓wD,wU,Nat.reduceBEq,zx150,zx151,zx159,zx160,zx161,zx162,Nat.reduceAdd,Nat.reduceSub,Nat.reduceMul,Nat.reduceLeDiff,Nat.reduceLT,Nat.reduceEqDiff,Int.reduceAdd,Int.reduceSub,Int.reduceMul,Int.reduceNeg,Int.reduceLT,Int.reduceLE,Int.reduceEq,Int.reduceToNat,Int.cast_ofNat_Int,↓reduceIte, *]
                  refine (ih hi').go ⟨rfl, ?_⟩
                  simp (disch := (first | assumption | omega | (simp only [List.length_append, List.length_cons, List.length_nil]; omega))) only [↓wD,wU,Nat.reduceBEq,zx150,zx151,zx159,zx160,zx161,zx162,Nat.reduceAdd,Nat.reduceSub,Nat.reduceMul,Nat.reduceLeDiff,Nat.reduceLT,Nat.reduceEqDiff,Int.reduceAdd,Int.reduceSub,Int.reduceMul,Int.reduceNeg,Int.reduceLT,Int.reduceLE,Int.reduceEq,Int.reduceToNat,Int.cast_ofNat_Int,↓reduceIte, *]
                  exact mem_take_gi hh hi' ⟨q3, q1, q2, mem_take_all hh2 (by omega)⟩
              · (simp (disch := (first | assumption | omega | (simp only [List.length_append, List.length_cons, List.length_nil]; omega))) only [↓wD,wU,Nat.reduceBEq,zx150,zx151,zx159,zx160,zx161,zx162,Nat.reduceAdd,Nat.reduceSub,Nat.reduceMul,Nat.reduceLeDiff,Nat.reduceLT,Nat.reduceEqDiff,Int.reduceAdd,Int.reduceSub,Int.reduceMul,Int.reduceNeg,Int.reduceLT,Int.reduceLE,Int.reduceEq,Int.reduceToNat,Int.cast_ofNat_Int,↓reduceIte, *]) <;> (first | exact ⟨⟨_, rfl, by omega, by omega⟩, by simp [ChR]⟩ | simp [ChR])
            · simp (disch := (first | assumption | omega | (simp only [List.length_append, List.length_cons, List.length_nil]; omega))) only [↓wD,wU,Nat.reduceBEq,zx150,zx151,zx159,zx160,zx161,zx162,Nat.reduceAdd,Nat.reduceSub,Nat.reduceMul,Nat.reduceLeDiff,Nat.reduceLT,Nat.reduceEqDiff,Int.reduceAdd,Int.reduceSub,Int.reduceMul,Int.reduceNeg,Int.reduceLT,Int.reduceLE,Int.reduceEq,Int.reduceToNat,Int.cast_ofNat_Int,↓reduceIte, *, k1.L, g1.I, g0.I]
              exact bad fun h => q2 h.2.2.1
          · simp (disch := (first | assumption | omega | (simp only [List.length_append, List.length_cons, List.length_nil]; omega))) only [↓wD,wU,Nat.reduceBEq,zx150,zx151,zx159,zx160,zx161,zx162,Nat.reduceAdd,Nat.reduceSub,Nat.reduceMul,Nat.reduceLeDiff,Nat.reduceLT,Nat.reduceEqDiff,Int.reduceAdd,Int.reduceSub,Int.reduceMul,Int.reduceNeg,Int.reduceLT,Int.reduceLE,Int.reduceEq,Int.reduceToNat,Int.cast_ofNat_Int,↓reduceIte, *, k1.L, g1.I, g0.I]
            exact bad fun h => q1 h.2.1
        · have q3' : ¬ ((gi t i).length : Int) = (gi t 0).length := by omega
          simp (disch := (first | assumption | omega | (simp only [List.length_append, List.length_cons, List.length_nil]; omega))) only [↓wD,wU,Nat.reduceBEq,zx150,zx151,zx159,zx160,zx161,zx162,Nat.reduceAdd,Nat.reduceSub,Nat.reduceMul,Nat.reduceLeDiff,Nat.reduceLT,Nat.reduceEqDiff,Int.reduceAdd,Int.reduceSub,Int.reduceMul,Int.reduceNeg,Int.reduceLT,Int.reduceLE,Int.reduceEq,Int.reduceToNat,Int.cast_ofNat_Int,↓reduceIte, *, k1.L, g1.I, g0.I]
          exact bad fun h => q3 h.1
      · simp (disch := (first | assumption | omega | (simp only [List.length_append, List.length_cons, List.length_nil]; omega))) only [↓wD,wU,Nat.reduceBEq,zx150,zx151,zx159,zx160,zx161,zx162,Nat.reduceAdd,Nat.reduceSub,Nat.reduceMul,Nat.reduceLeDiff,Nat.reduceLT,Nat.reduceEqDiff,Int.reduceAdd,Int.reduceSub,Int.reduceMul,Int.reduceNeg,Int.reduceLT,Int.reduceLE,Int.reduceEq,Int.reduceToNat,Int.cast_ofNat_Int,↓reduceIte, *]
        exact avb_t ⟨v1, v2, t1, t2, mem_take_all hh (by omega)⟩
    · (simp (disch := (first | assumption | omega | (simp only [List.length_append, List.length_cons, List.length_nil]; omega))) only [↓wD,wU,Nat.reduceBEq,zx150,zx151,zx159,zx160,zx161,zx162,Nat.reduceAdd,Nat.reduceSub,Nat.reduceMul,Nat.reduceLeDiff,Nat.reduceLT,Nat.reduceEqDiff,Int.reduceAdd,Int.reduceSub,Int.reduceMul,Int.reduceNeg,Int.reduceLT,Int.reduceLE,Int.reduceEq,Int.reduceToNat,Int.cast_ofNat_Int,↓reduceIte, *]) <;> simp
  · have bad : ¬ ArrP v t := fun h => h0 ⟨h.1, h.2.1, h.2.2.1, h.2.2.2.1⟩
    by_cases h1 : v < 2
    · clear h0
      simp (disch := (first | assumption | omega | (simp only [List.length_append, List.length_cons, List.length_nil]; omega))) only [↓wD,wU,Nat.reduceBEq,zx150,zx151,zx159,zx160,zx161,zx162,Nat.reduceAdd,Nat.reduceSub,Nat.reduceMul,Nat.reduceLeDiff,Nat.reduceLT,Nat.reduceEqDiff,Int.reduceAdd,Int.reduceSub,Int.reduceMul,Int.reduceNeg,Int.reduceLT,Int.reduceLE,Int.reduceEq,Int.reduceToNat,Int.cast_ofNat_Int,↓reduceIte, *, ht.L]
    by_cases h2 : 4 < v
    · clear h0
      simp (disch := (first | assumption | omega | (simp only [List.length_append, List.length_cons, List.length_nil]; omega))) only [↓wD,wU,Nat.reduceBEq,zx150,zx151,zx159,zx160,zx161,zx162,Nat.reduceAdd,Nat.reduceSub,Nat.reduceMul,Nat.reduceLeDiff,Nat.reduceLT,Nat.reduceEqDiff,Int.reduceAdd,Int.reduceSub,Int.reduceMul,Int.reduceNeg,Int.reduceLT,Int.reduceLE,Int.reduceEq,Int.reduceToNat,Int.cast_ofNat_Int,↓reduceIte, *, ht.L]
    by_cases h3 : t.length < 1
    · clear h0
      simp (disch := (first | assumption | omega | (simp only [List.length_append, List.length_cons, List.length_nil]; omega))) only [↓wD,wU,Nat.reduceBEq,zx150,zx151,zx159,zx160,zx161,zx162,Nat.reduceAdd,Nat.reduceSub,Nat.reduceMul,Nat.reduceLeDiff,Nat.reduceLT,Nat.reduceEqDiff,Int.reduceAdd,Int.reduceSub,Int.reduceMul,Int.reduceNeg,Int.reduceLT,Int.reduceLE,Int.reduceEq,Int.reduceToNat,Int.cast_ofNat_Int,↓reduceIte, *, ht.L]
    · have h4 : 16 < t.length := by omega
      clear h0
      simp (disch := (first | assumption | omega | (simp only [List.length_append, List.length_cons, List.length_nil]; omega))) only [↓wD,wU,Nat.reduceBEq,zx150,zx151,zx159,zx160,zx161,zx162,Nat.reduceAdd,Nat.reduceSub,Nat.reduceMul,Nat.reduceLeDiff,Nat.reduceLT,Nat.reduceEqDiff,Int.reduceAdd,Int.reduceSub,Int.reduceMul,Int.reduceNeg,Int.reduceLT,Int.reduceLE,Int.reduceEq,Int.reduceToNat,Int.cast_ofNat_Int,↓reduceIte, *, ht.L]
theorem width_ret {p : Nat → Prop} {H : Heap} {rows : AV} {v : Int} {t : List (List Int)} (ht : Sl p H rows t) (h : 1 ≤ t.length) : RetP E 39 [.ag [.i v, rows]] H (.i (wd t)) := by
  refine RetP.ro rfl fn39 rfl rfl ?_
  unfold f39A
  have k1 := ht.app [.cells [.i v, rows]]
  have g0 := k1.get (k := 0) (by omega) (by omega)
  simp (disch := (first | assumption | omega | (simp only [List.length_append, List.length_cons, List.length_nil]; omega))) only [↓wD,wU,Nat.reduceBEq,zx150,zx151,zx159,zx160,zx161,zx162,Nat.reduceAdd,Nat.reduceSub,Nat.reduceMul,Nat.reduceLeDiff,Nat.reduceLT,Nat.reduceEqDiff,Int.reduceAdd,Int.reduceSub,Int.reduceMul,Int.reduceNeg,Int.reduceLT,Int.reduceLE,Int.reduceEq,Int.reduceToNat,Int.cast_ofNat_Int,↓reduceIte, *, k1.L, g0.I]
  rfl
theorem deep_ret {p : Nat → Prop} {H : Heap} {rows : AV} {v k : Int} {t : List (List Int)} (ht : Sl p H rows t) : RetP E 52 [.ag [.i v, rows], .i k] H (.b (decide (ArrP v t ∧ 1 ≤ k ∧ k ≤ 3 ∧ k ≤ wd t))) := by
  refine RetP.ro rfl fn52 rfl rfl ?_
  unfold f52A
  have k1 := ht.app [.cells [.i v, rows]]
  by_cases h : ArrP v t
  · (repeat' (first | refine condP_split (fun _ => ?_) (fun _ => ?_) | refine guardP_split (fun _ => ?_) (fun _ => ?_) | refine guardP_splitF (fun _ => ?_) (fun _ => ?_) | (simp (disch := (first | assumption | omega | (simp only [List.length_append, List.length_cons, List.length_nil]; omega))) only [↓wD,wU,Nat.reduceBEq,zx150,zx151,zx159,zx160,zx161,zx162,Nat.reduceAdd,Nat.reduceSub,Nat.reduceMul,Nat.reduceLeDiff,Nat.reduceLT,Nat.reduceEqDiff,Int.reduceAdd,Int.reduceSub,Int.reduceMul,Int.reduceNeg,Int.reduceLT,Int.reduceLE,Int.reduceEq,Int.reduceToNat,Int.cast_ofNat_Int,↓reduceIte, *, false_and, and_false, ht.L, (rvalid_ret k1).call, (width_ret k1 h.2.2.1).call]))) <;> simp_all
  · (repeat' (first | refine condP_split (fun _ => ?_) (fun _ => ?_) | refine guardP_split (fun _ => ?_) (fun _ => ?_) | refine guardP_splitF (fun _ => ?_) (fun _ => ?_) | (simp (disch := (first | assumption | omega | (simp only [List.length_append, List.length_cons, List.length_nil]; omega))) only [↓wD,wU,Nat.reduceBEq,zx150,zx151,zx159,zx160,zx161,zx162,Nat.reduceAdd,Nat.reduceSub,Nat.reduceMul,Nat.reduceLeDiff,Nat.reduceLT,Nat.reduceEqDiff,Int.reduceAdd,Int.reduceSub,Int.reduceMul,Int.reduceNeg,Int.reduceLT,Int.reduceLE,Int.reduceEq,Int.reduceToNat,Int.cast_ofNat_Int,↓reduceIte, *, false_and, and_false, ht.L, (rvalid_ret k1).call]))) <;> simp_all
end Go.Proofs.Ytalaadcbpjnglaa
namespace Go.Proofs.Ytalaadcbpjnglaa
open Go Go.AM Go.Proofs
theorem list_ret {p : Nat → Prop} {H : Heap} {v : AV} {xs : List Int} (hx : Sl p H v xs) : Ret E 35 [v] (fun _ => False) H (xs.take 11) := by
  refine Ret.ro rfl fn35 rfl ?_
  unfold f35A
  have hb := hx.bound
  have hs : slV 1 v none (some (.i (min (xs.length : Int) 11))) none = some (v.cut 0 (min xs.length 11)) := by
    refine hx.slV_lh none _ (b := min xs.length 11) ?_ (bound_none (by omega)) (by omega) (by omega)
    rw [bound_some (by omega) (by omega)]
    congr 1
    omega
  simp (disch := (first | assumption | omega | (simp only [List.length_append, List.length_cons, List.length_nil]; omega))) only [↓wD,wU,Nat.reduceBEq,zx150,zx151,zx159,zx160,zx161,zx162,Nat.reduceAdd,Nat.reduceSub,Nat.reduceMul,Nat.reduceLeDiff,Nat.reduceLT,Nat.reduceEqDiff,Int.reduceAdd,Int.reduceSub,Int.reduceMul,Int.reduceNeg,Int.reduceLT,Int.reduceLE,Int.reduceEq,Int.reduceToNat,Int.cast_ofNat_Int,↓reduceIte, *, hx.I, hs]
  have hc := hx.cut (a := 0) (b := min xs.length 11) (by omega) (by omega)
  have e : (xs.drop 0).take (min xs.length 11 - 0) = xs.take 11 := by
    rw [List.drop_zero, Nat.sub_zero]
    by_cases hl : xs.length ≤ 11
    · rw [List.take_of_length_le (by omega), List.take_of_length_le hl]
    · congr 1; omega
  rw [e] at hc
  refine (clone_ret hc (by rw [List.length_take]; omega)).go fun u N hu => ?_
  simp (disch := (first | assumption | omega | (simp only [List.length_append, List.length_cons, List.length_nil]; omega))) only [↓wD,wU,Nat.reduceBEq,zx150,zx151,zx159,zx160,zx161,zx162,Nat.reduceAdd,Nat.reduceSub,Nat.reduceMul,Nat.reduceLeDiff,Nat.reduceLT,Nat.reduceEqDiff,Int.reduceAdd,Int.reduceSub,Int.reduceMul,Int.reduceNeg,Int.reduceLT,Int.reduceLE,Int.reduceEq,Int.reduceToNat,Int.cast_ofNat_Int,↓reduceIte]
  exact hu
def cutA (t : List (List Int)) : List (List Int) := (t.take 19).map fun r => r.take 11
theorem of_ret {p : Nat → Prop} {H : Heap} {rows : AV} {v : Int} {t : List (List Int)} (ht : Sl p H rows t) : Ret E 32 [.ag [.i v, rows]] (fun _ => False) H ((v, cutA t) : Int × List (List Int)) := by
  refine Ret.ro rfl fn32 rfl ?_
  unfold f32A
  have hb := ht.bound
  simp (disch := (first | assumption | omega | (simp only [List.length_append, List.length_cons, List.length_nil]; omega))) only [↓wD,wU,Nat.reduceBEq,zx150,zx151,zx159,zx160,zx161,zx162,Nat.reduceAdd,Nat.reduceSub,Nat.reduceMul,Nat.reduceLeDiff,Nat.reduceLT,Nat.reduceEqDiff,Int.reduceAdd,Int.reduceSub,Int.reduceMul,Int.reduceNeg,Int.reduceLT,Int.reduceLE,Int.reduceEq,Int.reduceToNat,Int.cast_ofNat_Int,↓reduceIte, *, ht.L]
  replace ht : Sl (fun b => b < H.length) H rows t := ht.low.weak fun _ h => h.2
  refine Wp.for t.length (fun i a H' => ∃ u, a 10 = rows ∧ a 11 = .i t.length ∧ a 12 = .i i ∧ a 2 = .p (H.length + 1) 0 ∧ a 3 = .p (H.length + 2) 0 ∧ Gr H H' ∧ H.length + 3 ≤ H'.length ∧
    H'[H.length + 1]? = some (.cells [.i 0, .nils]) ∧ H'[H.length + 2]? = some (.cells [.i v, u]) ∧ Acc (H.length + 3) (fun b => H.length + 3 ≤ b) H' u (((t.take i).take 19).map fun r => r.take 11)) ?_ ?_
  · rintro i a H1 hi ⟨u, a10, a11, a12, a2, a3, hg, hl, c2, c3, hu⟩ ih
    simp (disch := (first | assumption | omega | (simp only [List.length_append, List.length_cons, List.length_nil]; omega))) only [↓wD,wU,Nat.reduceBEq,zx150,zx151,zx159,zx160,zx161,zx162,Nat.reduceAdd,Nat.reduceSub,Nat.reduceMul,Nat.reduceLeDiff,Nat.reduceLT,Nat.reduceEqDiff,Int.reduceAdd,Int.reduceSub,Int.reduceMul,Int.reduceNeg,Int.reduceLT,Int.reduceLE,Int.reduceEq,Int.reduceToNat,Int.cast_ofNat_Int,↓reduceIte, *]
    refine condP_split (fun hlt => ?_) (fun hlt => ?_)
    · have hi' : i < t.length := by omega
      have ht1 := ht.gr hg
      have g := ht1.get (k := (i : Int)) (by omega) (by omega)
      simp (disch := (first | assumption | omega | (simp only [List.length_append, List.length_cons, List.length_nil]; omega))) only [↓wD,wU,Nat.reduceBEq,zx150,zx151,zx159,zx160,zx161,zx162,Nat.reduceAdd,Nat.reduceSub,Nat.reduceMul,Nat.reduceLeDiff,Nat.reduceLT,Nat.reduceEqDiff,Int.reduceAdd,Int.reduceSub,Int.reduceMul,Int.reduceNeg,Int.reduceLT,Int.reduceLE,Int.reduceEq,Int.reduceToNat,Int.cast_ofNat_Int,↓reduceIte, *, ht1.L]
      refine condP_split (fun h6 => ?_) (fun h6 => ?_)
      · simp (disch := (first | assumption | omega | (simp only [List.length_append, List.length_cons, List.length_nil]; omega))) only [↓wD,wU,Nat.reduceBEq,zx150,zx151,zx159,zx160,zx161,zx162,Nat.reduceAdd,Nat.reduceSub,Nat.reduceMul,Nat.reduceLeDiff,Nat.reduceLT,Nat.reduceEqDiff,Int.reduceAdd,Int.reduceSub,Int.reduceMul,Int.reduceNeg,Int.reduceLT,Int.reduceLE,Int.reduceEq,Int.reduceToNat,Int.cast_ofNat_Int,↓reduceIte, *, ld_of c3]
        refine (list_ret g).toF fun y H2 hg2 hy => ?_
        have hl2 := hg2.1
        simp (disch := (first | assumption | omega | (simp only [List.length_append, List.length_cons, List.length_nil]; omega))) only [↓wD,wU,Nat.reduceBEq,zx150,zx151,zx159,zx160,zx161,zx162,Nat.reduceAdd,Nat.reduceSub,Nat.reduceMul,Nat.reduceLeDiff,Nat.reduceLT,Nat.reduceEqDiff,Int.reduceAdd,Int.reduceSub,Int.reduceMul,Int.reduceNeg,Int.reduceLT,Int.reduceLE,Int.reduceEq,Int.reduceToNat,Int.cast_ofNat_Int,↓reduceIte, *, hy.cellsV]
        have hu2 := hu.gr hg2
        refine hu2.pushL (by omega) (by omega) hy (fun b hb => ⟨by omega, fun e => by have := hu.blk_lt e; omega⟩) ?_ fun u' H3 hu' hk3 hl3' _ => ?_
        · simp; omega
        · have c33 := hk3.get (b := H.length + 2) (fun e => by have := hu2.blk_lt e; omega) (hg2.get c3)
          have c23 := hk3.get (b := H.length + 1) (fun e => by have := hu2.blk_lt e; omega) (hg2.get c2)
          simp (disch := (first | assumption | omega | (simp only [List.length_append, List.length_cons, List.length_nil]; omega))) only [↓wD,wU,Nat.reduceBEq,zx150,zx151,zx159,zx160,zx161,zx162,Nat.reduceAdd,Nat.reduceSub,Nat.reduceMul,Nat.reduceLeDiff,Nat.reduceLT,Nat.reduceEqDiff,Int.reduceAdd,Int.reduceSub,Int.reduceMul,Int.reduceNeg,Int.reduceLT,Int.reduceLE,Int.reduceEq,Int.reduceToNat,Int.cast_ofNat_Int,↓reduceIte, *, st_of c33, hu'.cellsV]
          refine (ih hi').go ⟨u', ?_⟩
          simp (disch := (first | assumption | omega | (simp only [List.length_append, List.length_cons, List.length_nil]; omega))) only [↓wD,wU,Nat.reduceBEq,zx150,zx151,zx159,zx160,zx161,zx162,Nat.reduceAdd,Nat.reduceSub,Nat.reduceMul,Nat.reduceLeDiff,Nat.reduceLT,Nat.reduceEqDiff,Int.reduceAdd,Int.reduceSub,Int.reduceMul,Int.reduceNeg,Int.reduceLT,Int.reduceLE,Int.reduceEq,Int.reduceToNat,Int.cast_ofNat_Int,↓reduceIte, *]
          have e : ((t.take (i + 1)).take 19) = (t.take i).take 19 ++ [gi t i] := by
            rw [List.take_take, List.take_take, show min 19 (i + 1) = i + 1 by omega, show min 19 i = i by omega, take_gi hi']
          rw [e, List.map_append]
          refine ⟨((hg.trans hg2).push hu2 (by omega) hk3).set (by omega) _, by simp; omega, by rw [List.getElem?_set_ne (by omega)]; exact c23, get_set c33, ?_⟩
          exact hu'.mono ((Kp.set _ _ _).weak fun b hb => by omega) fun _ h => h
      · simp (disch := (first | assumption | omega | (simp only [List.length_append, List.length_cons, List.length_nil]; omega))) only [↓wD,wU,Nat.reduceBEq,zx150,zx151,zx159,zx160,zx161,zx162,Nat.reduceAdd,Nat.reduceSub,Nat.reduceMul,Nat.reduceLeDiff,Nat.reduceLT,Nat.reduceEqDiff,Int.reduceAdd,Int.reduceSub,Int.reduceMul,Int.reduceNeg,Int.reduceLT,Int.reduceLE,Int.reduceEq,Int.reduceToNat,Int.cast_ofNat_Int,↓reduceIte, *]
        refine (ih hi').go ⟨u, ?_⟩
        simp (disch := (first | assumption | omega | (simp only [List.length_append, List.length_cons, List.length_nil]; omega))) only [↓wD,wU,Nat.reduceBEq,zx150,zx151,zx159,zx160,zx161,zx162,Nat.reduceAdd,Nat.reduceSub,Nat.reduceMul,Nat.reduceLeDiff,Nat.reduceLT,Nat.reduceEqDiff,Int.reduceAdd,Int.reduceSub,Int.reduceMul,Int.reduceNeg,Int.reduceLT,Int.reduceLE,Int.reduceEq,Int.reduceToNat,Int.cast_ofNat_Int,↓reduceIte, *]
        have e : ((t.take (i + 1)).take 19) = (t.take i).take 19 := by
          rw [List.take_take, List.take_take]; congr 1; omega
        rw [e]; first | exact hu | exact ⟨hg, hu⟩ | exact ⟨hg, hl, hu⟩
    · have e : i = t.length := by omega
      subst e
      simp (disch := (first | assumption | omega | (simp only [List.length_append, List.length_cons, List.length_nil]; omega))) only [↓wD,wU,Nat.reduceBEq,zx150,zx151,zx159,zx160,zx161,zx162,Nat.reduceAdd,Nat.reduceSub,Nat.reduceMul,Nat.reduceLeDiff,Nat.reduceLT,Nat.reduceEqDiff,Int.reduceAdd,Int.reduceSub,Int.reduceMul,Int.reduceNeg,Int.reduceLT,Int.reduceLE,Int.reduceEq,Int.reduceToNat,Int.cast_ofNat_Int,↓reduceIte, *, ldn_of c3, st_of c2, hu.cellsV]
      simp (disch := (first | assumption | omega | (simp only [List.length_append, List.length_cons, List.length_nil]; omega))) only [↓wD,wU,Nat.reduceBEq,zx150,zx151,zx159,zx160,zx161,zx162,Nat.reduceAdd,Nat.reduceSub,Nat.reduceMul,Nat.reduceLeDiff,Nat.reduceLT,Nat.reduceEqDiff,Int.reduceAdd,Int.reduceSub,Int.reduceMul,Int.reduceNeg,Int.reduceLT,Int.reduceLE,Int.reduceEq,Int.reduceToNat,Int.cast_ofNat_Int,↓reduceIte, *, ldn_of (get_set c2)]
      rw [List.take_length] at hu
      exact rv_si ((hu.mono ((Kp.set _ _ _).weak fun b hb => by omega) fun _ h => h).sl.weak fun b h => .inr (by omega))
  · simp (disch := (first | assumption | omega | (simp only [List.length_append, List.length_cons, List.length_nil]; omega))) only [↓wD,wU,Nat.reduceBEq,zx150,zx151,zx159,zx160,zx161,zx162,Nat.reduceAdd,Nat.reduceSub,Nat.reduceMul,Nat.reduceLeDiff,Nat.reduceLT,Nat.reduceEqDiff,Int.reduceAdd,Int.reduceSub,Int.reduceMul,Int.reduceNeg,Int.reduceLT,Int.reduceLE,Int.reduceEq,Int.reduceToNat,Int.cast_ofNat_Int,↓reduceIte, *]
    refine ⟨.nils, ?_⟩
    simp (disch := (first | assumption | omega | (simp only [List.length_append, List.length_cons, List.length_nil]; omega))) only [↓wD,wU,Nat.reduceBEq,zx150,zx151,zx159,zx160,zx161,zx162,Nat.reduceAdd,Nat.reduceSub,Nat.reduceMul,Nat.reduceLeDiff,Nat.reduceLT,Nat.reduceEqDiff,Int.reduceAdd,Int.reduceSub,Int.reduceMul,Int.reduceNeg,Int.reduceLT,Int.reduceLE,Int.reduceEq,Int.reduceToNat,Int.cast_ofNat_Int,↓reduceIte, *]
    exact ⟨(((Gr.refl H).app _).app _).app _, Acc.nil⟩
theorem cutA_ok {v : Int} {t : List (List Int)} (h : ArrP v t) : cutA t = t := by
  unfold cutA
  rw [List.take_of_length_le (by have := h.2.2.2.1; omega)]
  conv => rhs; rw [← List.map_id t]
  apply List.map_congr_left
  intro r hr
  exact List.take_of_length_le (by have := (h.2.2.2.2 r hr).2.2.1; omega)
theorem ArrP_cut {v : Int} {t : List (List Int)} : ArrP v (cutA t) ↔ ArrP v t := by
  constructor
  · intro h
    have e : cutA t = t := by
      have h1 : t.length ≤ 16 := by have := h.2.2.2.1; simp [cutA] at this; omega
      unfold cutA
      rw [List.take_of_length_le (by omega)]
      conv => rhs; rw [← List.map_id t]
      apply List.map_congr_left
      intro r hr
      have hm : r.take 11 ∈ cutA t := by
        unfold cutA
        rw [List.take_of_length_le (by omega)]
        exact List.mem_map_of_mem hr
      have := (h.2.2.2.2 _ hm).2.2.1
      rw [List.length_take] at this
      exact List.take_of_length_le (by omega)
    rwa [e] at h
  · intro h
    rw [cutA_ok h]; exact h
end Go.Proofs.Ytalaadcbpjnglaa
namespace Go.Proofs.Ytalaadcbpjnglaa
open Go Go.AM Go.Proofs
def comesL (rs cs ks : List Int) : Bool := (cs.zip ks).all fun q => gi rs q.1 == q.2
theorem zip_take_succ {α : Type} [Inhabited α] {xs ys : List α} {i : Nat} (h1 : i < xs.length) (h2 : i < ys.length) : (xs.take (i + 1)).zip (ys.take (i + 1)) = (xs.take i).zip (ys.take i) ++ [(gi xs i, gi ys i)] := by
  rw [take_gi h1, take_gi h2, List.zip_append (by simp; omega)]; rfl
theorem comesL_succ {rs cs ks : List Int} {i : Nat} (h1 : i < cs.length) (h2 : i < ks.length) : comesL rs (cs.take (i + 1)) (ks.take (i + 1)) = (comesL rs (cs.take i) (ks.take i) && (gi rs (gi cs i) == gi ks i)) := by
  simp [comesL, zip_take_succ h1 h2, List.all_append]
theorem comesL_all {rs cs ks : List Int} {i : Nat} (h1 : cs.length ≤ i) (h2 : ks.length ≤ i) : comesL rs (cs.take i) (ks.take i) = comesL rs cs ks := by
  rw [List.take_of_length_le h1, List.take_of_length_le h2]
theorem comesL_f {rs cs ks : List Int} {i : Nat} (h1 : i < cs.length) (h2 : i < ks.length) (h : ¬ gi rs (gi cs i) = gi ks i) : comesL rs cs ks = false := by
  rw [← Bool.not_eq_true]
  intro hh
  unfold comesL at hh
  rw [List.all_eq_true] at hh
  have := hh (cs[i], ks[i]) (List.mem_iff_getElem.2 ⟨i, by simp; omega, by simp⟩)
  rw [gi_nat h1, gi_nat h2] at h
  simp at this
  exact h this
theorem comes_ret {p q p' : Nat → Prop} {H : Heap} {row cols ch : AV} {rs cs ks : List Int} (hr : Sl p H row rs) (hc : Sl q H cols cs) (hk : Sl p' H ch ks) (hl : cs.length = ks.length) (hb : ∀ c ∈ cs, 0 ≤ c ∧ c < rs.length) :
    RetP E 101 [row, cols, ch] H (.b (comesL rs cs ks)) := by
  refine RetP.ro rfl fn101 rfl rfl ?_
  unfold f101A
  simp (disch := (first | assumption | omega | (simp only [List.length_append, List.length_cons, List.length_nil]; omega))) only [↓wD,wU,Nat.reduceBEq,zx150,zx151,zx159,zx160,zx161,zx162,Nat.reduceAdd,Nat.reduceSub,Nat.reduceMul,Nat.reduceLeDiff,Nat.reduceLT,Nat.reduceEqDiff,Int.reduceAdd,Int.reduceSub,Int.reduceMul,Int.reduceNeg,Int.reduceLT,Int.reduceLE,Int.reduceEq,Int.reduceToNat,Int.cast_ofNat_Int,↓reduceIte, *, hc.I]
  have hbd := hc.bound
  refine Wp.for cs.length (fun i a H' => H' = H ∧ a 0 = row ∧ a 2 = ch ∧ a 9 = cols ∧ a 10 = .i cs.length ∧ a 11 = .i i ∧ comesL rs (cs.take i) (ks.take i) = true) ?_ ?_
  · rintro i a H' hi ⟨rfl, h0, h2, h9, h10, h11, hh⟩ ih
    simp (disch := (first | assumption | omega | (simp only [List.length_append, List.length_cons, List.length_nil]; omega))) only [↓wD,wU,Nat.reduceBEq,zx150,zx151,zx159,zx160,zx161,zx162,Nat.reduceAdd,Nat.reduceSub,Nat.reduceMul,Nat.reduceLeDiff,Nat.reduceLT,Nat.reduceEqDiff,Int.reduceAdd,Int.reduceSub,Int.reduceMul,Int.reduceNeg,Int.reduceLT,Int.reduceLE,Int.reduceEq,Int.reduceToNat,Int.cast_ofNat_Int,↓reduceIte, *]
    refine condP_split (fun hlt => ?_) (fun hlt => ?_)
    · have hlt' : i < cs.length := by omega
      have hbi := hb (gi cs i) (mem_gi hlt')
      simp (disch := (first | assumption | omega | (simp only [List.length_append, List.length_cons, List.length_nil]; omega))) only [↓wD,wU,Nat.reduceBEq,zx150,zx151,zx159,zx160,zx161,zx162,Nat.reduceAdd,Nat.reduceSub,Nat.reduceMul,Nat.reduceLeDiff,Nat.reduceLT,Nat.reduceEqDiff,Int.reduceAdd,Int.reduceSub,Int.reduceMul,Int.reduceNeg,Int.reduceLT,Int.reduceLE,Int.reduceEq,Int.reduceToNat,Int.cast_ofNat_Int,↓reduceIte, *, hc.I, hr.I, hk.I]
      refine condP_split (fun hne => ?_) (fun hne => ?_)
      · simp (disch := (first | assumption | omega | (simp only [List.length_append, List.length_cons, List.length_nil]; omega))) only [↓wD,wU,Nat.reduceBEq,zx150,zx151,zx159,zx160,zx161,zx162,Nat.reduceAdd,Nat.reduceSub,Nat.reduceMul,Nat.reduceLeDiff,Nat.reduceLT,Nat.reduceEqDiff,Int.reduceAdd,Int.reduceSub,Int.reduceMul,Int.reduceNeg,Int.reduceLT,Int.reduceLE,Int.reduceEq,Int.reduceToNat,Int.cast_ofNat_Int,↓reduceIte, *]
        rw [comesL_f hlt' (by omega) hne]
      · simp (disch := (first | assumption | omega | (simp only [List.length_append, List.length_cons, List.length_nil]; omega))) only [↓wD,wU,Nat.reduceBEq,zx150,zx151,zx159,zx160,zx161,zx162,Nat.reduceAdd,Nat.reduceSub,Nat.reduceMul,Nat.reduceLeDiff,Nat.reduceLT,Nat.reduceEqDiff,Int.reduceAdd,Int.reduceSub,Int.reduceMul,Int.reduceNeg,Int.reduceLT,Int.reduceLE,Int.reduceEq,Int.reduceToNat,Int.cast_ofNat_Int,↓reduceIte, *]
        refine (ih hlt').go ⟨rfl, ?_⟩
        simp (disch := (first | assumption | omega | (simp only [List.length_append, List.length_cons, List.length_nil]; omega))) only [↓wD,wU,Nat.reduceBEq,zx150,zx151,zx159,zx160,zx161,zx162,Nat.reduceAdd,Nat.reduceSub,Nat.reduceMul,Nat.reduceLeDiff,Nat.reduceLT,Nat.reduceEqDiff,Int.reduceAdd,Int.reduceSub,Int.reduceMul,Int.reduceNeg,Int.reduceLT,Int.reduceLE,Int.reduceEq,Int.reduceToNat,Int.cast_ofNat_Int,↓reduceIte, *]
        rw [comesL_succ hlt' (by omega), hh]
        simp; omega
    · simp (disch := (first | assumption | omega | (simp only [List.length_append, List.length_cons, List.length_nil]; omega))) only [↓wD,wU,Nat.reduceBEq,zx150,zx151,zx159,zx160,zx161,zx162,Nat.reduceAdd,Nat.reduceSub,Nat.reduceMul,Nat.reduceLeDiff,Nat.reduceLT,Nat.reduceEqDiff,Int.reduceAdd,Int.reduceSub,Int.reduceMul,Int.reduceNeg,Int.reduceLT,Int.reduceLE,Int.reduceEq,Int.reduceToNat,Int.cast_ofNat_Int,↓reduceIte, *]
      rw [← comesL_all (i := i) (cs := cs) (by omega) (by omega), hh]
  · (simp (disch := (first | assumption | omega | (simp only [List.length_append, List.length_cons, List.length_nil]; omega))) only [↓wD,wU,Nat.reduceBEq,zx150,zx151,zx159,zx160,zx161,zx162,Nat.reduceAdd,Nat.reduceSub,Nat.reduceMul,Nat.reduceLeDiff,Nat.reduceLT,Nat.reduceEqDiff,Int.reduceAdd,Int.reduceSub,Int.reduceMul,Int.reduceNeg,Int.reduceLT,Int.reduceLE,Int.reduceEq,Int.reduceToNat,Int.cast_ofNat_Int,↓reduceIte, *]) <;> simp [comesL]
/-- in how many rows they come -/
def oft (t : List (List Int)) (cs ks : List Int) : Nat := t.countP fun r => comesL r cs ks
theorem oft_succ {t : List (List Int)} {cs ks : List Int} {i : Nat} (h : i < t.length) : oft (t.take (i + 1)) cs ks = oft (t.take i) cs ks + if comesL (gi t i) cs ks = true then 1 else 0 := by
  unfold oft
  rw [take_gi h, List.countP_append]
  simp [List.countP_cons]
theorem oft_le {t : List (List Int)} {cs ks : List Int} : oft t cs ks ≤ t.length := List.countP_le_length
theorem often_ret {p q p' : Nat → Prop} {H : Heap} {rows cols ch : AV} {v : Int} {t : List (List Int)} {cs ks : List Int} (ht : Sl p H rows t) (hc : Sl q H cols cs) (hk : Sl p' H ch ks) (hl : cs.length = ks.length) (hb : ∀ c ∈ cs, 0 ≤ c ∧ ∀ r ∈ t, c < r.length) :
    RetP E 104 [.ag [.i v, rows], cols, ch] H (.i (oft t cs ks)) := by
  refine RetP.ro rfl fn104 rfl rfl ?_
  unfold f104A
  have hbd := ht.bound
  simp (disch := (first | assumption | omega | (simp only [List.length_append, List.length_cons, List.length_nil]; omega))) only [↓wD,wU,Nat.reduceBEq,zx150,zx151,zx159,zx160,zx161,zx162,Nat.reduceAdd,Nat.reduceSub,Nat.reduceMul,Nat.reduceLeDiff,Nat.reduceLT,Nat.reduceEqDiff,Int.reduceAdd,Int.reduceSub,Int.reduceMul,Int.reduceNeg,Int.reduceLT,Int.reduceLE,Int.reduceEq,Int.reduceToNat,Int.cast_ofNat_Int,↓reduceIte, *, ht.L]
  have k1 := ht.app [.cells [.i v, rows]]
  have kc := hc.app [.cells [.i v, rows]]
  have kk := hk.app [.cells [.i v, rows]]
  refine Wp.for t.length (fun i a H' => H' = H ++ [.cells [.i v, rows]] ∧ a 1 = cols ∧ a 2 = ch ∧ a 11 = rows ∧ a 12 = .i t.length ∧ a 13 = .i i ∧ a 7 = .i (oft (t.take i) cs ks)) ?_ ?_
  · rintro i a H' hi ⟨rfl, a1, a2, a11, a12, a13, a7⟩ ih
    have hle := oft_le (t := t.take i) (cs := cs) (ks := ks)
    rw [List.length_take] at hle
    simp (disch := (first | assumption | omega | (simp only [List.length_append, List.length_cons, List.length_nil]; omega))) only [↓wD,wU,Nat.reduceBEq,zx150,zx151,zx159,zx160,zx161,zx162,Nat.reduceAdd,Nat.reduceSub,Nat.reduceMul,Nat.reduceLeDiff,Nat.reduceLT,Nat.reduceEqDiff,Int.reduceAdd,Int.reduceSub,Int.reduceMul,Int.reduceNeg,Int.reduceLT,Int.reduceLE,Int.reduceEq,Int.reduceToNat,Int.cast_ofNat_Int,↓reduceIte, *]
    refine condP_split (fun hlt => ?_) (fun hlt => ?_)
    · have hi' : i < t.length := by omega
      have g := k1.get (k := (i : Int)) (by omega) (by omega)
      have hs := oft_succ (cs := cs) (ks := ks) hi'
      simp (disch := (first | assumption | omega | (simp only [List.length_append, List.length_cons, List.length_nil]; omega))) only [↓wD,wU,Nat.reduceBEq,zx150,zx151,zx159,zx160,zx161,zx162,Nat.reduceAdd,Nat.reduceSub,Nat.reduceMul,Nat.reduceLeDiff,Nat.reduceLT,Nat.reduceEqDiff,Int.reduceAdd,Int.reduceSub,Int.reduceMul,Int.reduceNeg,Int.reduceLT,Int.reduceLE,Int.reduceEq,Int.reduceToNat,Int.cast_ofNat_Int,↓reduceIte, *, k1.L, (comes_ret g kc kk hl fun c hc => ⟨(hb c hc).1, by have := (hb c hc).2 _ (mem_gi hi'); omega⟩).call]
      refine condP_bool (fun hne => ?_) (fun hne => ?_)
      · rw [if_pos hne] at hs
        clear hne
        simp (disch := (first | assumption | omega | (simp only [List.length_append, List.length_cons, List.length_nil]; omega))) only [↓wD,wU,Nat.reduceBEq,zx150,zx151,zx159,zx160,zx161,zx162,Nat.reduceAdd,Nat.reduceSub,Nat.reduceMul,Nat.reduceLeDiff,Nat.reduceLT,Nat.reduceEqDiff,Int.reduceAdd,Int.reduceSub,Int.reduceMul,Int.reduceNeg,Int.reduceLT,Int.reduceLE,Int.reduceEq,Int.reduceToNat,Int.cast_ofNat_Int,↓reduceIte, *]
        refine (ih hi').go ⟨rfl, ?_⟩
        simp (disch := (first | assumption | omega | (simp only [List.length_append, List.length_cons, List.length_nil]; omega))) only [↓wD,wU,Nat.reduceBEq,zx150,zx151,zx159,zx160,zx161,zx162,Nat.reduceAdd,Nat.reduceSub,Nat.reduceMul,Nat.reduceLeDiff,Nat.reduceLT,Nat.reduceEqDiff,Int.reduceAdd,Int.reduceSub,Int.reduceMul,Int.reduceNeg,Int.reduceLT,Int.reduceLE,Int.reduceEq,Int.reduceToNat,Int.cast_ofNat_Int,↓reduceIte, *]
      · rw [if_neg (by simp [hne])] at hs
        clear hne
        simp (disch := (first | assumption | omega | (simp only [List.length_append, List.length_cons, List.length_nil]; omega))) only [↓wD,wU,Nat.reduceBEq,zx150,zx151,zx159,zx160,zx161,zx162,Nat.reduceAdd,Nat.reduceSub,Nat.reduceMul,Nat.reduceLeDiff,Nat.reduceLT,Nat.reduceEqDiff,Int.reduceAdd,Int.reduceSub,Int.reduceMul,Int.reduceNeg,Int.reduceLT,Int.reduceLE,Int.reduceEq,Int.reduceToNat,Int.cast_ofNat_Int,↓reduceIte, *]
        refine (ih hi').go ⟨rfl, ?_⟩
        simp (disch := (first | assumption | omega | (simp only [List.length_append, List.length_cons, List.length_nil]; omega))) only [↓wD,wU,Nat.reduceBEq,zx150,zx151,zx159,zx160,zx161,zx162,Nat.reduceAdd,Nat.reduceSub,Nat.reduceMul,Nat.reduceLeDiff,Nat.reduceLT,Nat.reduceEqDiff,Int.reduceAdd,Int.reduceSub,Int.reduceMul,Int.reduceNeg,Int.reduceLT,Int.reduceLE,Int.reduceEq,Int.reduceToNat,Int.cast_ofNat_Int,↓reduceIte, *]
    · simp (disch := (first | assumption | omega | (simp only [List.length_append, List.length_cons, List.length_nil]; omega))) only [↓wD,wU,Nat.reduceBEq,zx150,zx151,zx159,zx160,zx161,zx162,Nat.reduceAdd,Nat.reduceSub,Nat.reduceMul,Nat.reduceLeDiff,Nat.reduceLT,Nat.reduceEqDiff,Int.reduceAdd,Int.reduceSub,Int.reduceMul,Int.reduceNeg,Int.reduceLT,Int.reduceLE,Int.reduceEq,Int.reduceToNat,Int.cast_ofNat_Int,↓reduceIte, *]
      rw [List.take_of_length_le (by omega)]
  · (simp (disch := (first | assumption | omega | (simp only [List.length_append, List.length_cons, List.length_nil]; omega))) only [↓wD,wU,Nat.reduceBEq,zx150,zx151,zx159,zx160,zx161,zx162,Nat.reduceAdd,Nat.reduceSub,Nat.reduceMul,Nat.reduceLeDiff,Nat.reduceLT,Nat.reduceEqDiff,Int.reduceAdd,Int.reduceSub,Int.reduceMul,Int.reduceNeg,Int.reduceLT,Int.reduceLE,Int.reduceEq,Int.reduceToNat,Int.cast_ofNat_Int,↓reduceIte, *]) <;> simp [oft]
end Go.Proofs.Ytalaadcbpjnglaa
namespace Go.Proofs.Ytalaadcbpjnglaa
open Go Go.AM Go.Proofs
theorem Acc_empty {α : Type} [Rep α] {L : Nat} {p q : Nat → Prop} {H : Heap} {v : AV} (h : Sl p H v ([] : List α)) (hp : ∀ b, p b → L ≤ b) : Acc L q H v ([] : List α) := by
  rcases h with h | ⟨b, o, c, k, e, hb, hk, h1, h2, h3⟩
  · exact .inl h
  · exact .inr ⟨b, o, c, k, e, hp _ hb, hk, h1, h2, fun i hi => by simp at hi⟩
theorem grow0_ret {H : Heap} {n : Int} (h0 : 0 ≤ n) (h1 : n ≤ 1000000) : Ret E 106 [.nils, .i n] (fun _ => False) H ([] : List Int) := by
  refine Ret.ro rfl fn106 rfl ?_
  unfold f106A
  have hc : zx162 .nils = some (.i 0) := rfl
  by_cases hn : 0 < n
  · have hmb : mostBytes = 1099511627776 := by decide
    have hs : slV 1 .nils none (some (.i 0)) none = some .nils := rfl
    have ha : appendzV H.length 1 8 [.int .i64 0] .nils (.i n) H = some (.s 1 H.length 0 n.toNat none, H ++ [.cells (reps n.toNat [.int .i64 0])]) := by
      simp only [appendzV]
      rw [if_pos ⟨h0, by omega, by rw [hmb]; omega, rfl⟩]
      simp only [appendA]
      rw [if_neg (by omega), if_pos (by rw [hmb]; omega)]
    have hs2 : slV 1 (.s 1 H.length 0 n.toNat none) none (some (.i 0)) none = some (.s 1 H.length 0 0 none) := by
      simp [slV, Go.AM.lenA, boundV, sliceA, show 0 ≤ max n 0 by omega]
    simp (disch := (first | assumption | omega | (simp only [List.length_append, List.length_cons, List.length_nil]; omega))) only [↓wD,wU,Nat.reduceBEq,zx150,zx151,zx159,zx160,zx161,zx162,Nat.reduceAdd,Nat.reduceSub,Nat.reduceMul,Nat.reduceLeDiff,Nat.reduceLT,Nat.reduceEqDiff,Int.reduceAdd,Int.reduceSub,Int.reduceMul,Int.reduceNeg,Int.reduceLT,Int.reduceLE,Int.reduceEq,Int.reduceToNat,Int.cast_ofNat_Int,↓reduceIte, *, hc, hs, Int.sub_zero, ha, hs2]
    exact .inr ⟨H.length, 0, none, reps n.toNat [.int .i64 0], rfl, by simp, by simp, by simp, by simp, fun i hi => by simp at hi⟩
  · simp (disch := (first | assumption | omega | (simp only [List.length_append, List.length_cons, List.length_nil]; omega))) only [↓wD,wU,Nat.reduceBEq,zx150,zx151,zx159,zx160,zx161,zx162,Nat.reduceAdd,Nat.reduceSub,Nat.reduceMul,Nat.reduceLeDiff,Nat.reduceLT,Nat.reduceEqDiff,Int.reduceAdd,Int.reduceSub,Int.reduceMul,Int.reduceNeg,Int.reduceLT,Int.reduceLE,Int.reduceEq,Int.reduceToNat,Int.cast_ofNat_Int,↓reduceIte, *, hc]
    exact Sl.nil
def lsum (ls : List (List Int)) : Nat := (ls.map List.length).sum
theorem lsum_take {ls : List (List Int)} {i : Nat} (h : i < ls.length) : lsum (ls.take (i + 1)) = lsum (ls.take i) + (gi ls i).length := by
  unfold lsum; rw [take_gi h]; simp [List.sum_append]
theorem lsum_le {ls : List (List Int)} {i : Nat} : lsum (ls.take i) ≤ lsum ls := by
  have e : lsum ls = lsum (ls.take i) + lsum (ls.drop i) := by
    conv => lhs; rw [← List.take_append_drop i ls]
    unfold lsum; rw [List.map_append, List.sum_append]
  omega
theorem len_flatten (ls : List (List Int)) : ls.flatten.length = lsum ls := by simp [lsum, List.length_flatten]
theorem concat_ret {p : Nat → Prop} {H : Heap} {v : AV} {ls : List (List Int)} (hl : Sl p H v ls) (hs : lsum ls ≤ 1000000) : Ret E 103 [v] (fun _ => False) H ls.flatten := by
  refine Ret.ro rfl fn103 rfl ?_
  unfold f103A
  have hb := hl.bound
  simp (disch := (first | assumption | omega | (simp only [List.length_append, List.length_cons, List.length_nil]; omega))) only [↓wD,wU,Nat.reduceBEq,zx150,zx151,zx159,zx160,zx161,zx162,Nat.reduceAdd,Nat.reduceSub,Nat.reduceMul,Nat.reduceLeDiff,Nat.reduceLT,Nat.reduceEqDiff,Int.reduceAdd,Int.reduceSub,Int.reduceMul,Int.reduceNeg,Int.reduceLT,Int.reduceLE,Int.reduceEq,Int.reduceToNat,Int.cast_ofNat_Int,↓reduceIte, *, hl.L]
  refine Wp.for ls.length (fun i a H' => H' = H ∧ a 0 = v ∧ a 9 = v ∧ a 10 = .i ls.length ∧ a 11 = .i i ∧ a 3 = .i (lsum (ls.take i))) ?_ ?_
  · rintro i a H' hi ⟨rfl, a0, a9, a10, a11, a3⟩ ih
    have hle := lsum_le (ls := ls) (i := i)
    simp (disch := (first | assumption | omega | (simp only [List.length_append, List.length_cons, List.length_nil]; omega))) only [↓wD,wU,Nat.reduceBEq,zx150,zx151,zx159,zx160,zx161,zx162,Nat.reduceAdd,Nat.reduceSub,Nat.reduceMul,Nat.reduceLeDiff,Nat.reduceLT,Nat.reduceEqDiff,Int.reduceAdd,Int.reduceSub,Int.reduceMul,Int.reduceNeg,Int.reduceLT,Int.reduceLE,Int.reduceEq,Int.reduceToNat,Int.cast_ofNat_Int,↓reduceIte, *]
    refine condP_split (fun hlt => ?_) (fun hlt => ?_)
    · have hi' : i < ls.length := by omega
      have g := hl.get (k := (i : Int)) (by omega) (by omega)
      have e := lsum_take hi'
      have hle2 := lsum_le (ls := ls) (i := i + 1)
      simp (disch := (first | assumption | omega | (simp only [List.length_append, List.length_cons, List.length_nil]; omega))) only [↓wD,wU,Nat.reduceBEq,zx150,zx151,zx159,zx160,zx161,zx162,Nat.reduceAdd,Nat.reduceSub,Nat.reduceMul,Nat.reduceLeDiff,Nat.reduceLT,Nat.reduceEqDiff,Int.reduceAdd,Int.reduceSub,Int.reduceMul,Int.reduceNeg,Int.reduceLT,Int.reduceLE,Int.reduceEq,Int.reduceToNat,Int.cast_ofNat_Int,↓reduceIte, *, hl.L, g.I]
      refine (ih hi').go ⟨rfl, ?_⟩
      simp (disch := (first | assumption | omega | (simp only [List.length_append, List.length_cons, List.length_nil]; omega))) only [↓wD,wU,Nat.reduceBEq,zx150,zx151,zx159,zx160,zx161,zx162,Nat.reduceAdd,Nat.reduceSub,Nat.reduceMul,Nat.reduceLeDiff,Nat.reduceLT,Nat.reduceEqDiff,Int.reduceAdd,Int.reduceSub,Int.reduceMul,Int.reduceNeg,Int.reduceLT,Int.reduceLE,Int.reduceEq,Int.reduceToNat,Int.cast_ofNat_Int,↓reduceIte, *]
    · obtain rfl : i = ls.length := by omega
      have e : ls.take ls.length = ls := List.take_length
      rw [e] at a3
      clear hlt hi ih
      simp (disch := (first | assumption | omega | (simp only [List.length_append, List.length_cons, List.length_nil]; omega))) only [↓wD,wU,Nat.reduceBEq,zx150,zx151,zx159,zx160,zx161,zx162,Nat.reduceAdd,Nat.reduceSub,Nat.reduceMul,Nat.reduceLeDiff,Nat.reduceLT,Nat.reduceEqDiff,Int.reduceAdd,Int.reduceSub,Int.reduceMul,Int.reduceNeg,Int.reduceLT,Int.reduceLE,Int.reduceEq,Int.reduceToNat,Int.cast_ofNat_Int,↓reduceIte, *]
      refine (grow0_ret (by omega) (by omega)).toF fun u H2 hg hu => ?_
      have hl2 := (hl.low.weak fun _ h => h.2).gr hg
      simp (disch := (first | assumption | omega | (simp only [List.length_append, List.length_cons, List.length_nil]; omega))) only [↓wD,wU,Nat.reduceBEq,zx150,zx151,zx159,zx160,zx161,zx162,Nat.reduceAdd,Nat.reduceSub,Nat.reduceMul,Nat.reduceLeDiff,Nat.reduceLT,Nat.reduceEqDiff,Int.reduceAdd,Int.reduceSub,Int.reduceMul,Int.reduceNeg,Int.reduceLT,Int.reduceLE,Int.reduceEq,Int.reduceToNat,Int.cast_ofNat_Int,↓reduceIte, *, hl.L, hl2.L]
      have ha0 : Acc H'.length (fun _ => True) H2 u ([] : List Int) := Acc_empty hu fun _ h => h
      refine Wp.for ls.length (fun i a H1 => ∃ u, a 6 = u ∧ a 25 = v ∧ a 26 = .i ls.length ∧ a 27 = .i i ∧ Gr H' H1 ∧ Acc H'.length (fun _ => True) H1 u (ls.take i).flatten) ?_ ?_
      · clear ha0 hu a0 a9 a10 a11 a3
        rintro i a H1 hi ⟨u, a6, a25, a26, a27, hg1, hu⟩ ih
        simp (disch := (first | assumption | omega | (simp only [List.length_append, List.length_cons, List.length_nil]; omega))) only [↓wD,wU,Nat.reduceBEq,zx150,zx151,zx159,zx160,zx161,zx162,Nat.reduceAdd,Nat.reduceSub,Nat.reduceMul,Nat.reduceLeDiff,Nat.reduceLT,Nat.reduceEqDiff,Int.reduceAdd,Int.reduceSub,Int.reduceMul,Int.reduceNeg,Int.reduceLT,Int.reduceLE,Int.reduceEq,Int.reduceToNat,Int.cast_ofNat_Int,↓reduceIte, *]
        refine condP_split (fun hlt => ?_) (fun hlt => ?_)
        · have hi' : i < ls.length := by omega
          have hl1 := (hl.low.weak fun _ h => h.2).gr hg1
          have g := hl1.get (k := (i : Int)) (by omega) (by omega)
          simp (disch := (first | assumption | omega | (simp only [List.length_append, List.length_cons, List.length_nil]; omega))) only [↓wD,wU,Nat.reduceBEq,zx150,zx151,zx159,zx160,zx161,zx162,Nat.reduceAdd,Nat.reduceSub,Nat.reduceMul,Nat.reduceLeDiff,Nat.reduceLT,Nat.reduceEqDiff,Int.reduceAdd,Int.reduceSub,Int.reduceMul,Int.reduceNeg,Int.reduceLT,Int.reduceLE,Int.reduceEq,Int.reduceToNat,Int.cast_ofNat_Int,↓reduceIte, *, hl1.L, g.I]
          refine hu.extend (Nat.le_refl _) (by have := hg1.1; omega) g (fun b hb => ⟨trivial, fun e => by have := hu.blk_lt e; omega⟩) ?_ (by omega) fun u' H3 hu' hk => ?_
          · have e := lsum_take hi'
            have hle2 := lsum_le (ls := ls) (i := i + 1)
            rw [len_flatten, ← e]; omega
          · simp (disch := (first | assumption | omega | (simp only [List.length_append, List.length_cons, List.length_nil]; omega))) only [↓wD,wU,Nat.reduceBEq,zx150,zx151,zx159,zx160,zx161,zx162,Nat.reduceAdd,Nat.reduceSub,Nat.reduceMul,Nat.reduceLeDiff,Nat.reduceLT,Nat.reduceEqDiff,Int.reduceAdd,Int.reduceSub,Int.reduceMul,Int.reduceNeg,Int.reduceLT,Int.reduceLE,Int.reduceEq,Int.reduceToNat,Int.cast_ofNat_Int,↓reduceIte, *]
            refine (ih hi').go ⟨u', ?_⟩
            simp (disch := (first | assumption | omega | (simp only [List.length_append, List.length_cons, List.length_nil]; omega))) only [↓wD,wU,Nat.reduceBEq,zx150,zx151,zx159,zx160,zx161,zx162,Nat.reduceAdd,Nat.reduceSub,Nat.reduceMul,Nat.reduceLeDiff,Nat.reduceLT,Nat.reduceEqDiff,Int.reduceAdd,Int.reduceSub,Int.reduceMul,Int.reduceNeg,Int.reduceLT,Int.reduceLE,Int.reduceEq,Int.reduceToNat,Int.cast_ofNat_Int,↓reduceIte, *]
            refine ⟨hg1.push hu (Nat.le_refl _) hk, ?_⟩
            rw [take_gi hi', List.flatten_append]
            simpa using hu'
        · obtain rfl : i = ls.length := by omega
          simp (disch := (first | assumption | omega | (simp only [List.length_append, List.length_cons, List.length_nil]; omega))) only [↓wD,wU,Nat.reduceBEq,zx150,zx151,zx159,zx160,zx161,zx162,Nat.reduceAdd,Nat.reduceSub,Nat.reduceMul,Nat.reduceLeDiff,Nat.reduceLT,Nat.reduceEqDiff,Int.reduceAdd,Int.reduceSub,Int.reduceMul,Int.reduceNeg,Int.reduceLT,Int.reduceLE,Int.reduceEq,Int.reduceToNat,Int.cast_ofNat_Int,↓reduceIte, *]
          rw [e] at hu
          rcases hu with h | ⟨b, o, c, k, e, hb, hk, h1, h2, h3⟩
          · exact .inl h
          · exact .inr ⟨b, o, c, k, e, .inr hb, hk, h1, h2, h3⟩
      · simp (disch := (first | assumption | omega | (simp only [List.length_append, List.length_cons, List.length_nil]; omega))) only [↓wD,wU,Nat.reduceBEq,zx150,zx151,zx159,zx160,zx161,zx162,Nat.reduceAdd,Nat.reduceSub,Nat.reduceMul,Nat.reduceLeDiff,Nat.reduceLT,Nat.reduceEqDiff,Int.reduceAdd,Int.reduceSub,Int.reduceMul,Int.reduceNeg,Int.reduceLT,Int.reduceLE,Int.reduceEq,Int.reduceToNat,Int.cast_ofNat_Int,↓reduceIte, *]
        exact ⟨u, rfl, by first | exact ha0 | exact ⟨hg, ha0⟩⟩
  · (simp (disch := (first | assumption | omega | (simp only [List.length_append, List.length_cons, List.length_nil]; omega))) only [↓wD,wU,Nat.reduceBEq,zx150,zx151,zx159,zx160,zx161,zx162,Nat.reduceAdd,Nat.reduceSub,Nat.reduceMul,Nat.reduceLeDiff,Nat.reduceLT,Nat.reduceEqDiff,Int.reduceAdd,Int.reduceSub,Int.reduceMul,Int.reduceNeg,Int.reduceLT,Int.reduceLE,Int.reduceEq,Int.reduceToNat,Int.cast_ofNat_Int,↓reduceIte, *]) <;> simp [lsum]
end Go.Proofs.Ytalaadcbpjnglaa
namespace Go.Proofs.Ytalaadcbpjnglaa
open Go Go.AM Go.Proofs
def rng (x n : Int) : List Int := (List.range (n - x).toNat).map fun i : Nat => x + (i : Int)
def sufs (r : Bool) (n : Int) : Nat → Int → List (List Int)
  | 0, _ => [[]]
  | t + 1, x => (rng x n).flatMap fun y => (sufs r n t (if r = true then y + 1 else 0)).map (y :: ·)
def frm (r : Bool) (l : List Int) : Int := if r = true ∧ 0 < l.length then gi l ((l.length : Int) - 1) + 1 else 0
theorem gi_last {l : List Int} {x : Int} : gi (l ++ [x]) (((l ++ [x]).length : Int) - 1) = x := by
  have e : (((l ++ [x]).length : Int) - 1) = ((l.length : Nat) : Int) := by simp
  rw [e, gi_nat (by simp)]; simp
theorem frm_app (r : Bool) (l : List Int) (x : Int) : frm r (l ++ [x]) = if r = true then x + 1 else 0 := by
  unfold frm
  rw [gi_last]
  cases r <;> simp
theorem rng_cons {x n : Int} (h : x < n) : rng x n = x :: rng (x + 1) n := by
  unfold rng
  have e : (n - x).toNat = (n - (x + 1)).toNat + 1 := by omega
  rw [e, List.range_succ_eq_map]
  simp only [List.map_cons, List.map_map]
  congr 1
  · simp
  · apply List.map_congr_left
    intro i _
    simp; omega
theorem rng_nil {x n : Int} (h : n ≤ x) : rng x n = [] := by
  unfold rng
  have e : (n - x).toNat = 0 := by omega
  rw [e]; rfl
/-- the items behind l, from x on -/
def rest (r : Bool) (n : Int) (t : Nat) (l : List Int) (x : Int) : List (List Int) := (rng x n).flatMap fun y => (sufs r n t (frm r (l ++ [y]))).map ((l ++ [y]) ++ ·)
theorem sufs_rest (r : Bool) (n : Int) (t : Nat) (l : List Int) : (sufs r n (t + 1) (frm r l)).map (l ++ ·) = rest r n t l (frm r l) := by
  simp only [sufs, rest, List.map_flatMap, List.map_map, frm_app]
  congr 1
  funext y
  apply List.map_congr_left
  intro s _
  simp
theorem rest_cons {r : Bool} {n : Int} {t : Nat} {l : List Int} {x : Int} (h : x < n) : rest r n t l x = (sufs r n t (frm r (l ++ [x]))).map ((l ++ [x]) ++ ·) ++ rest r n t l (x + 1) := by
  unfold rest; rw [rng_cons h]; rfl
theorem rest_nil {r : Bool} {n : Int} {t : Nat} {l : List Int} {x : Int} (h : n ≤ x) : rest r n t l x = [] := by
  unfold rest; rw [rng_nil h]; rfl
/-- what grow reads: its variables -/
structure Vars (K : Nat → Prop) (H : Heap) (y : AV) (r : Bool) (n t : Int) (bt bY br bn bg : Nat) : Prop where
  t : H[bt]? = some (.cells [.i t]) ∧ ¬ K bt
  y : H[bY]? = some (.cells [y]) ∧ ¬ K bY
  r : H[br]? = some (.cells [.b r]) ∧ ¬ K br
  n : H[bn]? = some (.cells [.i n]) ∧ ¬ K bn
  g : H[bg]? = some (.cells [.fn 97 [] [.p bt 0, .p bY 0, .p br 0, .p bn 0, .p bg 0]]) ∧ ¬ K bg
theorem Vars.mono {K K' : Nat → Prop} {H H' : Heap} {y : AV} {r : Bool} {n t : Int} {bt bY br bn bg : Nat} (h : Vars K H y r n t bt bY br bn bg) (hk : Kx (fun b => ¬ K b) H H') (hK : ∀ b, b < H.length → K' b → K b) : Vars K' H' y r n t bt bY br bn bg :=
  ⟨⟨hk.get h.t.2 h.t.1, fun q => h.t.2 (hK _ (List.getElem?_eq_some_iff.1 h.t.1).1 q)⟩, ⟨hk.get h.y.2 h.y.1, fun q => h.y.2 (hK _ (List.getElem?_eq_some_iff.1 h.y.1).1 q)⟩, ⟨hk.get h.r.2 h.r.1, fun q => h.r.2 (hK _ (List.getElem?_eq_some_iff.1 h.r.1).1 q)⟩, ⟨hk.get h.n.2 h.n.1, fun q => h.n.2 (hK _ (List.getElem?_eq_some_iff.1 h.n.1).1 q)⟩, ⟨hk.get h.g.2 h.g.1, fun q => h.g.2 (hK _ (List.getElem?_eq_some_iff.1 h.g.1).1 q)⟩⟩
theorem grow_ok {lo B : Nat} {y : AV} {r : Bool} {n : Int} {t : Nat} {bt bY br bn bg : Nat} (hlo : lo ≤ B) (ht : t ≤ 1000000) (hn : n ≤ 1000000) :
    ∀ (m : Nat) (l : List Int) (v : AV) (K : Nat → Prop) (H : Heap) (Q : Bool → (Nat → Prop) → Heap → Prop), l.length + m = t → (∀ x ∈ l, 0 ≤ x ∧ x < n) → Vars K H y r n t bt bY br bn bg → Sl (fun b => B ≤ b ∧ ¬ K b) H v l → (∀ b, K b → b < H.length) → B ≤ H.length →
      Its E lo y B ArgI Q ((sufs r n m (frm r l)).map (l ++ ·)) K H →
      WpF E lo 97 [v, .p bt 0, .p bY 0, .p br 0, .p bn 0, .p bg 0] H fun u H' => ∃ ok K', u = .b ok ∧ Q ok K' H' ∧ Kx (fun b => ¬ K b ∧ v.blk ≠ some b) H H' ∧ ∀ b, K' b → b < H'.length ∧ (b < H.length → K b ∨ v.blk = some b) := by
  intro m
  induction m with
  | zero =>
    intro l v K H Q hl hb hv hs hK hB hI
    refine WpF.wrt rfl fn97 rfl ?_
    unfold f97A
    have e : (l.length : Int) = t := by omega
    simp (disch := (first | assumption | omega | (simp only [List.length_append, List.length_cons, List.length_nil]; omega))) only [↓wD,wU,Nat.reduceBEq,zx150,zx151,zx159,zx160,zx161,zx162,Nat.reduceAdd,Nat.reduceSub,Nat.reduceMul,Nat.reduceLeDiff,Nat.reduceLT,Nat.reduceEqDiff,Int.reduceAdd,Int.reduceSub,Int.reduceMul,Int.reduceNeg,Int.reduceLT,Int.reduceLE,Int.reduceEq,Int.reduceToNat,Int.cast_ofNat_Int,↓reduceIte, *, hs.I, ld_of hv.t.1, ld_of hv.y.1]
    refine callvI ((hI H (fun b => v.blk = some b) [v] (Kx.refl _ _) ⟨v, rfl, ?_⟩ ?_).mono ?_)
    · simp only [List.append_nil]; exact hs.own
    · exact fun b e => ⟨(hs.blkp e).1.1, (hs.blkp e).2, (hs.blkp e).1.2⟩
    · rintro u H2 ⟨hx, hc⟩
      rcases hc with ⟨rfl, hc⟩ | ⟨rfl, hc⟩
      · simp (disch := (first | assumption | omega | (simp only [List.length_append, List.length_cons, List.length_nil]; omega))) only [↓wD,wU,Nat.reduceBEq,zx150,zx151,zx159,zx160,zx161,zx162,Nat.reduceAdd,Nat.reduceSub,Nat.reduceMul,Nat.reduceLeDiff,Nat.reduceLT,Nat.reduceEqDiff,Int.reduceAdd,Int.reduceSub,Int.reduceMul,Int.reduceNeg,Int.reduceLT,Int.reduceLE,Int.reduceEq,Int.reduceToNat,Int.cast_ofNat_Int,↓reduceIte, *]
        refine ⟨true, _, rfl, Its.none hc, hx.weak fun b _ h q => q.elim h.1 h.2, ?_⟩
        rintro b (h | h | h)
        · exact ⟨by have := hK b h; have := hx.1; omega, fun _ => .inl h⟩
        · exact ⟨by have := (hs.blkp h).2; have := hx.1; omega, fun _ => .inr h⟩
        · exact ⟨h.2, fun q => by omega⟩
      · simp (disch := (first | assumption | omega | (simp only [List.length_append, List.length_cons, List.length_nil]; omega))) only [↓wD,wU,Nat.reduceBEq,zx150,zx151,zx159,zx160,zx161,zx162,Nat.reduceAdd,Nat.reduceSub,Nat.reduceMul,Nat.reduceLeDiff,Nat.reduceLT,Nat.reduceEqDiff,Int.reduceAdd,Int.reduceSub,Int.reduceMul,Int.reduceNeg,Int.reduceLT,Int.reduceLE,Int.reduceEq,Int.reduceToNat,Int.cast_ofNat_Int,↓reduceIte, *]
        refine ⟨false, _, rfl, hc _ (Kx.refl _ _), hx.weak fun b _ h q => q.elim h.1 h.2, ?_⟩
        rintro b (h | h | h)
        · exact ⟨by have := hK b h; have := hx.1; omega, fun _ => .inl h⟩
        · exact ⟨by have := (hs.blkp h).2; have := hx.1; omega, fun _ => .inr h⟩
        · exact ⟨h.2, fun q => by omega⟩
  | succ m ihm =>
    intro l v K H Q hl hb hv hs hK hB hI
    refine WpF.wrt rfl fn97 rfl ?_
    unfold f97A
    have e : ¬ (l.length : Int) = t := by omega
    rw [sufs_rest] at hI
    obtain ⟨x0, hx0⟩ : ∃ x0, frm r l = x0 := ⟨_, rfl⟩
    rw [hx0] at hI
    have hg : 0 ≤ x0 ∧ x0 ≤ 1000000 ∧ ((r = false ∧ x0 ≤ 0) ∨ (r = true ∧ l.length ≤ 0 ∧ x0 ≤ 0) ∨ (r = true ∧ 0 < l.length ∧ 0 ≤ gi l ((l.length : Int) - 1) ∧ gi l ((l.length : Int) - 1) < n ∧ x0 ≤ gi l ((l.length : Int) - 1) + 1 ∧ gi l ((l.length : Int) - 1) + 1 ≤ x0)) := by
      subst hx0
      cases r
      · simp [frm]
      · by_cases h0 : l.length = 0
        · simp [frm, h0]
        · have := hb _ (gi_mem (xs := l) (k := (l.length : Int) - 1) (by omega) (by omega))
          have e : frm true l = gi l ((l.length : Int) - 1) + 1 := by unfold frm; rw [if_pos ⟨rfl, by omega⟩]
          rw [e]
          exact ⟨by omega, by omega, .inr (.inr ⟨rfl, by omega, this.1, this.2, Int.le_refl _, Int.le_refl _⟩)⟩
    clear hx0
    have hln := hs.bound
    obtain ⟨f1, f2, hg⟩ := hg
    rcases hg with ⟨hr, g1⟩ | ⟨hr, g1, g2⟩ | ⟨hr, g1, g2, g3, g4, g5⟩
    all_goals simp (disch := (first | assumption | omega | (simp only [List.length_append, List.length_cons, List.length_nil]; omega))) only [↓wD,wU,Nat.reduceBEq,zx150,zx151,zx159,zx160,zx161,zx162,Nat.reduceAdd,Nat.reduceSub,Nat.reduceMul,Nat.reduceLeDiff,Nat.reduceLT,Nat.reduceEqDiff,Int.reduceAdd,Int.reduceSub,Int.reduceMul,Int.reduceNeg,Int.reduceLT,Int.reduceLE,Int.reduceEq,Int.reduceToNat,Int.cast_ofNat_Int,↓reduceIte, *, hs.I, ld_of hv.t.1, ld_of hv.y.1, ld_of hv.r.1]
    all_goals clear hr
    all_goals
      refine Wp.for (n - x0).toNat (fun i a H1 => a 0 = v ∧ a 1 = .p bt 0 ∧ a 2 = .p bY 0 ∧ a 3 = .p br 0 ∧ a 4 = .p bn 0 ∧ a 5 = .p bg 0 ∧ (∃ x, a 9 = .i x ∧ x ≤ x0 + i ∧ x0 + i ≤ x) ∧ ∃ K1, Its E lo y B ArgI Q (rest r n m l (x0 + i)) K1 H1 ∧ Kx (fun b => ¬ K b) H H1 ∧ ∀ b, K1 b → b < H1.length ∧ (b < H.length → K b)) ?_ ?_
      · rintro i a H1 hi ⟨a0, a1, a2, a3, a4, a5, ⟨x, a9, hxa, hxb⟩, K1, hI1, hx1, hK1⟩ ih
        rw [Int.le_antisymm hxb hxa] at hI1
        have hv1 := hv.mono hx1 fun b h q => (hK1 b q).2 h
        have hs1 : Sl (fun b => B ≤ b ∧ ¬ K1 b) H1 v l := (hs.low.mono (hx1.weak fun b _ h => h.1.2).kp fun b h => ⟨h.1.1, fun q => h.1.2 ((hK1 b q).2 h.2)⟩)
        simp (disch := (first | assumption | omega | (simp only [List.length_append, List.length_cons, List.length_nil]; omega))) only [↓wD,wU,Nat.reduceBEq,zx150,zx151,zx159,zx160,zx161,zx162,Nat.reduceAdd,Nat.reduceSub,Nat.reduceMul,Nat.reduceLeDiff,Nat.reduceLT,Nat.reduceEqDiff,Int.reduceAdd,Int.reduceSub,Int.reduceMul,Int.reduceNeg,Int.reduceLT,Int.reduceLE,Int.reduceEq,Int.reduceToNat,Int.cast_ofNat_Int,↓reduceIte, *, ld_of hv1.n.1]
        refine condP_split (fun hlt => ?_) (fun hlt => ?_)
        · have hi' : i < (n - x0).toNat := by omega
          obtain ⟨u, hu1, hu2⟩ := hs1.clip (by omega)
          rw [rest_cons hlt] at hI1
          have hI2 := Its.append hI1
          simp (disch := (first | assumption | omega | (simp only [List.length_append, List.length_cons, List.length_nil]; omega))) only [↓wD,wU,Nat.reduceBEq,zx150,zx151,zx159,zx160,zx161,zx162,Nat.reduceAdd,Nat.reduceSub,Nat.reduceMul,Nat.reduceLeDiff,Nat.reduceLT,Nat.reduceEqDiff,Int.reduceAdd,Int.reduceSub,Int.reduceMul,Int.reduceNeg,Int.reduceLT,Int.reduceLE,Int.reduceEq,Int.reduceToNat,Int.cast_ofNat_Int,↓reduceIte, *]
          refine lpI (wpC ?_)
          simp (disch := (first | assumption | omega | (simp only [List.length_append, List.length_cons, List.length_nil]; omega))) only [↓wD,wU,Nat.reduceBEq,zx150,zx151,zx159,zx160,zx161,zx162,Nat.reduceAdd,Nat.reduceSub,Nat.reduceMul,Nat.reduceLeDiff,Nat.reduceLT,Nat.reduceEqDiff,Int.reduceAdd,Int.reduceSub,Int.reduceMul,Int.reduceNeg,Int.reduceLT,Int.reduceLE,Int.reduceEq,Int.reduceToNat,Int.cast_ofNat_Int,↓reduceIte, *, hs1.I, ld_of hv1.g.1, hu1 _ (.inl rfl), hu2 lo H1.length _ rfl]
          have e1 : (l ++ [x]).length = l.length + 1 := by simp
          have hv2 : Vars K1 (H1 ++ [Blk.cells [AV.i x], Blk.cells (List.map AV.i (l ++ [x]))]) y r n t bt bY br bn bg := hv1.mono (Kx.app _ _ _) fun _ _ h => h
          have hs2 : Sl (fun b => B ≤ b ∧ ¬ K1 b) (H1 ++ [Blk.cells [AV.i x], Blk.cells (List.map AV.i (l ++ [x]))]) (.s 1 (H1.length + 1) 0 (l.length + 1) none) (l ++ [x]) := by
            have hh1 := hx1.1
            have := Sl.litI (p := fun b => B ≤ b ∧ ¬ K1 b) (H := H1 ++ [Blk.cells [AV.i x], Blk.cells (List.map AV.i (l ++ [x]))]) (b := H1.length + 1) (c := none) (xs := l ++ [x]) (by simp) ⟨by omega, fun q => by have := (hK1 _ q).1; omega⟩ (by rw [e1]; omega)
            rwa [e1] at this
          refine callvI (WpV.fn (us := []) (vs := [_]) ((ihm (l ++ [x]) _ K1 _ _ (by rw [e1]; omega) ?_ hv2 hs2 (fun b q => by have := (hK1 b q).1; simp; omega) (by have := hx1.1; simp; omega) (hI2.keep (Kx.app _ _ _))).mono ?_))
          · intro z hz
            rcases List.mem_append.1 hz with hz | hz
            · exact hb z hz
            · simp at hz; subst hz; omega
          · rintro u' H' ⟨ok, K', rfl, hq, hx3, hK3⟩
            simp (disch := (first | assumption | omega | (simp only [List.length_append, List.length_cons, List.length_nil]; omega))) only [↓wD,wU,Nat.reduceBEq,zx150,zx151,zx159,zx160,zx161,zx162,Nat.reduceAdd,Nat.reduceSub,Nat.reduceMul,Nat.reduceLeDiff,Nat.reduceLT,Nat.reduceEqDiff,Int.reduceAdd,Int.reduceSub,Int.reduceMul,Int.reduceNeg,Int.reduceLT,Int.reduceLE,Int.reduceEq,Int.reduceToNat,Int.cast_ofNat_Int,↓reduceIte, *]
            refine chkI ?_ ?_
            · have q1 : (H1 ++ [Blk.cells [AV.i x]])[bg]? = _ := (Kx.app (fun _ => True) _ _).get trivial hv1.g.1
              have q2 : (H1 ++ [Blk.cells [AV.i x], Blk.cells (List.map AV.i l ++ [AV.i x])])[bg]? = _ := (Kx.app (fun _ => True) _ _).get trivial hv1.g.1
              simp [chk1, ev, Fr.upd, a5, ld_of q1, ld_of q2, sameO, AV.same_refl]
            · have hx2 : Kx (fun b => ¬ K b) H H' := by
                refine (hx1.app' [Blk.cells [AV.i x], Blk.cells (List.map AV.i (l ++ [x]))]).trans hx3 fun b hb h => ⟨fun q => h ((hK1 b q).2 hb), ?_⟩
                have hh1 := hx1.1
                intro e
                simp only [AV.blk, Option.some.injEq] at e
                omega
              have hK2 : ∀ b, K' b → b < H'.length ∧ (b < H.length → K b) := fun b q => ⟨(hK3 b q).1, fun hb => by
                have hh1 := hx1.1
                rcases (hK3 b q).2 (by simp only [List.length_append]; omega) with h | h
                · exact (hK1 b h).2 hb
                · simp only [AV.blk, Option.some.injEq] at h; omega⟩
              cases ok with
              | true =>
                simp (disch := (first | assumption | omega | (simp only [List.length_append, List.length_cons, List.length_nil]; omega))) only [↓wD,wU,Nat.reduceBEq,zx150,zx151,zx159,zx160,zx161,zx162,Nat.reduceAdd,Nat.reduceSub,Nat.reduceMul,Nat.reduceLeDiff,Nat.reduceLT,Nat.reduceEqDiff,Int.reduceAdd,Int.reduceSub,Int.reduceMul,Int.reduceNeg,Int.reduceLT,Int.reduceLE,Int.reduceEq,Int.reduceToNat,Int.cast_ofNat_Int,↓reduceIte, *]
                refine (ih hi').go ?_
                simp (disch := (first | assumption | omega | (simp only [List.length_append, List.length_cons, List.length_nil]; omega))) only [↓wD,wU,Nat.reduceBEq,zx150,zx151,zx159,zx160,zx161,zx162,Nat.reduceAdd,Nat.reduceSub,Nat.reduceMul,Nat.reduceLeDiff,Nat.reduceLT,Nat.reduceEqDiff,Int.reduceAdd,Int.reduceSub,Int.reduceMul,Int.reduceNeg,Int.reduceLT,Int.reduceLE,Int.reduceEq,Int.reduceToNat,Int.cast_ofNat_Int,↓reduceIte, *]
                exact ⟨⟨x + 1, rfl, by omega, by omega⟩, K', by rw [show x0 + ((i : Int) + 1) = x + 1 by omega]; exact hq.1 rfl, hK2⟩
              | false =>
                simp (disch := (first | assumption | omega | (simp only [List.length_append, List.length_cons, List.length_nil]; omega))) only [↓wD,wU,Nat.reduceBEq,zx150,zx151,zx159,zx160,zx161,zx162,Nat.reduceAdd,Nat.reduceSub,Nat.reduceMul,Nat.reduceLeDiff,Nat.reduceLT,Nat.reduceEqDiff,Int.reduceAdd,Int.reduceSub,Int.reduceMul,Int.reduceNeg,Int.reduceLT,Int.reduceLE,Int.reduceEq,Int.reduceToNat,Int.cast_ofNat_Int,↓reduceIte, *]
                exact ⟨false, K', rfl, hq.2 rfl, hx2.weak fun _ _ h => h.1, fun b q => ⟨(hK2 b q).1, fun hb => .inl ((hK2 b q).2 hb)⟩⟩
        · simp (disch := (first | assumption | omega | (simp only [List.length_append, List.length_cons, List.length_nil]; omega))) only [↓wD,wU,Nat.reduceBEq,zx150,zx151,zx159,zx160,zx161,zx162,Nat.reduceAdd,Nat.reduceSub,Nat.reduceMul,Nat.reduceLeDiff,Nat.reduceLT,Nat.reduceEqDiff,Int.reduceAdd,Int.reduceSub,Int.reduceMul,Int.reduceNeg,Int.reduceLT,Int.reduceLE,Int.reduceEq,Int.reduceToNat,Int.cast_ofNat_Int,↓reduceIte, *]
          rw [rest_nil (by omega)] at hI1
          exact ⟨true, K1, rfl, Its.none hI1, hx1.weak fun _ _ h => h.1, fun b q => ⟨(hK1 b q).1, fun hb => .inl ((hK1 b q).2 hb)⟩⟩
      · simp (disch := (first | assumption | omega | (simp only [List.length_append, List.length_cons, List.length_nil]; omega))) only [↓wD,wU,Nat.reduceBEq,zx150,zx151,zx159,zx160,zx161,zx162,Nat.reduceAdd,Nat.reduceSub,Nat.reduceMul,Nat.reduceLeDiff,Nat.reduceLT,Nat.reduceEqDiff,Int.reduceAdd,Int.reduceSub,Int.reduceMul,Int.reduceNeg,Int.reduceLT,Int.reduceLE,Int.reduceEq,Int.reduceToNat,Int.cast_ofNat_Int,↓reduceIte, *]
        rw [show x0 + 0 = x0 by omega]
        exact ⟨⟨_, rfl, by omega, by omega⟩, K, hI, Kx.refl _ _, fun b q => ⟨hK b q, fun _ => q⟩⟩
theorem tuples_it {lo : Nat} {y : AV} {r : Bool} {n : Int} {t : Nat} {bt br bn : Nat} {K : Nat → Prop} {H : Heap} {Q : Bool → (Nat → Prop) → Heap → Prop} (hlo : lo ≤ H.length) (ht : t ≤ 1000000) (hn : n ≤ 1000000) (hy : y.cells = [y] ∧ y.one = true)
    (h1 : H[bt]? = some (.cells [.i t]) ∧ ¬ K bt) (h2 : H[br]? = some (.cells [.b r]) ∧ ¬ K br) (h3 : H[bn]? = some (.cells [.i n]) ∧ ¬ K bn) (hK : ∀ b, K b → b < H.length)
    (hI : Its E lo y H.length ArgI Q (sufs r n t 0) K H) : WpF E lo 96 [y, .p bt 0, .p br 0, .p bn 0] H fun _ H' => ∃ ok K', Q ok K' H' := by
  refine WpF.wrt rfl fn96 rfl ?_
  unfold f96A
  simp (disch := (first | assumption | omega | (simp only [List.length_append, List.length_cons, List.length_nil]; omega))) only [↓wD,wU,Nat.reduceBEq,zx150,zx151,zx159,zx160,zx161,zx162,Nat.reduceAdd,Nat.reduceSub,Nat.reduceMul,Nat.reduceLeDiff,Nat.reduceLT,Nat.reduceEqDiff,Int.reduceAdd,Int.reduceSub,Int.reduceMul,Int.reduceNeg,Int.reduceLT,Int.reduceLE,Int.reduceEq,Int.reduceToNat,Int.cast_ofNat_Int,↓reduceIte, *]
  have hx : Kx (fun _ => True) H (H ++ [Blk.cells [y]] ++ [Blk.cells [AV.fn 97 [] [AV.p bt 0, AV.p (List.length H) 0, AV.p br 0, AV.p bn 0, AV.p (List.length H + 1) 0]]]) := (Kx.app _ _ _).app' _
  have hv : Vars K _ y r n t bt H.length br bn (H.length + 1) := ⟨⟨hx.get trivial h1.1, h1.2⟩, ⟨by simp, fun q => by have := hK _ q; omega⟩, ⟨hx.get trivial h2.1, h2.2⟩, ⟨hx.get trivial h3.1, h3.2⟩, ⟨by simp, fun q => by have := hK _ q; omega⟩⟩
  refine callvI (WpV.fn (us := []) (vs := [_]) ((grow_ok hlo ht hn t [] .nils K _ Q (by simp) nofun hv Sl.nil (fun b q => by have := hK b q; simp; omega) (by simp) ?_).mono ?_))
  · have e : (sufs r n t (frm r [])).map ([] ++ ·) = sufs r n t 0 := by
      rw [show frm r [] = 0 by simp [frm]]
      simp
    rw [e]
    exact hI.keep (hx.weak fun _ _ _ => trivial)
  · rintro u H' ⟨ok, K', rfl, hq, _⟩
    simp (disch := (first | assumption | omega | (simp only [List.length_append, List.length_cons, List.length_nil]; omega))) only [↓wD,wU,Nat.reduceBEq,zx150,zx151,zx159,zx160,zx161,zx162,Nat.reduceAdd,Nat.reduceSub,Nat.reduceMul,Nat.reduceLeDiff,Nat.reduceLT,Nat.reduceEqDiff,Int.reduceAdd,Int.reduceSub,Int.reduceMul,Int.reduceNeg,Int.reduceLT,Int.reduceLE,Int.reduceEq,Int.reduceToNat,Int.cast_ofNat_Int,↓reduceIte, *]
    exact ⟨ok, K', hq⟩
/-- what tuples returns -/
structure Tup where
  r : Bool
  n : Int
  t : Int
instance : RV Tup where
  rv p H v x := ∃ bt br bn, v = .fn 96 [] [.p bt 0, .p br 0, .p bn 0] ∧ (p bt ∧ p br ∧ p bn) ∧ H[bt]? = some (.cells [.i x.t]) ∧ H[br]? = some (.cells [.b x.r]) ∧ H[bn]? = some (.cells [.i x.n])
  mono := by
    rintro p q H H' v x ⟨bt, br, bn, rfl, hp, h1, h2, h3⟩ hk hq
    exact ⟨bt, br, bn, rfl, ⟨hq _ hp.1, hq _ hp.2.1, hq _ hp.2.2⟩, hk.2 _ _ hp.1 h1, hk.2 _ _ hp.2.1 h2, hk.2 _ _ hp.2.2 h3⟩
  pure := by
    rintro p q H H' v x ⟨bt, br, bn, rfl, _⟩ hp
    simp [AV.pure, AV.pureAll] at hp
theorem tuples_ret {H : Heap} {t n : Int} {r : Bool} : Ret E 72 [.i t, .i n, .b r] (fun _ => False) H (Tup.mk r n t) := by
  refine Ret.ro rfl fn72 rfl ?_
  unfold f72A
  simp (disch := (first | assumption | omega | (simp only [List.length_append, List.length_cons, List.length_nil]; omega))) only [↓wD,wU,Nat.reduceBEq,zx150,zx151,zx159,zx160,zx161,zx162,Nat.reduceAdd,Nat.reduceSub,Nat.reduceMul,Nat.reduceLeDiff,Nat.reduceLT,Nat.reduceEqDiff,Int.reduceAdd,Int.reduceSub,Int.reduceMul,Int.reduceNeg,Int.reduceLT,Int.reduceLE,Int.reduceEq,Int.reduceToNat,Int.cast_ofNat_Int,↓reduceIte, *]
  refine ⟨_, _, _, rfl, ?_, ?_⟩
  · simp; omega
  · refine ⟨by simp, ?_, by simp⟩
    rw [List.getElem?_append_right (by simp)]
    simp
end Go.Proofs.Ytalaadcbpjnglaa
namespace Go.Proofs.Ytalaadcbpjnglaa
open Go Go.AM Go.Proofs
/-- an item of all: a place, and how often it comes -/
def ArgA (Ki : Nat → Prop) (H : Heap) (args : List AV) (x : List Int × Nat) : Prop := ∃ u, args = [u, .i x.2] ∧ Sl Ki H u x.1
def allC (v : Int) (t : List (List Int)) (k : Nat) (cs : List Int) : List (List Int × Nat) := (sufs false v k 0).map fun ks => (cs ++ ks, oft t cs ks)
def allL (v : Int) (t : List (List Int)) (k : Nat) : List (List Int × Nat) := (sufs true (wd t) k 0).flatMap (allC v t k)
theorem rng_mem {x n y : Int} (h : y ∈ rng x n) : x ≤ y ∧ y < n := by
  simp only [rng, List.mem_map, List.mem_range] at h
  obtain ⟨i, hi, rfl⟩ := h
  omega
theorem sufs_len {r : Bool} {n : Int} : ∀ {t : Nat} {x : Int} {s : List Int}, s ∈ sufs r n t x → s.length = t
  | 0, x, s, h => by simp [sufs] at h; subst h; rfl
  | t + 1, x, s, h => by
    simp only [sufs, List.mem_flatMap, List.mem_map] at h
    obtain ⟨y, _, z, hz, rfl⟩ := h
    simp [sufs_len hz]
theorem sufs_in {r : Bool} {n : Int} : ∀ {t : Nat} {x : Int} {s : List Int}, 0 ≤ x → s ∈ sufs r n t x → ∀ c ∈ s, 0 ≤ c ∧ c < n
  | 0, x, s, _, h => by simp [sufs] at h; subst h; nofun
  | t + 1, x, s, hx, h => by
    simp only [sufs, List.mem_flatMap, List.mem_map] at h
    obtain ⟨y, hy, z, hz, rfl⟩ := h
    have h1 := rng_mem hy
    intro c hc
    rcases List.mem_cons.1 hc with rfl | hc
    · omega
    · exact sufs_in (by split <;> omega) hz c hc
theorem gset {b : Nat} {H H2 : Heap} {k k' : Blk} (e : H.set b k = H2) (h : H[b]? = some k') : H2[b]? = some k := by rw [← e]; exact get_set h
theorem all_it {lo : Nat} {y rows : AV} {v : Int} {t : List (List Int)} {k bt ba : Nat} {K : Nat → Prop} {H : Heap} {Q : Bool → (Nat → Prop) → Heap → Prop} (hlo : lo ≤ H.length) (hy : y.cells = [y] ∧ y.one = true)
    (h1 : H[bt]? = some (.cells [.i k]) ∧ ¬ K bt) (h2 : H[ba]? = some (.cells [.i v, rows]) ∧ ¬ K ba) (hr : Sl (fun b => ¬ K b) H rows t) (hA : ArrP v t) (hk : k ≤ 3) (hK : ∀ b, K b → b < H.length)
    (hI : Its E lo y H.length ArgA Q (allL v t k) K H) : WpF E lo 102 [y, .p bt 0, .p ba 0] H fun _ H' => ∃ ok K', Q ok K' H' := by
  refine WpF.wrt rfl fn102 rfl ?_
  unfold f102A
  have hwd := hA.wd
  have hv1 := hA.1
  have hv2 := hA.2.1
  have x1 : Kx (fun _ => True) H (H ++ [.cells [y]]) := Kx.app _ _ _
  have hr1 := hr.app [.cells [y]]
  simp (disch := (first | assumption | omega | (simp only [List.length_append, List.length_cons, List.length_nil]; omega))) only [↓wD,wU,Nat.reduceBEq,zx150,zx151,zx159,zx160,zx161,zx162,Nat.reduceAdd,Nat.reduceSub,Nat.reduceMul,Nat.reduceLeDiff,Nat.reduceLT,Nat.reduceEqDiff,Int.reduceAdd,Int.reduceSub,Int.reduceMul,Int.reduceNeg,Int.reduceLT,Int.reduceLE,Int.reduceEq,Int.reduceToNat,Int.cast_ofNat_Int,↓reduceIte, *, ld_of (x1.get trivial h1.1), ldn_of (x1.get trivial h2.1), (columns_ret hr1 hA.2.2.1).call]
  refine (tuples_ret).toX fun w Hr hg hw => ?_
  obtain ⟨b1, b2, b3, rfl, hp, c1, c2, c3⟩ := hw
  have hp1 : H.length < b1 := by have := hp.1; simp at this; omega
  have hp2 : H.length < b2 := by have := hp.2.1; simp at this; omega
  have hp3 : H.length < b3 := by have := hp.2.2; simp at this; omega
  clear hp
  have x2 : Kx (fun _ => True) H Hr := x1.trans hg fun _ _ _ => trivial
  have d1 := x2.get trivial h1.1
  have d2 := x2.get trivial h2.1
  have d3 : Hr[H.length]? = some (.cells [y]) := hg.get trivial (by simp)
  have hHr : H.length < Hr.length := (List.getElem?_eq_some_iff.1 d3).1
  have hr2 : Sl (fun b => b < H.length ∧ ¬ K b) Hr rows t := (hr.low.weak fun b h => ⟨h.2, h.1⟩).kp x2.kp.weakT
  clear hg hr1 x1
  simp (disch := (first | assumption | omega | (simp only [List.length_append, List.length_cons, List.length_nil]; omega))) only [↓wD,wU,Nat.reduceBEq,zx150,zx151,zx159,zx160,zx161,zx162,Nat.reduceAdd,Nat.reduceSub,Nat.reduceMul,Nat.reduceLeDiff,Nat.reduceLT,Nat.reduceEqDiff,Int.reduceAdd,Int.reduceSub,Int.reduceMul,Int.reduceNeg,Int.reduceLT,Int.reduceLE,Int.reduceEq,Int.reduceToNat,Int.cast_ofNat_Int,↓reduceIte, *]
  refine Wp.range (A := ArgI) (sufs true (wd t) k 0) K (fun i K1 H1 => ∃ Kc, Its E lo y H.length ArgA Q (((sufs true (wd t) k 0).drop i).flatMap (allC v t k)) Kc H1 ∧ ∀ b, Kc b → K1 b ∧ (b < Hr.length → K b))
    (fun j K1 H1 => j = .ret ∧ ∃ Kc, (∀ b, Kc b → K1 b) ∧ ∀ H3, Kx (fun b => b < H.length ∨ Kc b) H1 H3 → Q false Kc H3) (by (simp (disch := (first | assumption | omega | (simp only [List.length_append, List.length_cons, List.length_nil]; omega))) only [↓wD,wU,Nat.reduceBEq,zx150,zx151,zx159,zx160,zx161,zx162,Nat.reduceAdd,Nat.reduceSub,Nat.reduceMul,Nat.reduceLeDiff,Nat.reduceLT,Nat.reduceEqDiff,Int.reduceAdd,Int.reduceSub,Int.reduceMul,Int.reduceNeg,Int.reduceLT,Int.reduceLE,Int.reduceEq,Int.reduceToNat,Int.cast_ofNat_Int,↓reduceIte, *]) <;> rfl) rfl (by omega) (fun b h => by have := hK b h; omega) (by rintro _ _ _ _ ⟨u, rfl, _⟩; rfl) ?_ ?_ ?_ ?_ ?_ ?_ ?_
  · intro K' H1 Q' e hx hK' hI
    rw [← e] at hI
    have hne : ∀ b, H.length < b → b < Hr.length → ¬ K' b := fun b q1 q2 h => by
      rcases (hK' b).1 h with h | h
      · have := hK b h; omega
      · omega
    exact tuples_it (t := k) (n := (wd t : Int)) (by omega) (by omega) (by omega) ⟨rfl, rfl⟩ ⟨hx.get trivial c1, hne _ hp1 (List.getElem?_eq_some_iff.1 c1).1⟩ ⟨hx.get trivial c2, hne _ hp2 (List.getElem?_eq_some_iff.1 c2).1⟩ ⟨hx.get trivial c3, hne _ hp3 (List.getElem?_eq_some_iff.1 c3).1⟩ (fun b h => by
      rcases (hK' b).1 h with h | h
      · have := hK b h; omega
      · omega) hI
  · rintro i K1 H1 H2 ⟨Kc, q1, q2⟩ hx
    exact ⟨Kc, q1.keep (hx.weak fun b _ h => h.elim (fun h => .inl (by omega)) fun h => .inr (q2 b h).1), q2⟩
  · rintro j K1 H1 H2 ⟨rfl, Kc, q0, q1⟩ hx
    exact ⟨rfl, Kc, q0, fun H3 h3 => q1 H3 ((hx.weak fun b _ h => h.elim (fun h => .inl (by omega)) fun h => .inr (q0 b h)).trans h3 fun _ _ h => h)⟩
  · exact ⟨K, hI.keep (x2.all _), fun b h => ⟨h, fun _ => h⟩⟩
  · rintro i hi K1 Ki args H1 ⟨Kc, q1, q2⟩ ⟨cu, rfl, hcu⟩ hKi hK1 hx hl hl1 _
    rw [List.drop_eq_getElem_cons hi, List.flatMap_cons] at q1
    have q1' := Its.append q1
    clear q1
    have hcl := sufs_len (List.getElem_mem hi)
    have hcb := sufs_in (Int.le_refl 0) (List.getElem_mem hi)
    obtain ⟨cs, ecs⟩ : ∃ cs, (sufs true (wd t) k 0)[i] = cs := ⟨_, rfl⟩
    rw [ecs] at hcl hcb q1' hcu
    have f1 := hx.get ⟨(List.getElem?_eq_some_iff.1 d1).1, h1.2⟩ d1
    have f2 := hx.get ⟨(List.getElem?_eq_some_iff.1 d2).1, h2.2⟩ d2
    have f3 := hx.get ⟨hHr, fun q => by have := hK _ q; omega⟩ d3
    have e1 : (H1 ++ [Blk.cells [cu]])[Hr.length]? = _ := (Kx.app (fun _ => True) _ _).get trivial hl1
    simp (disch := (first | assumption | omega | (simp only [List.length_append, List.length_cons, List.length_nil]; omega))) only [↓wD,wU,Nat.reduceBEq,zx150,zx151,zx159,zx160,zx161,zx162,Nat.reduceAdd,Nat.reduceSub,Nat.reduceMul,Nat.reduceLeDiff,Nat.reduceLT,Nat.reduceEqDiff,Int.reduceAdd,Int.reduceSub,Int.reduceMul,Int.reduceNeg,Int.reduceLT,Int.reduceLE,Int.reduceEq,Int.reduceToNat,Int.cast_ofNat_Int,↓reduceIte, *, zx189, zx190, hcu.cellsV, zx188 (lo := lo) e1 (by omega)]
    generalize eH2 : (H1 ++ [Blk.cells [cu]]).set Hr.length _ = H2
    have x12 : Kx (fun b => b ≠ Hr.length) H1 H2 := by rw [← eH2]; exact Kx.set' (Kx.app _ _ _) (fun _ h => h rfl) _
    have n12 : H2.length = H1.length + 1 := by rw [← eH2]; simp
    have gl := gset eH2 e1
    have g4 : H2[H1.length]? = some (.cells [cu]) := by rw [← eH2, List.getElem?_set_ne (by omega)]; simp
    have lt1 := (List.getElem?_eq_some_iff.1 d1).1
    have ltb := (List.getElem?_eq_some_iff.1 h1.1).1
    have lta := (List.getElem?_eq_some_iff.1 h2.1).1
    have g1 := x12.get (by omega) f1
    have g2 := x12.get (by omega) f2
    have g3 := x12.get (by omega) f3
    clear eH2 e1
    simp (disch := (first | assumption | omega | (simp only [List.length_append, List.length_cons, List.length_nil]; omega))) only [↓wD,wU,Nat.reduceBEq,zx150,zx151,zx159,zx160,zx161,zx162,Nat.reduceAdd,Nat.reduceSub,Nat.reduceMul,Nat.reduceLeDiff,Nat.reduceLT,Nat.reduceEqDiff,Int.reduceAdd,Int.reduceSub,Int.reduceMul,Int.reduceNeg,Int.reduceLT,Int.reduceLE,Int.reduceEq,Int.reduceToNat,Int.cast_ofNat_Int,↓reduceIte, *, ld_of g1, ld_of g2]
    refine (tuples_ret).toX fun w3 H3 x23 hw => ?_
    obtain ⟨k1, k2, k3, rfl, hp, m1, m2, m3⟩ := hw
    have hp1 : H1.length < k1 := by have := hp.1; simp at this; omega
    have hp2 : H1.length < k2 := by have := hp.2.1; simp at this; omega
    have hp3 : H1.length < k3 := by have := hp.2.2; simp at this; omega
    clear hp
    have x13 : Kx (fun b => b ≠ Hr.length) H1 H3 := x12.trans x23 fun _ _ _ => trivial
    have gl3 := x23.get trivial gl
    have hl3 := x23.1
    have q2' : ∀ b, Kc b → b < H1.length ∧ b ≠ Hr.length ∧ (b < Hr.length → K b) ∧ ¬ Ki b := fun b h => ⟨(hK1 b (q2 b h).1).1, (hK1 b (q2 b h).1).2, (q2 b h).2, fun q => (hKi b q).2.2 (q2 b h).1⟩
    have hcu3 : Sl (fun b => b < H1.length ∧ Ki b) H3 cu cs := (hcu.low.weak fun b h => ⟨h.2, h.1⟩).kp (x13.weak fun b _ h => by have := (hKi b h.2).1; omega).kp
    have hr3 : Sl (fun b => b < H.length ∧ ¬ K b) H3 rows t := (hr2.kp (hx.weak fun b _ h => ⟨by omega, h.2⟩).kp).kp (x13.weak fun b _ h => by omega).kp
    have s1 := x23.get trivial g1
    have s2 := x23.get trivial g2
    have s3 := x23.get trivial g3
    have s4 := x23.get trivial g4
    simp (disch := (first | assumption | omega | (simp only [List.length_append, List.length_cons, List.length_nil]; omega))) only [↓wD,wU,Nat.reduceBEq,zx150,zx151,zx159,zx160,zx161,zx162,Nat.reduceAdd,Nat.reduceSub,Nat.reduceMul,Nat.reduceLeDiff,Nat.reduceLT,Nat.reduceEqDiff,Int.reduceAdd,Int.reduceSub,Int.reduceMul,Int.reduceNeg,Int.reduceLT,Int.reduceLE,Int.reduceEq,Int.reduceToNat,Int.cast_ofNat_Int,↓reduceIte, *]
    refine Wp.range (A := ArgI) (sufs false v k 0) Kc (fun j K2 H4 => ∃ Kc', Its E lo y H.length ArgA (fun ok K' H' => (ok = true → Its E lo y H.length ArgA Q (((sufs true (wd t) k 0).drop (i + 1)).flatMap (allC v t k)) K' H') ∧ (ok = false → Q false K' H')) ((allC v t k cs).drop j) Kc' H4 ∧ ∀ b, Kc' b → K2 b ∧ b < H4.length ∧ (b < H3.length → Kc b))
      (fun j K2 H4 => j = .ret ∧ ∃ Kc', (∀ b, Kc' b → K2 b ∧ b < H4.length ∧ (b < H3.length → Kc b)) ∧ ∀ H5, Kx (fun b => b < H.length ∨ Kc' b) H4 H5 → Q false Kc' H5) (by (simp (disch := (first | assumption | omega | (simp only [List.length_append, List.length_cons, List.length_nil]; omega))) only [↓wD,wU,Nat.reduceBEq,zx150,zx151,zx159,zx160,zx161,zx162,Nat.reduceAdd,Nat.reduceSub,Nat.reduceMul,Nat.reduceLeDiff,Nat.reduceLT,Nat.reduceEqDiff,Int.reduceAdd,Int.reduceSub,Int.reduceMul,Int.reduceNeg,Int.reduceLT,Int.reduceLE,Int.reduceEq,Int.reduceToNat,Int.cast_ofNat_Int,↓reduceIte, *]) <;> rfl) (mayL gl3 (by omega)) (by omega) (fun b h => by have := (q2' b h).1; omega) (by rintro _ _ _ _ ⟨u, rfl, _⟩; rfl) ?_ ?_ ?_ ?_ ?_ ?_ ?_
    · intro K' H4 Q' e hx' hK' hI
      rw [← e] at hI
      have hne : ∀ b, H1.length < b → b < H3.length → ¬ K' b := fun b q1 q2 h => by
        rcases (hK' b).1 h with h | h
        · have := (q2' b h).1; omega
        · omega
      exact tuples_it (t := k) (n := v) (by omega) (by omega) (by omega) ⟨rfl, rfl⟩ ⟨hx'.get trivial m1, hne _ hp1 (List.getElem?_eq_some_iff.1 m1).1⟩ ⟨hx'.get trivial m2, hne _ hp2 (List.getElem?_eq_some_iff.1 m2).1⟩ ⟨hx'.get trivial m3, hne _ hp3 (List.getElem?_eq_some_iff.1 m3).1⟩ (fun b h => by
        rcases (hK' b).1 h with h | h
        · have := (q2' b h).1; omega
        · omega) hI
    · rintro j K2 H4 H5 ⟨Kc', q1, q2⟩ hx
      exact ⟨Kc', q1.keep (hx.weak fun b _ h => h.elim (fun h => .inl (by omega)) fun h => .inr (q2 b h).1), fun b h => ⟨(q2 b h).1, by have := (q2 b h).2.1; have := hx.1; omega, (q2 b h).2.2⟩⟩
    · rintro j K2 H4 H5 ⟨rfl, Kc', q0, q1⟩ hx
      exact ⟨rfl, Kc', fun b h => ⟨(q0 b h).1, by have := (q0 b h).2.1; have := hx.1; omega, (q0 b h).2.2⟩, fun H6 h6 => q1 H6 ((hx.weak fun b _ h => h.elim (fun h => .inl (by omega)) fun h => .inr (q0 b h).1).trans h6 fun _ _ h => h)⟩
    · exact ⟨Kc, by rw [List.drop_zero]; exact q1'.keep (x13.weak fun b _ h => h.elim (fun h => by omega) fun h => (q2' b h).2.1), fun b h => ⟨h, by have := (q2' b h).1; omega, fun _ => h⟩⟩
    · rintro j hj K2 Ki2 args2 H4 ⟨Kc', q3, q4⟩ ⟨ku, rfl, hku⟩ hKi2 hK2 hx4 hl4 hl41 _
      have hj' : j < (allC v t k cs).length := by unfold allC; rw [List.length_map]; exact hj
      rw [List.drop_eq_getElem_cons hj'] at q3
      have hjl := sufs_len (List.getElem_mem hj)
      have ea : (allC v t k cs)[j] = (cs ++ (sufs false v k 0)[j], oft t cs (sufs false v k 0)[j]) := by simp [allC]
      rw [ea] at q3
      clear ea
      obtain ⟨ks, eks⟩ : ∃ ks, (sufs false v k 0)[j] = ks := ⟨_, rfl⟩
      rw [eks] at q3 hku hjl
      have u2 := hx4.get ⟨(List.getElem?_eq_some_iff.1 s2).1, fun q => h2.2 ((q2' _ q).2.2.1 (by omega))⟩ s2
      have u3 := hx4.get ⟨(List.getElem?_eq_some_iff.1 s3).1, fun q => by have := hK _ ((q2' _ q).2.2.1 hHr); omega⟩ s3
      have u4 := hx4.get ⟨(List.getElem?_eq_some_iff.1 s4).1, fun q => by have := (q2' _ q).1; omega⟩ s4
      have hcu4 := hcu3.kp (hx4.weak fun b _ h => ⟨by omega, fun q => (q2' _ q).2.2.2 h.2⟩).kp
      have hr4 := hr3.kp (hx4.weak fun b _ h => ⟨by omega, fun q => h.2 ((q2' _ q).2.2.1 (by omega))⟩).kp
      simp (disch := (first | assumption | omega | (simp only [List.length_append, List.length_cons, List.length_nil]; omega))) only [↓wD,wU,Nat.reduceBEq,zx150,zx151,zx159,zx160,zx161,zx162,Nat.reduceAdd,Nat.reduceSub,Nat.reduceMul,Nat.reduceLeDiff,Nat.reduceLT,Nat.reduceEqDiff,Int.reduceAdd,Int.reduceSub,Int.reduceMul,Int.reduceNeg,Int.reduceLT,Int.reduceLE,Int.reduceEq,Int.reduceToNat,Int.cast_ofNat_Int,↓reduceIte, *, zx188 (lo := lo) hl41 (by omega)]
      generalize e5 : H4.set H3.length _ = H5
      have x45 : Kx (fun b => b ≠ H3.length) H4 H5 := by rw [← e5]; exact Kx.set _ _ _
      have n45 : H5.length ≤ H4.length ∧ H4.length ≤ H5.length := by rw [← e5]; simp
      have gl5 := gset e5 hl41
      have w2 := x45.get (by omega) u2
      have w3 := x45.get (by omega) u3
      have w4 := x45.get (by omega) u4
      have hcu5 := hcu4.kp (x45.weak fun b _ h => by omega).kp
      have hku5 : Sl (fun b => b < H4.length ∧ Ki2 b) H5 ku ks := (hku.low.weak fun b h => ⟨h.2, h.1⟩).kp (x45.weak fun b _ h => by have := (hKi2 b h.2).1; omega).kp
      have hr5 := hr4.kp (x45.weak fun b _ h => by omega).kp
      clear e5
      simp (disch := (first | assumption | omega | (simp only [List.length_append, List.length_cons, List.length_nil]; omega))) only [↓wD,wU,Nat.reduceBEq,zx150,zx151,zx159,zx160,zx161,zx162,Nat.reduceAdd,Nat.reduceSub,Nat.reduceMul,Nat.reduceLeDiff,Nat.reduceLT,Nat.reduceEqDiff,Int.reduceAdd,Int.reduceSub,Int.reduceMul,Int.reduceNeg,Int.reduceLT,Int.reduceLE,Int.reduceEq,Int.reduceToNat,Int.cast_ofNat_Int,↓reduceIte, *, ld_of w2, ld_of w3, ld_of w4, hcu.cellsV, hku.cellsV]
      have hlit : Sl (fun _ => True) (H5 ++ [Blk.cells [cu, ku]]) (.s 1 H5.length 0 2 (some 2)) [cs, ks] := by
        refine Sl.litL (us := [cu, ku]) (xs := [cs, ks]) (b := H5.length) get_last trivial (show 2 ≤ 9223372036854775807 by omega) rfl fun i h1 h2 => ?_
        match i, h1, h2 with
        | 0, _, _ => exact (hcu5.app _).weak fun _ _ => trivial
        | 1, _, _ => exact (hku5.app _).weak fun _ _ => trivial
        | n + 2, h1, _ => exact absurd h1 (by simp)
      refine (concat_ret hlit (by simp [lsum]; omega)).toFX fun u H6 x56 hu => ?_
      have x56' : Kx (fun _ => True) H5 H6 := (Kx.app _ _ _).trans x56 fun _ _ _ => trivial
      have l56 : H5.length + 1 ≤ H6.length := by have := x56.1; simpa using this
      have v2 := x56'.get trivial w2
      have v3 := x56'.get trivial w3
      have v4 := x56'.get trivial w4
      have hcu6 := hcu5.kp (x56'.all _).kp
      have hku6 := hku5.kp (x56'.all _).kp
      have hr6 := hr5.kp (x56'.all _).kp
      have hu6 : Sl (fun b => H5.length + 1 ≤ b ∧ b < H6.length) H6 u (cs ++ ks) := by
        have := hu.low
        simp only [List.flatten_cons, List.flatten_nil, List.append_nil] at this
        exact this.weak fun b h => ⟨by have := h.1; simpa using this, h.2⟩
      have hof := often_ret (v := v) hr6 hcu6 hku6 (by omega) fun c hc => ⟨(hcb c hc).1, fun r hr => by rw [(hA.row hr).1]; exact (hcb c hc).2⟩
      simp (disch := (first | assumption | omega | (simp only [List.length_append, List.length_cons, List.length_nil]; omega))) only [↓wD,wU,Nat.reduceBEq,zx150,zx151,zx159,zx160,zx161,zx162,Nat.reduceAdd,Nat.reduceSub,Nat.reduceMul,Nat.reduceLeDiff,Nat.reduceLT,Nat.reduceEqDiff,Int.reduceAdd,Int.reduceSub,Int.reduceMul,Int.reduceNeg,Int.reduceLT,Int.reduceLE,Int.reduceEq,Int.reduceToNat,Int.cast_ofNat_Int,↓reduceIte, *, ld_of v2, ldn_of v2, ld_of v3, ld_of v4, hof.call]
      have hq4 : ∀ b, Kc' b → K2 b ∧ b < H4.length ∧ (b < H3.length → Kc b) := q4
      refine callvI ((q3 H6 (fun b => H5.length + 1 ≤ b ∧ b < H6.length) [u, .i (oft t cs ks)] ?_ ⟨u, rfl, hu6⟩ ?_).mono ?_)
      · exact x45.trans (x56'.all _) (fun _ _ _ => trivial) |>.weak fun b _ h => h.elim (fun h => by omega) fun h => (hK2 b (q4 b h).1).2
      · exact fun b h => ⟨by omega, h.2, fun q => by have := (q4 b q).2.1; omega⟩
      · rintro r H7 ⟨x67, hc⟩
        have x47 : Kx (fun b => ¬ (K2 b ∨ Ki2 b) ∧ b ≠ H3.length) H4 H7 := ((x45.trans (x56'.all _) fun _ _ _ => trivial).weak fun b _ h => h.2).trans x67 fun b hb h => fun q => q.elim (fun q => h.1 (.inl (q4 b q).1)) fun q => by omega
        have gl7 := x67.get (b := H3.length) (fun q => q.elim (fun q => (hK2 _ (q4 _ q).1).2 rfl) fun q => by omega) (x56'.get trivial gl5)
        have l67 := x67.1
        have hkn : ∀ b, Kn Kc' (fun b => H5.length + 1 ≤ b ∧ b < H6.length) H6 H7 b → Kn K2 Ki2 H4 H7 b ∧ b < H7.length ∧ (b < H3.length → Kc b) := by
          rintro b (h | h | h)
          · exact ⟨.inl (q4 b h).1, by have := (q4 b h).2.1; omega, (q4 b h).2.2⟩
          · exact ⟨.inr (.inr ⟨by omega, by omega⟩), by omega, fun q => by omega⟩
          · exact ⟨.inr (.inr ⟨by omega, by omega⟩), by omega, fun q => by omega⟩
        rcases hc with ⟨rfl, hc⟩ | ⟨rfl, hc⟩
        · simp (disch := (first | assumption | omega | (simp only [List.length_append, List.length_cons, List.length_nil]; omega))) only [↓wD,wU,Nat.reduceBEq,zx150,zx151,zx159,zx160,zx161,zx162,Nat.reduceAdd,Nat.reduceSub,Nat.reduceMul,Nat.reduceLeDiff,Nat.reduceLT,Nat.reduceEqDiff,Int.reduceAdd,Int.reduceSub,Int.reduceMul,Int.reduceNeg,Int.reduceLT,Int.reduceLE,Int.reduceEq,Int.reduceToNat,Int.cast_ofNat_Int,↓reduceIte, *]
          first | exact ⟨_, hc, hkn⟩ | exact ⟨gl7, x47, _, hc, hkn⟩
        · simp (disch := (first | assumption | omega | (simp only [List.length_append, List.length_cons, List.length_nil]; omega))) only [↓wD,wU,Nat.reduceBEq,zx150,zx151,zx159,zx160,zx161,zx162,Nat.reduceAdd,Nat.reduceSub,Nat.reduceMul,Nat.reduceLeDiff,Nat.reduceLT,Nat.reduceEqDiff,Int.reduceAdd,Int.reduceSub,Int.reduceMul,Int.reduceNeg,Int.reduceLT,Int.reduceLE,Int.reduceEq,Int.reduceToNat,Int.cast_ofNat_Int,↓reduceIte, *]
          first | exact ⟨_, hkn, fun H8 h8 => (hc H8 h8).2 rfl⟩ | exact ⟨gl7, x47, rfl, _, hkn, fun H8 h8 => (hc H8 h8).2 rfl⟩ | exact ⟨rfl, _, hkn, fun H8 h8 => (hc H8 h8).2 rfl⟩
    · rintro K2 H4 ⟨Kc', q3, q4⟩ hx4 hl4
      have gl4 := hx4.get ⟨(List.getElem?_eq_some_iff.1 gl3).1, fun q => (q2' _ q).2.1 rfl⟩ gl3
      rw [List.drop_of_length_le (l := allC v t k cs) (by unfold allC; rw [List.length_map]; exact Nat.le_refl _)] at q3
      have xx : Kx (fun b => ¬ (K1 b ∨ Ki b) ∧ b ≠ Hr.length) H1 H4 := (x13.weak fun b _ h => h.2).trans hx4 fun b hb h => ⟨by omega, fun q => h.1 (.inl (q2 b q).1)⟩
      have hkn : ∀ b, Kc' b → Kn K1 Ki H1 H4 b ∧ (b < Hr.length → K b) := fun b h => by
        by_cases hb : b < H3.length
        · exact ⟨.inl (q2 b ((q4 b h).2.2 hb)).1, fun q => (q2' b ((q4 b h).2.2 hb)).2.2.1 q⟩
        · exact ⟨.inr (.inr ⟨by omega, (q4 b h).2.1⟩), fun q => by omega⟩
      have q5 := q3.none.1 rfl
      simp (disch := (first | assumption | omega | (simp only [List.length_append, List.length_cons, List.length_nil]; omega))) only [↓wD,wU,Nat.reduceBEq,zx150,zx151,zx159,zx160,zx161,zx162,Nat.reduceAdd,Nat.reduceSub,Nat.reduceMul,Nat.reduceLeDiff,Nat.reduceLT,Nat.reduceEqDiff,Int.reduceAdd,Int.reduceSub,Int.reduceMul,Int.reduceNeg,Int.reduceLT,Int.reduceLE,Int.reduceEq,Int.reduceToNat,Int.cast_ofNat_Int,↓reduceIte, *]
      first | exact ⟨_, q5, hkn⟩ | exact ⟨gl4, xx, _, q5, hkn⟩
    · rintro j K2 H4 ⟨rfl, Kc', q3, q4⟩ hx4 hl4
      have gl4 := hx4.get ⟨(List.getElem?_eq_some_iff.1 gl3).1, fun q => (q2' _ q).2.1 rfl⟩ gl3
      have xx : Kx (fun b => ¬ (K1 b ∨ Ki b) ∧ b ≠ Hr.length) H1 H4 := (x13.weak fun b _ h => h.2).trans hx4 fun b hb h => ⟨by omega, fun q => h.1 (.inl (q2 b q).1)⟩
      have hkn : ∀ b, Kc' b → Kn K1 Ki H1 H4 b := fun b h => by
        by_cases hb : b < H3.length
        · exact .inl (q2 b ((q3 b h).2.2 hb)).1
        · exact .inr (.inr ⟨by omega, (q3 b h).2.1⟩)
      change Wp E lo _ (.code .ret :: _) _ _ _
      simp (disch := (first | assumption | omega | (simp only [List.length_append, List.length_cons, List.length_nil]; omega))) only [↓wD,wU,Nat.reduceBEq,zx150,zx151,zx159,zx160,zx161,zx162,Nat.reduceAdd,Nat.reduceSub,Nat.reduceMul,Nat.reduceLeDiff,Nat.reduceLT,Nat.reduceEqDiff,Int.reduceAdd,Int.reduceSub,Int.reduceMul,Int.reduceNeg,Int.reduceLT,Int.reduceLE,Int.reduceEq,Int.reduceToNat,Int.cast_ofNat_Int,↓reduceIte, *]
      first | exact ⟨_, hkn, q4⟩ | exact ⟨gl4, xx, rfl, _, hkn, q4⟩ | exact ⟨rfl, _, hkn, q4⟩
  · rintro K1 H1 ⟨Kc, q1, _⟩ hx hl
    simp (disch := (first | assumption | omega | (simp only [List.length_append, List.length_cons, List.length_nil]; omega))) only [↓wD,wU,Nat.reduceBEq,zx150,zx151,zx159,zx160,zx161,zx162,Nat.reduceAdd,Nat.reduceSub,Nat.reduceMul,Nat.reduceLeDiff,Nat.reduceLT,Nat.reduceEqDiff,Int.reduceAdd,Int.reduceSub,Int.reduceMul,Int.reduceNeg,Int.reduceLT,Int.reduceLE,Int.reduceEq,Int.reduceToNat,Int.cast_ofNat_Int,↓reduceIte, *]
    rw [List.drop_length] at q1
    exact ⟨true, Kc, q1.none⟩
  · rintro j K1 H1 ⟨rfl, Kc, q0, q1⟩ hx hl
    change Wp E lo none (.code .ret :: _) _ _ _
    simp (disch := (first | assumption | omega | (simp only [List.length_append, List.length_cons, List.length_nil]; omega))) only [↓wD,wU,Nat.reduceBEq,zx150,zx151,zx159,zx160,zx161,zx162,Nat.reduceAdd,Nat.reduceSub,Nat.reduceMul,Nat.reduceLeDiff,Nat.reduceLT,Nat.reduceEqDiff,Int.reduceAdd,Int.reduceSub,Int.reduceMul,Int.reduceNeg,Int.reduceLT,Int.reduceLE,Int.reduceEq,Int.reduceToNat,Int.cast_ofNat_Int,↓reduceIte, *]
    exact ⟨false, Kc, q1 _ (Kx.refl _ _)⟩
end Go.Proofs.Ytalaadcbpjnglaa
namespace Go.Proofs.Ytalaadcbpjnglaa
open Go Go.AM Go.Proofs
/-- what all returns -/
structure AllR where
  v : Int
  rows : AV
  k : Int
instance : RV AllR where
  rv p H w x := ∃ bt ba, w = .fn 102 [] [.p bt 0, .p ba 0] ∧ (p bt ∧ p ba) ∧ H[bt]? = some (.cells [.i x.k]) ∧ H[ba]? = some (.cells [.i x.v, x.rows])
  mono := by
    rintro p q H H' v x ⟨bt, ba, rfl, hp, h1, h2⟩ hk hq
    exact ⟨bt, ba, rfl, ⟨hq _ hp.1, hq _ hp.2⟩, hk.2 _ _ hp.1 h1, hk.2 _ _ hp.2 h2⟩
  pure := by
    rintro p q H H' v x ⟨bt, ba, rfl, _⟩ hp
    simp [AV.pure, AV.pureAll] at hp
theorem all_ret {H : Heap} {v k : Int} {rows : AV} (hr : rows.cells = [rows] ∧ rows.one = true) : Ret E 87 [.ag [.i v, rows], .i k] (fun _ => False) H (AllR.mk v rows k) := by
  refine Ret.ro rfl fn87 rfl ?_
  unfold f87A
  simp (disch := (first | assumption | omega | (simp only [List.length_append, List.length_cons, List.length_nil]; omega))) only [↓wD,wU,Nat.reduceBEq,zx150,zx151,zx159,zx160,zx161,zx162,Nat.reduceAdd,Nat.reduceSub,Nat.reduceMul,Nat.reduceLeDiff,Nat.reduceLT,Nat.reduceEqDiff,Int.reduceAdd,Int.reduceSub,Int.reduceMul,Int.reduceNeg,Int.reduceLT,Int.reduceLE,Int.reduceEq,Int.reduceToNat,Int.cast_ofNat_Int,↓reduceIte, *]
  refine ⟨_, _, rfl, ?_, ?_⟩
  · simp
  · simp
/-- the iterator, behind a range over it -/
theorem all_range {lo : Nat} {v : Int} {rows : AV} {t : List (List Int)} {k bt ba : Nat} {H0 Hr H1 : Heap} {K0 K : Nat → Prop} {Q : Bool → (Nat → Prop) → Heap → Prop} (hlo : lo ≤ Hr.length)
    (c1 : Hr[bt]? = some (.cells [.i k])) (c2 : Hr[ba]? = some (.cells [.i v, rows])) (n1 : ¬ K0 bt) (n2 : ¬ K0 ba) (hr : Sl (fun b => b < H0.length) H0 rows t) (hg : Kx (fun _ => True) H0 Hr) (hK0 : ∀ b, K0 b → H0.length ≤ b ∧ b < Hr.length)
    (hA : ArrP v t) (hk : k ≤ 3) (e : H1.length = Hr.length + 1) (hx : Kx (fun _ => True) Hr H1) (hK : ∀ b, K b ↔ K0 b ∨ b = Hr.length) (hI : Its E lo (.yl Hr.length) (Hr.length + 1) ArgA Q (allL v t k) K H1) :
    WpF E lo 102 ([] ++ .yl Hr.length :: [.p bt 0, .p ba 0]) H1 fun _ H' => ∃ ok K', Q ok K' H' := by
  rw [← e] at hI
  have b1 := (List.getElem?_eq_some_iff.1 c1).1
  have b2 := (List.getElem?_eq_some_iff.1 c2).1
  refine all_it (by omega) ⟨rfl, rfl⟩ ⟨hx.get trivial c1, fun q => ((hK _).1 q).elim n1 (by omega)⟩ ⟨hx.get trivial c2, fun q => ((hK _).1 q).elim n2 (by omega)⟩ (((hr.kp (hg.all _).kp).kp (hx.all _).kp).weak fun b h q => ?_) hA hk (fun b q => ?_) hI
  · rcases (hK b).1 q with q | q
    · have := (hK0 b q).1; omega
    · have := hg.1; omega
  · rcases (hK b).1 q with q | q
    · have := (hK0 b q).2; omega
    · omega
def coversB (v : Int) (t : List (List Int)) (k : Nat) : Bool := (allL v t k).all fun x => x.2 != 0
theorem argA_len : ∀ (Ki : Nat → Prop) (H1 : Heap) (args : List AV) (x : List Int × Nat), ArgA Ki H1 args x → args.length = 2 := by rintro _ _ _ _ ⟨u, rfl, _⟩; rfl
theorem covers_ret {p : Nat → Prop} {H : Heap} {rows : AV} {v : Int} {t : List (List Int)} {k : Nat} (ht : Sl p H rows t) (hA : ArrP v t) (h1 : 1 ≤ k) (h2 : k ≤ 3) (h3 : k ≤ wd t) :
    RetP E 46 [.ag [.i v, rows], .i k] H (.tp [.b (coversB v t k), .i 0]) := by
  refine RetP.ro rfl fn46 rfl rfl ?_
  unfold f46A
  have k1 := ((ht.app [.cells [.i v, rows]]).app [.cells [.b false]]).app [.cells [.i 0]]
  have hlow : Sl (fun b => b < H.length) H rows t := ht.low.weak fun _ h => h.2
  have g1 : ArrP v t ∧ 1 ≤ (k : Int) ∧ (k : Int) ≤ 3 ∧ (k : Int) ≤ wd t := ⟨hA, by omega, by omega, by omega⟩
  simp (disch := (first | assumption | omega | (simp only [List.length_append, List.length_cons, List.length_nil]; omega))) only [↓wD,wU,Nat.reduceBEq,zx150,zx151,zx159,zx160,zx161,zx162,Nat.reduceAdd,Nat.reduceSub,Nat.reduceMul,Nat.reduceLeDiff,Nat.reduceLT,Nat.reduceEqDiff,Int.reduceAdd,Int.reduceSub,Int.reduceMul,Int.reduceNeg,Int.reduceLT,Int.reduceLE,Int.reduceEq,Int.reduceToNat,Int.cast_ofNat_Int,↓reduceIte, *, ht.cellsV, (strong_ret k1).call, decide_eq_true g1]
  refine (all_ret ht.cellsV).toX fun w Hr x1 hw => ?_
  obtain ⟨bt, ba, rfl, hp, c1, c2⟩ := hw
  have hp1 : H.length + 3 ≤ bt := by have := hp.1; simp at this; omega
  have hp2 : H.length + 3 ≤ ba := by have := hp.2; simp at this; omega
  clear hp k1
  have d4 : Hr[H.length + 1]? = some (.cells [.b false]) := x1.get trivial (by simp [List.getElem?_append])
  have d5 : Hr[H.length + 2]? = some (.cells [.i 0]) := x1.get trivial (by simp [List.getElem?_append])
  have hx0 : Kx (fun _ => True) H Hr := (((Kx.app (fun _ => True) H _).app' _).app' _).trans x1 fun _ _ _ => trivial
  have hl := (List.getElem?_eq_some_iff.1 c1).1
  clear x1
  simp (disch := (first | assumption | omega | (simp only [List.length_append, List.length_cons, List.length_nil]; omega))) only [↓wD,wU,Nat.reduceBEq,zx150,zx151,zx159,zx160,zx161,zx162,Nat.reduceAdd,Nat.reduceSub,Nat.reduceMul,Nat.reduceLeDiff,Nat.reduceLT,Nat.reduceEqDiff,Int.reduceAdd,Int.reduceSub,Int.reduceMul,Int.reduceNeg,Int.reduceLT,Int.reduceLE,Int.reduceEq,Int.reduceToNat,Int.cast_ofNat_Int,↓reduceIte, *]
  refine Wp.range (A := ArgA) (allL v t k) (fun b => b = H.length + 1 ∨ b = H.length + 2) (fun i K H1 => H1[H.length + 1]? = some (.cells [.b false]) ∧ H1[H.length + 2]? = some (.cells [.i 0]) ∧ ((allL v t k).take i).all (fun x => x.2 != 0) = true)
    (fun j K H1 => j = .ret ∧ H1[H.length + 1]? = some (.cells [.b false]) ∧ H1[H.length + 2]? = some (.cells [.i 0]) ∧ coversB v t k = false) (by (simp (disch := (first | assumption | omega | (simp only [List.length_append, List.length_cons, List.length_nil]; omega))) only [↓wD,wU,Nat.reduceBEq,zx150,zx151,zx159,zx160,zx161,zx162,Nat.reduceAdd,Nat.reduceSub,Nat.reduceMul,Nat.reduceLeDiff,Nat.reduceLT,Nat.reduceEqDiff,Int.reduceAdd,Int.reduceSub,Int.reduceMul,Int.reduceNeg,Int.reduceLT,Int.reduceLE,Int.reduceEq,Int.reduceToNat,Int.cast_ofNat_Int,↓reduceIte, *]) <;> rfl) rfl (by omega) (fun b h => by omega) argA_len ?_ ?_ ?_ ?_ ?_ ?_ ?_
  · exact fun K' H1 Q' e hx hK' hI => all_range (by omega) c1 c2 (by omega) (by omega) hlow hx0 (fun b h => by omega) hA h2 e hx hK' hI
  · exact fun i K H1 H2 h hx => ⟨hx.get (.inl (by omega)) h.1, hx.get (.inl (by omega)) h.2.1, h.2.2⟩
  · exact fun j K H1 H2 h hx => ⟨h.1, hx.get (.inl (by omega)) h.2.1, hx.get (.inl (by omega)) h.2.2.1, h.2.2.2⟩
  · exact ⟨d4, d5, rfl⟩
  · rintro i hi K Ki args H1 ⟨q4, q5, q6⟩ ⟨u, rfl, hu⟩ hKi hK hx hl1 hlr hKK
    simp (disch := (first | assumption | omega | (simp only [List.length_append, List.length_cons, List.length_nil]; omega))) only [↓wD,wU,Nat.reduceBEq,zx150,zx151,zx159,zx160,zx161,zx162,Nat.reduceAdd,Nat.reduceSub,Nat.reduceMul,Nat.reduceLeDiff,Nat.reduceLT,Nat.reduceEqDiff,Int.reduceAdd,Int.reduceSub,Int.reduceMul,Int.reduceNeg,Int.reduceLT,Int.reduceLE,Int.reduceEq,Int.reduceToNat,Int.cast_ofNat_Int,↓reduceIte, *, zx188 (lo := H.length) hlr (by omega)]
    generalize e2 : H1.set Hr.length _ = H2
    have x12 : Kx (fun b => b ≠ Hr.length) H1 H2 := by rw [← e2]; exact Kx.set _ _ _
    have l12 : H2.length ≤ H1.length ∧ H1.length ≤ H2.length := by rw [← e2]; simp
    have gl := gset e2 hlr
    have r4 := x12.get (by omega) q4
    have r5 := x12.get (by omega) q5
    clear e2
    refine condP_split (fun h0 => ?_) (fun h0 => ?_)
    · have r5' : (H2.set (H.length + 1) (.cells [.b false]))[H.length + 2]? = some (.cells [.i 0]) := by rw [List.getElem?_set_ne (by omega)]; exact r5
      simp (disch := (first | assumption | omega | (simp only [List.length_append, List.length_cons, List.length_nil]; omega))) only [↓wD,wU,Nat.reduceBEq,zx150,zx151,zx159,zx160,zx161,zx162,Nat.reduceAdd,Nat.reduceSub,Nat.reduceMul,Nat.reduceLeDiff,Nat.reduceLT,Nat.reduceEqDiff,Int.reduceAdd,Int.reduceSub,Int.reduceMul,Int.reduceNeg,Int.reduceLT,Int.reduceLE,Int.reduceEq,Int.reduceToNat,Int.cast_ofNat_Int,↓reduceIte, *, st_of r4, st_of r5']
      have kc1 := (hKK (H.length + 1) (by omega)).2 (.inl rfl)
      have kc2 := (hKK (H.length + 2) (by omega)).2 (.inr rfl)
      refine ⟨?_, ?_, rfl, ?_, ?_, ?_⟩
      · rw [List.getElem?_set_ne (by omega), List.getElem?_set_ne (by omega)]; exact gl
      · exact ((x12.weak fun b _ h => h.2).set' (fun _ h => h.1 (.inl kc1)) _).set' (fun _ h => h.1 (.inl kc2)) _
      · rw [List.getElem?_set_ne (by omega)]; exact get_set r4
      · exact get_set r5'
      · rw [coversB, ← Bool.not_eq_true, List.all_eq_true]
        intro hh
        have := hh _ (List.getElem_mem hi)
        simp at this; omega
    · simp (disch := (first | assumption | omega | (simp only [List.length_append, List.length_cons, List.length_nil]; omega))) only [↓wD,wU,Nat.reduceBEq,zx150,zx151,zx159,zx160,zx161,zx162,Nat.reduceAdd,Nat.reduceSub,Nat.reduceMul,Nat.reduceLeDiff,Nat.reduceLT,Nat.reduceEqDiff,Int.reduceAdd,Int.reduceSub,Int.reduceMul,Int.reduceNeg,Int.reduceLT,Int.reduceLE,Int.reduceEq,Int.reduceToNat,Int.cast_ofNat_Int,↓reduceIte, *]
      first
        | refine ⟨x12.weak fun b _ h => h.2, ?_⟩
        | refine ⟨gl, x12.weak fun b _ h => h.2, ?_⟩
      have e : ((allL v t k).take (i + 1)).all (fun x => x.2 != 0) = true := by
        rw [List.take_succ_eq_append_getElem hi, List.all_append, q6]
        simp; omega
      first | exact e | exact ⟨r4, r5, e⟩
  · rintro K H1 ⟨q4, q5, q6⟩ hx hl1
    have r5' : (H1.set (H.length + 1) (.cells [.b true]))[H.length + 2]? = some (.cells [.i 0]) := by rw [List.getElem?_set_ne (by omega)]; exact q5
    have lt1 := (List.getElem?_eq_some_iff.1 q4).1
    have lt2 := (List.getElem?_eq_some_iff.1 q5).1
    have r4' : ((H1.set (H.length + 1) (.cells [.b true])).set (H.length + 2) (.cells [.i 0]))[H.length + 1]? = some (.cells [.b true]) := by rw [List.getElem?_set_ne (by omega)]; exact get_set q4
    simp (disch := (first | assumption | omega | (simp only [List.length_append, List.length_cons, List.length_nil]; omega))) only [↓wD,wU,Nat.reduceBEq,zx150,zx151,zx159,zx160,zx161,zx162,Nat.reduceAdd,Nat.reduceSub,Nat.reduceMul,Nat.reduceLeDiff,Nat.reduceLT,Nat.reduceEqDiff,Int.reduceAdd,Int.reduceSub,Int.reduceMul,Int.reduceNeg,Int.reduceLT,Int.reduceLE,Int.reduceEq,Int.reduceToNat,Int.cast_ofNat_Int,↓reduceIte, *, st_of q4, st_of r5', ld_of r4', ld_of (get_set r5')]
    rw [List.take_length] at q6
    rw [coversB, q6]
  · rintro j K H1 ⟨rfl, q4, q5, q6⟩ hx hl1
    change Wp E H.length none (.code .ret :: _) _ _ _
    simp (disch := (first | assumption | omega | (simp only [List.length_append, List.length_cons, List.length_nil]; omega))) only [↓wD,wU,Nat.reduceBEq,zx150,zx151,zx159,zx160,zx161,zx162,Nat.reduceAdd,Nat.reduceSub,Nat.reduceMul,Nat.reduceLeDiff,Nat.reduceLT,Nat.reduceEqDiff,Int.reduceAdd,Int.reduceSub,Int.reduceMul,Int.reduceNeg,Int.reduceLT,Int.reduceLE,Int.reduceEq,Int.reduceToNat,Int.cast_ofNat_Int,↓reduceIte, *, ld_of q4, ld_of q5]
end Go.Proofs.Ytalaadcbpjnglaa
namespace Go.Proofs.Ytalaadcbpjnglaa
open Go Go.AM Go.Proofs
def fstN (l : List (List Int × Nat)) : Nat := (l.head?.map Prod.snd).getD 0
def evenB (l : List (List Int × Nat)) : Bool := l.all fun x => x.2 == fstN l
def idxL (l : List (List Int × Nat)) : Int := if l.length = 0 then -1 else if evenB l = true then fstN l else 0
theorem index_ret {p : Nat → Prop} {H : Heap} {rows : AV} {v : Int} {t : List (List Int)} {k : Nat} (ht : Sl p H rows t) (hA : ArrP v t) (h2 : k ≤ 3) :
    RetP E 88 [.ag [.i v, rows], .i k] H (.i (idxL (allL v t k))) := by
  refine RetP.ro rfl fn88 rfl rfl ?_
  unfold f88A
  have hlow : Sl (fun b => b < H.length) H rows t := ht.low.weak fun _ h => h.2
  simp (disch := (first | assumption | omega | (simp only [List.length_append, List.length_cons, List.length_nil]; omega))) only [↓wD,wU,Nat.reduceBEq,zx150,zx151,zx159,zx160,zx161,zx162,Nat.reduceAdd,Nat.reduceSub,Nat.reduceMul,Nat.reduceLeDiff,Nat.reduceLT,Nat.reduceEqDiff,Int.reduceAdd,Int.reduceSub,Int.reduceMul,Int.reduceNeg,Int.reduceLT,Int.reduceLE,Int.reduceEq,Int.reduceToNat,Int.cast_ofNat_Int,↓reduceIte, *, ht.cellsV]
  refine (all_ret ht.cellsV).toX fun w Hr x1 hw => ?_
  obtain ⟨bt, ba, rfl, hp, c1, c2⟩ := hw
  have hp1 : H.length + 3 ≤ bt := by have := hp.1; simp at this; omega
  have hp2 : H.length + 3 ≤ ba := by have := hp.2; simp at this; omega
  clear hp
  have d4 : Hr[H.length + 1]? = some (.cells [.i 0]) := x1.get trivial (by simp [List.getElem?_append])
  have d5 : Hr[H.length + 2]? = some (.cells [.i (-1)]) := x1.get trivial (by simp [List.getElem?_append])
  have hx0 : Kx (fun _ => True) H Hr := (((Kx.app (fun _ => True) H _).app' _).app' _).trans x1 fun _ _ _ => trivial
  have hl := (List.getElem?_eq_some_iff.1 c1).1
  clear x1
  simp (disch := (first | assumption | omega | (simp only [List.length_append, List.length_cons, List.length_nil]; omega))) only [↓wD,wU,Nat.reduceBEq,zx150,zx151,zx159,zx160,zx161,zx162,Nat.reduceAdd,Nat.reduceSub,Nat.reduceMul,Nat.reduceLeDiff,Nat.reduceLT,Nat.reduceEqDiff,Int.reduceAdd,Int.reduceSub,Int.reduceMul,Int.reduceNeg,Int.reduceLT,Int.reduceLE,Int.reduceEq,Int.reduceToNat,Int.cast_ofNat_Int,↓reduceIte, *]
  obtain ⟨l, el⟩ : ∃ l, allL v t k = l := ⟨_, rfl⟩
  refine Wp.range (A := ArgA) l (fun b => b = H.length + 1 ∨ b = H.length + 2) (fun i K H1 => H1[H.length + 1]? = some (.cells [.i 0]) ∧ ∃ f, H1[H.length + 2]? = some (.cells [.i f]) ∧ ((i = 0 ∧ f = -1) ∨ (0 < i ∧ f = fstN l ∧ ∀ x ∈ l.take i, x.2 = fstN l)))
    (fun j K H1 => j = .ret ∧ H1[H.length + 1]? = some (.cells [.i 0]) ∧ 0 < l.length ∧ evenB l = false) (by (simp (disch := (first | assumption | omega | (simp only [List.length_append, List.length_cons, List.length_nil]; omega))) only [↓wD,wU,Nat.reduceBEq,zx150,zx151,zx159,zx160,zx161,zx162,Nat.reduceAdd,Nat.reduceSub,Nat.reduceMul,Nat.reduceLeDiff,Nat.reduceLT,Nat.reduceEqDiff,Int.reduceAdd,Int.reduceSub,Int.reduceMul,Int.reduceNeg,Int.reduceLT,Int.reduceLE,Int.reduceEq,Int.reduceToNat,Int.cast_ofNat_Int,↓reduceIte, *]) <;> rfl) rfl (by omega) (fun b h => by omega) argA_len ?_ ?_ ?_ ?_ ?_ ?_ ?_
  · exact fun K' H1 Q' e hx hK' hI => all_range (by omega) c1 c2 (by omega) (by omega) hlow hx0 (fun b h => by omega) hA h2 e hx hK' (by rw [el]; exact hI)
  · rintro i K H1 H2 ⟨q1, f, q2, q3⟩ hx
    exact ⟨hx.get (.inl (by omega)) q1, f, hx.get (.inl (by omega)) q2, q3⟩
  · exact fun j K H1 H2 h hx => ⟨h.1, hx.get (.inl (by omega)) h.2.1, h.2.2⟩
  · exact ⟨d4, -1, d5, .inl ⟨rfl, rfl⟩⟩
  · rintro i hi K Ki args H1 ⟨q4, f, q5, q6⟩ ⟨u, rfl, hu⟩ hKi hK hx hl1 hlr hKK
    have hfst : fstN l = (l[0]'(by omega)).2 := by unfold fstN; cases l with | nil => simp at hi | cons x r => rfl
    obtain ⟨n, en⟩ : ∃ n, (l[i]).2 = n := ⟨_, rfl⟩
    rw [en]
    have kc1 := (hKK (H.length + 1) (by omega)).2 (.inl rfl)
    have kc2 := (hKK (H.length + 2) (by omega)).2 (.inr rfl)
    simp (disch := (first | assumption | omega | (simp only [List.length_append, List.length_cons, List.length_nil]; omega))) only [↓wD,wU,Nat.reduceBEq,zx150,zx151,zx159,zx160,zx161,zx162,Nat.reduceAdd,Nat.reduceSub,Nat.reduceMul,Nat.reduceLeDiff,Nat.reduceLT,Nat.reduceEqDiff,Int.reduceAdd,Int.reduceSub,Int.reduceMul,Int.reduceNeg,Int.reduceLT,Int.reduceLE,Int.reduceEq,Int.reduceToNat,Int.cast_ofNat_Int,↓reduceIte, *, zx188 (lo := H.length) hlr (by omega)]
    generalize e2 : H1.set Hr.length _ = H2
    have x12 : Kx (fun b => b ≠ Hr.length) H1 H2 := by rw [← e2]; exact Kx.set _ _ _
    have l12 : H2.length ≤ H1.length ∧ H1.length ≤ H2.length := by rw [← e2]; simp
    have gl := gset e2 hlr
    have r4 := x12.get (by omega) q4
    have r5 := x12.get (by omega) q5
    clear e2
    have bad : ∀ (x : Nat), 0 < i → x = n → ¬ (x = fstN l) → 0 < l.length ∧ evenB l = false := fun x _ hx hne => ⟨by omega, by
      rw [evenB, ← Bool.not_eq_true, List.all_eq_true]
      intro hh
      have := hh _ (List.getElem_mem hi)
      simp at this; omega⟩
    rcases q6 with ⟨i0, f0⟩ | ⟨i1, f1, q7⟩
    · subst f0
      have en' : n ≤ fstN l ∧ fstN l ≤ n := by rw [hfst, ← en]; subst i0; exact ⟨Nat.le_refl _, Nat.le_refl _⟩
      clear hfst en bad
      simp (disch := (first | assumption | omega | (simp only [List.length_append, List.length_cons, List.length_nil]; omega))) only [↓wD,wU,Nat.reduceBEq,zx150,zx151,zx159,zx160,zx161,zx162,Nat.reduceAdd,Nat.reduceSub,Nat.reduceMul,Nat.reduceLeDiff,Nat.reduceLT,Nat.reduceEqDiff,Int.reduceAdd,Int.reduceSub,Int.reduceMul,Int.reduceNeg,Int.reduceLT,Int.reduceLE,Int.reduceEq,Int.reduceToNat,Int.cast_ofNat_Int,↓reduceIte, *, ld_of r5, st_of r5, ld_of (get_set r5)]
      have e : ∀ x ∈ l.take (i + 1), x.2 = fstN l := by
        subst i0
        intro x hx
        cases l with
        | nil => simp at hi
        | cons y r => simp at hx; subst hx; rfl
      refine ⟨?_, ?_, ?_, n, get_set r5, ?_⟩
      · rw [List.getElem?_set_ne (by omega)]; exact gl
      · exact (x12.weak fun b _ h => h.2).set' (fun _ h => h.1 (.inl kc2)) _
      · rw [List.getElem?_set_ne (by omega)]; exact r4
      · subst i0; first | exact e | exact .inr ⟨by omega, e⟩
    · have f2 : 0 ≤ f ∧ f ≤ fstN l ∧ fstN l ≤ f := by omega
      clear f1 hfst
      simp (disch := (first | assumption | omega | (simp only [List.length_append, List.length_cons, List.length_nil]; omega))) only [↓wD,wU,Nat.reduceBEq,zx150,zx151,zx159,zx160,zx161,zx162,Nat.reduceAdd,Nat.reduceSub,Nat.reduceMul,Nat.reduceLeDiff,Nat.reduceLT,Nat.reduceEqDiff,Int.reduceAdd,Int.reduceSub,Int.reduceMul,Int.reduceNeg,Int.reduceLT,Int.reduceLE,Int.reduceEq,Int.reduceToNat,Int.cast_ofNat_Int,↓reduceIte, *, ld_of r5]
      refine condP_split (fun h0 => ?_) (fun h0 => ?_)
      · have hb := bad n i1 rfl (by omega)
        clear en bad
        simp (disch := (first | assumption | omega | (simp only [List.length_append, List.length_cons, List.length_nil]; omega))) only [↓wD,wU,Nat.reduceBEq,zx150,zx151,zx159,zx160,zx161,zx162,Nat.reduceAdd,Nat.reduceSub,Nat.reduceMul,Nat.reduceLeDiff,Nat.reduceLT,Nat.reduceEqDiff,Int.reduceAdd,Int.reduceSub,Int.reduceMul,Int.reduceNeg,Int.reduceLT,Int.reduceLE,Int.reduceEq,Int.reduceToNat,Int.cast_ofNat_Int,↓reduceIte, h0, st_of r4]
        refine ⟨?_, ((x12.weak fun b _ h => h.2).set' (fun _ h => h.1 (.inl kc1)) _), rfl, get_set r4, hb⟩
        rw [List.getElem?_set_ne (by omega)]; exact gl
      · simp (disch := (first | assumption | omega | (simp only [List.length_append, List.length_cons, List.length_nil]; omega))) only [↓wD,wU,Nat.reduceBEq,zx150,zx151,zx159,zx160,zx161,zx162,Nat.reduceAdd,Nat.reduceSub,Nat.reduceMul,Nat.reduceLeDiff,Nat.reduceLT,Nat.reduceEqDiff,Int.reduceAdd,Int.reduceSub,Int.reduceMul,Int.reduceNeg,Int.reduceLT,Int.reduceLE,Int.reduceEq,Int.reduceToNat,Int.cast_ofNat_Int,↓reduceIte, *]
        have e : ∀ x ∈ l.take (i + 1), x.2 = fstN l := by
          rw [List.take_succ_eq_append_getElem hi]
          intro x hx
          rcases List.mem_append.1 hx with hx | hx
          · exact q7 x hx
          · simp at hx; subst hx; omega
        refine ⟨x12.weak fun b _ h => h.2, f, rfl, .inr ⟨by omega, by omega, e⟩⟩
  · rintro K H1 ⟨q4, f, q5, q6⟩ hx hl1
    simp (disch := (first | assumption | omega | (simp only [List.length_append, List.length_cons, List.length_nil]; omega))) only [↓wD,wU,Nat.reduceBEq,zx150,zx151,zx159,zx160,zx161,zx162,Nat.reduceAdd,Nat.reduceSub,Nat.reduceMul,Nat.reduceLeDiff,Nat.reduceLT,Nat.reduceEqDiff,Int.reduceAdd,Int.reduceSub,Int.reduceMul,Int.reduceNeg,Int.reduceLT,Int.reduceLE,Int.reduceEq,Int.reduceToNat,Int.cast_ofNat_Int,↓reduceIte, *, ld_of q5, st_of q4, ld_of (get_set q4)]
    rcases q6 with ⟨i0, f0⟩ | ⟨i1, f1, q7⟩
    · rw [idxL, if_pos i0, f0]
    · rw [List.take_length] at q7
      have hev : evenB l = true := by
        rw [evenB, List.all_eq_true]
        intro x hx
        simp [q7 x hx]
      rw [idxL, if_neg (by omega), if_pos hev, f1]
  · rintro j K H1 ⟨rfl, q4, q5, q6⟩ hx hl1
    change Wp E H.length none (.code .ret :: _) _ _ _
    simp (disch := (first | assumption | omega | (simp only [List.length_append, List.length_cons, List.length_nil]; omega))) only [↓wD,wU,Nat.reduceBEq,zx150,zx151,zx159,zx160,zx161,zx162,Nat.reduceAdd,Nat.reduceSub,Nat.reduceMul,Nat.reduceLeDiff,Nat.reduceLT,Nat.reduceEqDiff,Int.reduceAdd,Int.reduceSub,Int.reduceMul,Int.reduceNeg,Int.reduceLT,Int.reduceLE,Int.reduceEq,Int.reduceToNat,Int.cast_ofNat_Int,↓reduceIte, *, ld_of q4]
    rw [idxL, if_neg (by omega), q6]; rfl
theorem fair_ret {p : Nat → Prop} {H : Heap} {rows : AV} {v : Int} {t : List (List Int)} {k : Nat} (ht : Sl p H rows t) (hA : ArrP v t) (h1 : 1 ≤ k) (h2 : k ≤ 3) (h3 : k ≤ wd t) :
    RetP E 57 [.ag [.i v, rows], .i k] H (.tp [.b (decide (0 < idxL (allL v t k))), .i 0]) := by
  refine RetP.ro rfl fn57 rfl rfl ?_
  unfold f57A
  have k1 := ht.app [.cells [.i v, rows]]
  have g1 : ArrP v t ∧ 1 ≤ (k : Int) ∧ (k : Int) ≤ 3 ∧ (k : Int) ≤ wd t := ⟨hA, by omega, by omega, by omega⟩
  simp (disch := (first | assumption | omega | (simp only [List.length_append, List.length_cons, List.length_nil]; omega))) only [↓wD,wU,Nat.reduceBEq,zx150,zx151,zx159,zx160,zx161,zx162,Nat.reduceAdd,Nat.reduceSub,Nat.reduceMul,Nat.reduceLeDiff,Nat.reduceLT,Nat.reduceEqDiff,Int.reduceAdd,Int.reduceSub,Int.reduceMul,Int.reduceNeg,Int.reduceLT,Int.reduceLE,Int.reduceEq,Int.reduceToNat,Int.cast_ofNat_Int,↓reduceIte, *, ht.cellsV, (strong_ret k1).call, decide_eq_true g1, (index_ret k1 hA h2).call]
theorem indexX_ret {p : Nat → Prop} {H : Heap} {rows : AV} {v : Int} {t : List (List Int)} {k : Nat} (ht : Sl p H rows t) (hA : ArrP v t) (h1 : 1 ≤ k) (h2 : k ≤ 3) (h3 : k ≤ wd t) :
    RetP E 48 [.ag [.i v, rows], .i k] H (if idxL (allL v t k) = 0 then .tp [.i 0, .i 4] else .tp [.i (idxL (allL v t k)), .i 0]) := by
  refine RetP.ro rfl fn48 rfl (by split <;> rfl) ?_
  unfold f48A
  have k1 := ht.app [.cells [.i v, rows]]
  have g1 : ArrP v t ∧ 1 ≤ (k : Int) ∧ (k : Int) ≤ 3 ∧ (k : Int) ≤ wd t := ⟨hA, by omega, by omega, by omega⟩
  by_cases h0 : idxL (allL v t k) = 0
  · simp (disch := (first | assumption | omega | (simp only [List.length_append, List.length_cons, List.length_nil]; omega))) only [↓wD,wU,Nat.reduceBEq,zx150,zx151,zx159,zx160,zx161,zx162,Nat.reduceAdd,Nat.reduceSub,Nat.reduceMul,Nat.reduceLeDiff,Nat.reduceLT,Nat.reduceEqDiff,Int.reduceAdd,Int.reduceSub,Int.reduceMul,Int.reduceNeg,Int.reduceLT,Int.reduceLE,Int.reduceEq,Int.reduceToNat,Int.cast_ofNat_Int,↓reduceIte, *, ht.cellsV, (strong_ret k1).call, decide_eq_true g1, (index_ret k1 hA h2).call]
  · simp (disch := (first | assumption | omega | (simp only [List.length_append, List.length_cons, List.length_nil]; omega))) only [↓wD,wU,Nat.reduceBEq,zx150,zx151,zx159,zx160,zx161,zx162,Nat.reduceAdd,Nat.reduceSub,Nat.reduceMul,Nat.reduceLeDiff,Nat.reduceLT,Nat.reduceEqDiff,Int.reduceAdd,Int.reduceSub,Int.reduceMul,Int.reduceNeg,Int.reduceLT,Int.reduceLE,Int.reduceEq,Int.reduceToNat,Int.cast_ofNat_Int,↓reduceIte, *, ht.cellsV, (strong_ret k1).call, decide_eq_true g1, (index_ret k1 hA h2).call]
end Go.Proofs.Ytalaadcbpjnglaa
namespace Go.Proofs.Ytalaadcbpjnglaa
open Go Go.AM Go.Proofs
theorem rng_len {x n : Int} : (rng x n).length = (n - x).toNat := by simp [rng]
end Go.Proofs.Ytalaadcbpjnglaa
namespace Go.Proofs.Ytalaadcbpjnglaa
open Go Go.AM Go.Proofs
theorem Acc.int {L : Nat} {q : Nat → Prop} {H : Heap} {v : AV} {xs : List Int} (h : Acc L q H v xs) : Sl (fun b => L ≤ b) H v xs := by
  rcases h with h | ⟨b, o, c, k, e, hb, hk, h1, h2, h3⟩
  · exact .inl h
  · exact .inr ⟨b, o, c, k, e, hb, hk, h1, h2, h3⟩
end Go.Proofs.Ytalaadcbpjnglaa
namespace Go.Proofs.Ytalaadcbpjnglaa
open Go Go.AM Go.Proofs
theorem fairX_err {p : Nat → Prop} {H : Heap} {rows : AV} {v k : Int} {t : List (List Int)} (ht : Sl p H rows t) (h : ¬ (ArrP v t ∧ 1 ≤ k ∧ k ≤ 3 ∧ k ≤ wd t)) :
    RetP E 57 [.ag [.i v, rows], .i k] H (.tp [.b false, .i 2]) := by
  refine RetP.ro rfl fn57 rfl rfl ?_
  unfold f57A
  have k1 := ht.app [.cells [.i v, rows]]
  simp (disch := (first | assumption | omega | (simp only [List.length_append, List.length_cons, List.length_nil]; omega))) only [↓wD,wU,Nat.reduceBEq,zx150,zx151,zx159,zx160,zx161,zx162,Nat.reduceAdd,Nat.reduceSub,Nat.reduceMul,Nat.reduceLeDiff,Nat.reduceLT,Nat.reduceEqDiff,Int.reduceAdd,Int.reduceSub,Int.reduceMul,Int.reduceNeg,Int.reduceLT,Int.reduceLE,Int.reduceEq,Int.reduceToNat,Int.cast_ofNat_Int,↓reduceIte, *, ht.cellsV, (strong_ret k1).call, decide_eq_false h]
theorem indexX_err {p : Nat → Prop} {H : Heap} {rows : AV} {v k : Int} {t : List (List Int)} (ht : Sl p H rows t) (h : ¬ (ArrP v t ∧ 1 ≤ k ∧ k ≤ 3 ∧ k ≤ wd t)) :
    RetP E 48 [.ag [.i v, rows], .i k] H (.tp [.i 0, .i 2]) := by
  refine RetP.ro rfl fn48 rfl rfl ?_
  unfold f48A
  have k1 := ht.app [.cells [.i v, rows]]
  simp (disch := (first | assumption | omega | (simp only [List.length_append, List.length_cons, List.length_nil]; omega))) only [↓wD,wU,Nat.reduceBEq,zx150,zx151,zx159,zx160,zx161,zx162,Nat.reduceAdd,Nat.reduceSub,Nat.reduceMul,Nat.reduceLeDiff,Nat.reduceLT,Nat.reduceEqDiff,Int.reduceAdd,Int.reduceSub,Int.reduceMul,Int.reduceNeg,Int.reduceLT,Int.reduceLE,Int.reduceEq,Int.reduceToNat,Int.cast_ofNat_Int,↓reduceIte, *, ht.cellsV, (strong_ret k1).call, decide_eq_false h]
end Go.Proofs.Ytalaadcbpjnglaa
namespace Go.Proofs.Ytalaadcbpjnglaa
open Go Go.AM Go.Proofs
def rfairB (l : List (List Int × Nat)) : Bool := l.all fun x => x.2 == fstN l && x.2 != 0
end Go.Proofs.Ytalaadcbpjnglaa
namespace Go.Proofs.Ytalaadcbpjnglaa
open Go Go.AM Go.Proofs
theorem sufs_ne_t {n : Int} : ∀ {t : Nat} {x : Int}, x + t ≤ n → 0 < (sufs true n t x).length
  | 0, x, _ => by simp [sufs]
  | t + 1, x, h => by
    have : x < n := by omega
    simp only [sufs, rng_cons this, List.flatMap_cons, List.length_append, List.length_map, if_true]
    have := sufs_ne_t (n := n) (t := t) (x := x + 1) (by omega)
    omega
theorem sufs_ne_f {n : Int} (h : 0 < n) : ∀ {t : Nat} {x : Int}, x = 0 → 0 < (sufs false n t x).length
  | 0, x, _ => by simp [sufs]
  | t + 1, x, hx => by
    subst hx
    simp only [sufs, rng_cons h, List.flatMap_cons, List.length_append, List.length_map, Bool.false_eq_true, if_false]
    have := sufs_ne_f h (t := t) (x := 0) rfl
    omega
theorem allL_ne {v : Int} {t : List (List Int)} {k : Nat} (hA : ArrP v t) (h3 : k ≤ wd t) : 0 < (allL v t k).length := by
  have h1 := sufs_ne_t (n := wd t) (t := k) (x := 0) (by omega)
  have h2 := sufs_ne_f (n := v) (by have := hA.1; omega) (t := k) (x := 0) rfl
  unfold allL
  cases hc : sufs true (wd t) k 0 with
  | nil => rw [hc] at h1; simp at h1
  | cons c cs =>
    simp only [List.flatMap_cons, List.length_append]
    have : (allC v t k c).length = (sufs false v k 0).length := by simp [allC]
    omega
theorem rfair_idx {l : List (List Int × Nat)} (h : 0 < l.length) : decide (0 < idxL l) = rfairB l := by
  have h0 : ¬ l.length = 0 := by omega
  unfold idxL
  rw [if_neg h0]
  cases he : evenB l with
  | false =>
    have : rfairB l = false := by
      rw [← Bool.not_eq_true] at he ⊢
      intro hh
      apply he
      unfold rfairB at hh; unfold evenB
      rw [List.all_eq_true] at hh ⊢
      intro x hx
      have := hh x hx
      simp at this ⊢; exact this.1
    rw [this]; simp
  | true =>
    simp only [if_true]
    unfold evenB at he
    rw [List.all_eq_true] at he
    by_cases h2 : fstN l = 0
    · have : rfairB l = false := by
        rw [← Bool.not_eq_true]
        intro hh
        unfold rfairB at hh
        rw [List.all_eq_true] at hh
        cases l with
        | nil => simp at h
        | cons x r =>
          have := hh x (by simp)
          have e : fstN (x :: r) = x.2 := rfl
          rw [e] at h2
          simp at this; omega
      rw [this, h2]; simp
    · have : rfairB l = true := by
        unfold rfairB
        rw [List.all_eq_true]
        intro x hx
        have := he x hx
        simp at this
        simp [this]; exact h2
      rw [this]; simp; omega
def fairK (v : Int) (t : List (List Int)) (k : Nat) : Bool := decide (0 < idxL (allL v t k))
/-- for how many columns -/
def strP (v : Int) (t : List (List Int)) : Nat := if 1 ≤ wd t ∧ fairK v t 1 = true then if 2 ≤ wd t ∧ fairK v t 2 = true then if 3 ≤ wd t ∧ fairK v t 3 = true then 3 else 2 else 1 else 0
theorem strength_ret {p : Nat → Prop} {H : Heap} {rows : AV} {v : Int} {t : List (List Int)} (ht : Sl p H rows t) (hA : ArrP v t) :
    RetP E 49 [.ag [.i v, rows]] H (.tp [.i (strP v t), .i 0]) := by
  refine RetP.ro rfl fn49 rfl rfl ?_
  unfold f49A
  have k1 := ht.app [.cells [.i v, rows]]
  have hw := hA.wd
  have i1 : RetP E 88 [.ag [.i v, rows], .i 1] (H ++ [.cells [.i v, rows]]) (.i (idxL (allL v t 1))) := index_ret (k := 1) k1 hA (by omega)
  have i2 : RetP E 88 [.ag [.i v, rows], .i 2] (H ++ [.cells [.i v, rows]]) (.i (idxL (allL v t 2))) := index_ret (k := 2) k1 hA (by omega)
  have i3 : RetP E 88 [.ag [.i v, rows], .i 3] (H ++ [.cells [.i v, rows]]) (.i (idxL (allL v t 3))) := index_ret (k := 3) k1 hA (by omega)
  have f1 : fairK v t 1 = decide (0 < idxL (allL v t 1)) := rfl
  have f2 : fairK v t 2 = decide (0 < idxL (allL v t 2)) := rfl
  have f3 : fairK v t 3 = decide (0 < idxL (allL v t 3)) := rfl
  obtain ⟨s, es⟩ : ∃ s, strP v t = s := ⟨_, rfl⟩
  rw [es]
  unfold strP at es
  generalize idxL (allL v t 1) = n1 at i1 f1
  generalize idxL (allL v t 2) = n2 at i2 f2
  generalize idxL (allL v t 3) = n3 at i3 f3
  have es' : (if 1 ≤ wd t ∧ 0 < n1 then if 2 ≤ wd t ∧ 0 < n2 then if 3 ≤ wd t ∧ 0 < n3 then 3 else 2 else 1 else 0) = s := by
    rw [← es, f1, f2, f3]; simp
  clear es f1 f2 f3
  simp (disch := (first | assumption | omega | (simp only [List.length_append, List.length_cons, List.length_nil]; omega))) only [↓wD,wU,Nat.reduceBEq,zx150,zx151,zx159,zx160,zx161,zx162,Nat.reduceAdd,Nat.reduceSub,Nat.reduceMul,Nat.reduceLeDiff,Nat.reduceLT,Nat.reduceEqDiff,Int.reduceAdd,Int.reduceSub,Int.reduceMul,Int.reduceNeg,Int.reduceLT,Int.reduceLE,Int.reduceEq,Int.reduceToNat,Int.cast_ofNat_Int,↓reduceIte, *, ht.L, (valid_ret k1).call, decide_eq_true hA]
  refine Wp.for 3 (fun i a H' => H' = H ++ [.cells [.i v, rows]] ∧ a 1 = .p H.length 0 ∧ a 4 = .i i ∧ i ≤ wd t ∧ (1 ≤ i → 0 < n1) ∧ (2 ≤ i → 0 < n2) ∧ (3 ≤ i → 0 < n3)) ?_ ?_
  · rintro i a H' hi ⟨rfl, a1, a4, hiw, q1, q2, q3⟩ ih
    have hc : i = 0 ∨ i = 1 ∨ i = 2 ∨ i = 3 := by omega
    rcases hc with rfl | rfl | rfl | rfl
    · have e0 : min 3 (wd t : Int) > 0 := by omega
      by_cases h1 : 0 < n1
      · have ih' := ih (by omega)
        clear es' q1 q2 q3 ih
        simp (disch := (first | assumption | omega | (simp only [List.length_append, List.length_cons, List.length_nil]; omega))) only [↓wD,wU,Nat.reduceBEq,zx150,zx151,zx159,zx160,zx161,zx162,Nat.reduceAdd,Nat.reduceSub,Nat.reduceMul,Nat.reduceLeDiff,Nat.reduceLT,Nat.reduceEqDiff,Int.reduceAdd,Int.reduceSub,Int.reduceMul,Int.reduceNeg,Int.reduceLT,Int.reduceLE,Int.reduceEq,Int.reduceToNat,Int.cast_ofNat_Int,↓reduceIte, *, (columns_ret k1 hA.2.2.1).call, i1.call]
        refine ih'.go ⟨rfl, ?_⟩
        simp (disch := (first | assumption | omega | (simp only [List.length_append, List.length_cons, List.length_nil]; omega))) only [↓wD,wU,Nat.reduceBEq,zx150,zx151,zx159,zx160,zx161,zx162,Nat.reduceAdd,Nat.reduceSub,Nat.reduceMul,Nat.reduceLeDiff,Nat.reduceLT,Nat.reduceEqDiff,Int.reduceAdd,Int.reduceSub,Int.reduceMul,Int.reduceNeg,Int.reduceLT,Int.reduceLE,Int.reduceEq,Int.reduceToNat,Int.cast_ofNat_Int,↓reduceIte, *]
        (repeat' (first | apply And.intro | intro _)) <;> (first | contradiction | omega)
      · have es : s = 0 := by rw [← es']; (repeat' split) <;> omega
        clear es'
        subst es
        clear q1 q2 q3 ih
        simp (disch := (first | assumption | omega | (simp only [List.length_append, List.length_cons, List.length_nil]; omega))) only [↓wD,wU,Nat.reduceBEq,zx150,zx151,zx159,zx160,zx161,zx162,Nat.reduceAdd,Nat.reduceSub,Nat.reduceMul,Nat.reduceLeDiff,Nat.reduceLT,Nat.reduceEqDiff,Int.reduceAdd,Int.reduceSub,Int.reduceMul,Int.reduceNeg,Int.reduceLT,Int.reduceLE,Int.reduceEq,Int.reduceToNat,Int.cast_ofNat_Int,↓reduceIte, *, (columns_ret k1 hA.2.2.1).call, i1.call]
    · have p1 := q1 (by omega)
      by_cases hw2 : 2 ≤ wd t
      · by_cases h2 : 0 < n2
        · have ih' := ih (by omega)
          clear es' q1 q2 q3 ih
          simp (disch := (first | assumption | omega | (simp only [List.length_append, List.length_cons, List.length_nil]; omega))) only [↓wD,wU,Nat.reduceBEq,zx150,zx151,zx159,zx160,zx161,zx162,Nat.reduceAdd,Nat.reduceSub,Nat.reduceMul,Nat.reduceLeDiff,Nat.reduceLT,Nat.reduceEqDiff,Int.reduceAdd,Int.reduceSub,Int.reduceMul,Int.reduceNeg,Int.reduceLT,Int.reduceLE,Int.reduceEq,Int.reduceToNat,Int.cast_ofNat_Int,↓reduceIte, *, (columns_ret k1 hA.2.2.1).call, i2.call]
          refine ih'.go ⟨rfl, ?_⟩
          simp (disch := (first | assumption | omega | (simp only [List.length_append, List.length_cons, List.length_nil]; omega))) only [↓wD,wU,Nat.reduceBEq,zx150,zx151,zx159,zx160,zx161,zx162,Nat.reduceAdd,Nat.reduceSub,Nat.reduceMul,Nat.reduceLeDiff,Nat.reduceLT,Nat.reduceEqDiff,Int.reduceAdd,Int.reduceSub,Int.reduceMul,Int.reduceNeg,Int.reduceLT,Int.reduceLE,Int.reduceEq,Int.reduceToNat,Int.cast_ofNat_Int,↓reduceIte, *]
          (repeat' (first | apply And.intro | intro _)) <;> (first | contradiction | omega)
        · have es : s = 1 := by rw [← es']; (repeat' split) <;> omega
          clear es'
          subst es
          clear q1 q2 q3 ih
          simp (disch := (first | assumption | omega | (simp only [List.length_append, List.length_cons, List.length_nil]; omega))) only [↓wD,wU,Nat.reduceBEq,zx150,zx151,zx159,zx160,zx161,zx162,Nat.reduceAdd,Nat.reduceSub,Nat.reduceMul,Nat.reduceLeDiff,Nat.reduceLT,Nat.reduceEqDiff,Int.reduceAdd,Int.reduceSub,Int.reduceMul,Int.reduceNeg,Int.reduceLT,Int.reduceLE,Int.reduceEq,Int.reduceToNat,Int.cast_ofNat_Int,↓reduceIte, *, (columns_ret k1 hA.2.2.1).call, i2.call]
      · have es : s = 1 := by rw [← es']; (repeat' split) <;> omega
        clear es'
        subst es
        clear q1 q2 q3 ih
        simp (disch := (first | assumption | omega | (simp only [List.length_append, List.length_cons, List.length_nil]; omega))) only [↓wD,wU,Nat.reduceBEq,zx150,zx151,zx159,zx160,zx161,zx162,Nat.reduceAdd,Nat.reduceSub,Nat.reduceMul,Nat.reduceLeDiff,Nat.reduceLT,Nat.reduceEqDiff,Int.reduceAdd,Int.reduceSub,Int.reduceMul,Int.reduceNeg,Int.reduceLT,Int.reduceLE,Int.reduceEq,Int.reduceToNat,Int.cast_ofNat_Int,↓reduceIte, *, (columns_ret k1 hA.2.2.1).call]
    · have p1 := q1 (by omega)
      have p2 := q2 (by omega)
      by_cases hw3 : 3 ≤ wd t
      · by_cases h3 : 0 < n3
        · have ih' := ih (by omega)
          clear es' q1 q2 q3 ih
          simp (disch := (first | assumption | omega | (simp only [List.length_append, List.length_cons, List.length_nil]; omega))) only [↓wD,wU,Nat.reduceBEq,zx150,zx151,zx159,zx160,zx161,zx162,Nat.reduceAdd,Nat.reduceSub,Nat.reduceMul,Nat.reduceLeDiff,Nat.reduceLT,Nat.reduceEqDiff,Int.reduceAdd,Int.reduceSub,Int.reduceMul,Int.reduceNeg,Int.reduceLT,Int.reduceLE,Int.reduceEq,Int.reduceToNat,Int.cast_ofNat_Int,↓reduceIte, *, (columns_ret k1 hA.2.2.1).call, i3.call]
          refine ih'.go ⟨rfl, ?_⟩
          simp (disch := (first | assumption | omega | (simp only [List.length_append, List.length_cons, List.length_nil]; omega))) only [↓wD,wU,Nat.reduceBEq,zx150,zx151,zx159,zx160,zx161,zx162,Nat.reduceAdd,Nat.reduceSub,Nat.reduceMul,Nat.reduceLeDiff,Nat.reduceLT,Nat.reduceEqDiff,Int.reduceAdd,Int.reduceSub,Int.reduceMul,Int.reduceNeg,Int.reduceLT,Int.reduceLE,Int.reduceEq,Int.reduceToNat,Int.cast_ofNat_Int,↓reduceIte, *]
          (repeat' (first | apply And.intro | intro _)) <;> (first | contradiction | omega)
        · have es : s = 2 := by rw [← es']; (repeat' split) <;> omega
          clear es'
          subst es
          clear q1 q2 q3 ih
          simp (disch := (first | assumption | omega | (simp only [List.length_append, List.length_cons, List.length_nil]; omega))) only [↓wD,wU,Nat.reduceBEq,zx150,zx151,zx159,zx160,zx161,zx162,Nat.reduceAdd,Nat.reduceSub,Nat.reduceMul,Nat.reduceLeDiff,Nat.reduceLT,Nat.reduceEqDiff,Int.reduceAdd,Int.reduceSub,Int.reduceMul,Int.reduceNeg,Int.reduceLT,Int.reduceLE,Int.reduceEq,Int.reduceToNat,Int.cast_ofNat_Int,↓reduceIte, *, (columns_ret k1 hA.2.2.1).call, i3.call]
      · have es : s = 2 := by rw [← es']; (repeat' split) <;> omega
        clear es'
        subst es
        clear q1 q2 q3 ih
        simp (disch := (first | assumption | omega | (simp only [List.length_append, List.length_cons, List.length_nil]; omega))) only [↓wD,wU,Nat.reduceBEq,zx150,zx151,zx159,zx160,zx161,zx162,Nat.reduceAdd,Nat.reduceSub,Nat.reduceMul,Nat.reduceLeDiff,Nat.reduceLT,Nat.reduceEqDiff,Int.reduceAdd,Int.reduceSub,Int.reduceMul,Int.reduceNeg,Int.reduceLT,Int.reduceLE,Int.reduceEq,Int.reduceToNat,Int.cast_ofNat_Int,↓reduceIte, *, (columns_ret k1 hA.2.2.1).call]
    · have p1 := q1 (by omega)
      have p2 := q2 (by omega)
      have p3 := q3 (by omega)
      have es : s = 3 := by rw [← es']; (repeat' split) <;> omega
      clear es'
      subst es
      clear q1 q2 q3 ih
      simp (disch := (first | assumption | omega | (simp only [List.length_append, List.length_cons, List.length_nil]; omega))) only [↓wD,wU,Nat.reduceBEq,zx150,zx151,zx159,zx160,zx161,zx162,Nat.reduceAdd,Nat.reduceSub,Nat.reduceMul,Nat.reduceLeDiff,Nat.reduceLT,Nat.reduceEqDiff,Int.reduceAdd,Int.reduceSub,Int.reduceMul,Int.reduceNeg,Int.reduceLT,Int.reduceLE,Int.reduceEq,Int.reduceToNat,Int.cast_ofNat_Int,↓reduceIte, *, (columns_ret k1 hA.2.2.1).call]
  · simp (disch := (first | assumption | omega | (simp only [List.length_append, List.length_cons, List.length_nil]; omega))) only [↓wD,wU,Nat.reduceBEq,zx150,zx151,zx159,zx160,zx161,zx162,Nat.reduceAdd,Nat.reduceSub,Nat.reduceMul,Nat.reduceLeDiff,Nat.reduceLT,Nat.reduceEqDiff,Int.reduceAdd,Int.reduceSub,Int.reduceMul,Int.reduceNeg,Int.reduceLT,Int.reduceLE,Int.reduceEq,Int.reduceToNat,Int.cast_ofNat_Int,↓reduceIte, *]
    (repeat' (first | apply And.intro | intro _)) <;> (first | contradiction | omega)
theorem strength_err {p : Nat → Prop} {H : Heap} {rows : AV} {v : Int} {t : List (List Int)} (ht : Sl p H rows t) (hA : ¬ ArrP v t) :
    RetP E 49 [.ag [.i v, rows]] H (.tp [.i 0, .i 2]) := by
  refine RetP.ro rfl fn49 rfl rfl ?_
  unfold f49A
  have k1 := ht.app [.cells [.i v, rows]]
  simp (disch := (first | assumption | omega | (simp only [List.length_append, List.length_cons, List.length_nil]; omega))) only [↓wD,wU,Nat.reduceBEq,zx150,zx151,zx159,zx160,zx161,zx162,Nat.reduceAdd,Nat.reduceSub,Nat.reduceMul,Nat.reduceLeDiff,Nat.reduceLT,Nat.reduceEqDiff,Int.reduceAdd,Int.reduceSub,Int.reduceMul,Int.reduceNeg,Int.reduceLT,Int.reduceLE,Int.reduceEq,Int.reduceToNat,Int.cast_ofNat_Int,↓reduceIte, *, ht.L, (valid_ret k1).call, decide_eq_false hA]
end Go.Proofs.Ytalaadcbpjnglaa
namespace Go.Proofs.Ytalaadcbpjnglaa
open Go Go.AM Go.Proofs
theorem strong_mono {v : Int} {t : List (List Int)} {k : Int} (h : ArrP v t ∧ 1 ≤ k ∧ k ≤ 3 ∧ k ≤ wd t) : ∃ n : Nat, k = n ∧ 1 ≤ n ∧ n ≤ 3 ∧ n ≤ wd t := by
  obtain ⟨n, rfl⟩ := Int.eq_ofNat_of_zero_le (show 0 ≤ k by omega)
  exact ⟨n, rfl, by omega, by omega, by omega⟩
theorem awake_ret {H : Heap} : RetP E 25 [] H (.b true) :=
  RetP.closed (n := 300) rfl fn25 rfl rfl (by kernel_rfl)
end Go.Proofs.Ytalaadcbpjnglaa
namespace Go.Proofs.Ytalaadcbpjnglaa
open Go Go.AM Go.Proofs
theorem idx_nonneg {l : List (List Int × Nat)} (h : 0 < l.length) : 0 ≤ idxL l := by
  unfold idxL
  rw [if_neg (by omega)]
  split <;> omega
theorem idx_all {l : List (List Int × Nat)} {m : Nat} (h : 0 < l.length) (hm : ∀ x ∈ l, x.2 = m) : idxL l = m := by
  have hf : fstN l = m := by
    cases l with
    | nil => simp at h
    | cons x r => exact hm x (by simp)
  have he : evenB l = true := by
    unfold evenB
    rw [List.all_eq_true]
    intro x hx
    simp [hm x hx, hf]
  unfold idxL
  rw [if_neg (by omega), if_pos he, hf]
theorem fairK_iff {v : Int} {t : List (List Int)} {k : Nat} (hA : ArrP v t) (h3 : k ≤ wd t) : fairK v t k = true ↔ ∃ m, 0 < m ∧ ∀ x ∈ allL v t k, x.2 = m := by
  have hne := allL_ne hA h3
  constructor
  · intro h
    unfold fairK at h
    rw [rfair_idx hne] at h
    unfold rfairB at h
    rw [List.all_eq_true] at h
    refine ⟨fstN (allL v t k), ?_, fun x hx => ?_⟩
    · cases hl : allL v t k with
      | nil => rw [hl] at hne; simp at hne
      | cons y r =>
        have := h y (by rw [hl]; simp)
        rw [hl] at this
        simp at this
        have e : fstN (y :: r) = y.2 := rfl
        omega
    · have := h x hx
      simp at this
      exact this.1
  · rintro ⟨m, hm, h⟩
    unfold fairK
    rw [idx_all hne h]
    simp; omega
theorem mem_rng {x n y : Int} : y ∈ rng x n ↔ x ≤ y ∧ y < n :=
  ⟨rng_mem, fun ⟨h1, h2⟩ => by simp only [rng, List.mem_map, List.mem_range]; exact ⟨(y - x).toNat, by omega, by omega⟩⟩
theorem mem_sufs_f {n : Int} : ∀ {t : Nat} {s : List Int}, s ∈ sufs false n t 0 ↔ s.length = t ∧ ∀ c ∈ s, 0 ≤ c ∧ c < n
  | 0, s => by
    simp only [sufs, List.mem_singleton]
    constructor
    · rintro rfl; exact ⟨rfl, nofun⟩
    · rintro ⟨h, _⟩; exact List.length_eq_zero_iff.1 h
  | t + 1, s => by
    simp only [sufs, List.mem_flatMap, List.mem_map, Bool.false_eq_true, if_false]
    constructor
    · rintro ⟨y, hy, z, hz, rfl⟩
      have h1 := mem_rng.1 hy
      have h2 := mem_sufs_f.1 hz
      refine ⟨by simp [h2.1], fun c hc => ?_⟩
      rcases List.mem_cons.1 hc with rfl | hc
      · exact h1
      · exact h2.2 c hc
    · rintro ⟨h1, h2⟩
      cases s with
      | nil => simp at h1
      | cons y z => exact ⟨y, mem_rng.2 (h2 y (by simp)), z, mem_sufs_f.2 ⟨by simpa using h1, fun c hc => h2 c (by simp [hc])⟩, rfl⟩
theorem sufs_cons_t {n x y : Int} {t : Nat} {z : List Int} (h1 : x ≤ y) (h2 : y < n) (h3 : z ∈ sufs true n t (y + 1)) : y :: z ∈ sufs true n (t + 1) x := by
  simp only [sufs, List.mem_flatMap, List.mem_map, if_true]
  exact ⟨y, mem_rng.2 ⟨h1, h2⟩, z, h3, rfl⟩
theorem sufs_ins {n : Int} : ∀ {t : Nat} {x : Int} {s : List Int}, s ∈ sufs true n t x → x + t < n → ∃ a c b, s = a ++ b ∧ (a ++ c :: b) ∈ sufs true n (t + 1) x
  | 0, x, s, h, hl => by
    simp only [sufs, List.mem_singleton] at h
    subst h
    exact ⟨[], x, [], rfl, sufs_cons_t (Int.le_refl _) (by omega) (by simp [sufs])⟩
  | t + 1, x, s, h, hl => by
    simp only [sufs, List.mem_flatMap, List.mem_map, if_true] at h
    obtain ⟨y, hy, z, hz, rfl⟩ := h
    have h1 := mem_rng.1 hy
    by_cases hxy : y = x
    · subst hxy
      obtain ⟨a, c, b, rfl, hm⟩ := sufs_ins hz (by omega)
      exact ⟨y :: a, c, b, rfl, sufs_cons_t (Int.le_refl _) h1.2 hm⟩
    · exact ⟨[], x, y :: z, rfl, sufs_cons_t (Int.le_refl _) (by omega) (sufs_cons_t (by omega) h1.2 hz)⟩
theorem mem_allL {v : Int} {t : List (List Int)} {k : Nat} {cs ks : List Int} (h1 : cs ∈ sufs true (wd t) k 0) (h2 : ks ∈ sufs false v k 0) : (cs ++ ks, oft t cs ks) ∈ allL v t k := by
  unfold allL
  rw [List.mem_flatMap]
  refine ⟨cs, h1, ?_⟩
  unfold allC
  rw [List.mem_map]
  exact ⟨ks, h2, rfl⟩
theorem allL_mem {v : Int} {t : List (List Int)} {k : Nat} {x : List Int × Nat} (h : x ∈ allL v t k) : ∃ cs ks, cs ∈ sufs true (wd t) k 0 ∧ ks ∈ sufs false v k 0 ∧ x = (cs ++ ks, oft t cs ks) := by
  unfold allL at h
  rw [List.mem_flatMap] at h
  obtain ⟨cs, h1, h⟩ := h
  unfold allC at h
  rw [List.mem_map] at h
  obtain ⟨ks, h2, rfl⟩ := h
  exact ⟨cs, ks, h1, h2, rfl⟩
theorem comesL_app {r a b ka kb : List Int} (h : a.length = ka.length) : comesL r (a ++ b) (ka ++ kb) = (comesL r a ka && comesL r b kb) := by
  unfold comesL
  rw [List.zip_append h, List.all_append]
theorem comesL_cons {r cs ks : List Int} {c k : Int} : comesL r (c :: cs) (k :: ks) = ((gi r c == k) && comesL r cs ks) := rfl
theorem sum_const {l : List Int} {f : Int → Nat} {m : Nat} (h : ∀ x ∈ l, f x = m) : (l.map f).sum = m * l.length := by
  induction l with
  | nil => simp
  | cons x l ih =>
    rw [List.map_cons, List.sum_cons, h x (by simp), ih fun y hy => h y (by simp [hy]), List.length_cons, Nat.mul_succ]
    omega
theorem sum_add {α : Type} {l : List α} {f g : α → Nat} : (l.map fun x => f x + g x).sum = (l.map f).sum + (l.map g).sum := by
  induction l with
  | nil => rfl
  | cons x l ih => simp only [List.map_cons, List.sum_cons, ih]; omega
theorem sum_zero {α : Type} {l : List α} {f : α → Nat} (h : ∀ x ∈ l, f x = 0) : (l.map f).sum = 0 := by
  induction l with
  | nil => rfl
  | cons x l ih => rw [List.map_cons, List.sum_cons, h x (by simp), ih fun y hy => h y (by simp [hy])]
theorem rng_succ {x n : Int} (h : x ≤ n) : rng x (n + 1) = rng x n ++ [n] := by
  unfold rng
  have e : (n + 1 - x).toNat = (n - x).toNat + 1 := by omega
  rw [e, List.range_succ, List.map_append]
  simp; omega
theorem sum_one {b : Bool} : ∀ {m : Nat} {y : Int}, 0 ≤ y → y < m → ((rng 0 m).map fun x => if (y == x && b) = true then 1 else 0).sum = if b = true then 1 else 0
  | 0, y, h0, h1 => by omega
  | m + 1, y, h0, h1 => by
    have e : ((m + 1 : Nat) : Int) = (m : Int) + 1 := by omega
    rw [e, rng_succ (by omega), List.map_append, List.sum_append]
    by_cases hy : y = m
    · subst hy
      rw [sum_zero fun x hx => ?_]
      · simp
      · have := mem_rng.1 hx
        rw [if_neg]
        simp; omega
    · rw [sum_one h0 (by omega)]
      have : ¬ (y == (m : Int) && b) = true := by simp [hy]
      simp [hy]
theorem oft_cons {r : List Int} {t : List (List Int)} {cs ks : List Int} : oft (r :: t) cs ks = oft t cs ks + if comesL r cs ks = true then 1 else 0 := by
  unfold oft; rw [List.countP_cons]
theorem oft_split {v c : Int} {a b ka kb : List Int} (hl : a.length = ka.length) (hv : 0 ≤ v) : ∀ {t : List (List Int)}, (∀ r ∈ t, 0 ≤ gi r c ∧ gi r c < v) →
    oft t (a ++ b) (ka ++ kb) = ((rng 0 v).map fun x => oft t (a ++ c :: b) (ka ++ x :: kb)).sum
  | [], _ => by
    rw [sum_zero fun x hx => ?_]
    · rfl
    · rfl
  | r :: t, h => by
    have e : (fun x => oft (r :: t) (a ++ c :: b) (ka ++ x :: kb)) = fun x => oft t (a ++ c :: b) (ka ++ x :: kb) + if (gi r c == x && (comesL r a ka && comesL r b kb)) = true then 1 else 0 := by
      funext x
      rw [oft_cons, comesL_app hl, comesL_cons]
      congr 2
      rw [Bool.and_left_comm]
    rw [e, sum_add, oft_cons, oft_split hl hv fun r hr => h r (by simp [hr]), comesL_app hl]
    congr 1
    have hr := h r (by simp)
    have := sum_one (b := comesL r a ka && comesL r b kb) (m := v.toNat) (y := gi r c) hr.1 (by omega)
    rw [show ((v.toNat : Nat) : Int) = v by omega] at this
    exact this.symm
theorem arr_at {v : Int} {t : List (List Int)} (hA : ArrP v t) {r : List Int} (hr : r ∈ t) {c : Int} (h0 : 0 ≤ c) (h1 : c < wd t) : 0 ≤ gi r c ∧ gi r c < v :=
  (hA.row hr).2 _ (gi_mem h0 (by rw [(hA.row hr).1]; exact h1))
theorem fair_down {v : Int} {t : List (List Int)} {k m : Nat} (hA : ArrP v t) (hk : k + 1 ≤ wd t) (h : ∀ x ∈ allL v t (k + 1), x.2 = m) : ∀ x ∈ allL v t k, x.2 = m * v.toNat := by
  intro x hx
  obtain ⟨cs, ks, hcs, hks, rfl⟩ := allL_mem hx
  have hv := hA.1
  obtain ⟨a, c, b, rfl, hm⟩ := sufs_ins hcs (by omega)
  have hkl := mem_sufs_f.1 hks
  have hl := sufs_len hcs
  rw [List.length_append] at hl
  have hc := sufs_in (Int.le_refl 0) hm c (by simp)
  change oft t (a ++ b) ks = _
  have ek : ks = ks.take a.length ++ ks.drop a.length := (List.take_append_drop _ _).symm
  have hla : a.length = (ks.take a.length).length := by rw [List.length_take]; omega
  rw [ek, oft_split (c := c) (v := v) hla (by omega) fun r hr => arr_at hA hr hc.1 hc.2, sum_const (m := m) fun x hx => ?_, rng_len]
  · simp
  · have hx' := mem_rng.1 hx
    refine h (_, _) (mem_allL hm (mem_sufs_f.2 ⟨?_, fun z hz => ?_⟩))
    · rw [List.length_append, List.length_cons, ← hla, List.length_drop]; omega
    · rcases List.mem_append.1 hz with hz | hz
      · exact hkl.2 z (List.mem_of_mem_take hz)
      · rcases List.mem_cons.1 hz with rfl | hz
        · exact hx'
        · exact hkl.2 z (List.mem_of_mem_drop hz)
theorem fairK_down {v : Int} {t : List (List Int)} {k : Nat} (hA : ArrP v t) (hk : k + 1 ≤ wd t) (h : fairK v t (k + 1) = true) : fairK v t k = true ∧ idxL (allL v t k) = idxL (allL v t (k + 1)) * v := by
  obtain ⟨m, hm, hh⟩ := (fairK_iff hA hk).1 h
  have hd := fair_down hA hk hh
  have hv := hA.1
  refine ⟨(fairK_iff hA (by omega)).2 ⟨_, Nat.mul_pos hm (by omega), hd⟩, ?_⟩
  rw [idx_all (allL_ne hA (by omega)) hd, idx_all (allL_ne hA hk) hh, Int.natCast_mul, show ((v.toNat : Nat) : Int) = v by omega]
end Go.Proofs.Ytalaadcbpjnglaa
namespace Go.Proofs.Ytalaadcbpjnglaa
open Go Go.AM Go.Proofs
def wideP (v k t : Int) : Prop := 2 ≤ v ∧ v ≤ 4 ∧ 1 ≤ t ∧ t ≤ 3 ∧ t ≤ k ∧ k ≤ 8
instance (v k t : Int) : Decidable (wideP v k t) := by unfold wideP; infer_instance
def boundI (v k t : Int) : Int := if t = 1 then v else if t = 2 then 1 + k * (v - 1) else v * (1 + (k - 1) * (v - 1))
theorem bound_ret {H : Heap} (v k t : Int) : RetP E 19 [.i v, .i k, .i t] H (if wideP v k t then .tp [.i (boundI v k t), .i 0] else .tp [.i 0, .i 2]) := by
  refine RetP.ro rfl fn19 rfl (by split <;> rfl) ?_
  unfold f19A
  by_cases hw : wideP v k t
  · rw [if_pos hw]
    obtain ⟨h1, h2, h3, h4, h5, h6⟩ := hw
    have hv : v = 2 ∨ v = 3 ∨ v = 4 := by omega
    have ht : t = 1 ∨ t = 2 ∨ t = 3 := by omega
    clear h1 h2 h3 h4
    rcases hv with rfl | rfl | rfl <;> rcases ht with rfl | rfl | rfl <;> (repeat' (first | refine condP_split (fun _ => ?_) (fun _ => ?_) | refine guardP_split (fun _ => ?_) (fun _ => ?_) | refine guardP_splitF (fun _ => ?_) (fun _ => ?_) | (simp (disch := (first | assumption | omega | (simp only [List.length_append, List.length_cons, List.length_nil]; omega))) only [↓wD,wU,Nat.reduceBEq,zx150,zx151,zx159,zx160,zx161,zx162,Nat.reduceAdd,Nat.reduceSub,Nat.reduceMul,Nat.reduceLeDiff,Nat.reduceLT,Nat.reduceEqDiff,Int.reduceAdd,Int.reduceSub,Int.reduceMul,Int.reduceNeg,Int.reduceLT,Int.reduceLE,Int.reduceEq,Int.reduceToNat,Int.cast_ofNat_Int,↓reduceIte, *]))) <;> (first | omega | rfl | (simp [boundI]; done) | (simp [boundI]; omega))
  · rw [if_neg hw]
    unfold wideP at hw
    repeat' (first | refine condP_split (fun _ => ?_) (fun _ => ?_) | refine guardP_split (fun _ => ?_) (fun _ => ?_) | refine guardP_splitF (fun _ => ?_) (fun _ => ?_) | (simp (disch := (first | assumption | omega | (simp only [List.length_append, List.length_cons, List.length_nil]; omega))) only [↓wD,wU,Nat.reduceBEq,zx150,zx151,zx159,zx160,zx161,zx162,Nat.reduceAdd,Nat.reduceSub,Nat.reduceMul,Nat.reduceLeDiff,Nat.reduceLT,Nat.reduceEqDiff,Int.reduceAdd,Int.reduceSub,Int.reduceMul,Int.reduceNeg,Int.reduceLT,Int.reduceLE,Int.reduceEq,Int.reduceToNat,Int.cast_ofNat_Int,↓reduceIte, *]))
    all_goals (first | omega | (simp; done))
end Go.Proofs.Ytalaadcbpjnglaa
namespace Go.Proofs.Ytalaadcbpjnglaa
open Go Go.AM Go.Proofs
def sm {α : Type} (l : List α) (f : α → Nat) : Nat := (l.map f).sum
section
variable {α β : Type} {l : List α} {f g : α → Nat}
theorem sm_nil : sm ([] : List α) f = 0 := rfl
theorem sm_cons {x : α} : sm (x :: l) f = f x + sm l f := by simp [sm]
theorem sm_congr (h : ∀ x ∈ l, f x = g x) : sm l f = sm l g := by
  unfold sm; rw [List.map_congr_left h]
theorem sm_add : sm l (fun x => f x + g x) = sm l f + sm l g := sum_add
theorem sm_mul {c : Nat} : sm l (fun x => f x * c) = sm l f * c := by
  induction l with
  | nil => simp [sm_nil]
  | cons x l ih => rw [sm_cons, sm_cons, ih, Nat.add_mul]
theorem sm_const {c : Nat} : sm l (fun _ => c) = l.length * c := by
  induction l with
  | nil => simp [sm_nil]
  | cons x l ih => rw [sm_cons, ih, List.length_cons, Nat.succ_mul]; omega
theorem sm_zero : sm l (fun _ => 0) = 0 := by rw [sm_const]; simp
theorem sm_swap {m : List β} {f : α → β → Nat} : sm l (fun x => sm m (f x)) = sm m (fun y => sm l (fun x => f x y)) := by
  induction l with
  | nil => simp only [sm_nil, sm_zero]
  | cons x l ih => simp only [sm_cons, sm_add, ih]
theorem sm_app {m : List α} : sm (l ++ m) f = sm l f + sm m f := by simp [sm]
theorem sm_filter {p : α → Bool} : sm (l.filter p) f = sm l (fun x => if p x = true then f x else 0) := by
  induction l with
  | nil => rfl
  | cons x l ih =>
    rw [List.filter_cons, sm_cons]
    by_cases h : p x = true
    · rw [if_pos h, if_pos h, sm_cons, ih]
    · rw [if_neg h, if_neg h, ih]; omega
theorem sm_count {p : α → Bool} : l.countP p = sm l (fun x => if p x = true then 1 else 0) := by
  induction l with
  | nil => rfl
  | cons x l ih => rw [List.countP_cons, sm_cons, ih]; omega
end
theorem sm_diag {A B : Nat} {x c : Int} : ∀ {m : Nat}, x ≤ c → c < x + m → sm (rng x (x + m)) (fun c' => if c' = c then A else B) + B = A + m * B
  | 0, h0, h1 => by omega
  | m + 1, h0, h1 => by
    have e : x + ((m + 1 : Nat) : Int) = (x + m) + 1 := by omega
    rw [e, rng_succ (by omega), sm_app, sm_cons, sm_nil, Nat.succ_mul]
    by_cases hy : c = x + m
    · subst hy
      rw [if_pos rfl, sm_congr (g := fun _ => B) fun y hy => if_neg (by have := (mem_rng.1 hy).2; omega), sm_const, rng_len]
      have : (x + (m : Int) - x).toNat = m := by omega
      rw [this]; omega
    · have := sm_diag (A := A) (B := B) (m := m) h0 (by omega)
      rw [if_neg (by omega)]
      omega
theorem sq_sum {α : Type} (f : α → Nat) (a b : Int) : ∀ (l : List α), (l.map fun r => (a * (f r : Int) - b) * (a * (f r : Int) - b)).sum = a * a * (sm l fun r => f r * f r : Nat) - 2 * a * b * (sm l f : Nat) + b * b * l.length
  | [] => by simp [sm_nil]
  | r :: l => by
    rw [List.map_cons, List.sum_cons, sq_sum f a b l, sm_cons, sm_cons, List.length_cons]
    push_cast
    grind
theorem sq_nonneg (x : Int) : 0 ≤ x * x := by
  rcases Int.le_total 0 x with h | h
  · exact Int.mul_nonneg h h
  · exact Int.mul_nonneg_of_nonpos_of_nonpos h h
theorem sum_nonneg {α : Type} {f : α → Int} : ∀ {l : List α}, (∀ x ∈ l, 0 ≤ f x) → 0 ≤ (l.map f).sum
  | [], _ => by simp
  | x :: l, h => by
    have h1 := h x (by simp)
    have h2 := sum_nonneg (l := l) fun y hy => h y (by simp [hy])
    rw [List.map_cons, List.sum_cons]; omega
theorem sum_ge {α : Type} {f : α → Int} {r : α} : ∀ {l : List α}, (∀ x ∈ l, 0 ≤ f x) → r ∈ l → f r ≤ (l.map f).sum
  | [], _, h => by cases h
  | x :: l, h, hr => by
    rw [List.map_cons, List.sum_cons]
    have h1 := h x (by simp)
    rcases List.mem_cons.1 hr with rfl | hr
    · have := sum_nonneg (l := l) fun y hy => h y (by simp [hy])
      omega
    · have := sum_ge (l := l) (fun y hy => h y (by simp [hy])) hr
      omega
/-- whether a row agrees with another one in a column -/
def ind (r0 : List Int) (r : List Int) (c : Int) : Nat := if gi r c = gi r0 c then 1 else 0
theorem ind_sq {r0 r : List Int} {c : Int} : ind r0 r c * ind r0 r c = ind r0 r c := by unfold ind; split <;> rfl
theorem rao_core {l : List (List Int)} {r0 : List Int} {x : Int} {m P L : Nat} (a b : Int) (hr : r0 ∈ l)
    (h1 : ∀ c, x ≤ c → c < x + m → sm l (fun r => ind r0 r c) = P) (h2 : ∀ c c', x ≤ c → c < x + m → x ≤ c' → c' < x + m → c ≠ c' → sm l (fun r => ind r0 r c * ind r0 r c') = L) :
    ∃ D : Nat, D + m * L = m * P + m * (m * L) ∧ (a * m - b) * (a * m - b) ≤ a * a * (D : Int) - 2 * a * b * ((m * P : Nat) : Int) + b * b * l.length := by
  have e1 : sm l (fun r => sm (rng x (x + m)) (ind r0 r)) = m * P := by
    rw [sm_swap, sm_congr (g := fun _ => P) fun c hc => h1 c (mem_rng.1 hc).1 (mem_rng.1 hc).2, sm_const, rng_len]
    congr 1; omega
  have e2 : sm l (fun r => sm (rng x (x + m)) (ind r0 r) * sm (rng x (x + m)) (ind r0 r)) = sm (rng x (x + m)) fun c => sm (rng x (x + m)) fun c' => if c' = c then P else L := by
    have : ∀ r ∈ l, sm (rng x (x + m)) (ind r0 r) * sm (rng x (x + m)) (ind r0 r) = sm (rng x (x + m)) fun c => sm (rng x (x + m)) fun c' => ind r0 r c' * ind r0 r c := by
      intro r _
      rw [← sm_mul]
      rw [show (sm (rng x (x + m)) fun c => sm (rng x (x + m)) fun c' => ind r0 r c' * ind r0 r c) = sm (rng x (x + m)) fun c => sm (rng x (x + m)) (ind r0 r) * ind r0 r c from sm_congr fun c _ => sm_mul]
      exact sm_congr fun c _ => Nat.mul_comm _ _
    rw [sm_congr this, sm_swap]
    apply sm_congr
    intro c hc
    rw [sm_swap]
    apply sm_congr
    intro c' hc'
    have b1 := mem_rng.1 hc
    have b2 := mem_rng.1 hc'
    by_cases e : c' = c
    · subst e
      rw [if_pos rfl, ← h1 c' b1.1 b1.2]
      exact sm_congr fun r _ => ind_sq
    · rw [if_neg e]
      exact h2 c' c b2.1 b2.2 b1.1 b1.2 e
  refine ⟨sm (rng x (x + m)) fun c => sm (rng x (x + m)) fun c' => if c' = c then P else L, ?_, ?_⟩
  · have e3 : ∀ c ∈ rng x (x + m), (sm (rng x (x + m)) fun c' => if c' = c then P else L) + L = P + m * L := fun c hc => sm_diag (mem_rng.1 hc).1 (mem_rng.1 hc).2
    have hl : (rng x (x + m)).length = m := by rw [rng_len]; omega
    have e4 : sm (rng x (x + m)) (fun c => (sm (rng x (x + m)) fun c' => if c' = c then P else L) + L) = m * (P + m * L) := by
      rw [sm_congr e3, sm_const, hl]
    rw [sm_add, sm_const, hl] at e4
    rw [e4, Nat.mul_add]
  · have h := sq_sum (fun r => sm (rng x (x + m)) (ind r0 r)) a b l
    rw [e1, e2] at h
    rw [← h]
    have hr0 : sm (rng x (x + m)) (ind r0 r0) = m := by
      rw [sm_congr (g := fun _ => 1) fun c _ => by unfold ind; rw [if_pos rfl], sm_const, rng_len]
      omega
    have := sum_ge (l := l) (f := fun r => (a * ((sm (rng x (x + m)) (ind r0 r) : Nat) : Int) - b) * (a * ((sm (rng x (x + m)) (ind r0 r) : Nat) : Int) - b)) (fun _ _ => sq_nonneg _) hr
    rw [hr0] at this
    exact this
/-- rows that agree with r0 in pre -/
theorem oft_ind {t : List (List Int)} {pre : List Int} {r0 : List Int} {c : Int} : oft t (pre ++ [c]) ((pre ++ [c]).map (gi r0)) = sm (t.filter fun r => comesL r pre (pre.map (gi r0))) (fun r => ind r0 r c) := by
  rw [sm_filter]
  unfold oft
  rw [sm_count]
  apply sm_congr
  intro r _
  rw [List.map_append, comesL_app (by simp)]
  unfold ind
  have e : comesL r [c] ([c].map (gi r0)) = (gi r c == gi r0 c) := by simp [comesL]
  rw [e]
  generalize comesL r pre (pre.map (gi r0)) = B
  cases B <;> by_cases h2 : gi r c = gi r0 c <;> simp [h2]
theorem oft_ind2 {t : List (List Int)} {pre : List Int} {r0 : List Int} {c d : Int} : oft t (pre ++ [c, d]) ((pre ++ [c, d]).map (gi r0)) = sm (t.filter fun r => comesL r pre (pre.map (gi r0))) (fun r => ind r0 r c * ind r0 r d) := by
  rw [sm_filter]
  unfold oft
  rw [sm_count]
  apply sm_congr
  intro r _
  rw [List.map_append, comesL_app (by simp)]
  unfold ind
  have e : comesL r [c, d] ([c, d].map (gi r0)) = ((gi r c == gi r0 c) && (gi r d == gi r0 d)) := by simp [comesL]
  rw [e]
  generalize comesL r pre (pre.map (gi r0)) = B
  cases B <;> by_cases h2 : gi r c = gi r0 c <;> by_cases h3 : gi r d = gi r0 d <;> simp [h2, h3]
theorem ind_comm {l : List (List Int)} {r0 : List Int} {c d : Int} : sm l (fun r => ind r0 r c * ind r0 r d) = sm l (fun r => ind r0 r d * ind r0 r c) := sm_congr fun _ _ => Nat.mul_comm _ _
theorem at_sufs {v : Int} {t : List (List Int)} (hA : ArrP v t) {r : List Int} (hr : r ∈ t) {cs : List Int} (h : ∀ c ∈ cs, 0 ≤ c ∧ c < wd t) : cs.map (gi r) ∈ sufs false v cs.length 0 :=
  mem_sufs_f.2 ⟨by simp, fun z hz => by
    obtain ⟨c, hc, rfl⟩ := List.mem_map.1 hz
    exact arr_at hA hr (h c hc).1 (h c hc).2⟩
theorem oft_all {v : Int} {t : List (List Int)} {k m : Nat} (hA : ArrP v t) (h : ∀ x ∈ allL v t k, x.2 = m) {r : List Int} (hr : r ∈ t) {cs : List Int} (hc : cs ∈ sufs true (wd t) k 0) : oft t cs (cs.map (gi r)) = m := by
  have h1 := sufs_len hc
  have h2 := at_sufs hA hr (sufs_in (Int.le_refl 0) hc)
  rw [h1] at h2
  exact h _ (mem_allL hc h2)
theorem rows_all {v : Int} {t : List (List Int)} {m : Nat} (h : ∀ x ∈ allL v t 0, x.2 = m) : t.length = m := by
  have := h ([] ++ [], oft t [] []) (mem_allL (by simp [sufs]) (by simp [sufs]))
  simp [oft, comesL] at this
  exact this
theorem s1 {n x c : Int} (h : x ≤ c) (h' : c < n) : [c] ∈ sufs true n 1 x := sufs_cons_t h h' (by simp [sufs])
theorem s2 {n x c d : Int} (h : x ≤ c) (h' : c < d) (h2 : d < n) : [c, d] ∈ sufs true n 2 x := sufs_cons_t h (by omega) (s1 (by omega) h2)
theorem s3 {n x c d e : Int} (h : x ≤ c) (h' : c < d) (h2 : d < e) (h3 : e < n) : [c, d, e] ∈ sufs true n 3 x := sufs_cons_t h (by omega) (s2 (by omega) h2 h3)
theorem rao1 {v : Int} {t : List (List Int)} {m : Nat} (hA : ArrP v t) (hm : 0 < m) (h : ∀ x ∈ allL v t 1, x.2 = m) : v ≤ t.length := by
  have h0 := rows_all (fair_down hA (k := 0) (by have := hA.wd; omega) h)
  have hv := hA.1
  rw [h0, Int.natCast_mul, show ((v.toNat : Nat) : Int) = v by omega]
  have : 1 * v ≤ (m : Int) * v := Int.mul_le_mul_of_nonneg_right (by omega) (by omega)
  omega
theorem rao_num {v L m N : Nat} (hv : v = 2 ∨ v = 3 ∨ v = 4) (hN : N = L * v * v) (hN16 : N ≤ 16) (hL : 0 < L) (hm : m ≤ 8) (h8 : N ≤ 8 ∨ m ≤ 8)
    (h : ∀ a b : Int, ∃ D : Nat, D + m * L = m * (L * v) + m * (m * L) ∧ (a * m - b) * (a * m - b) ≤ a * a * (D : Int) - 2 * a * b * ((m * (L * v) : Nat) : Int) + b * b * N) : 1 + m * (v - 1) ≤ N := by
  apply Classical.byContradiction
  intro hc
  obtain ⟨D, hD, hh⟩ := h ((v : Int) - 1) ((L : Int) * v - 1)
  rcases hv with rfl | rfl | rfl
  · have hL4 : L ≤ 4 := by omega
    have : L = 1 ∨ L = 2 ∨ L = 3 ∨ L = 4 := by omega
    rcases this with rfl | rfl | rfl | rfl
    · have : m = 4 ∨ m = 5 ∨ m = 6 ∨ m = 7 ∨ m = 8 := by omega
      rcases this with rfl | rfl | rfl | rfl | rfl <;> (subst hN; simp at hh; omega)
    · have : m = 8 := by omega
      subst this; subst hN; simp at hh; omega
    · omega
    · omega
  · have : L = 1 := by omega
    subst this
    have : m = 5 ∨ m = 6 ∨ m = 7 ∨ m = 8 := by omega
    rcases this with rfl | rfl | rfl | rfl <;> (subst hN; simp at hh; omega)
  · have : L = 1 := by omega
    subst this
    have : m = 6 ∨ m = 7 ∨ m = 8 := by omega
    rcases this with rfl | rfl | rfl <;> (subst hN; simp at hh; omega)
theorem rao2 {v : Int} {t : List (List Int)} {m : Nat} (hA : ArrP v t) (hw2 : 2 ≤ wd t) (hm : 0 < m) (h : ∀ x ∈ allL v t 2, x.2 = m) : 1 + (wd t : Int) * (v - 1) ≤ t.length := by
  have hw := hA.wd
  have h1 := fair_down hA (k := 1) (by omega) h
  have h0 := rows_all (fair_down hA (k := 0) (by omega) h1)
  have hv := hA.1
  have hv4 := hA.2.1
  have hr : gi t 0 ∈ t := gi_mem (by omega) (by have := hA.2.2.1; omega)
  have hf : (t.filter fun r => comesL r [] (([] : List Int).map (gi (gi t 0)))) = t := by simp [comesL]
  have key := rao_num (v := v.toNat) (L := m) (m := wd t) (N := t.length) (by omega) h0 hA.2.2.2.1 hm hw.2 (.inr hw.2) fun a b => by
    refine rao_core (l := t) (r0 := gi t 0) (x := 0) a b hr (fun c c0 c1 => ?_) fun c d c0 c1 d0 d1 hne => ?_
    · have := oft_ind (t := t) (pre := []) (r0 := gi t 0) (c := c)
      rw [hf] at this
      rw [← this]
      exact oft_all hA h1 hr (s1 c0 (by omega))
    · rcases Int.lt_or_gt_of_ne hne with hlt | hlt
      · have := oft_ind2 (t := t) (pre := []) (r0 := gi t 0) (c := c) (d := d)
        rw [hf] at this
        rw [← this]
        exact oft_all hA h hr (s2 c0 hlt (by omega))
      · rw [ind_comm]
        have := oft_ind2 (t := t) (pre := []) (r0 := gi t 0) (c := d) (d := c)
        rw [hf] at this
        rw [← this]
        exact oft_all hA h hr (s2 d0 hlt (by omega))
  have e : ((1 + wd t * (v.toNat - 1) : Nat) : Int) = 1 + (wd t : Int) * (v - 1) := by
    rw [Int.natCast_add, Int.natCast_mul]
    congr 2; omega
  omega
theorem rao3 {v : Int} {t : List (List Int)} {m : Nat} (hA : ArrP v t) (hw3 : 3 ≤ wd t) (hm : 0 < m) (h : ∀ x ∈ allL v t 3, x.2 = m) : v * (1 + ((wd t : Int) - 1) * (v - 1)) ≤ t.length := by
  have hw := hA.wd
  have h2 := fair_down hA (k := 2) (by omega) h
  have h1 := fair_down hA (k := 1) (by omega) h2
  have h0 := rows_all (fair_down hA (k := 0) (by omega) h1)
  have hv := hA.1
  have hv4 := hA.2.1
  have hr : gi t 0 ∈ t := gi_mem (by omega) (by have := hA.2.2.1; omega)
  have hlen : (t.filter fun r => comesL r [0] (([0] : List Int).map (gi (gi t 0)))).length = m * v.toNat * v.toNat := by
    rw [← List.countP_eq_length_filter]
    exact oft_all hA h1 hr (s1 (Int.le_refl 0) (by omega))
  have hle : m * v.toNat * v.toNat ≤ 8 := by
    have := hA.2.2.2.1
    rw [h0] at this
    have h4 : m * v.toNat * v.toNat * 2 ≤ m * v.toNat * v.toNat * v.toNat := Nat.mul_le_mul_left _ (by omega)
    omega
  have hmem : gi t 0 ∈ t.filter fun r => comesL r [0] (([0] : List Int).map (gi (gi t 0))) := by
    rw [List.mem_filter]
    exact ⟨hr, by simp [comesL]⟩
  have key := rao_num (v := v.toNat) (L := m) (m := wd t - 1) (N := (t.filter fun r => comesL r [0] (([0] : List Int).map (gi (gi t 0)))).length) (by omega) hlen (by omega) hm (by omega) (.inr (by omega)) fun a b => by
    refine rao_core (r0 := gi t 0) (x := 1) a b hmem (fun c c0 c1 => ?_) fun c d c0 c1 d0 d1 hne => ?_
    · rw [← oft_ind]
      exact oft_all hA h2 hr (s2 (Int.le_refl 0) (by omega) (by omega))
    · rcases Int.lt_or_gt_of_ne hne with hlt | hlt
      · rw [← oft_ind2]
        exact oft_all hA h hr (s3 (Int.le_refl 0) (by omega) hlt (by omega))
      · rw [ind_comm, ← oft_ind2]
        exact oft_all hA h hr (s3 (Int.le_refl 0) (by omega) hlt (by omega))
  rw [hlen] at key
  have e : ((1 + (wd t - 1) * (v.toNat - 1) : Nat) : Int) = 1 + ((wd t : Int) - 1) * (v - 1) := by
    rw [Int.natCast_add, Int.natCast_mul]
    congr 2 <;> omega
  have key2 : (1 + (wd t - 1) * (v.toNat - 1)) * v.toNat ≤ t.length := by
    rw [h0]; exact Nat.mul_le_mul_right _ key
  have e2 : (((1 + (wd t - 1) * (v.toNat - 1)) * v.toNat : Nat) : Int) = v * (1 + ((wd t : Int) - 1) * (v - 1)) := by
    rw [Int.natCast_mul, e, Int.mul_comm]
    congr 1; omega
  omega
theorem rao {v : Int} {t : List (List Int)} {k : Nat} (hA : ArrP v t) (h1 : 1 ≤ k) (h2 : k ≤ 3) (h3 : k ≤ wd t) (h : fairK v t k = true) : boundI v (wd t) k ≤ t.length := by
  obtain ⟨m, hm, hh⟩ := (fairK_iff hA h3).1 h
  have : k = 1 ∨ k = 2 ∨ k = 3 := by omega
  rcases this with rfl | rfl | rfl
  · exact rao1 hA hm hh
  · exact rao2 hA h3 hm hh
  · exact rao3 hA h3 hm hh
theorem fair_covers {v : Int} {t : List (List Int)} {k : Nat} (hA : ArrP v t) (h3 : k ≤ wd t) (h : fairK v t k = true) : coversB v t k = true := by
  obtain ⟨m, hm, hh⟩ := (fairK_iff hA h3).1 h
  unfold coversB
  rw [List.all_eq_true]
  intro x hx
  rw [hh x hx]
  simp; omega
def powN (x : Int) : Nat → Int
  | 0 => 1
  | k + 1 => powN x k * x
theorem rows_pow {v : Int} {t : List (List Int)} (hA : ArrP v t) : ∀ {k m : Nat}, k ≤ wd t → (∀ x ∈ allL v t k, x.2 = m) → (t.length : Int) = m * powN v k
  | 0, m, _, h => by rw [rows_all h]; simp [powN]
  | k + 1, m, hk, h => by
    have := rows_pow hA (by omega) (fair_down hA hk h)
    rw [this, Int.natCast_mul, powN, show ((v.toNat : Nat) : Int) = v by have := hA.1; omega, Int.mul_assoc, Int.mul_comm v]
theorem str_iff {v : Int} {t : List (List Int)} (hA : ArrP v t) {k : Nat} (h1 : 1 ≤ k) (h2 : k ≤ 3) (h3 : k ≤ wd t) : k ≤ strP v t ↔ fairK v t k = true := by
  have hw := hA.wd
  have d : ∀ {j : Nat}, j + 1 ≤ wd t → fairK v t (j + 1) = true → fairK v t j = true := fun h h' => (fairK_down hA h h').1
  unfold strP
  have : k = 1 ∨ k = 2 ∨ k = 3 := by omega
  rcases this with rfl | rfl | rfl
  · by_cases f1 : fairK v t 1 = true
    · rw [if_pos ⟨hw.1, f1⟩]
      constructor
      · exact fun _ => f1
      · intro _; split
        · split <;> omega
        · omega
    · rw [if_neg (fun h => f1 h.2)]
      constructor
      · omega
      · exact fun h => absurd h f1
  · by_cases f2 : fairK v t 2 = true
    · have f1 := d h3 f2
      rw [if_pos ⟨hw.1, f1⟩, if_pos ⟨h3, f2⟩]
      constructor
      · exact fun _ => f2
      · intro _; split <;> omega
    · rw [if_neg (c := 2 ≤ wd t ∧ _) (fun h => f2 h.2)]
      constructor
      · split <;> omega
      · exact fun h => absurd h f2
  · by_cases f3 : fairK v t 3 = true
    · have f2 := d h3 f3
      have f1 := d (by omega) f2
      rw [if_pos ⟨hw.1, f1⟩, if_pos ⟨by omega, f2⟩, if_pos ⟨h3, f3⟩]
      exact ⟨fun _ => f3, fun _ => Nat.le_refl _⟩
    · rw [if_neg (c := 3 ≤ wd t ∧ _) (fun h => f3 h.2)]
      constructor
      · split
        · split <;> omega
        · omega
      · exact fun h => absurd h f3
theorem powN_small {x : Int} (h0 : 0 ≤ x) (h4 : x ≤ 4) : ∀ k : Nat, k ≤ 3 → 0 ≤ powN x k ∧ powN x k ≤ 4 ^ k
  | 0, _ => by simp [powN]
  | k + 1, h => by
    have := powN_small h0 h4 k (by omega)
    have := mul_small this.1 this.2 h0 h4 (by omega)
    rw [powN, Int.pow_succ]; exact this
theorem power_ret {H : Heap} {x : Int} {k : Nat} (h0 : 0 ≤ x) (h4 : x ≤ 4) (h3 : k ≤ 3) : RetP E 58 [.i x, .i k] H (.i (powN x k)) := by
  refine RetP.ro rfl fn58 rfl rfl ?_
  unfold f58A
  simp (disch := (first | assumption | omega | (simp only [List.length_append, List.length_cons, List.length_nil]; omega))) only [↓wD,wU,Nat.reduceBEq,zx150,zx151,zx159,zx160,zx161,zx162,Nat.reduceAdd,Nat.reduceSub,Nat.reduceMul,Nat.reduceLeDiff,Nat.reduceLT,Nat.reduceEqDiff,Int.reduceAdd,Int.reduceSub,Int.reduceMul,Int.reduceNeg,Int.reduceLT,Int.reduceLE,Int.reduceEq,Int.reduceToNat,Int.cast_ofNat_Int,↓reduceIte, *]
  refine Wp.for k (fun i a H' => H' = H ∧ a 0 = .i x ∧ a 6 = .i k ∧ a 7 = .i i ∧ a 5 = .i (powN x i)) ?_ ?_
  · rintro i a H' hi ⟨rfl, a0, a6, a7, a5⟩ ih
    have hp := powN_small h0 h4 i (by omega)
    have hb : (4 : Int) ^ i ≤ 64 := by
      have : i = 0 ∨ i = 1 ∨ i = 2 ∨ i = 3 := by omega
      rcases this with rfl | rfl | rfl | rfl <;> decide
    have hm := mul_small (m := 64) (n := 4) hp.1 (by omega) h0 h4 (by omega)
    simp (disch := (first | assumption | omega | (simp only [List.length_append, List.length_cons, List.length_nil]; omega))) only [↓wD,wU,Nat.reduceBEq,zx150,zx151,zx159,zx160,zx161,zx162,Nat.reduceAdd,Nat.reduceSub,Nat.reduceMul,Nat.reduceLeDiff,Nat.reduceLT,Nat.reduceEqDiff,Int.reduceAdd,Int.reduceSub,Int.reduceMul,Int.reduceNeg,Int.reduceLT,Int.reduceLE,Int.reduceEq,Int.reduceToNat,Int.cast_ofNat_Int,↓reduceIte, *]
    refine condP_split (fun hlt => ?_) (fun hlt => ?_)
    · have hi' : i < k := by omega
      simp (disch := (first | assumption | omega | (simp only [List.length_append, List.length_cons, List.length_nil]; omega))) only [↓wD,wU,Nat.reduceBEq,zx150,zx151,zx159,zx160,zx161,zx162,Nat.reduceAdd,Nat.reduceSub,Nat.reduceMul,Nat.reduceLeDiff,Nat.reduceLT,Nat.reduceEqDiff,Int.reduceAdd,Int.reduceSub,Int.reduceMul,Int.reduceNeg,Int.reduceLT,Int.reduceLE,Int.reduceEq,Int.reduceToNat,Int.cast_ofNat_Int,↓reduceIte, *]
      refine (ih hi').go ⟨rfl, ?_⟩
      simp (disch := (first | assumption | omega | (simp only [List.length_append, List.length_cons, List.length_nil]; omega))) only [↓wD,wU,Nat.reduceBEq,zx150,zx151,zx159,zx160,zx161,zx162,Nat.reduceAdd,Nat.reduceSub,Nat.reduceMul,Nat.reduceLeDiff,Nat.reduceLT,Nat.reduceEqDiff,Int.reduceAdd,Int.reduceSub,Int.reduceMul,Int.reduceNeg,Int.reduceLT,Int.reduceLE,Int.reduceEq,Int.reduceToNat,Int.cast_ofNat_Int,↓reduceIte, *]
      rfl
    · obtain rfl : i = k := by omega
      simp (disch := (first | assumption | omega | (simp only [List.length_append, List.length_cons, List.length_nil]; omega))) only [↓wD,wU,Nat.reduceBEq,zx150,zx151,zx159,zx160,zx161,zx162,Nat.reduceAdd,Nat.reduceSub,Nat.reduceMul,Nat.reduceLeDiff,Nat.reduceLT,Nat.reduceEqDiff,Int.reduceAdd,Int.reduceSub,Int.reduceMul,Int.reduceNeg,Int.reduceLT,Int.reduceLE,Int.reduceEq,Int.reduceToNat,Int.cast_ofNat_Int,↓reduceIte, *]
  · (simp (disch := (first | assumption | omega | (simp only [List.length_append, List.length_cons, List.length_nil]; omega))) only [↓wD,wU,Nat.reduceBEq,zx150,zx151,zx159,zx160,zx161,zx162,Nat.reduceAdd,Nat.reduceSub,Nat.reduceMul,Nat.reduceLeDiff,Nat.reduceLT,Nat.reduceEqDiff,Int.reduceAdd,Int.reduceSub,Int.reduceMul,Int.reduceNeg,Int.reduceLT,Int.reduceLE,Int.reduceEq,Int.reduceToNat,Int.cast_ofNat_Int,↓reduceIte, *]) <;> rfl
end Go.Proofs.Ytalaadcbpjnglaa
namespace Go.Proofs.Ytalaadcbpjnglaa
open Go Go.AM Go.Proofs
theorem Walk.ArraysFair (H : Heap) (cs : List AV) (x : Int × List (List Int)) (h : Rep.rep (fun b => b < H.length) H cs x) (k : Int) : WpF E H.length 11 [.ag cs, .i k] H fun v _ => v = .b true := by
  obtain ⟨r, rfl, hs⟩ := rep_si_elim h
  obtain ⟨v, t⟩ := x
  change Sl _ H r t at hs
  refine law_of (RetP.ro rfl fn11 rfl rfl ?_)
  unfold f11A
  have c0 : (H ++ [.cells [.i v, r]])[H.length]? = some (.cells [.i v, r]) := get_last
  have hs0 := hs.app [.cells [.i v, r]]
  simp (disch := (first | assumption | omega | (simp only [List.length_append, List.length_cons, List.length_nil]; omega))) only [↓wD,wU,Nat.reduceBEq,zx150,zx151,zx159,zx160,zx161,zx162,Nat.reduceAdd,Nat.reduceSub,Nat.reduceMul,Nat.reduceLeDiff,Nat.reduceLT,Nat.reduceEqDiff,Int.reduceAdd,Int.reduceSub,Int.reduceMul,Int.reduceNeg,Int.reduceLT,Int.reduceLE,Int.reduceEq,Int.reduceToNat,Int.cast_ofNat_Int,↓reduceIte, *, hs.cellsV]
  refine (of_ret hs0).toX fun w H1 x1 hw => ?_
  obtain ⟨u1, rfl, hu1⟩ := rv_si_elim hw
  have c1 := x1.get trivial c0
  have hs1 := hs0.kp (x1.all _).kp
  by_cases hA : ArrP v t ∧ 1 ≤ k ∧ k ≤ 3 ∧ k ≤ wd t
  · have g1 := hA
    obtain ⟨k, rfl, q1, q2, q3⟩ := strong_mono hA
    replace hA := hA.1
    have hv1 := hA.1
    have hv2 := hA.2.1
    have hwd := hA.wd
    have hb16 := hA.2.2.2.1
    rw [cutA_ok hA] at hu1
    have hsi := str_iff hA q1 q2 q3
    have hff : fairK v t k = decide (0 < idxL (allL v t k)) := rfl
    have hnn := idx_nonneg (allL_ne hA q3)
    have hrao := rao hA q1 q2 q3
    have hcov := fair_covers hA q3
    have hrows : fairK v t k = true → (t.length : Int) = idxL (allL v t k) * powN v k := fun hf => by
      obtain ⟨m, hm, hh⟩ := (fairK_iff hA q3).1 hf
      rw [idx_all (allL_ne hA q3) hh]
      exact rows_pow hA q3 hh
    have hdown : fairK v t k = true → 2 ≤ k → 0 < idxL (allL v t (k - 1)) ∧ idxL (allL v t (k - 1)) = idxL (allL v t k) * v := fun hf h2 => by
      have e : k = (k - 1) + 1 := by omega
      rw [e] at hf
      have := fairK_down hA (k := k - 1) (by omega) hf
      rw [← e] at this
      exact ⟨by have := this.1; unfold fairK at this; simpa using this, this.2⟩
    by_cases hf : fairK v t k = true
    · have hi0 : 0 < idxL (allL v t k) := by rw [hff] at hf; simpa using hf
      have hne : ¬ idxL (allL v t k) = 0 := by omega
      have i1 : ∀ {p : Nat → Prop} {H' : Heap} {u : AV}, Sl p H' u t → RetP E 48 [.ag [.i v, u], .i k] H' (.tp [.i (idxL (allL v t k)), .i 0]) := fun hu => by
        have := indexX_ret hu hA q1 q2 q3
        rwa [if_neg hne] at this
      have f1 : ∀ {p : Nat → Prop} {H' : Heap} {u : AV}, Sl p H' u t → RetP E 57 [.ag [.i v, u], .i k] H' (.tp [.b true, .i 0]) := fun hu => by
        have := fair_ret hu hA q1 q2 q3
        rwa [decide_eq_true hi0] at this
      have cv1 : ∀ {p : Nat → Prop} {H' : Heap} {u : AV}, Sl p H' u t → RetP E 46 [.ag [.i v, u], .i k] H' (.tp [.b true, .i 0]) := fun hu => by
        have := covers_ret hu hA q1 q2 q3
        rwa [hcov hf] at this
      have hst : (k : Int) ≤ strP v t := by have := hsi.2 hf; omega
      have hrw := hrows hf
      have hra := hrao hf
      have hbd := bound_ret (H := H) v (wd t) k
      have bd1 : ∀ {H' : Heap}, RetP E 19 [.i v, .i (wd t), .i k] H' (.tp [.i (boundI v (wd t) k), .i 0]) := fun {H'} => by
        have := bound_ret (H := H') v (wd t) k
        rwa [if_pos ⟨hv1, hv2, by omega, by omega, by omega, by omega⟩] at this
      have dn1 : 2 ≤ k → (∀ {p : Nat → Prop} {H' : Heap} {u : AV}, Sl p H' u t → RetP E 57 [.ag [.i v, u], .i ((k : Int) - 1)] H' (.tp [.b true, .i 0])) ∧ (∀ {p : Nat → Prop} {H' : Heap} {u : AV}, Sl p H' u t → RetP E 48 [.ag [.i v, u], .i ((k : Int) - 1)] H' (.tp [.i (idxL (allL v t k) * v), .i 0])) := fun h2 => by
        have hd := hdown hf h2
        have e : ((k - 1 : Nat) : Int) = (k : Int) - 1 := by omega
        constructor
        · intro p H' u hu
          have := fair_ret (k := k - 1) hu hA (by omega) (by omega) (by omega)
          rwa [decide_eq_true hd.1, e] at this
        · intro p H' u hu
          have := indexX_ret (k := k - 1) hu hA (by omega) (by omega) (by omega)
          rwa [if_neg (by omega), e, hd.2] at this
      have hdp : ∀ {H' : Heap} {u : AV}, Sl (fun b => b < H.length) H' u t → RetP E 52 [.ag [.i v, u], .i k] H' (.b true) := fun hu => by
        have := deep_ret (v := v) (k := k) hu
        rwa [decide_eq_true g1] at this
      have hpw := power_ret (H := H) (x := v) (k := k) (by omega) hv2 q2
      have hpwN : ∀ {H' : Heap}, RetP E 58 [.i v, .i k] H' (.i (powN v k)) := power_ret (by omega) hv2 q2
      clear hsi hff hrao hcov hrows hdown hne hbd hpw
      have hi16 : idxL (allL v t k) ≤ 16 := by
        have hp1 : 1 ≤ powN v k := by
          rcases Int.lt_or_le 0 (powN v k) with h | h
          · omega
          · have := Int.mul_nonpos_of_nonneg_of_nonpos hnn h
            have := hA.2.2.1
            omega
        have : idxL (allL v t k) * 1 ≤ idxL (allL v t k) * powN v k := Int.mul_le_mul_of_nonneg_left hp1 hnn
        omega
      have hiv := mul_small hnn hi16 (show 0 ≤ v by omega) hv2 (by omega)
      obtain ⟨n, en⟩ : ∃ n, idxL (allL v t k) = n := ⟨_, rfl⟩
      obtain ⟨pw, epw⟩ : ∃ pw, powN v k = pw := ⟨_, rfl⟩
      obtain ⟨bd, ebd⟩ : ∃ bd, boundI v (wd t) k = bd := ⟨_, rfl⟩
      simp only [en, epw, ebd] at *
      clear en epw ebd
      have hrw2 : n * pw = t.length := hrw.symm
      clear hrw
      simp (disch := (first | assumption | omega | (simp only [List.length_append, List.length_cons, List.length_nil]; omega))) only [↓wD,wU,Nat.reduceBEq,zx150,zx151,zx159,zx160,zx161,zx162,Nat.reduceAdd,Nat.reduceSub,Nat.reduceMul,Nat.reduceLeDiff,Nat.reduceLT,Nat.reduceEqDiff,Int.reduceAdd,Int.reduceSub,Int.reduceMul,Int.reduceNeg,Int.reduceLT,Int.reduceLE,Int.reduceEq,Int.reduceToNat,Int.cast_ofNat_Int,↓reduceIte, *, (f1 hu1).call, ldn_of c1]
      refine (of_ret hs1).toX fun w H2 x2 hw => ?_
      obtain ⟨u2, rfl, hu2⟩ := rv_si_elim hw
      have c2 := x2.get trivial c1
      have hs2 := hs1.kp (x2.all _).kp
      rw [cutA_ok hA] at hu2
      simp (disch := (first | assumption | omega | (simp only [List.length_append, List.length_cons, List.length_nil]; omega))) only [↓wD,wU,Nat.reduceBEq,zx150,zx151,zx159,zx160,zx161,zx162,Nat.reduceAdd,Nat.reduceSub,Nat.reduceMul,Nat.reduceLeDiff,Nat.reduceLT,Nat.reduceEqDiff,Int.reduceAdd,Int.reduceSub,Int.reduceMul,Int.reduceNeg,Int.reduceLT,Int.reduceLE,Int.reduceEq,Int.reduceToNat,Int.cast_ofNat_Int,↓reduceIte, *, (i1 hu2).call, ldn_of c2]
      refine (of_ret hs2).toX fun w H3 x3 hw => ?_
      obtain ⟨u3, rfl, hu3⟩ := rv_si_elim hw
      have c3 := x3.get trivial c2
      have hs3 := hs2.kp (x3.all _).kp
      rw [cutA_ok hA] at hu3
      simp (disch := (first | assumption | omega | (simp only [List.length_append, List.length_cons, List.length_nil]; omega))) only [↓wD,wU,Nat.reduceBEq,zx150,zx151,zx159,zx160,zx161,zx162,Nat.reduceAdd,Nat.reduceSub,Nat.reduceMul,Nat.reduceLeDiff,Nat.reduceLT,Nat.reduceEqDiff,Int.reduceAdd,Int.reduceSub,Int.reduceMul,Int.reduceNeg,Int.reduceLT,Int.reduceLE,Int.reduceEq,Int.reduceToNat,Int.cast_ofNat_Int,↓reduceIte, *, (strength_ret hu3 hA).call, ldn_of c3, (rvalid_ret hs3).call, decide_eq_true hA, (hdp hs3).call]
      refine (of_ret hs3).toX fun w H4 x4 hw => ?_
      obtain ⟨u4, rfl, hu4⟩ := rv_si_elim hw
      have c4 := x4.get trivial c3
      have hs4 := hs3.kp (x4.all _).kp
      rw [cutA_ok hA] at hu4
      by_cases hk1 : k = 1
      · have hk1' : (k : Int) ≤ 1 ∧ 1 ≤ (k : Int) := by omega
        clear hk1 dn1
        simp (disch := (first | assumption | omega | (simp only [List.length_append, List.length_cons, List.length_nil]; omega))) only [↓wD,wU,Nat.reduceBEq,zx150,zx151,zx159,zx160,zx161,zx162,Nat.reduceAdd,Nat.reduceSub,Nat.reduceMul,Nat.reduceLeDiff,Nat.reduceLT,Nat.reduceEqDiff,Int.reduceAdd,Int.reduceSub,Int.reduceMul,Int.reduceNeg,Int.reduceLT,Int.reduceLE,Int.reduceEq,Int.reduceToNat,Int.cast_ofNat_Int,↓reduceIte, *, (cv1 hu4).call, ldn_of c4, ld_of c4, (width_ret hs4 hA.2.2.1).call, bd1.call, hs4.L, hpwN.call, awake_ret.call]
      · have hk1' : 2 ≤ (k : Int) := by omega
        obtain ⟨dn2, dn3⟩ := dn1 (by omega)
        clear hk1 dn1
        simp (disch := (first | assumption | omega | (simp only [List.length_append, List.length_cons, List.length_nil]; omega))) only [↓wD,wU,Nat.reduceBEq,zx150,zx151,zx159,zx160,zx161,zx162,Nat.reduceAdd,Nat.reduceSub,Nat.reduceMul,Nat.reduceLeDiff,Nat.reduceLT,Nat.reduceEqDiff,Int.reduceAdd,Int.reduceSub,Int.reduceMul,Int.reduceNeg,Int.reduceLT,Int.reduceLE,Int.reduceEq,Int.reduceToNat,Int.cast_ofNat_Int,↓reduceIte, *, (cv1 hu4).call, ldn_of c4, ld_of c4, (width_ret hs4 hA.2.2.1).call, bd1.call, hs4.L, hpwN.call]
        refine (of_ret hs4).toX fun w H5 x5 hw => ?_
        obtain ⟨u5, rfl, hu5⟩ := rv_si_elim hw
        have c5 := x5.get trivial c4
        have hs5 := hs4.kp (x5.all _).kp
        rw [cutA_ok hA] at hu5
        simp (disch := (first | assumption | omega | (simp only [List.length_append, List.length_cons, List.length_nil]; omega))) only [↓wD,wU,Nat.reduceBEq,zx150,zx151,zx159,zx160,zx161,zx162,Nat.reduceAdd,Nat.reduceSub,Nat.reduceMul,Nat.reduceLeDiff,Nat.reduceLT,Nat.reduceEqDiff,Int.reduceAdd,Int.reduceSub,Int.reduceMul,Int.reduceNeg,Int.reduceLT,Int.reduceLE,Int.reduceEq,Int.reduceToNat,Int.cast_ofNat_Int,↓reduceIte, *, (dn2 hu5).call, ldn_of c5]
        refine (of_ret hs5).toX fun w H6 x6 hw => ?_
        obtain ⟨u6, rfl, hu6⟩ := rv_si_elim hw
        have c6 := x6.get trivial c5
        rw [cutA_ok hA] at hu6
        simp (disch := (first | assumption | omega | (simp only [List.length_append, List.length_cons, List.length_nil]; omega))) only [↓wD,wU,Nat.reduceBEq,zx150,zx151,zx159,zx160,zx161,zx162,Nat.reduceAdd,Nat.reduceSub,Nat.reduceMul,Nat.reduceLeDiff,Nat.reduceLT,Nat.reduceEqDiff,Int.reduceAdd,Int.reduceSub,Int.reduceMul,Int.reduceNeg,Int.reduceLT,Int.reduceLE,Int.reduceEq,Int.reduceToNat,Int.cast_ofNat_Int,↓reduceIte, *, (dn3 hu6).call, ld_of c6, awake_ret.call]
    · have hi0 : ¬ 0 < idxL (allL v t k) := by rw [hff] at hf; simpa using hf
      have he : idxL (allL v t k) = 0 := by omega
      have i1 : ∀ {p : Nat → Prop} {H' : Heap} {u : AV}, Sl p H' u t → RetP E 48 [.ag [.i v, u], .i k] H' (.tp [.i 0, .i 4]) := fun hu => by
        have := indexX_ret hu hA q1 q2 q3
        rwa [if_pos he] at this
      have f1 : ∀ {p : Nat → Prop} {H' : Heap} {u : AV}, Sl p H' u t → RetP E 57 [.ag [.i v, u], .i k] H' (.tp [.b false, .i 0]) := fun hu => by
        have := fair_ret hu hA q1 q2 q3
        rwa [decide_eq_false hi0] at this
      have hst : ¬ (k : Int) ≤ strP v t := fun h => hf (hsi.1 (by omega))
      have hdp : ∀ {H' : Heap} {u : AV}, Sl (fun b => b < H.length) H' u t → RetP E 52 [.ag [.i v, u], .i k] H' (.b true) := fun hu => by
        have := deep_ret (v := v) (k := k) hu
        rwa [decide_eq_true g1] at this
      clear hsi hff hrao hcov hrows hdown he hnn hi0 hf
      simp (disch := (first | assumption | omega | (simp only [List.length_append, List.length_cons, List.length_nil]; omega))) only [↓wD,wU,Nat.reduceBEq,zx150,zx151,zx159,zx160,zx161,zx162,Nat.reduceAdd,Nat.reduceSub,Nat.reduceMul,Nat.reduceLeDiff,Nat.reduceLT,Nat.reduceEqDiff,Int.reduceAdd,Int.reduceSub,Int.reduceMul,Int.reduceNeg,Int.reduceLT,Int.reduceLE,Int.reduceEq,Int.reduceToNat,Int.cast_ofNat_Int,↓reduceIte, *, (f1 hu1).call, ldn_of c1]
      refine (of_ret hs1).toX fun w H2 x2 hw => ?_
      obtain ⟨u2, rfl, hu2⟩ := rv_si_elim hw
      have c2 := x2.get trivial c1
      have hs2 := hs1.kp (x2.all _).kp
      rw [cutA_ok hA] at hu2
      simp (disch := (first | assumption | omega | (simp only [List.length_append, List.length_cons, List.length_nil]; omega))) only [↓wD,wU,Nat.reduceBEq,zx150,zx151,zx159,zx160,zx161,zx162,Nat.reduceAdd,Nat.reduceSub,Nat.reduceMul,Nat.reduceLeDiff,Nat.reduceLT,Nat.reduceEqDiff,Int.reduceAdd,Int.reduceSub,Int.reduceMul,Int.reduceNeg,Int.reduceLT,Int.reduceLE,Int.reduceEq,Int.reduceToNat,Int.cast_ofNat_Int,↓reduceIte, *, (i1 hu2).call, ldn_of c2]
      refine (of_ret hs2).toX fun w H3 x3 hw => ?_
      obtain ⟨u3, rfl, hu3⟩ := rv_si_elim hw
      have c3 := x3.get trivial c2
      have hs3 := hs2.kp (x3.all _).kp
      rw [cutA_ok hA] at hu3
      simp (disch := (first | assumption | omega | (simp only [List.length_append, List.length_cons, List.length_nil]; omega))) only [↓wD,wU,Nat.reduceBEq,zx150,zx151,zx159,zx160,zx161,zx162,Nat.reduceAdd,Nat.reduceSub,Nat.reduceMul,Nat.reduceLeDiff,Nat.reduceLT,Nat.reduceEqDiff,Int.reduceAdd,Int.reduceSub,Int.reduceMul,Int.reduceNeg,Int.reduceLT,Int.reduceLE,Int.reduceEq,Int.reduceToNat,Int.cast_ofNat_Int,↓reduceIte, *, (strength_ret hu3 hA).call, ldn_of c3, (rvalid_ret hs3).call, decide_eq_true hA, (hdp hs3).call, awake_ret.call]
  · have hA3 : ¬ (ArrP v (cutA t) ∧ 1 ≤ k ∧ k ≤ 3 ∧ k ≤ wd (cutA t)) := fun hh => hA ⟨ArrP_cut.1 hh.1, by rw [cutA_ok (ArrP_cut.1 hh.1)] at hh; exact hh.2⟩
    simp (disch := (first | assumption | omega | (simp only [List.length_append, List.length_cons, List.length_nil]; omega))) only [↓wD,wU,Nat.reduceBEq,zx150,zx151,zx159,zx160,zx161,zx162,Nat.reduceAdd,Nat.reduceSub,Nat.reduceMul,Nat.reduceLeDiff,Nat.reduceLT,Nat.reduceEqDiff,Int.reduceAdd,Int.reduceSub,Int.reduceMul,Int.reduceNeg,Int.reduceLT,Int.reduceLE,Int.reduceEq,Int.reduceToNat,Int.cast_ofNat_Int,↓reduceIte, *, (fairX_err hu1 hA3).call, ldn_of c1]
    refine (of_ret hs1).toX fun w H2 x2 hw => ?_
    obtain ⟨u2, rfl, hu2⟩ := rv_si_elim hw
    have c2 := x2.get trivial c1
    have hs2 := hs1.kp (x2.all _).kp
    simp (disch := (first | assumption | omega | (simp only [List.length_append, List.length_cons, List.length_nil]; omega))) only [↓wD,wU,Nat.reduceBEq,zx150,zx151,zx159,zx160,zx161,zx162,Nat.reduceAdd,Nat.reduceSub,Nat.reduceMul,Nat.reduceLeDiff,Nat.reduceLT,Nat.reduceEqDiff,Int.reduceAdd,Int.reduceSub,Int.reduceMul,Int.reduceNeg,Int.reduceLT,Int.reduceLE,Int.reduceEq,Int.reduceToNat,Int.cast_ofNat_Int,↓reduceIte, *, (indexX_err hu2 hA3).call, ldn_of c2]
    refine (of_ret hs2).toX fun w H3 x3 hw => ?_
    obtain ⟨u3, rfl, hu3⟩ := rv_si_elim hw
    by_cases hV : ArrP v t
    · rw [cutA_ok hV] at hu3
      simp (disch := (first | assumption | omega | (simp only [List.length_append, List.length_cons, List.length_nil]; omega))) only [↓wD,wU,Nat.reduceBEq,zx150,zx151,zx159,zx160,zx161,zx162,Nat.reduceAdd,Nat.reduceSub,Nat.reduceMul,Nat.reduceLeDiff,Nat.reduceLT,Nat.reduceEqDiff,Int.reduceAdd,Int.reduceSub,Int.reduceMul,Int.reduceNeg,Int.reduceLT,Int.reduceLE,Int.reduceEq,Int.reduceToNat,Int.cast_ofNat_Int,↓reduceIte, *, (strength_ret hu3 hV).call, awake_ret.call]
    · have hV2 : ¬ ArrP v (cutA t) := fun hh => hV (ArrP_cut.1 hh)
      simp (disch := (first | assumption | omega | (simp only [List.length_append, List.length_cons, List.length_nil]; omega))) only [↓wD,wU,Nat.reduceBEq,zx150,zx151,zx159,zx160,zx161,zx162,Nat.reduceAdd,Nat.reduceSub,Nat.reduceMul,Nat.reduceLeDiff,Nat.reduceLT,Nat.reduceEqDiff,Int.reduceAdd,Int.reduceSub,Int.reduceMul,Int.reduceNeg,Int.reduceLT,Int.reduceLE,Int.reduceEq,Int.reduceToNat,Int.cast_ofNat_Int,↓reduceIte, *, (strength_err hu3 hV2).call, awake_ret.call]
end Go.Proofs.Ytalaadcbpjnglaa
