/- What the law needs: what its functions do, and the laws on lists behind it. No condition. -/
import Derived.Test.YtflekaacffdakaaPi
import Derived.Test.YtflekaacffdakaaBo
import Derived.Laws.StructEq
import Derived.KernelRfl
import Derived.WalkKit
import Derived.ProofKit
import Derived.OpenShut
import Derived.ShutString
import Derived.ChangeOld
import Derived.Below
import Derived.SizedLaws
import Derived.Carry
set_option linter.unusedSimpArgs false
set_option linter.unusedVariables false
namespace Go.Proofs.Ytflekaacffdakaa
open Go Go.AM Go.Proofs
theorem clone_ret {p : Nat → Prop} {H : Heap} {v : AV} {xs : List Int} (hx : Sl p H v xs) (hs : xs.length * 8 ≤ 1099511627776) : Ret E 56 [v] (fun _ => False) H xs := by
  refine Ret.ro rfl fn56 rfl ?_
  unfold f56A
  have main : ∀ {Q : AV × Heap → Prop}, (∀ v' H', Sl (fun b => H.length ≤ b) H' v' xs → Q (v', H')) → @optP _ (appendV H.length 1 8 (.s 1 H.length 0 0 (some 0)) v (H ++ [.cells []])) ⟨Q⟩ := fun {Q} go => by
    have ha : Acc H.length (fun _ => True) (H ++ [.cells []]) (.s 1 H.length 0 0 (some 0)) ([] : List Int) := Acc.fresh0 (Nat.le_refl _)
    refine ha.extend (q := fun b => b < H.length) (Nat.le_refl _) (by simp) ((hx.low.app [.cells []]).weak fun b h => h.2) (fun b hb => ⟨trivial, ?_⟩) (by simpa using hs) (by omega) fun v' H' h' _ => go _ _ ?_
    · intro e; simp only [AV.blk, Option.some.injEq] at e; omega
    · rw [List.nil_append] at h'
      rcases h' with h' | ⟨b, o, c, k, e, hb, hk, h1, h2, h3⟩
      · exact .inl h'
      · exact .inr ⟨b, o, c, k, e, hb, hk, h1, h2, h3⟩
  rcases hx with ⟨rfl, rfl⟩ | ⟨b, o, c, k, e, hb, hk, h1, h2, h3⟩
  · simp (disch := (first | assumption | omega | (simp only [List.length_append, List.length_cons, List.length_nil]; omega))) only [↓wD,wU,Nat.reduceBEq,zx150,zx151,zx159,zx160,zx161,zx162,Nat.reduceAdd,Nat.reduceSub,Nat.reduceMul,Nat.reduceLeDiff,Nat.reduceLT,Nat.reduceEqDiff,Int.reduceAdd,Int.reduceSub,Int.reduceMul,Int.reduceNeg,Int.reduceLT,Int.reduceLE,Int.reduceEq,Int.reduceToNat,Int.cast_ofNat_Int,↓reduceIte, *]
    exact Sl.nil
  · subst e
    simp (disch := (first | assumption | omega | (simp only [List.length_append, List.length_cons, List.length_nil]; omega))) only [↓wD,wU,Nat.reduceBEq,zx150,zx151,zx159,zx160,zx161,zx162,Nat.reduceAdd,Nat.reduceSub,Nat.reduceMul,Nat.reduceLeDiff,Nat.reduceLT,Nat.reduceEqDiff,Int.reduceAdd,Int.reduceSub,Int.reduceMul,Int.reduceNeg,Int.reduceLT,Int.reduceLE,Int.reduceEq,Int.reduceToNat,Int.cast_ofNat_Int,↓reduceIte, *]
    refine main fun v' H' h' => ?_
    simp (disch := (first | assumption | omega | (simp only [List.length_append, List.length_cons, List.length_nil]; omega))) only [↓wD,wU,Nat.reduceBEq,zx150,zx151,zx159,zx160,zx161,zx162,Nat.reduceAdd,Nat.reduceSub,Nat.reduceMul,Nat.reduceLeDiff,Nat.reduceLT,Nat.reduceEqDiff,Int.reduceAdd,Int.reduceSub,Int.reduceMul,Int.reduceNeg,Int.reduceLT,Int.reduceLE,Int.reduceEq,Int.reduceToNat,Int.cast_ofNat_Int,↓reduceIte, *]
    exact h'.weak fun _ h => .inr h
end Go.Proofs.Ytflekaacffdakaa
namespace Go.Proofs.Ytflekaacffdakaa
open Go Go.AM Go.Proofs
def OkN (xs : List Int) : Prop := ∀ x ∈ xs, 0 ≤ x ∧ x ≤ 16
instance (xs : List Int) : Decidable (OkN xs) := by unfold OkN; infer_instance
def RowOk (n : Nat) (r : List Int) : Prop := 1 ≤ r.length ∧ r.length ≤ 3 ∧ r.length = n ∧ OkN r
def TabOk (t : List (List Int)) : Prop := 1 ≤ t.length ∧ t.length ≤ 3 ∧ (∀ r ∈ t, RowOk (gi t 0).length r) ∧ (t.map List.sum).sum ≤ 16
instance (n : Nat) (r : List Int) : Decidable (RowOk n r) := by unfold RowOk; infer_instance
instance (t : List (List Int)) : Decidable (TabOk t) := by unfold TabOk; infer_instance
theorem isSums_ret {p : Nat → Prop} {H : Heap} {v : AV} {xs : List Int} (hx : Sl p H v xs) (hl : xs.length ≤ 100) : RetP E 79 [v] H (.b (decide (OkN xs ∧ xs.sum ≤ 16))) := by
  refine RetP.ro rfl fn79 rfl rfl ?_
  unfold f79A
  simp (disch := (first | assumption | omega | (simp only [List.length_append, List.length_cons, List.length_nil]; omega))) only [↓wD,wU,Nat.reduceBEq,zx150,zx151,zx159,zx160,zx161,zx162,Nat.reduceAdd,Nat.reduceSub,Nat.reduceMul,Nat.reduceLeDiff,Nat.reduceLT,Nat.reduceEqDiff,Int.reduceAdd,Int.reduceSub,Int.reduceMul,Int.reduceNeg,Int.reduceLT,Int.reduceLE,Int.reduceEq,Int.reduceToNat,Int.cast_ofNat_Int,↓reduceIte, *, hx.I]
  refine Wp.for xs.length (fun i a H' => H' = H ∧ a 6 = v ∧ a 7 = .i xs.length ∧ a 8 = .i i ∧ a 3 = .i (xs.take i).sum ∧ OkN (xs.take i)) ?_ ?_
  · rintro i a H' hi ⟨rfl, h6, h7, h8, h3, hh⟩ ih
    have hb := sum_bound hh
    have hb2 : (xs.take i).length ≤ 100 := by rw [List.length_take]; omega
    simp (disch := (first | assumption | omega | (simp only [List.length_append, List.length_cons, List.length_nil]; omega))) only [↓wD,wU,Nat.reduceBEq,zx150,zx151,zx159,zx160,zx161,zx162,Nat.reduceAdd,Nat.reduceSub,Nat.reduceMul,Nat.reduceLeDiff,Nat.reduceLT,Nat.reduceEqDiff,Int.reduceAdd,Int.reduceSub,Int.reduceMul,Int.reduceNeg,Int.reduceLT,Int.reduceLE,Int.reduceEq,Int.reduceToNat,Int.cast_ofNat_Int,↓reduceIte, *]
    refine condP_split (fun hlt => ?_) (fun hlt => ?_)
    · have hi' : i < xs.length := by omega
      (repeat' (first | refine condP_split (fun _ => ?_) (fun _ => ?_) | refine guardP_split (fun _ => ?_) (fun _ => ?_) | refine guardP_splitF (fun _ => ?_) (fun _ => ?_) | (simp (disch := (first | assumption | omega | (simp only [List.length_append, List.length_cons, List.length_nil]; omega))) only [↓wD,wU,Nat.reduceBEq,zx150,zx151,zx159,zx160,zx161,zx162,Nat.reduceAdd,Nat.reduceSub,Nat.reduceMul,Nat.reduceLeDiff,Nat.reduceLT,Nat.reduceEqDiff,Int.reduceAdd,Int.reduceSub,Int.reduceMul,Int.reduceNeg,Int.reduceLT,Int.reduceLE,Int.reduceEq,Int.reduceToNat,Int.cast_ofNat_Int,↓reduceIte, *, hx.I]))) <;> first
        | exact avb_f fun h => by have := h.1 _ (mem_gi hi'); omega
        | skip
      refine (ih hi').go ⟨rfl, ?_⟩
      have hg : 0 ≤ gi xs i ∧ gi xs i ≤ 16 := by omega
      rw [sum_take hi']
      simp (disch := (first | assumption | omega | (simp only [List.length_append, List.length_cons, List.length_nil]; omega))) only [↓wD,wU,Nat.reduceBEq,zx150,zx151,zx159,zx160,zx161,zx162,Nat.reduceAdd,Nat.reduceSub,Nat.reduceMul,Nat.reduceLeDiff,Nat.reduceLT,Nat.reduceEqDiff,Int.reduceAdd,Int.reduceSub,Int.reduceMul,Int.reduceNeg,Int.reduceLT,Int.reduceLE,Int.reduceEq,Int.reduceToNat,Int.cast_ofNat_Int,↓reduceIte, *]
      exact mem_take_gi hh hi' hg
    · simp (disch := (first | assumption | omega | (simp only [List.length_append, List.length_cons, List.length_nil]; omega))) only [↓wD,wU,Nat.reduceBEq,zx150,zx151,zx159,zx160,zx161,zx162,Nat.reduceAdd,Nat.reduceSub,Nat.reduceMul,Nat.reduceLeDiff,Nat.reduceLT,Nat.reduceEqDiff,Int.reduceAdd,Int.reduceSub,Int.reduceMul,Int.reduceNeg,Int.reduceLT,Int.reduceLE,Int.reduceEq,Int.reduceToNat,Int.cast_ofNat_Int,↓reduceIte, *]
      have e : xs.take i = xs := List.take_of_length_le (by omega)
      rw [e] at hh ⊢
      simp [hh]
  · (simp (disch := (first | assumption | omega | (simp only [List.length_append, List.length_cons, List.length_nil]; omega))) only [↓wD,wU,Nat.reduceBEq,zx150,zx151,zx159,zx160,zx161,zx162,Nat.reduceAdd,Nat.reduceSub,Nat.reduceMul,Nat.reduceLeDiff,Nat.reduceLT,Nat.reduceEqDiff,Int.reduceAdd,Int.reduceSub,Int.reduceMul,Int.reduceNeg,Int.reduceLT,Int.reduceLE,Int.reduceEq,Int.reduceToNat,Int.cast_ofNat_Int,↓reduceIte, *]) <;> simp [OkN]
theorem sum_nonneg {xs : List Int} (h : ∀ x ∈ xs, 0 ≤ x) : 0 ≤ xs.sum := by
  induction xs with
  | nil => simp
  | cons x xs ih => have := h x (by simp); have := ih fun y hy => h y (by simp [hy]); simp only [List.sum_cons]; omega
theorem le_sum {xs : List Int} (h : ∀ x ∈ xs, 0 ≤ x) {x : Int} (hx : x ∈ xs) : x ≤ xs.sum := by
  induction xs with
  | nil => cases hx
  | cons y xs ih =>
    have h0 := h y (by simp)
    have h1 := sum_nonneg fun z hz => h z (List.mem_cons_of_mem _ hz)
    simp only [List.sum_cons]
    rcases List.mem_cons.1 hx with rfl | hx
    · omega
    · have := ih (fun z hz => h z (List.mem_cons_of_mem _ hz)) hx; omega
theorem row_le_total {t : List (List Int)} (h : TabOk t) {r : List Int} (hr : r ∈ t) : r.sum ≤ 16 := by
  have h1 : ∀ x ∈ t.map List.sum, 0 ≤ x := by
    intro x hx
    obtain ⟨s, hs, rfl⟩ := List.mem_map.1 hx
    exact sum_nonneg fun y hy => ((h.2.2.1 s hs).2.2.2 y hy).1
  have := le_sum h1 (List.mem_map_of_mem hr)
  have := h.2.2.2
  omega
theorem valid_ret {p : Nat → Prop} {H : Heap} {v : AV} {t : List (List Int)} (ht : Sl p H v t) : RetP E 70 [v] H (.b (decide (TabOk t))) := by
  refine RetP.ro rfl fn70 rfl rfl ?_
  unfold f70A
  (repeat' (first | refine condP_split (fun _ => ?_) (fun _ => ?_) | refine guardP_split (fun _ => ?_) (fun _ => ?_) | refine guardP_splitF (fun _ => ?_) (fun _ => ?_) | (simp (disch := (first | assumption | omega | (simp only [List.length_append, List.length_cons, List.length_nil]; omega))) only [↓wD,wU,Nat.reduceBEq,zx150,zx151,zx159,zx160,zx161,zx162,Nat.reduceAdd,Nat.reduceSub,Nat.reduceMul,Nat.reduceLeDiff,Nat.reduceLT,Nat.reduceEqDiff,Int.reduceAdd,Int.reduceSub,Int.reduceMul,Int.reduceNeg,Int.reduceLT,Int.reduceLE,Int.reduceEq,Int.reduceToNat,Int.cast_ofNat_Int,↓reduceIte, *, ht.L]))) <;> first
    | exact avb_f fun h => by have := h.1; have := h.2.1; omega
    | skip
  refine Wp.for t.length (fun i a H' => H' = H ∧ a 0 = v ∧ a 16 = v ∧ a 17 = .i t.length ∧ a 18 = .i i ∧ a 3 = .i ((t.take i).map List.sum).sum ∧ (∀ r ∈ t.take i, RowOk (gi t 0).length r) ∧ 0 ≤ ((t.take i).map List.sum).sum ∧ ((t.take i).map List.sum).sum ≤ i * 48) ?_ ?_
  · rintro i a H' hi ⟨rfl, h0, h16, h17, h18, h3, hh, hp, hq⟩ ih
    simp (disch := (first | assumption | omega | (simp only [List.length_append, List.length_cons, List.length_nil]; omega))) only [↓wD,wU,Nat.reduceBEq,zx150,zx151,zx159,zx160,zx161,zx162,Nat.reduceAdd,Nat.reduceSub,Nat.reduceMul,Nat.reduceLeDiff,Nat.reduceLT,Nat.reduceEqDiff,Int.reduceAdd,Int.reduceSub,Int.reduceMul,Int.reduceNeg,Int.reduceLT,Int.reduceLE,Int.reduceEq,Int.reduceToNat,Int.cast_ofNat_Int,↓reduceIte, *]
    refine condP_split (fun hlt => ?_) (fun hlt => ?_)
    · have hi' : i < t.length := by omega
      have g := ht.get (k := (i : Int)) (by omega) (by omega)
      have g0 := ht.get (k := (0 : Int)) (by omega) (by omega)
      by_cases hr : RowOk (gi t 0).length (gi t i)
      · obtain ⟨hr1, hr2, hr3, hr4⟩ := hr
        have hgb := sum_bound hr4
        (repeat' (first | refine condP_split (fun _ => ?_) (fun _ => ?_) | refine guardP_split (fun _ => ?_) (fun _ => ?_) | refine guardP_splitF (fun _ => ?_) (fun _ => ?_) | (simp (disch := (first | assumption | omega | (simp only [List.length_append, List.length_cons, List.length_nil]; omega))) only [↓wD,wU,Nat.reduceBEq,zx150,zx151,zx159,zx160,zx161,zx162,Nat.reduceAdd,Nat.reduceSub,Nat.reduceMul,Nat.reduceLeDiff,Nat.reduceLT,Nat.reduceEqDiff,Int.reduceAdd,Int.reduceSub,Int.reduceMul,Int.reduceNeg,Int.reduceLT,Int.reduceLE,Int.reduceEq,Int.reduceToNat,Int.cast_ofNat_Int,↓reduceIte, *, ht.L, g.I, g0.I, (isSums_ret g (by omega)).call])))
        · exact avb_f fun h => by have := row_le_total h (mem_gi hi'); simp_all
        refine Wp.for (gi t i).length (fun j a H'' => H'' = H' ∧ a 0 = v ∧ a 16 = v ∧ a 17 = .i t.length ∧ a 18 = .i i ∧ a 44 = v.get H' i ∧ a 45 = .i (gi t i).length ∧ a 46 = .i j ∧ a 3 = .i (((t.take i).map List.sum).sum + ((gi t i).take j).sum)) ?_ ?_
        · clear h0 h16 h17 h18 h3
          rintro j a H' hj ⟨rfl, h0, h16, h17, h18, h44, h45, h46, h3⟩ ih2
          have hb1 : OkN ((gi t i).take j) := fun x hx => hr4 x (List.mem_of_mem_take hx)
          have hb2 := sum_bound hb1
          have hb3 : ((gi t i).take j).length ≤ 3 := by rw [List.length_take]; omega
          simp (disch := (first | assumption | omega | (simp only [List.length_append, List.length_cons, List.length_nil]; omega))) only [↓wD,wU,Nat.reduceBEq,zx150,zx151,zx159,zx160,zx161,zx162,Nat.reduceAdd,Nat.reduceSub,Nat.reduceMul,Nat.reduceLeDiff,Nat.reduceLT,Nat.reduceEqDiff,Int.reduceAdd,Int.reduceSub,Int.reduceMul,Int.reduceNeg,Int.reduceLT,Int.reduceLE,Int.reduceEq,Int.reduceToNat,Int.cast_ofNat_Int,↓reduceIte, *]
          refine condP_split (fun hlt => ?_) (fun hlt => ?_)
          · have hj' : j < (gi t i).length := by omega
            have hg := hr4 _ (mem_gi hj')
            simp (disch := (first | assumption | omega | (simp only [List.length_append, List.length_cons, List.length_nil]; omega))) only [↓wD,wU,Nat.reduceBEq,zx150,zx151,zx159,zx160,zx161,zx162,Nat.reduceAdd,Nat.reduceSub,Nat.reduceMul,Nat.reduceLeDiff,Nat.reduceLT,Nat.reduceEqDiff,Int.reduceAdd,Int.reduceSub,Int.reduceMul,Int.reduceNeg,Int.reduceLT,Int.reduceLE,Int.reduceEq,Int.reduceToNat,Int.cast_ofNat_Int,↓reduceIte, *, g.I]
            refine (ih2 hj').go ⟨rfl, ?_⟩
            rw [sum_take hj']
            simp (disch := (first | assumption | omega | (simp only [List.length_append, List.length_cons, List.length_nil]; omega))) only [↓wD,wU,Nat.reduceBEq,zx150,zx151,zx159,zx160,zx161,zx162,Nat.reduceAdd,Nat.reduceSub,Nat.reduceMul,Nat.reduceLeDiff,Nat.reduceLT,Nat.reduceEqDiff,Int.reduceAdd,Int.reduceSub,Int.reduceMul,Int.reduceNeg,Int.reduceLT,Int.reduceLE,Int.reduceEq,Int.reduceToNat,Int.cast_ofNat_Int,↓reduceIte, *]
            rw [Int.add_assoc]
          · simp (disch := (first | assumption | omega | (simp only [List.length_append, List.length_cons, List.length_nil]; omega))) only [↓wD,wU,Nat.reduceBEq,zx150,zx151,zx159,zx160,zx161,zx162,Nat.reduceAdd,Nat.reduceSub,Nat.reduceMul,Nat.reduceLeDiff,Nat.reduceLT,Nat.reduceEqDiff,Int.reduceAdd,Int.reduceSub,Int.reduceMul,Int.reduceNeg,Int.reduceLT,Int.reduceLE,Int.reduceEq,Int.reduceToNat,Int.cast_ofNat_Int,↓reduceIte, *]
            have e : ((gi t i).take j).sum = (gi t i).sum := sum_take_all (by omega)
            refine (ih hi').go ⟨rfl, ?_⟩
            have e2 : ((t.take (i + 1)).map List.sum).sum = ((t.take i).map List.sum).sum + (gi t i).sum := by rw [take_gi hi', List.map_append, List.sum_append]; simp
            rw [e2, ← e]
            simp (disch := (first | assumption | omega | (simp only [List.length_append, List.length_cons, List.length_nil]; omega))) only [↓wD,wU,Nat.reduceBEq,zx150,zx151,zx159,zx160,zx161,zx162,Nat.reduceAdd,Nat.reduceSub,Nat.reduceMul,Nat.reduceLeDiff,Nat.reduceLT,Nat.reduceEqDiff,Int.reduceAdd,Int.reduceSub,Int.reduceMul,Int.reduceNeg,Int.reduceLT,Int.reduceLE,Int.reduceEq,Int.reduceToNat,Int.cast_ofNat_Int,↓reduceIte, *]
            exact ⟨mem_take_gi hh hi' ⟨hr1, hr2, hr3, hr4⟩, by omega, by omega⟩
        · (simp (disch := (first | assumption | omega | (simp only [List.length_append, List.length_cons, List.length_nil]; omega))) only [↓wD,wU,Nat.reduceBEq,zx150,zx151,zx159,zx160,zx161,zx162,Nat.reduceAdd,Nat.reduceSub,Nat.reduceMul,Nat.reduceLeDiff,Nat.reduceLT,Nat.reduceEqDiff,Int.reduceAdd,Int.reduceSub,Int.reduceMul,Int.reduceNeg,Int.reduceLT,Int.reduceLE,Int.reduceEq,Int.reduceToNat,Int.cast_ofNat_Int,↓reduceIte, *]) <;> simp
      · have hr' : ¬ TabOk t := fun h => hr (h.2.2.1 _ (mem_gi hi'))
        (repeat' (first | refine condP_split (fun _ => ?_) (fun _ => ?_) | refine guardP_split (fun _ => ?_) (fun _ => ?_) | refine guardP_splitF (fun _ => ?_) (fun _ => ?_) | (simp (disch := (first | assumption | omega | (simp only [List.length_append, List.length_cons, List.length_nil]; omega))) only [↓wD,wU,Nat.reduceBEq,zx150,zx151,zx159,zx160,zx161,zx162,Nat.reduceAdd,Nat.reduceSub,Nat.reduceMul,Nat.reduceLeDiff,Nat.reduceLT,Nat.reduceEqDiff,Int.reduceAdd,Int.reduceSub,Int.reduceMul,Int.reduceNeg,Int.reduceLT,Int.reduceLE,Int.reduceEq,Int.reduceToNat,Int.cast_ofNat_Int,↓reduceIte, *, ht.L, g.I, g0.I]))) <;> first
          | exact avb_f hr'
          | skip
        (repeat' (first | refine condP_split (fun _ => ?_) (fun _ => ?_) | refine guardP_split (fun _ => ?_) (fun _ => ?_) | refine guardP_splitF (fun _ => ?_) (fun _ => ?_) | (simp (disch := (first | assumption | omega | (simp only [List.length_append, List.length_cons, List.length_nil]; omega))) only [↓wD,wU,Nat.reduceBEq,zx150,zx151,zx159,zx160,zx161,zx162,Nat.reduceAdd,Nat.reduceSub,Nat.reduceMul,Nat.reduceLeDiff,Nat.reduceLT,Nat.reduceEqDiff,Int.reduceAdd,Int.reduceSub,Int.reduceMul,Int.reduceNeg,Int.reduceLT,Int.reduceLE,Int.reduceEq,Int.reduceToNat,Int.cast_ofNat_Int,↓reduceIte, *, (isSums_ret g (by omega)).call]))) <;> first
          | exact avb_f hr'
          | skip
        rename_i q
        exact absurd ⟨by omega, by omega, by omega, (Decidable.not_not.1 q).1⟩ hr
    · simp (disch := (first | assumption | omega | (simp only [List.length_append, List.length_cons, List.length_nil]; omega))) only [↓wD,wU,Nat.reduceBEq,zx150,zx151,zx159,zx160,zx161,zx162,Nat.reduceAdd,Nat.reduceSub,Nat.reduceMul,Nat.reduceLeDiff,Nat.reduceLT,Nat.reduceEqDiff,Int.reduceAdd,Int.reduceSub,Int.reduceMul,Int.reduceNeg,Int.reduceLT,Int.reduceLE,Int.reduceEq,Int.reduceToNat,Int.cast_ofNat_Int,↓reduceIte, *]
      have e : t.take i = t := List.take_of_length_le (by omega)
      rw [e] at hh ⊢
      congr 1
      exact decide_eq_decide.2 ⟨fun h => ⟨by omega, by omega, hh, h⟩, fun h => h.2.2.2⟩
  · (simp (disch := (first | assumption | omega | (simp only [List.length_append, List.length_cons, List.length_nil]; omega))) only [↓wD,wU,Nat.reduceBEq,zx150,zx151,zx159,zx160,zx161,zx162,Nat.reduceAdd,Nat.reduceSub,Nat.reduceMul,Nat.reduceLeDiff,Nat.reduceLT,Nat.reduceEqDiff,Int.reduceAdd,Int.reduceSub,Int.reduceMul,Int.reduceNeg,Int.reduceLT,Int.reduceLE,Int.reduceEq,Int.reduceToNat,Int.cast_ofNat_Int,↓reduceIte, *]) <;> simp
end Go.Proofs.Ytflekaacffdakaa
namespace Go.Proofs.Ytflekaacffdakaa
open Go Go.AM Go.Proofs
theorem gi_map_range {α : Type} [Inhabited α] {n j : Nat} {f : Nat → α} (h : j < n) : gi ((List.range n).map f) (j : Int) = f j := by
  rw [gi_nat (by simpa using h)]; simp
theorem set_map_range {α : Type} {n j : Nat} {f : Nat → α} {y : α} : ((List.range n).map f).set j y = (List.range n).map fun c => if c = j then y else f c := by
  apply List.ext_getElem (by simp)
  intro i h1 h2
  simp only [List.getElem_set, List.getElem_map, List.getElem_range]
  by_cases h : j = i
  · subst h; simp
  · rw [if_neg h, if_neg (fun e => h e.symm)]
theorem map_range_congr {α : Type} {n : Nat} {f g : Nat → α} (h : ∀ c, c < n → f c = g c) : (List.range n).map f = (List.range n).map g :=
  List.map_congr_left fun c hc => h c (List.mem_range.1 hc)
def colPart (t : List (List Int)) (i j : Nat) : Int := ((t.take i).map fun r => gi r (j : Int)).sum
def colSums (t : List (List Int)) : List Int := (List.range (gi t 0).length).map fun j => colPart t t.length j
def rowSums (t : List (List Int)) : List Int := t.map List.sum
theorem colPart_succ {t : List (List Int)} {i j : Nat} (h : i < t.length) : colPart t (i + 1) j = colPart t i j + gi (gi t i) j := by
  simp [colPart, take_gi h, List.map_append, List.sum_append]
theorem colPart_0 {t : List (List Int)} {j : Nat} : colPart t 0 j = 0 := by simp [colPart]
theorem TabOk.entry {t : List (List Int)} (h : TabOk t) {i j : Nat} (hi : i < t.length) (hj : j < (gi t 0).length) : 0 ≤ gi (gi t i) j ∧ gi (gi t i) j ≤ 16 := by
  have h1 := h.2.2.1 _ (mem_gi hi)
  exact h1.2.2.2 _ (mem_gi (by rw [h1.2.2.1]; exact hj))
theorem TabOk.width {t : List (List Int)} (h : TabOk t) {i : Nat} (hi : i < t.length) : (gi t i).length = (gi t 0).length := (h.2.2.1 _ (mem_gi hi)).2.2.1
theorem TabOk.cols {t : List (List Int)} (h : TabOk t) : 1 ≤ (gi t 0).length ∧ (gi t 0).length ≤ 3 := by
  have h1 := h.2.2.1 _ (mem_gi (i := 0) h.1)
  exact ⟨h1.1, h1.2.1⟩
theorem TabOk.colPart {t : List (List Int)} (h : TabOk t) {i j : Nat} (hj : j < (gi t 0).length) : 0 ≤ colPart t i j ∧ colPart t i j ≤ 48 := by
  have h1 : ∀ x ∈ (t.take i).map fun r => gi r (j : Int), 0 ≤ x ∧ x ≤ 16 := by
    intro x hx
    obtain ⟨r, hr, rfl⟩ := List.mem_map.1 hx
    have hr' := h.2.2.1 r (List.mem_of_mem_take hr)
    exact hr'.2.2.2 _ (mem_gi (by rw [hr'.2.2.1]; exact hj))
  have h2 := sum_bound h1
  have h3 : ((t.take i).map fun r => gi r (j : Int)).length ≤ 3 := by have := h.2.1; simp; omega
  unfold Go.Proofs.Ytflekaacffdakaa.colPart
  omega
theorem sums_ret {p : Nat → Prop} {H : Heap} {v : AV} {t : List (List Int)} (ht : Sl p H v t) (h : TabOk t) : Ret E 71 [v] (fun _ => False) H (T2.mk (rowSums t) (colSums t)) := by
  refine Ret.ro rfl fn71 rfl ?_
  unfold f71A
  have hc := h.cols
  have hl := h.1
  have hl3 := h.2.1
  replace ht : Sl (fun b => b < H.length) H v t := ht.low.weak fun _ h => h.2
  have g0 := ht.get (k := (0 : Int)) (by omega) (by omega)
  simp (disch := (first | assumption | omega | (simp only [List.length_append, List.length_cons, List.length_nil]; omega))) only [↓wD,wU,Nat.reduceBEq,zx150,zx151,zx159,zx160,zx161,zx162,Nat.reduceAdd,Nat.reduceSub,Nat.reduceMul,Nat.reduceLeDiff,Nat.reduceLT,Nat.reduceEqDiff,Int.reduceAdd,Int.reduceSub,Int.reduceMul,Int.reduceNeg,Int.reduceLT,Int.reduceLE,Int.reduceEq,Int.reduceToNat,Int.cast_ofNat_Int,↓reduceIte, *, ht.L, g0.I]
  refine Wp.for t.length (fun i a H' => ∃ u w, a 14 = v ∧ a 15 = .i t.length ∧ a 16 = .i i ∧ a 2 = u ∧ a 3 = w ∧ Gr H H' ∧ Acc H.length (fun _ => False) H' u ((t.take i).map List.sum) ∧ MI H.length H' w ((List.range (gi t 0).length).map fun j => colPart t i j) ∧ (∀ b, u.blk = some b → w.blk ≠ some b)) ?_ ?_
  · rintro i a H1 hi ⟨u, w, h14, h15, h16, h2, h3, hg, hu, hw, hne⟩ ih
    simp (disch := (first | assumption | omega | (simp only [List.length_append, List.length_cons, List.length_nil]; omega))) only [↓wD,wU,Nat.reduceBEq,zx150,zx151,zx159,zx160,zx161,zx162,Nat.reduceAdd,Nat.reduceSub,Nat.reduceMul,Nat.reduceLeDiff,Nat.reduceLT,Nat.reduceEqDiff,Int.reduceAdd,Int.reduceSub,Int.reduceMul,Int.reduceNeg,Int.reduceLT,Int.reduceLE,Int.reduceEq,Int.reduceToNat,Int.cast_ofNat_Int,↓reduceIte, *]
    refine condP_split (fun hlt => ?_) (fun hlt => ?_)
    · have hi' : i < t.length := by omega
      have ht1 := ht.gr hg
      have g := ht1.get (k := (i : Int)) (by omega) (by omega)
      have hwd := h.width hi'
      simp (disch := (first | assumption | omega | (simp only [List.length_append, List.length_cons, List.length_nil]; omega))) only [↓wD,wU,Nat.reduceBEq,zx150,zx151,zx159,zx160,zx161,zx162,Nat.reduceAdd,Nat.reduceSub,Nat.reduceMul,Nat.reduceLeDiff,Nat.reduceLT,Nat.reduceEqDiff,Int.reduceAdd,Int.reduceSub,Int.reduceMul,Int.reduceNeg,Int.reduceLT,Int.reduceLE,Int.reduceEq,Int.reduceToNat,Int.cast_ofNat_Int,↓reduceIte, *, ht1.L, g.I]
      refine Wp.for (gi t i).length (fun j a H2 => a 14 = v ∧ a 15 = .i t.length ∧ a 16 = .i i ∧ a 2 = u ∧ a 3 = w ∧ a 20 = v.get H1 i ∧ a 21 = .i (gi t i).length ∧ a 22 = .i j ∧ a 6 = .i ((gi t i).take j).sum ∧ Kp (fun b => w.blk ≠ some b) H1 H2 ∧ H2.length ≤ H1.length ∧ MI H.length H2 w ((List.range (gi t 0).length).map fun c => colPart t i c + if c < j then gi (gi t i) c else 0)) ?_ ?_
      · clear h14 h15 h16 h2 h3
        rintro j a H2 hj ⟨h14, h15, h16, h2, h3, h20, h21, h22, h6, hk, hl2, hw2⟩ ih2
        simp (disch := (first | assumption | omega | (simp only [List.length_append, List.length_cons, List.length_nil]; omega))) only [↓wD,wU,Nat.reduceBEq,zx150,zx151,zx159,zx160,zx161,zx162,Nat.reduceAdd,Nat.reduceSub,Nat.reduceMul,Nat.reduceLeDiff,Nat.reduceLT,Nat.reduceEqDiff,Int.reduceAdd,Int.reduceSub,Int.reduceMul,Int.reduceNeg,Int.reduceLT,Int.reduceLE,Int.reduceEq,Int.reduceToNat,Int.cast_ofNat_Int,↓reduceIte, *]
        refine condP_split (fun hlt => ?_) (fun hlt => ?_)
        · have hj' : j < (gi t i).length := by omega
          have he := h.entry hi' (j := j) (by omega)
          have hcp := h.colPart (i := i) (j := j) (by omega)
          have hrs := sum_bound (xs := (gi t i).take j) (m := 16) fun x hx => (h.2.2.1 _ (mem_gi hi')).2.2.2 x (List.mem_of_mem_take hx)
          have hrl : ((gi t i).take j).length ≤ 3 := by rw [List.length_take]; omega
          have g2 : Sl (fun b => b < H.length) H2 (v.get H1 i) (gi t i) := g.mono (hk.weak fun b hb e => by have := hw.blk_lt e; omega) fun _ h => h
          have hgv : gi ((List.range (gi t 0).length).map fun c => colPart t i c + if c < j then gi (gi t i) c else 0) (j : Int) = colPart t i j := by
            rw [gi_map_range (by omega)]; simp
          have hml : ((List.range (gi t 0).length).map fun c => colPart t i c + if c < j then gi (gi t i) c else 0).length = (gi t 0).length := by simp
          simp (disch := (first | assumption | omega | (simp only [List.length_append, List.length_cons, List.length_nil]; omega))) only [↓wD,wU,Nat.reduceBEq,zx150,zx151,zx159,zx160,zx161,zx162,Nat.reduceAdd,Nat.reduceSub,Nat.reduceMul,Nat.reduceLeDiff,Nat.reduceLT,Nat.reduceEqDiff,Int.reduceAdd,Int.reduceSub,Int.reduceMul,Int.reduceNeg,Int.reduceLT,Int.reduceLE,Int.reduceEq,Int.reduceToNat,Int.cast_ofNat_Int,↓reduceIte, *, g2.I, hw2.sl.I, hgv]
          refine hw2.store (Nat.le_refl _) (by omega) (by omega) fun H3 hw3 hk3 hl3' => ?_
          simp (disch := (first | assumption | omega | (simp only [List.length_append, List.length_cons, List.length_nil]; omega))) only [↓wD,wU,Nat.reduceBEq,zx150,zx151,zx159,zx160,zx161,zx162,Nat.reduceAdd,Nat.reduceSub,Nat.reduceMul,Nat.reduceLeDiff,Nat.reduceLT,Nat.reduceEqDiff,Int.reduceAdd,Int.reduceSub,Int.reduceMul,Int.reduceNeg,Int.reduceLT,Int.reduceLE,Int.reduceEq,Int.reduceToNat,Int.cast_ofNat_Int,↓reduceIte, *]
          refine (ih2 hj').go ?_
          rw [sum_take hj']
          simp (disch := (first | assumption | omega | (simp only [List.length_append, List.length_cons, List.length_nil]; omega))) only [↓wD,wU,Nat.reduceBEq,zx150,zx151,zx159,zx160,zx161,zx162,Nat.reduceAdd,Nat.reduceSub,Nat.reduceMul,Nat.reduceLeDiff,Nat.reduceLT,Nat.reduceEqDiff,Int.reduceAdd,Int.reduceSub,Int.reduceMul,Int.reduceNeg,Int.reduceLT,Int.reduceLE,Int.reduceEq,Int.reduceToNat,Int.cast_ofNat_Int,↓reduceIte, *]
          refine ⟨hk.trans hk3 fun b hb => hb, ?_⟩
          rw [set_map_range] at hw3
          have e : ((List.range (gi t 0).length).map fun c => colPart t i c + if c < j + 1 then gi (gi t i) c else 0) = (List.range (gi t 0).length).map fun c => if c = (j : Int).toNat then colPart t i j + gi (gi t i) j else colPart t i c + if c < j then gi (gi t i) c else 0 := by
            apply map_range_congr
            intro c _
            by_cases hcj : c = j
            · subst hcj; simp
            · have : (c < j + 1) = (c < j) := by simp only [eq_iff_iff]; omega
              simp [hcj, this]
          rw [e]; exact hw3
        · have hj2 : j = (gi t i).length := by omega
          subst hj2
          simp (disch := (first | assumption | omega | (simp only [List.length_append, List.length_cons, List.length_nil]; omega))) only [↓wD,wU,Nat.reduceBEq,zx150,zx151,zx159,zx160,zx161,zx162,Nat.reduceAdd,Nat.reduceSub,Nat.reduceMul,Nat.reduceLeDiff,Nat.reduceLT,Nat.reduceEqDiff,Int.reduceAdd,Int.reduceSub,Int.reduceMul,Int.reduceNeg,Int.reduceLT,Int.reduceLE,Int.reduceEq,Int.reduceToNat,Int.cast_ofNat_Int,↓reduceIte, *]
          have hu2 : Acc H.length (fun _ => False) H2 u ((t.take i).map List.sum) := hu.kp hk (fun b e e2 => hne b e e2) fun _ h => h.elim
          refine hu2.pushI (Nat.le_refl _) (by have := hg.1; have := hk.1; omega) ?_ fun u' H3 hu' hk3 hl3' hub => ?_
          · simp; omega
          · simp (disch := (first | assumption | omega | (simp only [List.length_append, List.length_cons, List.length_nil]; omega))) only [↓wD,wU,Nat.reduceBEq,zx150,zx151,zx159,zx160,zx161,zx162,Nat.reduceAdd,Nat.reduceSub,Nat.reduceMul,Nat.reduceLeDiff,Nat.reduceLT,Nat.reduceEqDiff,Int.reduceAdd,Int.reduceSub,Int.reduceMul,Int.reduceNeg,Int.reduceLT,Int.reduceLE,Int.reduceEq,Int.reduceToNat,Int.cast_ofNat_Int,↓reduceIte, *]
            refine (ih hi').go ⟨u', w, ?_⟩
            simp (disch := (first | assumption | omega | (simp only [List.length_append, List.length_cons, List.length_nil]; omega))) only [↓wD,wU,Nat.reduceBEq,zx150,zx151,zx159,zx160,zx161,zx162,Nat.reduceAdd,Nat.reduceSub,Nat.reduceMul,Nat.reduceLeDiff,Nat.reduceLT,Nat.reduceEqDiff,Int.reduceAdd,Int.reduceSub,Int.reduceMul,Int.reduceNeg,Int.reduceLT,Int.reduceLE,Int.reduceEq,Int.reduceToNat,Int.cast_ofNat_Int,↓reduceIte, *]
            have hgk : Gr H H2 := hg.trans' hk fun b hb e => by have := hw.blk_lt e; omega
            refine ⟨hgk.push hu2 (Nat.le_refl _) hk3, ?_, ?_, ?_⟩
            · rw [take_gi hi', List.map_append]
              simpa [List.take_of_length_le (show (gi t (i : Int)).length ≤ (gi t 0).length by omega)] using hu'
            · have e : ((List.range (gi t 0).length).map fun c => colPart t (i + 1) c) = (List.range (gi t 0).length).map fun c => colPart t i c + if c < (gi t i).length then gi (gi t i) c else 0 := by
                apply map_range_congr
                intro c hc
                rw [colPart_succ hi', if_pos (by omega)]
              rw [e]
              exact hw2.kp hk3 fun b e => fun e2 => hne b e2 e
            · intro b hb e
              have := hw2.blk_lt e
              simp at hb; omega
      · simp (disch := (first | assumption | omega | (simp only [List.length_append, List.length_cons, List.length_nil]; omega))) only [↓wD,wU,Nat.reduceBEq,zx150,zx151,zx159,zx160,zx161,zx162,Nat.reduceAdd,Nat.reduceSub,Nat.reduceMul,Nat.reduceLeDiff,Nat.reduceLT,Nat.reduceEqDiff,Int.reduceAdd,Int.reduceSub,Int.reduceMul,Int.reduceNeg,Int.reduceLT,Int.reduceLE,Int.reduceEq,Int.reduceToNat,Int.cast_ofNat_Int,↓reduceIte, *]
        refine ⟨rfl, Kp.refl _ _, ?_⟩
        simpa using hw
    · have e : i = t.length := by omega
      subst e
      simp (disch := (first | assumption | omega | (simp only [List.length_append, List.length_cons, List.length_nil]; omega))) only [↓wD,wU,Nat.reduceBEq,zx150,zx151,zx159,zx160,zx161,zx162,Nat.reduceAdd,Nat.reduceSub,Nat.reduceMul,Nat.reduceLeDiff,Nat.reduceLT,Nat.reduceEqDiff,Int.reduceAdd,Int.reduceSub,Int.reduceMul,Int.reduceNeg,Int.reduceLT,Int.reduceLE,Int.reduceEq,Int.reduceToNat,Int.cast_ofNat_Int,↓reduceIte, *]
      refine rv_2 ?_ ?_
      · have h1 := hu.sl.weak (q := fun b => False ∨ H.length ≤ b) fun b h => h
        rwa [List.take_length] at h1
      · exact hw.sl.weak fun b h => .inr h
  · simp (disch := (first | assumption | omega | (simp only [List.length_append, List.length_cons, List.length_nil]; omega))) only [↓wD,wU,Nat.reduceBEq,zx150,zx151,zx159,zx160,zx161,zx162,Nat.reduceAdd,Nat.reduceSub,Nat.reduceMul,Nat.reduceLeDiff,Nat.reduceLT,Nat.reduceEqDiff,Int.reduceAdd,Int.reduceSub,Int.reduceMul,Int.reduceNeg,Int.reduceLT,Int.reduceLE,Int.reduceEq,Int.reduceToNat,Int.cast_ofNat_Int,↓reduceIte, *]
    refine ⟨.nils, _, rfl, rfl, Kp.app _ _ _, Acc.nil, ?_, fun b e => by cases e⟩
    have h1 := MI.mk (H := H) (n := (gi t 0).length) (Nat.le_refl _) (by omega)
    have e : ((List.range (gi t 0).length).map fun j => colPart t 0 j) = List.replicate (gi t 0).length 0 := by
      apply List.ext_getElem (by simp)
      intro i h1 h2
      simp [colPart_0]
    rw [e]; exact h1
end Go.Proofs.Ytflekaacffdakaa
namespace Go.Proofs.Ytflekaacffdakaa
open Go Go.AM Go.Proofs
theorem list_ret {p : Nat → Prop} {H : Heap} {v : AV} {xs : List Int} (hx : Sl p H v xs) : Ret E 39 [v] (fun _ => False) H (xs.take 6) := by
  refine Ret.ro rfl fn39 rfl ?_
  unfold f39A
  have hb := hx.bound
  have hs : slV 1 v none (some (.i (min (xs.length : Int) 6))) none = some (v.cut 0 (min xs.length 6)) := by
    refine hx.slV_lh none _ (b := min xs.length 6) ?_ (bound_none (by omega)) (by omega) (by omega)
    rw [bound_some (by omega) (by omega)]
    congr 1
    omega
  simp (disch := (first | assumption | omega | (simp only [List.length_append, List.length_cons, List.length_nil]; omega))) only [↓wD,wU,Nat.reduceBEq,zx150,zx151,zx159,zx160,zx161,zx162,Nat.reduceAdd,Nat.reduceSub,Nat.reduceMul,Nat.reduceLeDiff,Nat.reduceLT,Nat.reduceEqDiff,Int.reduceAdd,Int.reduceSub,Int.reduceMul,Int.reduceNeg,Int.reduceLT,Int.reduceLE,Int.reduceEq,Int.reduceToNat,Int.cast_ofNat_Int,↓reduceIte, *, hx.I, hs]
  have hc := hx.cut (a := 0) (b := min xs.length 6) (by omega) (by omega)
  have e : (xs.drop 0).take (min xs.length 6 - 0) = xs.take 6 := by
    rw [List.drop_zero, Nat.sub_zero]
    by_cases hl : xs.length ≤ 6
    · rw [List.take_of_length_le (by omega), List.take_of_length_le hl]
    · congr 1; omega
  rw [e] at hc
  refine (clone_ret hc (by rw [List.length_take]; omega)).go fun u N hu => ?_
  simp (disch := (first | assumption | omega | (simp only [List.length_append, List.length_cons, List.length_nil]; omega))) only [↓wD,wU,Nat.reduceBEq,zx150,zx151,zx159,zx160,zx161,zx162,Nat.reduceAdd,Nat.reduceSub,Nat.reduceMul,Nat.reduceLeDiff,Nat.reduceLT,Nat.reduceEqDiff,Int.reduceAdd,Int.reduceSub,Int.reduceMul,Int.reduceNeg,Int.reduceLT,Int.reduceLE,Int.reduceEq,Int.reduceToNat,Int.cast_ofNat_Int,↓reduceIte]
  exact hu
def cutT (t : List (List Int)) : List (List Int) := (t.take 6).map fun r => r.take 6
theorem table_ret {p : Nat → Prop} {H : Heap} {v : AV} {t : List (List Int)} (ht : Sl p H v t) : Ret E 20 [v] (fun _ => False) H (cutT t) := by
  refine Ret.ro rfl fn20 rfl ?_
  unfold f20A
  have hb := ht.bound
  simp (disch := (first | assumption | omega | (simp only [List.length_append, List.length_cons, List.length_nil]; omega))) only [↓wD,wU,Nat.reduceBEq,zx150,zx151,zx159,zx160,zx161,zx162,Nat.reduceAdd,Nat.reduceSub,Nat.reduceMul,Nat.reduceLeDiff,Nat.reduceLT,Nat.reduceEqDiff,Int.reduceAdd,Int.reduceSub,Int.reduceMul,Int.reduceNeg,Int.reduceLT,Int.reduceLE,Int.reduceEq,Int.reduceToNat,Int.cast_ofNat_Int,↓reduceIte, *, ht.L]
  replace ht : Sl (fun b => b < H.length) H v t := ht.low.weak fun _ h => h.2
  refine Wp.for t.length (fun i a H' => ∃ u, a 6 = v ∧ a 7 = .i t.length ∧ a 8 = .i i ∧ a 3 = u ∧ Gr H H' ∧ Acc H.length (fun b => H.length ≤ b) H' u (((t.take i).take 6).map fun r => r.take 6)) ?_ ?_
  · rintro i a H1 hi ⟨u, h6, h7, h8, h3, hg, hu⟩ ih
    simp (disch := (first | assumption | omega | (simp only [List.length_append, List.length_cons, List.length_nil]; omega))) only [↓wD,wU,Nat.reduceBEq,zx150,zx151,zx159,zx160,zx161,zx162,Nat.reduceAdd,Nat.reduceSub,Nat.reduceMul,Nat.reduceLeDiff,Nat.reduceLT,Nat.reduceEqDiff,Int.reduceAdd,Int.reduceSub,Int.reduceMul,Int.reduceNeg,Int.reduceLT,Int.reduceLE,Int.reduceEq,Int.reduceToNat,Int.cast_ofNat_Int,↓reduceIte, *]
    refine condP_split (fun hlt => ?_) (fun hlt => ?_)
    · have hi' : i < t.length := by omega
      have ht1 := ht.gr hg
      have g := ht1.get (k := (i : Int)) (by omega) (by omega)
      simp (disch := (first | assumption | omega | (simp only [List.length_append, List.length_cons, List.length_nil]; omega))) only [↓wD,wU,Nat.reduceBEq,zx150,zx151,zx159,zx160,zx161,zx162,Nat.reduceAdd,Nat.reduceSub,Nat.reduceMul,Nat.reduceLeDiff,Nat.reduceLT,Nat.reduceEqDiff,Int.reduceAdd,Int.reduceSub,Int.reduceMul,Int.reduceNeg,Int.reduceLT,Int.reduceLE,Int.reduceEq,Int.reduceToNat,Int.cast_ofNat_Int,↓reduceIte, *, ht1.L]
      refine condP_split (fun h6 => ?_) (fun h6 => ?_)
      · simp (disch := (first | assumption | omega | (simp only [List.length_append, List.length_cons, List.length_nil]; omega))) only [↓wD,wU,Nat.reduceBEq,zx150,zx151,zx159,zx160,zx161,zx162,Nat.reduceAdd,Nat.reduceSub,Nat.reduceMul,Nat.reduceLeDiff,Nat.reduceLT,Nat.reduceEqDiff,Int.reduceAdd,Int.reduceSub,Int.reduceMul,Int.reduceNeg,Int.reduceLT,Int.reduceLE,Int.reduceEq,Int.reduceToNat,Int.cast_ofNat_Int,↓reduceIte, *]
        refine (list_ret g).toF fun y H2 hg2 hy => ?_
        have hl2 := hg2.1
        simp (disch := (first | assumption | omega | (simp only [List.length_append, List.length_cons, List.length_nil]; omega))) only [↓wD,wU,Nat.reduceBEq,zx150,zx151,zx159,zx160,zx161,zx162,Nat.reduceAdd,Nat.reduceSub,Nat.reduceMul,Nat.reduceLeDiff,Nat.reduceLT,Nat.reduceEqDiff,Int.reduceAdd,Int.reduceSub,Int.reduceMul,Int.reduceNeg,Int.reduceLT,Int.reduceLE,Int.reduceEq,Int.reduceToNat,Int.cast_ofNat_Int,↓reduceIte, *, hy.cellsV]
        refine (hu.gr hg2).pushL (Nat.le_refl _) (by have := hg.1; omega) hy (fun b hb => ⟨by have := hg.1; omega, fun e => by have := hu.blk_lt e; omega⟩) ?_ fun u' H3 hu' hk3 hl3' _ => ?_
        · simp; omega
        · simp (disch := (first | assumption | omega | (simp only [List.length_append, List.length_cons, List.length_nil]; omega))) only [↓wD,wU,Nat.reduceBEq,zx150,zx151,zx159,zx160,zx161,zx162,Nat.reduceAdd,Nat.reduceSub,Nat.reduceMul,Nat.reduceLeDiff,Nat.reduceLT,Nat.reduceEqDiff,Int.reduceAdd,Int.reduceSub,Int.reduceMul,Int.reduceNeg,Int.reduceLT,Int.reduceLE,Int.reduceEq,Int.reduceToNat,Int.cast_ofNat_Int,↓reduceIte, *]
          refine (ih hi').go ⟨u', ?_⟩
          simp (disch := (first | assumption | omega | (simp only [List.length_append, List.length_cons, List.length_nil]; omega))) only [↓wD,wU,Nat.reduceBEq,zx150,zx151,zx159,zx160,zx161,zx162,Nat.reduceAdd,Nat.reduceSub,Nat.reduceMul,Nat.reduceLeDiff,Nat.reduceLT,Nat.reduceEqDiff,Int.reduceAdd,Int.reduceSub,Int.reduceMul,Int.reduceNeg,Int.reduceLT,Int.reduceLE,Int.reduceEq,Int.reduceToNat,Int.cast_ofNat_Int,↓reduceIte, *]
          refine ⟨((hg.trans hg2).push (hu.gr hg2) (Nat.le_refl _) hk3), ?_⟩
          have e : ((t.take (i + 1)).take 6) = (t.take i).take 6 ++ [gi t i] := by
            rw [List.take_take, List.take_take, show min 6 (i + 1) = i + 1 by omega, show min 6 i = i by omega, take_gi hi']
          rw [e, List.map_append]; exact hu'
      · simp (disch := (first | assumption | omega | (simp only [List.length_append, List.length_cons, List.length_nil]; omega))) only [↓wD,wU,Nat.reduceBEq,zx150,zx151,zx159,zx160,zx161,zx162,Nat.reduceAdd,Nat.reduceSub,Nat.reduceMul,Nat.reduceLeDiff,Nat.reduceLT,Nat.reduceEqDiff,Int.reduceAdd,Int.reduceSub,Int.reduceMul,Int.reduceNeg,Int.reduceLT,Int.reduceLE,Int.reduceEq,Int.reduceToNat,Int.cast_ofNat_Int,↓reduceIte, *]
        refine (ih hi').go ⟨u, ?_⟩
        simp (disch := (first | assumption | omega | (simp only [List.length_append, List.length_cons, List.length_nil]; omega))) only [↓wD,wU,Nat.reduceBEq,zx150,zx151,zx159,zx160,zx161,zx162,Nat.reduceAdd,Nat.reduceSub,Nat.reduceMul,Nat.reduceLeDiff,Nat.reduceLT,Nat.reduceEqDiff,Int.reduceAdd,Int.reduceSub,Int.reduceMul,Int.reduceNeg,Int.reduceLT,Int.reduceLE,Int.reduceEq,Int.reduceToNat,Int.cast_ofNat_Int,↓reduceIte, *]
        have e : ((t.take (i + 1)).take 6) = (t.take i).take 6 := by
          rw [List.take_take, List.take_take]; congr 1; omega
        rw [e]; first | exact hu | exact ⟨hg, hu⟩
    · have e : i = t.length := by omega
      subst e
      simp (disch := (first | assumption | omega | (simp only [List.length_append, List.length_cons, List.length_nil]; omega))) only [↓wD,wU,Nat.reduceBEq,zx150,zx151,zx159,zx160,zx161,zx162,Nat.reduceAdd,Nat.reduceSub,Nat.reduceMul,Nat.reduceLeDiff,Nat.reduceLT,Nat.reduceEqDiff,Int.reduceAdd,Int.reduceSub,Int.reduceMul,Int.reduceNeg,Int.reduceLT,Int.reduceLE,Int.reduceEq,Int.reduceToNat,Int.cast_ofNat_Int,↓reduceIte, *]
      rw [List.take_length] at hu
      exact hu.sl.weak fun b h => .inr (by omega)
  · simp (disch := (first | assumption | omega | (simp only [List.length_append, List.length_cons, List.length_nil]; omega))) only [↓wD,wU,Nat.reduceBEq,zx150,zx151,zx159,zx160,zx161,zx162,Nat.reduceAdd,Nat.reduceSub,Nat.reduceMul,Nat.reduceLeDiff,Nat.reduceLT,Nat.reduceEqDiff,Int.reduceAdd,Int.reduceSub,Int.reduceMul,Int.reduceNeg,Int.reduceLT,Int.reduceLE,Int.reduceEq,Int.reduceToNat,Int.cast_ofNat_Int,↓reduceIte, *]
    exact ⟨.nils, rfl, Gr.refl _, Acc.nil⟩
end Go.Proofs.Ytflekaacffdakaa
namespace Go.Proofs.Ytflekaacffdakaa
open Go Go.AM Go.Proofs
theorem rtable_ret {p : Nat → Prop} {H : Heap} {v : AV} {t : List (List Int)} (ht : Sl p H v t) (hsz : t.length * 24 ≤ 140737488351232) : RetP E 22 [v] H (.b (decide (TabOk t))) := by
  refine RetP.ro rfl fn22 rfl rfl ?_
  unfold f22A
  simp (disch := (first | assumption | omega | (simp only [List.length_append, List.length_cons, List.length_nil]; omega))) only [↓wD,wU,Nat.reduceBEq,zx150,zx151,zx159,zx160,zx161,zx162,Nat.reduceAdd,Nat.reduceSub,Nat.reduceMul,Nat.reduceLeDiff,Nat.reduceLT,Nat.reduceEqDiff,Int.reduceAdd,Int.reduceSub,Int.reduceMul,Int.reduceNeg,Int.reduceLT,Int.reduceLE,Int.reduceEq,Int.reduceToNat,Int.cast_ofNat_Int,↓reduceIte, *, ht.L]
  refine Wp.for t.length (fun i a H' => H' = H ∧ a 0 = v ∧ a 8 = v ∧ a 9 = .i t.length ∧ a 10 = .i i ∧ a 3 = .i ((t.take i).map List.sum).sum ∧ (∀ r ∈ t.take i, RowOk (gi t 0).length r) ∧ 0 ≤ ((t.take i).map List.sum).sum ∧ ((t.take i).map List.sum).sum ≤ i * 48) ?_ ?_
  · rintro i a H' hi ⟨rfl, h0, h16, h17, h18, h3, hh, hp, hq⟩ ih
    simp (disch := (first | assumption | omega | (simp only [List.length_append, List.length_cons, List.length_nil]; omega))) only [↓wD,wU,Nat.reduceBEq,zx150,zx151,zx159,zx160,zx161,zx162,Nat.reduceAdd,Nat.reduceSub,Nat.reduceMul,Nat.reduceLeDiff,Nat.reduceLT,Nat.reduceEqDiff,Int.reduceAdd,Int.reduceSub,Int.reduceMul,Int.reduceNeg,Int.reduceLT,Int.reduceLE,Int.reduceEq,Int.reduceToNat,Int.cast_ofNat_Int,↓reduceIte, *]
    refine condP_split (fun hlt => ?_) (fun hlt => ?_)
    · have hi' : i < t.length := by omega
      have g := ht.get (k := (i : Int)) (by omega) (by omega)
      have g0 := ht.get (k := (0 : Int)) (by omega) (by omega)
      have hin : ¬ RowOk (gi t 0).length (gi t i) → ¬ TabOk t := fun hr h => hr (h.2.2.1 _ (mem_gi hi'))
      (repeat' (first | refine condP_split (fun _ => ?_) (fun _ => ?_) | refine guardP_split (fun _ => ?_) (fun _ => ?_) | refine guardP_splitF (fun _ => ?_) (fun _ => ?_) | (simp (disch := (first | assumption | omega | (simp only [List.length_append, List.length_cons, List.length_nil]; omega))) only [↓wD,wU,Nat.reduceBEq,zx150,zx151,zx159,zx160,zx161,zx162,Nat.reduceAdd,Nat.reduceSub,Nat.reduceMul,Nat.reduceLeDiff,Nat.reduceLT,Nat.reduceEqDiff,Int.reduceAdd,Int.reduceSub,Int.reduceMul,Int.reduceNeg,Int.reduceLT,Int.reduceLE,Int.reduceEq,Int.reduceToNat,Int.cast_ofNat_Int,↓reduceIte, *, ht.L, g.I, g0.I]))) <;> first
        | (refine avb_f (hin fun hr => ?_); have := hr.1; have := hr.2.1; have := hr.2.2.1; omega)
        | skip
      refine Wp.for (gi t i).length (fun j a H'' => H'' = H' ∧ a 0 = v ∧ a 8 = v ∧ a 9 = .i t.length ∧ a 10 = .i i ∧ a 31 = v.get H' i ∧ a 32 = .i (gi t i).length ∧ a 33 = .i j ∧ a 3 = .i (((t.take i).map List.sum).sum + ((gi t i).take j).sum) ∧ OkN ((gi t i).take j)) ?_ ?_
      · clear h0 h16 h17 h18 h3
        rintro j a H' hj ⟨rfl, h0, h16, h17, h18, h44, h45, h46, h3, hb1⟩ ih2
        have hb2 := sum_bound hb1
        have hb3 : ((gi t i).take j).length ≤ 3 := by rw [List.length_take]; omega
        simp (disch := (first | assumption | omega | (simp only [List.length_append, List.length_cons, List.length_nil]; omega))) only [↓wD,wU,Nat.reduceBEq,zx150,zx151,zx159,zx160,zx161,zx162,Nat.reduceAdd,Nat.reduceSub,Nat.reduceMul,Nat.reduceLeDiff,Nat.reduceLT,Nat.reduceEqDiff,Int.reduceAdd,Int.reduceSub,Int.reduceMul,Int.reduceNeg,Int.reduceLT,Int.reduceLE,Int.reduceEq,Int.reduceToNat,Int.cast_ofNat_Int,↓reduceIte, *]
        refine condP_split (fun hlt => ?_) (fun hlt => ?_)
        · have hj' : j < (gi t i).length := by omega
          (repeat' (first | refine condP_split (fun _ => ?_) (fun _ => ?_) | refine guardP_split (fun _ => ?_) (fun _ => ?_) | refine guardP_splitF (fun _ => ?_) (fun _ => ?_) | (simp (disch := (first | assumption | omega | (simp only [List.length_append, List.length_cons, List.length_nil]; omega))) only [↓wD,wU,Nat.reduceBEq,zx150,zx151,zx159,zx160,zx161,zx162,Nat.reduceAdd,Nat.reduceSub,Nat.reduceMul,Nat.reduceLeDiff,Nat.reduceLT,Nat.reduceEqDiff,Int.reduceAdd,Int.reduceSub,Int.reduceMul,Int.reduceNeg,Int.reduceLT,Int.reduceLE,Int.reduceEq,Int.reduceToNat,Int.cast_ofNat_Int,↓reduceIte, *, g.I]))) <;> first
            | (refine avb_f (hin fun hr => ?_); have := hr.2.2.2 _ (mem_gi hj'); omega)
            | skip
          refine (ih2 hj').go ⟨rfl, ?_⟩
          rw [sum_take hj']
          have hg : 0 ≤ gi (gi t i) j ∧ gi (gi t i) j ≤ 16 := by omega
          simp (disch := (first | assumption | omega | (simp only [List.length_append, List.length_cons, List.length_nil]; omega))) only [↓wD,wU,Nat.reduceBEq,zx150,zx151,zx159,zx160,zx161,zx162,Nat.reduceAdd,Nat.reduceSub,Nat.reduceMul,Nat.reduceLeDiff,Nat.reduceLT,Nat.reduceEqDiff,Int.reduceAdd,Int.reduceSub,Int.reduceMul,Int.reduceNeg,Int.reduceLT,Int.reduceLE,Int.reduceEq,Int.reduceToNat,Int.cast_ofNat_Int,↓reduceIte, *]
          exact ⟨by rw [Int.add_assoc], mem_take_gi hb1 hj' hg⟩
        · simp (disch := (first | assumption | omega | (simp only [List.length_append, List.length_cons, List.length_nil]; omega))) only [↓wD,wU,Nat.reduceBEq,zx150,zx151,zx159,zx160,zx161,zx162,Nat.reduceAdd,Nat.reduceSub,Nat.reduceMul,Nat.reduceLeDiff,Nat.reduceLT,Nat.reduceEqDiff,Int.reduceAdd,Int.reduceSub,Int.reduceMul,Int.reduceNeg,Int.reduceLT,Int.reduceLE,Int.reduceEq,Int.reduceToNat,Int.cast_ofNat_Int,↓reduceIte, *]
          have e : (gi t i).take j = gi t i := List.take_of_length_le (by omega)
          rw [e] at hb1 hb2 hb3
          refine (ih hi').go ⟨rfl, ?_⟩
          have e2 : ((t.take (i + 1)).map List.sum).sum = ((t.take i).map List.sum).sum + (gi t i).sum := by rw [take_gi hi', List.map_append, List.sum_append]; simp
          rw [e2]
          simp (disch := (first | assumption | omega | (simp only [List.length_append, List.length_cons, List.length_nil]; omega))) only [↓wD,wU,Nat.reduceBEq,zx150,zx151,zx159,zx160,zx161,zx162,Nat.reduceAdd,Nat.reduceSub,Nat.reduceMul,Nat.reduceLeDiff,Nat.reduceLT,Nat.reduceEqDiff,Int.reduceAdd,Int.reduceSub,Int.reduceMul,Int.reduceNeg,Int.reduceLT,Int.reduceLE,Int.reduceEq,Int.reduceToNat,Int.cast_ofNat_Int,↓reduceIte, *]
          refine ⟨mem_take_gi hh hi' ⟨?_, ?_, ?_, hb1⟩, ?_, ?_⟩ <;> omega
      · (simp (disch := (first | assumption | omega | (simp only [List.length_append, List.length_cons, List.length_nil]; omega))) only [↓wD,wU,Nat.reduceBEq,zx150,zx151,zx159,zx160,zx161,zx162,Nat.reduceAdd,Nat.reduceSub,Nat.reduceMul,Nat.reduceLeDiff,Nat.reduceLT,Nat.reduceEqDiff,Int.reduceAdd,Int.reduceSub,Int.reduceMul,Int.reduceNeg,Int.reduceLT,Int.reduceLE,Int.reduceEq,Int.reduceToNat,Int.cast_ofNat_Int,↓reduceIte, *]) <;> simp [OkN]
    · have e : t.take i = t := List.take_of_length_le (by omega)
      rw [e] at hh hp hq
      (repeat' (first | refine condP_split (fun _ => ?_) (fun _ => ?_) | refine guardP_split (fun _ => ?_) (fun _ => ?_) | refine guardP_splitF (fun _ => ?_) (fun _ => ?_) | (simp (disch := (first | assumption | omega | (simp only [List.length_append, List.length_cons, List.length_nil]; omega))) only [↓wD,wU,Nat.reduceBEq,zx150,zx151,zx159,zx160,zx161,zx162,Nat.reduceAdd,Nat.reduceSub,Nat.reduceMul,Nat.reduceLeDiff,Nat.reduceLT,Nat.reduceEqDiff,Int.reduceAdd,Int.reduceSub,Int.reduceMul,Int.reduceNeg,Int.reduceLT,Int.reduceLE,Int.reduceEq,Int.reduceToNat,Int.cast_ofNat_Int,↓reduceIte, *, ht.L]))) <;> first
        | (refine avb_f fun h => ?_; have := h.1; have := h.2.1; omega)
        | skip
      congr 1
      exact decide_eq_decide.2 ⟨fun h => ⟨by omega, by omega, hh, h⟩, fun h => h.2.2.2⟩
  · (simp (disch := (first | assumption | omega | (simp only [List.length_append, List.length_cons, List.length_nil]; omega))) only [↓wD,wU,Nat.reduceBEq,zx150,zx151,zx159,zx160,zx161,zx162,Nat.reduceAdd,Nat.reduceSub,Nat.reduceMul,Nat.reduceLeDiff,Nat.reduceLT,Nat.reduceEqDiff,Int.reduceAdd,Int.reduceSub,Int.reduceMul,Int.reduceNeg,Int.reduceLT,Int.reduceLE,Int.reduceEq,Int.reduceToNat,Int.cast_ofNat_Int,↓reduceIte, *]) <;> simp
theorem rsums_ret {p : Nat → Prop} {H : Heap} {v : AV} {t : List (List Int)} (ht : Sl p H v t) (h : TabOk t) : Ret E 24 [v] (fun _ => False) H (T2.mk (rowSums t) (colSums t)) := by
  refine Ret.ro rfl fn24 rfl ?_
  unfold f24A
  have hc := h.cols
  have hl := h.1
  have hl3 := h.2.1
  replace ht : Sl (fun b => b < H.length) H v t := ht.low.weak fun _ h => h.2
  have g0 := ht.get (k := (0 : Int)) (by omega) (by omega)
  have ht' := ht.app [.cells (reps t.length [.int .i64 0])]
  have g0' := ht'.get (k := (0 : Int)) (by omega) (by omega)
  simp (disch := (first | assumption | omega | (simp only [List.length_append, List.length_cons, List.length_nil]; omega))) only [↓wD,wU,Nat.reduceBEq,zx150,zx151,zx159,zx160,zx161,zx162,Nat.reduceAdd,Nat.reduceSub,Nat.reduceMul,Nat.reduceLeDiff,Nat.reduceLT,Nat.reduceEqDiff,Int.reduceAdd,Int.reduceSub,Int.reduceMul,Int.reduceNeg,Int.reduceLT,Int.reduceLE,Int.reduceEq,Int.reduceToNat,Int.cast_ofNat_Int,↓reduceIte, *, ht.L, g0.I, ht'.L, g0'.I]
  refine Wp.for t.length (fun i a H' => ∃ u w, a 18 = v ∧ a 19 = .i t.length ∧ a 20 = .i i ∧ a 4 = u ∧ a 5 = w ∧ Gr H H' ∧ MI H.length H' u ((List.range t.length).map fun r => if r < i then (gi t r).sum else 0) ∧ MI H.length H' w ((List.range (gi t 0).length).map fun j => colPart t i j) ∧ (∀ b, u.blk = some b → w.blk ≠ some b)) ?_ ?_
  · rintro i a H1 hi ⟨u, w, h18, h19, h20, h4, h5, hg, hu, hw, hne⟩ ih
    simp (disch := (first | assumption | omega | (simp only [List.length_append, List.length_cons, List.length_nil]; omega))) only [↓wD,wU,Nat.reduceBEq,zx150,zx151,zx159,zx160,zx161,zx162,Nat.reduceAdd,Nat.reduceSub,Nat.reduceMul,Nat.reduceLeDiff,Nat.reduceLT,Nat.reduceEqDiff,Int.reduceAdd,Int.reduceSub,Int.reduceMul,Int.reduceNeg,Int.reduceLT,Int.reduceLE,Int.reduceEq,Int.reduceToNat,Int.cast_ofNat_Int,↓reduceIte, *]
    refine condP_split (fun hlt => ?_) (fun hlt => ?_)
    · have hi' : i < t.length := by omega
      have ht1 := ht.gr hg
      have g := ht1.get (k := (i : Int)) (by omega) (by omega)
      have hwd := h.width hi'
      simp (disch := (first | assumption | omega | (simp only [List.length_append, List.length_cons, List.length_nil]; omega))) only [↓wD,wU,Nat.reduceBEq,zx150,zx151,zx159,zx160,zx161,zx162,Nat.reduceAdd,Nat.reduceSub,Nat.reduceMul,Nat.reduceLeDiff,Nat.reduceLT,Nat.reduceEqDiff,Int.reduceAdd,Int.reduceSub,Int.reduceMul,Int.reduceNeg,Int.reduceLT,Int.reduceLE,Int.reduceEq,Int.reduceToNat,Int.cast_ofNat_Int,↓reduceIte, *, ht1.L, g.I]
      refine Wp.for (gi t i).length (fun j a H2 => a 18 = v ∧ a 19 = .i t.length ∧ a 20 = .i i ∧ a 4 = u ∧ a 5 = w ∧ a 6 = .i i ∧ a 25 = v.get H1 i ∧ a 26 = .i (gi t i).length ∧ a 27 = .i j ∧ Kp (fun b => b < H.length) H1 H2 ∧ MI H.length H2 u ((List.range t.length).map fun r => (if r < i then (gi t r).sum else 0) + if r = i then ((gi t i).take j).sum else 0) ∧ MI H.length H2 w ((List.range (gi t 0).length).map fun c => colPart t i c + if c < j then gi (gi t i) c else 0)) ?_ ?_
      · clear h18 h19 h20 h4 h5
        rintro j a H2 hj ⟨h18, h19, h20, h4, h5, h6, h25, h26, h27, hk, hu2, hw2⟩ ih2
        simp (disch := (first | assumption | omega | (simp only [List.length_append, List.length_cons, List.length_nil]; omega))) only [↓wD,wU,Nat.reduceBEq,zx150,zx151,zx159,zx160,zx161,zx162,Nat.reduceAdd,Nat.reduceSub,Nat.reduceMul,Nat.reduceLeDiff,Nat.reduceLT,Nat.reduceEqDiff,Int.reduceAdd,Int.reduceSub,Int.reduceMul,Int.reduceNeg,Int.reduceLT,Int.reduceLE,Int.reduceEq,Int.reduceToNat,Int.cast_ofNat_Int,↓reduceIte, *]
        refine condP_split (fun hlt => ?_) (fun hlt => ?_)
        · have hj' : j < (gi t i).length := by omega
          have he := h.entry hi' (j := j) (by omega)
          have hcp := h.colPart (i := i) (j := j) (by omega)
          have hrs := sum_bound (xs := (gi t i).take j) (m := 16) fun x hx => (h.2.2.1 _ (mem_gi hi')).2.2.2 x (List.mem_of_mem_take hx)
          have hrl : ((gi t i).take j).length ≤ 3 := by rw [List.length_take]; omega
          have g2 : Sl (fun b => b < H.length) H2 (v.get H1 i) (gi t i) := g.kp hk
          have hgu : gi ((List.range t.length).map fun r => (if r < i then (gi t r).sum else 0) + if r = i then ((gi t i).take j).sum else 0) (i : Int) = ((gi t i).take j).sum := by
            rw [gi_map_range hi']; simp
          have hgv : gi ((List.range (gi t 0).length).map fun c => colPart t i c + if c < j then gi (gi t i) c else 0) (j : Int) = colPart t i j := by
            rw [gi_map_range (by omega)]; simp
          have hml : ((List.range (gi t 0).length).map fun c => colPart t i c + if c < j then gi (gi t i) c else 0).length = (gi t 0).length := by simp
          have hnl : ((List.range t.length).map fun r => (if r < i then (gi t r).sum else 0) + if r = i then ((gi t i).take j).sum else 0).length = t.length := by simp
          simp (disch := (first | assumption | omega | (simp only [List.length_append, List.length_cons, List.length_nil]; omega))) only [↓wD,wU,Nat.reduceBEq,zx150,zx151,zx159,zx160,zx161,zx162,Nat.reduceAdd,Nat.reduceSub,Nat.reduceMul,Nat.reduceLeDiff,Nat.reduceLT,Nat.reduceEqDiff,Int.reduceAdd,Int.reduceSub,Int.reduceMul,Int.reduceNeg,Int.reduceLT,Int.reduceLE,Int.reduceEq,Int.reduceToNat,Int.cast_ofNat_Int,↓reduceIte, *, g2.I, hu2.sl.I, hgu]
          refine hu2.store (Nat.le_refl _) (by omega) (by omega) fun H3 hu3 hk3 hl3' => ?_
          have hw3 : MI H.length H3 w ((List.range (gi t 0).length).map fun c => colPart t i c + if c < j then gi (gi t i) c else 0) := hw2.kp hk3 fun b e e2 => hne b e2 e
          simp (disch := (first | assumption | omega | (simp only [List.length_append, List.length_cons, List.length_nil]; omega))) only [↓wD,wU,Nat.reduceBEq,zx150,zx151,zx159,zx160,zx161,zx162,Nat.reduceAdd,Nat.reduceSub,Nat.reduceMul,Nat.reduceLeDiff,Nat.reduceLT,Nat.reduceEqDiff,Int.reduceAdd,Int.reduceSub,Int.reduceMul,Int.reduceNeg,Int.reduceLT,Int.reduceLE,Int.reduceEq,Int.reduceToNat,Int.cast_ofNat_Int,↓reduceIte, *, hw3.sl.I, hgv]
          refine hw3.store (Nat.le_refl _) (by omega) (by omega) fun H4 hw4 hk4 hl4 => ?_
          have hu4 := hu3.kp hk4 fun b e => hne b e
          simp (disch := (first | assumption | omega | (simp only [List.length_append, List.length_cons, List.length_nil]; omega))) only [↓wD,wU,Nat.reduceBEq,zx150,zx151,zx159,zx160,zx161,zx162,Nat.reduceAdd,Nat.reduceSub,Nat.reduceMul,Nat.reduceLeDiff,Nat.reduceLT,Nat.reduceEqDiff,Int.reduceAdd,Int.reduceSub,Int.reduceMul,Int.reduceNeg,Int.reduceLT,Int.reduceLE,Int.reduceEq,Int.reduceToNat,Int.cast_ofNat_Int,↓reduceIte, *]
          refine (ih2 hj').go ?_
          simp (disch := (first | assumption | omega | (simp only [List.length_append, List.length_cons, List.length_nil]; omega))) only [↓wD,wU,Nat.reduceBEq,zx150,zx151,zx159,zx160,zx161,zx162,Nat.reduceAdd,Nat.reduceSub,Nat.reduceMul,Nat.reduceLeDiff,Nat.reduceLT,Nat.reduceEqDiff,Int.reduceAdd,Int.reduceSub,Int.reduceMul,Int.reduceNeg,Int.reduceLT,Int.reduceLE,Int.reduceEq,Int.reduceToNat,Int.cast_ofNat_Int,↓reduceIte, *]
          rw [set_map_range] at hw4 hu4
          refine ⟨(hk.trans hk3 fun b hb e => by have := hu2.blk_lt e; omega).trans hk4 fun b hb e => by have := hw3.blk_lt e; omega, ?_, ?_⟩
          · have e : ((List.range t.length).map fun r => (if r < i then (gi t r).sum else 0) + if r = i then ((gi t i).take (j + 1)).sum else 0) = (List.range t.length).map fun c => if c = (i : Int).toNat then ((gi t i).take j).sum + gi (gi t i) j else (if c < i then (gi t c).sum else 0) + if c = i then ((gi t i).take j).sum else 0 := by
              apply map_range_congr
              intro c _
              by_cases hci : c = i
              · subst hci; simp [sum_take hj']
              · simp [hci]
            rw [e]; exact hu4
          · have e : ((List.range (gi t 0).length).map fun c => colPart t i c + if c < j + 1 then gi (gi t i) c else 0) = (List.range (gi t 0).length).map fun c => if c = (j : Int).toNat then colPart t i j + gi (gi t i) j else colPart t i c + if c < j then gi (gi t i) c else 0 := by
              apply map_range_congr
              intro c _
              by_cases hcj : c = j
              · subst hcj; simp
              · have : (c < j + 1) = (c < j) := by simp only [eq_iff_iff]; omega
                simp [hcj, this]
            rw [e]; exact hw4
        · have hj2 : j = (gi t i).length := by omega
          subst hj2
          simp (disch := (first | assumption | omega | (simp only [List.length_append, List.length_cons, List.length_nil]; omega))) only [↓wD,wU,Nat.reduceBEq,zx150,zx151,zx159,zx160,zx161,zx162,Nat.reduceAdd,Nat.reduceSub,Nat.reduceMul,Nat.reduceLeDiff,Nat.reduceLT,Nat.reduceEqDiff,Int.reduceAdd,Int.reduceSub,Int.reduceMul,Int.reduceNeg,Int.reduceLT,Int.reduceLE,Int.reduceEq,Int.reduceToNat,Int.cast_ofNat_Int,↓reduceIte, *]
          refine (ih hi').go ⟨u, w, ?_⟩
          simp (disch := (first | assumption | omega | (simp only [List.length_append, List.length_cons, List.length_nil]; omega))) only [↓wD,wU,Nat.reduceBEq,zx150,zx151,zx159,zx160,zx161,zx162,Nat.reduceAdd,Nat.reduceSub,Nat.reduceMul,Nat.reduceLeDiff,Nat.reduceLT,Nat.reduceEqDiff,Int.reduceAdd,Int.reduceSub,Int.reduceMul,Int.reduceNeg,Int.reduceLT,Int.reduceLE,Int.reduceEq,Int.reduceToNat,Int.cast_ofNat_Int,↓reduceIte, *]
          refine ⟨hg.trans' hk fun b hb => hb, ?_, ?_⟩
          · have e : ((List.range t.length).map fun r => if r < i + 1 then (gi t r).sum else 0) = (List.range t.length).map fun r => (if r < i then (gi t r).sum else 0) + if r = i then ((gi t i).take (gi t i).length).sum else 0 := by
              apply map_range_congr
              intro c _
              rw [List.take_length]
              by_cases hci : c = i
              · subst hci; simp
              · have : (c < i + 1) = (c < i) := by simp only [eq_iff_iff]; omega
                simp [hci, this]
            rw [e]; exact hu2
          · have e : ((List.range (gi t 0).length).map fun c => colPart t (i + 1) c) = (List.range (gi t 0).length).map fun c => colPart t i c + if c < (gi t i).length then gi (gi t i) c else 0 := by
              apply map_range_congr
              intro c hc
              rw [colPart_succ hi', if_pos (by omega)]
            rw [e]; exact ⟨hw2, hne⟩
      · simp (disch := (first | assumption | omega | (simp only [List.length_append, List.length_cons, List.length_nil]; omega))) only [↓wD,wU,Nat.reduceBEq,zx150,zx151,zx159,zx160,zx161,zx162,Nat.reduceAdd,Nat.reduceSub,Nat.reduceMul,Nat.reduceLeDiff,Nat.reduceLT,Nat.reduceEqDiff,Int.reduceAdd,Int.reduceSub,Int.reduceMul,Int.reduceNeg,Int.reduceLT,Int.reduceLE,Int.reduceEq,Int.reduceToNat,Int.cast_ofNat_Int,↓reduceIte, *]
        refine ⟨Kp.refl _ _, ?_, ?_⟩
        · simpa using hu
        · simpa using hw
    · have e : i = t.length := by omega
      subst e
      simp (disch := (first | assumption | omega | (simp only [List.length_append, List.length_cons, List.length_nil]; omega))) only [↓wD,wU,Nat.reduceBEq,zx150,zx151,zx159,zx160,zx161,zx162,Nat.reduceAdd,Nat.reduceSub,Nat.reduceMul,Nat.reduceLeDiff,Nat.reduceLT,Nat.reduceEqDiff,Int.reduceAdd,Int.reduceSub,Int.reduceMul,Int.reduceNeg,Int.reduceLT,Int.reduceLE,Int.reduceEq,Int.reduceToNat,Int.cast_ofNat_Int,↓reduceIte, *]
      refine rv_2 ?_ ?_
      · have e : ((List.range t.length).map fun r => if r < t.length then (gi t r).sum else 0) = rowSums t := by
          unfold rowSums
          apply List.ext_getElem (by simp)
          intro k h1 h2
          have hk : k < t.length := by simpa using h1
          simp [hk, gi_nat hk]
        rw [e] at hu
        exact hu.sl.weak fun b h => .inr h
      · exact hw.sl.weak fun b h => .inr h
  · simp (disch := (first | assumption | omega | (simp only [List.length_append, List.length_cons, List.length_nil]; omega))) only [↓wD,wU,Nat.reduceBEq,zx150,zx151,zx159,zx160,zx161,zx162,Nat.reduceAdd,Nat.reduceSub,Nat.reduceMul,Nat.reduceLeDiff,Nat.reduceLT,Nat.reduceEqDiff,Int.reduceAdd,Int.reduceSub,Int.reduceMul,Int.reduceNeg,Int.reduceLT,Int.reduceLE,Int.reduceEq,Int.reduceToNat,Int.cast_ofNat_Int,↓reduceIte, *]
    have h1 := MI.mk (H := H) (n := t.length) (Nat.le_refl _) (by omega)
    have h2 := MI.mk (L := H.length) (H := H ++ [.cells (reps t.length [.int .i64 0])]) (n := (gi t 0).length) (by simp) (by omega)
    refine ⟨_, _, rfl, rfl, (Kp.app _ _ _).app' _, ?_, ?_, fun b e => ?_⟩
    · have e : ((List.range t.length).map fun r : Nat => if r < 0 then (gi t (r : Int)).sum else 0) = List.replicate t.length 0 := by
        apply List.ext_getElem (by simp)
        intro i h1 h2
        simp
      rw [e]; exact h1.app _
    · have e : ((List.range (gi t 0).length).map fun j => colPart t 0 j) = List.replicate (gi t 0).length 0 := by
        apply List.ext_getElem (by simp)
        intro i h1 h2
        simp [colPart_0]
      rw [e]; simpa using h2
    · simp [AV.blk] at e ⊢; omega
end Go.Proofs.Ytflekaacffdakaa
namespace Go.Proofs.Ytflekaacffdakaa
open Go Go.AM Go.Proofs
theorem list2 {xs : List Int} (h : xs.length = 2) : ∃ a b, xs = [a, b] := by
  match xs, h with
  | [a, b], _ => exact ⟨a, b, rfl⟩
theorem list3 {xs : List Int} (h : xs.length = 3) : ∃ a b c, xs = [a, b, c] := by
  match xs, h with
  | [a, b, c], _ => exact ⟨a, b, c, rfl⟩
theorem eq37 (w : World) (x0 x1 y0 y1 : Int) : (Op.equalIn 10000 37 (.agg #[.int .i64 x0, .int .i64 x1]) (.agg #[.int .i64 y0, .int .i64 y1])).run C.P w = .ok ([x0, x1] == [y0, y1]) w := by
  rw [run_equalIn_struct w 9999 37 _ _ (by kernel_rfl) (by kernel_rfl)]
  have hi : Try.prog.underlying 3 = some (.int .i64) := Try.underlying3
  have e : ∀ a b : Int, (Op.equalIn 9999 3 (.int .i64 a) (.int .i64 b)).run Try.prog w = .ok (a == b) w := fun a b => run_equalIn_int w 9998 3 .i64 .i64 a b hi
  have pt : ∀ (a b : Int) (k : Nat), k < 2 → (part 3 #[.int .i64 a, .int .i64 b] k).run Try.prog w = .ok (.int .i64 (if k = 0 then a else b)) w := by
    intro a b k hk
    have : k = 0 ∨ k = 1 := by omega
    rcases this with rfl | rfl <;> go_simp
  simp [Try.underlying37, Program.fieldsOf, C, Op.eqFields, pt, e]
  by_cases h1 : x0 = y0 <;> by_cases h2 : x1 = y1 <;> simp [h1, h2]
theorem eq88 (w : World) (x0 x1 x2 y0 y1 y2 : Int) : (Op.equalIn 10000 88 (.agg #[.int .i64 x0, .int .i64 x1, .int .i64 x2]) (.agg #[.int .i64 y0, .int .i64 y1, .int .i64 y2])).run C.P w = .ok ([x0, x1, x2] == [y0, y1, y2]) w := by
  have hi : Try.prog.underlying 3 = some (.int .i64) := Try.underlying3
  have ha : Try.prog.underlying 88 = some (.array 3 3) := Try.underlying88
  have e : ∀ a b : Int, (Op.equalIn 9999 3 (.int .i64 a) (.int .i64 b)).run Try.prog w = .ok (a == b) w := fun a b => run_equalIn_int w 9998 3 .i64 .i64 a b hi
  have pt : ∀ (a b c : Int) (k : Nat), k < 3 → (part 3 #[.int .i64 a, .int .i64 b, .int .i64 c] k).run Try.prog w = .ok (.int .i64 (if k = 0 then a else if k = 1 then b else c)) w := by
    intro a b c k hk
    have : k = 0 ∨ k = 1 ∨ k = 2 := by omega
    rcases this with rfl | rfl | rfl <;> go_simp
  have sz : (sizeOf 3).run Try.prog w = .ok 1 w := by go_simp
  change (Op.equalIn (9999 + 1) 88 _ _).run Try.prog w = _
  unfold Op.equalIn
  simp [run_underlying ha, sz, Std.Legacy.Range.forIn_eq_forIn_range', Std.Legacy.Range.size, List.range', pt, e]
  by_cases h1 : x0 = y0 <;> by_cases h2 : x1 = y1 <;> by_cases h3 : x2 = y2 <;> simp [h1, h2, h3]
theorem eqOk : EqOk C := by
  intro t n ht xs ys hx hy neg xo yo w
  have hc : t = 37 ∧ n = 2 ∨ t = 88 ∧ n = 3 := by
    simp only [C] at ht
    split at ht
    · rename_i h; cases ht; exact .inl ⟨by simpa using h, rfl⟩
    · split at ht
      · rename_i h; cases ht; exact .inr ⟨by simpa using h, rfl⟩
      · cases ht
  rcases hc with ⟨rfl, rfl⟩ | ⟨rfl, rfl⟩
  · obtain ⟨x0, x1, rfl⟩ := list2 hx
    obtain ⟨y0, y1, rfl⟩ := list2 hy
    have g : ∀ op, (eqGuard op 37 xo yo (.agg (ints [x0, x1])) (.agg (ints [y0, y1]))).run C.P w = .ok () w := fun op => run_eqGuard_agg w op 37 xo yo _ _ (by kernel_rfl)
    have e := eq37 w x0 x1 y0 y1
    cases neg
    · simp only [Bool.false_eq_true, if_false, Sem.run_bind, g, Result.andThen_ok, run_eql_struct]
      simp [ints] at e ⊢; rw [e]; rfl
    · simp only [if_true, Sem.run_bind, g, Result.andThen_ok, run_neq_struct]
      simp [ints] at e ⊢; rw [e]; simp [Result.andThen, Bool.not_and]
  · obtain ⟨x0, x1, x2, rfl⟩ := list3 hx
    obtain ⟨y0, y1, y2, rfl⟩ := list3 hy
    have g : ∀ op, (eqGuard op 88 xo yo (.agg (ints [x0, x1, x2])) (.agg (ints [y0, y1, y2]))).run C.P w = .ok () w := fun op => run_eqGuard_agg w op 88 xo yo _ _ (by kernel_rfl)
    have e := eq88 w x0 x1 x2 y0 y1 y2
    cases neg
    · simp only [Bool.false_eq_true, if_false, Sem.run_bind, g, Result.andThen_ok, run_eql_struct]
      simp [ints] at e ⊢; rw [e]; rfl
    · simp only [if_true, Sem.run_bind, g, Result.andThen_ok, run_neq_struct]
      simp [ints] at e ⊢; rw [e]; simp [Result.andThen, Bool.not_and]
theorem eOk : EOk C (fun _ => True) E where
  kd := rfl
  fn := fun f af h => tab_ok (f, af) (lookup_mem h)
  prim := fun f g h => by
    simp only [C, kd] at h
    split at h
    · cases h
    · split at h <;> cases h
  stable := fun _ _ _ _ => trivial
  eq := eqOk
  mixed := mixed
end Go.Proofs.Ytflekaacffdakaa
namespace Go.Proofs.Ytflekaacffdakaa
open Go Go.AM Go.Proofs
theorem awake_ret {H : Heap} : RetP E 23 [] H (.b true) :=
  RetP.closed (n := 300) rfl fn23 rfl rfl (by kernel_rfl)
theorem cutT_ok {t : List (List Int)} (h : TabOk t) : cutT t = t := by
  unfold cutT
  rw [List.take_of_length_le (by have := h.2.1; omega)]
  conv => rhs; rw [← List.map_id t]
  apply List.map_congr_left
  intro r hr
  exact List.take_of_length_le (by have := (h.2.2.1 r hr).2.1; omega)
theorem TabOk_cut {t : List (List Int)} : TabOk (cutT t) ↔ TabOk t := by
  constructor
  · intro h
    have e : cutT t = t := by
      have h1 : t.length ≤ 3 := by have := h.2.1; simp [cutT] at this; omega
      unfold cutT
      rw [List.take_of_length_le (by omega)]
      conv => rhs; rw [← List.map_id t]
      apply List.map_congr_left
      intro r hr
      have hm : r.take 6 ∈ cutT t := by
        unfold cutT
        rw [List.take_of_length_le (by omega)]
        exact List.mem_map_of_mem hr
      have := (h.2.2.1 _ hm).2.1
      rw [List.length_take] at this
      exact List.take_of_length_le (by omega)
    rwa [e] at h
  · intro h
    rw [cutT_ok h]; exact h
end Go.Proofs.Ytflekaacffdakaa
namespace Go.Proofs.Ytflekaacffdakaa
open Go Go.AM Go.Proofs
theorem tmodN (m n : Nat) : (m : Int).tmod (n : Int) = ((m % n : Nat) : Int) := by
  rw [Int.tmod_eq_emod_of_nonneg (by omega)]; rfl
theorem tdivN (m n : Nat) : (m : Int).tdiv (n : Int) = ((m / n : Nat) : Int) := by
  rw [Int.tdiv_eq_ediv_of_nonneg (by omega)]; rfl
theorem gcd_step (x k : Nat) : Nat.gcd k (x % k) = Nat.gcd x k := by
  rw [Nat.gcd_comm k, ← Nat.gcd_rec, Nat.gcd_comm]
theorem gcd_ret {H : Heap} (m n : Nat) (hm : m ≤ 4611686018427387904) (hn : n ≤ 4611686018427387904) : RetP E 99 [.i m, .i n] H (.i (Nat.gcd m n : Nat)) := by
  refine RetP.ro rfl fn99 rfl rfl ?_
  unfold f99A
  simp (disch := (first | assumption | omega | (simp only [List.length_append, List.length_cons, List.length_nil]; omega))) only [↓wD,wU,Nat.reduceBEq,zx150,zx151,zx159,zx160,zx161,zx162,Nat.reduceAdd,Nat.reduceSub,Nat.reduceMul,Nat.reduceLeDiff,Nat.reduceLT,Nat.reduceEqDiff,Int.reduceAdd,Int.reduceSub,Int.reduceMul,Int.reduceNeg,Int.reduceLT,Int.reduceLE,Int.reduceEq,Int.reduceToNat,Int.cast_ofNat_Int,↓reduceIte, *]
  refine Wp.dec (fun k a H' => H' = H ∧ ∃ x : Nat, a 0 = .i x ∧ a 1 = .i k ∧ x ≤ 4611686018427387904 ∧ k ≤ 4611686018427387904 ∧ Nat.gcd x k = Nat.gcd m n) n ?_ ?_
  · rintro k a H' ⟨rfl, x, h0, h1, hx, hkb, hg⟩ ih
    by_cases hk : k = 0
    · subst hk
      simp (disch := (first | assumption | omega | (simp only [List.length_append, List.length_cons, List.length_nil]; omega))) only [↓wD,wU,Nat.reduceBEq,zx150,zx151,zx159,zx160,zx161,zx162,Nat.reduceAdd,Nat.reduceSub,Nat.reduceMul,Nat.reduceLeDiff,Nat.reduceLT,Nat.reduceEqDiff,Int.reduceAdd,Int.reduceSub,Int.reduceMul,Int.reduceNeg,Int.reduceLT,Int.reduceLE,Int.reduceEq,Int.reduceToNat,Int.cast_ofNat_Int,↓reduceIte, *]
      rw [Nat.gcd_zero_right] at hg
      rw [← hg]
      congr 1
      omega
    · simp (disch := (first | assumption | omega | (simp only [List.length_append, List.length_cons, List.length_nil]; omega))) only [↓wD,wU,Nat.reduceBEq,zx150,zx151,zx159,zx160,zx161,zx162,Nat.reduceAdd,Nat.reduceSub,Nat.reduceMul,Nat.reduceLeDiff,Nat.reduceLT,Nat.reduceEqDiff,Int.reduceAdd,Int.reduceSub,Int.reduceMul,Int.reduceNeg,Int.reduceLT,Int.reduceLE,Int.reduceEq,Int.reduceToNat,Int.cast_ofNat_Int,↓reduceIte, *, tmodN]
      have hlt : x % k < k := Nat.mod_lt _ (by omega)
      refine ih.go ⟨x % k, hlt, rfl, k, ?_⟩
      rw [← hg, ← gcd_step x k]
      simp (disch := (first | assumption | omega | (simp only [List.length_append, List.length_cons, List.length_nil]; omega))) only [↓wD,wU,Nat.reduceBEq,zx150,zx151,zx159,zx160,zx161,zx162,Nat.reduceAdd,Nat.reduceSub,Nat.reduceMul,Nat.reduceLeDiff,Nat.reduceLT,Nat.reduceEqDiff,Int.reduceAdd,Int.reduceSub,Int.reduceMul,Int.reduceNeg,Int.reduceLT,Int.reduceLE,Int.reduceEq,Int.reduceToNat,Int.cast_ofNat_Int,↓reduceIte, *]
      omega
  · simp (disch := (first | assumption | omega | (simp only [List.length_append, List.length_cons, List.length_nil]; omega))) only [↓wD,wU,Nat.reduceBEq,zx150,zx151,zx159,zx160,zx161,zx162,Nat.reduceAdd,Nat.reduceSub,Nat.reduceMul,Nat.reduceLeDiff,Nat.reduceLT,Nat.reduceEqDiff,Int.reduceAdd,Int.reduceSub,Int.reduceMul,Int.reduceNeg,Int.reduceLT,Int.reduceLE,Int.reduceEq,Int.reduceToNat,Int.cast_ofNat_Int,↓reduceIte, *]
    exact ⟨m, by simp_all⟩
def fracN (m n : Nat) : Int × Int := ((m / Nat.gcd m n : Nat), (n / Nat.gcd m n : Nat))
theorem frac_ret {H : Heap} (m n : Nat) (hm : m ≤ 4611686018427387904) (hn : n ≤ 4611686018427387904) (h0 : 0 < n) : RetP E 73 [.i m, .i n] H (.ag [.i (fracN m n).1, .i (fracN m n).2]) := by
  refine RetP.ro rfl fn73 rfl rfl ?_
  unfold f73A
  have hg : 0 < Nat.gcd m n := Nat.gcd_pos_of_pos_right _ h0
  have h1 : m / Nat.gcd m n ≤ m := Nat.div_le_self _ _
  have h2 : n / Nat.gcd m n ≤ n := Nat.div_le_self _ _
  unfold fracN
  obtain ⟨q1, hq1⟩ : ∃ q, m / Nat.gcd m n = q := ⟨_, rfl⟩
  obtain ⟨q2, hq2⟩ : ∃ q, n / Nat.gcd m n = q := ⟨_, rfl⟩
  rw [hq1] at h1
  rw [hq2] at h2
  simp (disch := (first | assumption | omega | (simp only [List.length_append, List.length_cons, List.length_nil]; omega))) only [↓wD,wU,Nat.reduceBEq,zx150,zx151,zx159,zx160,zx161,zx162,Nat.reduceAdd,Nat.reduceSub,Nat.reduceMul,Nat.reduceLeDiff,Nat.reduceLT,Nat.reduceEqDiff,Int.reduceAdd,Int.reduceSub,Int.reduceMul,Int.reduceNeg,Int.reduceLT,Int.reduceLE,Int.reduceEq,Int.reduceToNat,Int.cast_ofNat_Int,↓reduceIte, *, (gcd_ret m n hm hn).call, tdivN]
theorem rfrac_ret {H : Heap} (m n : Nat) (hm : m ≤ 4611686018427387904) (hn : n ≤ 4611686018427387904) (h0 : 0 < n) : RetP E 55 [.i m, .i n] H (.ag [.i (fracN m n).1, .i (fracN m n).2]) := by
  refine RetP.ro rfl fn55 rfl rfl ?_
  unfold f55A
  simp (disch := (first | assumption | omega | (simp only [List.length_append, List.length_cons, List.length_nil]; omega))) only [↓wD,wU,Nat.reduceBEq,zx150,zx151,zx159,zx160,zx161,zx162,Nat.reduceAdd,Nat.reduceSub,Nat.reduceMul,Nat.reduceLeDiff,Nat.reduceLT,Nat.reduceEqDiff,Int.reduceAdd,Int.reduceSub,Int.reduceMul,Int.reduceNeg,Int.reduceLT,Int.reduceLE,Int.reduceEq,Int.reduceToNat,Int.cast_ofNat_Int,↓reduceIte, *]
  refine Wp.dec (fun k a H' => H' = H ++ [.cells [.i 0, .i 0]] ∧ a 0 = .i m ∧ a 1 = .i n ∧ a 4 = .p H.length 0 ∧ ∃ x : Nat, a 5 = .i x ∧ a 6 = .i k ∧ x ≤ 4611686018427387904 ∧ k ≤ 4611686018427387904 ∧ Nat.gcd x k = Nat.gcd m n) n ?_ ?_
  · rintro k a H' ⟨rfl, h0, h1, h4, x, h5, h6, hx, hkb, hg⟩ ih
    by_cases hk : k = 0
    · subst hk
      rw [Nat.gcd_zero_right] at hg
      subst hg
      have hg : 0 < Nat.gcd m n := Nat.gcd_pos_of_pos_right _ (by assumption)
      have h1' : m / Nat.gcd m n ≤ m := Nat.div_le_self _ _
      have h2' : n / Nat.gcd m n ≤ n := Nat.div_le_self _ _
      unfold fracN
      obtain ⟨q1, hq1⟩ : ∃ q, m / Nat.gcd m n = q := ⟨_, rfl⟩
      obtain ⟨q2, hq2⟩ : ∃ q, n / Nat.gcd m n = q := ⟨_, rfl⟩
      rw [hq1] at h1'
      rw [hq2] at h2'
      simp (disch := (first | assumption | omega | (simp only [List.length_append, List.length_cons, List.length_nil]; omega))) only [↓wD,wU,Nat.reduceBEq,zx150,zx151,zx159,zx160,zx161,zx162,Nat.reduceAdd,Nat.reduceSub,Nat.reduceMul,Nat.reduceLeDiff,Nat.reduceLT,Nat.reduceEqDiff,Int.reduceAdd,Int.reduceSub,Int.reduceMul,Int.reduceNeg,Int.reduceLT,Int.reduceLE,Int.reduceEq,Int.reduceToNat,Int.cast_ofNat_Int,↓reduceIte, *, tdivN]
    · simp (disch := (first | assumption | omega | (simp only [List.length_append, List.length_cons, List.length_nil]; omega))) only [↓wD,wU,Nat.reduceBEq,zx150,zx151,zx159,zx160,zx161,zx162,Nat.reduceAdd,Nat.reduceSub,Nat.reduceMul,Nat.reduceLeDiff,Nat.reduceLT,Nat.reduceEqDiff,Int.reduceAdd,Int.reduceSub,Int.reduceMul,Int.reduceNeg,Int.reduceLT,Int.reduceLE,Int.reduceEq,Int.reduceToNat,Int.cast_ofNat_Int,↓reduceIte, *, tmodN]
      have hlt : x % k < k := Nat.mod_lt _ (by omega)
      refine ih.go ⟨x % k, hlt, rfl, ?_⟩
      rw [← hg, ← gcd_step x k]
      simp (disch := (first | assumption | omega | (simp only [List.length_append, List.length_cons, List.length_nil]; omega))) only [↓wD,wU,Nat.reduceBEq,zx150,zx151,zx159,zx160,zx161,zx162,Nat.reduceAdd,Nat.reduceSub,Nat.reduceMul,Nat.reduceLeDiff,Nat.reduceLT,Nat.reduceEqDiff,Int.reduceAdd,Int.reduceSub,Int.reduceMul,Int.reduceNeg,Int.reduceLT,Int.reduceLE,Int.reduceEq,Int.reduceToNat,Int.cast_ofNat_Int,↓reduceIte, *]
      exact ⟨k, rfl, hkb, by omega, rfl⟩
  · simp (disch := (first | assumption | omega | (simp only [List.length_append, List.length_cons, List.length_nil]; omega))) only [↓wD,wU,Nat.reduceBEq,zx150,zx151,zx159,zx160,zx161,zx162,Nat.reduceAdd,Nat.reduceSub,Nat.reduceMul,Nat.reduceLeDiff,Nat.reduceLT,Nat.reduceEqDiff,Int.reduceAdd,Int.reduceSub,Int.reduceMul,Int.reduceNeg,Int.reduceLT,Int.reduceLE,Int.reduceEq,Int.reduceToNat,Int.cast_ofNat_Int,↓reduceIte, *]
    have e : max (m : Int) (0 - (m : Int)) = (m : Int) := by omega
    exact ⟨m, by simp_all⟩
end Go.Proofs.Ytflekaacffdakaa
namespace Go.Proofs.Ytflekaacffdakaa
open Go Go.AM Go.Proofs
def Four (t : List (List Int)) : Prop := TabOk t ∧ t.length = 2 ∧ (gi t 0).length = 2
instance (t : List (List Int)) : Decidable (Four t) := by unfold Four; infer_instance
theorem nat_of {x : Int} (h : 0 ≤ x) : ∃ n : Nat, x = n := ⟨x.toNat, by omega⟩
theorem Four.elim {t : List (List Int)} (h : Four t) : ∃ a b c d : Nat, t = [[(a : Int), b], [(c : Int), d]] ∧ a + b + c + d ≤ 16 := by
  obtain ⟨h, h1, h2⟩ := h
  match t, h1 with
  | [r, s], _ =>
    have hs := h.2.2.1 s (by simp)
    have hr := h.2.2.1 r (by simp)
    have e1 : (gi [r, s] 0) = r := rfl
    rw [e1] at h2 hs hr
    have h3 : s.length = 2 := by rw [hs.2.2.1, h2]
    match r, h2, s, h3 with
    | [a, b], _, [c, d], _ =>
      have ha := hr.2.2.2 a (by simp)
      have hb := hr.2.2.2 b (by simp)
      have hc := hs.2.2.2 c (by simp)
      have hd := hs.2.2.2 d (by simp)
      have hsum := h.2.2.2
      simp at hsum
      obtain ⟨a, rfl⟩ := nat_of ha.1
      obtain ⟨b, rfl⟩ := nat_of hb.1
      obtain ⟨c, rfl⟩ := nat_of hc.1
      obtain ⟨d, rfl⟩ := nat_of hd.1
      exact ⟨a, b, c, d, rfl, by omega⟩
theorem Four.mk {a b c d : Nat} (h : a + b + c + d ≤ 16) : Four [[(a : Int), b], [(c : Int), d]] := by
  refine ⟨⟨by simp, by simp, ?_, by simp; omega⟩, rfl, rfl⟩
  intro r hr
  simp at hr
  rcases hr with rfl | rfl
  · refine ⟨by simp, by simp, rfl, ?_⟩
    intro x hx; simp at hx; rcases hx with rfl | rfl <;> omega
  · refine ⟨by simp, by simp, rfl, ?_⟩
    intro x hx; simp at hx; rcases hx with rfl | rfl <;> omega
end Go.Proofs.Ytflekaacffdakaa
namespace Go.Proofs.Ytflekaacffdakaa
open Go Go.AM Go.Proofs
def NE (t : List (List Int)) : Prop := ∀ r ∈ t, r ≠ [] ∧ r.length ≤ 1000
theorem TabOk.ne {t : List (List Int)} (h : TabOk t) : NE t := fun r hr => ⟨fun e => by have := (h.2.2.1 r hr).1; rw [e] at this; simp at this, by have := (h.2.2.1 r hr).2.1; omega⟩
theorem tclone_ret {p : Nat → Prop} {H : Heap} {v : AV} {t : List (List Int)} (ht : Sl p H v t) (hne : NE t) (hl : t.length ≤ 1000) : Ret E 84 [v] (fun _ => False) H (OT.mk t) := by
  refine Ret.ro rfl fn84 rfl ?_
  unfold f84A
  simp (disch := (first | assumption | omega | (simp only [List.length_append, List.length_cons, List.length_nil]; omega))) only [↓wD,wU,Nat.reduceBEq,zx150,zx151,zx159,zx160,zx161,zx162,Nat.reduceAdd,Nat.reduceSub,Nat.reduceMul,Nat.reduceLeDiff,Nat.reduceLT,Nat.reduceEqDiff,Int.reduceAdd,Int.reduceSub,Int.reduceMul,Int.reduceNeg,Int.reduceLT,Int.reduceLE,Int.reduceEq,Int.reduceToNat,Int.cast_ofNat_Int,↓reduceIte, *, ht.L]
  replace ht : Sl (fun b => b < H.length) H v t := ht.low.weak fun _ h => h.2
  refine Wp.for t.length (fun i a H' => ∃ u, a 6 = v ∧ a 7 = .i t.length ∧ a 8 = .i i ∧ a 3 = u ∧ Gr H H' ∧ MT H.length H' u (t.take i)) ?_ ?_
  · rintro i a H1 hi ⟨u, h6, h7, h8, h3, hg, hu⟩ ih
    simp (disch := (first | assumption | omega | (simp only [List.length_append, List.length_cons, List.length_nil]; omega))) only [↓wD,wU,Nat.reduceBEq,zx150,zx151,zx159,zx160,zx161,zx162,Nat.reduceAdd,Nat.reduceSub,Nat.reduceMul,Nat.reduceLeDiff,Nat.reduceLT,Nat.reduceEqDiff,Int.reduceAdd,Int.reduceSub,Int.reduceMul,Int.reduceNeg,Int.reduceLT,Int.reduceLE,Int.reduceEq,Int.reduceToNat,Int.cast_ofNat_Int,↓reduceIte, *]
    refine condP_split (fun hlt => ?_) (fun hlt => ?_)
    · have hi' : i < t.length := by omega
      have ht1 := ht.gr hg
      have g := ht1.get (k := (i : Int)) (by omega) (by omega)
      have hn := hne _ (mem_gi hi')
      have hl1 := hg.1
      simp (disch := (first | assumption | omega | (simp only [List.length_append, List.length_cons, List.length_nil]; omega))) only [↓wD,wU,Nat.reduceBEq,zx150,zx151,zx159,zx160,zx161,zx162,Nat.reduceAdd,Nat.reduceSub,Nat.reduceMul,Nat.reduceLeDiff,Nat.reduceLT,Nat.reduceEqDiff,Int.reduceAdd,Int.reduceSub,Int.reduceMul,Int.reduceNeg,Int.reduceLT,Int.reduceLE,Int.reduceEq,Int.reduceToNat,Int.cast_ofNat_Int,↓reduceIte, *, ht1.L]
      refine (clone_ret g (by omega)).toF fun y H2 hg2 hy => ?_
      have hl2 := hg2.1
      simp (disch := (first | assumption | omega | (simp only [List.length_append, List.length_cons, List.length_nil]; omega))) only [↓wD,wU,Nat.reduceBEq,zx150,zx151,zx159,zx160,zx161,zx162,Nat.reduceAdd,Nat.reduceSub,Nat.reduceMul,Nat.reduceLeDiff,Nat.reduceLT,Nat.reduceEqDiff,Int.reduceAdd,Int.reduceSub,Int.reduceMul,Int.reduceNeg,Int.reduceLT,Int.reduceLE,Int.reduceEq,Int.reduceToNat,Int.cast_ofNat_Int,↓reduceIte, *, hy.cellsV]
      refine hu.push hg2 (Nat.le_refl _) hl1 hy hn.1 (by simp; omega) fun u' H3 hu' hk3 => ?_
      simp (disch := (first | assumption | omega | (simp only [List.length_append, List.length_cons, List.length_nil]; omega))) only [↓wD,wU,Nat.reduceBEq,zx150,zx151,zx159,zx160,zx161,zx162,Nat.reduceAdd,Nat.reduceSub,Nat.reduceMul,Nat.reduceLeDiff,Nat.reduceLT,Nat.reduceEqDiff,Int.reduceAdd,Int.reduceSub,Int.reduceMul,Int.reduceNeg,Int.reduceLT,Int.reduceLE,Int.reduceEq,Int.reduceToNat,Int.cast_ofNat_Int,↓reduceIte, *]
      refine (ih hi').go ⟨u', ?_⟩
      rw [take_gi hi']
      simp (disch := (first | assumption | omega | (simp only [List.length_append, List.length_cons, List.length_nil]; omega))) only [↓wD,wU,Nat.reduceBEq,zx150,zx151,zx159,zx160,zx161,zx162,Nat.reduceAdd,Nat.reduceSub,Nat.reduceMul,Nat.reduceLeDiff,Nat.reduceLT,Nat.reduceEqDiff,Int.reduceAdd,Int.reduceSub,Int.reduceMul,Int.reduceNeg,Int.reduceLT,Int.reduceLE,Int.reduceEq,Int.reduceToNat,Int.cast_ofNat_Int,↓reduceIte, *]
      exact (hg.trans hg2).trans' hk3 fun b hb e => by have := hu.blk_lt e; omega
    · have e : i = t.length := by omega
      subst e
      rw [List.take_length] at hu
      simp (disch := (first | assumption | omega | (simp only [List.length_append, List.length_cons, List.length_nil]; omega))) only [↓wD,wU,Nat.reduceBEq,zx150,zx151,zx159,zx160,zx161,zx162,Nat.reduceAdd,Nat.reduceSub,Nat.reduceMul,Nat.reduceLeDiff,Nat.reduceLT,Nat.reduceEqDiff,Int.reduceAdd,Int.reduceSub,Int.reduceMul,Int.reduceNeg,Int.reduceLT,Int.reduceLE,Int.reduceEq,Int.reduceToNat,Int.cast_ofNat_Int,↓reduceIte, *]
      exact hu.rv fun b h => .inr h
  · simp (disch := (first | assumption | omega | (simp only [List.length_append, List.length_cons, List.length_nil]; omega))) only [↓wD,wU,Nat.reduceBEq,zx150,zx151,zx159,zx160,zx161,zx162,Nat.reduceAdd,Nat.reduceSub,Nat.reduceMul,Nat.reduceLeDiff,Nat.reduceLT,Nat.reduceEqDiff,Int.reduceAdd,Int.reduceSub,Int.reduceMul,Int.reduceNeg,Int.reduceLT,Int.reduceLE,Int.reduceEq,Int.reduceToNat,Int.cast_ofNat_Int,↓reduceIte, *]
    exact ⟨.nils, rfl, Gr.refl _, MT.nil⟩
theorem gi_set {α : Type} [Inhabited α] {xs : List α} {i j : Int} {x : α} (hi : 0 ≤ i) (hj : 0 ≤ j) (hl : i < xs.length) : gi (xs.set i.toNat x) j = if i = j then x else gi xs j := by
  unfold gi
  by_cases h : i = j
  · subst h
    rw [if_pos rfl]
    have : i.toNat < xs.length := by omega
    simp [this]
  · rw [if_neg h]
    have : i.toNat ≠ j.toNat := by omega
    simp [List.getD_eq_getElem?_getD, List.getElem?_set_ne this]
end Go.Proofs.Ytflekaacffdakaa
namespace Go.Proofs.Ytflekaacffdakaa
open Go Go.AM Go.Proofs
theorem foldl_max_ge {xs : List Int} : ∀ {m : Int}, m ≤ xs.foldl max m ∧ ∀ x ∈ xs, x ≤ xs.foldl max m := by
  induction xs with
  | nil => simp
  | cons x xs ih =>
    intro m
    have := ih (m := max m x)
    simp only [List.foldl_cons, List.mem_cons, forall_eq_or_imp]
    exact ⟨by omega, by omega, this.2⟩
theorem foldl_max_mem {xs : List Int} : ∀ {m : Int}, xs.foldl max m = m ∨ xs.foldl max m ∈ xs := by
  induction xs with
  | nil => simp
  | cons x xs ih =>
    intro m
    simp only [List.foldl_cons, List.mem_cons]
    rcases ih (m := max m x) with h | h
    · rw [h]; rcases Int.le_total m x with h1 | h1
      · right; left; omega
      · left; omega
    · exact .inr (.inr h)
def maxL (xs : List Int) : Int := (xs.drop 1).foldl max (gi xs 0)
theorem maxL_spec {xs : List Int} (h : 1 ≤ xs.length) : maxL xs ∈ xs ∧ ∀ x ∈ xs, x ≤ maxL xs := by
  cases xs with
  | nil => simp at h
  | cons x xs =>
    simp only [maxL, zx181, List.drop_succ_cons, List.drop_zero]
    have h1 := foldl_max_ge (xs := xs) (m := x)
    refine ⟨?_, fun y hy => ?_⟩
    · rcases foldl_max_mem (xs := xs) (m := x) with h | h
      · rw [h]; simp
      · exact List.mem_cons_of_mem _ h
    · rcases List.mem_cons.1 hy with rfl | hy
      · exact h1.1
      · exact h1.2 y hy
theorem take_drop1 {xs : List Int} {i : Nat} (h1 : 1 ≤ i) (h : i < xs.length) : (xs.take (i + 1)).drop 1 = (xs.take i).drop 1 ++ [gi xs i] := by
  rw [take_gi h, List.drop_append_of_le_length (by rw [List.length_take]; omega)]
theorem maxL_take {xs : List Int} {i : Nat} (h1 : 1 ≤ i) (h : i < xs.length) : maxL (xs.take (i + 1)) = max (maxL (xs.take i)) (gi xs i) := by
  have e : ∀ j, 1 ≤ j → gi (xs.take j) 0 = gi xs 0 := fun j hj => by cases xs with | nil => simp at h | cons x r => cases j with | zero => omega | succ j => rfl
  unfold maxL
  rw [take_drop1 h1 h, List.foldl_append, e _ h1, e _ (by omega)]; rfl
theorem max_ret {p : Nat → Prop} {H : Heap} {v : AV} {xs : List Int} (hx : Sl p H v xs) (h : 1 ≤ xs.length) : RetP E 101 [v] H (.i (maxL xs)) := by
  refine RetP.ro rfl fn101 rfl rfl ?_
  unfold f101A
  have hb := hx.bound
  simp (disch := (first | assumption | omega | (simp only [List.length_append, List.length_cons, List.length_nil]; omega))) only [↓wD,wU,Nat.reduceBEq,zx150,zx151,zx159,zx160,zx161,zx162,Nat.reduceAdd,Nat.reduceSub,Nat.reduceMul,Nat.reduceLeDiff,Nat.reduceLT,Nat.reduceEqDiff,Int.reduceAdd,Int.reduceSub,Int.reduceMul,Int.reduceNeg,Int.reduceLT,Int.reduceLE,Int.reduceEq,Int.reduceToNat,Int.cast_ofNat_Int,↓reduceIte, *, hx.I]
  refine Wp.for (xs.length - 1) (fun i a H' => H' = H ∧ a 0 = v ∧ a 4 = .i (i + 1) ∧ a 3 = .i (maxL (xs.take (i + 1)))) ?_ ?_
  · rintro i a H' hi ⟨rfl, a0, a4, a3⟩ ih
    simp (disch := (first | assumption | omega | (simp only [List.length_append, List.length_cons, List.length_nil]; omega))) only [↓wD,wU,Nat.reduceBEq,zx150,zx151,zx159,zx160,zx161,zx162,Nat.reduceAdd,Nat.reduceSub,Nat.reduceMul,Nat.reduceLeDiff,Nat.reduceLT,Nat.reduceEqDiff,Int.reduceAdd,Int.reduceSub,Int.reduceMul,Int.reduceNeg,Int.reduceLT,Int.reduceLE,Int.reduceEq,Int.reduceToNat,Int.cast_ofNat_Int,↓reduceIte, *, hx.I]
    refine condP_split (fun hlt => ?_) (fun hlt => ?_)
    · have hi' : i < xs.length - 1 := by omega
      have e := maxL_take (xs := xs) (i := i + 1) (by omega) (by omega)
      simp only [Int.natCast_add, Int.natCast_one] at e
      simp (disch := (first | assumption | omega | (simp only [List.length_append, List.length_cons, List.length_nil]; omega))) only [↓wD,wU,Nat.reduceBEq,zx150,zx151,zx159,zx160,zx161,zx162,Nat.reduceAdd,Nat.reduceSub,Nat.reduceMul,Nat.reduceLeDiff,Nat.reduceLT,Nat.reduceEqDiff,Int.reduceAdd,Int.reduceSub,Int.reduceMul,Int.reduceNeg,Int.reduceLT,Int.reduceLE,Int.reduceEq,Int.reduceToNat,Int.cast_ofNat_Int,↓reduceIte, *, hx.I]
      refine (ih hi').go ⟨rfl, ?_⟩
      simp (disch := (first | assumption | omega | (simp only [List.length_append, List.length_cons, List.length_nil]; omega))) only [↓wD,wU,Nat.reduceBEq,zx150,zx151,zx159,zx160,zx161,zx162,Nat.reduceAdd,Nat.reduceSub,Nat.reduceMul,Nat.reduceLeDiff,Nat.reduceLT,Nat.reduceEqDiff,Int.reduceAdd,Int.reduceSub,Int.reduceMul,Int.reduceNeg,Int.reduceLT,Int.reduceLE,Int.reduceEq,Int.reduceToNat,Int.cast_ofNat_Int,↓reduceIte, *]
    · simp (disch := (first | assumption | omega | (simp only [List.length_append, List.length_cons, List.length_nil]; omega))) only [↓wD,wU,Nat.reduceBEq,zx150,zx151,zx159,zx160,zx161,zx162,Nat.reduceAdd,Nat.reduceSub,Nat.reduceMul,Nat.reduceLeDiff,Nat.reduceLT,Nat.reduceEqDiff,Int.reduceAdd,Int.reduceSub,Int.reduceMul,Int.reduceNeg,Int.reduceLT,Int.reduceLE,Int.reduceEq,Int.reduceToNat,Int.cast_ofNat_Int,↓reduceIte, *]
      rw [List.take_of_length_le (by omega)]
  · (simp (disch := (first | assumption | omega | (simp only [List.length_append, List.length_cons, List.length_nil]; omega))) only [↓wD,wU,Nat.reduceBEq,zx150,zx151,zx159,zx160,zx161,zx162,Nat.reduceAdd,Nat.reduceSub,Nat.reduceMul,Nat.reduceLeDiff,Nat.reduceLT,Nat.reduceEqDiff,Int.reduceAdd,Int.reduceSub,Int.reduceMul,Int.reduceNeg,Int.reduceLT,Int.reduceLE,Int.reduceEq,Int.reduceToNat,Int.cast_ofNat_Int,↓reduceIte, *]) <;> first | rfl | skip
    unfold maxL
    cases xs with
    | nil => simp at h
    | cons x r => simp [zx181]
end Go.Proofs.Ytflekaacffdakaa
namespace Go.Proofs.Ytflekaacffdakaa
open Go Go.AM Go.Proofs
def lines : List Int → Int → List (List Int)
  | [], need => if need > 0 then [] else [[]]
  | c :: cs, need => (List.range (min need c + 1).toNat).flatMap fun x : Nat => (lines cs (need - (x : Int))).map ((x : Int) :: ·)
def subL (xs ys : List Int) : List Int := List.zipWith (· - ·) xs ys
def tabsL : List Int → List Int → List (List (List Int))
  | [], L => if maxL L > 0 then [] else [[]]
  | r :: rs, L => (lines L r).flatMap fun l => (tabsL rs (subL L l)).map (l :: ·)
/-- the blocks that grow writes -/
def Wb (n R lb b : Nat) : Prop := b = lb ∨ (R ≤ b ∧ b < R + n)
/-- what grow reads and never writes -/
structure Fx (K : Nat → Prop) (H : Heap) (y rv cv lv : AV) (rows cols : List Int) (n m : Nat) (bm bl bY bt bg tb R lb : Nat) : Prop where
  mg : H[bm]? = some (.cells [rv, cv]) ∧ ¬ K bm ∧ ¬ Wb n R lb bm
  lg : H[bl]? = some (.cells [lv]) ∧ ¬ K bl ∧ ¬ Wb n R lb bl
  yg : H[bY]? = some (.cells [y]) ∧ ¬ K bY ∧ ¬ Wb n R lb bY
  tg : H[bt]? = some (.cells [.s 1 tb 0 n (some n)]) ∧ ¬ K bt ∧ ¬ Wb n R lb bt
  tbg : H[tb]? = some (.cells ((List.range n).map fun a : Nat => .s 1 (R + a) 0 m (some m))) ∧ ¬ K tb ∧ ¬ Wb n R lb tb
  gg : H[bg]? = some (.cells [.fn 100 [] [.p bm 0, .p bl 0, .p bY 0, .p bt 0, .p bg 0]]) ∧ ¬ K bg ∧ ¬ Wb n R lb bg
  rows : Sl (fun b => ¬ K b ∧ ¬ Wb n R lb b) H rv rows
  cols : Sl (fun b => ¬ K b ∧ ¬ Wb n R lb b) H cv cols
theorem Fx.mono {K K' : Nat → Prop} {H H' : Heap} {y rv cv lv : AV} {rows cols : List Int} {n m : Nat} {bm bl bY bt bg tb R lb : Nat} (h : Fx K H y rv cv lv rows cols n m bm bl bY bt bg tb R lb)
    (hk : Kx (fun b => ¬ K b ∧ ¬ Wb n R lb b) H H') (hK : ∀ b, b < H.length → K' b → K b) : Fx K' H' y rv cv lv rows cols n m bm bl bY bt bg tb R lb := by
  have go : ∀ {b : Nat} {k : Blk}, (H[b]? = some k ∧ ¬ K b ∧ ¬ Wb n R lb b) → (H'[b]? = some k ∧ ¬ K' b ∧ ¬ Wb n R lb b) := fun {b k} q =>
    ⟨hk.get q.2 q.1, fun e => q.2.1 (hK _ (List.getElem?_eq_some_iff.1 q.1).1 e), q.2.2⟩
  exact ⟨go h.mg, go h.lg, go h.yg, go h.tg, go h.tbg, go h.gg, (h.rows.low.mono (hk.weak fun _ _ h => h.1).kp fun b q => ⟨fun e => q.1.1 (hK b q.2 e), q.1.2⟩), (h.cols.low.mono (hk.weak fun _ _ h => h.1).kp fun b q => ⟨fun e => q.1.1 (hK b q.2 e), q.1.2⟩)⟩
/-- what grow writes -/
structure Wk (B : Nat) (K : Nat → Prop) (H : Heap) (lv : AV) (n m R lb : Nat) (T : List (List Int)) (L : List Int) : Prop where
  len : T.length = n
  row : ∀ a, a < n → H[R + a]? = some (.cells ((gi T (a : Int)).map AV.i)) ∧ (gi T (a : Int)).length = m ∧ ¬ K (R + a)
  left : Rep.rep (fun b => ¬ K b) H [lv] (⟨lb, L⟩ : OR)
  ll : L.length = m
  lo : B ≤ lb ∧ B ≤ R ∧ ¬ (R ≤ lb ∧ lb < R + n)
theorem Wk.left_lt {B : Nat} {K : Nat → Prop} {H : Heap} {lv : AV} {n m R lb : Nat} {T : List (List Int)} {L : List Int} (h : Wk B K H lv n m R lb T L) : lb < H.length ∧ ¬ K lb := by
  obtain ⟨o, c, k, e, h1, h2, _⟩ := h.left
  exact ⟨(List.getElem?_eq_some_iff.1 h2).1, h1⟩
theorem Wk.row_lt {B : Nat} {K : Nat → Prop} {H : Heap} {lv : AV} {n m R lb : Nat} {T : List (List Int)} {L : List Int} (h : Wk B K H lv n m R lb T L) {a : Nat} (ha : a < n) : R + a < H.length := (List.getElem?_eq_some_iff.1 (h.row a ha).1).1
theorem Wk.mono {B : Nat} {K K' : Nat → Prop} {H H' : Heap} {lv : AV} {n m R lb : Nat} {T : List (List Int)} {L : List Int} (h : Wk B K H lv n m R lb T L) (hk : Kx (fun b => ¬ K b) H H') (hK : ∀ b, b < H.length → K' b → K b) : Wk B K' H' lv n m R lb T L :=
  ⟨h.len, fun a ha => ⟨hk.get (h.row a ha).2.2 (h.row a ha).1, (h.row a ha).2.1, fun e => (h.row a ha).2.2 (hK _ (h.row_lt ha) e)⟩,
    Rep.mono (Rep.low h.left) (hk.weak fun _ _ h => h.1).kp fun b q e => q.1 (hK b q.2 e), h.ll, h.lo⟩
theorem Wk.leftSl {B : Nat} {K : Nat → Prop} {H : Heap} {lv : AV} {n m R lb : Nat} {T : List (List Int)} {L : List Int} (h : Wk B K H lv n m R lb T L) : Sl (fun b => ¬ K b) H lv L := by
  obtain ⟨v, e, hs⟩ := OR.sl h.left
  cases e
  exact hs
theorem zx178 {b m : Nat} {c : Option Nat} {k : Nat} (h : k < m) : iaddrV 1 (.s 1 b 0 m c) (.i (k : Int)) = some (.p b k) := by
  have h0 : (0 : Int) ≤ k ∧ (k : Int) < m := by omega
  show (if 0 ≤ (k : Int) ∧ (k : Int) < m ∧ 1 = 1 then some (AV.p b (0 + (k : Int).toNat * 1)) else none) = _
  rw [if_pos ⟨h0.1, h0.2, rfl⟩]
  simp
/-- a number of left, set -/
theorem Wk.setL {B lo : Nat} {K : Nat → Prop} {H : Heap} {lv : AV} {n m R lb : Nat} {T : List (List Int)} {L : List Int} (h : Wk B K H lv n m R lb T L) {j : Nat} (hj : j < m) (hlo : lo ≤ B) {x : Int} {Q : Heap → Prop}
    (go : ∀ H', Wk B K H' lv n m R lb T (L.set j x) → Kx (fun b => b ≠ lb) H H' → H'.length = H.length → Q H') : @optP _ (stA lo H 1 (lv.at 1 (j : Int)) (.i x)) ⟨Q⟩ := by
  obtain ⟨o, c, k, e, h1, h2, h3, h4, h5⟩ := h.left
  cases e
  have hll := h.ll
  change ¬ K lb at h1
  change H[lb]? = _ at h2
  change o + L.length ≤ _ at h3
  change L.length ≤ _ at h4
  change ∀ (i : Nat) (h : i < L.length), k[o + i]? = some (.i L[i]) at h5
  have hst : stA lo H 1 ((AV.s 1 lb o L.length c).at 1 (j : Int)) (.i x) = some (H.set lb (.cells (k.set (o + j) (.i x)))) := by
    simp only [stA, AV.at, zx130, List.length_singleton, List.all_cons, List.all_nil, zx140, Bool.and_self, and_self, if_true]
    change st lo H lb (o + j * 1) [.i x] = _
    rw [Nat.mul_one, st_of (lo := lo) (o := o + j) (vs := [.i x]) h2 (by have := h.lo; omega) (by simp; omega)]
    simp [wr]
  refine ⟨_, hst, go _ ⟨h.len, fun a ha => ?_, ?_, by rw [List.length_set]; exact h.ll, h.lo⟩ (Kx.set _ _ _) (by simp)⟩
  · rw [List.getElem?_set_ne (show lb ≠ R + a by have := h.lo; omega)]
    exact h.row a ha
  · refine ⟨o, c, k.set (o + j) (.i x), by simp, h1, get_set h2, by simpa using h3, by simpa using h4, fun i hi => ?_⟩
    have hi' : i < L.length := by simpa using hi
    by_cases e : j = i
    · subst e
      rw [List.getElem?_set_self (by omega)]; simp
    · rw [List.getElem?_set_ne (by omega), h5 i hi']
      simp only [List.getElem_set]
      rw [if_neg e]
/-- a number of the table, set -/
theorem Wk.setT {B lo : Nat} {K : Nat → Prop} {H : Heap} {lv : AV} {n m R lb : Nat} {T : List (List Int)} {L : List Int} (h : Wk B K H lv n m R lb T L) {i j : Nat} (hi : i < n) (hj : j < m) (hlo : lo ≤ B) {x : Int} :
    ∃ H', st lo H (R + i) j [.i x] = some H' ∧ Wk B K H' lv n m R lb (T.set i ((gi T (i : Int)).set j x)) L ∧ Kx (fun b => b ≠ R + i) H H' ∧ H'.length = H.length := by
  obtain ⟨h1, h2, h3⟩ := h.row i hi
  have hlen := h.len
  refine ⟨_, st_of h1 (by have := h.lo; omega) (by simp; omega), ⟨by rw [List.length_set]; exact h.len, fun a ha => ?_, ?_, h.ll, h.lo⟩, Kx.set _ _ _, by simp⟩
  · have eg : gi (T.set i ((gi T (i : Int)).set j x)) (a : Int) = if i = a then (gi T (i : Int)).set j x else gi T (a : Int) := by
      have := gi_set (xs := T) (i := (i : Int)) (j := (a : Int)) (x := (gi T (i : Int)).set j x) (by omega) (by omega) (by omega)
      rw [show ((i : Int)).toNat = i from rfl] at this
      rw [this]
      by_cases e : i = a
      · rw [if_pos e, if_pos (by omega)]
      · rw [if_neg e, if_neg (by omega)]
    rw [eg]
    by_cases e : i = a
    · subst e
      rw [if_pos rfl]
      refine ⟨?_, by rw [List.length_set]; exact h2, h3⟩
      rw [get_set h1]
      simp [wr, List.map_set]
    · rw [if_neg e, List.getElem?_set_ne (by omega)]
      exact h.row a ha
  · obtain ⟨o, c, k, e, q1, q2, q3⟩ := h.left
    exact ⟨o, c, k, e, q1, by rw [List.getElem?_set_ne (show R + i ≠ lb by have := h.lo; omega)]; exact q2, q3⟩
/-- the table, as a slice -/
theorem Wk.tabSl {B : Nat} {K : Nat → Prop} {H : Heap} {lv : AV} {n m R lb tb : Nat} {T : List (List Int)} {L : List Int} (h : Wk B K H lv n m R lb T L) (ht : H[tb]? = some (.cells ((List.range n).map fun a : Nat => .s 1 (R + a) 0 m (some m)))) (hn : n ≤ 3) (hm : m ≤ 3) : Sl (fun _ => True) H (.s 1 tb 0 n (some n)) T := by
  have hlen := h.len
  subst hlen
  refine .inr ⟨tb, 0, some T.length, _, rfl, trivial, ht, ?_, by omega, fun i hi => ?_⟩
  · change 0 + T.length * 1 ≤ _; simp
  · refine ⟨.s 1 (R + i) 0 m (some m), ?_, ?_⟩
    · change (((List.range T.length).map fun a : Nat => AV.s 1 (R + a) 0 m (some m)).drop (0 + i * 1)).take 1 = _
      rw [Nat.zero_add, Nat.mul_one, List.take_one, List.head?_drop]
      simp [hi]
    · obtain ⟨h1, h2, h3⟩ := h.row i hi
      rw [gi_nat hi] at h1 h2
      subst h2
      exact Sl.litI (p := fun _ => True) h1 trivial (by omega)
end Go.Proofs.Ytflekaacffdakaa
namespace Go.Proofs.Ytflekaacffdakaa
open Go Go.AM Go.Proofs
/-- an item: a table -/
def ArgT (Ki : Nat → Prop) (H : Heap) (args : List AV) (x : List (List Int)) : Prop := ∃ u, args = [u] ∧ Sl Ki H u x
/-- what is known of a table behind i rows and some numbers of the next one -/
def Pre (T D : List (List Int)) (i : Nat) (c : List Int) : Prop := (∀ a : Nat, a < i → gi T (a : Int) = gi D (a : Int)) ∧ (gi T (i : Int)).take c.length = c
def GPost (B n m R lb : Nat) (lv : AV) (D : List (List Int)) (c L : List Int) (Q : Bool → (Nat → Prop) → Heap → Prop) (K : Nat → Prop) (H : Heap) (u : AV) (H' : Heap) : Prop :=
  ∃ ok K', u = .b ok ∧ (∀ H2, Kx (fun b => b < B ∨ K' b) H' H2 → Q ok K' H2) ∧ Kx (fun b => ¬ K b ∧ ¬ Wb n R lb b) H H' ∧ (∀ b, K' b → b < H'.length ∧ (b < H.length → K b)) ∧ ∃ T', Wk B K' H' lv n m R lb T' L ∧ Pre T' D D.length c
section
variable {lo B n m bm bl bY bt bg tb R lb : Nat} {y rv cv lv : AV} {rows cols : List Int}
def GrowA (lo B n m bm bl bY bt bg tb R lb : Nat) (y rv cv lv : AV) (rows cols : List Int) (rs : List Int) : Prop :=
  ∀ (D : List (List Int)) (L : List Int) (T : List (List Int)) (K : Nat → Prop) (H : Heap) (Q : Bool → (Nat → Prop) → Heap → Prop), D.length + rs.length = n → rows.drop D.length = rs → (∀ x ∈ L, 0 ≤ x ∧ x ≤ 16) →
    Fx K H y rv cv lv rows cols n m bm bl bY bt bg tb R lb → Wk B K H lv n m R lb T L → Pre T D D.length [] → (∀ b, K b → b < H.length) → B ≤ H.length →
    Its E lo y B ArgT Q ((tabsL rs L).map (D ++ ·)) K H →
    WpF E lo 100 [.i D.length, .i 0, .i (gi rows (D.length : Int)), .p bm 0, .p bl 0, .p bY 0, .p bt 0, .p bg 0] H (GPost B n m R lb lv D [] L Q K H)
def GrowB (lo B n m bm bl bY bt bg tb R lb : Nat) (y rv cv lv : AV) (rows cols : List Int) (rs cs : List Int) : Prop :=
  ∀ (D : List (List Int)) (c : List Int) (need : Int) (L : List Int) (T : List (List Int)) (K : Nat → Prop) (H : Heap) (Q : Bool → (Nat → Prop) → Heap → Prop), D.length + 1 + rs.length = n → rows.drop (D.length + 1) = rs → L.drop c.length = cs → c.length + cs.length = m → 0 ≤ need ∧ need ≤ 16 → (∀ x ∈ L, 0 ≤ x ∧ x ≤ 16) →
    Fx K H y rv cv lv rows cols n m bm bl bY bt bg tb R lb → Wk B K H lv n m R lb T L → Pre T D D.length c → (∀ b, K b → b < H.length) → B ≤ H.length →
    Its E lo y B ArgT Q ((lines cs need).flatMap fun l => (tabsL rs (L.take c.length ++ subL cs l)).map (fun z => D ++ (c ++ l) :: z)) K H →
    WpF E lo 100 [.i D.length, .i c.length, .i need, .p bm 0, .p bl 0, .p bY 0, .p bt 0, .p bg 0] H (GPost B n m R lb lv D c L Q K H)
theorem Pre.full {T D : List (List Int)} (h : Pre T D D.length []) (hl : T.length = D.length) : T = D := by
  apply List.ext_getElem hl
  intro i h1 h2
  have := h.1 i h2
  rwa [gi_nat h1, gi_nat h2] at this
theorem growA_nil (hlo : lo ≤ B) (hn : n ≤ 3) (hm : m ≤ 3) (hm1 : 1 ≤ m) (hrl : rows.length = n) : GrowA lo B n m bm bl bY bt bg tb R lb y rv cv lv rows cols [] := by
  intro D L T K H Q hD hr hL fx wk pre hK hB hI
  refine WpF.wrt rfl fn100 rfl ?_
  unfold f100A
  simp only [List.length_nil, Nat.add_zero] at hD
  subst hD
  have rI := fx.rows.I
  rw [hrl] at rI
  have hls := wk.leftSl
  have hll := wk.ll
  have mx := max_ret hls (by omega)
  by_cases h0 : maxL L > 0
  · rw [tabsL, if_pos h0] at hI
    have h0' : decide (0 < maxL L) = true := decide_eq_true h0
    simp (disch := (first | assumption | omega | (simp only [List.length_append, List.length_cons, List.length_nil]; omega))) only [↓wD,wU,Nat.reduceBEq,zx150,zx151,zx159,zx160,zx161,zx162,Nat.reduceAdd,Nat.reduceSub,Nat.reduceMul,Nat.reduceLeDiff,Nat.reduceLT,Nat.reduceEqDiff,Int.reduceAdd,Int.reduceSub,Int.reduceMul,Int.reduceNeg,Int.reduceLT,Int.reduceLE,Int.reduceEq,Int.reduceToNat,Int.cast_ofNat_Int,↓reduceIte, ld_of fx.mg.1, ld_of fx.lg.1, fx.rows.lenV, hrl, mx.call, h0']
    exact ⟨true, K, rfl, hI, Kx.refl _ _, fun b q => ⟨hK b q, fun _ => q⟩, T, wk, pre⟩
  · rw [tabsL, if_neg h0] at hI
    have h0' : decide (0 < maxL L) = false := decide_eq_false h0
    have hT := pre.full (by rw [wk.len])
    subst hT
    have ts := wk.tabSl fx.tbg.1 hn hm
    have hne : NE T := by
      intro r hr
      obtain ⟨a, ha, rfl⟩ := List.mem_iff_getElem.1 hr
      have := (wk.row a (by rw [← wk.len]; exact ha)).2.1
      rw [gi_nat ha] at this
      exact ⟨fun e => by rw [e] at this; simp at this; omega, by omega⟩
    simp (disch := (first | assumption | omega | (simp only [List.length_append, List.length_cons, List.length_nil]; omega))) only [↓wD,wU,Nat.reduceBEq,zx150,zx151,zx159,zx160,zx161,zx162,Nat.reduceAdd,Nat.reduceSub,Nat.reduceMul,Nat.reduceLeDiff,Nat.reduceLT,Nat.reduceEqDiff,Int.reduceAdd,Int.reduceSub,Int.reduceMul,Int.reduceNeg,Int.reduceLT,Int.reduceLE,Int.reduceEq,Int.reduceToNat,Int.cast_ofNat_Int,↓reduceIte, ld_of fx.mg.1, ld_of fx.lg.1, ld_of fx.yg.1, ld_of fx.tg.1, fx.rows.lenV, hrl, mx.call, h0']
    refine (tclone_ret ts hne (by omega)).toX fun u H1 hx hu => ?_
    have hmt : MT H.length H1 u T := MT.of hu fun b hb => hb.elim (fun h => h.elim) id
    have hsl := hmt.sl.low
    have hl1 := hx.1
    simp (disch := (first | assumption | omega | (simp only [List.length_append, List.length_cons, List.length_nil]; omega))) only [↓wD,wU,Nat.reduceBEq,zx150,zx151,zx159,zx160,zx161,zx162,Nat.reduceAdd,Nat.reduceSub,Nat.reduceMul,Nat.reduceLeDiff,Nat.reduceLT,Nat.reduceEqDiff,Int.reduceAdd,Int.reduceSub,Int.reduceMul,Int.reduceNeg,Int.reduceLT,Int.reduceLE,Int.reduceEq,Int.reduceToNat,Int.cast_ofNat_Int,↓reduceIte]
    refine callvI ((hI H1 (fun b => H.length ≤ b ∧ b < H1.length) [u] (hx.all _) ⟨u, rfl, ?_⟩ ?_).mono ?_)
    · simp only [List.append_nil]; exact hsl
    · exact fun b e => ⟨by omega, e.2, fun q => by have := hK b q; omega⟩
    · rintro v H2 ⟨hx2, hc⟩
      have kb : ∀ b, Kn K (fun b => H.length ≤ b ∧ b < H1.length) H1 H2 b → b < H2.length ∧ (b < H.length → K b) := by
        have hl2 := hx2.1
        rintro b (h | h | h)
        · exact ⟨by have := hK b h; omega, fun _ => h⟩
        · exact ⟨by omega, fun q => by omega⟩
        · exact ⟨h.2, fun q => by omega⟩
      have x12 : Kx (fun b => ¬ K b) H H2 := (hx.all _).trans hx2 fun b hb h q => q.elim h fun q => by omega
      have wk2 := wk.mono x12 fun b hb q => (kb b q).2 hb
      rcases hc with ⟨rfl, hc⟩ | ⟨rfl, hc⟩
      · simp (disch := (first | assumption | omega | (simp only [List.length_append, List.length_cons, List.length_nil]; omega))) only [↓wD,wU,Nat.reduceBEq,zx150,zx151,zx159,zx160,zx161,zx162,Nat.reduceAdd,Nat.reduceSub,Nat.reduceMul,Nat.reduceLeDiff,Nat.reduceLT,Nat.reduceEqDiff,Int.reduceAdd,Int.reduceSub,Int.reduceMul,Int.reduceNeg,Int.reduceLT,Int.reduceLE,Int.reduceEq,Int.reduceToNat,Int.cast_ofNat_Int,↓reduceIte]
        exact ⟨true, _, rfl, hc, x12.weak fun _ _ h => h.1, kb, T, wk2, pre⟩
      · simp (disch := (first | assumption | omega | (simp only [List.length_append, List.length_cons, List.length_nil]; omega))) only [↓wD,wU,Nat.reduceBEq,zx150,zx151,zx159,zx160,zx161,zx162,Nat.reduceAdd,Nat.reduceSub,Nat.reduceMul,Nat.reduceLeDiff,Nat.reduceLT,Nat.reduceEqDiff,Int.reduceAdd,Int.reduceSub,Int.reduceMul,Int.reduceNeg,Int.reduceLT,Int.reduceLE,Int.reduceEq,Int.reduceToNat,Int.cast_ofNat_Int,↓reduceIte]
        exact ⟨false, _, rfl, hc, x12.weak fun _ _ h => h.1, kb, T, wk2, pre⟩
end
end Go.Proofs.Ytflekaacffdakaa
namespace Go.Proofs.Ytflekaacffdakaa
open Go Go.AM Go.Proofs
theorem gi_app {α : Type} [Inhabited α] {xs ys : List α} {a : Nat} (h : a < xs.length) : gi (xs ++ ys) (a : Int) = gi xs (a : Int) := by
  rw [gi_nat h, gi_nat (by simp; omega), List.getElem_append_left h]
theorem gi_end {α : Type} [Inhabited α] {xs : List α} {x : α} : gi (xs ++ [x]) (xs.length : Int) = x := by
  rw [gi_nat (by simp)]; simp
theorem gi_out {α : Type} [Inhabited α] {xs : List α} {a : Nat} (h : xs.length ≤ a) : gi xs (a : Int) = default := by
  unfold gi; simp [h]
theorem Pre.row {T D : List (List Int)} {c : List Int} (h : Pre T D D.length c) (hl : (gi T (D.length : Int)).length = c.length) : Pre T (D ++ [c]) (D ++ [c]).length [] := by
  refine ⟨fun a ha => ?_, by simp⟩
  simp only [List.length_append, List.length_singleton] at ha
  by_cases e : a = D.length
  · subst e
    rw [gi_end]
    have := h.2
    rwa [← hl, List.take_length] at this
  · rw [gi_app (by omega)]
    exact h.1 a (by omega)
theorem Pre.unrow {T D : List (List Int)} {c : List Int} (h : Pre T (D ++ [c]) (D ++ [c]).length []) : Pre T D D.length c := by
  have hl : (D ++ [c]).length = D.length + 1 := by simp
  refine ⟨fun a ha => ?_, ?_⟩
  · have := h.1 a (by omega)
    rwa [gi_app ha] at this
  · have := h.1 D.length (by omega)
    rw [this, gi_end, List.take_length]
section
variable {lo B n m bm bl bY bt bg tb R lb : Nat} {y rv cv lv : AV} {rows cols : List Int}
theorem growB_nil {rs : List Int} (hlo : lo ≤ B) (hn : n ≤ 3) (hm : m ≤ 3) (hrl : rows.length = n) (hcl : cols.length = m) (hA : GrowA lo B n m bm bl bY bt bg tb R lb y rv cv lv rows cols rs) : GrowB lo B n m bm bl bY bt bg tb R lb y rv cv lv rows cols rs [] := by
  intro D c need L T K H Q hD hr hd hc hneed hL fx wk pre hK hB hI
  refine WpF.wrt rfl fn100 rfl ?_
  unfold f100A
  simp only [List.length_nil, Nat.add_zero] at hc
  have hT := wk.row D.length (by omega)
  have hll := wk.ll
  have e1 : decide ((D.length : Int) = n) = false := decide_eq_false (by omega)
  have e2 : decide ((c.length : Int) = m) = true := decide_eq_true (by omega)
  have hrv := fx.rows.lenV
  have hcv := fx.cols.lenV
  rw [hrl] at hrv
  rw [hcl] at hcv
  by_cases h0 : need > 0
  · rw [lines, if_pos h0] at hI
    have h0' : decide (0 < need) = true := decide_eq_true h0
    simp (disch := (first | assumption | omega | (simp only [List.length_append, List.length_cons, List.length_nil]; omega))) only [↓wD,wU,Nat.reduceBEq,zx150,zx151,zx159,zx160,zx161,zx162,Nat.reduceAdd,Nat.reduceSub,Nat.reduceMul,Nat.reduceLeDiff,Nat.reduceLT,Nat.reduceEqDiff,Int.reduceAdd,Int.reduceSub,Int.reduceMul,Int.reduceNeg,Int.reduceLT,Int.reduceLE,Int.reduceEq,Int.reduceToNat,Int.cast_ofNat_Int,↓reduceIte, ld_of fx.mg.1, ldn_of fx.mg.1, hrv, hcv, e1, e2, h0']
    exact ⟨true, K, rfl, hI, Kx.refl _ _, fun b q => ⟨hK b q, fun _ => q⟩, T, wk, pre⟩
  · rw [lines, if_neg h0] at hI
    have h0' : decide (0 < need) = false := decide_eq_false h0
    have hI' : Its E lo y B ArgT Q ((tabsL rs L).map ((D ++ [c]) ++ ·)) K H := by
      have eL : L.take c.length ++ subL [] [] = L := by rw [List.take_of_length_le (by omega)]; simp [subL]
      simp only [List.flatMap_cons, List.flatMap_nil, List.append_nil, eL] at hI
      simpa using hI
    have hl : (D ++ [c]).length = D.length + 1 := by simp
    have go := hA (D ++ [c]) L T K H Q (by omega) (by rw [hl]; exact hr) hL fx wk (pre.row (by rw [hT.2.1, hc])) hK hB hI'
    rw [hl] at go
    have fin : ∀ u H', GPost B n m R lb lv (D ++ [c]) [] L Q K H u H' → GPost B n m R lb lv D c L Q K H u H' := by
      rintro u H' ⟨ok, K', e, q1, q2, q3, T', q4, q5⟩
      exact ⟨ok, K', e, q1, q2, q3, T', q4, q5.unrow⟩
    by_cases h1 : D.length + 1 = n
    · have h1' : decide ((D.length : Int) + 1 = n) = true := decide_eq_true (by omega)
      rw [gi_out (by omega)] at go
      change WpF E lo _ [.i ((D.length + 1 : Nat) : Int), .i 0, .i 0, _, _, _, _, _] H _ at go
      rw [show ((D.length + 1 : Nat) : Int) = (D.length : Int) + 1 from by omega] at go
      simp (disch := (first | assumption | omega | (simp only [List.length_append, List.length_cons, List.length_nil]; omega))) only [↓wD,wU,Nat.reduceBEq,zx150,zx151,zx159,zx160,zx161,zx162,Nat.reduceAdd,Nat.reduceSub,Nat.reduceMul,Nat.reduceLeDiff,Nat.reduceLT,Nat.reduceEqDiff,Int.reduceAdd,Int.reduceSub,Int.reduceMul,Int.reduceNeg,Int.reduceLT,Int.reduceLE,Int.reduceEq,Int.reduceToNat,Int.cast_ofNat_Int,↓reduceIte, ld_of fx.mg.1, ldn_of fx.mg.1, ld_of fx.gg.1, hrv, hcv, e1, e2, h0', h1']
      refine callvI (WpV.fn (us := []) (vs := [_, _, _]) (go.mono ?_))
      intro u H' hp
      obtain ⟨ok, K', rfl, hq⟩ := fin u H' hp
      simp (disch := (first | assumption | omega | (simp only [List.length_append, List.length_cons, List.length_nil]; omega))) only [↓wD,wU,Nat.reduceBEq,zx150,zx151,zx159,zx160,zx161,zx162,Nat.reduceAdd,Nat.reduceSub,Nat.reduceMul,Nat.reduceLeDiff,Nat.reduceLT,Nat.reduceEqDiff,Int.reduceAdd,Int.reduceSub,Int.reduceMul,Int.reduceNeg,Int.reduceLT,Int.reduceLE,Int.reduceEq,Int.reduceToNat,Int.cast_ofNat_Int,↓reduceIte]
      exact ⟨ok, K', rfl, hq⟩
    · have h1' : decide ((D.length : Int) + 1 = n) = false := decide_eq_false (by omega)
      rw [show ((D.length + 1 : Nat) : Int) = (D.length : Int) + 1 from by omega] at go
      have rI := fx.rows.I
      rw [hrl] at rI
      simp (disch := (first | assumption | omega | (simp only [List.length_append, List.length_cons, List.length_nil]; omega))) only [↓wD,wU,Nat.reduceBEq,zx150,zx151,zx159,zx160,zx161,zx162,Nat.reduceAdd,Nat.reduceSub,Nat.reduceMul,Nat.reduceLeDiff,Nat.reduceLT,Nat.reduceEqDiff,Int.reduceAdd,Int.reduceSub,Int.reduceMul,Int.reduceNeg,Int.reduceLT,Int.reduceLE,Int.reduceEq,Int.reduceToNat,Int.cast_ofNat_Int,↓reduceIte, ld_of fx.mg.1, ldn_of fx.mg.1, ld_of fx.gg.1, hrv, hcv, e1, e2, h0', h1', rI]
      refine callvI (WpV.fn (us := []) (vs := [_, _, _]) (go.mono ?_))
      intro u H' hp
      obtain ⟨ok, K', rfl, hq⟩ := fin u H' hp
      simp (disch := (first | assumption | omega | (simp only [List.length_append, List.length_cons, List.length_nil]; omega))) only [↓wD,wU,Nat.reduceBEq,zx150,zx151,zx159,zx160,zx161,zx162,Nat.reduceAdd,Nat.reduceSub,Nat.reduceMul,Nat.reduceLeDiff,Nat.reduceLT,Nat.reduceEqDiff,Int.reduceAdd,Int.reduceSub,Int.reduceMul,Int.reduceNeg,Int.reduceLT,Int.reduceLE,Int.reduceEq,Int.reduceToNat,Int.cast_ofNat_Int,↓reduceIte]
      exact ⟨ok, K', rfl, hq⟩
end
end Go.Proofs.Ytflekaacffdakaa
namespace Go.Proofs.Ytflekaacffdakaa
open Go Go.AM Go.Proofs
/-- the items of one number of a row -/
def numL (rs cs : List Int) (D : List (List Int)) (c P : List Int) (cap need : Int) (x : Nat) : List (List (List Int)) :=
  (lines cs (need - (x : Int))).flatMap fun l => (tabsL rs ((P ++ [cap - (x : Int)]) ++ subL cs l)).map (fun z => D ++ ((c ++ [(x : Int)]) ++ l) :: z)
theorem lines_num {rs cs : List Int} {D : List (List Int)} {c P : List Int} {cap need : Int} : ((lines (cap :: cs) need).flatMap fun l => (tabsL rs (P ++ subL (cap :: cs) l)).map (fun z => D ++ (c ++ l) :: z)) = (List.range (min need cap + 1).toNat).flatMap (numL rs cs D c P cap need) := by
  simp only [lines, List.flatMap_assoc]
  congr 1
  funext x
  unfold numL
  rw [List.flatMap_map]
  congr 1
  funext l
  simp [subL]
theorem range_drop {N x : Nat} (h : x < N) : (List.range N).drop x = x :: (List.range N).drop (x + 1) := by
  rw [List.drop_eq_getElem_cons (by simpa using h)]; simp
theorem Pre.setT {T D : List (List Int)} {c : List Int} {x : Int} (h : Pre T D D.length c) (hl : D.length < T.length) (hc : c.length < (gi T (D.length : Int)).length) : Pre (T.set D.length ((gi T (D.length : Int)).set c.length x)) D D.length (c ++ [x]) := by
  have eg : ∀ a : Nat, gi (T.set D.length ((gi T (D.length : Int)).set c.length x)) (a : Int) = if D.length = a then (gi T (D.length : Int)).set c.length x else gi T (a : Int) := by
    intro a
    have := gi_set (xs := T) (i := (D.length : Int)) (j := (a : Int)) (x := (gi T (D.length : Int)).set c.length x) (by omega) (by omega) (by omega)
    rw [show ((D.length : Int)).toNat = D.length from rfl] at this
    rw [this]
    by_cases e : D.length = a
    · rw [if_pos e, if_pos (by omega)]
    · rw [if_neg e, if_neg (by omega)]
  refine ⟨fun a ha => ?_, ?_⟩
  · rw [eg, if_neg (by omega)]
    exact h.1 a ha
  · rw [eg, if_pos rfl]
    have h2 := h.2
    apply List.ext_getElem
    · simp; omega
    · intro i h3 h4
      simp only [List.length_append, List.length_singleton] at h4
      rw [List.getElem_take, List.getElem_set]
      by_cases e : c.length = i
      · subst e
        rw [if_pos rfl, List.getElem_append_right (Nat.le_refl _)]; simp
      · rw [if_neg e, List.getElem_append_left (by omega)]
        have h5 : i < ((gi T (D.length : Int)).take c.length).length := by rw [h2]; omega
        have : ((gi T (D.length : Int)).take c.length)[i] = c[i]'(by omega) := by simp only [h2]
        rw [List.getElem_take] at this
        exact this
theorem Pre.cut {T D : List (List Int)} {c : List Int} {x : Int} (h : Pre T D D.length (c ++ [x])) : Pre T D D.length c := by
  refine ⟨h.1, ?_⟩
  have := congrArg (List.take c.length) h.2
  rw [List.take_take, List.take_append_of_le_length (Nat.le_refl _), List.take_length] at this
  rwa [show min c.length (c ++ [x]).length = c.length by simp] at this
theorem left_drop {L cs : List Int} {j : Nat} {cap : Int} (h : L.drop j = cap :: cs) : j < L.length ∧ gi L (j : Int) = cap ∧ L.drop (j + 1) = cs := by
  have hj : j < L.length := by
    rcases Nat.lt_or_ge j L.length with h1 | h1
    · exact h1
    · rw [List.drop_of_length_le h1] at h; cases h
  rw [List.drop_eq_getElem_cons hj] at h
  injection h with h1 h2
  exact ⟨hj, by rw [gi_nat hj]; exact h1, h2⟩
theorem left_set {L : List Int} {j : Nat} {x : Int} (hj : j < L.length) : (L.set j x).drop (j + 1) = L.drop (j + 1) ∧ (L.set j x).take (j + 1) = L.take j ++ [x] := by
  refine ⟨by rw [List.drop_set_of_lt (by omega)], ?_⟩
  rw [List.take_succ_eq_append_getElem (by simpa using hj), List.take_set_of_le (Nat.le_refl _)]
  simp
theorem left_back {L : List Int} {j : Nat} {x y : Int} (hj : j < L.length) (h : y = gi L (j : Int)) : (L.set j x).set j y = L := by
  rw [List.set_set, h, gi_nat hj]; simp
end Go.Proofs.Ytflekaacffdakaa
namespace Go.Proofs.Ytflekaacffdakaa
open Go Go.AM Go.Proofs
section
variable {lo B n m bm bl bY bt bg tb R lb : Nat} {y rv cv lv : AV} {rows cols : List Int}
theorem growB_cons {rs cs : List Int} {cap : Int} (hlo : lo ≤ B) (hn : n ≤ 3) (hm : m ≤ 3) (hrl : rows.length = n) (hcl : cols.length = m) (hB' : GrowB lo B n m bm bl bY bt bg tb R lb y rv cv lv rows cols rs cs) : GrowB lo B n m bm bl bY bt bg tb R lb y rv cv lv rows cols rs (cap :: cs) := by
  intro D c need L T K H Q hD hr hd hc hneed hL fx wk pre hK hB hI
  refine WpF.wrt rfl fn100 rfl ?_
  unfold f100A
  rw [lines_num] at hI
  simp only [List.length_cons] at hc
  obtain ⟨hjl, hcap, hcs⟩ := left_drop hd
  have hll := wk.ll
  have hcm := hL _ (mem_gi hjl)
  rw [hcap] at hcm
  have e1 : decide ((D.length : Int) = n) = false := decide_eq_false (by omega)
  have e2 : decide ((c.length : Int) = m) = false := decide_eq_false (by omega)
  have hrv := fx.rows.lenV
  have hcv := fx.cols.lenV
  rw [hrl] at hrv
  rw [hcl] at hcv
  have lI := wk.leftSl.I
  have hmn : 0 ≤ min need cap ∧ min need cap ≤ 16 := by omega
  obtain ⟨N, hN⟩ : ∃ N : Nat, (min need cap + 1).toNat = N := ⟨_, rfl⟩
  have hN' : min need cap + 1 = (N : Int) := by omega
  rw [hN] at hI
  have hNn : ∀ x : Nat, x < N → (x : Int) ≤ need ∧ (x : Int) ≤ cap := by omega
  simp (disch := (first | assumption | omega | (simp only [List.length_append, List.length_cons, List.length_nil]; omega))) only [↓wD,wU,Nat.reduceBEq,zx150,zx151,zx159,zx160,zx161,zx162,Nat.reduceAdd,Nat.reduceSub,Nat.reduceMul,Nat.reduceLeDiff,Nat.reduceLT,Nat.reduceEqDiff,Int.reduceAdd,Int.reduceSub,Int.reduceMul,Int.reduceNeg,Int.reduceLT,Int.reduceLE,Int.reduceEq,Int.reduceToNat,Int.cast_ofNat_Int,↓reduceIte, ld_of fx.mg.1, ldn_of fx.mg.1, ld_of fx.lg.1, hrv, hcv, e1, e2, lI, hcap, hN']
  refine Wp.for N (fun x a H1 => a 0 = .i D.length ∧ a 1 = .i c.length ∧ a 2 = .i need ∧ a 3 = .p bm 0 ∧ a 4 = .p bl 0 ∧ a 5 = .p bY 0 ∧ a 6 = .p bt 0 ∧ a 7 = .p bg 0 ∧ a 63 = .i N ∧ a 64 = .i x ∧ ∃ K1 T1, Its E lo y B ArgT Q (((List.range N).drop x).flatMap (numL rs cs D c (L.take c.length) cap need)) K1 H1 ∧ Kx (fun b => ¬ K b ∧ ¬ Wb n R lb b) H H1 ∧ (∀ b, K1 b → b < H1.length ∧ (b < H.length → K b)) ∧ Wk B K1 H1 lv n m R lb T1 L ∧ Pre T1 D D.length c) ?_ ?_
  · rintro x a H1 hx ⟨a0, a1, a2, a3, a4, a5, a6, a7, a63, a64, K1, T1, hI1, x1, hK1, wk1, pre1⟩ ih
    simp (disch := (first | assumption | omega | (simp only [List.length_append, List.length_cons, List.length_nil]; omega))) only [↓wD,wU,Nat.reduceBEq,zx150,zx151,zx159,zx160,zx161,zx162,Nat.reduceAdd,Nat.reduceSub,Nat.reduceMul,Nat.reduceLeDiff,Nat.reduceLT,Nat.reduceEqDiff,Int.reduceAdd,Int.reduceSub,Int.reduceMul,Int.reduceNeg,Int.reduceLT,Int.reduceLE,Int.reduceEq,Int.reduceToNat,Int.cast_ofNat_Int,↓reduceIte, a0, a1, a2, a3, a4, a5, a6, a7, a63, a64]
    refine condP_split (fun hlt => ?_) (fun hlt => ?_)
    · have hx' : x < N := by omega
      obtain ⟨xn, xc⟩ := hNn x hx'
      rw [range_drop hx', List.flatMap_cons] at hI1
      have hI2 := Its.append hI1
      have fx1 := fx.mono x1 fun b h q => (hK1 b q).2 h
      have hrow := wk1.row D.length (by omega)
      obtain ⟨H2, hst, wk2, x2, l2⟩ := wk1.setT (lo := lo) (i := D.length) (j := c.length) (x := (x : Int)) (by omega) (by omega) hlo
      have x12 : Kx (fun b => ¬ K1 b ∧ ¬ Wb n R lb b) H1 H2 := x2.weak fun b _ h e => h.2 (.inr (by omega))
      have fx2 := fx1.mono x12 fun b _ q => q
      have iT := zx178 (b := tb) (m := n) (c := some n) (k := D.length) (by omega)
      have iR := zx178 (b := R + D.length) (m := m) (c := some m) (k := c.length) (by omega)
      have tI := ld_of fx1.tbg.1 (o := D.length)
      rw [show (((List.range n).map fun a : Nat => AV.s 1 (R + a) 0 m (some m))[D.length]?) = some (.s 1 (R + D.length) 0 m (some m)) by rw [List.getElem?_map, List.getElem?_range (by omega)]; rfl] at tI
      have lI2 := wk2.leftSl.I
      simp (disch := (first | assumption | omega | (simp only [List.length_append, List.length_cons, List.length_nil]; omega))) only [↓wD,wU,Nat.reduceBEq,zx150,zx151,zx159,zx160,zx161,zx162,Nat.reduceAdd,Nat.reduceSub,Nat.reduceMul,Nat.reduceLeDiff,Nat.reduceLT,Nat.reduceEqDiff,Int.reduceAdd,Int.reduceSub,Int.reduceMul,Int.reduceNeg,Int.reduceLT,Int.reduceLE,Int.reduceEq,Int.reduceToNat,Int.cast_ofNat_Int,↓reduceIte, a0, a1, a2, a3, a4, a5, a6, a7, a63, a64, ld_of fx1.tg.1, iT, tI, iR, hst, ld_of fx2.lg.1, lI2, hcap]
      refine wk2.setL (j := c.length) (by omega) hlo fun H3 wk3 x3 l3 => ?_
      have x13 : Kx (fun b => ¬ K1 b ∧ ¬ Wb n R lb b) H1 H3 := x12.trans x3 fun b _ h e => h.2 (.inl e)
      have fx3 := fx1.mono x13 fun b _ q => q
      have hcl1 : (c ++ [(x : Int)]).length = c.length + 1 := by simp
      obtain ⟨ls1, ls2⟩ := left_set (L := L) (j := c.length) (x := cap - (x : Int)) hjl
      have hl1 := x1.1
      have pre3 := pre1.setT (x := (x : Int)) (by rw [wk1.len]; omega) (by rw [hrow.2.1]; omega)
      have x13' : Kx (fun b => b < B ∨ K1 b) H1 H3 := ((x2.weak (q := fun b => b ≠ R + D.length ∧ b ≠ lb) fun _ _ h => h.1).trans x3 fun b _ h => h.2) |>.weak fun b _ h => ⟨fun e => by
          have := wk1.lo
          rcases h with h | h
          · omega
          · exact hrow.2.2 (e ▸ h), fun e => by
          have := wk1.lo
          rcases h with h | h
          · omega
          · exact wk1.left_lt.2 (e ▸ h)⟩
      have go := hB' D (c ++ [(x : Int)]) (need - x) (L.set c.length (cap - x)) _ K1 H3 _ hD hr (by rw [hcl1, ls1]; exact hcs) (by rw [hcl1]; omega) (by omega) (by
        intro z hz
        rcases List.mem_or_eq_of_mem_set hz with h | h
        · exact hL z h
        · omega) fx3 wk3 pre3 (fun b q => by have := (hK1 b q).1; omega) (by omega) (by
          rw [hcl1, ls2]
          exact hI2.keep x13')
      rw [hcl1, show ((c.length + 1 : Nat) : Int) = (c.length : Int) + 1 from by omega] at go
      simp (disch := (first | assumption | omega | (simp only [List.length_append, List.length_cons, List.length_nil]; omega))) only [↓wD,wU,Nat.reduceBEq,zx150,zx151,zx159,zx160,zx161,zx162,Nat.reduceAdd,Nat.reduceSub,Nat.reduceMul,Nat.reduceLeDiff,Nat.reduceLT,Nat.reduceEqDiff,Int.reduceAdd,Int.reduceSub,Int.reduceMul,Int.reduceNeg,Int.reduceLT,Int.reduceLE,Int.reduceEq,Int.reduceToNat,Int.cast_ofNat_Int,↓reduceIte, a0, a1, a2, a3, a4, a5, a6, a7, a63, a64, ld_of fx3.gg.1]
      refine callvI (WpV.fn (us := []) (vs := [_, _, _]) (go.mono ?_))
      rintro u' H4 ⟨ok, K4, rfl, hq, x34, hK4, T4, wk4, pre4⟩
      have l34 := x34.1
      have fx4 := fx3.mono x34 fun b h q => (hK4 b q).2 h
      have lI4 := wk4.leftSl.I
      rw [List.length_set] at lI4
      have eg : gi (L.set c.length (cap - (x : Int))) (c.length : Int) = cap - x := by rw [gi_nat (by simpa using hjl)]; simp
      simp (disch := (first | assumption | omega | (simp only [List.length_append, List.length_cons, List.length_nil]; omega))) only [↓wD,wU,Nat.reduceBEq,zx150,zx151,zx159,zx160,zx161,zx162,Nat.reduceAdd,Nat.reduceSub,Nat.reduceMul,Nat.reduceLeDiff,Nat.reduceLT,Nat.reduceEqDiff,Int.reduceAdd,Int.reduceSub,Int.reduceMul,Int.reduceNeg,Int.reduceLT,Int.reduceLE,Int.reduceEq,Int.reduceToNat,Int.cast_ofNat_Int,↓reduceIte, a0, a1, a2, a3, a4, a5, a6, a7, a63, a64, ld_of fx4.lg.1, lI4, eg]
      refine wk4.setL (j := c.length) (by omega) hlo fun H5 wk5 x5 l5 => ?_
      rw [left_back hjl (by rw [hcap]; omega)] at wk5
      have x15 : Kx (fun b => ¬ K b ∧ ¬ Wb n R lb b) H H5 := ((x1.trans x13 fun b hb h => ⟨fun q => h.1 ((hK1 b q).2 hb), h.2⟩).trans x34 fun b hb h => ⟨fun q => h.1 ((hK1 b q).2 hb), h.2⟩).trans x5 fun b hb h e => h.2 (.inl e)
      have kb : ∀ b, K4 b → b < H5.length ∧ (b < H.length → K b) := fun b q => ⟨by have := (hK4 b q).1; omega, fun hb => (hK1 b ((hK4 b q).2 (by omega))).2 hb⟩
      have x45 : Kx (fun b => b < B ∨ K4 b) H4 H5 := x5.weak fun b _ h e => by
        have := wk4.lo
        rcases h with h | h
        · omega
        · exact wk4.left_lt.2 (e ▸ h)
      cases ok with
      | true =>
        have hI5 := (hq H5 x45).1 rfl
        clear hq go hI hI1 hI2
        simp (disch := (first | assumption | omega | (simp only [List.length_append, List.length_cons, List.length_nil]; omega))) only [↓wD,wU,Nat.reduceBEq,zx150,zx151,zx159,zx160,zx161,zx162,Nat.reduceAdd,Nat.reduceSub,Nat.reduceMul,Nat.reduceLeDiff,Nat.reduceLT,Nat.reduceEqDiff,Int.reduceAdd,Int.reduceSub,Int.reduceMul,Int.reduceNeg,Int.reduceLT,Int.reduceLE,Int.reduceEq,Int.reduceToNat,Int.cast_ofNat_Int,↓reduceIte, a0, a1, a2, a3, a4, a5, a6, a7, a63, a64]
        refine (ih hx').go ?_
        simp (disch := (first | assumption | omega | (simp only [List.length_append, List.length_cons, List.length_nil]; omega))) only [↓wD,wU,Nat.reduceBEq,zx150,zx151,zx159,zx160,zx161,zx162,Nat.reduceAdd,Nat.reduceSub,Nat.reduceMul,Nat.reduceLeDiff,Nat.reduceLT,Nat.reduceEqDiff,Int.reduceAdd,Int.reduceSub,Int.reduceMul,Int.reduceNeg,Int.reduceLT,Int.reduceLE,Int.reduceEq,Int.reduceToNat,Int.cast_ofNat_Int,↓reduceIte, a0, a1, a2, a3, a4, a5, a6, a7, a63, a64]
        exact ⟨K4, T4, hI5, x15, kb, wk5, pre4.cut⟩
      | false =>
        have hq5 : ∀ H6, Kx (fun b => b < B ∨ K4 b) H5 H6 → Q false K4 H6 := fun H6 h6 => (hq H6 (x45.trans h6 fun _ _ h => h)).2 rfl
        simp (disch := (first | assumption | omega | (simp only [List.length_append, List.length_cons, List.length_nil]; omega))) only [↓wD,wU,Nat.reduceBEq,zx150,zx151,zx159,zx160,zx161,zx162,Nat.reduceAdd,Nat.reduceSub,Nat.reduceMul,Nat.reduceLeDiff,Nat.reduceLT,Nat.reduceEqDiff,Int.reduceAdd,Int.reduceSub,Int.reduceMul,Int.reduceNeg,Int.reduceLT,Int.reduceLE,Int.reduceEq,Int.reduceToNat,Int.cast_ofNat_Int,↓reduceIte, a0, a1, a2, a3, a4, a5, a6, a7, a63, a64]
        exact ⟨false, K4, rfl, hq5, x15, kb, T4, wk5, pre4.cut⟩
    · simp (disch := (first | assumption | omega | (simp only [List.length_append, List.length_cons, List.length_nil]; omega))) only [↓wD,wU,Nat.reduceBEq,zx150,zx151,zx159,zx160,zx161,zx162,Nat.reduceAdd,Nat.reduceSub,Nat.reduceMul,Nat.reduceLeDiff,Nat.reduceLT,Nat.reduceEqDiff,Int.reduceAdd,Int.reduceSub,Int.reduceMul,Int.reduceNeg,Int.reduceLT,Int.reduceLE,Int.reduceEq,Int.reduceToNat,Int.cast_ofNat_Int,↓reduceIte]
      obtain rfl : x = N := by omega
      rw [List.drop_of_length_le (by simp)] at hI1
      exact ⟨true, K1, rfl, hI1, x1, hK1, T1, wk1, pre1⟩
  · simp (disch := (first | assumption | omega | (simp only [List.length_append, List.length_cons, List.length_nil]; omega))) only [↓wD,wU,Nat.reduceBEq,zx150,zx151,zx159,zx160,zx161,zx162,Nat.reduceAdd,Nat.reduceSub,Nat.reduceMul,Nat.reduceLeDiff,Nat.reduceLT,Nat.reduceEqDiff,Int.reduceAdd,Int.reduceSub,Int.reduceMul,Int.reduceNeg,Int.reduceLT,Int.reduceLE,Int.reduceEq,Int.reduceToNat,Int.cast_ofNat_Int,↓reduceIte]
    exact ⟨K, T, hI, Kx.refl _ _, fun b q => ⟨hK b q, fun _ => q⟩, wk, pre⟩
theorem grow_all (hlo : lo ≤ B) (hn : n ≤ 3) (hm : m ≤ 3) (hm1 : 1 ≤ m) (hrl : rows.length = n) (hcl : cols.length = m) (hrows : ∀ x ∈ rows, 0 ≤ x ∧ x ≤ 16) : ∀ rs, GrowA lo B n m bm bl bY bt bg tb R lb y rv cv lv rows cols rs := by
  intro rs
  induction rs with
  | nil => exact growA_nil hlo hn hm hm1 hrl
  | cons r rs ih =>
    have hB : ∀ cs, GrowB lo B n m bm bl bY bt bg tb R lb y rv cv lv rows cols rs cs := by
      intro cs
      induction cs with
      | nil => exact growB_nil hlo hn hm hrl hcl ih
      | cons cap cs ihc => exact growB_cons hlo hn hm hrl hcl ihc
    intro D L T K H Q hD hr hL fx wk pre hK hB' hI
    obtain ⟨q1, q2, q3⟩ := left_drop hr
    have h4 := hrows _ (mem_gi q1)
    have := hB L D [] (gi rows (D.length : Int)) L T K H Q (by simp at hD; omega) q3 (by simp) (by simp [wk.ll]) h4 hL fx wk pre hK hB' (by
      rw [q2]
      simp only [tabsL, List.map_flatMap, List.map_map] at hI
      simpa [Function.comp_def] using hI)
    exact this
end
end Go.Proofs.Ytflekaacffdakaa
namespace Go.Proofs.Ytflekaacffdakaa
open Go Go.AM Go.Proofs
/-- the rows that are laid already -/
def laidC (n m R i : Nat) : List AV := (List.range n).map fun a : Nat => if a < i then .s 1 (R + a) 0 m (some m) else .nils
theorem laidC_0 {n m R : Nat} : laidC n m R 0 = reps n [AV.nils] := by
  rw [reps_z]
  apply List.ext_getElem (by simp [laidC])
  intro i h1 h2
  simp [laidC]
theorem laidC_n {n m R : Nat} : laidC n m R n = (List.range n).map fun a : Nat => .s 1 (R + a) 0 m (some m) := by
  unfold laidC
  apply map_range_congr
  intro a ha
  rw [if_pos ha]
theorem laidC_set {n m R i : Nat} (hi : i < n) : (laidC n m R i).set i (.s 1 (R + i) 0 m (some m)) = laidC n m R (i + 1) := by
  unfold laidC
  rw [set_map_range]
  apply map_range_congr
  intro a ha
  by_cases e : a = i
  · subst e
    rw [if_pos rfl, if_pos (by omega)]
  · rw [if_neg e]
    by_cases h : a < i
    · rw [if_pos h, if_pos (by omega)]
    · rw [if_neg h, if_neg (by omega)]
theorem all_it {lo : Nat} {y rv cv : AV} {rows cols : List Int} {K : Nat → Prop} {H : Heap} {Q : Bool → (Nat → Prop) → Heap → Prop} (hlo : lo ≤ H.length) (hy : y.cells = [y] ∧ y.one = true)
    (hr : Sl (fun b => ¬ K b) H rv rows) (hc : Sl (fun b => ¬ K b) H cv cols) (hn1 : 1 ≤ rows.length) (hn : rows.length ≤ 3) (hm1 : 1 ≤ cols.length) (hm : cols.length ≤ 3) (hrows : ∀ x ∈ rows, 0 ≤ x ∧ x ≤ 16) (hcols : ∀ x ∈ cols, 0 ≤ x ∧ x ≤ 16) (hK : ∀ b, K b → b < H.length)
    (hI : Its E lo y H.length ArgT Q (tabsL rows cols) K H) : WpF E lo 80 [.ag [rv, cv], y] H fun _ H' => ∃ ok K', Q ok K' H' := by
  refine WpF.wrt rfl fn80 rfl ?_
  unfold f80A
  obtain ⟨n, en⟩ : ∃ n, rows.length = n := ⟨_, rfl⟩
  obtain ⟨m, em⟩ : ∃ m, cols.length = m := ⟨_, rfl⟩
  rw [en] at hn1 hn
  rw [em] at hm1 hm
  have hrv := hr.lenV
  rw [en] at hrv
  have hcv := hc.lenV
  rw [em] at hcv
  have k1 : mksliceV 1 24 [AV.nils] (.i (n : Int)) = some n := zx177 (by omega) (by omega)
  have k2 : mksliceV 1 8 [AV.int .i64 0] (.i (m : Int)) = some m := zx176 (by omega) (by omega)
  simp (disch := (first | assumption | omega | (simp only [List.length_append, List.length_cons, List.length_nil]; omega))) only [↓wD,wU,Nat.reduceBEq,zx150,zx151,zx159,zx160,zx161,zx162,Nat.reduceAdd,Nat.reduceSub,Nat.reduceMul,Nat.reduceLeDiff,Nat.reduceLT,Nat.reduceEqDiff,Int.reduceAdd,Int.reduceSub,Int.reduceMul,Int.reduceNeg,Int.reduceLT,Int.reduceLE,Int.reduceEq,Int.reduceToNat,Int.cast_ofNat_Int,↓reduceIte, hr.cellsV, hc.cellsV, hy.1, hy.2, hrv, k1]
  refine Wp.for n (fun i a H1 => a 2 = .p H.length 0 ∧ a 3 = .p (H.length + 1) 0 ∧ a 4 = .p (H.length + 3) 0 ∧ a 13 = .i n ∧ a 14 = .i i ∧ H1.length = H.length + 4 + i ∧ H1[H.length]? = some (.cells [rv, cv]) ∧ H1[H.length + 1]? = some (.cells [y]) ∧ H1[H.length + 2]? = some (.cells (laidC n m (H.length + 4) i)) ∧ H1[H.length + 3]? = some (.cells [.s 1 (H.length + 2) 0 n (some n)]) ∧ (∀ j, j < i → H1[H.length + 4 + j]? = some (.cells (reps m [AV.int .i64 0]))) ∧ Kx (fun b => b < H.length) H H1) ?_ ?_
  · rintro i a H1 hi ⟨a2, a3, a4, a13, a14, l1, g1, g2, g3, g4, g5, x1⟩ ih
    simp (disch := (first | assumption | omega | (simp only [List.length_append, List.length_cons, List.length_nil]; omega))) only [↓wD,wU,Nat.reduceBEq,zx150,zx151,zx159,zx160,zx161,zx162,Nat.reduceAdd,Nat.reduceSub,Nat.reduceMul,Nat.reduceLeDiff,Nat.reduceLT,Nat.reduceEqDiff,Int.reduceAdd,Int.reduceSub,Int.reduceMul,Int.reduceNeg,Int.reduceLT,Int.reduceLE,Int.reduceEq,Int.reduceToNat,Int.cast_ofNat_Int,↓reduceIte, a2, a3, a4, a13, a14]
    refine condP_split (fun hlt => ?_) (fun hlt => ?_)
    · have hi' : i < n := by omega
      have ia := zx178 (b := H.length + 2) (m := n) (c := some n) (k := i) hi'
      have hst : st lo (H1 ++ [Blk.cells (reps m [AV.int .i64 0])]) (H.length + 2) i [.s 1 H1.length 0 m (some m)] = some ((H1 ++ [Blk.cells (reps m [AV.int .i64 0])]).set (H.length + 2) (.cells (laidC n m (H.length + 4) (i + 1)))) := by
        rw [st_of (cs := laidC n m (H.length + 4) i) (by rw [List.getElem?_append_left (by omega)]; exact g3) (by omega) (by simp [laidC]; omega), ← laidC_set hi', l1]
        simp [wr]
      simp (disch := (first | assumption | omega | (simp only [List.length_append, List.length_cons, List.length_nil]; omega))) only [↓wD,wU,Nat.reduceBEq,zx150,zx151,zx159,zx160,zx161,zx162,Nat.reduceAdd,Nat.reduceSub,Nat.reduceMul,Nat.reduceLeDiff,Nat.reduceLT,Nat.reduceEqDiff,Int.reduceAdd,Int.reduceSub,Int.reduceMul,Int.reduceNeg,Int.reduceLT,Int.reduceLE,Int.reduceEq,Int.reduceToNat,Int.cast_ofNat_Int,↓reduceIte, a2, a3, a4, a13, a14, ld_of g4, ld_of g1, hcv, k2, ia, hst]
      refine (ih hi').go ?_
      simp (disch := (first | assumption | omega | (simp only [List.length_append, List.length_cons, List.length_nil]; omega))) only [↓wD,wU,Nat.reduceBEq,zx150,zx151,zx159,zx160,zx161,zx162,Nat.reduceAdd,Nat.reduceSub,Nat.reduceMul,Nat.reduceLeDiff,Nat.reduceLT,Nat.reduceEqDiff,Int.reduceAdd,Int.reduceSub,Int.reduceMul,Int.reduceNeg,Int.reduceLT,Int.reduceLE,Int.reduceEq,Int.reduceToNat,Int.cast_ofNat_Int,↓reduceIte, a2, a3, a4, a13, a14]
      have hge : ∀ b, b < H1.length → b ≠ H.length + 2 → ((H1 ++ [Blk.cells (reps m [AV.int .i64 0])]).set (H.length + 2) (Blk.cells (laidC n m (H.length + 4) (i + 1))))[b]? = H1[b]? := fun b hb hne => by rw [List.getElem?_set_ne (Ne.symm hne), List.getElem?_append_left hb]
      refine ⟨by simp; omega, by rw [hge _ (by omega) (by omega)]; exact g1, by rw [hge _ (by omega) (by omega)]; exact g2, by rw [List.getElem?_set_self (by simp; omega)], by rw [hge _ (by omega) (by omega)]; exact g4, fun j hj => ?_, (x1.app' _).set' (fun h => by omega) _⟩
      by_cases e : j = i
      · subst e
        rw [List.getElem?_set_ne (by omega), ← l1]
        simp
      · rw [hge _ (by omega) (by omega)]
        exact g5 j (by omega)
    · obtain rfl : n = i := by omega
      simp (disch := (first | assumption | omega | (simp only [List.length_append, List.length_cons, List.length_nil]; omega))) only [↓wD,wU,Nat.reduceBEq,zx150,zx151,zx159,zx160,zx161,zx162,Nat.reduceAdd,Nat.reduceSub,Nat.reduceMul,Nat.reduceLeDiff,Nat.reduceLT,Nat.reduceEqDiff,Int.reduceAdd,Int.reduceSub,Int.reduceMul,Int.reduceNeg,Int.reduceLT,Int.reduceLE,Int.reduceEq,Int.reduceToNat,Int.cast_ofNat_Int,↓reduceIte, a2, a3, a4, a13, a14, ld_of g1]
      refine (clone_ret ((hc.low.weak (q := fun b => b < H.length ∧ ¬ K b) fun b h => ⟨h.2, h.1⟩).kp (x1.weak fun b _ h => h.1).kp) (by omega)).toFX fun lv H2 x2 hlv => ?_
      have hne : cols ≠ [] := fun e => by rw [e] at em; simp at em; omega
      obtain ⟨lb, elb, hor⟩ := OR.of hlv hne
      have hlb := hlv.blkp elb
      have l2 := x2.1
      have rI := ((hr.low.weak (q := fun b => b < H.length ∧ ¬ K b) fun b h => ⟨h.2, h.1⟩).kp (x1.weak fun b _ h => h.1).kp).kp (x2.all _).kp
      clear ih
      obtain ⟨H3, eH3⟩ : ∃ H3, H2 ++ [Blk.cells [lv]] ++ [Blk.cells [AV.fn 100 [] [.p H.length 0, .p H2.length 0, .p (H.length + 1) 0, .p (H.length + 3) 0, .p (H2.length + 1) 0]]] = H3 := ⟨_, rfl⟩
      have x23 : Kx (fun _ => True) H2 H3 := by rw [← eH3]; exact (Kx.app _ _ _).app' _
      have x13 : Kx (fun _ => True) H1 H3 := x2.trans x23 fun _ _ _ => trivial
      have n3 : H3.length = H2.length + 2 := by rw [← eH3]; simp
      have f1 := x13.get trivial g1
      have f2 := x13.get trivial g2
      have f3 := x13.get trivial g3
      have f4 := x13.get trivial g4
      have f5 : H3[H2.length]? = some (.cells [lv]) := by rw [← eH3]; simp [List.getElem?_append]
      have f6 : H3[H2.length + 1]? = some (.cells [AV.fn 100 [] [.p H.length 0, .p H2.length 0, .p (H.length + 1) 0, .p (H.length + 3) 0, .p (H2.length + 1) 0]]) := by rw [← eH3]; simp [List.getElem?_append]
      rw [laidC_n] at f3
      have rI3 := (rI.kp (x23.all _).kp).I
      rw [en] at rI3
      simp (disch := (first | assumption | omega | (simp only [List.length_append, List.length_cons, List.length_nil]; omega))) only [↓wD,wU,Nat.reduceBEq,zx150,zx151,zx159,zx160,zx161,zx162,Nat.reduceAdd,Nat.reduceSub,Nat.reduceMul,Nat.reduceLeDiff,Nat.reduceLT,Nat.reduceEqDiff,Int.reduceAdd,Int.reduceSub,Int.reduceMul,Int.reduceNeg,Int.reduceLT,Int.reduceLE,Int.reduceEq,Int.reduceToNat,Int.cast_ofNat_Int,↓reduceIte, a2, a3, a4, hlv.cellsV, eH3, ld_of f1, ld_of f6, rI3]
      have hnw : ∀ b, b < H.length + 4 ∨ H1.length + 0 < b ∧ H2.length ≤ b → ¬ Wb n (H.length + 4) lb b := by
        rintro b h (e | e) <;> omega
      have hkH : ∀ b, H.length ≤ b → ¬ K b := fun b h q => by have := hK b q; omega
      have hlow : ∀ {v : AV} {xs : List Int}, Sl (fun b => ¬ K b) H v xs → Sl (fun b => ¬ K b ∧ ¬ Wb n (H.length + 4) lb b) H3 v xs := fun {v xs} h =>
        ((h.low.weak (q := fun b => b < H.length ∧ ¬ K b) fun b h => ⟨h.2, h.1⟩).kp ((x1.trans x13 fun _ _ _ => trivial).weak fun b _ h => h.1).kp).weak fun b h => ⟨h.2, hnw b (.inl (by omega))⟩
      have fx : Fx K H3 y rv cv lv rows cols n m H.length H2.length (H.length + 1) (H.length + 3) (H2.length + 1) (H.length + 2) (H.length + 4) lb :=
        ⟨⟨f1, hkH _ (by omega), hnw _ (by omega)⟩, ⟨f5, hkH _ (by omega), hnw _ (by omega)⟩, ⟨f2, hkH _ (by omega), hnw _ (by omega)⟩, ⟨f4, hkH _ (by omega), hnw _ (by omega)⟩, ⟨f3, hkH _ (by omega), hnw _ (by omega)⟩, ⟨f6, hkH _ (by omega), hnw _ (by omega)⟩, hlow hr, hlow hc⟩
      have hgr : ∀ a : Nat, a < n → gi (List.replicate n (List.replicate m (0 : Int))) (a : Int) = List.replicate m 0 := fun a ha => by rw [gi_nat (by simpa using ha)]; simp
      have wk : Wk H.length K H3 lv n m (H.length + 4) lb (List.replicate n (List.replicate m (0 : Int))) cols :=
        ⟨by simp, fun j hj => by rw [hgr j hj]; exact ⟨by rw [x13.get trivial (g5 j hj), reps_z]; simp, by simp, hkH _ (by omega)⟩, Rep.mono hor (x23.all _).kp fun b h => hkH b (by omega), em, by omega⟩
      have go := grow_all (y := y) hlo hn hm hm1 en em hrows rows [] cols _ K H3 Q (by simpa using en) (by simp) hcols fx wk ⟨fun a ha => by simp at ha, by simp⟩ (fun b q => by have := hK b q; omega) (by omega) (by
        have : (tabsL rows cols).map ([] ++ ·) = tabsL rows cols := by simp
        rw [this]
        exact hI.keep ((x1.trans x13 fun _ _ _ => trivial).weak fun b hb h => hb))
      change WpF E lo _ [.i 0, .i 0, .i (gi rows 0), _, _, _, _, _] H3 _ at go
      refine callvI (WpV.fn (us := []) (vs := [_, _, _]) (go.mono ?_))
      rintro u' H4 ⟨ok, K4, rfl, hq, _⟩
      simp (disch := (first | assumption | omega | (simp only [List.length_append, List.length_cons, List.length_nil]; omega))) only [↓wD,wU,Nat.reduceBEq,zx150,zx151,zx159,zx160,zx161,zx162,Nat.reduceAdd,Nat.reduceSub,Nat.reduceMul,Nat.reduceLeDiff,Nat.reduceLT,Nat.reduceEqDiff,Int.reduceAdd,Int.reduceSub,Int.reduceMul,Int.reduceNeg,Int.reduceLT,Int.reduceLE,Int.reduceEq,Int.reduceToNat,Int.cast_ofNat_Int,↓reduceIte]
      exact ⟨ok, K4, hq H4 (Kx.refl _ _)⟩
  · simp (disch := (first | assumption | omega | (simp only [List.length_append, List.length_cons, List.length_nil]; omega))) only [↓wD,wU,Nat.reduceBEq,zx150,zx151,zx159,zx160,zx161,zx162,Nat.reduceAdd,Nat.reduceSub,Nat.reduceMul,Nat.reduceLeDiff,Nat.reduceLT,Nat.reduceEqDiff,Int.reduceAdd,Int.reduceSub,Int.reduceMul,Int.reduceNeg,Int.reduceLT,Int.reduceLE,Int.reduceEq,Int.reduceToNat,Int.cast_ofNat_Int,↓reduceIte]
    refine ⟨by rw [laidC_0], fun j hj => by omega, (((Kx.app _ _ _).app' _).app' _).app' _⟩
end Go.Proofs.Ytflekaacffdakaa
namespace Go.Proofs.Ytflekaacffdakaa
open Go Go.AM Go.Proofs
def MgOk (xs : List Int) : Prop := 1 ≤ xs.length ∧ xs.length ≤ 3 ∧ OkN xs ∧ xs.sum ≤ 16
instance (xs : List Int) : Decidable (MgOk xs) := by unfold MgOk OkN; infer_instance
theorem flatMap_len {α β : Type} {b : Nat} {f : α → List β} : ∀ {l : List α}, (∀ x ∈ l, (f x).length ≤ b) → (l.flatMap f).length ≤ l.length * b
  | [], _ => by simp
  | x :: l, h => by
    rw [List.flatMap_cons, List.length_append, List.length_cons, Nat.add_mul, Nat.one_mul]
    have h1 := h x (by simp)
    have h2 := flatMap_len (l := l) fun y hy => h y (by simp [hy])
    omega
theorem lines_len : ∀ {cs : List Int} {need : Int}, need ≤ 16 → (lines cs need).length ≤ 17 ^ cs.length
  | [], need, _ => by
    unfold lines
    split <;> simp
  | c :: cs, need, h => by
    unfold lines
    refine Nat.le_trans (flatMap_len (b := 17 ^ cs.length) fun x hx => ?_) ?_
    · rw [List.length_map]
      exact lines_len (by omega)
    · rw [List.length_range, List.length_cons, Nat.pow_succ, Nat.mul_comm]
      exact Nat.mul_le_mul_left _ (by omega)
theorem tabsL_len : ∀ {rs L : List Int}, (∀ r ∈ rs, r ≤ 16) → L.length ≤ 3 → (tabsL rs L).length ≤ 4913 ^ rs.length
  | [], L, _, _ => by
    unfold tabsL
    split <;> simp
  | r :: rs, L, h, hl => by
    unfold tabsL
    refine Nat.le_trans (flatMap_len (b := 4913 ^ rs.length) fun x hx => ?_) ?_
    · rw [List.length_map]
      exact tabsL_len (fun r hr => h r (by simp [hr])) (by unfold subL; rw [List.length_zipWith]; omega)
    · rw [List.length_cons, Nat.pow_succ, Nat.mul_comm]
      refine Nat.mul_le_mul_left _ (Nat.le_trans (lines_len (h r (by simp))) ?_)
      have : 17 ^ L.length ≤ 17 ^ 3 := Nat.pow_le_pow_right (by omega) hl
      omega
theorem MgOk.el {xs : List Int} (h : MgOk xs) : ∀ x ∈ xs, 0 ≤ x ∧ x ≤ 16 := h.2.2.1
theorem MgOk.len {xs ys : List Int} (h : MgOk xs) (h' : MgOk ys) : (tabsL xs ys).length ≤ 118587876497 := by
  refine Nat.le_trans (tabsL_len (fun r hr => (h.el r hr).2) h'.2.1) ?_
  have : 4913 ^ xs.length ≤ 4913 ^ 3 := Nat.pow_le_pow_right (by omega) h.2.1
  omega
theorem gset {b : Nat} {H H2 : Heap} {k k' : Blk} (e : H.set b k = H2) (h : H[b]? = some k') : H2[b]? = some k := by rw [← e]; exact get_set h
theorem argT_len : ∀ (Ki : Nat → Prop) (H1 : Heap) (args : List AV) (x : List (List Int)), ArgT Ki H1 args x → args.length = 1 := by rintro _ _ _ _ ⟨u, rfl, _⟩; rfl
end Go.Proofs.Ytflekaacffdakaa
namespace Go.Proofs.Ytflekaacffdakaa
open Go Go.AM Go.Proofs
theorem cnt_no {β : Type} {f : Nat → List β} {N : Nat} (h : ∀ x, x < N → f x = []) : (List.range N).flatMap f = [] := by
  rw [List.flatMap_eq_nil_iff]
  intro x hx
  exact h x (List.mem_range.1 hx)
theorem lines1 {r d : Nat} : lines [(d : Int)] (r : Int) = if r ≤ d then [[(r : Int)]] else [] := by
  unfold lines
  unfold lines
  by_cases h : r ≤ d
  · rw [if_pos h, show (min (r : Int) d + 1).toNat = r + 1 by omega, List.range_succ, List.flatMap_append, cnt_no fun x hx => by rw [if_pos (by omega)]; rfl]
    simp
  · rw [if_neg h]
    exact cnt_no fun x hx => by rw [if_pos (by omega)]; rfl
end Go.Proofs.Ytflekaacffdakaa
namespace Go.Proofs.Ytflekaacffdakaa
open Go Go.AM Go.Proofs
theorem fracN_parts {m n : Nat} (hn : 0 < n) : ∃ p q g : Nat, fracN m n = ((p : Int), (q : Int)) ∧ 0 < g ∧ m = g * p ∧ n = g * q ∧ 0 < q := by
  refine ⟨m / Nat.gcd m n, n / Nat.gcd m n, Nat.gcd m n, rfl, Nat.gcd_pos_of_pos_right _ hn, (Nat.mul_div_cancel' (Nat.gcd_dvd_left m n)).symm, (Nat.mul_div_cancel' (Nat.gcd_dvd_right m n)).symm, ?_⟩
  exact Nat.div_pos (Nat.le_of_dvd hn (Nat.gcd_dvd_right m n)) (Nat.gcd_pos_of_pos_right _ hn)
end Go.Proofs.Ytflekaacffdakaa
namespace Go.Proofs.Ytflekaacffdakaa
open Go Go.AM Go.Proofs
theorem lines_mem : ∀ {cs : List Int} {need : Int} {l : List Int}, l ∈ lines cs need → l.length = cs.length
  | [], need, l, h => by
    unfold lines at h
    split at h <;> simp at h
    subst h; rfl
  | c :: cs, need, l, h => by
    unfold lines at h
    rw [List.mem_flatMap] at h
    obtain ⟨x, _, h⟩ := h
    obtain ⟨l', h1, rfl⟩ := List.mem_map.1 h
    rw [List.length_cons, lines_mem h1, List.length_cons]
end Go.Proofs.Ytflekaacffdakaa
namespace Go.AM
open Go
def OAcc (p : Nat → Prop) (H : Heap) (u : AV) (xs : List (List Int)) : Prop :=
  (u = .nils ∧ xs = []) ∨ ∃ b o c k, u = .s 1 b o xs.length c ∧ p b ∧ H[b]? = some (.cells k) ∧ o + xs.length ≤ k.length ∧ xs.length ≤ 9223372036854775807 ∧ ∀ (i : Nat) (h : i < xs.length), Rep.rep (fun b' => p b' ∧ b' ≠ b) H ((k.drop (o + i)).take 1) xs[i]
theorem OAcc.of {L : Nat} {p q : Nat → Prop} {H : Heap} {u : AV} {xs : List (List Int)} (h : Acc L p H u xs) (hL : ∀ b, L ≤ b → q b) (hp : ∀ b, p b → q b) : OAcc q H u xs := by
  rcases h with h | ⟨b, o, c, k, rfl, hb, hk1, h1, h2, h3⟩
  · exact .inl h
  · refine .inr ⟨b, o, c, k, rfl, hL b hb, hk1, by change o + xs.length * 1 ≤ _ at h1; omega, h2, fun i hi => ?_⟩
    have := h3 i hi
    change Rep.rep _ H ((k.drop (o + i * 1)).take 1) _ at this
    rw [Nat.mul_one] at this
    exact Rep.mono this (Kp.refl _ _) fun b h => ⟨hp b h.1, h.2⟩
end Go.AM
namespace Go.Proofs.Ytflekaacffdakaa
open Go Go.AM Go.Proofs
theorem lines_len2 : ∀ {cs : List Int} {need : Int}, 0 ≤ need → need ≤ 16 → (∀ x ∈ cs, 0 ≤ x ∧ x ≤ 16) → (lines cs need).length ≤ 17 ^ (cs.length - 1)
  | [], need, _, _, _ => by
    unfold lines
    split <;> simp
  | [c], need, h0, h, hc => by
    have := hc c (by simp)
    obtain ⟨c, rfl⟩ := nat_of this.1
    obtain ⟨need, rfl⟩ := nat_of h0
    rw [lines1]
    split <;> simp
  | c :: d :: cs, need, h0, h, hc => by
    have hcc := hc c (by simp)
    rw [lines]
    refine Nat.le_trans (flatMap_len (b := 17 ^ cs.length) fun x hx => ?_) ?_
    · have := List.mem_range.1 hx
      rw [List.length_map]
      exact lines_len2 (cs := d :: cs) (by omega) (by omega) fun y hy => hc y (by simp only [List.mem_cons] at hy ⊢; exact .inr hy)
    · rw [List.length_range]
      simp only [List.length_cons, Nat.add_sub_cancel]
      rw [Nat.pow_succ, Nat.mul_comm]
      exact Nat.mul_le_mul_left _ (by omega)
theorem lines_el : ∀ {cs : List Int} {need : Int} {l : List Int}, 0 ≤ need → need ≤ 16 → (∀ x ∈ cs, 0 ≤ x ∧ x ≤ 16) → l ∈ lines cs need → (∀ x ∈ l, 0 ≤ x ∧ x ≤ 16) ∧ ∀ x ∈ subL cs l, 0 ≤ x ∧ x ≤ 16
  | [], need, l, _, _, _, h => by
    unfold lines at h
    split at h <;> simp at h
    subst h; simp [subL]
  | c :: cs, need, l, h0, h16, hc, h => by
    unfold lines at h
    rw [List.mem_flatMap] at h
    obtain ⟨x, hx, h⟩ := h
    have := List.mem_range.1 hx
    have hcc := hc c (by simp)
    obtain ⟨l', h1, rfl⟩ := List.mem_map.1 h
    obtain ⟨i1, i2⟩ := lines_el (by omega) (by omega) (fun y hy => hc y (by simp [hy])) h1
    refine ⟨fun y hy => ?_, fun y hy => ?_⟩
    · rcases List.mem_cons.1 hy with rfl | hy
      · omega
      · exact i1 y hy
    · have e : subL (c :: cs) ((x : Int) :: l') = (c - x) :: subL cs l' := rfl
      rw [e] at hy
      rcases List.mem_cons.1 hy with rfl | hy
      · omega
      · exact i2 y hy
theorem subL_len {cs l : List Int} (h : l.length = cs.length) : (subL cs l).length = cs.length := by unfold subL; rw [List.length_zipWith]; omega
theorem subL_gi {cs l : List Int} (h : l.length = cs.length) {j : Nat} (hj : j < cs.length) : gi (subL cs l) (j : Int) = gi cs (j : Int) - gi l (j : Int) := by
  rw [gi_nat (by rw [subL_len h]; exact hj), gi_nat hj, gi_nat (by omega)]
  simp [subL]
theorem tabsL_len2 : ∀ {rs L : List Int}, (∀ r ∈ rs, 0 ≤ r ∧ r ≤ 16) → (∀ x ∈ L, 0 ≤ x ∧ x ≤ 16) → L.length ≤ 3 → (tabsL rs L).length ≤ 289 ^ rs.length
  | [], L, _, _, _ => by
    unfold tabsL
    split <;> simp
  | r :: rs, L, h, h', hl => by
    have hr := h r (by simp)
    unfold tabsL
    refine Nat.le_trans (flatMap_len (b := 289 ^ rs.length) fun x hx => ?_) ?_
    · rw [List.length_map]
      exact tabsL_len2 (fun r hr => h r (by simp [hr])) (lines_el hr.1 hr.2 h' hx).2 (by rw [subL_len (lines_mem hx)]; exact hl)
    · rw [List.length_cons, Nat.pow_succ, Nat.mul_comm]
      refine Nat.mul_le_mul_left _ (Nat.le_trans (lines_len2 hr.1 hr.2 h') ?_)
      have : 17 ^ (L.length - 1) ≤ 17 ^ 2 := Nat.pow_le_pow_right (by omega) (by omega)
      omega
end Go.Proofs.Ytflekaacffdakaa
namespace Go.Proofs.Ytflekaacffdakaa
open Go Go.AM Go.Proofs
theorem tabsL_mem : ∀ {rs L : List Int} {t : List (List Int)}, t ∈ tabsL rs L → t.length = rs.length
  | [], L, t, h => by
    unfold tabsL at h
    split at h <;> simp at h
    subst h; rfl
  | r :: rs, L, t, h => by
    unfold tabsL at h
    rw [List.mem_flatMap] at h
    obtain ⟨l, _, h⟩ := h
    obtain ⟨t', h1, rfl⟩ := List.mem_map.1 h
    rw [List.length_cons, tabsL_mem h1, List.length_cons]
end Go.Proofs.Ytflekaacffdakaa
namespace Go.Proofs.Ytflekaacffdakaa
open Go Go.AM Go.Proofs
def cmpI (x y : Int) : Int := if x < y then -1 else if y < x then 1 else 0
/-- how two slices compare -/
def cmpL : List Int → List Int → Int
  | [], [] => 0
  | [], _ :: _ => -1
  | _ :: _, [] => 1
  | x :: xs, y :: ys => if cmpI x y ≠ 0 then cmpI x y else cmpL xs ys
theorem cmpL_refl : ∀ xs : List Int, cmpL xs xs = 0
  | [] => rfl
  | x :: xs => by simp [cmpL, cmpI, cmpL_refl xs]
theorem gi_consS {α : Type} [Inhabited α] {x : α} {xs : List α} {i : Nat} : gi (x :: xs) ((i + 1 : Nat) : Int) = gi xs (i : Int) := by simp [gi]
end Go.Proofs.Ytflekaacffdakaa
namespace Go.Proofs.Ytflekaacffdakaa
open Go Go.AM Go.Proofs
def prodN : List Int → Nat
  | [] => 1
  | x :: l => x.toNat * prodN l
theorem prodN_dvd {x : Int} : ∀ {l : List Int}, x ∈ l → x.toNat ∣ prodN l
  | y :: l, h => by
    rcases List.mem_cons.1 h with rfl | h
    · exact Nat.dvd_mul_right _ _
    · exact Nat.dvd_trans (prodN_dvd h) (Nat.dvd_mul_left _ _)
theorem prodN_le {m : Nat} (hm : 1 ≤ m) : ∀ {l : List Int}, (∀ x ∈ l, x ≤ m) → prodN l ≤ m ^ l.length
  | [], _ => by simp [prodN]
  | x :: l, h => by
    rw [prodN, List.length_cons, Nat.pow_succ, Nat.mul_comm]
    exact Nat.mul_le_mul (prodN_le hm fun y hy => h y (by simp [hy])) (by have := h x (by simp); omega)
theorem prodN_pos : ∀ {l : List Int}, (∀ x ∈ l, 0 < x) → 0 < prodN l
  | [], _ => by simp [prodN]
  | x :: l, h => Nat.mul_pos (by have := h x (by simp); omega) (prodN_pos fun y hy => h y (by simp [hy]))
section
variable (t : List (List Int))
def nN : Nat := (rowSums t).sum.toNat
def rN (i : Nat) : Nat := (gi (rowSums t) (i : Int)).toNat
def cN (j : Nat) : Nat := (gi (colSums t) (j : Int)).toNat
def allN : Nat := nN t * prodN (rowSums t) * prodN (colSums t)
def eN (i j : Nat) : Nat := rN t i * cN t j * nN t
def qN (i j : Nat) : Nat := allN t / eN t i j
def dd (i j : Nat) : Int := gi (gi t (i : Int)) (j : Int) * nN t - (rN t i * cN t j : Nat)
def sqN (i j : Nat) : Nat := (dd t i j * dd t i j).toNat
def rowOff (i j : Nat) : Nat := ((List.range j).map fun j => qN t i j * sqN t i j).sum
end
theorem rowOff_succ {t : List (List Int)} {i j : Nat} : rowOff t i (j + 1) = rowOff t i j + qN t i j * sqN t i j := by
  unfold rowOff; rw [List.range_succ, List.map_append, List.sum_append]; simp
/-- all sums above 0 -/
def Full (t : List (List Int)) : Prop := TabOk t ∧ ¬ (0 : Int) ∈ rowSums t ∧ ¬ (0 : Int) ∈ colSums t
theorem rowSums_len {t : List (List Int)} : (rowSums t).length = t.length := by simp [rowSums]
theorem colSums_len {t : List (List Int)} : (colSums t).length = (gi t 0).length := by simp [colSums]
theorem rowSums_at {t : List (List Int)} {i : Nat} (h : i < t.length) : gi (rowSums t) (i : Int) = (gi t (i : Int)).sum := by
  rw [gi_nat (by rw [rowSums_len]; exact h), gi_nat h]; simp [rowSums]
theorem colSums_at {t : List (List Int)} {j : Nat} (h : j < (gi t 0).length) : gi (colSums t) (j : Int) = colPart t t.length j := gi_map_range h
theorem total_le {t : List (List Int)} (h : TabOk t) : (rowSums t).sum ≤ 16 := h.2.2.2
theorem rowSums_ge {t : List (List Int)} (h : TabOk t) : ∀ x ∈ rowSums t, 0 ≤ x := by
  intro x hx
  obtain ⟨r, hr, rfl⟩ := List.mem_map.1 hx
  exact sum_nonneg fun y hy => ((h.2.2.1 r hr).2.2.2 y hy).1
theorem rowSums_le {t : List (List Int)} (h : TabOk t) : ∀ x ∈ rowSums t, 0 ≤ x ∧ x ≤ 16 := fun x hx =>
  ⟨rowSums_ge h x hx, Int.le_trans (le_sum (rowSums_ge h) hx) (total_le h)⟩
/-- the sums of the columns sum to the same -/
theorem colPart_le {t : List (List Int)} (h : TabOk t) {j : Nat} (hj : j < (gi t 0).length) : ∀ i, i ≤ t.length → colPart t i j ≤ ((rowSums t).take i).sum
  | 0, _ => by simp [colPart]
  | i + 1, hi => by
    have h1 := colPart_le h hj i (by omega)
    have h2 : i < (rowSums t).length := by rw [rowSums_len]; omega
    rw [colPart_succ (by omega), sum_take h2, rowSums_at (by omega)]
    have hw := h.width (show i < t.length by omega)
    have : gi (gi t (i : Int)) (j : Int) ≤ (gi t (i : Int)).sum := le_sum (fun y hy => ((h.2.2.1 _ (mem_gi (show i < t.length by omega))).2.2.2 y hy).1) (mem_gi (by omega))
    omega
theorem colSums_le {t : List (List Int)} (h : TabOk t) : ∀ x ∈ colSums t, 0 ≤ x ∧ x ≤ 16 := fun x hx => by
  unfold colSums at hx
  obtain ⟨j, hj, rfl⟩ := List.mem_map.1 hx
  have hj' := List.mem_range.1 hj
  have h1 := (h.colPart (i := t.length) hj').1
  have h2 := colPart_le h hj' t.length (Nat.le_refl _)
  rw [List.take_of_length_le (by rw [rowSums_len]; exact Nat.le_refl _)] at h2
  have := total_le h
  exact ⟨h1, by omega⟩
/-- the numbers, and how great they are -/
theorem Full.nums {t : List (List Int)} (h : Full t) {i j : Nat} (hi : i < t.length) (hj : j < (gi t 0).length) :
    gi (rowSums t) (i : Int) = rN t i ∧ gi (colSums t) (j : Int) = cN t j ∧ 1 ≤ rN t i ∧ rN t i ≤ 16 ∧ 1 ≤ cN t j ∧ cN t j ≤ 16 ∧ 1 ≤ nN t ∧ nN t ≤ 16 ∧ (rowSums t).sum = nN t := by
  have r1 := mem_gi (xs := rowSums t) (i := i) (by rw [rowSums_len]; exact hi)
  have c1 := mem_gi (xs := colSums t) (i := j) (by rw [colSums_len]; exact hj)
  have r2 := rowSums_le h.1 _ r1
  have c2 := colSums_le h.1 _ c1
  have r3 : gi (rowSums t) (i : Int) ≠ 0 := fun e => h.2.1 (e ▸ r1)
  have c3 : gi (colSums t) (j : Int) ≠ 0 := fun e => h.2.2 (e ▸ c1)
  have n1 := le_sum (rowSums_ge h.1) r1
  have n2 := total_le h.1
  unfold rN cN nN
  omega
theorem Full.all {t : List (List Int)} (h : Full t) : 1 ≤ allN t ∧ allN t ≤ 268435456 := by
  have hl := h.1.1
  have hc := h.1.cols
  have hn := h.nums (i := 0) (j := 0) (by omega) (by omega)
  have pr : ∀ x ∈ rowSums t, 0 < x := fun x hx => by
    have := rowSums_le h.1 x hx
    have : x ≠ 0 := fun e => h.2.1 (e ▸ hx)
    omega
  have pc : ∀ x ∈ colSums t, 0 < x := fun x hx => by
    have := colSums_le h.1 x hx
    have : x ≠ 0 := fun e => h.2.2 (e ▸ hx)
    omega
  have a1 : prodN (rowSums t) ≤ 16 ^ 3 := Nat.le_trans (prodN_le (m := 16) (by omega) fun x hx => (rowSums_le h.1 x hx).2) (Nat.pow_le_pow_right (by omega) (by rw [rowSums_len]; exact h.1.2.1))
  have a2 : prodN (colSums t) ≤ 16 ^ 3 := Nat.le_trans (prodN_le (m := 16) (by omega) fun x hx => (colSums_le h.1 x hx).2) (Nat.pow_le_pow_right (by omega) (by rw [colSums_len]; exact hc.2))
  have b1 := prodN_pos pr
  have b2 := prodN_pos pc
  unfold allN
  refine ⟨Nat.mul_pos (Nat.mul_pos (by omega) b1) b2, ?_⟩
  have := Nat.mul_le_mul (Nat.mul_le_mul hn.2.2.2.2.2.2.2.1 a1) a2
  omega
theorem Full.dvd {t : List (List Int)} (h : Full t) {i j : Nat} (hi : i < t.length) (hj : j < (gi t 0).length) : allN t = eN t i j * qN t i j ∧ 1 ≤ eN t i j ∧ eN t i j ≤ 4096 := by
  have hn := h.nums hi hj
  have r1 : rN t i ∣ prodN (rowSums t) := prodN_dvd (mem_gi (by rw [rowSums_len]; exact hi))
  have c1 : cN t j ∣ prodN (colSums t) := prodN_dvd (mem_gi (by rw [colSums_len]; exact hj))
  have d : eN t i j ∣ allN t := by
    unfold eN allN
    rw [Nat.mul_comm (rN t i * cN t j), Nat.mul_assoc (nN t)]
    exact Nat.mul_dvd_mul_left _ (Nat.mul_dvd_mul r1 c1)
  refine ⟨(Nat.mul_div_cancel' d).symm, Nat.mul_pos (Nat.mul_pos (by omega) (by omega)) (by omega), ?_⟩
  unfold eN
  exact Nat.mul_le_mul (Nat.mul_le_mul hn.2.2.2.1 hn.2.2.2.2.2.1) hn.2.2.2.2.2.2.2.1
theorem sq_nonneg (x : Int) : 0 ≤ x * x := by
  rcases Int.le_total 0 x with h | h
  · exact Int.mul_nonneg h h
  · exact Int.mul_nonneg_of_nonpos_of_nonpos h h
theorem Full.dd {t : List (List Int)} (h : Full t) {i j : Nat} (hi : i < t.length) (hj : j < (gi t 0).length) : -256 ≤ dd t i j ∧ dd t i j ≤ 256 ∧ 0 ≤ gi (gi t (i : Int)) (j : Int) * nN t ∧ gi (gi t (i : Int)) (j : Int) * nN t ≤ 256 ∧ ((sqN t i j : Nat) : Int) = Go.Proofs.Ytflekaacffdakaa.dd t i j * Go.Proofs.Ytflekaacffdakaa.dd t i j ∧ sqN t i j ≤ 65536 := by
  have hn := h.nums hi hj
  have he := h.1.entry hi hj
  have m1 := mul_small (m := 16) (n := 16) he.1 he.2 (show (0 : Int) ≤ nN t by omega) (by omega) (by omega)
  have m2 : rN t i * cN t j ≤ 16 * 16 := Nat.mul_le_mul hn.2.2.2.1 hn.2.2.2.2.2.1
  have b1 : -256 ≤ Go.Proofs.Ytflekaacffdakaa.dd t i j ∧ Go.Proofs.Ytflekaacffdakaa.dd t i j ≤ 256 := by
    unfold Go.Proofs.Ytflekaacffdakaa.dd; omega
  have b2 := sq_nonneg (Go.Proofs.Ytflekaacffdakaa.dd t i j)
  have b3 : Go.Proofs.Ytflekaacffdakaa.dd t i j * Go.Proofs.Ytflekaacffdakaa.dd t i j ≤ 65536 := by
    rcases Int.le_total 0 (Go.Proofs.Ytflekaacffdakaa.dd t i j) with h | h
    · have := mul_small h b1.2 h b1.2 (by omega); omega
    · have := mul_small (show 0 ≤ - Go.Proofs.Ytflekaacffdakaa.dd t i j by omega) (show - Go.Proofs.Ytflekaacffdakaa.dd t i j ≤ 256 by omega) (show 0 ≤ - Go.Proofs.Ytflekaacffdakaa.dd t i j by omega) (show - Go.Proofs.Ytflekaacffdakaa.dd t i j ≤ 256 by omega) (by omega)
      rw [Int.neg_mul_neg] at this; omega
  unfold sqN
  refine ⟨b1.1, b1.2, m1.1, by omega, by omega, by omega⟩
/-- how great the sum is -/
theorem Full.part {t : List (List Int)} (h : Full t) {i : Nat} (hi : i < t.length) : ∀ {j : Nat}, j ≤ (gi t 0).length → rowOff t i j ≤ j * 17592186044416
  | 0, _ => by simp [rowOff]
  | j + 1, hj => by
    have h1 := h.part hi (j := j) (by omega)
    have h2 := h.dvd hi (j := j) (by omega)
    have h3 := h.dd hi (j := j) (by omega)
    have h4 := h.all
    have h5 : qN t i j ≤ 268435456 := by
      have : qN t i j ≤ allN t := Nat.div_le_self _ _
      omega
    have h6 := Nat.mul_le_mul h5 h3.2.2.2.2.2
    rw [rowOff_succ]; omega
end Go.Proofs.Ytflekaacffdakaa
namespace Go.Proofs.Ytflekaacffdakaa
open Go Go.AM Go.Proofs
theorem mg_rows {t : List (List Int)} (h : TabOk t) : MgOk (rowSums t) := by
  refine ⟨by rw [rowSums_len]; exact h.1, by rw [rowSums_len]; exact h.2.1, fun x hx => rowSums_le h x hx, ?_⟩
  have := total_le h
  exact this
theorem family_ret {p : Nat → Prop} {H : Heap} {v : AV} {t : List (List Int)} (ht : Sl p H v t) (h : TabOk t) : Ret E 82 [v] (fun _ => False) H (rowSums t, colSums t) := by
  refine Ret.ro rfl fn82 rfl ?_
  unfold f82A
  simp (disch := (first | assumption | omega | (simp only [List.length_append, List.length_cons, List.length_nil]; omega))) only [↓wD,wU,Nat.reduceBEq,zx150,zx151,zx159,zx160,zx161,zx162,Nat.reduceAdd,Nat.reduceSub,Nat.reduceMul,Nat.reduceLeDiff,Nat.reduceLT,Nat.reduceEqDiff,Int.reduceAdd,Int.reduceSub,Int.reduceMul,Int.reduceNeg,Int.reduceLT,Int.reduceLE,Int.reduceEq,Int.reduceToNat,Int.cast_ofNat_Int,↓reduceIte]
  refine (sums_ret (ht.app [.cells [.nils, .nils]]) h).toX fun w H2 x2 hw => ?_
  obtain ⟨v1, v2, rfl, h1, h2⟩ := rv2 hw
  have c2 : H2[H.length]? = some (.cells [.nils, .nils]) := x2.get trivial get_last
  have s1 := rvs h1
  have s2 := rvs h2
  have hst : st H.length H2 H.length 0 [v1, v2] = some (H2.set H.length (.cells [v1, v2])) := by rw [st_of c2 (Nat.le_refl _) (by simp)]; simp [wr]
  have k1 : Sl (fun b => H.length + 1 ≤ b) (H2.set H.length (.cells [v1, v2])) v1 (rowSums t) := (s1.weak (q := fun b => H.length + 1 ≤ b) fun b h => h.elim (fun h => h.elim) fun h => by simpa using h).kp ((Kp.set _ _ _).weak fun b h => by omega)
  have k2 : Sl (fun b => H.length + 1 ≤ b) (H2.set H.length (.cells [v1, v2])) v2 (colSums t) := (s2.weak (q := fun b => H.length + 1 ≤ b) fun b h => h.elim (fun h => h.elim) fun h => by simpa using h).kp ((Kp.set _ _ _).weak fun b h => by omega)
  simp (disch := (first | assumption | omega | (simp only [List.length_append, List.length_cons, List.length_nil]; omega))) only [↓wD,wU,Nat.reduceBEq,zx150,zx151,zx159,zx160,zx161,zx162,Nat.reduceAdd,Nat.reduceSub,Nat.reduceMul,Nat.reduceLeDiff,Nat.reduceLT,Nat.reduceEqDiff,Int.reduceAdd,Int.reduceSub,Int.reduceMul,Int.reduceNeg,Int.reduceLT,Int.reduceLE,Int.reduceEq,Int.reduceToNat,Int.cast_ofNat_Int,↓reduceIte, s1.cellsV, s2.cellsV, hst, ldn_of (get_set c2)]
  exact ⟨_, rfl, [v1], [v2], rfl, ⟨v1, rfl, k1.weak fun b h => .inr (by omega)⟩, ⟨v2, rfl, k2.weak fun b h => .inr (by omega)⟩⟩
end Go.Proofs.Ytflekaacffdakaa
namespace Go.Proofs.Ytflekaacffdakaa
open Go Go.AM Go.Proofs
/-- a sum -/
def is (m : Nat) (f : Nat → Int) : Int := ((List.range m).map f).sum
theorem is_0 {f : Nat → Int} : is 0 f = 0 := by simp [is]
theorem is_succ {m : Nat} {f : Nat → Int} : is (m + 1) f = is m f + f m := by
  unfold is; rw [List.range_succ, List.map_append, List.sum_append]; simp
theorem is_congr {m : Nat} {f g : Nat → Int} (h : ∀ k, k < m → f k = g k) : is m f = is m g := by
  induction m with
  | zero => rfl
  | succ m ih => rw [is_succ, is_succ, ih fun k hk => h k (by omega), h m (by omega)]
theorem is_add {m : Nat} {f g : Nat → Int} : is m (fun k => f k + g k) = is m f + is m g := by
  induction m with
  | zero => rfl
  | succ m ih => rw [is_succ, is_succ, is_succ, ih]; omega
theorem is_const {m : Nat} {c : Int} : is m (fun _ => c) = m * c := by
  induction m with
  | zero => simp [is_0]
  | succ m ih => rw [is_succ, ih]; push_cast; rw [Int.add_mul]; omega
theorem sum_is : ∀ {xs : List Int} {m : Nat}, m ≤ xs.length → (xs.take m).sum = is m fun k => gi xs (k : Int)
  | xs, 0, _ => by simp [is_0]
  | xs, m + 1, h => by rw [sum_take (by omega), is_succ, sum_is (by omega)]
theorem Full.cell {t : List (List Int)} (h : Full t) {i j : Nat} (hi : i < t.length) (hj : j < (gi t 0).length) :
    (allN t : Int) = rN t i * cN t j * nN t * qN t i j ∧ ((qN t i j * sqN t i j : Nat) : Int) = qN t i j * ((gi (gi t (i : Int)) (j : Int) * nN t - rN t i * cN t j) * (gi (gi t (i : Int)) (j : Int) * nN t - rN t i * cN t j)) ∧ 0 ≤ gi (gi t (i : Int)) (j : Int) ∧ gi (gi t (i : Int)) (j : Int) ≤ rN t i ∧ gi (gi t (i : Int)) (j : Int) ≤ cN t j := by
  have hn := h.nums hi hj
  have hd := h.dd hi hj
  have he := h.1.entry hi hj
  refine ⟨?_, ?_, he.1, ?_, ?_⟩
  · conv => lhs; rw [(h.dvd hi hj).1]
    unfold eN; push_cast; rfl
  · rw [Int.natCast_mul, hd.2.2.2.2.1]
    unfold Go.Proofs.Ytflekaacffdakaa.dd; push_cast; rfl
  · rw [← hn.1, rowSums_at hi]
    exact le_sum (fun y hy => ((h.1.2.2.1 _ (mem_gi hi)).2.2.2 y hy).1) (mem_gi (by rw [h.1.width hi]; exact hj))
  · rw [← hn.2.1, colSums_at hj]
    have key : ∀ m, m ≤ t.length → i < m → gi (gi t (i : Int)) (j : Int) ≤ colPart t m j := by
      intro m
      induction m with
      | zero => omega
      | succ m ih =>
        intro hm him
        rw [colPart_succ (by omega)]
        have e := h.1.entry (show m < t.length by omega) hj
        by_cases hh : i = m
        · subst hh
          have := (h.1.colPart (i := i) hj).1
          omega
        · have := ih (by omega) (by omega)
          omega
    exact key t.length (Nat.le_refl _) hi
theorem cols_sum {t : List (List Int)} (h : TabOk t) : is (gi t 0).length (fun j => colPart t t.length j) = (rowSums t).sum := by
  have key : ∀ m, m ≤ t.length → is (gi t 0).length (fun j => colPart t m j) = ((rowSums t).take m).sum := by
    intro m
    induction m with
    | zero =>
      intro _
      simp only [colPart_0]
      rw [is_const]; simp
    | succ m ih =>
      intro hm
      rw [sum_take (by rw [rowSums_len]; omega), ← ih (by omega), rowSums_at (by omega)]
      rw [is_congr fun k hk => colPart_succ (t := t) (i := m) (j := k) (by omega), is_add]
      congr 1
      rw [← sum_is (by rw [h.width (by omega)]; exact Nat.le_refl _), List.take_of_length_le (by rw [h.width (by omega)]; exact Nat.le_refl _)]
  have := key t.length (Nat.le_refl _)
  rwa [List.take_of_length_le (by rw [rowSums_len]; exact Nat.le_refl _)] at this
end Go.Proofs.Ytflekaacffdakaa
namespace Go.Proofs.Ytflekaacffdakaa
open Go Go.AM Go.Proofs
theorem family_range {lo : Nat} {v w : AV} {xs ys : List Int} {Hr H1 : Heap} {K0 K : Nat → Prop} {Q : Bool → (Nat → Prop) → Heap → Prop} (hlo : lo ≤ Hr.length) (hx : Sl (fun b => ¬ K0 b) Hr v xs) (hy : Sl (fun b => ¬ K0 b) Hr w ys) (h1 : MgOk xs) (h2 : MgOk ys) (hK0 : ∀ b, K0 b → b < Hr.length)
    (e : H1.length = Hr.length + 1) (hx' : Kx (fun _ => True) Hr H1) (hK : ∀ b, K b ↔ K0 b ∨ b = Hr.length) (hI : Its E lo (.yl Hr.length) (Hr.length + 1) ArgT Q (tabsL xs ys) K H1) :
    WpF E lo 80 [.ag [v, w], .yl Hr.length] H1 fun _ H' => ∃ ok K', Q ok K' H' := by
  rw [← e] at hI
  have hn : ∀ b, ¬ K0 b ∧ b < Hr.length → ¬ K b := fun b h q => by
    rcases (hK b).1 q with q | q
    · exact h.1 q
    · omega
  exact all_it (by omega) ⟨rfl, rfl⟩ ((hx.low.kp (hx'.all _).kp).weak hn) ((hy.low.kp (hx'.all _).kp).weak hn) h1.1 h1.2.1 h2.1 h2.2.1 h1.el h2.el (fun b q => by
    rcases (hK b).1 q with q | q
    · have := hK0 b q; omega
    · omega) hI
/-- what holds between rounds: c the cell of the slice -/
def FamI (c : Nat) (ts : List (List (List Int))) (i : Nat) (K : Nat → Prop) (H1 : Heap) : Prop := ∃ u, H1[c]? = some (.cells [u]) ∧ K c ∧ Acc (c + 1) (fun b => K b ∧ c < b) H1 u (ts.take i) ∧ ∀ b, u.blk = some b → K b
theorem FamI.st {c : Nat} {ts : List (List (List Int))} {i : Nat} {K : Nat → Prop} {H1 H2 : Heap} {P : Nat → Prop} (h : FamI c ts i K H1) (hx : Kx (fun b => P b ∨ K b) H1 H2) : FamI c ts i K H2 := by
  obtain ⟨u, h1, h2, h3, h4⟩ := h
  exact ⟨u, hx.get (.inr h2) h1, h2, h3.kp hx.kp (fun b e => .inr (h4 b e)) (fun b h => .inr h.1), h4⟩
theorem mg_cols {t : List (List Int)} (h : TabOk t) (hs : (colSums t).sum ≤ 16) : MgOk (colSums t) := by
  have hc := h.cols
  refine ⟨by rw [colSums_len]; omega, by rw [colSums_len]; omega, colSums_le h, hs⟩
theorem fam_ret {p : Nat → Prop} {H : Heap} {v : AV} {t : List (List Int)} (ht : Sl p H v t) (h : TabOk t) (hs : (colSums t).sum ≤ 16) : Ret E 42 [v] (fun _ => False) H (T2.mk (tabsL (rowSums t) (colSums t)) (0 : Int)) := by
  refine Ret.ro rfl fn42 rfl ?_
  unfold f42A
  have k := ht.app [.cells [.nils]]
  have h1 := mg_rows h
  have h2 := mg_cols h hs
  have hts : (tabsL (rowSums t) (colSums t)).length ≤ 24137569 := by
    refine Nat.le_trans (tabsL_len2 h1.el h2.el h2.2.1) ?_
    have : 289 ^ (rowSums t).length ≤ 289 ^ 3 := Nat.pow_le_pow_right (by omega) h1.2.1
    omega
  have hv := valid_ret ht
  rw [decide_eq_true h] at hv
  obtain ⟨ts, ets⟩ : ∃ ts, tabsL (rowSums t) (colSums t) = ts := ⟨_, rfl⟩
  rw [ets] at hts ⊢
  simp (disch := (first | assumption | omega | (simp only [List.length_append, List.length_cons, List.length_nil]; omega))) only [↓wD,wU,Nat.reduceBEq,zx150,zx151,zx159,zx160,zx161,zx162,Nat.reduceAdd,Nat.reduceSub,Nat.reduceMul,Nat.reduceLeDiff,Nat.reduceLT,Nat.reduceEqDiff,Int.reduceAdd,Int.reduceSub,Int.reduceMul,Int.reduceNeg,Int.reduceLT,Int.reduceLE,Int.reduceEq,Int.reduceToNat,Int.cast_ofNat_Int,↓reduceIte, hv.call]
  refine (family_ret k h).toX fun w Hr x1 hw => ?_
  obtain ⟨cs, rfl, c1, c2, rfl, ⟨v1, rfl, q1⟩, ⟨v2, rfl, q2⟩⟩ := hw
  have c0 : Hr[H.length]? = some (.cells [.nils]) := x1.get trivial get_last
  have hrl := (List.getElem?_eq_some_iff.1 c0).1
  have q1' : Sl (fun b => ¬ b = H.length) Hr v1 (rowSums t) := q1.weak fun b h => h.elim (fun h => h.elim) fun h => by simp at h; omega
  have q2' : Sl (fun b => ¬ b = H.length) Hr v2 (colSums t) := q2.weak fun b h => h.elim (fun h => h.elim) fun h => by simp at h; omega
  simp only [List.singleton_append, List.cons_append, List.nil_append]
  simp (disch := (first | assumption | omega | (simp only [List.length_append, List.length_cons, List.length_nil]; omega))) only [↓wD,wU,Nat.reduceBEq,zx150,zx151,zx159,zx160,zx161,zx162,Nat.reduceAdd,Nat.reduceSub,Nat.reduceMul,Nat.reduceLeDiff,Nat.reduceLT,Nat.reduceEqDiff,Int.reduceAdd,Int.reduceSub,Int.reduceMul,Int.reduceNeg,Int.reduceLT,Int.reduceLE,Int.reduceEq,Int.reduceToNat,Int.cast_ofNat_Int,↓reduceIte, q1'.cellsV, q2'.cellsV]
  refine Wp.range (A := ArgT) ts (fun b => b = H.length) (fun i K H1 => FamI H.length ts i K H1) (fun j K H1 => False) (by (simp (disch := (first | assumption | omega | (simp only [List.length_append, List.length_cons, List.length_nil]; omega))) only [↓wD,wU,Nat.reduceBEq,zx150,zx151,zx159,zx160,zx161,zx162,Nat.reduceAdd,Nat.reduceSub,Nat.reduceMul,Nat.reduceLeDiff,Nat.reduceLT,Nat.reduceEqDiff,Int.reduceAdd,Int.reduceSub,Int.reduceMul,Int.reduceNeg,Int.reduceLT,Int.reduceLE,Int.reduceEq,Int.reduceToNat,Int.cast_ofNat_Int,↓reduceIte]) <;> rfl) rfl (by omega) (fun b h => by omega) argT_len ?_ ?_ ?_ ?_ ?_ ?_ ?_
  · intro K' H1 Q' e hx' hK' hI
    rw [← ets] at hI
    exact family_range (by omega) q1' q2' h1 h2 (fun b h => by omega) e hx' hK' hI
  · exact fun i K H1 H2 h hx => h.st hx
  · exact fun j K H1 H2 h hx => h.elim
  · exact ⟨.nils, c0, rfl, Acc.nil, fun b e => by cases e⟩
  · rintro i hi K Ki args H1 ⟨u, d1, d2, d3, d4⟩ ⟨x, rfl, hu⟩ hKi hK hx hl1 hlr hKK
    simp (disch := (first | assumption | omega | (simp only [List.length_append, List.length_cons, List.length_nil]; omega))) only [↓wD,wU,Nat.reduceBEq,zx150,zx151,zx159,zx160,zx161,zx162,Nat.reduceAdd,Nat.reduceSub,Nat.reduceMul,Nat.reduceLeDiff,Nat.reduceLT,Nat.reduceEqDiff,Int.reduceAdd,Int.reduceSub,Int.reduceMul,Int.reduceNeg,Int.reduceLT,Int.reduceLE,Int.reduceEq,Int.reduceToNat,Int.cast_ofNat_Int,↓reduceIte, zx188 (lo := H.length) hlr (by omega), zx189, zx190]
    generalize e2 : H1.set Hr.length _ = H2
    have x12 : Kx (fun b => b ≠ Hr.length) H1 H2 := by rw [← e2]; exact Kx.set _ _ _
    have l12 : H2.length ≤ H1.length ∧ H1.length ≤ H2.length := by rw [← e2]; simp
    have gl := gset e2 hlr
    have r1 := x12.get (b := H.length) (by omega) d1
    have hu2 : Sl Ki H2 x ts[i] := hu.low.kp (x12.weak (q := fun b => Ki b ∧ b < H1.length) fun b _ h => by have := (hKi b h.1).1; omega).kp |>.weak fun b h => h.1
    have ha2 : Acc (H.length + 1) (fun b => (K b ∨ Ki b) ∧ H.length < b) H2 u (ts.take i) := (d3.kp (x12.weak (q := fun b => K b) fun b _ h => (hK b h).2).kp d4 fun b h => h.1).mono (Kp.refl _ _) fun b h => ⟨.inl h.1, h.2⟩
    have hbc : ∀ b, u.blk = some b → H.length < b ∧ b < H2.length ∧ b ≠ Hr.length := fun b e => ⟨by have := (ha2.blk_lt e).1; omega, (ha2.blk_lt e).2, (hK b (d4 b e)).2⟩
    clear e2
    simp (disch := (first | assumption | omega | (simp only [List.length_append, List.length_cons, List.length_nil]; omega))) only [↓wD,wU,Nat.reduceBEq,zx150,zx151,zx159,zx160,zx161,zx162,Nat.reduceAdd,Nat.reduceSub,Nat.reduceMul,Nat.reduceLeDiff,Nat.reduceLT,Nat.reduceEqDiff,Int.reduceAdd,Int.reduceSub,Int.reduceMul,Int.reduceNeg,Int.reduceLT,Int.reduceLE,Int.reduceEq,Int.reduceToNat,Int.cast_ofNat_Int,↓reduceIte, ld_of r1, hu2.cellsV]
    refine appX (ha2.pushL (by omega) (by omega) hu2 (fun b hb => ⟨⟨.inr hb, by have := (hKi b hb).1; omega⟩, fun e => (hKi b hb).2.2 (d4 b e)⟩) (by rw [List.length_take]; omega) fun u5 H5 hu5 hk5 hl5 hb5 x5 => ?_)
    have x25 : Kx (fun b => u.blk ≠ some b) H2 H5 := (Kx.app (fun b => u.blk ≠ some b) H2 _).trans x5 fun _ _ h => h
    have r5 := x25.get (b := H.length) (fun e => by have := hbc _ e; omega) r1
    have g5 := x25.get (b := Hr.length) (fun e => by have := hbc _ e; omega) gl
    have hst : st H.length H5 H.length 0 [u5] = some (H5.set H.length (.cells [u5])) := by rw [st_of r5 (Nat.le_refl _) (by simp)]; simp [wr]
    have hc5 := hu5.cellsV
    have l5 : H1.length < H5.length := by omega
    simp (disch := (first | assumption | omega | (simp only [List.length_append, List.length_cons, List.length_nil]; omega))) only [↓wD,wU,Nat.reduceBEq,zx150,zx151,zx159,zx160,zx161,zx162,Nat.reduceAdd,Nat.reduceSub,Nat.reduceMul,Nat.reduceLeDiff,Nat.reduceLT,Nat.reduceEqDiff,Int.reduceAdd,Int.reduceSub,Int.reduceMul,Int.reduceNeg,Int.reduceLT,Int.reduceLE,Int.reduceEq,Int.reduceToNat,Int.cast_ofNat_Int,↓reduceIte, hc5, hst]
    rw [show ts.take i ++ [ts[i]] = ts.take (i + 1) by rw [List.take_succ_eq_append_getElem hi]] at hu5
    refine ⟨?_, ?_, u5, get_set r5, .inl d2, ?_, ?_⟩
    · rw [List.getElem?_set_ne (by omega)]; exact g5
    · exact ((x12.weak fun b _ h => h.2).trans x25 fun b _ h e => h.1 (.inl (d4 b e))).set' (fun _ h => h.1 (.inl d2)) _
    · exact (hu5.kp (Kp.set _ _ _) (fun b e => by have := (hu5.blk_lt e).1; omega) fun b h => by omega).mono (Kp.refl _ _) fun b h => ⟨h.1.elim .inl fun h => .inr (.inl h), h.2⟩
    · intro b e
      rw [hb5] at e
      simp only [Option.some.injEq] at e
      exact .inr (.inr ⟨by omega, by rw [List.length_set]; omega⟩)
  · rintro K H1 ⟨u, d1, d2, d3, d4⟩ hx hl1
    rw [List.take_length] at d3
    simp (disch := (first | assumption | omega | (simp only [List.length_append, List.length_cons, List.length_nil]; omega))) only [↓wD,wU,Nat.reduceBEq,zx150,zx151,zx159,zx160,zx161,zx162,Nat.reduceAdd,Nat.reduceSub,Nat.reduceMul,Nat.reduceLeDiff,Nat.reduceLT,Nat.reduceEqDiff,Int.reduceAdd,Int.reduceSub,Int.reduceMul,Int.reduceNeg,Int.reduceLT,Int.reduceLE,Int.reduceEq,Int.reduceToNat,Int.cast_ofNat_Int,↓reduceIte, ld_of d1]
    exact rv_2 (d3.sl.weak fun b h => .inr (by omega)) rv_i
  · exact fun j K H' h _ _ => h.elim
theorem cols_le {t : List (List Int)} (h : TabOk t) : (colSums t).sum ≤ 16 := by
  have := cols_sum h
  have h2 := total_le h
  unfold is at this
  show ((List.range (gi t 0).length).map fun j => colPart t t.length j).sum ≤ 16
  omega
theorem fam_err {p : Nat → Prop} {H : Heap} {v : AV} {t : List (List Int)} (ht : Sl p H v t) (h : ¬ TabOk t) : RetP E 42 [v] H (.tp [.nils, .i 2]) := by
  refine RetP.ro rfl fn42 rfl rfl ?_
  unfold f42A
  have hv := valid_ret ht
  rw [decide_eq_false h] at hv
  simp (disch := (first | assumption | omega | (simp only [List.length_append, List.length_cons, List.length_nil]; omega))) only [↓wD,wU,Nat.reduceBEq,zx150,zx151,zx159,zx160,zx161,zx162,Nat.reduceAdd,Nat.reduceSub,Nat.reduceMul,Nat.reduceLeDiff,Nat.reduceLT,Nat.reduceEqDiff,Int.reduceAdd,Int.reduceSub,Int.reduceMul,Int.reduceNeg,Int.reduceLT,Int.reduceLE,Int.reduceEq,Int.reduceToNat,Int.cast_ofNat_Int,↓reduceIte, hv.call]
end Go.Proofs.Ytflekaacffdakaa
namespace Go.Proofs.Ytflekaacffdakaa
open Go Go.AM Go.Proofs
theorem lines_sum : ∀ {cs : List Int} {need : Int} {l : List Int}, 0 ≤ need → l ∈ lines cs need → l.sum = need
  | [], need, l, h0, h => by
    unfold lines at h
    split at h <;> simp at h
    subst h; simp; omega
  | c :: cs, need, l, h0, h => by
    unfold lines at h
    rw [List.mem_flatMap] at h
    obtain ⟨x, hx, h⟩ := h
    have := List.mem_range.1 hx
    obtain ⟨l', h1, rfl⟩ := List.mem_map.1 h
    rw [List.sum_cons, lines_sum (by omega) h1]
    omega
theorem lines_all : ∀ {cs l : List Int}, l.length = cs.length → (∀ x ∈ l, 0 ≤ x) → (∀ x ∈ subL cs l, 0 ≤ x) → l ∈ lines cs l.sum
  | [], [], _, _, _ => by simp [lines]
  | [], _ :: _, h, _, _ => by simp at h
  | _ :: _, [], h, _, _ => by simp at h
  | c :: cs, x :: l, h, h1, h2 => by
    have e : subL (c :: cs) (x :: l) = (c - x) :: subL cs l := rfl
    rw [e] at h2
    have hx := h1 x (by simp)
    have hc := h2 (c - x) (by simp)
    have hs := sum_nonneg fun y hy => h1 y (List.mem_cons_of_mem x hy)
    obtain ⟨x, rfl⟩ := nat_of hx
    unfold lines
    rw [List.mem_flatMap]
    refine ⟨x, List.mem_range.2 (by rw [List.sum_cons]; omega), List.mem_map.2 ⟨l, ?_, rfl⟩⟩
    rw [List.sum_cons, show (x : Int) + l.sum - x = l.sum by omega]
    exact lines_all (by simpa using h) (fun y hy => h1 y (by simp [hy])) (fun y hy => h2 y (by simp [hy]))
theorem tabsL_sums : ∀ {rs L : List Int} {t : List (List Int)}, (∀ r ∈ rs, 0 ≤ r) → t ∈ tabsL rs L → rowSums t = rs ∧ ∀ r ∈ t, r.length = L.length
  | [], L, t, _, h => by
    unfold tabsL at h
    split at h <;> simp at h
    subst h; simp [rowSums]
  | r :: rs, L, t, hr, h => by
    unfold tabsL at h
    rw [List.mem_flatMap] at h
    obtain ⟨l, hl, h⟩ := h
    obtain ⟨t', h1, rfl⟩ := List.mem_map.1 h
    obtain ⟨i1, i2⟩ := tabsL_sums (fun x hx => hr x (by simp [hx])) h1
    have hll := lines_mem hl
    rw [subL_len hll] at i2
    refine ⟨?_, fun q hq => ?_⟩
    · unfold rowSums at i1 ⊢
      rw [List.map_cons, i1, lines_sum (hr r (by simp)) hl]
    · rcases List.mem_cons.1 hq with rfl | hq
      · exact hll
      · exact i2 q hq
theorem colPart_cons {l : List Int} {t : List (List Int)} {j : Nat} : colPart (l :: t) (l :: t).length j = gi l (j : Int) + colPart t t.length j := by
  simp [colPart]
theorem tabsL_cols : ∀ {rs L : List Int} {t : List (List Int)}, (∀ r ∈ rs, 0 ≤ r ∧ r ≤ 16) → (∀ x ∈ L, 0 ≤ x ∧ x ≤ 16) → t ∈ tabsL rs L → ∀ j : Nat, j < L.length → colPart t t.length j = gi L (j : Int)
  | [], L, t, _, hL, h, j, hj => by
    unfold tabsL at h
    split at h <;> simp at h
    rename_i hm
    subst h
    have h1 := (maxL_spec (xs := L) (by omega)).2 _ (mem_gi hj)
    have h2 := hL _ (mem_gi hj)
    simp [colPart]
    omega
  | r :: rs, L, t, hr, hL, h, j, hj => by
    unfold tabsL at h
    rw [List.mem_flatMap] at h
    obtain ⟨l, hl, h⟩ := h
    obtain ⟨t', h1, rfl⟩ := List.mem_map.1 h
    have hr0 := hr r (by simp)
    have hll := lines_mem hl
    rw [colPart_cons, tabsL_cols (fun x hx => hr x (by simp [hx])) (lines_el hr0.1 hr0.2 hL hl).2 h1 j (by rw [subL_len hll]; exact hj), subL_gi hll hj]
    omega
theorem mem_idx {xs : List Int} {x : Int} (h : x ∈ xs) : ∃ j : Nat, j < xs.length ∧ gi xs (j : Int) = x := by
  obtain ⟨j, hj, rfl⟩ := List.mem_iff_getElem.1 h
  exact ⟨j, hj, gi_nat hj⟩
theorem colPart_ge : ∀ {t : List (List Int)} {m j : Nat}, (∀ r ∈ t, r.length = m ∧ ∀ x ∈ r, 0 ≤ x) → j < m → 0 ≤ colPart t t.length j
  | [], m, j, _, _ => by simp [colPart]
  | l :: t, m, j, h, hj => by
    rw [colPart_cons]
    have h1 := h l (by simp)
    have h2 := h1.2 _ (mem_gi (xs := l) (i := j) (by omega))
    have h3 := colPart_ge (t := t) (fun r hr => h r (by simp [hr])) hj
    omega
theorem tabsL_has : ∀ {t : List (List Int)} {L : List Int}, 1 ≤ L.length → (∀ r ∈ t, r.length = L.length ∧ ∀ x ∈ r, 0 ≤ x) → (∀ j : Nat, j < L.length → colPart t t.length j = gi L (j : Int)) → t ∈ tabsL (rowSums t) L
  | [], L, h1, _, hc => by
    have : ¬ maxL L > 0 := fun hm => by
      obtain ⟨j, hj, e⟩ := mem_idx (maxL_spec h1).1
      have := hc j hj
      simp [colPart] at this
      omega
    simp [rowSums, tabsL, this]
  | l :: t, L, h1, hr, hc => by
    have hl := hr l (by simp)
    have hs : ∀ j : Nat, j < L.length → gi (subL L l) (j : Int) = colPart t t.length j := fun j hj => by
      have := hc j hj
      rw [colPart_cons] at this
      rw [subL_gi hl.1 hj]; omega
    have hsl := subL_len hl.1
    have e : rowSums (l :: t) = l.sum :: rowSums t := rfl
    rw [e, tabsL, List.mem_flatMap]
    refine ⟨l, lines_all hl.1 hl.2 fun x hx => ?_, List.mem_map.2 ⟨t, tabsL_has (by omega) (fun r hr' => by rw [hsl]; exact hr r (by simp [hr'])) (fun j hj => by rw [hs j (by omega)]), rfl⟩⟩
    obtain ⟨j, hj, rfl⟩ := mem_idx hx
    rw [hs j (by omega)]
    exact colPart_ge (fun r hr' => hr r (by simp [hr'])) (by omega)
theorem family_has {t : List (List Int)} (h : TabOk t) : t ∈ tabsL (rowSums t) (colSums t) := by
  have hc := h.cols
  refine tabsL_has (by rw [colSums_len]; omega) (fun r hr => ?_) fun j hj => ?_
  · have := h.2.2.1 r hr
    exact ⟨by rw [colSums_len]; exact this.2.2.1, fun x hx => (this.2.2.2 x hx).1⟩
  · rw [colSums_len] at hj
    rw [colSums_at hj]
end Go.Proofs.Ytflekaacffdakaa
namespace Go.Proofs.Ytflekaacffdakaa
open Go Go.AM Go.Proofs
/-- how two tables compare -/
def cmpT : List (List Int) → List (List Int) → Int
  | [], [] => 0
  | [], _ :: _ => -1
  | _ :: _, [] => 1
  | x :: xs, y :: ys => if cmpL x y ≠ 0 then cmpL x y else cmpT xs ys
end Go.Proofs.Ytflekaacffdakaa
namespace Go.Proofs.Ytflekaacffdakaa
open Go Go.AM Go.Proofs
theorem tabsL_el : ∀ {rs L : List Int} {t : List (List Int)}, (∀ r ∈ rs, 0 ≤ r ∧ r ≤ 16) → (∀ x ∈ L, 0 ≤ x ∧ x ≤ 16) → t ∈ tabsL rs L → ∀ r ∈ t, ∀ x ∈ r, 0 ≤ x ∧ x ≤ 16
  | [], L, t, _, _, h => by
    unfold tabsL at h
    split at h <;> simp at h
    subst h; simp
  | r :: rs, L, t, hr, hL, h => by
    unfold tabsL at h
    rw [List.mem_flatMap] at h
    obtain ⟨l, hl, h⟩ := h
    obtain ⟨t', h1, rfl⟩ := List.mem_map.1 h
    have hr0 := hr r (by simp)
    obtain ⟨e1, e2⟩ := lines_el hr0.1 hr0.2 hL hl
    intro q hq
    rcases List.mem_cons.1 hq with rfl | hq
    · exact e1
    · exact tabsL_el (fun x hx => hr x (by simp [hx])) e2 h1 q hq
theorem family_ok {t t' : List (List Int)} (h : TabOk t) (h' : t' ∈ tabsL (rowSums t) (colSums t)) : TabOk t' ∧ rowSums t' = rowSums t ∧ colSums t' = colSums t := by
  have hc := h.cols
  have m1 := mg_rows h
  have m2 := mg_cols h (cols_le h)
  obtain ⟨s1, s2⟩ := tabsL_sums (fun r hr => (m1.el r hr).1) h'
  have s3 := tabsL_el m1.el m2.el h'
  have s4 := tabsL_cols m1.el m2.el h'
  have s5 := tabsL_mem h'
  rw [rowSums_len] at s5
  have l1 := h.1
  have l2 := h.2.1
  have g0 : (gi t' 0).length = (gi t 0).length := by
    have := s2 _ (mem_gi (xs := t') (i := 0) (by omega))
    rwa [colSums_len] at this
  refine ⟨⟨by omega, by omega, fun r hr => ⟨?_, ?_, ?_, s3 r hr⟩, ?_⟩, s1, ?_⟩
  · rw [s2 r hr, colSums_len]; omega
  · rw [s2 r hr, colSums_len]; omega
  · rw [s2 r hr, colSums_len, g0]
  · have := total_le h
    rw [← s1] at this
    exact this
  · apply List.ext_getElem (by rw [colSums_len, colSums_len, g0])
    intro j j1 j2
    have e := s4 j j2
    rw [colSums_len] at j1 j2
    rw [← gi_nat, ← gi_nat, colSums_at j1, e]
end Go.Proofs.Ytflekaacffdakaa
namespace Go.Proofs.Ytflekaacffdakaa
open Go Go.AM Go.Proofs
theorem cmpL_lt {x y : Int} {xs ys : List Int} (h : x < y) : cmpL (x :: xs) (y :: ys) < 0 := by
  have : cmpI x y = -1 := by unfold cmpI; rw [if_pos h]
  simp [cmpL, this]
theorem cmpL_eq {x : Int} {xs ys : List Int} (h : cmpL xs ys < 0) : cmpL (x :: xs) (x :: ys) < 0 := by
  simpa [cmpL, cmpI] using h
theorem lines_order : ∀ {cs : List Int} {need : Int}, (lines cs need).Pairwise fun a b => cmpL a b < 0
  | [], need => by
    unfold lines
    split <;> simp
  | c :: cs, need => by
    unfold lines
    rw [List.pairwise_flatMap]
    refine ⟨fun x _ => ?_, List.pairwise_lt_range.imp fun {x y} hxy a ha b hb => ?_⟩
    · rw [List.pairwise_map]
      exact lines_order.imp fun h => cmpL_eq h
    · obtain ⟨a, _, rfl⟩ := List.mem_map.1 ha
      obtain ⟨b, _, rfl⟩ := List.mem_map.1 hb
      exact cmpL_lt (by omega)
theorem tabsL_order : ∀ {rs L : List Int}, (tabsL rs L).Pairwise fun a b => cmpT a b < 0
  | [], L => by
    unfold tabsL
    split <;> simp
  | r :: rs, L => by
    unfold tabsL
    rw [List.pairwise_flatMap]
    refine ⟨fun x _ => ?_, lines_order.imp fun {x y} hxy a ha b hb => ?_⟩
    · rw [List.pairwise_map]
      exact tabsL_order.imp fun h => by simpa [cmpT, cmpL_refl] using h
    · obtain ⟨a, _, rfl⟩ := List.mem_map.1 ha
      obtain ⟨b, _, rfl⟩ := List.mem_map.1 hb
      have : cmpL x y ≠ 0 := by omega
      simp only [cmpT, this, ne_eq, not_false_eq_true, if_true]
      exact hxy
end Go.Proofs.Ytflekaacffdakaa
namespace Go.Proofs.Ytflekaacffdakaa
open Go Go.AM Go.Proofs
def bin : Nat → Nat → Nat
  | _, 0 => 1
  | 0, _ + 1 => 0
  | n + 1, k + 1 => bin n k + bin n (k + 1)
theorem bin_0 {n : Nat} : bin n 0 = 1 := by cases n <;> rfl
theorem bin_mul : ∀ {n k : Nat}, bin (n + 1) (k + 1) * (k + 1) = bin n k * (n + 1)
  | 0, 0 => rfl
  | 0, k + 1 => by simp [bin]
  | n + 1, 0 => by
    have h := bin_mul (n := n) (k := 0)
    rw [bin_0] at h ⊢
    have e : bin (n + 1 + 1) (0 + 1) = bin (n + 1) 0 + bin (n + 1) (0 + 1) := rfl
    rw [e, bin_0]
    omega
  | n + 1, k + 1 => by
    have h1 := bin_mul (n := n) (k := k)
    have h2 := bin_mul (n := n) (k := k + 1)
    have e : bin (n + 1 + 1) (k + 1 + 1) = bin (n + 1) (k + 1) + bin (n + 1) (k + 1 + 1) := rfl
    have e2 : bin (n + 1) (k + 1) = bin n k + bin n (k + 1) := rfl
    rw [e, Nat.add_mul, h2, Nat.mul_add (bin (n + 1) (k + 1)) (k + 1) 1, h1]
    conv => lhs; rw [e2]
    conv => rhs; rw [e2]
    grind
theorem bin_pos : ∀ {n k : Nat}, k ≤ n → 0 < bin n k
  | n, 0, _ => by rw [bin_0]; omega
  | 0, k + 1, h => by omega
  | n + 1, k + 1, h => by
    have := bin_pos (n := n) (k := k) (by omega)
    show 0 < bin n k + bin n (k + 1)
    omega
theorem bin_le : ∀ {n k : Nat}, bin (n + 1) k ≤ 2 ^ n
  | n, 0 => by rw [bin_0]; exact Nat.one_le_two_pow
  | 0, k + 1 => by cases k <;> simp [bin]
  | n + 1, k + 1 => by
    have h1 := bin_le (n := n) (k := k)
    have h2 := bin_le (n := n) (k := k + 1)
    have e : bin (n + 1 + 1) (k + 1) = bin (n + 1) k + bin (n + 1) (k + 1) := rfl
    rw [e, Nat.pow_succ]; omega
theorem bin_small {n k : Nat} (h : n ≤ 16) : bin n k ≤ 32768 := by
  cases n with
  | zero => cases k <;> simp [bin]
  | succ n => exact Nat.le_trans bin_le (Nat.pow_le_pow_right (n := 2) (by omega) (show n ≤ 15 by omega))
theorem bin_self : ∀ {n : Nat}, bin n n = 1
  | 0 => rfl
  | n + 1 => by
    have z : ∀ {m k : Nat}, m < k → bin m k = 0 := by
      intro m
      induction m with
      | zero => intro k h; cases k with
        | zero => omega
        | succ k => rfl
      | succ m ih => intro k h; cases k with
        | zero => omega
        | succ k =>
          show bin m k + bin m (k + 1) = 0
          rw [ih (by omega), ih (by omega)]
    show bin n n + bin n (n + 1) = 1
    rw [bin_self, z (by omega)]
/-- in how many orders things come of which n stand before -/
def ordN : Nat → List Nat → Nat
  | _, [] => 1
  | n, k :: ks => bin (n + k) k * ordN (n + k) ks
theorem ordN_app : ∀ {ks : List Nat} {n j : Nat}, ordN n (ks ++ [j]) = ordN n ks * bin (n + ks.sum + j) j
  | [], n, j => by simp [ordN]
  | k :: ks, n, j => by
    rw [List.cons_append]
    show bin (n + k) k * ordN (n + k) (ks ++ [j]) = bin (n + k) k * ordN (n + k) ks * _
    rw [ordN_app, Nat.mul_assoc, List.sum_cons, Nat.add_assoc n k]
theorem ordN_pos : ∀ {ks : List Nat} {n : Nat}, 0 < ordN n ks
  | [], n => by simp [ordN]
  | k :: ks, n => Nat.mul_pos (bin_pos (by omega)) ordN_pos
theorem ordN_le {ks : List Nat} (hl : ks.length ≤ 3) (hs : ks.sum ≤ 16) : ordN 0 ks ≤ 1073741824 := by
  match ks, hl with
  | [], _ => simp [ordN]
  | [a], _ => simp [ordN, bin_self]
  | [a, b], _ =>
    simp at hs
    simp [ordN, bin_self]
    exact Nat.le_trans (bin_small (by omega)) (by omega)
  | [a, b, c], _ =>
    simp at hs
    simp [ordN, bin_self]
    exact Nat.le_trans (Nat.mul_le_mul (bin_small (n := a + b) (k := b) (by omega)) (bin_small (n := a + b + c) (k := c) (by omega))) (by omega)
  | _ :: _ :: _ :: _ :: _, h => simp at h
theorem ord_step (P s j : Nat) : (((P * bin (s + j) j : Nat) : Int) * ((s : Int) + (j : Int) + 1)).tdiv ((j : Int) + 1) = ((P * bin (s + (j + 1)) (j + 1) : Nat) : Int) := by
  have e : (((P * bin (s + j) j : Nat) : Int) * ((s : Int) + (j : Int) + 1)) = ((P * bin (s + (j + 1)) (j + 1) * (j + 1) : Nat) : Int) := by
    have : P * bin (s + j) j * (s + j + 1) = P * bin (s + (j + 1)) (j + 1) * (j + 1) := by
      rw [Nat.mul_assoc, Nat.mul_assoc, ← Nat.add_assoc, bin_mul]
    rw [← this]
    simp
  rw [e, show ((j : Int) + 1) = ((j + 1 : Nat) : Int) by simp, tdivN, Nat.mul_div_cancel _ (by omega)]
def toN (xs : List Int) : List Nat := xs.map Int.toNat
def ordL (xs : List Int) : Nat := ordN 0 (toN xs)
theorem toN_sum : ∀ {xs : List Int}, (∀ x ∈ xs, 0 ≤ x) → ((toN xs).sum : Int) = xs.sum
  | [], _ => rfl
  | x :: xs, h => by
    have := toN_sum (xs := xs) fun y hy => h y (by simp [hy])
    have h0 := h x (by simp)
    unfold toN at this ⊢
    simp only [List.map_cons, List.sum_cons]
    omega
theorem toN_take {xs : List Int} {i : Nat} (h : i < xs.length) : toN (xs.take (i + 1)) = toN (xs.take i) ++ [(gi xs (i : Int)).toNat] := by
  unfold toN
  rw [take_gi h, List.map_append]; rfl
/-- what the inner loop needs -/
theorem ord_inner {xs : List Int} (hl : xs.length ≤ 3) (h0 : ∀ x ∈ xs, 0 ≤ x) (hs : xs.sum ≤ 16) {i : Nat} (hi : i < xs.length) : ∃ P s k : Nat, ordN 0 (toN (xs.take i)) = P ∧ ((xs.take i).sum : Int) = s ∧ gi xs (i : Int) = k ∧ s + k ≤ 16 ∧ ((xs.take (i + 1)).sum : Int) = s + k ∧ ordN 0 (toN (xs.take (i + 1))) = P * bin (s + k) k ∧ ∀ j, j ≤ k → P * bin (s + j) j ≤ 1073741824 := by
  have hk := h0 _ (mem_gi hi)
  obtain ⟨k, ek⟩ := Int.eq_ofNat_of_zero_le hk
  have h1 : ∀ x ∈ xs.take i, 0 ≤ x := fun x hx => h0 x (List.mem_of_mem_take hx)
  have hts := toN_sum h1
  have hst := sum_take hi
  have hle : (xs.take (i + 1)).sum ≤ xs.sum := by
    have h2 := sum_nonneg (xs := xs.drop (i + 1)) fun x hx => h0 x (List.mem_of_mem_drop hx)
    have h3 : xs.sum = (xs.take (i + 1)).sum + (xs.drop (i + 1)).sum := by rw [← List.sum_append, List.take_append_drop]
    omega
  refine ⟨_, _, k, rfl, hts.symm, ek, by omega, by omega, ?_, fun j hj => ?_⟩
  · rw [toN_take hi, ordN_app, ek]
    simp
  · have e := ordN_app (ks := toN (xs.take i)) (n := 0) (j := j)
    rw [Nat.zero_add] at e
    rw [← e]
    refine ordN_le ?_ ?_
    · unfold toN; simp; omega
    · rw [List.sum_append]; simp; omega
theorem choose_ret {p : Nat → Prop} {H : Heap} {v : AV} {xs : List Int} (hx : Sl p H v xs) (hl : xs.length ≤ 3) (h0 : ∀ x ∈ xs, 0 ≤ x) (hs : xs.sum ≤ 16) : RetP E 87 [v] H (.i (ordL xs : Nat)) := by
  refine RetP.ro rfl fn87 rfl rfl ?_
  unfold f87A
  have hI := hx.I
  simp (disch := (first | assumption | omega | (simp only [List.length_append, List.length_cons, List.length_nil]; omega))) only [↓wD,wU,Nat.reduceBEq,zx150,zx151,zx159,zx160,zx161,zx162,Nat.reduceAdd,Nat.reduceSub,Nat.reduceMul,Nat.reduceLeDiff,Nat.reduceLT,Nat.reduceEqDiff,Int.reduceAdd,Int.reduceSub,Int.reduceMul,Int.reduceNeg,Int.reduceLT,Int.reduceLE,Int.reduceEq,Int.reduceToNat,Int.cast_ofNat_Int,↓reduceIte, hI]
  refine Wp.for xs.length (fun i a H' => H' = H ∧ a 3 = .i (ordN 0 (toN (xs.take i)) : Nat) ∧ a 4 = .i (xs.take i).sum ∧ a 8 = v ∧ a 9 = .i xs.length ∧ a 10 = .i i) ?_ ?_
  · rintro i a H' hi ⟨rfl, a3, a4, a8, a9, a10⟩ ih
    simp (disch := (first | assumption | omega | (simp only [List.length_append, List.length_cons, List.length_nil]; omega))) only [↓wD,wU,Nat.reduceBEq,zx150,zx151,zx159,zx160,zx161,zx162,Nat.reduceAdd,Nat.reduceSub,Nat.reduceMul,Nat.reduceLeDiff,Nat.reduceLT,Nat.reduceEqDiff,Int.reduceAdd,Int.reduceSub,Int.reduceMul,Int.reduceNeg,Int.reduceLT,Int.reduceLE,Int.reduceEq,Int.reduceToNat,Int.cast_ofNat_Int,↓reduceIte, a3, a4, a8, a9, a10]
    refine condP_split (fun hlt => ?_) (fun hlt => ?_)
    · have hi' : i < xs.length := by omega
      obtain ⟨P, s, k, e1, e2, e3, hsk, e4, e5, hb⟩ := ord_inner hl h0 hs hi'
      rw [e1] at a3
      rw [e2] at a4
      simp (disch := (first | assumption | omega | (simp only [List.length_append, List.length_cons, List.length_nil]; omega))) only [↓wD,wU,Nat.reduceBEq,zx150,zx151,zx159,zx160,zx161,zx162,Nat.reduceAdd,Nat.reduceSub,Nat.reduceMul,Nat.reduceLeDiff,Nat.reduceLT,Nat.reduceEqDiff,Int.reduceAdd,Int.reduceSub,Int.reduceMul,Int.reduceNeg,Int.reduceLT,Int.reduceLE,Int.reduceEq,Int.reduceToNat,Int.cast_ofNat_Int,↓reduceIte, a3, a4, a8, a9, a10, hI, e3]
      refine Wp.for k (fun j a H'' => H'' = H' ∧ a 3 = .i (P * bin (s + j) j : Nat) ∧ a 4 = .i (s + j) ∧ a 8 = v ∧ a 9 = .i xs.length ∧ a 10 = .i i ∧ a 6 = .i k ∧ a 7 = .i (j + 1)) ?_ ?_
      · clear a3 a4 a8 a9 a10
        rintro j a H' hj ⟨rfl, a3, a4, a8, a9, a10, a6, a7⟩ ih2
        simp (disch := (first | assumption | omega | (simp only [List.length_append, List.length_cons, List.length_nil]; omega))) only [↓wD,wU,Nat.reduceBEq,zx150,zx151,zx159,zx160,zx161,zx162,Nat.reduceAdd,Nat.reduceSub,Nat.reduceMul,Nat.reduceLeDiff,Nat.reduceLT,Nat.reduceEqDiff,Int.reduceAdd,Int.reduceSub,Int.reduceMul,Int.reduceNeg,Int.reduceLT,Int.reduceLE,Int.reduceEq,Int.reduceToNat,Int.cast_ofNat_Int,↓reduceIte, a3, a4, a8, a9, a10, a6, a7]
        refine condP_split (fun hlt => ?_) (fun hlt => ?_)
        · have hj' : j < k := by omega
          have b1 := hb j hj
          have b2 := hb (j + 1) hj'
          have st := ord_step P s j
          obtain ⟨X, eX⟩ : ∃ X, P * bin (s + j) j = X := ⟨_, rfl⟩
          obtain ⟨Y, eY⟩ : ∃ Y, P * bin (s + (j + 1)) (j + 1) = Y := ⟨_, rfl⟩
          rw [eX] at a3 b1 st
          rw [eY] at b2 st
          have mb : (X : Int) * (s + j + 1) ≤ 1073741824 * 17 := Int.mul_le_mul (by omega) (by omega) (by omega) (by omega)
          have mb0 : 0 ≤ (X : Int) * (s + j + 1) := Int.mul_nonneg (by omega) (by omega)
          have ne : ¬ (j : Int) + 1 = 0 := by omega
          obtain ⟨Z, eZ⟩ : ∃ Z, (X : Int) * (s + j + 1) = Z := ⟨_, rfl⟩
          rw [eZ] at mb mb0 st
          simp (disch := (first | assumption | omega | (simp only [List.length_append, List.length_cons, List.length_nil]; omega))) only [↓wD,wU,Nat.reduceBEq,zx150,zx151,zx159,zx160,zx161,zx162,Nat.reduceAdd,Nat.reduceSub,Nat.reduceMul,Nat.reduceLeDiff,Nat.reduceLT,Nat.reduceEqDiff,Int.reduceAdd,Int.reduceSub,Int.reduceMul,Int.reduceNeg,Int.reduceLT,Int.reduceLE,Int.reduceEq,Int.reduceToNat,Int.cast_ofNat_Int,↓reduceIte, a3, a4, a8, a9, a10, a6, a7, eZ, st]
          refine (ih2 hj').go ⟨rfl, ?_⟩
          simp (disch := (first | assumption | omega | (simp only [List.length_append, List.length_cons, List.length_nil]; omega))) only [↓wD,wU,Nat.reduceBEq,zx150,zx151,zx159,zx160,zx161,zx162,Nat.reduceAdd,Nat.reduceSub,Nat.reduceMul,Nat.reduceLeDiff,Nat.reduceLT,Nat.reduceEqDiff,Int.reduceAdd,Int.reduceSub,Int.reduceMul,Int.reduceNeg,Int.reduceLT,Int.reduceLE,Int.reduceEq,Int.reduceToNat,Int.cast_ofNat_Int,↓reduceIte, a3, a4, a8, a9, a10, a6, a7, eY]
          rw [Int.add_assoc]
        · obtain rfl : j = k := by omega
          rw [← e5] at a3
          rw [← e4] at a4
          simp (disch := (first | assumption | omega | (simp only [List.length_append, List.length_cons, List.length_nil]; omega))) only [↓wD,wU,Nat.reduceBEq,zx150,zx151,zx159,zx160,zx161,zx162,Nat.reduceAdd,Nat.reduceSub,Nat.reduceMul,Nat.reduceLeDiff,Nat.reduceLT,Nat.reduceEqDiff,Int.reduceAdd,Int.reduceSub,Int.reduceMul,Int.reduceNeg,Int.reduceLT,Int.reduceLE,Int.reduceEq,Int.reduceToNat,Int.cast_ofNat_Int,↓reduceIte, a3, a4, a8, a9, a10, a6, a7]
          refine (ih hi').go ⟨rfl, ?_⟩
          simp (disch := (first | assumption | omega | (simp only [List.length_append, List.length_cons, List.length_nil]; omega))) only [↓wD,wU,Nat.reduceBEq,zx150,zx151,zx159,zx160,zx161,zx162,Nat.reduceAdd,Nat.reduceSub,Nat.reduceMul,Nat.reduceLeDiff,Nat.reduceLT,Nat.reduceEqDiff,Int.reduceAdd,Int.reduceSub,Int.reduceMul,Int.reduceNeg,Int.reduceLT,Int.reduceLE,Int.reduceEq,Int.reduceToNat,Int.cast_ofNat_Int,↓reduceIte, a3, a4, a8, a9, a10, a6, a7]
      · simp (disch := (first | assumption | omega | (simp only [List.length_append, List.length_cons, List.length_nil]; omega))) only [↓wD,wU,Nat.reduceBEq,zx150,zx151,zx159,zx160,zx161,zx162,Nat.reduceAdd,Nat.reduceSub,Nat.reduceMul,Nat.reduceLeDiff,Nat.reduceLT,Nat.reduceEqDiff,Int.reduceAdd,Int.reduceSub,Int.reduceMul,Int.reduceNeg,Int.reduceLT,Int.reduceLE,Int.reduceEq,Int.reduceToNat,Int.cast_ofNat_Int,↓reduceIte, a3, a4, a8, a9, a10]
        simp [bin_0]
    · obtain rfl : i = xs.length := by omega
      rw [List.take_length] at a3
      simp (disch := (first | assumption | omega | (simp only [List.length_append, List.length_cons, List.length_nil]; omega))) only [↓wD,wU,Nat.reduceBEq,zx150,zx151,zx159,zx160,zx161,zx162,Nat.reduceAdd,Nat.reduceSub,Nat.reduceMul,Nat.reduceLeDiff,Nat.reduceLT,Nat.reduceEqDiff,Int.reduceAdd,Int.reduceSub,Int.reduceMul,Int.reduceNeg,Int.reduceLT,Int.reduceLE,Int.reduceEq,Int.reduceToNat,Int.cast_ofNat_Int,↓reduceIte, a3]
      rfl
  · (simp (disch := (first | assumption | omega | (simp only [List.length_append, List.length_cons, List.length_nil]; omega))) only [↓wD,wU,Nat.reduceBEq,zx150,zx151,zx159,zx160,zx161,zx162,Nat.reduceAdd,Nat.reduceSub,Nat.reduceMul,Nat.reduceLeDiff,Nat.reduceLT,Nat.reduceEqDiff,Int.reduceAdd,Int.reduceSub,Int.reduceMul,Int.reduceNeg,Int.reduceLT,Int.reduceLE,Int.reduceEq,Int.reduceToNat,Int.cast_ofNat_Int,↓reduceIte]) <;> simp [toN, ordN]
end Go.Proofs.Ytflekaacffdakaa
namespace Go.Proofs.Ytflekaacffdakaa
open Go Go.AM Go.Proofs
/-- in how many ways a table comes -/
def wayN : List (List Int) → Nat
  | [] => 1
  | r :: t => wayN t * ordL r
theorem wayN_take {t : List (List Int)} : ∀ {i : Nat}, i < t.length → wayN (t.take (i + 1)) = wayN (t.take i) * ordL (gi t (i : Int)) := by
  induction t with
  | nil => intro i h; simp at h
  | cons r t ih =>
    intro i h
    cases i with
    | zero => simp [wayN]; rfl
    | succ i =>
      rw [List.take_succ_cons, List.take_succ_cons, gi_consS]
      show wayN (t.take (i + 1)) * ordL r = wayN (t.take i) * ordL r * _
      rw [ih (by simpa using h)]
      grind
theorem wayN_pos : ∀ {t : List (List Int)}, 0 < wayN t
  | [] => by simp [wayN]
  | r :: t => Nat.mul_pos wayN_pos ordN_pos
theorem row_ord {t : List (List Int)} (h : TabOk t) {i : Nat} (hi : i < t.length) : (gi t (i : Int)).length ≤ 3 ∧ (∀ x ∈ gi t (i : Int), 0 ≤ x) ∧ (gi t (i : Int)).sum ≤ 16 := by
  have hr := h.2.2.1 _ (mem_gi hi)
  exact ⟨hr.2.1, fun x hx => (hr.2.2.2 x hx).1, row_le_total h (mem_gi hi)⟩
theorem ordN_le2 {ks : List Nat} (hl : ks.length ≤ 3) : ordN 0 ks ≤ 4 ^ ks.sum := by
  have b : ∀ {n k : Nat}, bin n k ≤ 2 ^ n := fun {n k} => by
    cases n with
    | zero => cases k <;> simp [bin]
    | succ n => exact Nat.le_trans bin_le (Nat.pow_le_pow_right (by omega) (by omega))
  have four : ∀ n : Nat, 4 ^ n = 2 ^ n * 2 ^ n := fun n => by rw [show 4 = 2 * 2 by rfl, Nat.mul_pow]
  match ks, hl with
  | [], _ => simp [ordN]
  | [a], _ => simp [ordN, bin_self]; exact Nat.one_le_pow _ _ (by omega)
  | [a, c], _ =>
    simp [ordN, bin_self]
    refine Nat.le_trans b ?_
    exact Nat.pow_le_pow_left (by omega) _
  | [a, c, d], _ =>
    simp [ordN, bin_self]
    rw [four]
    exact Nat.mul_le_mul (Nat.le_trans b (Nat.pow_le_pow_right (by omega) (by omega))) (Nat.le_trans b (Nat.pow_le_pow_right (by omega) (by omega)))
  | _ :: _ :: _ :: _ :: _, h => simp at h
theorem ordL_le2 {xs : List Int} (hl : xs.length ≤ 3) (h0 : ∀ x ∈ xs, 0 ≤ x) : ordL xs ≤ 4 ^ xs.sum.toNat := by
  have h := ordN_le2 (ks := toN xs) (by unfold toN; simpa using hl)
  have e := toN_sum h0
  have : (toN xs).sum = xs.sum.toNat := by omega
  rwa [this] at h
theorem wayN_le : ∀ {t : List (List Int)}, (∀ r ∈ t, r.length ≤ 3 ∧ ∀ x ∈ r, 0 ≤ x) → wayN t ≤ 4 ^ (t.map List.sum).sum.toNat
  | [], _ => by simp [wayN]
  | r :: t, h => by
    have h1 := h r (by simp)
    have h2 := wayN_le (t := t) fun q hq => h q (by simp [hq])
    have h3 := ordL_le2 h1.1 h1.2
    have s1 := sum_nonneg h1.2
    have s2 : 0 ≤ (t.map List.sum).sum := sum_nonneg fun x hx => by
      obtain ⟨q, hq, rfl⟩ := List.mem_map.1 hx
      exact sum_nonneg (h q (by simp [hq])).2
    have e : ((r :: t).map List.sum).sum.toNat = (t.map List.sum).sum.toNat + r.sum.toNat := by
      rw [List.map_cons, List.sum_cons]; omega
    rw [e, Nat.pow_add]
    exact Nat.mul_le_mul h2 h3
theorem wayN_small {t : List (List Int)} (h : TabOk t) (i : Nat) : wayN (t.take i) ≤ 4294967296 := by
  have h1 : ∀ r ∈ t, r.length ≤ 3 ∧ ∀ x ∈ r, 0 ≤ x := fun r hr => ⟨(h.2.2.1 r hr).2.1, fun x hx => ((h.2.2.1 r hr).2.2.2 x hx).1⟩
  refine Nat.le_trans (wayN_le fun r hr => h1 r (List.mem_of_mem_take hr)) ?_
  have hn : ∀ x ∈ t.map List.sum, 0 ≤ x := fun x hx => by
    obtain ⟨q, hq, rfl⟩ := List.mem_map.1 hx
    exact sum_nonneg (h1 q hq).2
  have hle : ((t.take i).map List.sum).sum ≤ (t.map List.sum).sum := by
    rw [List.map_take]
    have h2 := sum_nonneg (xs := (t.map List.sum).drop i) fun x hx => hn x (List.mem_of_mem_drop hx)
    have h3 : (t.map List.sum).sum = ((t.map List.sum).take i).sum + ((t.map List.sum).drop i).sum := by rw [← List.sum_append, List.take_append_drop]
    omega
  have := h.2.2.2
  exact Nat.pow_le_pow_right (n := 4) (by omega) (show ((t.take i).map List.sum).sum.toNat ≤ 16 by omega)
theorem weight_ret {p : Nat → Prop} {H : Heap} {v : AV} {t : List (List Int)} (ht : Sl p H v t) (h : TabOk t) : RetP E 86 [v] H (.i (wayN t : Nat)) := by
  refine RetP.ro rfl fn86 rfl rfl ?_
  unfold f86A
  have hL := ht.L
  have h3 := h.2.1
  simp (disch := (first | assumption | omega | (simp only [List.length_append, List.length_cons, List.length_nil]; omega))) only [↓wD,wU,Nat.reduceBEq,zx150,zx151,zx159,zx160,zx161,zx162,Nat.reduceAdd,Nat.reduceSub,Nat.reduceMul,Nat.reduceLeDiff,Nat.reduceLT,Nat.reduceEqDiff,Int.reduceAdd,Int.reduceSub,Int.reduceMul,Int.reduceNeg,Int.reduceLT,Int.reduceLE,Int.reduceEq,Int.reduceToNat,Int.cast_ofNat_Int,↓reduceIte, hL]
  refine Wp.for t.length (fun i a H' => H' = H ∧ a 3 = .i (wayN (t.take i) : Nat) ∧ a 6 = v ∧ a 7 = .i t.length ∧ a 8 = .i i) ?_ ?_
  · rintro i a H' hi ⟨rfl, a3, a6, a7, a8⟩ ih
    simp (disch := (first | assumption | omega | (simp only [List.length_append, List.length_cons, List.length_nil]; omega))) only [↓wD,wU,Nat.reduceBEq,zx150,zx151,zx159,zx160,zx161,zx162,Nat.reduceAdd,Nat.reduceSub,Nat.reduceMul,Nat.reduceLeDiff,Nat.reduceLT,Nat.reduceEqDiff,Int.reduceAdd,Int.reduceSub,Int.reduceMul,Int.reduceNeg,Int.reduceLT,Int.reduceLE,Int.reduceEq,Int.reduceToNat,Int.cast_ofNat_Int,↓reduceIte, a3, a6, a7, a8]
    refine condP_split (fun hlt => ?_) (fun hlt => ?_)
    · have hi' : i < t.length := by omega
      have g := ht.get (k := (i : Int)) (by omega) (by omega)
      obtain ⟨o1, o2, o3⟩ := row_ord h hi'
      have ch := choose_ret g o1 o2 o3
      have e := wayN_take hi'
      have b1 := wayN_small h i
      have b2 := wayN_small h (i + 1)
      obtain ⟨X, eX⟩ : ∃ X, wayN (t.take i) = X := ⟨_, rfl⟩
      obtain ⟨Y, eY⟩ : ∃ Y, wayN (t.take (i + 1)) = Y := ⟨_, rfl⟩
      obtain ⟨Z, eZ⟩ : ∃ Z, ordL (gi t (i : Int)) = Z := ⟨_, rfl⟩
      rw [eX] at a3 b1 e
      rw [eY] at b2 e
      rw [eZ] at ch e
      have e' : (X : Int) * Z = Y := by rw [e]; simp
      clear o1 o2 o3 e
      simp (disch := (first | assumption | omega | (simp only [List.length_append, List.length_cons, List.length_nil]; omega))) only [↓wD,wU,Nat.reduceBEq,zx150,zx151,zx159,zx160,zx161,zx162,Nat.reduceAdd,Nat.reduceSub,Nat.reduceMul,Nat.reduceLeDiff,Nat.reduceLT,Nat.reduceEqDiff,Int.reduceAdd,Int.reduceSub,Int.reduceMul,Int.reduceNeg,Int.reduceLT,Int.reduceLE,Int.reduceEq,Int.reduceToNat,Int.cast_ofNat_Int,↓reduceIte, a3, a6, a7, a8, hL, ch.call, e']
      refine (ih hi').go ⟨rfl, ?_⟩
      simp (disch := (first | assumption | omega | (simp only [List.length_append, List.length_cons, List.length_nil]; omega))) only [↓wD,wU,Nat.reduceBEq,zx150,zx151,zx159,zx160,zx161,zx162,Nat.reduceAdd,Nat.reduceSub,Nat.reduceMul,Nat.reduceLeDiff,Nat.reduceLT,Nat.reduceEqDiff,Int.reduceAdd,Int.reduceSub,Int.reduceMul,Int.reduceNeg,Int.reduceLT,Int.reduceLE,Int.reduceEq,Int.reduceToNat,Int.cast_ofNat_Int,↓reduceIte, a3, a6, a7, a8, eY]
    · obtain rfl : i = t.length := by omega
      rw [List.take_length] at a3
      simp (disch := (first | assumption | omega | (simp only [List.length_append, List.length_cons, List.length_nil]; omega))) only [↓wD,wU,Nat.reduceBEq,zx150,zx151,zx159,zx160,zx161,zx162,Nat.reduceAdd,Nat.reduceSub,Nat.reduceMul,Nat.reduceLeDiff,Nat.reduceLT,Nat.reduceEqDiff,Int.reduceAdd,Int.reduceSub,Int.reduceMul,Int.reduceNeg,Int.reduceLT,Int.reduceLE,Int.reduceEq,Int.reduceToNat,Int.cast_ofNat_Int,↓reduceIte, a3]
  · (simp (disch := (first | assumption | omega | (simp only [List.length_append, List.length_cons, List.length_nil]; omega))) only [↓wD,wU,Nat.reduceBEq,zx150,zx151,zx159,zx160,zx161,zx162,Nat.reduceAdd,Nat.reduceSub,Nat.reduceMul,Nat.reduceLeDiff,Nat.reduceLT,Nat.reduceEqDiff,Int.reduceAdd,Int.reduceSub,Int.reduceMul,Int.reduceNeg,Int.reduceLT,Int.reduceLE,Int.reduceEq,Int.reduceToNat,Int.cast_ofNat_Int,↓reduceIte]) <;> simp [wayN]
end Go.Proofs.Ytflekaacffdakaa
namespace Go.Proofs.Ytflekaacffdakaa
open Go Go.AM Go.Proofs
theorem cols_ord {t : List (List Int)} (h : TabOk t) : (colSums t).length ≤ 3 ∧ (∀ x ∈ colSums t, 0 ≤ x) ∧ (colSums t).sum ≤ 16 := by
  have m := mg_cols h (cols_le h)
  exact ⟨m.2.1, fun x hx => (m.el x hx).1, cols_le h⟩
theorem ordL_small {xs : List Int} (hl : xs.length ≤ 3) (h0 : ∀ x ∈ xs, 0 ≤ x) (hs : xs.sum ≤ 16) : ordL xs ≤ 1073741824 ∧ 0 < ordL xs := by
  have e := toN_sum h0
  exact ⟨ordN_le (by unfold toN; simpa using hl) (by omega), ordN_pos⟩
def chF (t : List (List Int)) : Int × Int := fracN (wayN t) (ordL (colSums t))
theorem chance_ret {p : Nat → Prop} {H : Heap} {v : AV} {t : List (List Int)} (ht : Sl p H v t) (h : TabOk t) : RetP E 49 [v] H (.tp [.ag [.i (chF t).1, .i (chF t).2], .i 0]) := by
  refine RetP.ro rfl fn49 rfl rfl ?_
  unfold f49A
  have k0 := ht.app [.cells [.int .i64 0, .int .i64 0]]
  have hv := valid_ret k0
  rw [decide_eq_true h] at hv
  simp (disch := (first | assumption | omega | (simp only [List.length_append, List.length_cons, List.length_nil]; omega))) only [↓wD,wU,Nat.reduceBEq,zx150,zx151,zx159,zx160,zx161,zx162,Nat.reduceAdd,Nat.reduceSub,Nat.reduceMul,Nat.reduceLeDiff,Nat.reduceLT,Nat.reduceEqDiff,Int.reduceAdd,Int.reduceSub,Int.reduceMul,Int.reduceNeg,Int.reduceLT,Int.reduceLE,Int.reduceEq,Int.reduceToNat,Int.cast_ofNat_Int,↓reduceIte, hv.call, (weight_ret k0 h).call]
  refine (family_ret k0 h).toX fun w H1 x1 hw => ?_
  obtain ⟨cs, rfl, c1, c2, rfl, ⟨v1, rfl, q1⟩, ⟨v2, rfl, q2⟩⟩ := hw
  have c0 : H1[H.length]? = some (.cells [.i 0, .i 0]) := x1.get trivial (by simp)
  obtain ⟨o1, o2, o3⟩ := cols_ord h
  have ch := choose_ret q2 o1 o2 o3
  obtain ⟨b1, b2⟩ := ordL_small o1 o2 o3
  have b3 := wayN_small h t.length
  rw [List.take_length] at b3
  have fr := frac_ret (H := H1) (wayN t) (ordL (colSums t)) (by omega) (by omega) b2
  have eF : fracN (wayN t) (ordL (colSums t)) = chF t := rfl
  rw [eF] at fr
  generalize chF t = F at fr
  generalize ordL (colSums t) = D at fr ch
  generalize wayN t = N at fr
  obtain ⟨F1, F2⟩ := F
  simp only [List.singleton_append, List.cons_append, List.nil_append]
  have hst : st H.length H1 H.length 0 [.i F1, .i F2] = some (H1.set H.length (.cells [.i F1, .i F2])) := by rw [st_of c0 (Nat.le_refl _) (by simp)]; simp [wr]
  simp (disch := (first | assumption | omega | (simp only [List.length_append, List.length_cons, List.length_nil]; omega))) only [↓wD,wU,Nat.reduceBEq,zx150,zx151,zx159,zx160,zx161,zx162,Nat.reduceAdd,Nat.reduceSub,Nat.reduceMul,Nat.reduceLeDiff,Nat.reduceLT,Nat.reduceEqDiff,Int.reduceAdd,Int.reduceSub,Int.reduceMul,Int.reduceNeg,Int.reduceLT,Int.reduceLE,Int.reduceEq,Int.reduceToNat,Int.cast_ofNat_Int,↓reduceIte, ch.call, fr.call, hst, ldn_of (get_set c0)]
def tailN : List (List (List Int)) → Nat → Nat
  | [], _ => 0
  | u :: ts, w => tailN ts w + if wayN u ≤ w then wayN u else 0
theorem tailN_take {w : Nat} {ts : List (List (List Int))} : ∀ {i : Nat}, i < ts.length → tailN (ts.take (i + 1)) w = tailN (ts.take i) w + if wayN (gi ts (i : Int)) ≤ w then wayN (gi ts (i : Int)) else 0 := by
  induction ts with
  | nil => intro i h; simp at h
  | cons u ts ih =>
    intro i h
    cases i with
    | zero => simp [tailN]; rfl
    | succ i =>
      rw [List.take_succ_cons, List.take_succ_cons, gi_consS]
      show tailN (ts.take (i + 1)) w + _ = tailN (ts.take i) w + _ + _
      rw [ih (by simpa using h)]
      omega
theorem tailN_le {w : Nat} : ∀ {ts : List (List (List Int))}, (∀ u ∈ ts, wayN u ≤ 4294967296) → tailN ts w ≤ ts.length * 4294967296
  | [], _ => by simp [tailN]
  | u :: ts, h => by
    have h1 := h u (by simp)
    have h2 := tailN_le (w := w) (ts := ts) fun x hx => h x (by simp [hx])
    have e : tailN (u :: ts) w = tailN ts w + if wayN u ≤ w then wayN u else 0 := rfl
    rw [e, List.length_cons, Nat.add_mul, Nat.one_mul]
    refine Nat.add_le_add h2 ?_
    split
    · exact h1
    · exact Nat.zero_le _
def taF (t : List (List Int)) : Int × Int := fracN (tailN (tabsL (rowSums t) (colSums t)) (wayN t)) (ordL (colSums t))
/-- what the walks of Tail use -/
theorem tail_facts {t : List (List Int)} (h : TabOk t) : ∃ ts, tabsL (rowSums t) (colSums t) = ts ∧ (∀ i, tailN (ts.take i) (wayN t) ≤ 103670070174154752) ∧ ∀ i : Nat, i < ts.length → TabOk (gi ts (i : Int)) := by
  have h1 := mg_rows h
  have h2 := mg_cols h (cols_le h)
  refine ⟨_, rfl, fun i => ?_, fun i hi => (family_ok h (mem_gi hi)).1⟩
  have hts : (tabsL (rowSums t) (colSums t)).length ≤ 24137569 := by
    refine Nat.le_trans (tabsL_len2 h1.el h2.el h2.2.1) ?_
    have : 289 ^ (rowSums t).length ≤ 289 ^ 3 := Nat.pow_le_pow_right (by omega) h1.2.1
    omega
  have := tailN_le (w := wayN t) (ts := (tabsL (rowSums t) (colSums t)).take i) fun u hu => by
    have := wayN_small (family_ok h (List.mem_of_mem_take hu)).1 u.length
    rwa [List.take_length] at this
  rw [List.length_take] at this
  have h3 : min i (tabsL (rowSums t) (colSums t)).length * 4294967296 ≤ 24137569 * 4294967296 := Nat.mul_le_mul_right _ (by omega)
  omega
theorem tail_ret {p : Nat → Prop} {H : Heap} {v : AV} {t : List (List Int)} (ht : Sl p H v t) (h : TabOk t) : RetP E 50 [v] H (.tp [.ag [.i (taF t).1, .i (taF t).2], .i 0]) := by
  refine RetP.ro rfl fn50 rfl rfl ?_
  unfold f50A
  replace ht : Sl (fun b => b < H.length) H v t := ht.low.weak fun _ h => h.2
  have k0 := ht.app [.cells [.int .i64 0, .int .i64 0]]
  have hv := valid_ret k0
  rw [decide_eq_true h] at hv
  have b3 := wayN_small h t.length
  rw [List.take_length] at b3
  obtain ⟨W, eW⟩ : ∃ W, wayN t = W := ⟨_, rfl⟩
  have hw0 := weight_ret k0 h
  rw [eW] at hw0 b3
  obtain ⟨H2, eH2⟩ : ∃ H2, H ++ [.cells [.int .i64 0, .int .i64 0]] ++ [Blk.cells [.i (W : Nat)]] ++ [Blk.cells [.i 0]] = H2 := ⟨_, rfl⟩
  have x2 : Kx (fun _ => True) H H2 := by rw [← eH2]; exact ((Kx.app _ _ _).app' _).app' _
  have n2 : H2.length = H.length + 3 := by rw [← eH2]; simp
  have d0 : H2[H.length]? = some (.cells [.i 0, .i 0]) := by rw [← eH2]; simp
  have d1 : H2[H.length + 1]? = some (.cells [.i (W : Nat)]) := by rw [← eH2]; simp [List.getElem?_append]
  have d2 : H2[H.length + 2]? = some (.cells [.i 0]) := by rw [← eH2]; simp [List.getElem?_append]
  have hst1 : st H.length (H ++ [.cells [.int .i64 0, .int .i64 0]] ++ [Blk.cells [.int .i64 0]]) (H.length + 1) 0 [.i (W : Nat)] = some (H ++ [.cells [.int .i64 0, .int .i64 0]] ++ [Blk.cells [.i (W : Nat)]]) := by
    rw [st_of (cs := [.i 0]) (by simp [List.getElem?_append]) (by omega) (by simp)]
    congr 1
    simp [wr, List.set_append]
  have hst2 : st H.length H2 (H.length + 2) 0 [.i 0] = some H2 := by
    rw [st_of d2 (by omega) (by simp)]
    congr 1
    rw [← eH2]
    simp [wr, List.set_append]
  have k2 : Sl (fun b => b < H.length) H2 v t := ht.kp (x2.all _).kp
  simp (disch := (first | assumption | omega | (simp only [List.length_append, List.length_cons, List.length_nil]; omega))) only [↓wD,wU,Nat.reduceBEq,zx150,zx151,zx159,zx160,zx161,zx162,Nat.reduceAdd,Nat.reduceSub,Nat.reduceMul,Nat.reduceLeDiff,Nat.reduceLT,Nat.reduceEqDiff,Int.reduceAdd,Int.reduceSub,Int.reduceMul,Int.reduceNeg,Int.reduceLT,Int.reduceLE,Int.reduceEq,Int.reduceToNat,Int.cast_ofNat_Int,↓reduceIte, hv.call, hw0.call, hst1, eH2, hst2]
  refine (family_ret k2 h).toX fun w Hr x1 hw => ?_
  obtain ⟨cs, rfl, c1, c2, rfl, ⟨v1, rfl, q1⟩, ⟨v2, rfl, q2⟩⟩ := hw
  obtain ⟨ts, ets, hb, hok⟩ := tail_facts h
  rw [eW] at hb
  have r0 := x1.get trivial d0
  have r1 := x1.get trivial d1
  have r2 := x1.get trivial d2
  have nr := x1.1
  have q1' : Sl (fun b => ¬ b = H.length + 2) Hr v1 (rowSums t) := q1.weak fun b h => h.elim (fun h => h.elim) fun h => by omega
  have q2' : Sl (fun b => ¬ b = H.length + 2) Hr v2 (colSums t) := q2.weak fun b h => h.elim (fun h => h.elim) fun h => by omega
  have kr : Sl (fun b => b < H.length) Hr v t := k2.kp (x1.all _).kp
  have m1 := mg_rows h
  have m2 := mg_cols h (cols_le h)
  clear hst1 hst2 hw0 hv k0 eH2 d0 d1 d2
  simp only [List.singleton_append, List.cons_append, List.nil_append]
  simp (disch := (first | assumption | omega | (simp only [List.length_append, List.length_cons, List.length_nil]; omega))) only [↓wD,wU,Nat.reduceBEq,zx150,zx151,zx159,zx160,zx161,zx162,Nat.reduceAdd,Nat.reduceSub,Nat.reduceMul,Nat.reduceLeDiff,Nat.reduceLT,Nat.reduceEqDiff,Int.reduceAdd,Int.reduceSub,Int.reduceMul,Int.reduceNeg,Int.reduceLT,Int.reduceLE,Int.reduceEq,Int.reduceToNat,Int.cast_ofNat_Int,↓reduceIte, q1'.cellsV, q2'.cellsV]
  refine Wp.range (A := ArgT) ts (fun b => b = H.length + 2) (fun i K H1 => H1[H.length + 2]? = some (.cells [.i (tailN (ts.take i) W : Nat)]) ∧ H1[H.length + 1]? = some (.cells [.i W]) ∧ K (H.length + 2)) (fun j K H1 => False) (by (simp (disch := (first | assumption | omega | (simp only [List.length_append, List.length_cons, List.length_nil]; omega))) only [↓wD,wU,Nat.reduceBEq,zx150,zx151,zx159,zx160,zx161,zx162,Nat.reduceAdd,Nat.reduceSub,Nat.reduceMul,Nat.reduceLeDiff,Nat.reduceLT,Nat.reduceEqDiff,Int.reduceAdd,Int.reduceSub,Int.reduceMul,Int.reduceNeg,Int.reduceLT,Int.reduceLE,Int.reduceEq,Int.reduceToNat,Int.cast_ofNat_Int,↓reduceIte]) <;> rfl) rfl (by omega) (fun b h => by omega) argT_len ?_ ?_ ?_ ?_ ?_ ?_ ?_
  · intro K' H1 Q' e hx' hK' hI
    rw [← ets] at hI
    exact family_range (by omega) q1' q2' m1 m2 (fun b h => by omega) e hx' hK' hI
  · exact fun i K H1 H2 h hx => ⟨hx.get (.inr h.2.2) h.1, hx.get (.inl (by omega)) h.2.1, h.2.2⟩
  · exact fun j K H1 H2 h hx => h.elim
  · exact ⟨r2, r1, rfl⟩
  · rintro i hi K Ki args H1 ⟨c1, c2, c3⟩ ⟨x, rfl, hu⟩ hKi hK hx hl1 hlr hKK
    simp (disch := (first | assumption | omega | (simp only [List.length_append, List.length_cons, List.length_nil]; omega))) only [↓wD,wU,Nat.reduceBEq,zx150,zx151,zx159,zx160,zx161,zx162,Nat.reduceAdd,Nat.reduceSub,Nat.reduceMul,Nat.reduceLeDiff,Nat.reduceLT,Nat.reduceEqDiff,Int.reduceAdd,Int.reduceSub,Int.reduceMul,Int.reduceNeg,Int.reduceLT,Int.reduceLE,Int.reduceEq,Int.reduceToNat,Int.cast_ofNat_Int,↓reduceIte, zx188 (lo := H.length) hlr (by omega), zx189, zx190]
    generalize e2 : H1.set Hr.length _ = H2
    have x12 : Kx (fun b => b ≠ Hr.length) H1 H2 := by rw [← e2]; exact Kx.set _ _ _
    have gl := gset e2 hlr
    have g1 := x12.get (b := H.length + 2) (by omega) c1
    have g2 := x12.get (b := H.length + 1) (by omega) c2
    have hu2 : Sl Ki H2 x ts[i] := hu.low.kp (x12.weak (q := fun b => Ki b ∧ b < H1.length) fun b _ h => by have := (hKi b h.1).1; omega).kp |>.weak fun b h => h.1
    have eg : ts[i] = gi ts (i : Int) := (gi_nat hi).symm
    rw [eg] at hu2
    have wr := weight_ret hu2 (hok i hi)
    have et := tailN_take (w := W) hi
    have b1 := hb i
    have b2 := hb (i + 1)
    have bw := wayN_small (hok i hi) (gi ts (i : Int)).length
    rw [List.take_length] at bw
    generalize wayN (gi ts (i : Int)) = Y at wr et bw
    generalize tailN (ts.take i) W = T0 at g1 et b1
    generalize tailN (ts.take (i + 1)) W = T1 at et b2 ⊢
    clear e2
    by_cases hc : Y ≤ W
    · rw [if_pos hc] at et
      subst et
      have hd : decide ((Y : Int) ≤ W) = true := decide_eq_true (by omega)
      have hst : st H.length H2 (H.length + 2) 0 [.i ((T0 : Int) + Y)] = some (H2.set (H.length + 2) (.cells [.i ((T0 : Int) + Y)])) := by rw [st_of g1 (by omega) (by simp)]; simp [Go.AM.wr]
      simp (disch := (first | assumption | omega | (simp only [List.length_append, List.length_cons, List.length_nil]; omega))) only [↓wD,wU,Nat.reduceBEq,zx150,zx151,zx159,zx160,zx161,zx162,Nat.reduceAdd,Nat.reduceSub,Nat.reduceMul,Nat.reduceLeDiff,Nat.reduceLT,Nat.reduceEqDiff,Int.reduceAdd,Int.reduceSub,Int.reduceMul,Int.reduceNeg,Int.reduceLT,Int.reduceLE,Int.reduceEq,Int.reduceToNat,Int.cast_ofNat_Int,↓reduceIte, wr.call, ld_of g2, ld_of g1, hd, hst]
      refine ⟨?_, ?_, ?_, ?_, .inl c3⟩
      · rw [List.getElem?_set_ne (by omega)]; exact gl
      · exact (x12.weak fun b _ h => h.2).set' (fun _ h => h.1 (.inl c3)) _
      · rw [get_set g1]; try simp
      · rw [List.getElem?_set_ne (by omega)]; exact g2
    · rw [if_neg hc, Nat.add_zero] at et
      subst et
      have hd : decide ((Y : Int) ≤ W) = false := decide_eq_false (by omega)
      simp (disch := (first | assumption | omega | (simp only [List.length_append, List.length_cons, List.length_nil]; omega))) only [↓wD,wU,Nat.reduceBEq,zx150,zx151,zx159,zx160,zx161,zx162,Nat.reduceAdd,Nat.reduceSub,Nat.reduceMul,Nat.reduceLeDiff,Nat.reduceLT,Nat.reduceEqDiff,Int.reduceAdd,Int.reduceSub,Int.reduceMul,Int.reduceNeg,Int.reduceLT,Int.reduceLE,Int.reduceEq,Int.reduceToNat,Int.cast_ofNat_Int,↓reduceIte, wr.call, ld_of g2, hd]
      exact ⟨gl, x12.weak fun b _ h => h.2, g1, g2, .inl c3⟩
  · rintro K H1 ⟨c1, _, _⟩ hx hl1
    rw [List.take_length] at c1
    have kt : Sl (fun b => b < H.length) H1 v t := kr.kp (hx.weak fun b _ h => by omega).kp
    have r0' := hx.get (b := H.length) (by omega) r0
    have hbl := hb ts.length
    rw [List.take_length] at hbl
    simp (disch := (first | assumption | omega | (simp only [List.length_append, List.length_cons, List.length_nil]; omega))) only [↓wD,wU,Nat.reduceBEq,zx150,zx151,zx159,zx160,zx161,zx162,Nat.reduceAdd,Nat.reduceSub,Nat.reduceMul,Nat.reduceLeDiff,Nat.reduceLT,Nat.reduceEqDiff,Int.reduceAdd,Int.reduceSub,Int.reduceMul,Int.reduceNeg,Int.reduceLT,Int.reduceLE,Int.reduceEq,Int.reduceToNat,Int.cast_ofNat_Int,↓reduceIte, ld_of c1]
    refine (family_ret kt h).toX fun w H3 x3 hw => ?_
    obtain ⟨cs, rfl, c1, c2, rfl, ⟨v3, rfl, p1⟩, ⟨v4, rfl, p2⟩⟩ := hw
    have z0 := x3.get trivial r0'
    obtain ⟨o1, o2, o3⟩ := cols_ord h
    have ch := choose_ret p2 o1 o2 o3
    obtain ⟨d1, d2⟩ := ordL_small o1 o2 o3
    have fr := frac_ret (H := H3) (tailN ts W) (ordL (colSums t)) (by omega) (by omega) d2
    have eF : fracN (tailN ts W) (ordL (colSums t)) = taF t := by rw [← ets, ← eW]; rfl
    rw [eF] at fr
    generalize taF t = F at fr
    generalize ordL (colSums t) = D at fr ch
    generalize tailN ts W = N at fr
    obtain ⟨F1, F2⟩ := F
    simp only [List.singleton_append, List.cons_append, List.nil_append]
    have hst : st H.length H3 H.length 0 [.i F1, .i F2] = some (H3.set H.length (.cells [.i F1, .i F2])) := by rw [st_of z0 (Nat.le_refl _) (by simp)]; simp [wr]
    simp (disch := (first | assumption | omega | (simp only [List.length_append, List.length_cons, List.length_nil]; omega))) only [↓wD,wU,Nat.reduceBEq,zx150,zx151,zx159,zx160,zx161,zx162,Nat.reduceAdd,Nat.reduceSub,Nat.reduceMul,Nat.reduceLeDiff,Nat.reduceLT,Nat.reduceEqDiff,Int.reduceAdd,Int.reduceSub,Int.reduceMul,Int.reduceNeg,Int.reduceLT,Int.reduceLE,Int.reduceEq,Int.reduceToNat,Int.cast_ofNat_Int,↓reduceIte, ch.call, fr.call, hst, ldn_of (get_set z0)]
  · exact fun j K H' h _ _ => h.elim
end Go.Proofs.Ytflekaacffdakaa
namespace Go.Proofs.Ytflekaacffdakaa
open Go Go.AM Go.Proofs
def fac : Nat → Nat
  | 0 => 1
  | n + 1 => (n + 1) * fac n
theorem fac_pos : ∀ n, 0 < fac n
  | 0 => by simp [fac]
  | n + 1 => Nat.mul_pos (by omega) (fac_pos n)
theorem bin_fac : ∀ {a b : Nat}, bin (a + b) b * (fac a * fac b) = fac (a + b)
  | a, 0 => by rw [bin_0]; simp [fac]
  | a, b + 1 => by
    have h := bin_fac (a := a) (b := b)
    have m := bin_mul (n := a + b) (k := b)
    have e : fac (b + 1) = (b + 1) * fac b := rfl
    have e2 : fac (a + (b + 1)) = (a + b + 1) * fac (a + b) := rfl
    rw [e, e2, ← h, ← Nat.add_assoc]
    calc bin (a + b + 1) (b + 1) * (fac a * ((b + 1) * fac b)) = (bin (a + b + 1) (b + 1) * (b + 1)) * (fac a * fac b) := by grind
      _ = _ := by rw [m]; grind
def pfacN : List Nat → Nat
  | [] => 1
  | k :: ks => fac k * pfacN ks
theorem ordN_fac : ∀ {ks : List Nat} {n : Nat}, ordN n ks * (fac n * pfacN ks) = fac (n + ks.sum)
  | [], n => by simp [ordN, pfacN]
  | k :: ks, n => by
    have h := ordN_fac (ks := ks) (n := n + k)
    have b := bin_fac (a := n) (b := k)
    rw [List.sum_cons, ← Nat.add_assoc, ← h, ← b]
    show bin (n + k) k * ordN (n + k) ks * (fac n * (fac k * pfacN ks)) = _
    grind
theorem pfacN_pos : ∀ {ks : List Nat}, 0 < pfacN ks
  | [] => by simp [pfacN]
  | k :: ks => Nat.mul_pos (fac_pos k) pfacN_pos
theorem ordL_fac (xs : List Int) : ordL xs * pfacN (toN xs) = fac (toN xs).sum := by
  have := ordN_fac (ks := toN xs) (n := 0)
  rw [Nat.zero_add] at this
  rw [← this]
  show ordN 0 (toN xs) * _ = ordN 0 (toN xs) * (fac 0 * _)
  rw [show fac 0 = 1 from rfl, Nat.one_mul]
/-! ### Vandermonde -/
def sumTo (f : Nat → Nat) : Nat → Nat
  | 0 => 0
  | n + 1 => sumTo f n + f n
theorem sumTo_shift {f : Nat → Nat} : ∀ {n : Nat}, sumTo f (n + 1) = f 0 + sumTo (fun x => f (x + 1)) n
  | 0 => by simp [sumTo]
  | n + 1 => by
    rw [sumTo, sumTo_shift]
    show f 0 + sumTo (fun x => f (x + 1)) n + f (n + 1) = f 0 + (sumTo (fun x => f (x + 1)) n + f (n + 1))
    omega
theorem sumTo_add {f g : Nat → Nat} : ∀ {n : Nat}, sumTo (fun x => f x + g x) n = sumTo f n + sumTo g n
  | 0 => rfl
  | n + 1 => by
    show sumTo (fun x => f x + g x) n + (f n + g n) = sumTo f n + f n + (sumTo g n + g n)
    rw [sumTo_add]; omega
theorem sumTo_congr {f g : Nat → Nat} : ∀ {n : Nat}, (∀ x, x < n → f x = g x) → sumTo f n = sumTo g n
  | 0, _ => rfl
  | n + 1, h => by
    show sumTo f n + f n = sumTo g n + g n
    rw [sumTo_congr fun x hx => h x (by omega), h n (by omega)]
theorem sumTo_cut {f : Nat → Nat} {m : Nat} : ∀ {n : Nat}, m ≤ n → (∀ x, m ≤ x → x < n → f x = 0) → sumTo f n = sumTo f m
  | 0, h, _ => by rw [show m = 0 by omega]
  | n + 1, h, h0 => by
    by_cases e : m = n + 1
    · rw [e]
    · show sumTo f n + f n = _
      rw [h0 n (by omega) (by omega), Nat.add_zero]
      exact sumTo_cut (by omega) fun x h1 h2 => h0 x h1 (by omega)
theorem bin_big : ∀ {m k : Nat}, m < k → bin m k = 0
  | 0, 0, h => by omega
  | 0, k + 1, _ => rfl
  | m + 1, 0, h => by omega
  | m + 1, k + 1, h => by
    show bin m k + bin m (k + 1) = 0
    rw [bin_big (by omega), bin_big (by omega)]
theorem vand : ∀ {c s r : Nat}, sumTo (fun x => bin c x * bin s (r - x)) (r + 1) = bin (c + s) r
  | 0, s, r => by
    rw [sumTo_shift, bin_0, Nat.one_mul, Nat.sub_zero, Nat.zero_add]
    have : sumTo (fun x => bin 0 (x + 1) * bin s (r - (x + 1))) r = 0 := by
      rw [sumTo_cut (m := 0) (by omega) fun x _ _ => by simp [bin]]
      rfl
    rw [this]; rfl
  | c + 1, s, 0 => by
    show 0 + bin (c + 1) 0 * bin s (0 - 0) = bin (c + 1 + s) 0
    rw [bin_0, bin_0, bin_0]
  | c + 1, s, r + 1 => by
    have h1 := vand (c := c) (s := s) (r := r)
    have h2 := vand (c := c) (s := s) (r := r + 1)
    rw [sumTo_shift] at h2 ⊢
    have e : sumTo (fun x => bin (c + 1) (x + 1) * bin s (r + 1 - (x + 1))) (r + 1) = sumTo (fun x => bin c x * bin s (r - x)) (r + 1) + sumTo (fun x => bin c (x + 1) * bin s (r + 1 - (x + 1))) (r + 1) := by
      rw [← sumTo_add]
      apply sumTo_congr
      intro x hx
      have : bin (c + 1) (x + 1) = bin c x + bin c (x + 1) := rfl
      rw [this, Nat.add_mul, Nat.add_sub_add_right]
    rw [e, h1]
    have e3 : c + 1 + s = c + s + 1 := by omega
    have e4 : bin (c + s + 1) (r + 1) = bin (c + s) r + bin (c + s) (r + 1) := rfl
    rw [e3, e4, ← h2, bin_0, bin_0]
    omega
def lsum {α : Type} (f : α → Nat) : List α → Nat
  | [] => 0
  | x :: l => f x + lsum f l
theorem lsum_app {α : Type} {f : α → Nat} : ∀ {l m : List α}, lsum f (l ++ m) = lsum f l + lsum f m
  | [], m => by simp [lsum]
  | x :: l, m => by
    rw [List.cons_append]
    show f x + lsum f (l ++ m) = f x + lsum f l + lsum f m
    rw [lsum_app]; omega
theorem lsum_flat {α β : Type} {f : β → Nat} {g : α → List β} : ∀ {l : List α}, lsum f (l.flatMap g) = lsum (fun x => lsum f (g x)) l
  | [] => rfl
  | x :: l => by
    rw [List.flatMap_cons, lsum_app, lsum_flat]; rfl
theorem lsum_map {α β : Type} {f : β → Nat} {g : α → β} : ∀ {l : List α}, lsum f (l.map g) = lsum (fun x => f (g x)) l
  | [] => rfl
  | x :: l => by
    rw [List.map_cons]
    show f (g x) + lsum f (l.map g) = _
    rw [lsum_map]; rfl
theorem lsum_congr {α : Type} {f g : α → Nat} : ∀ {l : List α}, (∀ x ∈ l, f x = g x) → lsum f l = lsum g l
  | [], _ => rfl
  | x :: l, h => by
    show f x + lsum f l = g x + lsum g l
    rw [h x (by simp), lsum_congr fun y hy => h y (by simp [hy])]
theorem lsum_mul {α : Type} {f : α → Nat} {c : Nat} : ∀ {l : List α}, lsum (fun x => c * f x) l = c * lsum f l
  | [] => rfl
  | x :: l => by
    show c * f x + lsum (fun x => c * f x) l = c * (f x + lsum f l)
    rw [lsum_mul, Nat.mul_add]
theorem lsum_range {f : Nat → Nat} : ∀ {n : Nat}, lsum f (List.range n) = sumTo f n
  | 0 => rfl
  | n + 1 => by rw [List.range_succ, lsum_app, lsum_range]; rfl
/-- of each column some -/
def binP : List Int → List Int → Nat
  | c :: cs, x :: xs => bin c.toNat x.toNat * binP cs xs
  | _, _ => 1
theorem lines_bin : ∀ {cs : List Int} {r : Nat}, (∀ c ∈ cs, 0 ≤ c) → lsum (binP cs) (lines cs (r : Int)) = bin (toN cs).sum r
  | [], r, _ => by
    unfold lines
    cases r with
    | zero => rfl
    | succ r => rw [if_pos (by omega)]; rfl
  | c :: cs, r, h => by
    obtain ⟨m, rfl⟩ := Int.eq_ofNat_of_zero_le (h c (by simp))
    have h' : ∀ c ∈ cs, 0 ≤ c := fun c hc => h c (by simp [hc])
    unfold lines
    rw [lsum_flat, lsum_range]
    have e : (min (r : Int) (m : Int) + 1).toNat = min r m + 1 := by omega
    rw [e]
    have e2 : sumTo (fun x : Nat => lsum (binP ((m : Int) :: cs)) ((lines cs ((r : Int) - (x : Int))).map ((x : Int) :: ·))) (min r m + 1) = sumTo (fun x => bin m x * bin (toN cs).sum (r - x)) (min r m + 1) := by
      apply sumTo_congr
      intro x hx
      rw [lsum_map, show (r : Int) - (x : Int) = ((r - x : Nat) : Int) by omega, ← lines_bin h', ← lsum_mul]
      rfl
    rw [e2]
    have e3 : (toN ((m : Int) :: cs)).sum = m + (toN cs).sum := rfl
    rw [e3, ← vand]
    exact (sumTo_cut (by omega) fun x h1 h2 => by rw [bin_big (by omega), Nat.zero_mul]).symm
theorem pfac_binP : ∀ {cs l : List Int}, l.length = cs.length → (∀ x ∈ l, 0 ≤ x) → (∀ x ∈ subL cs l, 0 ≤ x) → binP cs l * (pfacN (toN l) * pfacN (toN (subL cs l))) = pfacN (toN cs)
  | [], [], _, _, _ => rfl
  | [], _ :: _, h, _, _ => by simp at h
  | _ :: _, [], h, _, _ => by simp at h
  | c :: cs, x :: l, h, h1, h2 => by
    have e : subL (c :: cs) (x :: l) = (c - x) :: subL cs l := rfl
    rw [e] at h2 ⊢
    have ih := pfac_binP (cs := cs) (l := l) (by simpa using h) (fun y hy => h1 y (by simp [hy])) (fun y hy => h2 y (by simp [hy]))
    obtain ⟨a, ea⟩ := Int.eq_ofNat_of_zero_le (h1 x (by simp))
    obtain ⟨b, eb⟩ := Int.eq_ofNat_of_zero_le (h2 (c - x) (by simp))
    have ec : c = ((b + a : Nat) : Int) := by omega
    subst ea
    rw [eb]
    subst ec
    have bf := bin_fac (a := b) (b := a)
    show bin (b + a) a * binP cs l * (fac a * pfacN (toN l) * (fac b * pfacN (toN (subL cs l)))) = fac (b + a) * pfacN (toN cs)
    rw [← bf, ← ih]
    grind
theorem subL_sum : ∀ {cs l : List Int}, l.length = cs.length → (subL cs l).sum = cs.sum - l.sum
  | [], [], _ => rfl
  | [], _ :: _, h => by simp at h
  | _ :: _, [], h => by simp at h
  | c :: cs, x :: l, h => by
    have e : subL (c :: cs) (x :: l) = (c - x) :: subL cs l := rfl
    have ih := subL_sum (cs := cs) (l := l) (by simpa using h)
    rw [e, List.sum_cons, List.sum_cons, List.sum_cons, ih]
    omega
theorem lines_ord {cs : List Int} {r : Nat} (h : ∀ c ∈ cs, 0 ≤ c ∧ c ≤ 16) (hr : r ≤ (toN cs).sum) (hr16 : r ≤ 16) : lsum (fun l => ordL l * ordL (subL cs l)) (lines cs (r : Int)) = ordL cs := by
  have h0 : ∀ c ∈ cs, 0 ≤ c := fun c hc => (h c hc).1
  have hp : 0 < fac r * fac ((toN cs).sum - r) := Nat.mul_pos (fac_pos _) (fac_pos _)
  have hv := lines_bin (r := r) h0
  have hb := bin_fac (a := (toN cs).sum - r) (b := r)
  rw [Nat.sub_add_cancel hr] at hb
  have ho := ordL_fac cs
  have hpc := pfacN_pos (ks := toN cs)
  apply Nat.eq_of_mul_eq_mul_right hpc
  rw [ho, ← hb, ← hv, Nat.mul_comm, ← lsum_mul, Nat.mul_comm, ← lsum_mul]
  apply lsum_congr
  intro l hl
  have hll := lines_mem hl
  obtain ⟨e1, e2⟩ := lines_el (by omega) (by omega) h hl
  have pb := pfac_binP hll (fun x hx => (e1 x hx).1) (fun x hx => (e2 x hx).1)
  have o1 := ordL_fac l
  have o2 := ordL_fac (subL cs l)
  have s1 : (toN l).sum = r := by
    have q1 := toN_sum fun x hx => (e1 x hx).1
    have q2 := lines_sum (by omega) hl
    omega
  have s2 : (toN (subL cs l)).sum = (toN cs).sum - r := by
    have q1 := toN_sum fun x hx => (e2 x hx).1
    have q2 := toN_sum h0
    have q3 := toN_sum fun x hx => (e1 x hx).1
    have q4 := subL_sum hll
    omega
  rw [s1] at o1
  rw [s2] at o2
  rw [← pb, ← o1, ← o2]
  grind
theorem tabsL_ord : ∀ {rs L : List Int}, (∀ r ∈ rs, 0 ≤ r ∧ r ≤ 16) → (∀ x ∈ L, 0 ≤ x ∧ x ≤ 16) → 1 ≤ L.length → rs.sum = L.sum → lsum wayN (tabsL rs L) = ordL L
  | [], L, _, hL, h1, hs => by
    have hz : ∀ x ∈ L, x = 0 := fun x hx => by
      have := le_sum (fun y hy => (hL y hy).1) hx
      have := hL x hx
      simp at hs
      omega
    have hm : ¬ maxL L > 0 := by
      have := hz _ (maxL_spec h1).1
      omega
    unfold tabsL
    rw [if_neg hm]
    have : ∀ xs : List Int, (∀ x ∈ xs, x = 0) → ordN 0 (toN xs) = 1 := by
      intro xs
      induction xs with
      | nil => intro _; rfl
      | cons x xs ih =>
        intro hx
        rw [hx x (by simp)]
        show bin (0 + 0) 0 * ordN (0 + 0) (toN xs) = 1
        rw [bin_0, Nat.one_mul]
        exact ih fun y hy => hx y (by simp [hy])
    show 1 + 0 = ordN 0 (toN L)
    rw [this L hz]
  | r :: rs, L, hr, hL, h1, hs => by
    obtain ⟨m, rfl⟩ := Int.eq_ofNat_of_zero_le (hr r (by simp)).1
    have hm := (hr (m : Int) (by simp)).2
    have hts := toN_sum fun x hx => (hL x hx).1
    have hrs := sum_nonneg (xs := rs) fun x hx => (hr x (by simp [hx])).1
    rw [List.sum_cons] at hs
    unfold tabsL
    rw [lsum_flat, ← lines_ord (r := m) hL (by omega) (by omega)]
    apply lsum_congr
    intro l hl
    have hll := lines_mem hl
    obtain ⟨e1, e2⟩ := lines_el (by omega) (by omega) hL hl
    have q2 := lines_sum (by omega) hl
    have q4 := subL_sum hll
    rw [lsum_map]
    have e : lsum (fun t => wayN (l :: t)) (tabsL rs (subL L l)) = ordL l * lsum wayN (tabsL rs (subL L l)) := by
      rw [← lsum_mul]
      apply lsum_congr
      intro t _
      show wayN t * ordL l = _
      rw [Nat.mul_comm]
    rw [e, tabsL_ord (fun x hx => hr x (by simp [hx])) e2 (by rw [subL_len hll]; exact h1) (by omega)]
end Go.Proofs.Ytflekaacffdakaa
namespace Go.Proofs.Ytflekaacffdakaa
open Go Go.AM Go.Proofs
theorem cmpT_refl : ∀ t : List (List Int), cmpT t t = 0
  | [] => rfl
  | r :: t => by simp [cmpT, cmpL_refl, cmpT_refl t]
theorem tabsL_one {r : Int} {L : List Int} (hr : 0 ≤ r ∧ r ≤ 16) (hL : ∀ x ∈ L, 0 ≤ x ∧ x ≤ 16) : (tabsL [r] L).length ≤ 1 := by
  rcases Nat.lt_or_ge 1 (tabsL [r] L).length with h | h
  · exfalso
    have hx : ∀ u ∈ tabsL [r] L, u = [L] := fun u hu => by
      have hc := tabsL_cols (by simpa using hr) hL hu
      obtain ⟨s1, s2⟩ := tabsL_sums (by simpa using hr.1) hu
      have hl := tabsL_mem hu
      simp at hl
      obtain ⟨l, rfl⟩ : ∃ l, u = [l] := by
        match u, hl with
        | [l], _ => exact ⟨l, rfl⟩
      congr 1
      have hll := s2 l (by simp)
      apply gi_ext hll
      intro j hj
      have := hc j (by omega)
      rw [← this]
      simp [colPart]
    have h1 := hx _ (List.getElem_mem (show 0 < (tabsL [r] L).length by omega))
    have h2 := hx _ (List.getElem_mem h)
    have := List.pairwise_iff_getElem.1 (tabsL_order (rs := [r]) (L := L)) 0 1 (by omega) h (by omega)
    rw [h1, h2, cmpT_refl] at this
    omega
  · exact h
theorem tabsL_len3 : ∀ {rs : List Int} {r : Int} {L : List Int}, (∀ x ∈ r :: rs, 0 ≤ x ∧ x ≤ 16) → (∀ x ∈ L, 0 ≤ x ∧ x ≤ 16) → L.length ≤ 3 → (tabsL (r :: rs) L).length ≤ 289 ^ rs.length
  | [], r, L, h, h', hl => tabsL_one (h r (by simp)) h'
  | r' :: rs, r, L, h, h', hl => by
    have hr := h r (by simp)
    have e : tabsL (r :: r' :: rs) L = (lines L r).flatMap fun l => (tabsL (r' :: rs) (subL L l)).map (l :: ·) := rfl
    rw [e]
    refine Nat.le_trans (flatMap_len (b := 289 ^ rs.length) fun x hx => ?_) ?_
    · rw [List.length_map]
      exact tabsL_len3 (fun r hr => h r (by simp only [List.mem_cons] at hr ⊢; exact .inr hr)) (lines_el hr.1 hr.2 h' hx).2 (by rw [subL_len (lines_mem hx)]; exact hl)
    · rw [List.length_cons, Nat.pow_succ, Nat.mul_comm]
      refine Nat.mul_le_mul_left _ (Nat.le_trans (lines_len2 hr.1 hr.2 h') ?_)
      have : 17 ^ (L.length - 1) ≤ 17 ^ 2 := Nat.pow_le_pow_right (by omega) (by omega)
      omega
theorem fam_100k {t : List (List Int)} (h : TabOk t) : (tabsL (rowSums t) (colSums t)).length ≤ 83521 := by
  have h1 := mg_rows h
  have h2 := mg_cols h (cols_le h)
  have hl := h1.1
  have hl3 := h1.2.1
  have he := h1.el
  generalize rowSums t = rs at *
  match rs, hl with
  | r :: rs, _ =>
    refine Nat.le_trans (tabsL_len3 he h2.el h2.2.1) ?_
    have : 289 ^ rs.length ≤ 289 ^ 2 := Nat.pow_le_pow_right (by omega) (by simpa using hl3)
    omega
theorem frac_facts {w D : Nat} (hD : 0 < D) : ∃ p q : Nat, fracN w D = ((p : Int), (q : Int)) ∧ 0 < q ∧ q ≤ D ∧ p ≤ w ∧ (0 < w → 0 < p) ∧ D % q = 0 ∧ p * (D / q) = w := by
  obtain ⟨p, q, g, e, hg, rfl, rfl, hq⟩ := fracN_parts (m := w) hD
  refine ⟨p, q, e, hq, Nat.le_mul_of_pos_left _ hg, Nat.le_mul_of_pos_left _ hg, fun h => Nat.pos_of_mul_pos_left h, by rw [Nat.mul_mod_left], ?_⟩
  rw [Nat.mul_div_cancel _ hq, Nat.mul_comm]
theorem frac_less {a b D p q p' q' : Nat} (h : 0 < D) (e1 : fracN a D = ((p : Int), (q : Int))) (e2 : fracN b D = ((p' : Int), (q' : Int))) : ((p : Int) * q' < p' * q) ↔ a < b := by
  obtain ⟨x, y, g, e, hg, ea, eD, hy⟩ := fracN_parts (m := a) h
  obtain ⟨x', y', g', e', hg', eb, eD', hy'⟩ := fracN_parts (m := b) h
  rw [e1] at e
  rw [e2] at e'
  simp only [Prod.mk.injEq, Int.natCast_inj] at e e'
  obtain ⟨rfl, rfl⟩ := e
  obtain ⟨rfl, rfl⟩ := e'
  have hk : 0 < g * g' := Nat.mul_pos hg hg'
  have m1 : p * q' * (g * g') = a * D := by rw [ea]; conv => rhs; rw [eD']
                                            grind
  have m2 : p' * q * (g * g') = b * D := by rw [eb]; conv => rhs; rw [eD]
                                            grind
  have k1 : p * q' < p' * q ↔ a < b := by
    constructor
    · intro q1
      have := Nat.mul_lt_mul_of_pos_right q1 hk
      rw [m1, m2] at this
      exact Nat.lt_of_mul_lt_mul_right this
    · intro q1
      have := Nat.mul_lt_mul_of_pos_right q1 h
      rw [← m1, ← m2] at this
      exact Nat.lt_of_mul_lt_mul_right this
  rw [← k1]
  exact_mod_cast Iff.rfl
theorem lsum_pos {ts : List (List (List Int))} : ∀ {u : List (List Int)}, u ∈ ts → wayN u ≤ lsum wayN ts := by
  induction ts with
  | nil => intro u h; cases h
  | cons v ts ih =>
    intro u h
    show wayN u ≤ wayN v + lsum wayN ts
    rcases List.mem_cons.1 h with rfl | h
    · omega
    · have := ih h; omega
theorem tailN_all {w : Nat} : ∀ {ts : List (List (List Int))}, (∀ u ∈ ts, wayN u ≤ w) → tailN ts w = lsum wayN ts
  | [], _ => rfl
  | u :: ts, h => by
    show tailN ts w + (if wayN u ≤ w then wayN u else 0) = wayN u + lsum wayN ts
    rw [if_pos (h u (by simp)), tailN_all fun v hv => h v (by simp [hv])]; omega
theorem tailN_sum {w : Nat} : ∀ {ts : List (List (List Int))}, tailN ts w ≤ lsum wayN ts
  | [] => Nat.le_refl _
  | u :: ts => by
    have := tailN_sum (w := w) (ts := ts)
    show tailN ts w + (if wayN u ≤ w then wayN u else 0) ≤ wayN u + lsum wayN ts
    split <;> omega
theorem tailN_ge {w : Nat} {ts : List (List (List Int))} : ∀ {u : List (List Int)}, u ∈ ts → wayN u ≤ w → wayN u ≤ tailN ts w := by
  induction ts with
  | nil => intro u h; cases h
  | cons v ts ih =>
    intro u h hw
    show wayN u ≤ tailN ts w + (if wayN v ≤ w then wayN v else 0)
    rcases List.mem_cons.1 h with rfl | h
    · rw [if_pos hw]; omega
    · have := ih h hw; omega
theorem lsum_take {ts : List (List (List Int))} : ∀ {i : Nat}, i < ts.length → lsum wayN (ts.take (i + 1)) = lsum wayN (ts.take i) + wayN (gi ts (i : Int)) := by
  intro i hi
  rw [take_gi hi, lsum_app]
  rfl
theorem lsum_take_le {ts : List (List (List Int))} (i : Nat) : lsum wayN (ts.take i) ≤ lsum wayN ts := by
  have : lsum wayN ts = lsum wayN (ts.take i) + lsum wayN (ts.drop i) := by rw [← lsum_app, List.take_append_drop]
  omega
/-- what the walk of CountsAll uses -/
structure AllF (t : List (List Int)) (ts : List (List (List Int))) (D W : Nat) : Prop where
  ets : tabsL (rowSums t) (colSums t) = ts
  eD : ordL (colSums t) = D
  eW : wayN t = W
  sum : lsum wayN ts = D
  pos : 0 < D ∧ D ≤ 1073741824
  wpos : 0 < W ∧ W ≤ D
  few : ts.length ≤ 83521
  has : t ∈ ts
  all : ∀ i : Nat, i < ts.length → TabOk (gi ts (i : Int)) ∧ chF (gi ts (i : Int)) = fracN (wayN (gi ts (i : Int))) D ∧ 0 < wayN (gi ts (i : Int)) ∧ wayN (gi ts (i : Int)) ≤ D
theorem allF {t : List (List Int)} (h : TabOk t) : ∃ ts D W, AllF t ts D W := by
  have h1 := mg_rows h
  have h2 := mg_cols h (cols_le h)
  have hsum : (rowSums t).sum = (colSums t).sum := by
    have hc := cols_sum h
    unfold is at hc
    exact hc.symm
  have hs := tabsL_ord h1.el h2.el h2.1 hsum
  obtain ⟨o1, o2, o3⟩ := cols_ord h
  obtain ⟨b1, b2⟩ := ordL_small o1 o2 o3
  have hh := family_has h
  have hw := lsum_pos hh
  rw [hs] at hw
  refine ⟨_, _, _, rfl, rfl, rfl, hs, ⟨b2, b1⟩, ⟨wayN_pos, hw⟩, fam_100k h, hh, fun i hi => ?_⟩
  have hm := mem_gi hi
  obtain ⟨f1, f2, f3⟩ := family_ok h hm
  have hwi := lsum_pos hm
  rw [hs] at hwi
  exact ⟨f1, by unfold chF; rw [f3], wayN_pos, hwi⟩
theorem less_ret2 {H : Heap} {x y z w : Int} (hx : 0 ≤ x ∧ x ≤ 1073741824) (hy : 0 ≤ y ∧ y ≤ 1073741824) (hz : 0 ≤ z ∧ z ≤ 1073741824) (hw : 0 ≤ w ∧ w ≤ 1073741824) : RetP E 54 [.ag [.i x, .i y], .ag [.i z, .i w]] H (.b (decide (x * w < z * y))) := by
  refine RetP.ro rfl fn54 rfl rfl ?_
  unfold f54A
  have p1 := mul_small (x := x) (y := w) (m := 1073741824) (n := 1073741824) (by omega) (by omega) (by omega) (by omega) (by omega)
  have p2 := mul_small (x := z) (y := y) (m := 1073741824) (n := 1073741824) (by omega) (by omega) (by omega) (by omega) (by omega)
  simp (disch := (first | assumption | omega | (simp only [List.length_append, List.length_cons, List.length_nil]; omega))) only [↓wD,wU,Nat.reduceBEq,zx150,zx151,zx159,zx160,zx161,zx162,Nat.reduceAdd,Nat.reduceSub,Nat.reduceMul,Nat.reduceLeDiff,Nat.reduceLT,Nat.reduceEqDiff,Int.reduceAdd,Int.reduceSub,Int.reduceMul,Int.reduceNeg,Int.reduceLT,Int.reduceLE,Int.reduceEq,Int.reduceToNat,Int.cast_ofNat_Int,↓reduceIte, *]
theorem small_ret {H : Heap} {a b : Int} (h1 : 1 ≤ b) (h2 : b ≤ 1073741824) (h3 : 0 ≤ a) (h4 : a ≤ 1099511627776) : RetP E 53 [.ag [.i a, .i b]] H (.b true) := by
  refine RetP.ro rfl fn53 rfl rfl ?_
  unfold f53A
  simp (disch := (first | assumption | omega | (simp only [List.length_append, List.length_cons, List.length_nil]; omega))) only [↓wD,wU,Nat.reduceBEq,zx150,zx151,zx159,zx160,zx161,zx162,Nat.reduceAdd,Nat.reduceSub,Nat.reduceMul,Nat.reduceLeDiff,Nat.reduceLT,Nat.reduceEqDiff,Int.reduceAdd,Int.reduceSub,Int.reduceMul,Int.reduceNeg,Int.reduceLT,Int.reduceLE,Int.reduceEq,Int.reduceToNat,Int.cast_ofNat_Int,↓reduceIte, decide_eq_true h1, decide_eq_true h2, decide_eq_true h3, decide_eq_true h4]
end Go.Proofs.Ytflekaacffdakaa
namespace Go.AM
open Go
/-- code that simp does not look into -/
def Hide (c : ACode) : ACode := c
/-- behind n statements -/
def tl : Nat → ACode → ACode
  | 0, c => c
  | n + 1, .seq _ y => tl n y
  | _ + 1, c => c
/-- the same code, put away from behind n statements on -/
def ins : Nat → ACode → ACode
  | 0, c => Hide c
  | n + 1, .seq x y => .seq x (ins n y)
  | _ + 1, c => c
theorem ins_eq : ∀ (n : Nat) (c : ACode), ins n c = c
  | 0, _ => rfl
  | n + 1, c => by
    cases c with
    | seq x y => simp only [ins, ins_eq n y]
    | _ => rfl
end Go.AM
namespace Go.Proofs.Ytflekaacffdakaa
open Go Go.AM Go.Proofs
theorem all_tail {H H9 : Heap} {t : List (List Int)} {ts : List (List (List Int))} {D W b5 b7 : Nat} {l : AV} {a : Fr} (hA : AllF t ts D W)
    (sl : Sl (fun _ => True) H9 l ts) (hl9 : H.length ≤ H9.length)
    (c5 : H9[b5]? = some (.cells [.i (fracN W D).1, .i (fracN W D).2])) (c7 : H9[b7]? = some (.cells [.i (fracN (tailN ts W) D).1, .i (fracN (tailN ts W) D).2]))
    (a3 : a 3 = l) (a5 : a 5 = .p b5 0) (a7 : a 7 = .p b7 0) (a11 : a 11 = .i D) :
    Wp E H.length none [.code (Hide (tl 9 f14A.body))] a H9 (RetQ [.t 2] fun v _ => v = .b true) := by
  unfold f14A
  simp only [tl, Hide]
  obtain ⟨p, q, e1, q0, qD, pW, pp, _, _⟩ := frac_facts (w := W) hA.pos.1
  obtain ⟨r, s, e2, s0, sD, rT, _, _, _⟩ := frac_facts (w := tailN ts W) hA.pos.1
  have pos := hA.pos
  have wpos := hA.wpos
  have few := hA.few
  have hTW := frac_less pos.1 e2 e1
  have e2' := e2
  rw [e1] at c5
  rw [e2] at c7
  simp only at c5 c7
  have slL := sl.L
  have hpp := pp wpos.1
  have tsum := tailN_sum (w := W) (ts := ts)
  rw [hA.sum] at tsum
  have tW : W ≤ tailN ts W := by have := tailN_ge hA.has (w := W) (by rw [hA.eW]; omega); rw [hA.eW] at this; exact this
  simp (disch := (first | assumption | omega | (simp only [List.length_append, List.length_cons, List.length_nil]; omega))) only [↓wD,wU,Nat.reduceBEq,zx150,zx151,zx159,zx160,zx161,zx162,Nat.reduceAdd,Nat.reduceSub,Nat.reduceMul,Nat.reduceLeDiff,Nat.reduceLT,Nat.reduceEqDiff,Int.reduceAdd,Int.reduceSub,Int.reduceMul,Int.reduceNeg,Int.reduceLT,Int.reduceLE,Int.reduceEq,Int.reduceToNat,Int.cast_ofNat_Int,↓reduceIte, a3, a5, a7, a11, slL]
  refine Wp.for ts.length (fun i a H' => Gr H9 H' ∧ a 3 = l ∧ a 5 = .p b5 0 ∧ a 7 = .p b7 0 ∧ a 11 = .i D ∧ a 16 = .i (lsum wayN (ts.take i) : Nat) ∧ a 17 = .i (tailN (ts.take i) W : Nat) ∧ a 18 = .b ((ts.take i).all fun u => decide (wayN u ≤ W)) ∧ a 105 = l ∧ a 106 = .i ts.length ∧ a 107 = .i i) ?_ ?_
  · clear a3 a5 a7 a11
    rintro i a H1 hi ⟨hg, a3, a5, a7, a11, a16, a17, a18, a105, a106, a107⟩ ih
    simp (disch := (first | assumption | omega | (simp only [List.length_append, List.length_cons, List.length_nil]; omega))) only [↓wD,wU,Nat.reduceBEq,zx150,zx151,zx159,zx160,zx161,zx162,Nat.reduceAdd,Nat.reduceSub,Nat.reduceMul,Nat.reduceLeDiff,Nat.reduceLT,Nat.reduceEqDiff,Int.reduceAdd,Int.reduceSub,Int.reduceMul,Int.reduceNeg,Int.reduceLT,Int.reduceLE,Int.reduceEq,Int.reduceToNat,Int.cast_ofNat_Int,↓reduceIte, a3, a5, a7, a11, a16, a17, a18, a105, a106, a107]
    refine condP_split (fun hlt => ?_) (fun hlt => ?_)
    · have hi' : i < ts.length := by omega
      have sl1 := sl.gr hg
      have g := sl1.get (k := (i : Int)) (by omega) (by omega)
      obtain ⟨ok, ec, w0, wle⟩ := hA.all i hi'
      have et := tailN_take (w := W) hi'
      have es := lsum_take hi'
      have el := lsum_take_le (ts := ts) (i + 1)
      have etl := tailN_sum (w := W) (ts := ts.take (i + 1))
      rw [hA.sum] at el
      have em : (ts.take (i + 1)).all (fun u => decide (wayN u ≤ W)) = ((ts.take i).all (fun u => decide (wayN u ≤ W)) && decide (wayN (gi ts (i : Int)) ≤ W)) := by
        rw [take_gi hi', List.all_append]
        simp
      simp (disch := (first | assumption | omega | (simp only [List.length_append, List.length_cons, List.length_nil]; omega))) only [↓wD,wU,Nat.reduceBEq,zx150,zx151,zx159,zx160,zx161,zx162,Nat.reduceAdd,Nat.reduceSub,Nat.reduceMul,Nat.reduceLeDiff,Nat.reduceLT,Nat.reduceEqDiff,Int.reduceAdd,Int.reduceSub,Int.reduceMul,Int.reduceNeg,Int.reduceLT,Int.reduceLE,Int.reduceEq,Int.reduceToNat,Int.cast_ofNat_Int,↓reduceIte, a3, a5, a7, a11, a16, a17, a18, a105, a106, a107, sl1.L]
      refine (table_ret g).toFX fun y H2 x2 hy => ?_
      rw [cutT_ok ok] at hy
      have ch := chance_ret hy ok
      rw [ec] at ch
      obtain ⟨p', q', e3, q0', qD', pw', pp', md, mm⟩ := frac_facts (w := wayN (gi ts (i : Int))) hA.pos.1
      have hls := frac_less pos.1 e1 e3
      rw [e3] at ch
      simp only at ch
      have hl2 := x2.1
      have hgl := hg.1
      have hst : st H.length (H2 ++ [Blk.cells [.int .i64 0, .int .i64 0]]) H2.length 0 [.i (p' : Int), .i (q' : Int)] = some (H2 ++ [Blk.cells [.i (p' : Int), .i (q' : Int)]]) := by
        rw [st_of get_last (by omega) (by simp)]
        congr 1
        simp [wr]
      have gl : (H2 ++ [Blk.cells [.i (p' : Int), .i (q' : Int)]])[H2.length]? = some (Blk.cells [.i (p' : Int), .i (q' : Int)]) := get_last
      have x3 : Kx (fun _ => True) H1 (H2 ++ [Blk.cells [.i (p' : Int), .i (q' : Int)]]) := x2.app' _
      have c5' := x3.get trivial (hg.get c5)
      have hg3 : Gr H9 (H2 ++ [Blk.cells [.i (p' : Int), .i (q' : Int)]]) := hg.trans (x3.all _).kp
      generalize H2 ++ [Blk.cells [.i (p' : Int), .i (q' : Int)]] = H3 at hst gl x3 c5' hg3
      have hp' := pp' w0
      have sm := small_ret (H := H3) (a := p') (b := q') (by omega) (by omega) (by omega) (by omega)
      have le := less_ret2 (H := H3) (x := p) (y := q) (z := p') (w := q') (by omega) (by omega) (by omega) (by omega)
      have hrem : (D : Int).tmod (q' : Int) = 0 := by rw [tmodN, md]; rfl
      have hq0 : ¬ (q' : Int) = 0 := by omega
      have hdiv : (D : Int).tdiv (q' : Int) = ((D / q' : Nat) : Int) := tdivN _ _
      have hdD : D / q' ≤ D := Nat.div_le_self _ _
      have hmul : (p' : Int) * ((D / q' : Nat) : Int) = ((wayN (gi ts (i : Int)) : Nat) : Int) := by rw [← mm]; simp
      generalize D / q' = dq at hdiv hmul hdD
      clear e3 mm md
      have eD := hA.eD
      generalize wayN (gi ts (i : Int)) = Y at *
      generalize hS : lsum wayN (ts.take i) = S0 at *
      generalize hS1 : lsum wayN (ts.take (i + 1)) = S1 at *
      generalize hT : tailN (ts.take i) W = T0 at *
      generalize hT1 : tailN (ts.take (i + 1)) W = T1 at *
      generalize hM : ((ts.take i).all fun u => decide (wayN u ≤ W)) = mb at *
      generalize hM1 : ((ts.take (i + 1)).all fun u => decide (wayN u ≤ W)) = mb1 at *
      by_cases hc : W < Y
      · rw [if_neg (by omega), Nat.add_zero] at et
        subst et
        rw [decide_eq_false (show ¬ Y ≤ W by omega), Bool.and_false] at em
        subst em
        have hd : decide ((p : Int) * q' < p' * q) = true := decide_eq_true (hls.2 hc)
        clear hls hTW
        simp (disch := (first | assumption | omega | (simp only [List.length_append, List.length_cons, List.length_nil]; omega))) only [↓wD,wU,Nat.reduceBEq,zx150,zx151,zx159,zx160,zx161,zx162,Nat.reduceAdd,Nat.reduceSub,Nat.reduceMul,Nat.reduceLeDiff,Nat.reduceLT,Nat.reduceEqDiff,Int.reduceAdd,Int.reduceSub,Int.reduceMul,Int.reduceNeg,Int.reduceLT,Int.reduceLE,Int.reduceEq,Int.reduceToNat,Int.cast_ofNat_Int,↓reduceIte, a3, a5, a7, a11, a16, a17, a18, a105, a106, a107, ch.call, hst, ldn_of gl, ld_of gl, sm.call, hq0, hrem, hdiv, hmul, ldn_of c5', le.call, hd]
        refine (ih hi').go ⟨hg3, ?_⟩
        simp (disch := (first | assumption | omega | (simp only [List.length_append, List.length_cons, List.length_nil]; omega))) only [↓wD,wU,Nat.reduceBEq,zx150,zx151,zx159,zx160,zx161,zx162,Nat.reduceAdd,Nat.reduceSub,Nat.reduceMul,Nat.reduceLeDiff,Nat.reduceLT,Nat.reduceEqDiff,Int.reduceAdd,Int.reduceSub,Int.reduceMul,Int.reduceNeg,Int.reduceLT,Int.reduceLE,Int.reduceEq,Int.reduceToNat,Int.cast_ofNat_Int,↓reduceIte, a3, a5, a7, a11, a16, a17, a18, a105, a106, a107, hS1, hT1, hM1, es]
      · rw [if_pos (by omega)] at et
        rw [decide_eq_true (show Y ≤ W by omega), Bool.and_true] at em
        subst em
        have hd : decide ((p : Int) * q' < p' * q) = false := decide_eq_false fun h => hc (hls.1 h)
        clear hls hTW
        simp (disch := (first | assumption | omega | (simp only [List.length_append, List.length_cons, List.length_nil]; omega))) only [↓wD,wU,Nat.reduceBEq,zx150,zx151,zx159,zx160,zx161,zx162,Nat.reduceAdd,Nat.reduceSub,Nat.reduceMul,Nat.reduceLeDiff,Nat.reduceLT,Nat.reduceEqDiff,Int.reduceAdd,Int.reduceSub,Int.reduceMul,Int.reduceNeg,Int.reduceLT,Int.reduceLE,Int.reduceEq,Int.reduceToNat,Int.cast_ofNat_Int,↓reduceIte, a3, a5, a7, a11, a16, a17, a18, a105, a106, a107, ch.call, hst, ldn_of gl, ld_of gl, sm.call, hq0, hrem, hdiv, hmul, ldn_of c5', le.call, hd]
        refine (ih hi').go ⟨hg3, ?_⟩
        simp (disch := (first | assumption | omega | (simp only [List.length_append, List.length_cons, List.length_nil]; omega))) only [↓wD,wU,Nat.reduceBEq,zx150,zx151,zx159,zx160,zx161,zx162,Nat.reduceAdd,Nat.reduceSub,Nat.reduceMul,Nat.reduceLeDiff,Nat.reduceLT,Nat.reduceEqDiff,Int.reduceAdd,Int.reduceSub,Int.reduceMul,Int.reduceNeg,Int.reduceLT,Int.reduceLE,Int.reduceEq,Int.reduceToNat,Int.cast_ofNat_Int,↓reduceIte, a3, a5, a7, a11, a16, a17, a18, a105, a106, a107, hS1, hT1, hM1, es, et]
    · obtain rfl : i = ts.length := by omega
      rw [List.take_length] at a16 a17 a18
      rw [hA.sum] at a16
      have c5' := hg.get c5
      have c7' := hg.get c7
      have fr := rfrac_ret (H := H1) (tailN ts W) D (by omega) (by omega) pos.1
      rw [e2] at fr
      have le := less_ret2 (H := H1) (x := r) (y := s) (z := p) (w := q) (by omega) (by omega) (by omega) (by omega)
      have hd : decide ((r : Int) * q < p * s) = false := decide_eq_false fun h => by have := hTW.1 h; omega
      have hone : (ts.all fun u => decide (wayN u ≤ W)) = true → r = 1 ∧ s = 1 := fun h => by
        have hall : ∀ u ∈ ts, wayN u ≤ W := fun u hu => by simpa using List.all_eq_true.1 h u hu
        have := tailN_all hall
        rw [hA.sum] at this
        rw [this] at e2
        unfold fracN at e2
        rw [Nat.gcd_self, Nat.div_self pos.1] at e2
        simp only [Prod.mk.injEq] at e2
        omega
      generalize (ts.all fun u => decide (wayN u ≤ W)) = mb at a18 hone
      generalize tailN ts W = T at a17 fr
      clear hTW e1 e2 e2'
      cases mb
      · simp (disch := (first | assumption | omega | (simp only [List.length_append, List.length_cons, List.length_nil]; omega))) only [↓wD,wU,Nat.reduceBEq,zx150,zx151,zx159,zx160,zx161,zx162,Nat.reduceAdd,Nat.reduceSub,Nat.reduceMul,Nat.reduceLeDiff,Nat.reduceLT,Nat.reduceEqDiff,Int.reduceAdd,Int.reduceSub,Int.reduceMul,Int.reduceNeg,Int.reduceLT,Int.reduceLE,Int.reduceEq,Int.reduceToNat,Int.cast_ofNat_Int,↓reduceIte, a3, a5, a7, a11, a16, a17, a18, a105, a106, a107, ldn_of c7', ldn_of c5', fr.call, le.call, hd, awake_ret.call]
      · obtain ⟨rfl, rfl⟩ := hone rfl
        simp only [Int.natCast_one] at le hd fr c7'
        simp (disch := (first | assumption | omega | (simp only [List.length_append, List.length_cons, List.length_nil]; omega))) only [↓wD,wU,Nat.reduceBEq,zx150,zx151,zx159,zx160,zx161,zx162,Nat.reduceAdd,Nat.reduceSub,Nat.reduceMul,Nat.reduceLeDiff,Nat.reduceLT,Nat.reduceEqDiff,Int.reduceAdd,Int.reduceSub,Int.reduceMul,Int.reduceNeg,Int.reduceLT,Int.reduceLE,Int.reduceEq,Int.reduceToNat,Int.cast_ofNat_Int,↓reduceIte, a3, a5, a7, a11, a16, a17, a18, a105, a106, a107, ldn_of c7', ldn_of c5', fr.call, le.call, hd, awake_ret.call]
  · refine ⟨Gr.refl _, ?_⟩
    (simp (disch := (first | assumption | omega | (simp only [List.length_append, List.length_cons, List.length_nil]; omega))) only [↓wD,wU,Nat.reduceBEq,zx150,zx151,zx159,zx160,zx161,zx162,Nat.reduceAdd,Nat.reduceSub,Nat.reduceMul,Nat.reduceLeDiff,Nat.reduceLT,Nat.reduceEqDiff,Int.reduceAdd,Int.reduceSub,Int.reduceMul,Int.reduceNeg,Int.reduceLT,Int.reduceLE,Int.reduceEq,Int.reduceToNat,Int.cast_ofNat_Int,↓reduceIte, a3, a5, a7, a11]) <;> simp [lsum, tailN]
theorem all_mid {H H6 : Heap} {t : List (List Int)} {ts : List (List (List Int))} {D W b5 b7 : Nat} {u l : AV} {a : Fr} {p : Nat → Prop} (h : TabOk t) (hA : AllF t ts D W)
    (ht : Sl p H6 u t) (sl : Sl (fun _ => True) H6 l ts) (hl6 : H.length ≤ H6.length)
    (c5 : H6[b5]? = some (.cells [.i (fracN W D).1, .i (fracN W D).2])) (c7 : H6[b7]? = some (.cells [.i (fracN (tailN ts W) D).1, .i (fracN (tailN ts W) D).2]))
    (a0 : a 0 = u) (a3 : a 3 = l) (a5 : a 5 = .p b5 0) (a7 : a 7 = .p b7 0) :
    Wp E H.length none [.code (Hide (tl 6 f14A.body))] a H6 (RetQ [.t 2] fun v _ => v = .b true) := by
  unfold Hide
  rw [← ins_eq 3 (tl 6 f14A.body)]
  unfold f14A
  simp only [tl, ins]
  simp (disch := (first | assumption | omega | (simp only [List.length_append, List.length_cons, List.length_nil]; omega))) only [↓wD,wU,Nat.reduceBEq,zx150,zx151,zx159,zx160,zx161,zx162,Nat.reduceAdd,Nat.reduceSub,Nat.reduceMul,Nat.reduceLeDiff,Nat.reduceLT,Nat.reduceEqDiff,Int.reduceAdd,Int.reduceSub,Int.reduceMul,Int.reduceNeg,Int.reduceLT,Int.reduceLE,Int.reduceEq,Int.reduceToNat,Int.cast_ofNat_Int,↓reduceIte, a0, a3, a5, a7]
  refine (rsums_ret ht h).toX fun w H7 x7 hw => ?_
  obtain ⟨v9, v10, rfl, q1, q2⟩ := rv2 hw
  have c5' := x7.get trivial c5
  have c7' := x7.get trivial c7
  have sl' := sl.kp (x7.all _).kp
  have hl7 := x7.1
  obtain ⟨o1, o2, o3⟩ := cols_ord h
  have eD := hA.eD
  have hI := (rvs q2).I
  generalize colSums t = xs at *
  simp (disch := (first | assumption | omega | (simp only [List.length_append, List.length_cons, List.length_nil]; omega))) only [↓wD,wU,Nat.reduceBEq,zx150,zx151,zx159,zx160,zx161,zx162,Nat.reduceAdd,Nat.reduceSub,Nat.reduceMul,Nat.reduceLeDiff,Nat.reduceLT,Nat.reduceEqDiff,Int.reduceAdd,Int.reduceSub,Int.reduceMul,Int.reduceNeg,Int.reduceLT,Int.reduceLE,Int.reduceEq,Int.reduceToNat,Int.cast_ofNat_Int,↓reduceIte, a0, a3, a5, a7, hI]
  refine Wp.for xs.length (fun i a H' => H' = H7 ∧ a 3 = l ∧ a 5 = .p b5 0 ∧ a 7 = .p b7 0 ∧ a 11 = .i (ordN 0 (toN (xs.take i)) : Nat) ∧ a 12 = .i (xs.take i).sum ∧ a 85 = v10 ∧ a 86 = .i xs.length ∧ a 87 = .i i) ?_ ?_
  · clear a0 a3 a5 a7
    rintro i a H' hi ⟨rfl, a3, a5, a7, a11, a12, a85, a86, a87⟩ ih
    simp (disch := (first | assumption | omega | (simp only [List.length_append, List.length_cons, List.length_nil]; omega))) only [↓wD,wU,Nat.reduceBEq,zx150,zx151,zx159,zx160,zx161,zx162,Nat.reduceAdd,Nat.reduceSub,Nat.reduceMul,Nat.reduceLeDiff,Nat.reduceLT,Nat.reduceEqDiff,Int.reduceAdd,Int.reduceSub,Int.reduceMul,Int.reduceNeg,Int.reduceLT,Int.reduceLE,Int.reduceEq,Int.reduceToNat,Int.cast_ofNat_Int,↓reduceIte, a3, a5, a7, a11, a12, a85, a86, a87]
    refine condP_split (fun hlt => ?_) (fun hlt => ?_)
    · have hi' : i < xs.length := by omega
      obtain ⟨P, s, k, e1, e2, e3, hsk, e4, e5, hb⟩ := ord_inner o1 o2 o3 hi'
      rw [e1] at a11
      rw [e2] at a12
      simp (disch := (first | assumption | omega | (simp only [List.length_append, List.length_cons, List.length_nil]; omega))) only [↓wD,wU,Nat.reduceBEq,zx150,zx151,zx159,zx160,zx161,zx162,Nat.reduceAdd,Nat.reduceSub,Nat.reduceMul,Nat.reduceLeDiff,Nat.reduceLT,Nat.reduceEqDiff,Int.reduceAdd,Int.reduceSub,Int.reduceMul,Int.reduceNeg,Int.reduceLT,Int.reduceLE,Int.reduceEq,Int.reduceToNat,Int.cast_ofNat_Int,↓reduceIte, a3, a5, a7, a11, a12, a85, a86, a87, hI, e3]
      refine Wp.for k (fun j a H'' => H'' = H' ∧ a 3 = l ∧ a 5 = .p b5 0 ∧ a 7 = .p b7 0 ∧ a 11 = .i (P * bin (s + j) j : Nat) ∧ a 12 = .i (s + j) ∧ a 85 = v10 ∧ a 86 = .i xs.length ∧ a 87 = .i i ∧ a 91 = .i k ∧ a 92 = .i j) ?_ ?_
      · clear a3 a5 a7 a11 a12 a85 a86 a87
        rintro j a H' hj ⟨rfl, a3, a5, a7, a11, a12, a85, a86, a87, a91, a92⟩ ih2
        simp (disch := (first | assumption | omega | (simp only [List.length_append, List.length_cons, List.length_nil]; omega))) only [↓wD,wU,Nat.reduceBEq,zx150,zx151,zx159,zx160,zx161,zx162,Nat.reduceAdd,Nat.reduceSub,Nat.reduceMul,Nat.reduceLeDiff,Nat.reduceLT,Nat.reduceEqDiff,Int.reduceAdd,Int.reduceSub,Int.reduceMul,Int.reduceNeg,Int.reduceLT,Int.reduceLE,Int.reduceEq,Int.reduceToNat,Int.cast_ofNat_Int,↓reduceIte, a3, a5, a7, a11, a12, a85, a86, a87, a91, a92]
        refine condP_split (fun hlt => ?_) (fun hlt => ?_)
        · have hj' : j < k := by omega
          have b1 := hb j hj
          have b2 := hb (j + 1) hj'
          have st := ord_step P s j
          obtain ⟨X, eX⟩ : ∃ X, P * bin (s + j) j = X := ⟨_, rfl⟩
          obtain ⟨Y, eY⟩ : ∃ Y, P * bin (s + (j + 1)) (j + 1) = Y := ⟨_, rfl⟩
          rw [eX] at a11 b1 st
          rw [eY] at b2 st
          have mb : (X : Int) * (s + j + 1) ≤ 1073741824 * 17 := Int.mul_le_mul (by omega) (by omega) (by omega) (by omega)
          have mb0 : 0 ≤ (X : Int) * (s + j + 1) := Int.mul_nonneg (by omega) (by omega)
          have ne : ¬ (j : Int) + 1 = 0 := by omega
          obtain ⟨Z, eZ⟩ : ∃ Z, (X : Int) * (s + j + 1) = Z := ⟨_, rfl⟩
          rw [eZ] at mb mb0 st
          simp (disch := (first | assumption | omega | (simp only [List.length_append, List.length_cons, List.length_nil]; omega))) only [↓wD,wU,Nat.reduceBEq,zx150,zx151,zx159,zx160,zx161,zx162,Nat.reduceAdd,Nat.reduceSub,Nat.reduceMul,Nat.reduceLeDiff,Nat.reduceLT,Nat.reduceEqDiff,Int.reduceAdd,Int.reduceSub,Int.reduceMul,Int.reduceNeg,Int.reduceLT,Int.reduceLE,Int.reduceEq,Int.reduceToNat,Int.cast_ofNat_Int,↓reduceIte, a3, a5, a7, a11, a12, a85, a86, a87, a91, a92, eZ, st]
          refine (ih2 hj').go ⟨rfl, ?_⟩
          simp (disch := (first | assumption | omega | (simp only [List.length_append, List.length_cons, List.length_nil]; omega))) only [↓wD,wU,Nat.reduceBEq,zx150,zx151,zx159,zx160,zx161,zx162,Nat.reduceAdd,Nat.reduceSub,Nat.reduceMul,Nat.reduceLeDiff,Nat.reduceLT,Nat.reduceEqDiff,Int.reduceAdd,Int.reduceSub,Int.reduceMul,Int.reduceNeg,Int.reduceLT,Int.reduceLE,Int.reduceEq,Int.reduceToNat,Int.cast_ofNat_Int,↓reduceIte, a3, a5, a7, a11, a12, a85, a86, a87, a91, a92, eY]
          rw [Int.add_assoc]
        · obtain rfl : j = k := by omega
          rw [← e5] at a11
          rw [← e4] at a12
          simp (disch := (first | assumption | omega | (simp only [List.length_append, List.length_cons, List.length_nil]; omega))) only [↓wD,wU,Nat.reduceBEq,zx150,zx151,zx159,zx160,zx161,zx162,Nat.reduceAdd,Nat.reduceSub,Nat.reduceMul,Nat.reduceLeDiff,Nat.reduceLT,Nat.reduceEqDiff,Int.reduceAdd,Int.reduceSub,Int.reduceMul,Int.reduceNeg,Int.reduceLT,Int.reduceLE,Int.reduceEq,Int.reduceToNat,Int.cast_ofNat_Int,↓reduceIte, a3, a5, a7, a11, a12, a85, a86, a87, a91, a92]
          refine (ih hi').go ⟨rfl, ?_⟩
          simp (disch := (first | assumption | omega | (simp only [List.length_append, List.length_cons, List.length_nil]; omega))) only [↓wD,wU,Nat.reduceBEq,zx150,zx151,zx159,zx160,zx161,zx162,Nat.reduceAdd,Nat.reduceSub,Nat.reduceMul,Nat.reduceLeDiff,Nat.reduceLT,Nat.reduceEqDiff,Int.reduceAdd,Int.reduceSub,Int.reduceMul,Int.reduceNeg,Int.reduceLT,Int.reduceLE,Int.reduceEq,Int.reduceToNat,Int.cast_ofNat_Int,↓reduceIte, a3, a5, a7, a11, a12, a85, a86, a87, a91, a92]
      · simp (disch := (first | assumption | omega | (simp only [List.length_append, List.length_cons, List.length_nil]; omega))) only [↓wD,wU,Nat.reduceBEq,zx150,zx151,zx159,zx160,zx161,zx162,Nat.reduceAdd,Nat.reduceSub,Nat.reduceMul,Nat.reduceLeDiff,Nat.reduceLT,Nat.reduceEqDiff,Int.reduceAdd,Int.reduceSub,Int.reduceMul,Int.reduceNeg,Int.reduceLT,Int.reduceLE,Int.reduceEq,Int.reduceToNat,Int.cast_ofNat_Int,↓reduceIte, a3, a5, a7, a11, a12, a85, a86, a87]
        simp [bin_0]
    · obtain rfl : i = xs.length := by omega
      rw [List.take_length] at a11
      have eo : ordN 0 (toN xs) = D := eD
      rw [eo] at a11
      simp (disch := (first | assumption | omega | (simp only [List.length_append, List.length_cons, List.length_nil]; omega))) only [↓wD,wU,Nat.reduceBEq,zx150,zx151,zx159,zx160,zx161,zx162,Nat.reduceAdd,Nat.reduceSub,Nat.reduceMul,Nat.reduceLeDiff,Nat.reduceLT,Nat.reduceEqDiff,Int.reduceAdd,Int.reduceSub,Int.reduceMul,Int.reduceNeg,Int.reduceLT,Int.reduceLE,Int.reduceEq,Int.reduceToNat,Int.cast_ofNat_Int,↓reduceIte, a3, a5, a7, a11]
      refine all_tail hA sl' (by omega) c5' c7' ?_ ?_ ?_ ?_
      all_goals (simp (disch := (first | assumption | omega | (simp only [List.length_append, List.length_cons, List.length_nil]; omega))) only [↓wD,wU,Nat.reduceBEq,zx150,zx151,zx159,zx160,zx161,zx162,Nat.reduceAdd,Nat.reduceSub,Nat.reduceMul,Nat.reduceLeDiff,Nat.reduceLT,Nat.reduceEqDiff,Int.reduceAdd,Int.reduceSub,Int.reduceMul,Int.reduceNeg,Int.reduceLT,Int.reduceLE,Int.reduceEq,Int.reduceToNat,Int.cast_ofNat_Int,↓reduceIte, a3, a5, a7, a11])
  · (simp (disch := (first | assumption | omega | (simp only [List.length_append, List.length_cons, List.length_nil]; omega))) only [↓wD,wU,Nat.reduceBEq,zx150,zx151,zx159,zx160,zx161,zx162,Nat.reduceAdd,Nat.reduceSub,Nat.reduceMul,Nat.reduceLeDiff,Nat.reduceLT,Nat.reduceEqDiff,Int.reduceAdd,Int.reduceSub,Int.reduceMul,Int.reduceNeg,Int.reduceLT,Int.reduceLE,Int.reduceEq,Int.reduceToNat,Int.cast_ofNat_Int,↓reduceIte, a0, a3, a5, a7]) <;> simp [toN, ordN]
theorem Walk.CountsAll (H : Heap) (u : AV) (t : List (List Int)) (ht : Sl (fun b => b < H.length) H u t) (sz : t.length * 24 ≤ 140737488351232) : WpF E H.length 14 [u] H fun v _ => v = .b true := by
  refine law_of (RetP.ro rfl fn14 rfl rfl ?_)
  rw [← ins_eq 6 f14A.body]
  unfold f14A
  simp only [ins]
  simp (disch := (first | assumption | omega | (simp only [List.length_append, List.length_cons, List.length_nil]; omega))) only [↓wD,wU,Nat.reduceBEq,zx150,zx151,zx159,zx160,zx161,zx162,Nat.reduceAdd,Nat.reduceSub,Nat.reduceMul,Nat.reduceLeDiff,Nat.reduceLT,Nat.reduceEqDiff,Int.reduceAdd,Int.reduceSub,Int.reduceMul,Int.reduceNeg,Int.reduceLT,Int.reduceLE,Int.reduceEq,Int.reduceToNat,Int.cast_ofNat_Int,↓reduceIte]
  refine (table_ret ht).toFX fun y H1 x1 hy => ?_
  have ht1 := ht.kp (x1.all _).kp
  have hl1 := x1.1
  by_cases h : TabOk t
  · rw [cutT_ok h] at hy
    obtain ⟨ts, D, W, hA⟩ := allF h
    have few := hA.few
    have pos := hA.pos
    have wpos := hA.wpos
    obtain ⟨p, q, e1, q0, qD, pW, pp, _, _⟩ := frac_facts (w := W) hA.pos.1
    obtain ⟨r, s, e2, s0, sD, rT, _, _, _⟩ := frac_facts (w := tailN ts W) hA.pos.1
    have tsum := tailN_sum (w := W) (ts := ts)
    rw [hA.sum] at tsum
    simp (disch := (first | assumption | omega | (simp only [List.length_append, List.length_cons, List.length_nil]; omega))) only [↓wD,wU,Nat.reduceBEq,zx150,zx151,zx159,zx160,zx161,zx162,Nat.reduceAdd,Nat.reduceSub,Nat.reduceMul,Nat.reduceLeDiff,Nat.reduceLT,Nat.reduceEqDiff,Int.reduceAdd,Int.reduceSub,Int.reduceMul,Int.reduceNeg,Int.reduceLT,Int.reduceLE,Int.reduceEq,Int.reduceToNat,Int.cast_ofNat_Int,↓reduceIte]
    refine (fam_ret hy h (cols_le h)).toX fun w H2 x2 hw => ?_
    obtain ⟨v1, _, rfl, q1, rfl⟩ := rv2 hw
    have ht2 := ht1.kp (x2.all _).kp
    have hl2 := x2.1
    have rt := rtable_ret ht2 sz
    rw [decide_eq_true h] at rt
    have hV := rvs q1
    rw [hA.ets] at hV
    simp (disch := (first | assumption | omega | (simp only [List.length_append, List.length_cons, List.length_nil]; omega))) only [↓wD,wU,Nat.reduceBEq,zx150,zx151,zx159,zx160,zx161,zx162,Nat.reduceAdd,Nat.reduceSub,Nat.reduceMul,Nat.reduceLeDiff,Nat.reduceLT,Nat.reduceEqDiff,Int.reduceAdd,Int.reduceSub,Int.reduceMul,Int.reduceNeg,Int.reduceLT,Int.reduceLE,Int.reduceEq,Int.reduceToNat,Int.cast_ofNat_Int,↓reduceIte, rt.call]
    refine (table_ret ht2).toFX fun y3 H3 x3 hy3 => ?_
    rw [cutT_ok h] at hy3
    have ht3 := ht2.kp (x3.all _).kp
    have hV3 := hV.kp (x3.all _).kp
    have hl3 := x3.1
    have c1 := chance_ret hy3 h
    have eC : chF t = fracN W D := by unfold chF; rw [hA.eW, hA.eD]
    rw [eC, e1] at c1
    have hst : st H.length (H3 ++ [Blk.cells [.int .i64 0, .int .i64 0]]) H3.length 0 [.i (p : Int), .i (q : Int)] = some (H3 ++ [Blk.cells [.i (p : Int), .i (q : Int)]]) := by
      rw [st_of get_last (by omega) (by simp)]
      congr 1
      simp [wr]
    simp (disch := (first | assumption | omega | (simp only [List.length_append, List.length_cons, List.length_nil]; omega))) only [↓wD,wU,Nat.reduceBEq,zx150,zx151,zx159,zx160,zx161,zx162,Nat.reduceAdd,Nat.reduceSub,Nat.reduceMul,Nat.reduceLeDiff,Nat.reduceLT,Nat.reduceEqDiff,Int.reduceAdd,Int.reduceSub,Int.reduceMul,Int.reduceNeg,Int.reduceLT,Int.reduceLE,Int.reduceEq,Int.reduceToNat,Int.cast_ofNat_Int,↓reduceIte, c1.call, hst]
    refine (table_ret (ht3.app _)).toFX fun y4 H4 x4 hy4 => ?_
    rw [cutT_ok h] at hy4
    have ht4 := (ht3.app [Blk.cells [.i (p : Int), .i (q : Int)]]).kp (x4.all _).kp
    have hV4 := (hV3.app [Blk.cells [.i (p : Int), .i (q : Int)]]).kp (x4.all _).kp
    have g4 : H4[H3.length]? = some (.cells [.i (p : Int), .i (q : Int)]) := x4.get trivial get_last
    have hl4 := x4.1
    simp only [List.length_append, List.length_singleton] at hl4
    have c2 := tail_ret hy4 h
    have eT : taF t = fracN (tailN ts W) D := by unfold taF; rw [hA.ets, hA.eW, hA.eD]
    rw [eT, e2] at c2
    have hst2 : st H.length (H4 ++ [Blk.cells [.int .i64 0, .int .i64 0]]) H4.length 0 [.i (r : Int), .i (s : Int)] = some (H4 ++ [Blk.cells [.i (r : Int), .i (s : Int)]]) := by
      rw [st_of get_last (by omega) (by simp)]
      congr 1
      simp [wr]
    have ht5 := ht4.app [Blk.cells [.i (r : Int), .i (s : Int)]]
    have hV5 := hV4.app [Blk.cells [.i (r : Int), .i (s : Int)]]
    have g5 : (H4 ++ [Blk.cells [.i (r : Int), .i (s : Int)]])[H3.length]? = some (.cells [.i (p : Int), .i (q : Int)]) := by rw [List.getElem?_append_left (by omega)]; exact g4
    have g6 : (H4 ++ [Blk.cells [.i (r : Int), .i (s : Int)]])[H4.length]? = some (.cells [.i (r : Int), .i (s : Int)]) := get_last
    have hl5 : (H4 ++ [Blk.cells [.i (r : Int), .i (s : Int)]]).length = H4.length + 1 := by simp
    generalize e5 : H4 ++ [Blk.cells [.i (r : Int), .i (s : Int)]] = H5 at hst2 ht5 hV5 g5 g6 hl5
    have hp0 := pp wpos.1
    have s1 := small_ret (H := H5) (a := p) (b := q) (by omega) (by omega) (by omega) (by omega)
    have s2 := small_ret (H := H5) (a := r) (b := s) (by omega) (by omega) (by omega) (by omega)
    have hVL := hV5.L
    simp (disch := (first | assumption | omega | (simp only [List.length_append, List.length_cons, List.length_nil]; omega))) only [↓wD,wU,Nat.reduceBEq,zx150,zx151,zx159,zx160,zx161,zx162,Nat.reduceAdd,Nat.reduceSub,Nat.reduceMul,Nat.reduceLeDiff,Nat.reduceLT,Nat.reduceEqDiff,Int.reduceAdd,Int.reduceSub,Int.reduceMul,Int.reduceNeg,Int.reduceLT,Int.reduceLE,Int.reduceEq,Int.reduceToNat,Int.cast_ofNat_Int,↓reduceIte, c2.call, hst2, ldn_of g5, ldn_of g6, ld_of g5, s1.call, s2.call, hVL]
    refine all_mid h hA ht5 (hV5.weak fun _ _ => trivial) (by omega) (by rw [e1]; exact g5) (by rw [e2]; exact g6) ?_ ?_ ?_ ?_
    all_goals (simp (disch := (first | assumption | omega | (simp only [List.length_append, List.length_cons, List.length_nil]; omega))) only [↓wD,wU,Nat.reduceBEq,zx150,zx151,zx159,zx160,zx161,zx162,Nat.reduceAdd,Nat.reduceSub,Nat.reduceMul,Nat.reduceLeDiff,Nat.reduceLT,Nat.reduceEqDiff,Int.reduceAdd,Int.reduceSub,Int.reduceMul,Int.reduceNeg,Int.reduceLT,Int.reduceLE,Int.reduceEq,Int.reduceToNat,Int.cast_ofNat_Int,↓reduceIte])
  · have h' : ¬ TabOk (cutT t) := fun hc => h (TabOk_cut.1 hc)
    have rt := rtable_ret ht1 sz
    rw [decide_eq_false h] at rt
    simp (disch := (first | assumption | omega | (simp only [List.length_append, List.length_cons, List.length_nil]; omega))) only [↓wD,wU,Nat.reduceBEq,zx150,zx151,zx159,zx160,zx161,zx162,Nat.reduceAdd,Nat.reduceSub,Nat.reduceMul,Nat.reduceLeDiff,Nat.reduceLT,Nat.reduceEqDiff,Int.reduceAdd,Int.reduceSub,Int.reduceMul,Int.reduceNeg,Int.reduceLT,Int.reduceLE,Int.reduceEq,Int.reduceToNat,Int.cast_ofNat_Int,↓reduceIte, (fam_err hy h').call, rt.call, awake_ret.call]
end Go.Proofs.Ytflekaacffdakaa
