/- What the law needs: what its functions do, and the laws on lists behind it. No condition. -/
import Derived.Test.YtflekaacffdakaaPi
import Derived.Test.YtflekaacffdakaaBo
import Derived.Laws.StructEq
import Derived.KernelRfl
import Derived.WalkKit
import Derived.ProofKit
import Derived.OpenShut
import Derived.ShutString
import Derived.ChangeOld
import Derived.Below
import Derived.SizedLaws
import Derived.Carry
set_option linter.unusedSimpArgs false
set_option linter.unusedVariables false
namespace Go.Proofs.Ytflekaacffdakaa
open Go Go.AM Go.Proofs
theorem clone_ret {p : Nat → Prop} {H : Heap} {v : AV} {xs : List Int} (hx : Sl p H v xs) (hs : xs.length * 8 ≤ 1099511627776) : Ret E 56 [v] (fun _ => False) H xs := by
  refine Ret.ro rfl fn56 rfl ?_
  unfold f56A
  have main : ∀ {Q : AV × Heap → Prop}, (∀ v' H', Sl (fun b => H.length ≤ b) H' v' xs → Q (v', H')) → @optP _ (appendV H.length 1 8 (.s 1 H.length 0 0 (some 0)) v (H ++ [.cells []])) ⟨Q⟩ := fun {Q} go => by
    have ha : Acc H.length (fun _ => True) (H ++ [.cells []]) (.s 1 H.length 0 0 (some 0)) ([] : List Int) := Acc.fresh0 (Nat.le_refl _)
    refine ha.extend (q := fun b => b < H.length) (Nat.le_refl _) (by simp) ((hx.low.app [.cells []]).weak fun b h => h.2) (fun b hb => ⟨trivial, ?_⟩) (by simpa using hs) (by omega) fun v' H' h' _ => go _ _ ?_
    · intro e; simp only [AV.blk, Option.some.injEq] at e; omega
    · rw [List.nil_append] at h'
      rcases h' with h' | ⟨b, o, c, k, e, hb, hk, h1, h2, h3⟩
      · exact .inl h'
      · exact .inr ⟨b, o, c, k, e, hb, hk, h1, h2, h3⟩
  rcases hx with ⟨rfl, rfl⟩ | ⟨b, o, c, k, e, hb, hk, h1, h2, h3⟩
  · simp (disch := (first | assumption | omega | (simp only [List.length_append, List.length_cons, List.length_nil]; omega))) only [↓wD,wU,Nat.reduceBEq,zx150,zx151,zx159,zx160,zx161,zx162,Nat.reduceAdd,Nat.reduceSub,Nat.reduceMul,Nat.reduceLeDiff,Nat.reduceLT,Nat.reduceEqDiff,Int.reduceAdd,Int.reduceSub,Int.reduceMul,Int.reduceNeg,Int.reduceLT,Int.reduceLE,Int.reduceEq,Int.reduceToNat,Int.cast_ofNat_Int,↓reduceIte, *]
    exact Sl.nil
  · subst e
    simp (disch := (first | assumption | omega | (simp only [List.length_append, List.length_cons, List.length_nil]; omega))) only [↓wD,wU,Nat.reduceBEq,zx150,zx151,zx159,zx160,zx161,zx162,Nat.reduceAdd,Nat.reduceSub,Nat.reduceMul,Nat.reduceLeDiff,Nat.reduceLT,Nat.reduceEqDiff,Int.reduceAdd,Int.reduceSub,Int.reduceMul,Int.reduceNeg,Int.reduceLT,Int.reduceLE,Int.reduceEq,Int.reduceToNat,Int.cast_ofNat_Int,↓reduceIte, *]
    refine main fun v' H' h' => ?_
    simp (disch := (first | assumption | omega | (simp only [List.length_append, List.length_cons, List.length_nil]; omega))) only [↓wD,wU,Nat.reduceBEq,zx150,zx151,zx159,zx160,zx161,zx162,Nat.reduceAdd,Nat.reduceSub,Nat.reduceMul,Nat.reduceLeDiff,Nat.reduceLT,Nat.reduceEqDiff,Int.reduceAdd,Int.reduceSub,Int.reduceMul,Int.reduceNeg,Int.reduceLT,Int.reduceLE,Int.reduceEq,Int.reduceToNat,Int.cast_ofNat_Int,↓reduceIte, *]
    exact h'.weak fun _ h => .inr h
end Go.Proofs.Ytflekaacffdakaa
namespace Go.Proofs.Ytflekaacffdakaa
open Go Go.AM Go.Proofs
def OkN (xs : List Int) : Prop := ∀ x ∈ xs, 0 ≤ x ∧ x ≤ 16
instance (xs : List Int) : Decidable (OkN xs) := by unfold OkN; infer_instance
def RowOk (n : Nat) (r : List Int) : Prop := 1 ≤ r.length ∧ r.length ≤ 3 ∧ r.length = n ∧ OkN r
def TabOk (t : List (List Int)) : Prop := 1 ≤ t.length ∧ t.length ≤ 3 ∧ (∀ r ∈ t, RowOk (gi t 0).length r) ∧ (t.map List.sum).sum ≤ 16
instance (n : Nat) (r : List Int) : Decidable (RowOk n r) := by unfold RowOk; infer_instance
instance (t : List (List Int)) : Decidable (TabOk t) := by unfold TabOk; infer_instance
theorem isSums_ret {p : Nat → Prop} {H : Heap} {v : AV} {xs : List Int} (hx : Sl p H v xs) (hl : xs.length ≤ 100) : RetP E 79 [v] H (.b (decide (OkN xs ∧ xs.sum ≤ 16))) := by
  refine RetP.ro rfl fn79 rfl rfl ?_
  unfold f79A
  simp (disch := (first | assumption | omega | (simp only [List.length_append, List.length_cons, List.length_nil]; omega))) only [↓wD,wU,Nat.reduceBEq,zx150,zx151,zx159,zx160,zx161,zx162,Nat.reduceAdd,Nat.reduceSub,Nat.reduceMul,Nat.reduceLeDiff,Nat.reduceLT,Nat.reduceEqDiff,Int.reduceAdd,Int.reduceSub,Int.reduceMul,Int.reduceNeg,Int.reduceLT,Int.reduceLE,Int.reduceEq,Int.reduceToNat,Int.cast_ofNat_Int,↓reduceIte, *, hx.I]
  refine Wp.for xs.length (fun i a H' => H' = H ∧ a 6 = v ∧ a 7 = .i xs.length ∧ a 8 = .i i ∧ a 3 = .i (xs.take i).sum ∧ OkN (xs.take i)) ?_ ?_
  · rintro i a H' hi ⟨rfl, h6, h7, h8, h3, hh⟩ ih
    have hb := sum_bound hh
    have hb2 : (xs.take i).length ≤ 100 := by rw [List.length_take]; omega
    simp (disch := (first | assumption | omega | (simp only [List.length_append, List.length_cons, List.length_nil]; omega))) only [↓wD,wU,Nat.reduceBEq,zx150,zx151,zx159,zx160,zx161,zx162,Nat.reduceAdd,Nat.reduceSub,Nat.reduceMul,Nat.reduceLeDiff,Nat.reduceLT,Nat.reduceEqDiff,Int.reduceAdd,Int.reduceSub,Int.reduceMul,Int.reduceNeg,Int.reduceLT,Int.reduceLE,Int.reduceEq,Int.reduceToNat,Int.cast_ofNat_Int,↓reduceIte, *]
    refine condP_split (fun hlt => ?_) (fun hlt => ?_)
    · have hi' : i < xs.length := by omega
      (repeat' (first | refine condP_split (fun _ => ?_) (fun _ => ?_) | refine guardP_split (fun _ => ?_) (fun _ => ?_) | refine guardP_splitF (fun _ => ?_) (fun _ => ?_) | (simp (disch := (first | assumption | omega | (simp only [List.length_append, List.length_cons, List.length_nil]; omega))) only [↓wD,wU,Nat.reduceBEq,zx150,zx151,zx159,zx160,zx161,zx162,Nat.reduceAdd,Nat.reduceSub,Nat.reduceMul,Nat.reduceLeDiff,Nat.reduceLT,Nat.reduceEqDiff,Int.reduceAdd,Int.reduceSub,Int.reduceMul,Int.reduceNeg,Int.reduceLT,Int.reduceLE,Int.reduceEq,Int.reduceToNat,Int.cast_ofNat_Int,↓reduceIte, *, hx.I]))) <;> first
        | exact avb_f fun h => by have := h.1 _ (mem_gi hi'); omega
        | skip
      refine (ih hi').go ⟨rfl, ?_⟩
      have hg : 0 ≤ gi xs i ∧ gi xs i ≤ 16 := by omega
      rw [sum_take hi']
      simp (disch := (first | assumption | omega | (simp only [List.length_append, List.length_cons, List.length_nil]; omega))) only [↓wD,wU,Nat.reduceBEq,zx150,zx151,zx159,zx160,zx161,zx162,Nat.reduceAdd,Nat.reduceSub,Nat.reduceMul,Nat.reduceLeDiff,Nat.reduceLT,Nat.reduceEqDiff,Int.reduceAdd,Int.reduceSub,Int.reduceMul,Int.reduceNeg,Int.reduceLT,Int.reduceLE,Int.reduceEq,Int.reduceToNat,Int.cast_ofNat_Int,↓reduceIte, *]
      exact mem_take_gi hh hi' hg
    · simp (disch := (first | assumption | omega | (simp only [List.length_append, List.length_cons, List.length_nil]; omega))) only [↓wD,wU,Nat.reduceBEq,zx150,zx151,zx159,zx160,zx161,zx162,Nat.reduceAdd,Nat.reduceSub,Nat.reduceMul,Nat.reduceLeDiff,Nat.reduceLT,Nat.reduceEqDiff,Int.reduceAdd,Int.reduceSub,Int.reduceMul,Int.reduceNeg,Int.reduceLT,Int.reduceLE,Int.reduceEq,Int.reduceToNat,Int.cast_ofNat_Int,↓reduceIte, *]
      have e : xs.take i = xs := List.take_of_length_le (by omega)
      rw [e] at hh ⊢
      simp [hh]
  · (simp (disch := (first | assumption | omega | (simp only [List.length_append, List.length_cons, List.length_nil]; omega))) only [↓wD,wU,Nat.reduceBEq,zx150,zx151,zx159,zx160,zx161,zx162,Nat.reduceAdd,Nat.reduceSub,Nat.reduceMul,Nat.reduceLeDiff,Nat.reduceLT,Nat.reduceEqDiff,Int.reduceAdd,Int.reduceSub,Int.reduceMul,Int.reduceNeg,Int.reduceLT,Int.reduceLE,Int.reduceEq,Int.reduceToNat,Int.cast_ofNat_Int,↓reduceIte, *]) <;> simp [OkN]
theorem sum_nonneg {xs : List Int} (h : ∀ x ∈ xs, 0 ≤ x) : 0 ≤ xs.sum := by
  induction xs with
  | nil => simp
  | cons x xs ih => have := h x (by simp); have := ih fun y hy => h y (by simp [hy]); simp only [List.sum_cons]; omega
theorem le_sum {xs : List Int} (h : ∀ x ∈ xs, 0 ≤ x) {x : Int} (hx : x ∈ xs) : x ≤ xs.sum := by
  induction xs with
  | nil => cases hx
  | cons y xs ih =>
    have h0 := h y (by simp)
    have h1 := sum_nonneg fun z hz => h z (List.mem_cons_of_mem _ hz)
    simp only [List.sum_cons]
    rcases List.mem_cons.1 hx with rfl | hx
    · omega
    · have := ih (fun z hz => h z (List.mem_cons_of_mem _ hz)) hx; omega
theorem row_le_total {t : List (List Int)} (h : TabOk t) {r : List Int} (hr : r ∈ t) : r.sum ≤ 16 := by
  have h1 : ∀ x ∈ t.map List.sum, 0 ≤ x := by
    intro x hx
    obtain ⟨s, hs, rfl⟩ := List.mem_map.1 hx
    exact sum_nonneg fun y hy => ((h.2.2.1 s hs).2.2.2 y hy).1
  have := le_sum h1 (List.mem_map_of_mem hr)
  have := h.2.2.2
  omega
theorem valid_ret {p : Nat → Prop} {H : Heap} {v : AV} {t : List (List Int)} (ht : Sl p H v t) : RetP E 70 [v] H (.b (decide (TabOk t))) := by
  refine RetP.ro rfl fn70 rfl rfl ?_
  unfold f70A
  (repeat' (first | refine condP_split (fun _ => ?_) (fun _ => ?_) | refine guardP_split (fun _ => ?_) (fun _ => ?_) | refine guardP_splitF (fun _ => ?_) (fun _ => ?_) | (simp (disch := (first | assumption | omega | (simp only [List.length_append, List.length_cons, List.length_nil]; omega))) only [↓wD,wU,Nat.reduceBEq,zx150,zx151,zx159,zx160,zx161,zx162,Nat.reduceAdd,Nat.reduceSub,Nat.reduceMul,Nat.reduceLeDiff,Nat.reduceLT,Nat.reduceEqDiff,Int.reduceAdd,Int.reduceSub,Int.reduceMul,Int.reduceNeg,Int.reduceLT,Int.reduceLE,Int.reduceEq,Int.reduceToNat,Int.cast_ofNat_Int,↓reduceIte, *, ht.L]))) <;> first
    | exact avb_f fun h => by have := h.1; have := h.2.1; omega
    | skip
  refine Wp.for t.length (fun i a H' => H' = H ∧ a 0 = v ∧ a 16 = v ∧ a 17 = .i t.length ∧ a 18 = .i i ∧ a 3 = .i ((t.take i).map List.sum).sum ∧ (∀ r ∈ t.take i, RowOk (gi t 0).length r) ∧ 0 ≤ ((t.take i).map List.sum).sum ∧ ((t.take i).map List.sum).sum ≤ i * 48) ?_ ?_
  · rintro i a H' hi ⟨rfl, h0, h16, h17, h18, h3, hh, hp, hq⟩ ih
    simp (disch := (first | assumption | omega | (simp only [List.length_append, List.length_cons, List.length_nil]; omega))) only [↓wD,wU,Nat.reduceBEq,zx150,zx151,zx159,zx160,zx161,zx162,Nat.reduceAdd,Nat.reduceSub,Nat.reduceMul,Nat.reduceLeDiff,Nat.reduceLT,Nat.reduceEqDiff,Int.reduceAdd,Int.reduceSub,Int.reduceMul,Int.reduceNeg,Int.reduceLT,Int.reduceLE,Int.reduceEq,Int.reduceToNat,Int.cast_ofNat_Int,↓reduceIte, *]
    refine condP_split (fun hlt => ?_) (fun hlt => ?_)
    · have hi' : i < t.length := by omega
      have g := ht.get (k := (i : Int)) (by omega) (by omega)
      have g0 := ht.get (k := (0 : Int)) (by omega) (by omega)
      by_cases hr : RowOk (gi t 0).length (gi t i)
      · obtain ⟨hr1, hr2, hr3, hr4⟩ := hr
        have hgb := sum_bound hr4
        (repeat' (first | refine condP_split (fun _ => ?_) (fun _ => ?_) | refine guardP_split (fun _ => ?_) (fun _ => ?_) | refine guardP_splitF (fun _ => ?_) (fun _ => ?_) | (simp (disch := (first | assumption | omega | (simp only [List.length_append, List.length_cons, List.length_nil]; omega))) only [↓wD,wU,Nat.reduceBEq,zx150,zx151,zx159,zx160,zx161,zx162,Nat.reduceAdd,Nat.reduceSub,Nat.reduceMul,Nat.reduceLeDiff,Nat.reduceLT,Nat.reduceEqDiff,Int.reduceAdd,Int.reduceSub,Int.reduceMul,Int.reduceNeg,Int.reduceLT,Int.reduceLE,Int.reduceEq,Int.reduceToNat,Int.cast_ofNat_Int,↓reduceIte, *, ht.L, g.I, g0.I, (isSums_ret g (by omega)).call])))
        · exact avb_f fun h => by have := row_le_total h (mem_gi hi'); simp_all
        refine Wp.for (gi t i).length (fun j a H'' => H'' = H' ∧ a 0 = v ∧ a 16 = v ∧ a 17 = .i t.length ∧ a 18 = .i i ∧ a 44 = v.get H' i ∧ a 45 = .i (gi t i).length ∧ a 46 = .i j ∧ a 3 = .i (((t.take i).map List.sum).sum + ((gi t i).take j).sum)) ?_ ?_
        · clear h0 h16 h17 h18 h3
          rintro j a H' hj ⟨rfl, h0, h16, h17, h18, h44, h45, h46, h3⟩ ih2
          have hb1 : OkN ((gi t i).take j) := fun x hx => hr4 x (List.mem_of_mem_take hx)
          have hb2 := sum_bound hb1
          have hb3 : ((gi t i).take j).length ≤ 3 := by rw [List.length_take]; omega
          simp (disch := (first | assumption | omega | (simp only [List.length_append, List.length_cons, List.length_nil]; omega))) only [↓wD,wU,Nat.reduceBEq,zx150,zx151,zx159,zx160,zx161,zx162,Nat.reduceAdd,Nat.reduceSub,Nat.reduceMul,Nat.reduceLeDiff,Nat.reduceLT,Nat.reduceEqDiff,Int.reduceAdd,Int.reduceSub,Int.reduceMul,Int.reduceNeg,Int.reduceLT,Int.reduceLE,Int.reduceEq,Int.reduceToNat,Int.cast_ofNat_Int,↓reduceIte, *]
          refine condP_split (fun hlt => ?_) (fun hlt => ?_)
          · have hj' : j < (gi t i).length := by omega
            have hg := hr4 _ (mem_gi hj')
            simp (disch := (first | assumption | omega | (simp only [List.length_append, List.length_cons, List.length_nil]; omega))) only [↓wD,wU,Nat.reduceBEq,zx150,zx151,zx159,zx160,zx161,zx162,Nat.reduceAdd,Nat.reduceSub,Nat.reduceMul,Nat.reduceLeDiff,Nat.reduceLT,Nat.reduceEqDiff,Int.reduceAdd,Int.reduceSub,Int.reduceMul,Int.reduceNeg,Int.reduceLT,Int.reduceLE,Int.reduceEq,Int.reduceToNat,Int.cast_ofNat_Int,↓reduceIte, *, g.I]
            refine (ih2 hj').go ⟨rfl, ?_⟩
            rw [sum_take hj']
            simp (disch := (first | assumption | omega | (simp only [List.length_append, List.length_cons, List.length_nil]; omega))) only [↓wD,wU,Nat.reduceBEq,zx150,zx151,zx159,zx160,zx161,zx162,Nat.reduceAdd,Nat.reduceSub,Nat.reduceMul,Nat.reduceLeDiff,Nat.reduceLT,Nat.reduceEqDiff,Int.reduceAdd,Int.reduceSub,Int.reduceMul,Int.reduceNeg,Int.reduceLT,Int.reduceLE,Int.reduceEq,Int.reduceToNat,Int.cast_ofNat_Int,↓reduceIte, *]
            rw [Int.add_assoc]
          · simp (disch := (first | assumption | omega | (simp only [List.length_append, List.length_cons, List.length_nil]; omega))) only [↓wD,wU,Nat.reduceBEq,zx150,zx151,zx159,zx160,zx161,zx162,Nat.reduceAdd,Nat.reduceSub,Nat.reduceMul,Nat.reduceLeDiff,Nat.reduceLT,Nat.reduceEqDiff,Int.reduceAdd,Int.reduceSub,Int.reduceMul,Int.reduceNeg,Int.reduceLT,Int.reduceLE,Int.reduceEq,Int.reduceToNat,Int.cast_ofNat_Int,↓reduceIte, *]
            have e : ((gi t i).take j).sum = (gi t i).sum := sum_take_all (by omega)
            refine (ih hi').go ⟨rfl, ?_⟩
            have e2 : ((t.take (i + 1)).map List.sum).sum = ((t.take i).map List.sum).sum + (gi t i).sum := by rw [take_gi hi', List.map_append, List.sum_append]; simp
            rw [e2, ← e]
            simp (disch := (first | assumption | omega | (simp only [List.length_append, List.length_cons, List.length_nil]; omega))) only [↓wD,wU,Nat.reduceBEq,zx150,zx151,zx159,zx160,zx161,zx162,Nat.reduceAdd,Nat.reduceSub,Nat.reduceMul,Nat.reduceLeDiff,Nat.reduceLT,Nat.reduceEqDiff,Int.reduceAdd,Int.reduceSub,Int.reduceMul,Int.reduceNeg,Int.reduceLT,Int.reduceLE,Int.reduceEq,Int.reduceToNat,Int.cast_ofNat_Int,↓reduceIte, *]
            exact ⟨mem_take_gi hh hi' ⟨hr1, hr2, hr3, hr4⟩, by omega, by omega⟩
        · (simp (disch := (first | assumption | omega | (simp only [List.length_append, List.length_cons, List.length_nil]; omega))) only [↓wD,wU,Nat.reduceBEq,zx150,zx151,zx159,zx160,zx161,zx162,Nat.reduceAdd,Nat.reduceSub,Nat.reduceMul,Nat.reduceLeDiff,Nat.reduceLT,Nat.reduceEqDiff,Int.reduceAdd,Int.reduceSub,Int.reduceMul,Int.reduceNeg,Int.reduceLT,Int.reduceLE,Int.reduceEq,Int.reduceToNat,Int.cast_ofNat_Int,↓reduceIte, *]) <;> simp
      · have hr' : ¬ TabOk t := fun h => hr (h.2.2.1 _ (mem_gi hi'))
        (repeat' (first | refine condP_split (fun _ => ?_) (fun _ => ?_) | refine guardP_split (fun _ => ?_) (fun _ => ?_) | refine guardP_splitF (fun _ => ?_) (fun _ => ?_) | (simp (disch := (first | assumption | omega | (simp only [List.length_append, List.length_cons, List.length_nil]; omega))) only [↓wD,wU,Nat.reduceBEq,zx150,zx151,zx159,zx160,zx161,zx162,Nat.reduceAdd,Nat.reduceSub,Nat.reduceMul,Nat.reduceLeDiff,Nat.reduceLT,Nat.reduceEqDiff,Int.reduceAdd,Int.reduceSub,Int.reduceMul,Int.reduceNeg,Int.reduceLT,Int.reduceLE,Int.reduceEq,Int.reduceToNat,Int.cast_ofNat_Int,↓reduceIte, *, ht.L, g.I, g0.I]))) <;> first
          | exact avb_f hr'
          | skip
        (repeat' (first | refine condP_split (fun _ => ?_) (fun _ => ?_) | refine guardP_split (fun _ => ?_) (fun _ => ?_) | refine guardP_splitF (fun _ => ?_) (fun _ => ?_) | (simp (disch := (first | assumption | omega | (simp only [List.length_append, List.length_cons, List.length_nil]; omega))) only [↓wD,wU,Nat.reduceBEq,zx150,zx151,zx159,zx160,zx161,zx162,Nat.reduceAdd,Nat.reduceSub,Nat.reduceMul,Nat.reduceLeDiff,Nat.reduceLT,Nat.reduceEqDiff,Int.reduceAdd,Int.reduceSub,Int.reduceMul,Int.reduceNeg,Int.reduceLT,Int.reduceLE,Int.reduceEq,Int.reduceToNat,Int.cast_ofNat_Int,↓reduceIte, *, (isSums_ret g (by omega)).call]))) <;> first
          | exact avb_f hr'
          | skip
        rename_i q
        exact absurd ⟨by omega, by omega, by omega, (Decidable.not_not.1 q).1⟩ hr
    · simp (disch := (first | assumption | omega | (simp only [List.length_append, List.length_cons, List.length_nil]; omega))) only [↓wD,wU,Nat.reduceBEq,zx150,zx151,zx159,zx160,zx161,zx162,Nat.reduceAdd,Nat.reduceSub,Nat.reduceMul,Nat.reduceLeDiff,Nat.reduceLT,Nat.reduceEqDiff,Int.reduceAdd,Int.reduceSub,Int.reduceMul,Int.reduceNeg,Int.reduceLT,Int.reduceLE,Int.reduceEq,Int.reduceToNat,Int.cast_ofNat_Int,↓reduceIte, *]
      have e : t.take i = t := List.take_of_length_le (by omega)
      rw [e] at hh ⊢
      congr 1
      exact decide_eq_decide.2 ⟨fun h => ⟨by omega, by omega, hh, h⟩, fun h => h.2.2.2⟩
  · (simp (disch := (first | assumption | omega | (simp only [List.length_append, List.length_cons, List.length_nil]; omega))) only [↓wD,wU,Nat.reduceBEq,zx150,zx151,zx159,zx160,zx161,zx162,Nat.reduceAdd,Nat.reduceSub,Nat.reduceMul,Nat.reduceLeDiff,Nat.reduceLT,Nat.reduceEqDiff,Int.reduceAdd,Int.reduceSub,Int.reduceMul,Int.reduceNeg,Int.reduceLT,Int.reduceLE,Int.reduceEq,Int.reduceToNat,Int.cast_ofNat_Int,↓reduceIte, *]) <;> simp
end Go.Proofs.Ytflekaacffdakaa
namespace Go.Proofs.Ytflekaacffdakaa
open Go Go.AM Go.Proofs
theorem gi_map_range {α : Type} [Inhabited α] {n j : Nat} {f : Nat → α} (h : j < n) : gi ((List.range n).map f) (j : Int) = f j := by
  rw [gi_nat (by simpa using h)]; simp
theorem set_map_range {α : Type} {n j : Nat} {f : Nat → α} {y : α} : ((List.range n).map f).set j y = (List.range n).map fun c => if c = j then y else f c := by
  apply List.ext_getElem (by simp)
  intro i h1 h2
  simp only [List.getElem_set, List.getElem_map, List.getElem_range]
  by_cases h : j = i
  · subst h; simp
  · rw [if_neg h, if_neg (fun e => h e.symm)]
theorem map_range_congr {α : Type} {n : Nat} {f g : Nat → α} (h : ∀ c, c < n → f c = g c) : (List.range n).map f = (List.range n).map g :=
  List.map_congr_left fun c hc => h c (List.mem_range.1 hc)
def colPart (t : List (List Int)) (i j : Nat) : Int := ((t.take i).map fun r => gi r (j : Int)).sum
def colSums (t : List (List Int)) : List Int := (List.range (gi t 0).length).map fun j => colPart t t.length j
def rowSums (t : List (List Int)) : List Int := t.map List.sum
theorem colPart_succ {t : List (List Int)} {i j : Nat} (h : i < t.length) : colPart t (i + 1) j = colPart t i j + gi (gi t i) j := by
  simp [colPart, take_gi h, List.map_append, List.sum_append]
theorem colPart_0 {t : List (List Int)} {j : Nat} : colPart t 0 j = 0 := by simp [colPart]
theorem TabOk.entry {t : List (List Int)} (h : TabOk t) {i j : Nat} (hi : i < t.length) (hj : j < (gi t 0).length) : 0 ≤ gi (gi t i) j ∧ gi (gi t i) j ≤ 16 := by
  have h1 := h.2.2.1 _ (mem_gi hi)
  exact h1.2.2.2 _ (mem_gi (by rw [h1.2.2.1]; exact hj))
theorem TabOk.width {t : List (List Int)} (h : TabOk t) {i : Nat} (hi : i < t.length) : (gi t i).length = (gi t 0).length := (h.2.2.1 _ (mem_gi hi)).2.2.1
theorem TabOk.cols {t : List (List Int)} (h : TabOk t) : 1 ≤ (gi t 0).length ∧ (gi t 0).length ≤ 3 := by
  have h1 := h.2.2.1 _ (mem_gi (i := 0) h.1)
  exact ⟨h1.1, h1.2.1⟩
theorem TabOk.colPart {t : List (List Int)} (h : TabOk t) {i j : Nat} (hj : j < (gi t 0).length) : 0 ≤ colPart t i j ∧ colPart t i j ≤ 48 := by
  have h1 : ∀ x ∈ (t.take i).map fun r => gi r (j : Int), 0 ≤ x ∧ x ≤ 16 := by
    intro x hx
    obtain ⟨r, hr, rfl⟩ := List.mem_map.1 hx
    have hr' := h.2.2.1 r (List.mem_of_mem_take hr)
    exact hr'.2.2.2 _ (mem_gi (by rw [hr'.2.2.1]; exact hj))
  have h2 := sum_bound h1
  have h3 : ((t.take i).map fun r => gi r (j : Int)).length ≤ 3 := by have := h.2.1; simp; omega
  unfold Go.Proofs.Ytflekaacffdakaa.colPart
  omega
theorem sums_ret {p : Nat → Prop} {H : Heap} {v : AV} {t : List (List Int)} (ht : Sl p H v t) (h : TabOk t) : Ret E 71 [v] (fun _ => False) H (T2.mk (rowSums t) (colSums t)) := by
  refine Ret.ro rfl fn71 rfl ?_
  unfold f71A
  have hc := h.cols
  have hl := h.1
  have hl3 := h.2.1
  replace ht : Sl (fun b => b < H.length) H v t := ht.low.weak fun _ h => h.2
  have g0 := ht.get (k := (0 : Int)) (by omega) (by omega)
  simp (disch := (first | assumption | omega | (simp only [List.length_append, List.length_cons, List.length_nil]; omega))) only [↓wD,wU,Nat.reduceBEq,zx150,zx151,zx159,zx160,zx161,zx162,Nat.reduceAdd,Nat.reduceSub,Nat.reduceMul,Nat.reduceLeDiff,Nat.reduceLT,Nat.reduceEqDiff,Int.reduceAdd,Int.reduceSub,Int.reduceMul,Int.reduceNeg,Int.reduceLT,Int.reduceLE,Int.reduceEq,Int.reduceToNat,Int.cast_ofNat_Int,↓reduceIte, *, ht.L, g0.I]
  refine Wp.for t.length (fun i a H' => ∃ u w, a 14 = v ∧ a 15 = .i t.length ∧ a 16 = .i i ∧ a 2 = u ∧ a 3 = w ∧ Gr H H' ∧ Acc H.length (fun _ => False) H' u ((t.take i).map List.sum) ∧ MI H.length H' w ((List.range (gi t 0).length).map fun j => colPart t i j) ∧ (∀ b, u.blk = some b → w.blk ≠ some b)) ?_ ?_
  · rintro i a H1 hi ⟨u, w, h14, h15, h16, h2, h3, hg, hu, hw, hne⟩ ih
    simp (disch := (first | assumption | omega | (simp only [List.length_append, List.length_cons, List.length_nil]; omega))) only [↓wD,wU,Nat.reduceBEq,zx150,zx151,zx159,zx160,zx161,zx162,Nat.reduceAdd,Nat.reduceSub,Nat.reduceMul,Nat.reduceLeDiff,Nat.reduceLT,Nat.reduceEqDiff,Int.reduceAdd,Int.reduceSub,Int.reduceMul,Int.reduceNeg,Int.reduceLT,Int.reduceLE,Int.reduceEq,Int.reduceToNat,Int.cast_ofNat_Int,↓reduceIte, *]
    refine condP_split (fun hlt => ?_) (fun hlt => ?_)
    · have hi' : i < t.length := by omega
      have ht1 := ht.gr hg
      have g := ht1.get (k := (i : Int)) (by omega) (by omega)
      have hwd := h.width hi'
      simp (disch := (first | assumption | omega | (simp only [List.length_append, List.length_cons, List.length_nil]; omega))) only [↓wD,wU,Nat.reduceBEq,zx150,zx151,zx159,zx160,zx161,zx162,Nat.reduceAdd,Nat.reduceSub,Nat.reduceMul,Nat.reduceLeDiff,Nat.reduceLT,Nat.reduceEqDiff,Int.reduceAdd,Int.reduceSub,Int.reduceMul,Int.reduceNeg,Int.reduceLT,Int.reduceLE,Int.reduceEq,Int.reduceToNat,Int.cast_ofNat_Int,↓reduceIte, *, ht1.L, g.I]
      refine Wp.for (gi t i).length (fun j a H2 => a 14 = v ∧ a 15 = .i t.length ∧ a 16 = .i i ∧ a 2 = u ∧ a 3 = w ∧ a 20 = v.get H1 i ∧ a 21 = .i (gi t i).length ∧ a 22 = .i j ∧ a 6 = .i ((gi t i).take j).sum ∧ Kp (fun b => w.blk ≠ some b) H1 H2 ∧ H2.length ≤ H1.length ∧ MI H.length H2 w ((List.range (gi t 0).length).map fun c => colPart t i c + if c < j then gi (gi t i) c else 0)) ?_ ?_
      · clear h14 h15 h16 h2 h3
        rintro j a H2 hj ⟨h14, h15, h16, h2, h3, h20, h21, h22, h6, hk, hl2, hw2⟩ ih2
        simp (disch := (first | assumption | omega | (simp only [List.length_append, List.length_cons, List.length_nil]; omega))) only [↓wD,wU,Nat.reduceBEq,zx150,zx151,zx159,zx160,zx161,zx162,Nat.reduceAdd,Nat.reduceSub,Nat.reduceMul,Nat.reduceLeDiff,Nat.reduceLT,Nat.reduceEqDiff,Int.reduceAdd,Int.reduceSub,Int.reduceMul,Int.reduceNeg,Int.reduceLT,Int.reduceLE,Int.reduceEq,Int.reduceToNat,Int.cast_ofNat_Int,↓reduceIte, *]
        refine condP_split (fun hlt => ?_) (fun hlt => ?_)
        · have hj' : j < (gi t i).length := by omega
          have he := h.entry hi' (j := j) (by omega)
          have hcp := h.colPart (i := i) (j := j) (by omega)
          have hrs := sum_bound (xs := (gi t i).take j) (m := 16) fun x hx => (h.2.2.1 _ (mem_gi hi')).2.2.2 x (List.mem_of_mem_take hx)
          have hrl : ((gi t i).take j).length ≤ 3 := by rw [List.length_take]; omega
          have g2 : Sl (fun b => b < H.length) H2 (v.get H1 i) (gi t i) := g.mono (hk.weak fun b hb e => by have := hw.blk_lt e; omega) fun _ h => h
          have hgv : gi ((List.range (gi t 0).length).map fun c => colPart t i c + if c < j then gi (gi t i) c else 0) (j : Int) = colPart t i j := by
            rw [gi_map_range (by omega)]; simp
          have hml : ((List.range (gi t 0).length).map fun c => colPart t i c + if c < j then gi (gi t i) c else 0).length = (gi t 0).length := by simp
          simp (disch := (first | assumption | omega | (simp only [List.length_append, List.length_cons, List.length_nil]; omega))) only [↓wD,wU,Nat.reduceBEq,zx150,zx151,zx159,zx160,zx161,zx162,Nat.reduceAdd,Nat.reduceSub,Nat.reduceMul,Nat.reduceLeDiff,Nat.reduceLT,Nat.reduceEqDiff,Int.reduceAdd,Int.reduceSub,Int.reduceMul,Int.reduceNeg,Int.reduceLT,Int.reduceLE,Int.reduceEq,Int.reduceToNat,Int.cast_ofNat_Int,↓reduceIte, *, g2.I, hw2.sl.I, hgv]
          refine hw2.store (Nat.le_refl _) (by omega) (by omega) fun H3 hw3 hk3 hl3' => ?_
          simp (disch := (first | assumption | omega | (simp only [List.length_append, List.length_cons, List.length_nil]; omega))) only [↓wD,wU,Nat.reduceBEq,zx150,zx151,zx159,zx160,zx161,zx162,Nat.reduceAdd,Nat.reduceSub,Nat.reduceMul,Nat.reduceLeDiff,Nat.reduceLT,Nat.reduceEqDiff,Int.reduceAdd,Int.reduceSub,Int.reduceMul,Int.reduceNeg,Int.reduceLT,Int.reduceLE,Int.reduceEq,Int.reduceToNat,Int.cast_ofNat_Int,↓reduceIte, *]
          refine (ih2 hj').go ?_
          rw [sum_take hj']
          simp (disch := (first | assumption | omega | (simp only [List.length_append, List.length_cons, List.length_nil]; omega))) only [↓wD,wU,Nat.reduceBEq,zx150,zx151,zx159,zx160,zx161,zx162,Nat.reduceAdd,Nat.reduceSub,Nat.reduceMul,Nat.reduceLeDiff,Nat.reduceLT,Nat.reduceEqDiff,Int.reduceAdd,Int.reduceSub,Int.reduceMul,Int.reduceNeg,Int.reduceLT,Int.reduceLE,Int.reduceEq,Int.reduceToNat,Int.cast_ofNat_Int,↓reduceIte, *]
          refine ⟨hk.trans hk3 fun b hb => hb, ?_⟩
          rw [set_map_range] at hw3
          have e : ((List.range (gi t 0).length).map fun c => colPart t i c + if c < j + 1 then gi (gi t i) c else 0) = (List.range (gi t 0).length).map fun c => if c = (j : Int).toNat then colPart t i j + gi (gi t i) j else colPart t i c + if c < j then gi (gi t i) c else 0 := by
            apply map_range_congr
            intro c _
            by_cases hcj : c = j
            · subst hcj; simp
            · have : (c < j + 1) = (c < j) := by simp only [eq_iff_iff]; omega
              simp [hcj, this]
          rw [e]; exact hw3
        · have hj2 : j = (gi t i).length := by omega
          subst hj2
          simp (disch := (first | assumption | omega | (simp only [List.length_append, List.length_cons, List.length_nil]; omega))) only [↓wD,wU,Nat.reduceBEq,zx150,zx151,zx159,zx160,zx161,zx162,Nat.reduceAdd,Nat.reduceSub,Nat.reduceMul,Nat.reduceLeDiff,Nat.reduceLT,Nat.reduceEqDiff,Int.reduceAdd,Int.reduceSub,Int.reduceMul,Int.reduceNeg,Int.reduceLT,Int.reduceLE,Int.reduceEq,Int.reduceToNat,Int.cast_ofNat_Int,↓reduceIte, *]
          have hu2 : Acc H.length (fun _ => False) H2 u ((t.take i).map List.sum) := hu.kp hk (fun b e e2 => hne b e e2) fun _ h => h.elim
          refine hu2.pushI (Nat.le_refl _) (by have := hg.1; have := hk.1; omega) ?_ fun u' H3 hu' hk3 hl3' hub => ?_
          · simp; omega
          · simp (disch := (first | assumption | omega | (simp only [List.length_append, List.length_cons, List.length_nil]; omega))) only [↓wD,wU,Nat.reduceBEq,zx150,zx151,zx159,zx160,zx161,zx162,Nat.reduceAdd,Nat.reduceSub,Nat.reduceMul,Nat.reduceLeDiff,Nat.reduceLT,Nat.reduceEqDiff,Int.reduceAdd,Int.reduceSub,Int.reduceMul,Int.reduceNeg,Int.reduceLT,Int.reduceLE,Int.reduceEq,Int.reduceToNat,Int.cast_ofNat_Int,↓reduceIte, *]
            refine (ih hi').go ⟨u', w, ?_⟩
            simp (disch := (first | assumption | omega | (simp only [List.length_append, List.length_cons, List.length_nil]; omega))) only [↓wD,wU,Nat.reduceBEq,zx150,zx151,zx159,zx160,zx161,zx162,Nat.reduceAdd,Nat.reduceSub,Nat.reduceMul,Nat.reduceLeDiff,Nat.reduceLT,Nat.reduceEqDiff,Int.reduceAdd,Int.reduceSub,Int.reduceMul,Int.reduceNeg,Int.reduceLT,Int.reduceLE,Int.reduceEq,Int.reduceToNat,Int.cast_ofNat_Int,↓reduceIte, *]
            have hgk : Gr H H2 := hg.trans' hk fun b hb e => by have := hw.blk_lt e; omega
            refine ⟨hgk.push hu2 (Nat.le_refl _) hk3, ?_, ?_, ?_⟩
            · rw [take_gi hi', List.map_append]
              simpa [List.take_of_length_le (show (gi t (i : Int)).length ≤ (gi t 0).length by omega)] using hu'
            · have e : ((List.range (gi t 0).length).map fun c => colPart t (i + 1) c) = (List.range (gi t 0).length).map fun c => colPart t i c + if c < (gi t i).length then gi (gi t i) c else 0 := by
                apply map_range_congr
                intro c hc
                rw [colPart_succ hi', if_pos (by omega)]
              rw [e]
              exact hw2.kp hk3 fun b e => fun e2 => hne b e2 e
            · intro b hb e
              have := hw2.blk_lt e
              simp at hb; omega
      · simp (disch := (first | assumption | omega | (simp only [List.length_append, List.length_cons, List.length_nil]; omega))) only [↓wD,wU,Nat.reduceBEq,zx150,zx151,zx159,zx160,zx161,zx162,Nat.reduceAdd,Nat.reduceSub,Nat.reduceMul,Nat.reduceLeDiff,Nat.reduceLT,Nat.reduceEqDiff,Int.reduceAdd,Int.reduceSub,Int.reduceMul,Int.reduceNeg,Int.reduceLT,Int.reduceLE,Int.reduceEq,Int.reduceToNat,Int.cast_ofNat_Int,↓reduceIte, *]
        refine ⟨rfl, Kp.refl _ _, ?_⟩
        simpa using hw
    · have e : i = t.length := by omega
      subst e
      simp (disch := (first | assumption | omega | (simp only [List.length_append, List.length_cons, List.length_nil]; omega))) only [↓wD,wU,Nat.reduceBEq,zx150,zx151,zx159,zx160,zx161,zx162,Nat.reduceAdd,Nat.reduceSub,Nat.reduceMul,Nat.reduceLeDiff,Nat.reduceLT,Nat.reduceEqDiff,Int.reduceAdd,Int.reduceSub,Int.reduceMul,Int.reduceNeg,Int.reduceLT,Int.reduceLE,Int.reduceEq,Int.reduceToNat,Int.cast_ofNat_Int,↓reduceIte, *]
      refine rv_2 ?_ ?_
      · have h1 := hu.sl.weak (q := fun b => False ∨ H.length ≤ b) fun b h => h
        rwa [List.take_length] at h1
      · exact hw.sl.weak fun b h => .inr h
  · simp (disch := (first | assumption | omega | (simp only [List.length_append, List.length_cons, List.length_nil]; omega))) only [↓wD,wU,Nat.reduceBEq,zx150,zx151,zx159,zx160,zx161,zx162,Nat.reduceAdd,Nat.reduceSub,Nat.reduceMul,Nat.reduceLeDiff,Nat.reduceLT,Nat.reduceEqDiff,Int.reduceAdd,Int.reduceSub,Int.reduceMul,Int.reduceNeg,Int.reduceLT,Int.reduceLE,Int.reduceEq,Int.reduceToNat,Int.cast_ofNat_Int,↓reduceIte, *]
    refine ⟨.nils, _, rfl, rfl, Kp.app _ _ _, Acc.nil, ?_, fun b e => by cases e⟩
    have h1 := MI.mk (H := H) (n := (gi t 0).length) (Nat.le_refl _) (by omega)
    have e : ((List.range (gi t 0).length).map fun j => colPart t 0 j) = List.replicate (gi t 0).length 0 := by
      apply List.ext_getElem (by simp)
      intro i h1 h2
      simp [colPart_0]
    rw [e]; exact h1
end Go.Proofs.Ytflekaacffdakaa
namespace Go.Proofs.Ytflekaacffdakaa
open Go Go.AM Go.Proofs
theorem list_ret {p : Nat → Prop} {H : Heap} {v : AV} {xs : List Int} (hx : Sl p H v xs) : Ret E 39 [v] (fun _ => False) H (xs.take 6) := by
  refine Ret.ro rfl fn39 rfl ?_
  unfold f39A
  have hb := hx.bound
  have hs : slV 1 v none (some (.i (min (xs.length : Int) 6))) none = some (v.cut 0 (min xs.length 6)) := by
    refine hx.slV_lh none _ (b := min xs.length 6) ?_ (bound_none (by omega)) (by omega) (by omega)
    rw [bound_some (by omega) (by omega)]
    congr 1
    omega
  simp (disch := (first | assumption | omega | (simp only [List.length_append, List.length_cons, List.length_nil]; omega))) only [↓wD,wU,Nat.reduceBEq,zx150,zx151,zx159,zx160,zx161,zx162,Nat.reduceAdd,Nat.reduceSub,Nat.reduceMul,Nat.reduceLeDiff,Nat.reduceLT,Nat.reduceEqDiff,Int.reduceAdd,Int.reduceSub,Int.reduceMul,Int.reduceNeg,Int.reduceLT,Int.reduceLE,Int.reduceEq,Int.reduceToNat,Int.cast_ofNat_Int,↓reduceIte, *, hx.I, hs]
  have hc := hx.cut (a := 0) (b := min xs.length 6) (by omega) (by omega)
  have e : (xs.drop 0).take (min xs.length 6 - 0) = xs.take 6 := by
    rw [List.drop_zero, Nat.sub_zero]
    by_cases hl : xs.length ≤ 6
    · rw [List.take_of_length_le (by omega), List.take_of_length_le hl]
    · congr 1; omega
  rw [e] at hc
  refine (clone_ret hc (by rw [List.length_take]; omega)).go fun u N hu => ?_
  simp (disch := (first | assumption | omega | (simp only [List.length_append, List.length_cons, List.length_nil]; omega))) only [↓wD,wU,Nat.reduceBEq,zx150,zx151,zx159,zx160,zx161,zx162,Nat.reduceAdd,Nat.reduceSub,Nat.reduceMul,Nat.reduceLeDiff,Nat.reduceLT,Nat.reduceEqDiff,Int.reduceAdd,Int.reduceSub,Int.reduceMul,Int.reduceNeg,Int.reduceLT,Int.reduceLE,Int.reduceEq,Int.reduceToNat,Int.cast_ofNat_Int,↓reduceIte]
  exact hu
def cutT (t : List (List Int)) : List (List Int) := (t.take 6).map fun r => r.take 6
theorem table_ret {p : Nat → Prop} {H : Heap} {v : AV} {t : List (List Int)} (ht : Sl p H v t) : Ret E 20 [v] (fun _ => False) H (cutT t) := by
  refine Ret.ro rfl fn20 rfl ?_
  unfold f20A
  have hb := ht.bound
  simp (disch := (first | assumption | omega | (simp only [List.length_append, List.length_cons, List.length_nil]; omega))) only [↓wD,wU,Nat.reduceBEq,zx150,zx151,zx159,zx160,zx161,zx162,Nat.reduceAdd,Nat.reduceSub,Nat.reduceMul,Nat.reduceLeDiff,Nat.reduceLT,Nat.reduceEqDiff,Int.reduceAdd,Int.reduceSub,Int.reduceMul,Int.reduceNeg,Int.reduceLT,Int.reduceLE,Int.reduceEq,Int.reduceToNat,Int.cast_ofNat_Int,↓reduceIte, *, ht.L]
  replace ht : Sl (fun b => b < H.length) H v t := ht.low.weak fun _ h => h.2
  refine Wp.for t.length (fun i a H' => ∃ u, a 6 = v ∧ a 7 = .i t.length ∧ a 8 = .i i ∧ a 3 = u ∧ Gr H H' ∧ Acc H.length (fun b => H.length ≤ b) H' u (((t.take i).take 6).map fun r => r.take 6)) ?_ ?_
  · rintro i a H1 hi ⟨u, h6, h7, h8, h3, hg, hu⟩ ih
    simp (disch := (first | assumption | omega | (simp only [List.length_append, List.length_cons, List.length_nil]; omega))) only [↓wD,wU,Nat.reduceBEq,zx150,zx151,zx159,zx160,zx161,zx162,Nat.reduceAdd,Nat.reduceSub,Nat.reduceMul,Nat.reduceLeDiff,Nat.reduceLT,Nat.reduceEqDiff,Int.reduceAdd,Int.reduceSub,Int.reduceMul,Int.reduceNeg,Int.reduceLT,Int.reduceLE,Int.reduceEq,Int.reduceToNat,Int.cast_ofNat_Int,↓reduceIte, *]
    refine condP_split (fun hlt => ?_) (fun hlt => ?_)
    · have hi' : i < t.length := by omega
      have ht1 := ht.gr hg
      have g := ht1.get (k := (i : Int)) (by omega) (by omega)
      simp (disch := (first | assumption | omega | (simp only [List.length_append, List.length_cons, List.length_nil]; omega))) only [↓wD,wU,Nat.reduceBEq,zx150,zx151,zx159,zx160,zx161,zx162,Nat.reduceAdd,Nat.reduceSub,Nat.reduceMul,Nat.reduceLeDiff,Nat.reduceLT,Nat.reduceEqDiff,Int.reduceAdd,Int.reduceSub,Int.reduceMul,Int.reduceNeg,Int.reduceLT,Int.reduceLE,Int.reduceEq,Int.reduceToNat,Int.cast_ofNat_Int,↓reduceIte, *, ht1.L]
      refine condP_split (fun h6 => ?_) (fun h6 => ?_)
      · simp (disch := (first | assumption | omega | (simp only [List.length_append, List.length_cons, List.length_nil]; omega))) only [↓wD,wU,Nat.reduceBEq,zx150,zx151,zx159,zx160,zx161,zx162,Nat.reduceAdd,Nat.reduceSub,Nat.reduceMul,Nat.reduceLeDiff,Nat.reduceLT,Nat.reduceEqDiff,Int.reduceAdd,Int.reduceSub,Int.reduceMul,Int.reduceNeg,Int.reduceLT,Int.reduceLE,Int.reduceEq,Int.reduceToNat,Int.cast_ofNat_Int,↓reduceIte, *]
        refine (list_ret g).toF fun y H2 hg2 hy => ?_
        have hl2 := hg2.1
        simp (disch := (first | assumption | omega | (simp only [List.length_append, List.length_cons, List.length_nil]; omega))) only [↓wD,wU,Nat.reduceBEq,zx150,zx151,zx159,zx160,zx161,zx162,Nat.reduceAdd,Nat.reduceSub,Nat.reduceMul,Nat.reduceLeDiff,Nat.reduceLT,Nat.reduceEqDiff,Int.reduceAdd,Int.reduceSub,Int.reduceMul,Int.reduceNeg,Int.reduceLT,Int.reduceLE,Int.reduceEq,Int.reduceToNat,Int.cast_ofNat_Int,↓reduceIte, *, hy.cellsV]
        refine (hu.gr hg2).pushL (Nat.le_refl _) (by have := hg.1; omega) hy (fun b hb => ⟨by have := hg.1; omega, fun e => by have := hu.blk_lt e; omega⟩) ?_ fun u' H3 hu' hk3 hl3' _ => ?_
        · simp; omega
        · simp (disch := (first | assumption | omega | (simp only [List.length_append, List.length_cons, List.length_nil]; omega))) only [↓wD,wU,Nat.reduceBEq,zx150,zx151,zx159,zx160,zx161,zx162,Nat.reduceAdd,Nat.reduceSub,Nat.reduceMul,Nat.reduceLeDiff,Nat.reduceLT,Nat.reduceEqDiff,Int.reduceAdd,Int.reduceSub,Int.reduceMul,Int.reduceNeg,Int.reduceLT,Int.reduceLE,Int.reduceEq,Int.reduceToNat,Int.cast_ofNat_Int,↓reduceIte, *]
          refine (ih hi').go ⟨u', ?_⟩
          simp (disch := (first | assumption | omega | (simp only [List.length_append, List.length_cons, List.length_nil]; omega))) only [↓wD,wU,Nat.reduceBEq,zx150,zx151,zx159,zx160,zx161,zx162,Nat.reduceAdd,Nat.reduceSub,Nat.reduceMul,Nat.reduceLeDiff,Nat.reduceLT,Nat.reduceEqDiff,Int.reduceAdd,Int.reduceSub,Int.reduceMul,Int.reduceNeg,Int.reduceLT,Int.reduceLE,Int.reduceEq,Int.reduceToNat,Int.cast_ofNat_Int,↓reduceIte, *]
          refine ⟨((hg.trans hg2).push (hu.gr hg2) (Nat.le_refl _) hk3), ?_⟩
          have e : ((t.take (i + 1)).take 6) = (t.take i).take 6 ++ [gi t i] := by
            rw [List.take_take, List.take_take, show min 6 (i + 1) = i + 1 by omega, show min 6 i = i by omega, take_gi hi']
          rw [e, List.map_append]; exact hu'
      · simp (disch := (first | assumption | omega | (simp only [List.length_append, List.length_cons, List.length_nil]; omega))) only [↓wD,wU,Nat.reduceBEq,zx150,zx151,zx159,zx160,zx161,zx162,Nat.reduceAdd,Nat.reduceSub,Nat.reduceMul,Nat.reduceLeDiff,Nat.reduceLT,Nat.reduceEqDiff,Int.reduceAdd,Int.reduceSub,Int.reduceMul,Int.reduceNeg,Int.reduceLT,Int.reduceLE,Int.reduceEq,Int.reduceToNat,Int.cast_ofNat_Int,↓reduceIte, *]
        refine (ih hi').go ⟨u, ?_⟩
        simp (disch := (first | assumption | omega | (simp only [List.length_append, List.length_cons, List.length_nil]; omega))) only [↓wD,wU,Nat.reduceBEq,zx150,zx151,zx159,zx160,zx161,zx162,Nat.reduceAdd,Nat.reduceSub,Nat.reduceMul,Nat.reduceLeDiff,Nat.reduceLT,Nat.reduceEqDiff,Int.reduceAdd,Int.reduceSub,Int.reduceMul,Int.reduceNeg,Int.reduceLT,Int.reduceLE,Int.reduceEq,Int.reduceToNat,Int.cast_ofNat_Int,↓reduceIte, *]
        have e : ((t.take (i + 1)).take 6) = (t.take i).take 6 := by
          rw [List.take_take, List.take_take]; congr 1; omega
        rw [e]; first | exact hu | exact ⟨hg, hu⟩
    · have e : i = t.length := by omega
      subst e
      simp (disch := (first | assumption | omega | (simp only [List.length_append, List.length_cons, List.length_nil]; omega))) only [↓wD,wU,Nat.reduceBEq,zx150,zx151,zx159,zx160,zx161,zx162,Nat.reduceAdd,Nat.reduceSub,Nat.reduceMul,Nat.reduceLeDiff,Nat.reduceLT,Nat.reduceEqDiff,Int.reduceAdd,Int.reduceSub,Int.reduceMul,Int.reduceNeg,Int.reduceLT,Int.reduceLE,Int.reduceEq,Int.reduceToNat,Int.cast_ofNat_Int,↓reduceIte, *]
      rw [List.take_length] at hu
      exact hu.sl.weak fun b h => .inr (by omega)
  · simp (disch := (first | assumption | omega | (simp only [List.length_append, List.length_cons, List.length_nil]; omega))) only [↓wD,wU,Nat.reduceBEq,zx150,zx151,zx159,zx160,zx161,zx162,Nat.reduceAdd,Nat.reduceSub,Nat.reduceMul,Nat.reduceLeDiff,Nat.reduceLT,Nat.reduceEqDiff,Int.reduceAdd,Int.reduceSub,Int.reduceMul,Int.reduceNeg,Int.reduceLT,Int.reduceLE,Int.reduceEq,Int.reduceToNat,Int.cast_ofNat_Int,↓reduceIte, *]
    exact ⟨.nils, rfl, Gr.refl _, Acc.nil⟩
end Go.Proofs.Ytflekaacffdakaa
namespace Go.Proofs.Ytflekaacffdakaa
open Go Go.AM Go.Proofs
theorem rtable_ret {p : Nat → Prop} {H : Heap} {v : AV} {t : List (List Int)} (ht : Sl p H v t) (hsz : t.length * 24 ≤ 140737488351232) : RetP E 22 [v] H (.b (decide (TabOk t))) := by
  refine RetP.ro rfl fn22 rfl rfl ?_
  unfold f22A
  simp (disch := (first | assumption | omega | (simp only [List.length_append, List.length_cons, List.length_nil]; omega))) only [↓wD,wU,Nat.reduceBEq,zx150,zx151,zx159,zx160,zx161,zx162,Nat.reduceAdd,Nat.reduceSub,Nat.reduceMul,Nat.reduceLeDiff,Nat.reduceLT,Nat.reduceEqDiff,Int.reduceAdd,Int.reduceSub,Int.reduceMul,Int.reduceNeg,Int.reduceLT,Int.reduceLE,Int.reduceEq,Int.reduceToNat,Int.cast_ofNat_Int,↓reduceIte, *, ht.L]
  refine Wp.for t.length (fun i a H' => H' = H ∧ a 0 = v ∧ a 8 = v ∧ a 9 = .i t.length ∧ a 10 = .i i ∧ a 3 = .i ((t.take i).map List.sum).sum ∧ (∀ r ∈ t.take i, RowOk (gi t 0).length r) ∧ 0 ≤ ((t.take i).map List.sum).sum ∧ ((t.take i).map List.sum).sum ≤ i * 48) ?_ ?_
  · rintro i a H' hi ⟨rfl, h0, h16, h17, h18, h3, hh, hp, hq⟩ ih
    simp (disch := (first | assumption | omega | (simp only [List.length_append, List.length_cons, List.length_nil]; omega))) only [↓wD,wU,Nat.reduceBEq,zx150,zx151,zx159,zx160,zx161,zx162,Nat.reduceAdd,Nat.reduceSub,Nat.reduceMul,Nat.reduceLeDiff,Nat.reduceLT,Nat.reduceEqDiff,Int.reduceAdd,Int.reduceSub,Int.reduceMul,Int.reduceNeg,Int.reduceLT,Int.reduceLE,Int.reduceEq,Int.reduceToNat,Int.cast_ofNat_Int,↓reduceIte, *]
    refine condP_split (fun hlt => ?_) (fun hlt => ?_)
    · have hi' : i < t.length := by omega
      have g := ht.get (k := (i : Int)) (by omega) (by omega)
      have g0 := ht.get (k := (0 : Int)) (by omega) (by omega)
      have hin : ¬ RowOk (gi t 0).length (gi t i) → ¬ TabOk t := fun hr h => hr (h.2.2.1 _ (mem_gi hi'))
      (repeat' (first | refine condP_split (fun _ => ?_) (fun _ => ?_) | refine guardP_split (fun _ => ?_) (fun _ => ?_) | refine guardP_splitF (fun _ => ?_) (fun _ => ?_) | (simp (disch := (first | assumption | omega | (simp only [List.length_append, List.length_cons, List.length_nil]; omega))) only [↓wD,wU,Nat.reduceBEq,zx150,zx151,zx159,zx160,zx161,zx162,Nat.reduceAdd,Nat.reduceSub,Nat.reduceMul,Nat.reduceLeDiff,Nat.reduceLT,Nat.reduceEqDiff,Int.reduceAdd,Int.reduceSub,Int.reduceMul,Int.reduceNeg,Int.reduceLT,Int.reduceLE,Int.reduceEq,Int.reduceToNat,Int.cast_ofNat_Int,↓reduceIte, *, ht.L, g.I, g0.I]))) <;> first
        | (refine avb_f (hin fun hr => ?_); have := hr.1; have := hr.2.1; have := hr.2.2.1; omega)
        | skip
      refine Wp.for (gi t i).length (fun j a H'' => H'' = H' ∧ a 0 = v ∧ a 8 = v ∧ a 9 = .i t.length ∧ a 10 = .i i ∧ a 31 = v.get H' i ∧ a 32 = .i (gi t i).length ∧ a 33 = .i j ∧ a 3 = .i (((t.take i).map List.sum).sum + ((gi t i).take j).sum) ∧ OkN ((gi t i).take j)) ?_ ?_
      · clear h0 h16 h17 h18 h3
        rintro j a H' hj ⟨rfl, h0, h16, h17, h18, h44, h45, h46, h3, hb1⟩ ih2
        have hb2 := sum_bound hb1
        have hb3 : ((gi t i).take j).length ≤ 3 := by rw [List.length_take]; omega
        simp (disch := (first | assumption | omega | (simp only [List.length_append, List.length_cons, List.length_nil]; omega))) only [↓wD,wU,Nat.reduceBEq,zx150,zx151,zx159,zx160,zx161,zx162,Nat.reduceAdd,Nat.reduceSub,Nat.reduceMul,Nat.reduceLeDiff,Nat.reduceLT,Nat.reduceEqDiff,Int.reduceAdd,Int.reduceSub,Int.reduceMul,Int.reduceNeg,Int.reduceLT,Int.reduceLE,Int.reduceEq,Int.reduceToNat,Int.cast_ofNat_Int,↓reduceIte, *]
        refine condP_split (fun hlt => ?_) (fun hlt => ?_)
        · have hj' : j < (gi t i).length := by omega
          (repeat' (first | refine condP_split (fun _ => ?_) (fun _ => ?_) | refine guardP_split (fun _ => ?_) (fun _ => ?_) | refine guardP_splitF (fun _ => ?_) (fun _ => ?_) | (simp (disch := (first | assumption | omega | (simp only [List.length_append, List.length_cons, List.length_nil]; omega))) only [↓wD,wU,Nat.reduceBEq,zx150,zx151,zx159,zx160,zx161,zx162,Nat.reduceAdd,Nat.reduceSub,Nat.reduceMul,Nat.reduceLeDiff,Nat.reduceLT,Nat.reduceEqDiff,Int.reduceAdd,Int.reduceSub,Int.reduceMul,Int.reduceNeg,Int.reduceLT,Int.reduceLE,Int.reduceEq,Int.reduceToNat,Int.cast_ofNat_Int,↓reduceIte, *, g.I]))) <;> first
            | (refine avb_f (hin fun hr => ?_); have := hr.2.2.2 _ (mem_gi hj'); omega)
            | skip
          refine (ih2 hj').go ⟨rfl, ?_⟩
          rw [sum_take hj']
          have hg : 0 ≤ gi (gi t i) j ∧ gi (gi t i) j ≤ 16 := by omega
          simp (disch := (first | assumption | omega | (simp only [List.length_append, List.length_cons, List.length_nil]; omega))) only [↓wD,wU,Nat.reduceBEq,zx150,zx151,zx159,zx160,zx161,zx162,Nat.reduceAdd,Nat.reduceSub,Nat.reduceMul,Nat.reduceLeDiff,Nat.reduceLT,Nat.reduceEqDiff,Int.reduceAdd,Int.reduceSub,Int.reduceMul,Int.reduceNeg,Int.reduceLT,Int.reduceLE,Int.reduceEq,Int.reduceToNat,Int.cast_ofNat_Int,↓reduceIte, *]
          exact ⟨by rw [Int.add_assoc], mem_take_gi hb1 hj' hg⟩
        · simp (disch := (first | assumption | omega | (simp only [List.length_append, List.length_cons, List.length_nil]; omega))) only [↓wD,wU,Nat.reduceBEq,zx150,zx151,zx159,zx160,zx161,zx162,Nat.reduceAdd,Nat.reduceSub,Nat.reduceMul,Nat.reduceLeDiff,Nat.reduceLT,Nat.reduceEqDiff,Int.reduceAdd,Int.reduceSub,Int.reduceMul,Int.reduceNeg,Int.reduceLT,Int.reduceLE,Int.reduceEq,Int.reduceToNat,Int.cast_ofNat_Int,↓reduceIte, *]
          have e : (gi t i).take j = gi t i := List.take_of_length_le (by omega)
          rw [e] at hb1 hb2 hb3
          refine (ih hi').go ⟨rfl, ?_⟩
          have e2 : ((t.take (i + 1)).map List.sum).sum = ((t.take i).map List.sum).sum + (gi t i).sum := by rw [take_gi hi', List.map_append, List.sum_append]; simp
          rw [e2]
          simp (disch := (first | assumption | omega | (simp only [List.length_append, List.length_cons, List.length_nil]; omega))) only [↓wD,wU,Nat.reduceBEq,zx150,zx151,zx159,zx160,zx161,zx162,Nat.reduceAdd,Nat.reduceSub,Nat.reduceMul,Nat.reduceLeDiff,Nat.reduceLT,Nat.reduceEqDiff,Int.reduceAdd,Int.reduceSub,Int.reduceMul,Int.reduceNeg,Int.reduceLT,Int.reduceLE,Int.reduceEq,Int.reduceToNat,Int.cast_ofNat_Int,↓reduceIte, *]
          refine ⟨mem_take_gi hh hi' ⟨?_, ?_, ?_, hb1⟩, ?_, ?_⟩ <;> omega
      · (simp (disch := (first | assumption | omega | (simp only [List.length_append, List.length_cons, List.length_nil]; omega))) only [↓wD,wU,Nat.reduceBEq,zx150,zx151,zx159,zx160,zx161,zx162,Nat.reduceAdd,Nat.reduceSub,Nat.reduceMul,Nat.reduceLeDiff,Nat.reduceLT,Nat.reduceEqDiff,Int.reduceAdd,Int.reduceSub,Int.reduceMul,Int.reduceNeg,Int.reduceLT,Int.reduceLE,Int.reduceEq,Int.reduceToNat,Int.cast_ofNat_Int,↓reduceIte, *]) <;> simp [OkN]
    · have e : t.take i = t := List.take_of_length_le (by omega)
      rw [e] at hh hp hq
      (repeat' (first | refine condP_split (fun _ => ?_) (fun _ => ?_) | refine guardP_split (fun _ => ?_) (fun _ => ?_) | refine guardP_splitF (fun _ => ?_) (fun _ => ?_) | (simp (disch := (first | assumption | omega | (simp only [List.length_append, List.length_cons, List.length_nil]; omega))) only [↓wD,wU,Nat.reduceBEq,zx150,zx151,zx159,zx160,zx161,zx162,Nat.reduceAdd,Nat.reduceSub,Nat.reduceMul,Nat.reduceLeDiff,Nat.reduceLT,Nat.reduceEqDiff,Int.reduceAdd,Int.reduceSub,Int.reduceMul,Int.reduceNeg,Int.reduceLT,Int.reduceLE,Int.reduceEq,Int.reduceToNat,Int.cast_ofNat_Int,↓reduceIte, *, ht.L]))) <;> first
        | (refine avb_f fun h => ?_; have := h.1; have := h.2.1; omega)
        | skip
      congr 1
      exact decide_eq_decide.2 ⟨fun h => ⟨by omega, by omega, hh, h⟩, fun h => h.2.2.2⟩
  · (simp (disch := (first | assumption | omega | (simp only [List.length_append, List.length_cons, List.length_nil]; omega))) only [↓wD,wU,Nat.reduceBEq,zx150,zx151,zx159,zx160,zx161,zx162,Nat.reduceAdd,Nat.reduceSub,Nat.reduceMul,Nat.reduceLeDiff,Nat.reduceLT,Nat.reduceEqDiff,Int.reduceAdd,Int.reduceSub,Int.reduceMul,Int.reduceNeg,Int.reduceLT,Int.reduceLE,Int.reduceEq,Int.reduceToNat,Int.cast_ofNat_Int,↓reduceIte, *]) <;> simp
theorem rsums_ret {p : Nat → Prop} {H : Heap} {v : AV} {t : List (List Int)} (ht : Sl p H v t) (h : TabOk t) : Ret E 24 [v] (fun _ => False) H (T2.mk (rowSums t) (colSums t)) := by
  refine Ret.ro rfl fn24 rfl ?_
  unfold f24A
  have hc := h.cols
  have hl := h.1
  have hl3 := h.2.1
  replace ht : Sl (fun b => b < H.length) H v t := ht.low.weak fun _ h => h.2
  have g0 := ht.get (k := (0 : Int)) (by omega) (by omega)
  have ht' := ht.app [.cells (reps t.length [.int .i64 0])]
  have g0' := ht'.get (k := (0 : Int)) (by omega) (by omega)
  simp (disch := (first | assumption | omega | (simp only [List.length_append, List.length_cons, List.length_nil]; omega))) only [↓wD,wU,Nat.reduceBEq,zx150,zx151,zx159,zx160,zx161,zx162,Nat.reduceAdd,Nat.reduceSub,Nat.reduceMul,Nat.reduceLeDiff,Nat.reduceLT,Nat.reduceEqDiff,Int.reduceAdd,Int.reduceSub,Int.reduceMul,Int.reduceNeg,Int.reduceLT,Int.reduceLE,Int.reduceEq,Int.reduceToNat,Int.cast_ofNat_Int,↓reduceIte, *, ht.L, g0.I, ht'.L, g0'.I]
  refine Wp.for t.length (fun i a H' => ∃ u w, a 18 = v ∧ a 19 = .i t.length ∧ a 20 = .i i ∧ a 4 = u ∧ a 5 = w ∧ Gr H H' ∧ MI H.length H' u ((List.range t.length).map fun r => if r < i then (gi t r).sum else 0) ∧ MI H.length H' w ((List.range (gi t 0).length).map fun j => colPart t i j) ∧ (∀ b, u.blk = some b → w.blk ≠ some b)) ?_ ?_
  · rintro i a H1 hi ⟨u, w, h18, h19, h20, h4, h5, hg, hu, hw, hne⟩ ih
    simp (disch := (first | assumption | omega | (simp only [List.length_append, List.length_cons, List.length_nil]; omega))) only [↓wD,wU,Nat.reduceBEq,zx150,zx151,zx159,zx160,zx161,zx162,Nat.reduceAdd,Nat.reduceSub,Nat.reduceMul,Nat.reduceLeDiff,Nat.reduceLT,Nat.reduceEqDiff,Int.reduceAdd,Int.reduceSub,Int.reduceMul,Int.reduceNeg,Int.reduceLT,Int.reduceLE,Int.reduceEq,Int.reduceToNat,Int.cast_ofNat_Int,↓reduceIte, *]
    refine condP_split (fun hlt => ?_) (fun hlt => ?_)
    · have hi' : i < t.length := by omega
      have ht1 := ht.gr hg
      have g := ht1.get (k := (i : Int)) (by omega) (by omega)
      have hwd := h.width hi'
      simp (disch := (first | assumption | omega | (simp only [List.length_append, List.length_cons, List.length_nil]; omega))) only [↓wD,wU,Nat.reduceBEq,zx150,zx151,zx159,zx160,zx161,zx162,Nat.reduceAdd,Nat.reduceSub,Nat.reduceMul,Nat.reduceLeDiff,Nat.reduceLT,Nat.reduceEqDiff,Int.reduceAdd,Int.reduceSub,Int.reduceMul,Int.reduceNeg,Int.reduceLT,Int.reduceLE,Int.reduceEq,Int.reduceToNat,Int.cast_ofNat_Int,↓reduceIte, *, ht1.L, g.I]
      refine Wp.for (gi t i).length (fun j a H2 => a 18 = v ∧ a 19 = .i t.length ∧ a 20 = .i i ∧ a 4 = u ∧ a 5 = w ∧ a 6 = .i i ∧ a 25 = v.get H1 i ∧ a 26 = .i (gi t i).length ∧ a 27 = .i j ∧ Kp (fun b => b < H.length) H1 H2 ∧ MI H.length H2 u ((List.range t.length).map fun r => (if r < i then (gi t r).sum else 0) + if r = i then ((gi t i).take j).sum else 0) ∧ MI H.length H2 w ((List.range (gi t 0).length).map fun c => colPart t i c + if c < j then gi (gi t i) c else 0)) ?_ ?_
      · clear h18 h19 h20 h4 h5
        rintro j a H2 hj ⟨h18, h19, h20, h4, h5, h6, h25, h26, h27, hk, hu2, hw2⟩ ih2
        simp (disch := (first | assumption | omega | (simp only [List.length_append, List.length_cons, List.length_nil]; omega))) only [↓wD,wU,Nat.reduceBEq,zx150,zx151,zx159,zx160,zx161,zx162,Nat.reduceAdd,Nat.reduceSub,Nat.reduceMul,Nat.reduceLeDiff,Nat.reduceLT,Nat.reduceEqDiff,Int.reduceAdd,Int.reduceSub,Int.reduceMul,Int.reduceNeg,Int.reduceLT,Int.reduceLE,Int.reduceEq,Int.reduceToNat,Int.cast_ofNat_Int,↓reduceIte, *]
        refine condP_split (fun hlt => ?_) (fun hlt => ?_)
        · have hj' : j < (gi t i).length := by omega
          have he := h.entry hi' (j := j) (by omega)
          have hcp := h.colPart (i := i) (j := j) (by omega)
          have hrs := sum_bound (xs := (gi t i).take j) (m := 16) fun x hx => (h.2.2.1 _ (mem_gi hi')).2.2.2 x (List.mem_of_mem_take hx)
          have hrl : ((gi t i).take j).length ≤ 3 := by rw [List.length_take]; omega
          have g2 : Sl (fun b => b < H.length) H2 (v.get H1 i) (gi t i) := g.kp hk
          have hgu : gi ((List.range t.length).map fun r => (if r < i then (gi t r).sum else 0) + if r = i then ((gi t i).take j).sum else 0) (i : Int) = ((gi t i).take j).sum := by
            rw [gi_map_range hi']; simp
          have hgv : gi ((List.range (gi t 0).length).map fun c => colPart t i c + if c < j then gi (gi t i) c else 0) (j : Int) = colPart t i j := by
            rw [gi_map_range (by omega)]; simp
          have hml : ((List.range (gi t 0).length).map fun c => colPart t i c + if c < j then gi (gi t i) c else 0).length = (gi t 0).length := by simp
          have hnl : ((List.range t.length).map fun r => (if r < i then (gi t r).sum else 0) + if r = i then ((gi t i).take j).sum else 0).length = t.length := by simp
          simp (disch := (first | assumption | omega | (simp only [List.length_append, List.length_cons, List.length_nil]; omega))) only [↓wD,wU,Nat.reduceBEq,zx150,zx151,zx159,zx160,zx161,zx162,Nat.reduceAdd,Nat.reduceSub,Nat.reduceMul,Nat.reduceLeDiff,Nat.reduceLT,Nat.reduceEqDiff,Int.reduceAdd,Int.reduceSub,Int.reduceMul,Int.reduceNeg,Int.reduceLT,Int.reduceLE,Int.reduceEq,Int.reduceToNat,Int.cast_ofNat_Int,↓reduceIte, *, g2.I, hu2.sl.I, hgu]
          refine hu2.store (Nat.le_refl _) (by omega) (by omega) fun H3 hu3 hk3 hl3' => ?_
          have hw3 : MI H.length H3 w ((List.range (gi t 0).length).map fun c => colPart t i c + if c < j then gi (gi t i) c else 0) := hw2.kp hk3 fun b e e2 => hne b e2 e
          simp (disch := (first | assumption | omega | (simp only [List.length_append, List.length_cons, List.length_nil]; omega))) only [↓wD,wU,Nat.reduceBEq,zx150,zx151,zx159,zx160,zx161,zx162,Nat.reduceAdd,Nat.reduceSub,Nat.reduceMul,Nat.reduceLeDiff,Nat.reduceLT,Nat.reduceEqDiff,Int.reduceAdd,Int.reduceSub,Int.reduceMul,Int.reduceNeg,Int.reduceLT,Int.reduceLE,Int.reduceEq,Int.reduceToNat,Int.cast_ofNat_Int,↓reduceIte, *, hw3.sl.I, hgv]
          refine hw3.store (Nat.le_refl _) (by omega) (by omega) fun H4 hw4 hk4 hl4 => ?_
          have hu4 := hu3.kp hk4 fun b e => hne b e
          simp (disch := (first | assumption | omega | (simp only [List.length_append, List.length_cons, List.length_nil]; omega))) only [↓wD,wU,Nat.reduceBEq,zx150,zx151,zx159,zx160,zx161,zx162,Nat.reduceAdd,Nat.reduceSub,Nat.reduceMul,Nat.reduceLeDiff,Nat.reduceLT,Nat.reduceEqDiff,Int.reduceAdd,Int.reduceSub,Int.reduceMul,Int.reduceNeg,Int.reduceLT,Int.reduceLE,Int.reduceEq,Int.reduceToNat,Int.cast_ofNat_Int,↓reduceIte, *]
          refine (ih2 hj').go ?_
          simp (disch := (first | assumption | omega | (simp only [List.length_append, List.length_cons, List.length_nil]; omega))) only [↓wD,wU,Nat.reduceBEq,zx150,zx151,zx159,zx160,zx161,zx162,Nat.reduceAdd,Nat.reduceSub,Nat.reduceMul,Nat.reduceLeDiff,Nat.reduceLT,Nat.reduceEqDiff,Int.reduceAdd,Int.reduceSub,Int.reduceMul,Int.reduceNeg,Int.reduceLT,Int.reduceLE,Int.reduceEq,Int.reduceToNat,Int.cast_ofNat_Int,↓reduceIte, *]
          rw [set_map_range] at hw4 hu4
          refine ⟨(hk.trans hk3 fun b hb e => by have := hu2.blk_lt e; omega).trans hk4 fun b hb e => by have := hw3.blk_lt e; omega, ?_, ?_⟩
          · have e : ((List.range t.length).map fun r => (if r < i then (gi t r).sum else 0) + if r = i then ((gi t i).take (j + 1)).sum else 0) = (List.range t.length).map fun c => if c = (i : Int).toNat then ((gi t i).take j).sum + gi (gi t i) j else (if c < i then (gi t c).sum else 0) + if c = i then ((gi t i).take j).sum else 0 := by
              apply map_range_congr
              intro c _
              by_cases hci : c = i
              · subst hci; simp [sum_take hj']
              · simp [hci]
            rw [e]; exact hu4
          · have e : ((List.range (gi t 0).length).map fun c => colPart t i c + if c < j + 1 then gi (gi t i) c else 0) = (List.range (gi t 0).length).map fun c => if c = (j : Int).toNat then colPart t i j + gi (gi t i) j else colPart t i c + if c < j then gi (gi t i) c else 0 := by
              apply map_range_congr
              intro c _
              by_cases hcj : c = j
              · subst hcj; simp
              · have : (c < j + 1) = (c < j) := by simp only [eq_iff_iff]; omega
                simp [hcj, this]
            rw [e]; exact hw4
        · have hj2 : j = (gi t i).length := by omega
          subst hj2
          simp (disch := (first | assumption | omega | (simp only [List.length_append, List.length_cons, List.length_nil]; omega))) only [↓wD,wU,Nat.reduceBEq,zx150,zx151,zx159,zx160,zx161,zx162,Nat.reduceAdd,Nat.reduceSub,Nat.reduceMul,Nat.reduceLeDiff,Nat.reduceLT,Nat.reduceEqDiff,Int.reduceAdd,Int.reduceSub,Int.reduceMul,Int.reduceNeg,Int.reduceLT,Int.reduceLE,Int.reduceEq,Int.reduceToNat,Int.cast_ofNat_Int,↓reduceIte, *]
          refine (ih hi').go ⟨u, w, ?_⟩
          simp (disch := (first | assumption | omega | (simp only [List.length_append, List.length_cons, List.length_nil]; omega))) only [↓wD,wU,Nat.reduceBEq,zx150,zx151,zx159,zx160,zx161,zx162,Nat.reduceAdd,Nat.reduceSub,Nat.reduceMul,Nat.reduceLeDiff,Nat.reduceLT,Nat.reduceEqDiff,Int.reduceAdd,Int.reduceSub,Int.reduceMul,Int.reduceNeg,Int.reduceLT,Int.reduceLE,Int.reduceEq,Int.reduceToNat,Int.cast_ofNat_Int,↓reduceIte, *]
          refine ⟨hg.trans' hk fun b hb => hb, ?_, ?_⟩
          · have e : ((List.range t.length).map fun r => if r < i + 1 then (gi t r).sum else 0) = (List.range t.length).map fun r => (if r < i then (gi t r).sum else 0) + if r = i then ((gi t i).take (gi t i).length).sum else 0 := by
              apply map_range_congr
              intro c _
              rw [List.take_length]
              by_cases hci : c = i
              · subst hci; simp
              · have : (c < i + 1) = (c < i) := by simp only [eq_iff_iff]; omega
                simp [hci, this]
            rw [e]; exact hu2
          · have e : ((List.range (gi t 0).length).map fun c => colPart t (i + 1) c) = (List.range (gi t 0).length).map fun c => colPart t i c + if c < (gi t i).length then gi (gi t i) c else 0 := by
              apply map_range_congr
              intro c hc
              rw [colPart_succ hi', if_pos (by omega)]
            rw [e]; exact ⟨hw2, hne⟩
      · simp (disch := (first | assumption | omega | (simp only [List.length_append, List.length_cons, List.length_nil]; omega))) only [↓wD,wU,Nat.reduceBEq,zx150,zx151,zx159,zx160,zx161,zx162,Nat.reduceAdd,Nat.reduceSub,Nat.reduceMul,Nat.reduceLeDiff,Nat.reduceLT,Nat.reduceEqDiff,Int.reduceAdd,Int.reduceSub,Int.reduceMul,Int.reduceNeg,Int.reduceLT,Int.reduceLE,Int.reduceEq,Int.reduceToNat,Int.cast_ofNat_Int,↓reduceIte, *]
        refine ⟨Kp.refl _ _, ?_, ?_⟩
        · simpa using hu
        · simpa using hw
    · have e : i = t.length := by omega
      subst e
      simp (disch := (first | assumption | omega | (simp only [List.length_append, List.length_cons, List.length_nil]; omega))) only [↓wD,wU,Nat.reduceBEq,zx150,zx151,zx159,zx160,zx161,zx162,Nat.reduceAdd,Nat.reduceSub,Nat.reduceMul,Nat.reduceLeDiff,Nat.reduceLT,Nat.reduceEqDiff,Int.reduceAdd,Int.reduceSub,Int.reduceMul,Int.reduceNeg,Int.reduceLT,Int.reduceLE,Int.reduceEq,Int.reduceToNat,Int.cast_ofNat_Int,↓reduceIte, *]
      refine rv_2 ?_ ?_
      · have e : ((List.range t.length).map fun r => if r < t.length then (gi t r).sum else 0) = rowSums t := by
          unfold rowSums
          apply List.ext_getElem (by simp)
          intro k h1 h2
          have hk : k < t.length := by simpa using h1
          simp [hk, gi_nat hk]
        rw [e] at hu
        exact hu.sl.weak fun b h => .inr h
      · exact hw.sl.weak fun b h => .inr h
  · simp (disch := (first | assumption | omega | (simp only [List.length_append, List.length_cons, List.length_nil]; omega))) only [↓wD,wU,Nat.reduceBEq,zx150,zx151,zx159,zx160,zx161,zx162,Nat.reduceAdd,Nat.reduceSub,Nat.reduceMul,Nat.reduceLeDiff,Nat.reduceLT,Nat.reduceEqDiff,Int.reduceAdd,Int.reduceSub,Int.reduceMul,Int.reduceNeg,Int.reduceLT,Int.reduceLE,Int.reduceEq,Int.reduceToNat,Int.cast_ofNat_Int,↓reduceIte, *]
    have h1 := MI.mk (H := H) (n := t.length) (Nat.le_refl _) (by omega)
    have h2 := MI.mk (L := H.length) (H := H ++ [.cells (reps t.length [.int .i64 0])]) (n := (gi t 0).length) (by simp) (by omega)
    refine ⟨_, _, rfl, rfl, (Kp.app _ _ _).app' _, ?_, ?_, fun b e => ?_⟩
    · have e : ((List.range t.length).map fun r : Nat => if r < 0 then (gi t (r : Int)).sum else 0) = List.replicate t.length 0 := by
        apply List.ext_getElem (by simp)
        intro i h1 h2
        simp
      rw [e]; exact h1.app _
    · have e : ((List.range (gi t 0).length).map fun j => colPart t 0 j) = List.replicate (gi t 0).length 0 := by
        apply List.ext_getElem (by simp)
        intro i h1 h2
        simp [colPart_0]
      rw [e]; simpa using h2
    · simp [AV.blk] at e ⊢; omega
end Go.Proofs.Ytflekaacffdakaa
namespace Go.Proofs.Ytflekaacffdakaa
open Go Go.AM Go.Proofs
theorem list2 {xs : List Int} (h : xs.length = 2) : ∃ a b, xs = [a, b] := by
  match xs, h with
  | [a, b], _ => exact ⟨a, b, rfl⟩
theorem list3 {xs : List Int} (h : xs.length = 3) : ∃ a b c, xs = [a, b, c] := by
  match xs, h with
  | [a, b, c], _ => exact ⟨a, b, c, rfl⟩
theorem eq37 (w : World) (x0 x1 y0 y1 : Int) : (Op.equalIn 10000 37 (.agg #[.int .i64 x0, .int .i64 x1]) (.agg #[.int .i64 y0, .int .i64 y1])).run C.P w = .ok ([x0, x1] == [y0, y1]) w := by
  rw [run_equalIn_struct w 9999 37 _ _ (by kernel_rfl) (by kernel_rfl)]
  have hi : Try.prog.underlying 3 = some (.int .i64) := Try.underlying3
  have e : ∀ a b : Int, (Op.equalIn 9999 3 (.int .i64 a) (.int .i64 b)).run Try.prog w = .ok (a == b) w := fun a b => run_equalIn_int w 9998 3 .i64 .i64 a b hi
  have pt : ∀ (a b : Int) (k : Nat), k < 2 → (part 3 #[.int .i64 a, .int .i64 b] k).run Try.prog w = .ok (.int .i64 (if k = 0 then a else b)) w := by
    intro a b k hk
    have : k = 0 ∨ k = 1 := by omega
    rcases this with rfl | rfl <;> go_simp
  simp [Try.underlying37, Program.fieldsOf, C, Op.eqFields, pt, e]
  by_cases h1 : x0 = y0 <;> by_cases h2 : x1 = y1 <;> simp [h1, h2]
theorem eq88 (w : World) (x0 x1 x2 y0 y1 y2 : Int) : (Op.equalIn 10000 88 (.agg #[.int .i64 x0, .int .i64 x1, .int .i64 x2]) (.agg #[.int .i64 y0, .int .i64 y1, .int .i64 y2])).run C.P w = .ok ([x0, x1, x2] == [y0, y1, y2]) w := by
  have hi : Try.prog.underlying 3 = some (.int .i64) := Try.underlying3
  have ha : Try.prog.underlying 88 = some (.array 3 3) := Try.underlying88
  have e : ∀ a b : Int, (Op.equalIn 9999 3 (.int .i64 a) (.int .i64 b)).run Try.prog w = .ok (a == b) w := fun a b => run_equalIn_int w 9998 3 .i64 .i64 a b hi
  have pt : ∀ (a b c : Int) (k : Nat), k < 3 → (part 3 #[.int .i64 a, .int .i64 b, .int .i64 c] k).run Try.prog w = .ok (.int .i64 (if k = 0 then a else if k = 1 then b else c)) w := by
    intro a b c k hk
    have : k = 0 ∨ k = 1 ∨ k = 2 := by omega
    rcases this with rfl | rfl | rfl <;> go_simp
  have sz : (sizeOf 3).run Try.prog w = .ok 1 w := by go_simp
  change (Op.equalIn (9999 + 1) 88 _ _).run Try.prog w = _
  unfold Op.equalIn
  simp [run_underlying ha, sz, Std.Legacy.Range.forIn_eq_forIn_range', Std.Legacy.Range.size, List.range', pt, e]
  by_cases h1 : x0 = y0 <;> by_cases h2 : x1 = y1 <;> by_cases h3 : x2 = y2 <;> simp [h1, h2, h3]
theorem eqOk : EqOk C := by
  intro t n ht xs ys hx hy neg xo yo w
  have hc : t = 37 ∧ n = 2 ∨ t = 88 ∧ n = 3 := by
    simp only [C] at ht
    split at ht
    · rename_i h; cases ht; exact .inl ⟨by simpa using h, rfl⟩
    · split at ht
      · rename_i h; cases ht; exact .inr ⟨by simpa using h, rfl⟩
      · cases ht
  rcases hc with ⟨rfl, rfl⟩ | ⟨rfl, rfl⟩
  · obtain ⟨x0, x1, rfl⟩ := list2 hx
    obtain ⟨y0, y1, rfl⟩ := list2 hy
    have g : ∀ op, (eqGuard op 37 xo yo (.agg (ints [x0, x1])) (.agg (ints [y0, y1]))).run C.P w = .ok () w := fun op => run_eqGuard_agg w op 37 xo yo _ _ (by kernel_rfl)
    have e := eq37 w x0 x1 y0 y1
    cases neg
    · simp only [Bool.false_eq_true, if_false, Sem.run_bind, g, Result.andThen_ok, run_eql_struct]
      simp [ints] at e ⊢; rw [e]; rfl
    · simp only [if_true, Sem.run_bind, g, Result.andThen_ok, run_neq_struct]
      simp [ints] at e ⊢; rw [e]; simp [Result.andThen, Bool.not_and]
  · obtain ⟨x0, x1, x2, rfl⟩ := list3 hx
    obtain ⟨y0, y1, y2, rfl⟩ := list3 hy
    have g : ∀ op, (eqGuard op 88 xo yo (.agg (ints [x0, x1, x2])) (.agg (ints [y0, y1, y2]))).run C.P w = .ok () w := fun op => run_eqGuard_agg w op 88 xo yo _ _ (by kernel_rfl)
    have e := eq88 w x0 x1 x2 y0 y1 y2
    cases neg
    · simp only [Bool.false_eq_true, if_false, Sem.run_bind, g, Result.andThen_ok, run_eql_struct]
      simp [ints] at e ⊢; rw [e]; rfl
    · simp only [if_true, Sem.run_bind, g, Result.andThen_ok, run_neq_struct]
      simp [ints] at e ⊢; rw [e]; simp [Result.andThen, Bool.not_and]
theorem eOk : EOk C (fun _ => True) E where
  kd := rfl
  fn := fun f af h => tab_ok (f, af) (lookup_mem h)
  prim := fun f g h => by
    simp only [C, kd] at h
    split at h
    · cases h
    · split at h <;> cases h
  stable := fun _ _ _ _ => trivial
  eq := eqOk
  mixed := mixed
end Go.Proofs.Ytflekaacffdakaa
namespace Go.Proofs.Ytflekaacffdakaa
open Go Go.AM Go.Proofs
theorem awake_ret {H : Heap} : RetP E 23 [] H (.b true) :=
  RetP.closed (n := 300) rfl fn23 rfl rfl (by kernel_rfl)
theorem cutT_ok {t : List (List Int)} (h : TabOk t) : cutT t = t := by
  unfold cutT
  rw [List.take_of_length_le (by have := h.2.1; omega)]
  conv => rhs; rw [← List.map_id t]
  apply List.map_congr_left
  intro r hr
  exact List.take_of_length_le (by have := (h.2.2.1 r hr).2.1; omega)
theorem TabOk_cut {t : List (List Int)} : TabOk (cutT t) ↔ TabOk t := by
  constructor
  · intro h
    have e : cutT t = t := by
      have h1 : t.length ≤ 3 := by have := h.2.1; simp [cutT] at this; omega
      unfold cutT
      rw [List.take_of_length_le (by omega)]
      conv => rhs; rw [← List.map_id t]
      apply List.map_congr_left
      intro r hr
      have hm : r.take 6 ∈ cutT t := by
        unfold cutT
        rw [List.take_of_length_le (by omega)]
        exact List.mem_map_of_mem hr
      have := (h.2.2.1 _ hm).2.1
      rw [List.length_take] at this
      exact List.take_of_length_le (by omega)
    rwa [e] at h
  · intro h
    rw [cutT_ok h]; exact h
end Go.Proofs.Ytflekaacffdakaa
namespace Go.Proofs.Ytflekaacffdakaa
open Go Go.AM Go.Proofs
theorem tmodN (m n : Nat) : (m : Int).tmod (n : Int) = ((m % n : Nat) : Int) := by
  rw [Int.tmod_eq_emod_of_nonneg (by omega)]; rfl
theorem tdivN (m n : Nat) : (m : Int).tdiv (n : Int) = ((m / n : Nat) : Int) := by
  rw [Int.tdiv_eq_ediv_of_nonneg (by omega)]; rfl
theorem gcd_step (x k : Nat) : Nat.gcd k (x % k) = Nat.gcd x k := by
  rw [Nat.gcd_comm k, ← Nat.gcd_rec, Nat.gcd_comm]
theorem gcd_ret {H : Heap} (m n : Nat) (hm : m ≤ 4611686018427387904) (hn : n ≤ 4611686018427387904) : RetP E 99 [.i m, .i n] H (.i (Nat.gcd m n : Nat)) := by
  refine RetP.ro rfl fn99 rfl rfl ?_
  unfold f99A
  simp (disch := (first | assumption | omega | (simp only [List.length_append, List.length_cons, List.length_nil]; omega))) only [↓wD,wU,Nat.reduceBEq,zx150,zx151,zx159,zx160,zx161,zx162,Nat.reduceAdd,Nat.reduceSub,Nat.reduceMul,Nat.reduceLeDiff,Nat.reduceLT,Nat.reduceEqDiff,Int.reduceAdd,Int.reduceSub,Int.reduceMul,Int.reduceNeg,Int.reduceLT,Int.reduceLE,Int.reduceEq,Int.reduceToNat,Int.cast_ofNat_Int,↓reduceIte, *]
  refine Wp.dec (fun k a H' => H' = H ∧ ∃ x : Nat, a 0 = .i x ∧ a 1 = .i k ∧ x ≤ 4611686018427387904 ∧ k ≤ 4611686018427387904 ∧ Nat.gcd x k = Nat.gcd m n) n ?_ ?_
  · rintro k a H' ⟨rfl, x, h0, h1, hx, hkb, hg⟩ ih
    by_cases hk : k = 0
    · subst hk
      simp (disch := (first | assumption | omega | (simp only [List.length_append, List.length_cons, List.length_nil]; omega))) only [↓wD,wU,Nat.reduceBEq,zx150,zx151,zx159,zx160,zx161,zx162,Nat.reduceAdd,Nat.reduceSub,Nat.reduceMul,Nat.reduceLeDiff,Nat.reduceLT,Nat.reduceEqDiff,Int.reduceAdd,Int.reduceSub,Int.reduceMul,Int.reduceNeg,Int.reduceLT,Int.reduceLE,Int.reduceEq,Int.reduceToNat,Int.cast_ofNat_Int,↓reduceIte, *]
      rw [Nat.gcd_zero_right] at hg
      rw [← hg]
      congr 1
      omega
    · simp (disch := (first | assumption | omega | (simp only [List.length_append, List.length_cons, List.length_nil]; omega))) only [↓wD,wU,Nat.reduceBEq,zx150,zx151,zx159,zx160,zx161,zx162,Nat.reduceAdd,Nat.reduceSub,Nat.reduceMul,Nat.reduceLeDiff,Nat.reduceLT,Nat.reduceEqDiff,Int.reduceAdd,Int.reduceSub,Int.reduceMul,Int.reduceNeg,Int.reduceLT,Int.reduceLE,Int.reduceEq,Int.reduceToNat,Int.cast_ofNat_Int,↓reduceIte, *, tmodN]
      have hlt : x % k < k := Nat.mod_lt _ (by omega)
      refine ih.go ⟨x % k, hlt, rfl, k, ?_⟩
      rw [← hg, ← gcd_step x k]
      simp (disch := (first | assumption | omega | (simp only [List.length_append, List.length_cons, List.length_nil]; omega))) only [↓wD,wU,Nat.reduceBEq,zx150,zx151,zx159,zx160,zx161,zx162,Nat.reduceAdd,Nat.reduceSub,Nat.reduceMul,Nat.reduceLeDiff,Nat.reduceLT,Nat.reduceEqDiff,Int.reduceAdd,Int.reduceSub,Int.reduceMul,Int.reduceNeg,Int.reduceLT,Int.reduceLE,Int.reduceEq,Int.reduceToNat,Int.cast_ofNat_Int,↓reduceIte, *]
      omega
  · simp (disch := (first | assumption | omega | (simp only [List.length_append, List.length_cons, List.length_nil]; omega))) only [↓wD,wU,Nat.reduceBEq,zx150,zx151,zx159,zx160,zx161,zx162,Nat.reduceAdd,Nat.reduceSub,Nat.reduceMul,Nat.reduceLeDiff,Nat.reduceLT,Nat.reduceEqDiff,Int.reduceAdd,Int.reduceSub,Int.reduceMul,Int.reduceNeg,Int.reduceLT,Int.reduceLE,Int.reduceEq,Int.reduceToNat,Int.cast_ofNat_Int,↓reduceIte, *]
    exact ⟨m, by simp_all⟩
def fracN (m n : Nat) : Int × Int := ((m / Nat.gcd m n : Nat), (n / Nat.gcd m n : Nat))
theorem frac_ret {H : Heap} (m n : Nat) (hm : m ≤ 4611686018427387904) (hn : n ≤ 4611686018427387904) (h0 : 0 < n) : RetP E 73 [.i m, .i n] H (.ag [.i (fracN m n).1, .i (fracN m n).2]) := by
  refine RetP.ro rfl fn73 rfl rfl ?_
  unfold f73A
  have hg : 0 < Nat.gcd m n := Nat.gcd_pos_of_pos_right _ h0
  have h1 : m / Nat.gcd m n ≤ m := Nat.div_le_self _ _
  have h2 : n / Nat.gcd m n ≤ n := Nat.div_le_self _ _
  unfold fracN
  obtain ⟨q1, hq1⟩ : ∃ q, m / Nat.gcd m n = q := ⟨_, rfl⟩
  obtain ⟨q2, hq2⟩ : ∃ q, n / Nat.gcd m n = q := ⟨_, rfl⟩
  rw [hq1] at h1
  rw [hq2] at h2
  simp (disch := (first | assumption | omega | (simp only [List.length_append, List.length_cons, List.length_nil]; omega))) only [↓wD,wU,Nat.reduceBEq,zx150,zx151,zx159,zx160,zx161,zx162,Nat.reduceAdd,Nat.reduceSub,Nat.reduceMul,Nat.reduceLeDiff,Nat.reduceLT,Nat.reduceEqDiff,Int.reduceAdd,Int.reduceSub,Int.reduceMul,Int.reduceNeg,Int.reduceLT,Int.reduceLE,Int.reduceEq,Int.reduceToNat,Int.cast_ofNat_Int,↓reduceIte, *, (gcd_ret m n hm hn).call, tdivN]
end Go.Proofs.Ytflekaacffdakaa
namespace Go.Proofs.Ytflekaacffdakaa
open Go Go.AM Go.Proofs
def Four (t : List (List Int)) : Prop := TabOk t ∧ t.length = 2 ∧ (gi t 0).length = 2
instance (t : List (List Int)) : Decidable (Four t) := by unfold Four; infer_instance
theorem nat_of {x : Int} (h : 0 ≤ x) : ∃ n : Nat, x = n := ⟨x.toNat, by omega⟩
theorem Four.elim {t : List (List Int)} (h : Four t) : ∃ a b c d : Nat, t = [[(a : Int), b], [(c : Int), d]] ∧ a + b + c + d ≤ 16 := by
  obtain ⟨h, h1, h2⟩ := h
  match t, h1 with
  | [r, s], _ =>
    have hs := h.2.2.1 s (by simp)
    have hr := h.2.2.1 r (by simp)
    have e1 : (gi [r, s] 0) = r := rfl
    rw [e1] at h2 hs hr
    have h3 : s.length = 2 := by rw [hs.2.2.1, h2]
    match r, h2, s, h3 with
    | [a, b], _, [c, d], _ =>
      have ha := hr.2.2.2 a (by simp)
      have hb := hr.2.2.2 b (by simp)
      have hc := hs.2.2.2 c (by simp)
      have hd := hs.2.2.2 d (by simp)
      have hsum := h.2.2.2
      simp at hsum
      obtain ⟨a, rfl⟩ := nat_of ha.1
      obtain ⟨b, rfl⟩ := nat_of hb.1
      obtain ⟨c, rfl⟩ := nat_of hc.1
      obtain ⟨d, rfl⟩ := nat_of hd.1
      exact ⟨a, b, c, d, rfl, by omega⟩
theorem Four.mk {a b c d : Nat} (h : a + b + c + d ≤ 16) : Four [[(a : Int), b], [(c : Int), d]] := by
  refine ⟨⟨by simp, by simp, ?_, by simp; omega⟩, rfl, rfl⟩
  intro r hr
  simp at hr
  rcases hr with rfl | rfl
  · refine ⟨by simp, by simp, rfl, ?_⟩
    intro x hx; simp at hx; rcases hx with rfl | rfl <;> omega
  · refine ⟨by simp, by simp, rfl, ?_⟩
    intro x hx; simp at hx; rcases hx with rfl | rfl <;> omega
end Go.Proofs.Ytflekaacffdakaa
namespace Go.Proofs.Ytflekaacffdakaa
open Go Go.AM Go.Proofs
theorem foldl_min_le {xs : List Int} : ∀ {m : Int}, xs.foldl min m ≤ m ∧ ∀ x ∈ xs, xs.foldl min m ≤ x := by
  induction xs with
  | nil => simp
  | cons x xs ih =>
    intro m
    have := ih (m := min m x)
    simp only [List.foldl_cons, List.mem_cons, forall_eq_or_imp]
    exact ⟨by omega, by omega, this.2⟩
theorem foldl_min_mem {xs : List Int} : ∀ {m : Int}, xs.foldl min m = m ∨ xs.foldl min m ∈ xs := by
  induction xs with
  | nil => simp
  | cons x xs ih =>
    intro m
    simp only [List.foldl_cons, List.mem_cons]
    rcases ih (m := min m x) with h | h
    · rw [h]; rcases Int.le_total m x with h1 | h1
      · left; omega
      · right; left; omega
    · exact .inr (.inr h)
def minL (xs : List Int) : Int := (xs.drop 1).foldl min (gi xs 0)
theorem minL_spec {xs : List Int} (h : 1 ≤ xs.length) : minL xs ∈ xs ∧ ∀ x ∈ xs, minL xs ≤ x := by
  cases xs with
  | nil => simp at h
  | cons x xs =>
    simp only [minL, zx181, List.drop_succ_cons, List.drop_zero]
    have h1 := foldl_min_le (xs := xs) (m := x)
    refine ⟨?_, fun y hy => ?_⟩
    · rcases foldl_min_mem (xs := xs) (m := x) with h | h
      · rw [h]; simp
      · exact List.mem_cons_of_mem _ h
    · rcases List.mem_cons.1 hy with rfl | hy
      · exact h1.1
      · exact h1.2 y hy
theorem take_drop1 {xs : List Int} {i : Nat} (h1 : 1 ≤ i) (h : i < xs.length) : (xs.take (i + 1)).drop 1 = (xs.take i).drop 1 ++ [gi xs i] := by
  rw [take_gi h, List.drop_append_of_le_length (by rw [List.length_take]; omega)]
theorem minL_take {xs : List Int} {i : Nat} (h1 : 1 ≤ i) (h : i < xs.length) : minL (xs.take (i + 1)) = min (minL (xs.take i)) (gi xs i) := by
  have e : ∀ j, 1 ≤ j → gi (xs.take j) 0 = gi xs 0 := fun j hj => by cases xs with | nil => simp at h | cons x r => cases j with | zero => omega | succ j => rfl
  unfold minL
  rw [take_drop1 h1 h, List.foldl_append, e _ h1, e _ (by omega)]; rfl
theorem min_ret {p : Nat → Prop} {H : Heap} {v : AV} {xs : List Int} (hx : Sl p H v xs) (h : 1 ≤ xs.length) : RetP E 75 [v] H (.i (minL xs)) := by
  refine RetP.ro rfl fn75 rfl rfl ?_
  unfold f75A
  have hb := hx.bound
  simp (disch := (first | assumption | omega | (simp only [List.length_append, List.length_cons, List.length_nil]; omega))) only [↓wD,wU,Nat.reduceBEq,zx150,zx151,zx159,zx160,zx161,zx162,Nat.reduceAdd,Nat.reduceSub,Nat.reduceMul,Nat.reduceLeDiff,Nat.reduceLT,Nat.reduceEqDiff,Int.reduceAdd,Int.reduceSub,Int.reduceMul,Int.reduceNeg,Int.reduceLT,Int.reduceLE,Int.reduceEq,Int.reduceToNat,Int.cast_ofNat_Int,↓reduceIte, *, hx.I]
  refine Wp.for (xs.length - 1) (fun i a H' => H' = H ∧ a 0 = v ∧ a 4 = .i (i + 1) ∧ a 3 = .i (minL (xs.take (i + 1)))) ?_ ?_
  · rintro i a H' hi ⟨rfl, a0, a4, a3⟩ ih
    simp (disch := (first | assumption | omega | (simp only [List.length_append, List.length_cons, List.length_nil]; omega))) only [↓wD,wU,Nat.reduceBEq,zx150,zx151,zx159,zx160,zx161,zx162,Nat.reduceAdd,Nat.reduceSub,Nat.reduceMul,Nat.reduceLeDiff,Nat.reduceLT,Nat.reduceEqDiff,Int.reduceAdd,Int.reduceSub,Int.reduceMul,Int.reduceNeg,Int.reduceLT,Int.reduceLE,Int.reduceEq,Int.reduceToNat,Int.cast_ofNat_Int,↓reduceIte, *, hx.I]
    refine condP_split (fun hlt => ?_) (fun hlt => ?_)
    · have hi' : i < xs.length - 1 := by omega
      have e := minL_take (xs := xs) (i := i + 1) (by omega) (by omega)
      simp only [Int.natCast_add, Int.natCast_one] at e
      simp (disch := (first | assumption | omega | (simp only [List.length_append, List.length_cons, List.length_nil]; omega))) only [↓wD,wU,Nat.reduceBEq,zx150,zx151,zx159,zx160,zx161,zx162,Nat.reduceAdd,Nat.reduceSub,Nat.reduceMul,Nat.reduceLeDiff,Nat.reduceLT,Nat.reduceEqDiff,Int.reduceAdd,Int.reduceSub,Int.reduceMul,Int.reduceNeg,Int.reduceLT,Int.reduceLE,Int.reduceEq,Int.reduceToNat,Int.cast_ofNat_Int,↓reduceIte, *, hx.I]
      refine (ih hi').go ⟨rfl, ?_⟩
      simp (disch := (first | assumption | omega | (simp only [List.length_append, List.length_cons, List.length_nil]; omega))) only [↓wD,wU,Nat.reduceBEq,zx150,zx151,zx159,zx160,zx161,zx162,Nat.reduceAdd,Nat.reduceSub,Nat.reduceMul,Nat.reduceLeDiff,Nat.reduceLT,Nat.reduceEqDiff,Int.reduceAdd,Int.reduceSub,Int.reduceMul,Int.reduceNeg,Int.reduceLT,Int.reduceLE,Int.reduceEq,Int.reduceToNat,Int.cast_ofNat_Int,↓reduceIte, *]
    · simp (disch := (first | assumption | omega | (simp only [List.length_append, List.length_cons, List.length_nil]; omega))) only [↓wD,wU,Nat.reduceBEq,zx150,zx151,zx159,zx160,zx161,zx162,Nat.reduceAdd,Nat.reduceSub,Nat.reduceMul,Nat.reduceLeDiff,Nat.reduceLT,Nat.reduceEqDiff,Int.reduceAdd,Int.reduceSub,Int.reduceMul,Int.reduceNeg,Int.reduceLT,Int.reduceLE,Int.reduceEq,Int.reduceToNat,Int.cast_ofNat_Int,↓reduceIte, *]
      rw [List.take_of_length_le (by omega)]
  · (simp (disch := (first | assumption | omega | (simp only [List.length_append, List.length_cons, List.length_nil]; omega))) only [↓wD,wU,Nat.reduceBEq,zx150,zx151,zx159,zx160,zx161,zx162,Nat.reduceAdd,Nat.reduceSub,Nat.reduceMul,Nat.reduceLeDiff,Nat.reduceLT,Nat.reduceEqDiff,Int.reduceAdd,Int.reduceSub,Int.reduceMul,Int.reduceNeg,Int.reduceLT,Int.reduceLE,Int.reduceEq,Int.reduceToNat,Int.cast_ofNat_Int,↓reduceIte, *]) <;> first | rfl | skip
    unfold minL
    cases xs with
    | nil => simp at h
    | cons x r => simp [zx181]
end Go.Proofs.Ytflekaacffdakaa
namespace Go.Proofs.Ytflekaacffdakaa
open Go Go.AM Go.Proofs
theorem fracN_scale {k m n : Nat} (hk : 0 < k) : fracN (k * m) (k * n) = fracN m n := by
  unfold fracN
  rw [Nat.gcd_mul_left, Nat.mul_div_mul_left _ _ hk, Nat.mul_div_mul_left _ _ hk]
theorem fracN_parts {m n : Nat} (hn : 0 < n) : ∃ p q g : Nat, fracN m n = ((p : Int), (q : Int)) ∧ 0 < g ∧ m = g * p ∧ n = g * q ∧ 0 < q := by
  refine ⟨m / Nat.gcd m n, n / Nat.gcd m n, Nat.gcd m n, rfl, Nat.gcd_pos_of_pos_right _ hn, (Nat.mul_div_cancel' (Nat.gcd_dvd_left m n)).symm, (Nat.mul_div_cancel' (Nat.gcd_dvd_right m n)).symm, ?_⟩
  exact Nat.div_pos (Nat.le_of_dvd hn (Nat.gcd_dvd_right m n)) (Nat.gcd_pos_of_pos_right _ hn)
theorem plus_ret {H : Heap} {a b c d : Nat} (ha : a ≤ 200000000000000) (hb : b ≤ 300000000) (hc : c ≤ 65536) (hd : d ≤ 4096) (hb0 : 0 < b) (hd0 : 0 < d) :
    RetP E 76 [.ag [.i (fracN a b).1, .i (fracN a b).2], .ag [.i (fracN c d).1, .i (fracN c d).2]] H (.ag [.i (fracN (a * d + c * b) (b * d)).1, .i (fracN (a * d + c * b) (b * d)).2]) := by
  obtain ⟨p, q, g1, e1, hg1, rfl, rfl, hq⟩ := fracN_parts (m := a) hb0
  obtain ⟨r, s, g2, e2, hg2, rfl, rfl, hs⟩ := fracN_parts (m := c) hd0
  have lp : p ≤ 200000000000000 := Nat.le_trans (Nat.le_mul_of_pos_left _ hg1) ha
  have lq : q ≤ 300000000 := Nat.le_trans (Nat.le_mul_of_pos_left _ hg1) hb
  have lr : r ≤ 65536 := Nat.le_trans (Nat.le_mul_of_pos_left _ hg2) hc
  have ls : s ≤ 4096 := Nat.le_trans (Nat.le_mul_of_pos_left _ hg2) hd
  have hg : 0 < Nat.gcd q s := Nat.gcd_pos_of_pos_left _ hq
  obtain ⟨q', hq'⟩ : ∃ q', q = Nat.gcd q s * q' := Nat.gcd_dvd_left q s
  obtain ⟨s', hs'⟩ : ∃ s', s = Nat.gcd q s * s' := Nat.gcd_dvd_right q s
  have eq1 : q / Nat.gcd q s = q' := by
    conv => lhs; rw [show q / Nat.gcd q s = (Nat.gcd q s * q') / Nat.gcd q s by rw [← hq']]
    exact Nat.mul_div_cancel_left _ hg
  have es1 : s / Nat.gcd q s = s' := by
    conv => lhs; rw [show s / Nat.gcd q s = (Nat.gcd q s * s') / Nat.gcd q s by rw [← hs']]
    exact Nat.mul_div_cancel_left _ hg
  have fin : fracN (g1 * p * (g2 * s) + g2 * r * (g1 * q)) (g1 * q * (g2 * s)) = fracN (p * s' + r * q') (q' * s) := by
    have hk : 0 < g1 * g2 * Nat.gcd q s := Nat.mul_pos (Nat.mul_pos hg1 hg2) hg
    rw [← fracN_scale (m := p * s' + r * q') (n := q' * s) hk]
    generalize Nat.gcd q s = g at *
    congr 1
    · conv => lhs; rw [hq', hs']
      grind
    · conv => lhs; rw [hq']
      grind
  rw [fin, e1, e2]
  have ls' : s' ≤ 4096 := by rw [← es1]; exact Nat.le_trans (Nat.div_le_self _ _) ls
  have lq' : q' ≤ 300000000 := by rw [← eq1]; exact Nat.le_trans (Nat.div_le_self _ _) lq
  have hq0 : 0 < q' := by rw [← eq1]; exact Nat.div_pos (Nat.le_of_dvd hq (Nat.gcd_dvd_left q s)) hg
  have b1 : p * s' ≤ 200000000000000 * 4096 := Nat.mul_le_mul lp ls'
  have b2 : r * q' ≤ 65536 * 300000000 := Nat.mul_le_mul lr lq'
  have b3 : q' * s ≤ 300000000 * 4096 := Nat.mul_le_mul lq' ls
  have b4 : 0 < q' * s := Nat.mul_pos hq0 hs
  have i1 : (p : Int) * s' = ((p * s' : Nat) : Int) := by simp
  have i2 : (r : Int) * q' = ((r * q' : Nat) : Int) := by simp
  have i3 : (q' : Int) * s = ((q' * s : Nat) : Int) := by simp
  have t1 : (s : Int).tdiv (Nat.gcd q s : Nat) = s' := by rw [tdivN, es1]
  have t2 : (q : Int).tdiv (Nat.gcd q s : Nat) = q' := by rw [tdivN, eq1]
  have i4 : ((p * s' : Nat) : Int) + ((r * q' : Nat) : Int) = ((p * s' + r * q' : Nat) : Int) := by simp
  have hgl : Nat.gcd q s ≤ 4096 := Nat.le_trans (Nat.gcd_le_right _ hs) ls
  have gr : ∀ H : Heap, RetP E 99 [.i q, .i s] H (.i (Nat.gcd q s : Nat)) := fun H => gcd_ret q s (by omega) (by omega)
  have fr : ∀ H : Heap, RetP E 73 [.i ((p * s' + r * q' : Nat) : Int), .i ((q' * s : Nat) : Int)] H (.ag [.i (fracN (p * s' + r * q') (q' * s)).1, .i (fracN (p * s' + r * q') (q' * s)).2]) := fun H => frac_ret _ _ (by omega) (by omega) b4
  refine RetP.ro rfl fn76 rfl rfl ?_
  unfold f76A
  have hg' : ((Nat.gcd q s : Nat) : Int) ≠ 0 := by omega
  obtain ⟨x1, ex1⟩ : ∃ x, p * s' = x := ⟨_, rfl⟩
  obtain ⟨x2, ex2⟩ : ∃ x, r * q' = x := ⟨_, rfl⟩
  obtain ⟨x3, ex3⟩ : ∃ x, q' * s = x := ⟨_, rfl⟩
  obtain ⟨gg, egg⟩ : ∃ x, Nat.gcd q s = x := ⟨_, rfl⟩
  rw [ex1, ex2, ex3] at fr
  rw [ex1] at i1 b1 i4
  rw [ex2] at i2 b2 i4
  rw [ex3] at i3 b3 b4
  rw [egg] at t1 t2 gr hg' hgl
  rw [ex1, ex2, ex3]
  have hg2' : ¬ (gg : Int) = 0 := hg'
  have fr' := fun H => fr H
  simp only [Int.natCast_add] at fr'
  clear fin eq1 es1 ex1 ex2 ex3 egg hq' hs' e1 e2 hg' hg
  clear i4 fr
  simp (disch := (first | assumption | omega | (simp only [List.length_append, List.length_cons, List.length_nil]; omega))) only [↓wD,wU,Nat.reduceBEq,zx150,zx151,zx159,zx160,zx161,zx162,Nat.reduceAdd,Nat.reduceSub,Nat.reduceMul,Nat.reduceLeDiff,Nat.reduceLT,Nat.reduceEqDiff,Int.reduceAdd,Int.reduceSub,Int.reduceMul,Int.reduceNeg,Int.reduceLT,Int.reduceLE,Int.reduceEq,Int.reduceToNat,Int.cast_ofNat_Int,↓reduceIte, (gr _).call, t1, t2, i1, i2, i3, (fr' _).call]
end Go.Proofs.Ytflekaacffdakaa
namespace Go.Proofs.Ytflekaacffdakaa
open Go Go.AM Go.Proofs
def prodN : List Int → Nat
  | [] => 1
  | x :: l => x.toNat * prodN l
theorem prodN_dvd {x : Int} : ∀ {l : List Int}, x ∈ l → x.toNat ∣ prodN l
  | y :: l, h => by
    rcases List.mem_cons.1 h with rfl | h
    · exact Nat.dvd_mul_right _ _
    · exact Nat.dvd_trans (prodN_dvd h) (Nat.dvd_mul_left _ _)
theorem prodN_le {m : Nat} (hm : 1 ≤ m) : ∀ {l : List Int}, (∀ x ∈ l, x ≤ m) → prodN l ≤ m ^ l.length
  | [], _ => by simp [prodN]
  | x :: l, h => by
    rw [prodN, List.length_cons, Nat.pow_succ, Nat.mul_comm]
    exact Nat.mul_le_mul (prodN_le hm fun y hy => h y (by simp [hy])) (by have := h x (by simp); omega)
theorem prodN_pos : ∀ {l : List Int}, (∀ x ∈ l, 0 < x) → 0 < prodN l
  | [], _ => by simp [prodN]
  | x :: l, h => Nat.mul_pos (by have := h x (by simp); omega) (prodN_pos fun y hy => h y (by simp [hy]))
section
variable (t : List (List Int))
def nN : Nat := (rowSums t).sum.toNat
def rN (i : Nat) : Nat := (gi (rowSums t) (i : Int)).toNat
def cN (j : Nat) : Nat := (gi (colSums t) (j : Int)).toNat
def allN : Nat := nN t * prodN (rowSums t) * prodN (colSums t)
def eN (i j : Nat) : Nat := rN t i * cN t j * nN t
def qN (i j : Nat) : Nat := allN t / eN t i j
def dd (i j : Nat) : Int := gi (gi t (i : Int)) (j : Int) * nN t - (rN t i * cN t j : Nat)
def sqN (i j : Nat) : Nat := (dd t i j * dd t i j).toNat
def rowOff (i j : Nat) : Nat := ((List.range j).map fun j => qN t i j * sqN t i j).sum
def offP (i : Nat) : Nat := ((List.range i).map fun i => rowOff t i (gi t 0).length).sum
end
theorem rowOff_succ {t : List (List Int)} {i j : Nat} : rowOff t i (j + 1) = rowOff t i j + qN t i j * sqN t i j := by
  unfold rowOff; rw [List.range_succ, List.map_append, List.sum_append]; simp
theorem offP_succ {t : List (List Int)} {i : Nat} : offP t (i + 1) = offP t i + rowOff t i (gi t 0).length := by
  unfold offP; rw [List.range_succ, List.map_append, List.sum_append]; simp
/-- all sums above 0 -/
def Full (t : List (List Int)) : Prop := TabOk t ∧ ¬ (0 : Int) ∈ rowSums t ∧ ¬ (0 : Int) ∈ colSums t
theorem rowSums_len {t : List (List Int)} : (rowSums t).length = t.length := by simp [rowSums]
theorem colSums_len {t : List (List Int)} : (colSums t).length = (gi t 0).length := by simp [colSums]
theorem rowSums_at {t : List (List Int)} {i : Nat} (h : i < t.length) : gi (rowSums t) (i : Int) = (gi t (i : Int)).sum := by
  rw [gi_nat (by rw [rowSums_len]; exact h), gi_nat h]; simp [rowSums]
theorem colSums_at {t : List (List Int)} {j : Nat} (h : j < (gi t 0).length) : gi (colSums t) (j : Int) = colPart t t.length j := gi_map_range h
theorem total_le {t : List (List Int)} (h : TabOk t) : (rowSums t).sum ≤ 16 := h.2.2.2
theorem rowSums_ge {t : List (List Int)} (h : TabOk t) : ∀ x ∈ rowSums t, 0 ≤ x := by
  intro x hx
  obtain ⟨r, hr, rfl⟩ := List.mem_map.1 hx
  exact sum_nonneg fun y hy => ((h.2.2.1 r hr).2.2.2 y hy).1
theorem rowSums_le {t : List (List Int)} (h : TabOk t) : ∀ x ∈ rowSums t, 0 ≤ x ∧ x ≤ 16 := fun x hx =>
  ⟨rowSums_ge h x hx, Int.le_trans (le_sum (rowSums_ge h) hx) (total_le h)⟩
/-- the sums of the columns sum to the same -/
theorem colPart_le {t : List (List Int)} (h : TabOk t) {j : Nat} (hj : j < (gi t 0).length) : ∀ i, i ≤ t.length → colPart t i j ≤ ((rowSums t).take i).sum
  | 0, _ => by simp [colPart]
  | i + 1, hi => by
    have h1 := colPart_le h hj i (by omega)
    have h2 : i < (rowSums t).length := by rw [rowSums_len]; omega
    rw [colPart_succ (by omega), sum_take h2, rowSums_at (by omega)]
    have hw := h.width (show i < t.length by omega)
    have : gi (gi t (i : Int)) (j : Int) ≤ (gi t (i : Int)).sum := le_sum (fun y hy => ((h.2.2.1 _ (mem_gi (show i < t.length by omega))).2.2.2 y hy).1) (mem_gi (by omega))
    omega
theorem colSums_le {t : List (List Int)} (h : TabOk t) : ∀ x ∈ colSums t, 0 ≤ x ∧ x ≤ 16 := fun x hx => by
  unfold colSums at hx
  obtain ⟨j, hj, rfl⟩ := List.mem_map.1 hx
  have hj' := List.mem_range.1 hj
  have h1 := (h.colPart (i := t.length) hj').1
  have h2 := colPart_le h hj' t.length (Nat.le_refl _)
  rw [List.take_of_length_le (by rw [rowSums_len]; exact Nat.le_refl _)] at h2
  have := total_le h
  exact ⟨h1, by omega⟩
/-- the numbers, and how great they are -/
theorem Full.nums {t : List (List Int)} (h : Full t) {i j : Nat} (hi : i < t.length) (hj : j < (gi t 0).length) :
    gi (rowSums t) (i : Int) = rN t i ∧ gi (colSums t) (j : Int) = cN t j ∧ 1 ≤ rN t i ∧ rN t i ≤ 16 ∧ 1 ≤ cN t j ∧ cN t j ≤ 16 ∧ 1 ≤ nN t ∧ nN t ≤ 16 ∧ (rowSums t).sum = nN t := by
  have r1 := mem_gi (xs := rowSums t) (i := i) (by rw [rowSums_len]; exact hi)
  have c1 := mem_gi (xs := colSums t) (i := j) (by rw [colSums_len]; exact hj)
  have r2 := rowSums_le h.1 _ r1
  have c2 := colSums_le h.1 _ c1
  have r3 : gi (rowSums t) (i : Int) ≠ 0 := fun e => h.2.1 (e ▸ r1)
  have c3 : gi (colSums t) (j : Int) ≠ 0 := fun e => h.2.2 (e ▸ c1)
  have n1 := le_sum (rowSums_ge h.1) r1
  have n2 := total_le h.1
  unfold rN cN nN
  omega
theorem Full.all {t : List (List Int)} (h : Full t) : 1 ≤ allN t ∧ allN t ≤ 268435456 := by
  have hl := h.1.1
  have hc := h.1.cols
  have hn := h.nums (i := 0) (j := 0) (by omega) (by omega)
  have pr : ∀ x ∈ rowSums t, 0 < x := fun x hx => by
    have := rowSums_le h.1 x hx
    have : x ≠ 0 := fun e => h.2.1 (e ▸ hx)
    omega
  have pc : ∀ x ∈ colSums t, 0 < x := fun x hx => by
    have := colSums_le h.1 x hx
    have : x ≠ 0 := fun e => h.2.2 (e ▸ hx)
    omega
  have a1 : prodN (rowSums t) ≤ 16 ^ 3 := Nat.le_trans (prodN_le (m := 16) (by omega) fun x hx => (rowSums_le h.1 x hx).2) (Nat.pow_le_pow_right (by omega) (by rw [rowSums_len]; exact h.1.2.1))
  have a2 : prodN (colSums t) ≤ 16 ^ 3 := Nat.le_trans (prodN_le (m := 16) (by omega) fun x hx => (colSums_le h.1 x hx).2) (Nat.pow_le_pow_right (by omega) (by rw [colSums_len]; exact hc.2))
  have b1 := prodN_pos pr
  have b2 := prodN_pos pc
  unfold allN
  refine ⟨Nat.mul_pos (Nat.mul_pos (by omega) b1) b2, ?_⟩
  have := Nat.mul_le_mul (Nat.mul_le_mul hn.2.2.2.2.2.2.2.1 a1) a2
  omega
theorem Full.dvd {t : List (List Int)} (h : Full t) {i j : Nat} (hi : i < t.length) (hj : j < (gi t 0).length) : allN t = eN t i j * qN t i j ∧ 1 ≤ eN t i j ∧ eN t i j ≤ 4096 := by
  have hn := h.nums hi hj
  have r1 : rN t i ∣ prodN (rowSums t) := prodN_dvd (mem_gi (by rw [rowSums_len]; exact hi))
  have c1 : cN t j ∣ prodN (colSums t) := prodN_dvd (mem_gi (by rw [colSums_len]; exact hj))
  have d : eN t i j ∣ allN t := by
    unfold eN allN
    rw [Nat.mul_comm (rN t i * cN t j), Nat.mul_assoc (nN t)]
    exact Nat.mul_dvd_mul_left _ (Nat.mul_dvd_mul r1 c1)
  refine ⟨(Nat.mul_div_cancel' d).symm, Nat.mul_pos (Nat.mul_pos (by omega) (by omega)) (by omega), ?_⟩
  unfold eN
  exact Nat.mul_le_mul (Nat.mul_le_mul hn.2.2.2.1 hn.2.2.2.2.2.1) hn.2.2.2.2.2.2.2.1
theorem sq_nonneg (x : Int) : 0 ≤ x * x := by
  rcases Int.le_total 0 x with h | h
  · exact Int.mul_nonneg h h
  · exact Int.mul_nonneg_of_nonpos_of_nonpos h h
theorem Full.dd {t : List (List Int)} (h : Full t) {i j : Nat} (hi : i < t.length) (hj : j < (gi t 0).length) : -256 ≤ dd t i j ∧ dd t i j ≤ 256 ∧ 0 ≤ gi (gi t (i : Int)) (j : Int) * nN t ∧ gi (gi t (i : Int)) (j : Int) * nN t ≤ 256 ∧ ((sqN t i j : Nat) : Int) = Go.Proofs.Ytflekaacffdakaa.dd t i j * Go.Proofs.Ytflekaacffdakaa.dd t i j ∧ sqN t i j ≤ 65536 := by
  have hn := h.nums hi hj
  have he := h.1.entry hi hj
  have m1 := mul_small (m := 16) (n := 16) he.1 he.2 (show (0 : Int) ≤ nN t by omega) (by omega) (by omega)
  have m2 : rN t i * cN t j ≤ 16 * 16 := Nat.mul_le_mul hn.2.2.2.1 hn.2.2.2.2.2.1
  have b1 : -256 ≤ Go.Proofs.Ytflekaacffdakaa.dd t i j ∧ Go.Proofs.Ytflekaacffdakaa.dd t i j ≤ 256 := by
    unfold Go.Proofs.Ytflekaacffdakaa.dd; omega
  have b2 := sq_nonneg (Go.Proofs.Ytflekaacffdakaa.dd t i j)
  have b3 : Go.Proofs.Ytflekaacffdakaa.dd t i j * Go.Proofs.Ytflekaacffdakaa.dd t i j ≤ 65536 := by
    rcases Int.le_total 0 (Go.Proofs.Ytflekaacffdakaa.dd t i j) with h | h
    · have := mul_small h b1.2 h b1.2 (by omega); omega
    · have := mul_small (show 0 ≤ - Go.Proofs.Ytflekaacffdakaa.dd t i j by omega) (show - Go.Proofs.Ytflekaacffdakaa.dd t i j ≤ 256 by omega) (show 0 ≤ - Go.Proofs.Ytflekaacffdakaa.dd t i j by omega) (show - Go.Proofs.Ytflekaacffdakaa.dd t i j ≤ 256 by omega) (by omega)
      rw [Int.neg_mul_neg] at this; omega
  unfold sqN
  refine ⟨b1.1, b1.2, m1.1, by omega, by omega, by omega⟩
/-- how great the sum is -/
theorem Full.part {t : List (List Int)} (h : Full t) {i : Nat} (hi : i < t.length) : ∀ {j : Nat}, j ≤ (gi t 0).length → rowOff t i j ≤ j * 17592186044416
  | 0, _ => by simp [rowOff]
  | j + 1, hj => by
    have h1 := h.part hi (j := j) (by omega)
    have h2 := h.dvd hi (j := j) (by omega)
    have h3 := h.dd hi (j := j) (by omega)
    have h4 := h.all
    have h5 : qN t i j ≤ 268435456 := by
      have : qN t i j ≤ allN t := Nat.div_le_self _ _
      omega
    have h6 := Nat.mul_le_mul h5 h3.2.2.2.2.2
    rw [rowOff_succ]; omega
theorem Full.part2 {t : List (List Int)} (h : Full t) : ∀ {i : Nat}, i ≤ t.length → offP t i ≤ i * 52776558133248
  | 0, _ => by simp [offP]
  | i + 1, hi => by
    have h1 := h.part2 (i := i) (by omega)
    have h2 := h.part (i := i) (by omega) (j := (gi t 0).length) (Nat.le_refl _)
    have h3 := h.1.cols
    rw [offP_succ]; omega
theorem off_step {M sq q e D : Nat} (hD : D = e * q) (he : 1 ≤ e) : fracN (M * e + sq * D) (D * e) = fracN (M + q * sq) D := by
  rw [← fracN_scale (m := M + q * sq) (n := D) he]
  congr 1
  · rw [hD]; grind
  · exact Nat.mul_comm _ _
end Go.Proofs.Ytflekaacffdakaa
namespace Go.Proofs.Ytflekaacffdakaa
open Go Go.AM Go.Proofs
theorem min_zero {xs : List Int} (h : 1 ≤ xs.length) (h0 : ∀ x ∈ xs, 0 ≤ x) : minL xs = 0 ↔ (0 : Int) ∈ xs := by
  have hs := minL_spec h
  constructor
  · intro e; rw [← e]; exact hs.1
  · intro e
    have h1 := hs.2 _ e
    have h2 := h0 _ hs.1
    omega
theorem off_err {p : Nat → Prop} {H : Heap} {v : AV} {t : List (List Int)} (ht : Sl p H v t) (h : ¬ TabOk t) : RetP E 35 [v] H (.tp [.ag [.i 0, .i 0], .i 2]) := by
  refine RetP.ro rfl fn35 rfl rfl ?_
  unfold f35A
  simp (disch := (first | assumption | omega | (simp only [List.length_append, List.length_cons, List.length_nil]; omega))) only [↓wD,wU,Nat.reduceBEq,zx150,zx151,zx159,zx160,zx161,zx162,Nat.reduceAdd,Nat.reduceSub,Nat.reduceMul,Nat.reduceLeDiff,Nat.reduceLT,Nat.reduceEqDiff,Int.reduceAdd,Int.reduceSub,Int.reduceMul,Int.reduceNeg,Int.reduceLT,Int.reduceLE,Int.reduceEq,Int.reduceToNat,Int.cast_ofNat_Int,↓reduceIte, *, (valid_ret (ht.app [.cells [.int .i64 0, .int .i64 0]])).call, decide_eq_false h]
theorem full_min {t : List (List Int)} (h : TabOk t) : Full t ↔ ¬ minL (rowSums t) = 0 ∧ ¬ minL (colSums t) = 0 := by
  have hc := h.cols
  rw [min_zero (by rw [rowSums_len]; exact h.1) fun x hx => (rowSums_le h x hx).1, min_zero (by rw [colSums_len]; exact hc.1) fun x hx => (colSums_le h x hx).1]
  exact ⟨fun hf => hf.2, fun hf => ⟨h, hf⟩⟩
theorem off_state {p : Nat → Prop} {H : Heap} {v : AV} {t : List (List Int)} (ht : Sl p H v t) (h : TabOk t) (hf : ¬ Full t) : RetP E 35 [v] H (.tp [.ag [.i 0, .i 0], .i 5]) := by
  refine RetP.ro rfl fn35 rfl rfl ?_
  unfold f35A
  rw [full_min h] at hf
  have hc := h.cols
  have k0 := ht.app [.cells [.int .i64 0, .int .i64 0]]
  simp (disch := (first | assumption | omega | (simp only [List.length_append, List.length_cons, List.length_nil]; omega))) only [↓wD,wU,Nat.reduceBEq,zx150,zx151,zx159,zx160,zx161,zx162,Nat.reduceAdd,Nat.reduceSub,Nat.reduceMul,Nat.reduceLeDiff,Nat.reduceLT,Nat.reduceEqDiff,Int.reduceAdd,Int.reduceSub,Int.reduceMul,Int.reduceNeg,Int.reduceLT,Int.reduceLE,Int.reduceEq,Int.reduceToNat,Int.cast_ofNat_Int,↓reduceIte, (valid_ret k0).call, decide_eq_true h]
  refine (sums_ret k0 h).toX fun w H1 x1 hw => ?_
  obtain ⟨v1, v2, rfl, h1, h2⟩ := rv2 hw
  have c1 : H1[H.length]? = some (.cells [.i 0, .i 0]) := x1.get trivial (by simp)
  have m1 := min_ret (rvs h1) (by rw [rowSums_len]; exact h.1)
  have m2 := min_ret (rvs h2) (by rw [colSums_len]; exact hc.1)
  have hst : st H.length H1 H.length 0 [.i 0, .i 0] = some (H1.set H.length (.cells [.i 0, .i 0])) := by rw [st_of c1 (Nat.le_refl _) (by simp)]; simp [wr]
  by_cases e1 : minL (rowSums t) = 0
  · rw [e1] at m1
    clear hf e1
    simp (disch := (first | assumption | omega | (simp only [List.length_append, List.length_cons, List.length_nil]; omega))) only [↓wD,wU,Nat.reduceBEq,zx150,zx151,zx159,zx160,zx161,zx162,Nat.reduceAdd,Nat.reduceSub,Nat.reduceMul,Nat.reduceLeDiff,Nat.reduceLT,Nat.reduceEqDiff,Int.reduceAdd,Int.reduceSub,Int.reduceMul,Int.reduceNeg,Int.reduceLT,Int.reduceLE,Int.reduceEq,Int.reduceToNat,Int.cast_ofNat_Int,↓reduceIte, m1.call, hst, ldn_of (get_set c1)]
  · have e2 : minL (colSums t) = 0 := Classical.byContradiction fun e2 => hf ⟨e1, e2⟩
    rw [e2] at m2
    have e1' : decide (minL (rowSums t) = 0) = false := decide_eq_false e1
    clear hf e2 e1
    simp (disch := (first | assumption | omega | (simp only [List.length_append, List.length_cons, List.length_nil]; omega))) only [↓wD,wU,Nat.reduceBEq,zx150,zx151,zx159,zx160,zx161,zx162,Nat.reduceAdd,Nat.reduceSub,Nat.reduceMul,Nat.reduceLeDiff,Nat.reduceLT,Nat.reduceEqDiff,Int.reduceAdd,Int.reduceSub,Int.reduceMul,Int.reduceNeg,Int.reduceLT,Int.reduceLE,Int.reduceEq,Int.reduceToNat,Int.cast_ofNat_Int,↓reduceIte, m1.call, m2.call, e1', hst, ldn_of (get_set c1)]
theorem off_ret {p : Nat → Prop} {H : Heap} {v : AV} {t : List (List Int)} (ht : Sl p H v t) (hF : Full t) : RetP E 35 [v] H (.tp [.ag [.i (fracN (offP t t.length) (allN t)).1, .i (fracN (offP t t.length) (allN t)).2], .i 0]) := by
  refine RetP.ro rfl fn35 rfl rfl ?_
  unfold f35A
  have h := hF.1
  have hm := (full_min h).1 hF
  have hc := h.cols
  have hl1 := h.1
  have hl3 := h.2.1
  have hall := hF.all
  have hlow : Sl (fun b => b < H.length) H v t := ht.low.weak fun _ h => h.2
  have k0 := hlow.app [.cells [.int .i64 0, .int .i64 0]]
  simp (disch := (first | assumption | omega | (simp only [List.length_append, List.length_cons, List.length_nil]; omega))) only [↓wD,wU,Nat.reduceBEq,zx150,zx151,zx159,zx160,zx161,zx162,Nat.reduceAdd,Nat.reduceSub,Nat.reduceMul,Nat.reduceLeDiff,Nat.reduceLT,Nat.reduceEqDiff,Int.reduceAdd,Int.reduceSub,Int.reduceMul,Int.reduceNeg,Int.reduceLT,Int.reduceLE,Int.reduceEq,Int.reduceToNat,Int.cast_ofNat_Int,↓reduceIte, (valid_ret k0).call, decide_eq_true h]
  refine (sums_ret k0 h).toX fun w H1 x1 hw => ?_
  obtain ⟨v1, v2, rfl, h1, h2⟩ := rv2 hw
  have c1 : H1[H.length]? = some (.cells [.i 0, .i 0]) := x1.get trivial (by simp)
  have hl01 := (List.getElem?_eq_some_iff.1 c1).1
  have s1 : Sl (fun b => H.length + 1 ≤ b ∧ b < H1.length) H1 v1 (rowSums t) := (rvs h1).low.weak fun b h => ⟨by have := h.1.resolve_left (fun h => h.elim); simpa using this, h.2⟩
  have s2 : Sl (fun b => H.length + 1 ≤ b ∧ b < H1.length) H1 v2 (colSums t) := (rvs h2).low.weak fun b h => ⟨by have := h.1.resolve_left (fun h => h.elim); simpa using this, h.2⟩
  have kt : Sl (fun b => b < H.length) H1 v t := k0.kp (x1.all _).kp
  have m1 := min_ret s1 (by rw [rowSums_len]; exact h.1)
  have m2 := min_ret s2 (by rw [colSums_len]; exact hc.1)
  have e1' : decide (minL (rowSums t) = 0) = false := decide_eq_false hm.1
  have e2' : decide (minL (colSums t) = 0) = false := decide_eq_false hm.2
  clear h1 h2 hw x1 k0 hm
  have s1I := s1.I
  rw [rowSums_len] at s1I
  simp (disch := (first | assumption | omega | (simp only [List.length_append, List.length_cons, List.length_nil]; omega))) only [↓wD,wU,Nat.reduceBEq,zx150,zx151,zx159,zx160,zx161,zx162,Nat.reduceAdd,Nat.reduceSub,Nat.reduceMul,Nat.reduceLeDiff,Nat.reduceLT,Nat.reduceEqDiff,Int.reduceAdd,Int.reduceSub,Int.reduceMul,Int.reduceNeg,Int.reduceLT,Int.reduceLE,Int.reduceEq,Int.reduceToNat,Int.cast_ofNat_Int,↓reduceIte, m1.call, m2.call, e1', e2', s1I]
  refine Wp.for t.length (fun i a H' => H' = H1 ∧ a 0 = v ∧ a 2 = .p H.length 0 ∧ a 4 = v1 ∧ a 5 = v2 ∧ a 34 = v1 ∧ a 35 = .i t.length ∧ a 36 = .i i ∧ a 6 = .i ((rowSums t).take i).sum ∧ 0 ≤ ((rowSums t).take i).sum ∧ ((rowSums t).take i).sum ≤ 16 * i) ?_ ?_
  · rintro i a H' hi ⟨rfl, a0, a2, a4, a5, a34, a35, a36, a6, b1, b2⟩ ih
    simp (disch := (first | assumption | omega | (simp only [List.length_append, List.length_cons, List.length_nil]; omega))) only [↓wD,wU,Nat.reduceBEq,zx150,zx151,zx159,zx160,zx161,zx162,Nat.reduceAdd,Nat.reduceSub,Nat.reduceMul,Nat.reduceLeDiff,Nat.reduceLT,Nat.reduceEqDiff,Int.reduceAdd,Int.reduceSub,Int.reduceMul,Int.reduceNeg,Int.reduceLT,Int.reduceLE,Int.reduceEq,Int.reduceToNat,Int.cast_ofNat_Int,↓reduceIte, a0, a2, a4, a5, a34, a35, a36, a6]
    refine condP_split (fun hlt => ?_) (fun hlt => ?_)
    · have hi' : i < t.length := by omega
      have hr := rowSums_le h _ (mem_gi (xs := rowSums t) (i := i) (by rw [rowSums_len]; exact hi'))
      have e := sum_take (xs := rowSums t) (i := i) (by rw [rowSums_len]; exact hi')
      simp (disch := (first | assumption | omega | (simp only [List.length_append, List.length_cons, List.length_nil]; omega))) only [↓wD,wU,Nat.reduceBEq,zx150,zx151,zx159,zx160,zx161,zx162,Nat.reduceAdd,Nat.reduceSub,Nat.reduceMul,Nat.reduceLeDiff,Nat.reduceLT,Nat.reduceEqDiff,Int.reduceAdd,Int.reduceSub,Int.reduceMul,Int.reduceNeg,Int.reduceLT,Int.reduceLE,Int.reduceEq,Int.reduceToNat,Int.cast_ofNat_Int,↓reduceIte, a0, a2, a4, a5, a34, a35, a36, a6, s1I]
      refine (ih hi').go ⟨rfl, ?_⟩
      simp (disch := (first | assumption | omega | (simp only [List.length_append, List.length_cons, List.length_nil]; omega))) only [↓wD,wU,Nat.reduceBEq,zx150,zx151,zx159,zx160,zx161,zx162,Nat.reduceAdd,Nat.reduceSub,Nat.reduceMul,Nat.reduceLeDiff,Nat.reduceLT,Nat.reduceEqDiff,Int.reduceAdd,Int.reduceSub,Int.reduceMul,Int.reduceNeg,Int.reduceLT,Int.reduceLE,Int.reduceEq,Int.reduceToNat,Int.cast_ofNat_Int,↓reduceIte, a0, a2, a4, a5, a34, a35, a36, a6, e]
      omega
    · obtain rfl : i = t.length := by omega
      rw [List.take_of_length_le (by rw [rowSums_len]; exact Nat.le_refl _)] at a6
      have hn := hF.nums (i := 0) (j := 0) (by omega) (by omega)
      rw [hn.2.2.2.2.2.2.2.2] at a6
      have hn16 : (1 : Int) ≤ nN t ∧ (nN t : Int) ≤ 16 := by omega
      have fr := frac_ret (H := H') 0 1 (by omega) (by omega) (by omega)
      have f0 : fracN 0 1 = (0, 1) := by decide
      rw [f0] at fr
      simp only [Int.natCast_zero, Int.natCast_one] at fr
      have fD : fracN (offP t 0) (allN t) = (0, 1) := by
        have : fracN (allN t * 0) (allN t * 1) = fracN 0 1 := fracN_scale (by omega)
        rw [Nat.mul_zero, Nat.mul_one] at this
        change fracN 0 (allN t) = _
        rw [this, f0]
      clear hn b1 b2 f0
      simp (disch := (first | assumption | omega | (simp only [List.length_append, List.length_cons, List.length_nil]; omega))) only [↓wD,wU,Nat.reduceBEq,zx150,zx151,zx159,zx160,zx161,zx162,Nat.reduceAdd,Nat.reduceSub,Nat.reduceMul,Nat.reduceLeDiff,Nat.reduceLT,Nat.reduceEqDiff,Int.reduceAdd,Int.reduceSub,Int.reduceMul,Int.reduceNeg,Int.reduceLT,Int.reduceLE,Int.reduceEq,Int.reduceToNat,Int.cast_ofNat_Int,↓reduceIte, a0, a2, a4, a5, a6, fr.call, kt.L]
      have kt' := kt.app [.cells [.i 0, .i 1]]
      refine Wp.for t.length (fun i a Hw => a 0 = v ∧ a 2 = .p H.length 0 ∧ a 4 = v1 ∧ a 5 = v2 ∧ a 6 = .i (nN t) ∧ a 9 = .p H'.length 0 ∧ a 45 = v ∧ a 46 = .i t.length ∧ a 47 = .i i ∧ Kx (fun b => b ≠ H'.length) (H' ++ [.cells [.i 0, .i 1]]) Hw ∧ Hw[H'.length]? = some (.cells [.i (fracN (offP t i) (allN t)).1, .i (fracN (offP t i) (allN t)).2])) ?_ ?_
      · clear a0 a2 a4 a5 a34 a35 a36 a6 ih
        rintro i a Hw hi ⟨a0, a2, a4, a5, a6, a9, a45, a46, a47, hx, cw⟩ ih
        simp (disch := (first | assumption | omega | (simp only [List.length_append, List.length_cons, List.length_nil]; omega))) only [↓wD,wU,Nat.reduceBEq,zx150,zx151,zx159,zx160,zx161,zx162,Nat.reduceAdd,Nat.reduceSub,Nat.reduceMul,Nat.reduceLeDiff,Nat.reduceLT,Nat.reduceEqDiff,Int.reduceAdd,Int.reduceSub,Int.reduceMul,Int.reduceNeg,Int.reduceLT,Int.reduceLE,Int.reduceEq,Int.reduceToNat,Int.cast_ofNat_Int,↓reduceIte, a0, a2, a4, a5, a6, a9, a45, a46, a47]
        refine condP_split (fun hlt => ?_) (fun hlt => ?_)
        · have hi' : i < t.length := by omega
          have ktw := kt'.kp (hx.weak fun b _ h => by omega).kp
          have g := ktw.get (k := (i : Int)) (by omega) (by omega)
          have gw := h.width hi'
          simp (disch := (first | assumption | omega | (simp only [List.length_append, List.length_cons, List.length_nil]; omega))) only [↓wD,wU,Nat.reduceBEq,zx150,zx151,zx159,zx160,zx161,zx162,Nat.reduceAdd,Nat.reduceSub,Nat.reduceMul,Nat.reduceLeDiff,Nat.reduceLT,Nat.reduceEqDiff,Int.reduceAdd,Int.reduceSub,Int.reduceMul,Int.reduceNeg,Int.reduceLT,Int.reduceLE,Int.reduceEq,Int.reduceToNat,Int.cast_ofNat_Int,↓reduceIte, a0, a2, a4, a5, a6, a9, a45, a46, a47, ktw.L, g.I]
          obtain ⟨gu, egu⟩ : ∃ gu, v.get Hw i = gu := ⟨_, rfl⟩
          rw [egu] at g
          refine Wp.for (gi t 0).length (fun j a Hz => a 0 = v ∧ a 2 = .p H.length 0 ∧ a 4 = v1 ∧ a 5 = v2 ∧ a 6 = .i (nN t) ∧ a 9 = .p H'.length 0 ∧ a 45 = v ∧ a 46 = .i t.length ∧ a 47 = .i i ∧ a 10 = .i i ∧ a 52 = gu ∧ a 53 = .i (gi t 0).length ∧ a 54 = .i j ∧ Kx (fun b => b ≠ H'.length) (H' ++ [.cells [.i 0, .i 1]]) Hz ∧ Kx (fun b => b ≠ H'.length) Hw Hz ∧ Hz[H'.length]? = some (.cells [.i (fracN (offP t i + rowOff t i j) (allN t)).1, .i (fracN (offP t i + rowOff t i j) (allN t)).2])) ?_ ?_
          · clear a0 a2 a4 a5 a6 a9 a45 a46 a47
            rintro j a Hz hj ⟨a0, a2, a4, a5, a6, a9, a45, a46, a47, a10, a52, a53, a54, hxz, hwz, cz⟩ ih2
            simp (disch := (first | assumption | omega | (simp only [List.length_append, List.length_cons, List.length_nil]; omega))) only [↓wD,wU,Nat.reduceBEq,zx150,zx151,zx159,zx160,zx161,zx162,Nat.reduceAdd,Nat.reduceSub,Nat.reduceMul,Nat.reduceLeDiff,Nat.reduceLT,Nat.reduceEqDiff,Int.reduceAdd,Int.reduceSub,Int.reduceMul,Int.reduceNeg,Int.reduceLT,Int.reduceLE,Int.reduceEq,Int.reduceToNat,Int.cast_ofNat_Int,↓reduceIte, a0, a2, a4, a5, a6, a9, a45, a46, a47, a10, a52, a53, a54]
            refine condP_split (fun hlt2 => ?_) (fun hlt2 => ?_)
            · have hj' : j < (gi t 0).length := by omega
              have gz : Sl (fun b => b < H.length) Hz gu (gi t (i : Int)) := g.kp (hwz.weak fun b _ h => by omega).kp
              have s1z := (s1.app [.cells [.i 0, .i 1]]).kp (hxz.weak fun b _ h => by omega).kp
              have s2z := (s2.app [.cells [.i 0, .i 1]]).kp (hxz.weak fun b _ h => by omega).kp
              obtain ⟨nr, nc, r1, r16, c1', c16, n1, n16, _⟩ := hF.nums hi' hj'
              obtain ⟨eD, e1, e4⟩ := hF.dvd hi' hj'
              obtain ⟨d1, d2, p1, p2, sqd, sq6⟩ := hF.dd hi' hj'
              have pm := hF.part2 (i := i) (by omega)
              have pr := hF.part hi' (j := j) (by omega)
              have pl := plus_ret (H := Hz) (a := offP t i + rowOff t i j) (b := allN t) (c := sqN t i j) (d := eN t i j) (by omega) (by omega) sq6 e4 (by omega) (by omega)
              rw [off_step eD e1] at pl
              have fr := frac_ret (H := Hz) (sqN t i j) (eN t i j) (by omega) (by omega) (by omega)
              have m1 : (rN t i : Int) * cN t j = ((rN t i * cN t j : Nat) : Int) := by simp
              have l1 : rN t i * cN t j ≤ 256 := Nat.mul_le_mul r16 c16
              have m2 : ((rN t i * cN t j : Nat) : Int) * nN t = ((eN t i j : Nat) : Int) := by unfold eN; simp
              have m3 : gi (gi t (i : Int)) (j : Int) * nN t - ((rN t i * cN t j : Nat) : Int) = dd t i j := rfl
              have eOff := rowOff_succ (t := t) (i := i) (j := j)
              have hge := h.entry hi' hj'
              have s1I := s1z.I
              rw [rowSums_len] at s1I
              have s2I := s2z.I
              rw [colSums_len] at s2I
              have gI := gz.I
              rw [gw] at gI
              have hlz := hxz.1
              generalize fracN (offP t i + rowOff t i j) (allN t) = F0 at pl cz
              rw [show offP t i + rowOff t i j + qN t i j * sqN t i j = offP t i + rowOff t i (j + 1) by omega] at pl
              generalize fracN (sqN t i j) (eN t i j) = F1 at pl fr
              have eF : fracN (offP t i + rowOff t i (j + 1)) (allN t) = fracN (offP t i + rowOff t i (j + 1)) (allN t) := rfl
              generalize e2 : fracN (offP t i + rowOff t i (j + 1)) (allN t) = F2 at pl
              clear eF eOff eD pm pr
              generalize rN t i * cN t j = rc at m1 m2 m3 l1
              generalize eN t i j = ee at m2 fr pl e1 e4
              generalize dd t i j = d at m3 d1 d2 sqd
              generalize sqN t i j = sq at sqd sq6 fr
              have sqd' : d * d = sq := sqd.symm
              clear sqd
              obtain ⟨F0a, F0b⟩ := F0
              obtain ⟨F1a, F1b⟩ := F1
              obtain ⟨F2a, F2b⟩ := F2
              simp only at pl fr cz
              simp (disch := (first | assumption | omega | (simp only [List.length_append, List.length_cons, List.length_nil]; omega))) only [↓wD,wU,Nat.reduceBEq,zx150,zx151,zx159,zx160,zx161,zx162,Nat.reduceAdd,Nat.reduceSub,Nat.reduceMul,Nat.reduceLeDiff,Nat.reduceLT,Nat.reduceEqDiff,Int.reduceAdd,Int.reduceSub,Int.reduceMul,Int.reduceNeg,Int.reduceLT,Int.reduceLE,Int.reduceEq,Int.reduceToNat,Int.cast_ofNat_Int,↓reduceIte, a0, a2, a4, a5, a6, a9, a45, a46, a47, a10, a52, a53, a54, gI, s1I, s2I, nr, nc, m1, m2, m3, sqd', ldn_of cz, fr.call, pl.call, st_of cz]
              refine (ih2 hj').go ?_
              simp (disch := (first | assumption | omega | (simp only [List.length_append, List.length_cons, List.length_nil]; omega))) only [↓wD,wU,Nat.reduceBEq,zx150,zx151,zx159,zx160,zx161,zx162,Nat.reduceAdd,Nat.reduceSub,Nat.reduceMul,Nat.reduceLeDiff,Nat.reduceLT,Nat.reduceEqDiff,Int.reduceAdd,Int.reduceSub,Int.reduceMul,Int.reduceNeg,Int.reduceLT,Int.reduceLE,Int.reduceEq,Int.reduceToNat,Int.cast_ofNat_Int,↓reduceIte, a0, a2, a4, a5, a6, a9, a45, a46, a47, a10, a52, a53, a54, e2]
              exact ⟨hxz.set' (fun _ h => h rfl) _, hwz.set' (fun _ h => h rfl) _, get_set cz⟩
            · obtain rfl : j = (gi t 0).length := by omega
              rw [← offP_succ] at cz
              simp (disch := (first | assumption | omega | (simp only [List.length_append, List.length_cons, List.length_nil]; omega))) only [↓wD,wU,Nat.reduceBEq,zx150,zx151,zx159,zx160,zx161,zx162,Nat.reduceAdd,Nat.reduceSub,Nat.reduceMul,Nat.reduceLeDiff,Nat.reduceLT,Nat.reduceEqDiff,Int.reduceAdd,Int.reduceSub,Int.reduceMul,Int.reduceNeg,Int.reduceLT,Int.reduceLE,Int.reduceEq,Int.reduceToNat,Int.cast_ofNat_Int,↓reduceIte, a0, a2, a4, a5, a6, a9, a45, a46, a47, a10, a52, a53, a54]
              refine (ih hi').go ?_
              simp (disch := (first | assumption | omega | (simp only [List.length_append, List.length_cons, List.length_nil]; omega))) only [↓wD,wU,Nat.reduceBEq,zx150,zx151,zx159,zx160,zx161,zx162,Nat.reduceAdd,Nat.reduceSub,Nat.reduceMul,Nat.reduceLeDiff,Nat.reduceLT,Nat.reduceEqDiff,Int.reduceAdd,Int.reduceSub,Int.reduceMul,Int.reduceNeg,Int.reduceLT,Int.reduceLE,Int.reduceEq,Int.reduceToNat,Int.cast_ofNat_Int,↓reduceIte, a0, a2, a4, a5, a6, a9, a45, a46, a47]
              exact ⟨hxz, cz⟩
          · simp (disch := (first | assumption | omega | (simp only [List.length_append, List.length_cons, List.length_nil]; omega))) only [↓wD,wU,Nat.reduceBEq,zx150,zx151,zx159,zx160,zx161,zx162,Nat.reduceAdd,Nat.reduceSub,Nat.reduceMul,Nat.reduceLeDiff,Nat.reduceLT,Nat.reduceEqDiff,Int.reduceAdd,Int.reduceSub,Int.reduceMul,Int.reduceNeg,Int.reduceLT,Int.reduceLE,Int.reduceEq,Int.reduceToNat,Int.cast_ofNat_Int,↓reduceIte, a0, a2, a4, a5, a6, a9, a45, a46, a47, egu, gw]
            exact ⟨hx, Kx.refl _ _, by simpa [rowOff] using cw⟩
        · obtain rfl : i = t.length := by omega
          have cw2 := hx.get (b := H.length) (by omega) ((Kx.app (fun _ => True) H' _).get trivial c1)
          have hst : st H.length Hw H.length 0 [.i (fracN (offP t t.length) (allN t)).1, .i (fracN (offP t t.length) (allN t)).2] = some (Hw.set H.length (.cells [.i (fracN (offP t t.length) (allN t)).1, .i (fracN (offP t t.length) (allN t)).2])) := by rw [st_of cw2 (Nat.le_refl _) (by simp)]; simp [wr]
          simp (disch := (first | assumption | omega | (simp only [List.length_append, List.length_cons, List.length_nil]; omega))) only [↓wD,wU,Nat.reduceBEq,zx150,zx151,zx159,zx160,zx161,zx162,Nat.reduceAdd,Nat.reduceSub,Nat.reduceMul,Nat.reduceLeDiff,Nat.reduceLT,Nat.reduceEqDiff,Int.reduceAdd,Int.reduceSub,Int.reduceMul,Int.reduceNeg,Int.reduceLT,Int.reduceLE,Int.reduceEq,Int.reduceToNat,Int.cast_ofNat_Int,↓reduceIte, a0, a2, a4, a5, a6, a9, a45, a46, a47, ldn_of cw, hst]
          simp (disch := (first | assumption | omega | (simp only [List.length_append, List.length_cons, List.length_nil]; omega))) only [↓wD,wU,Nat.reduceBEq,zx150,zx151,zx159,zx160,zx161,zx162,Nat.reduceAdd,Nat.reduceSub,Nat.reduceMul,Nat.reduceLeDiff,Nat.reduceLT,Nat.reduceEqDiff,Int.reduceAdd,Int.reduceSub,Int.reduceMul,Int.reduceNeg,Int.reduceLT,Int.reduceLE,Int.reduceEq,Int.reduceToNat,Int.cast_ofNat_Int,↓reduceIte, ldn_of (get_set cw2)]
      · simp (disch := (first | assumption | omega | (simp only [List.length_append, List.length_cons, List.length_nil]; omega))) only [↓wD,wU,Nat.reduceBEq,zx150,zx151,zx159,zx160,zx161,zx162,Nat.reduceAdd,Nat.reduceSub,Nat.reduceMul,Nat.reduceLeDiff,Nat.reduceLT,Nat.reduceEqDiff,Int.reduceAdd,Int.reduceSub,Int.reduceMul,Int.reduceNeg,Int.reduceLT,Int.reduceLE,Int.reduceEq,Int.reduceToNat,Int.cast_ofNat_Int,↓reduceIte, a0, a2, a4, a5, a6]
        rw [fD]
        exact ⟨Kx.refl _ _, by simp⟩
  · (simp (disch := (first | assumption | omega | (simp only [List.length_append, List.length_cons, List.length_nil]; omega))) only [↓wD,wU,Nat.reduceBEq,zx150,zx151,zx159,zx160,zx161,zx162,Nat.reduceAdd,Nat.reduceSub,Nat.reduceMul,Nat.reduceLeDiff,Nat.reduceLT,Nat.reduceEqDiff,Int.reduceAdd,Int.reduceSub,Int.reduceMul,Int.reduceNeg,Int.reduceLT,Int.reduceLE,Int.reduceEq,Int.reduceToNat,Int.cast_ofNat_Int,↓reduceIte]) <;> simp
end Go.Proofs.Ytflekaacffdakaa
namespace Go.Proofs.Ytflekaacffdakaa
open Go Go.AM Go.Proofs
/-- a sum -/
def is (m : Nat) (f : Nat → Int) : Int := ((List.range m).map f).sum
theorem is_0 {f : Nat → Int} : is 0 f = 0 := by simp [is]
theorem is_succ {m : Nat} {f : Nat → Int} : is (m + 1) f = is m f + f m := by
  unfold is; rw [List.range_succ, List.map_append, List.sum_append]; simp
theorem is_congr {m : Nat} {f g : Nat → Int} (h : ∀ k, k < m → f k = g k) : is m f = is m g := by
  induction m with
  | zero => rfl
  | succ m ih => rw [is_succ, is_succ, ih fun k hk => h k (by omega), h m (by omega)]
theorem is_le {m : Nat} {f g : Nat → Int} (h : ∀ k, k < m → f k ≤ g k) : is m f ≤ is m g := by
  induction m with
  | zero => rw [is_0, is_0]; exact Int.le_refl _
  | succ m ih =>
    have := ih fun k hk => h k (by omega)
    have := h m (by omega)
    rw [is_succ, is_succ]; omega
theorem is_zero {m : Nat} {f : Nat → Int} (h : ∀ k, k < m → 0 ≤ f k) : is m f = 0 ↔ ∀ k, k < m → f k = 0 := by
  induction m with
  | zero => simp [is_0]
  | succ m ih =>
    have h1 := ih fun k hk => h k (by omega)
    have h2 := h m (by omega)
    have h3 : 0 ≤ is m f := by
      have := is_le (m := m) (f := fun _ => 0) (g := f) fun k hk => h k (by omega)
      have e : is m (fun _ => 0) = 0 := by
        clear this h1 h2 ih h
        induction m with
        | zero => rfl
        | succ m ih => rw [is_succ, ih]; rfl
      omega
    rw [is_succ]
    constructor
    · intro e k hk
      by_cases hkm : k = m
      · subst hkm; omega
      · exact h1.1 (by omega) k (by omega)
    · intro hh
      have := h1.2 fun k hk => hh k (by omega)
      have := hh m (by omega)
      omega
theorem is_add {m : Nat} {f g : Nat → Int} : is m (fun k => f k + g k) = is m f + is m g := by
  induction m with
  | zero => rfl
  | succ m ih => rw [is_succ, is_succ, is_succ, ih]; omega
theorem is_swap {m n : Nat} {f : Nat → Nat → Int} : is m (fun i => is n (f i)) = is n (fun j => is m fun i => f i j) := by
  induction m with
  | zero =>
    simp only [is_0]
    induction n with
    | zero => rfl
    | succ n ih => rw [is_succ, ← ih]; rfl
  | succ m ih =>
    rw [is_succ, ih]
    simp only [is_succ, is_add]
theorem is_mul {m : Nat} {f : Nat → Int} {c : Int} : is m (fun k => f k * c) = is m f * c := by
  induction m with
  | zero => simp [is_0]
  | succ m ih => rw [is_succ, is_succ, ih, Int.add_mul]
theorem is_const {m : Nat} {c : Int} : is m (fun _ => c) = m * c := by
  induction m with
  | zero => simp [is_0]
  | succ m ih => rw [is_succ, ih]; push_cast; rw [Int.add_mul]; omega
theorem chi_row {n r D : Int} {x w q : Nat → Int} {m : Nat} (hn : 0 < n) (hr : 0 < r) (hD0 : 0 ≤ D) (hD : ∀ k, k < m → D = r * w k * n * q k) (hw : ∀ k, k < m → 0 < w k) (hx : ∀ k, k < m → 0 ≤ x k ∧ x k ≤ w k)
    (sx : is m x = r) (sw : is m w = n) : is m (fun k => q k * ((x k * n - r * w k) * (x k * n - r * w k))) ≤ (n - r) * D := by
  have key : ∀ k, k ≤ m → n * is k (fun k => q k * ((x k * n - r * w k) * (x k * n - r * w k))) = n * n * is k (fun k => n * q k * (x k * x k)) - 2 * n * D * is k x + r * D * is k w := by
    intro k
    induction k with
    | zero => intro _; simp [is_0]
    | succ k ih =>
      intro hk
      have h1 := ih (by omega)
      have h2 := hD k (by omega)
      rw [is_succ, is_succ, is_succ, is_succ, Int.mul_add, h1]
      generalize is k (fun k => n * q k * (x k * x k)) = A
      generalize is k x = X
      generalize is k w = W
      generalize q k = qk at *
      generalize x k = xk at *
      generalize w k = wk at *
      clear h1 ih hD0
      have e : n * (qk * ((xk * n - r * wk) * (xk * n - r * wk))) = n * n * (n * qk * (xk * xk)) - 2 * n * D * xk + r * D * wk := by
        rw [h2]; grind
      rw [e]; grind
  have bound : ∀ k, k ≤ m → r * is k (fun k => n * q k * (x k * x k)) ≤ D * is k x := by
    intro k
    induction k with
    | zero => intro _; simp [is_0]
    | succ k ih =>
      intro hk
      have h1 := ih (by omega)
      have h2 := hD k (by omega)
      have h3 := hw k (by omega)
      have h4 := hx k (by omega)
      rw [is_succ, is_succ, Int.mul_add, Int.mul_add]
      have h5 : r * (n * q k * (x k * x k)) ≤ D * x k := by
        apply Int.le_of_mul_le_mul_right _ h3
        have e1 : r * (n * q k * (x k * x k)) * w k = D * x k * x k := by
          rw [h2]; grind
        rw [e1]
        exact Int.mul_le_mul_of_nonneg_left h4.2 (Int.mul_nonneg hD0 h4.1)
      omega
  have k1 := key m (Nat.le_refl _)
  have k2 := bound m (Nat.le_refl _)
  rw [sx, sw] at k1
  rw [sx] at k2
  generalize is m (fun k => q k * ((x k * n - r * w k) * (x k * n - r * w k))) = S at k1 ⊢
  generalize is m (fun k => n * q k * (x k * x k)) = A at k1 k2
  have hA : A ≤ D := by
    apply Int.le_of_mul_le_mul_left _ hr
    rw [Int.mul_comm r D]; exact k2
  apply Int.le_of_mul_le_mul_left _ hn
  rw [k1]
  have h9 : n * n * A ≤ n * n * D := Int.mul_le_mul_of_nonneg_left hA (Int.mul_nonneg (by omega) (by omega))
  have e : n * ((n - r) * D) = n * n * D - 2 * n * D * r + r * D * n := by grind
  rw [e]; omega
theorem rowOff_is {t : List (List Int)} {i j : Nat} : (rowOff t i j : Int) = is j fun j => ((qN t i j * sqN t i j : Nat) : Int) := by
  induction j with
  | zero => rfl
  | succ j ih => rw [rowOff_succ, is_succ, ← ih]; push_cast; rfl
theorem offP_is {t : List (List Int)} {i : Nat} : (offP t i : Int) = is i fun i => is (gi t 0).length fun j => ((qN t i j * sqN t i j : Nat) : Int) := by
  induction i with
  | zero => rfl
  | succ i ih => rw [offP_succ, is_succ, ← ih, ← rowOff_is]; push_cast; rfl
theorem sum_is : ∀ {xs : List Int} {m : Nat}, m ≤ xs.length → (xs.take m).sum = is m fun k => gi xs (k : Int)
  | xs, 0, _ => by simp [is_0]
  | xs, m + 1, h => by rw [sum_take (by omega), is_succ, sum_is (by omega)]
theorem Full.cell {t : List (List Int)} (h : Full t) {i j : Nat} (hi : i < t.length) (hj : j < (gi t 0).length) :
    (allN t : Int) = rN t i * cN t j * nN t * qN t i j ∧ ((qN t i j * sqN t i j : Nat) : Int) = qN t i j * ((gi (gi t (i : Int)) (j : Int) * nN t - rN t i * cN t j) * (gi (gi t (i : Int)) (j : Int) * nN t - rN t i * cN t j)) ∧ 0 ≤ gi (gi t (i : Int)) (j : Int) ∧ gi (gi t (i : Int)) (j : Int) ≤ rN t i ∧ gi (gi t (i : Int)) (j : Int) ≤ cN t j := by
  have hn := h.nums hi hj
  have hd := h.dd hi hj
  have he := h.1.entry hi hj
  refine ⟨?_, ?_, he.1, ?_, ?_⟩
  · conv => lhs; rw [(h.dvd hi hj).1]
    unfold eN; push_cast; rfl
  · rw [Int.natCast_mul, hd.2.2.2.2.1]
    unfold Go.Proofs.Ytflekaacffdakaa.dd; push_cast; rfl
  · rw [← hn.1, rowSums_at hi]
    exact le_sum (fun y hy => ((h.1.2.2.1 _ (mem_gi hi)).2.2.2 y hy).1) (mem_gi (by rw [h.1.width hi]; exact hj))
  · rw [← hn.2.1, colSums_at hj]
    have key : ∀ m, m ≤ t.length → i < m → gi (gi t (i : Int)) (j : Int) ≤ colPart t m j := by
      intro m
      induction m with
      | zero => omega
      | succ m ih =>
        intro hm him
        rw [colPart_succ (by omega)]
        have e := h.1.entry (show m < t.length by omega) hj
        by_cases hh : i = m
        · subst hh
          have := (h.1.colPart (i := i) hj).1
          omega
        · have := ih (by omega) (by omega)
          omega
    exact key t.length (Nat.le_refl _) hi
theorem cols_sum {t : List (List Int)} (h : TabOk t) : is (gi t 0).length (fun j => colPart t t.length j) = (rowSums t).sum := by
  have key : ∀ m, m ≤ t.length → is (gi t 0).length (fun j => colPart t m j) = ((rowSums t).take m).sum := by
    intro m
    induction m with
    | zero =>
      intro _
      simp only [colPart_0]
      rw [is_const]; simp
    | succ m ih =>
      intro hm
      rw [sum_take (by rw [rowSums_len]; omega), ← ih (by omega), rowSums_at (by omega)]
      rw [is_congr fun k hk => colPart_succ (t := t) (i := m) (j := k) (by omega), is_add]
      congr 1
      rw [← sum_is (by rw [h.width (by omega)]; exact Nat.le_refl _), List.take_of_length_le (by rw [h.width (by omega)]; exact Nat.le_refl _)]
  have := key t.length (Nat.le_refl _)
  rwa [List.take_of_length_le (by rw [rowSums_len]; exact Nat.le_refl _)] at this
/-- at most the sum of all times one less than the rows, or than the columns -/
theorem off_le {t : List (List Int)} (h : Full t) : (offP t t.length : Int) ≤ nN t * (min (t.length : Int) (gi t 0).length - 1) * allN t := by
  have hT := h.1
  have hl := hT.1
  have hc := hT.cols
  have n0 := h.nums (i := 0) (j := 0) (by omega) (by omega)
  have hall := h.all
  have sr : is t.length (fun i => (rN t i : Int)) = nN t := by
    rw [← n0.2.2.2.2.2.2.2.2]
    have := sum_is (xs := rowSums t) (m := t.length) (by rw [rowSums_len]; exact Nat.le_refl _)
    rw [List.take_of_length_le (by rw [rowSums_len]; exact Nat.le_refl _)] at this
    rw [this]
    exact is_congr fun k hk => (h.nums (j := 0) hk (by omega)).1.symm
  have sc : is (gi t 0).length (fun j => (cN t j : Int)) = nN t := by
    rw [← n0.2.2.2.2.2.2.2.2, ← cols_sum hT]
    refine is_congr fun k hk => ?_
    rw [← colSums_at hk]
    exact (h.nums (i := 0) (by omega) hk).2.1.symm
  have rows : (offP t t.length : Int) ≤ nN t * ((t.length : Int) - 1) * allN t := by
    rw [offP_is]
    refine Int.le_trans (is_le (g := fun i => ((nN t : Int) - rN t i) * allN t) fun i hi => ?_) ?_
    · rw [is_congr fun j hj => (h.cell hi hj).2.1]
      refine chi_row (x := fun j => gi (gi t (i : Int)) (j : Int)) (w := fun j => (cN t j : Int)) (q := fun j => (qN t i j : Int)) (by omega) (by have := h.nums (j := 0) hi (by omega); omega) (by omega) (fun j hj => (h.cell hi hj).1) (fun j hj => by have := h.nums hi hj; omega) (fun j hj => ⟨(h.cell hi hj).2.2.1, (h.cell hi hj).2.2.2.2⟩) ?_ sc
      have hw := hT.width hi
      rw [← (h.nums (j := 0) hi (by omega)).1, rowSums_at hi]
      have := sum_is (xs := gi t (i : Int)) (m := (gi t 0).length) (by omega)
      rwa [List.take_of_length_le (by omega), eq_comm] at this
    · rw [is_mul]
      have e : is t.length (fun i => (nN t : Int) - rN t i) = nN t * ((t.length : Int) - 1) := by
        have : is t.length (fun i => ((nN t : Int) - rN t i) + rN t i) = is t.length fun _ => (nN t : Int) := is_congr fun k _ => by omega
        rw [is_add, sr, is_const] at this
        rw [Int.mul_sub, Int.mul_comm (nN t : Int) t.length]; omega
      rw [e]; exact Int.le_refl _
  have cols : (offP t t.length : Int) ≤ nN t * (((gi t 0).length : Int) - 1) * allN t := by
    rw [offP_is, is_swap]
    refine Int.le_trans (is_le (g := fun j => ((nN t : Int) - cN t j) * allN t) fun j hj => ?_) ?_
    · rw [is_congr fun i hi => (h.cell hi hj).2.1]
      have e : ∀ i, i < t.length → (qN t i j : Int) * ((gi (gi t (i : Int)) (j : Int) * nN t - rN t i * cN t j) * (gi (gi t (i : Int)) (j : Int) * nN t - rN t i * cN t j)) = qN t i j * ((gi (gi t (i : Int)) (j : Int) * nN t - cN t j * rN t i) * (gi (gi t (i : Int)) (j : Int) * nN t - cN t j * rN t i)) := fun i _ => by rw [Int.mul_comm (rN t i : Int)]
      rw [is_congr e]
      refine chi_row (x := fun i => gi (gi t (i : Int)) (j : Int)) (w := fun i => (rN t i : Int)) (q := fun i => (qN t i j : Int)) (by omega) (by have := h.nums (i := 0) (by omega) hj; omega) (by omega) (fun i hi => by rw [(h.cell hi hj).1, Int.mul_comm (rN t i : Int)]) (fun i hi => by have := h.nums hi hj; omega) (fun i hi => ⟨(h.cell hi hj).2.2.1, (h.cell hi hj).2.2.2.1⟩) ?_ sr
      rw [← (h.nums (i := 0) (by omega) hj).2.1, colSums_at hj]
      have key : ∀ m, m ≤ t.length → is m (fun i => gi (gi t (i : Int)) (j : Int)) = colPart t m j := by
        intro m
        induction m with
        | zero => intro _; rw [is_0, colPart_0]
        | succ m ih => intro hm; rw [is_succ, ih (by omega), colPart_succ (by omega)]
      exact key _ (Nat.le_refl _)
    · rw [is_mul]
      have e : is (gi t 0).length (fun j => (nN t : Int) - cN t j) = nN t * (((gi t 0).length : Int) - 1) := by
        have : is (gi t 0).length (fun j => ((nN t : Int) - cN t j) + cN t j) = is (gi t 0).length fun _ => (nN t : Int) := is_congr fun k _ => by omega
        rw [is_add, sc, is_const] at this
        rw [Int.mul_sub, Int.mul_comm (nN t : Int) (gi t 0).length]; omega
      rw [e]; exact Int.le_refl _
  rcases Int.le_total (t.length : Int) (gi t 0).length with hh | hh
  · rw [show min (t.length : Int) (gi t 0).length = t.length by omega]; exact rows
  · rw [show min (t.length : Int) (gi t 0).length = (gi t 0).length by omega]; exact cols
/-- whether each number is what is due -/
def dueP (t : List (List Int)) : Prop := ∀ i, i < t.length → ∀ j, j < (gi t 0).length → gi (gi t (i : Int)) (j : Int) * nN t = rN t i * cN t j
instance (t : List (List Int)) : Decidable (dueP t) := by unfold dueP; infer_instance
theorem off_zero {t : List (List Int)} (h : Full t) : offP t t.length = 0 ↔ dueP t := by
  have e : offP t t.length = 0 ↔ (offP t t.length : Int) = 0 := by omega
  have hsq : ∀ i, i < t.length → ∀ j, j < (gi t 0).length → (((qN t i j * sqN t i j : Nat) : Int) = 0 ↔ gi (gi t (i : Int)) (j : Int) * nN t = rN t i * cN t j) := fun i hi j hj => by
    have hd := h.dvd hi hj
    have hall := h.all
    have hq : 1 ≤ qN t i j := by
      rcases Nat.eq_zero_or_pos (qN t i j) with h0 | h0
      · rw [h0] at hd; omega
      · exact h0
    rw [(h.cell hi hj).2.1]
    constructor
    · intro hz
      rcases Int.mul_eq_zero.1 hz with hz | hz
      · omega
      · rcases Int.mul_eq_zero.1 hz with hz | hz <;> omega
    · intro hz
      rw [hz]; simp
  rw [e, offP_is, is_zero fun i hi => ?_]
  · constructor
    · intro hh i hi j hj
      have := hh i hi
      rw [is_zero fun j _ => by omega] at this
      exact (hsq i hi j hj).1 (this j hj)
    · intro hh i hi
      rw [is_zero fun j _ => by omega]
      exact fun j hj => (hsq i hi j hj).2 (hh i hi j hj)
  · have := is_le (m := (gi t 0).length) (f := fun _ => 0) (g := fun j => ((qN t i j * sqN t i j : Nat) : Int)) fun j _ => by omega
    rw [is_const] at this
    omega
end Go.Proofs.Ytflekaacffdakaa
namespace Go.Proofs.Ytflekaacffdakaa
open Go Go.AM Go.Proofs
def findI (x : Int) : List Int → Nat → Int
  | [], _ => -1
  | y :: ys, i => if x = y then i else findI x ys (i + 1)
theorem findI_ge {x : Int} : ∀ {xs : List Int} {i : Nat}, 0 ≤ findI x xs i ↔ x ∈ xs
  | [], i => by simp [findI]
  | y :: ys, i => by
    unfold findI
    by_cases h : x = y
    · simp [h]
    · rw [if_neg h, findI_ge]; simp [h]
theorem sindex_ret {p : Nat → Prop} {H : Heap} {v : AV} {xs : List Int} {x : Int} (hx : Sl p H v xs) : RetP E 78 [v, .i x] H (.i (findI x xs 0)) := by
  refine RetP.ro rfl fn78 rfl rfl ?_
  unfold f78A
  have hb := hx.bound
  obtain ⟨r, er⟩ : ∃ r, findI x xs 0 = r := ⟨_, rfl⟩
  rw [er]
  simp (disch := (first | assumption | omega | (simp only [List.length_append, List.length_cons, List.length_nil]; omega))) only [↓wD,wU,Nat.reduceBEq,zx150,zx151,zx159,zx160,zx161,zx162,Nat.reduceAdd,Nat.reduceSub,Nat.reduceMul,Nat.reduceLeDiff,Nat.reduceLT,Nat.reduceEqDiff,Int.reduceAdd,Int.reduceSub,Int.reduceMul,Int.reduceNeg,Int.reduceLT,Int.reduceLE,Int.reduceEq,Int.reduceToNat,Int.cast_ofNat_Int,↓reduceIte, *, hx.I]
  refine Wp.for xs.length (fun i a H' => H' = H ∧ a 0 = v ∧ a 1 = .i x ∧ a 7 = .i xs.length ∧ a 8 = .i i ∧ findI x (xs.drop i) i = r) ?_ ?_
  · clear er
    rintro i a H' hi ⟨rfl, h0, h1, h7, h8, hh⟩ ih
    simp (disch := (first | assumption | omega | (simp only [List.length_append, List.length_cons, List.length_nil]; omega))) only [↓wD,wU,Nat.reduceBEq,zx150,zx151,zx159,zx160,zx161,zx162,Nat.reduceAdd,Nat.reduceSub,Nat.reduceMul,Nat.reduceLeDiff,Nat.reduceLT,Nat.reduceEqDiff,Int.reduceAdd,Int.reduceSub,Int.reduceMul,Int.reduceNeg,Int.reduceLT,Int.reduceLE,Int.reduceEq,Int.reduceToNat,Int.cast_ofNat_Int,↓reduceIte, *]
    refine condP_split (fun hlt => ?_) (fun hlt => ?_)
    · have hi' : i < xs.length := by omega
      have e : xs.drop i = gi xs (i : Int) :: xs.drop (i + 1) := by rw [gi_nat hi']; exact List.drop_eq_getElem_cons hi'
      rw [e, findI] at hh
      clear e
      simp (disch := (first | assumption | omega | (simp only [List.length_append, List.length_cons, List.length_nil]; omega))) only [↓wD,wU,Nat.reduceBEq,zx150,zx151,zx159,zx160,zx161,zx162,Nat.reduceAdd,Nat.reduceSub,Nat.reduceMul,Nat.reduceLeDiff,Nat.reduceLT,Nat.reduceEqDiff,Int.reduceAdd,Int.reduceSub,Int.reduceMul,Int.reduceNeg,Int.reduceLT,Int.reduceLE,Int.reduceEq,Int.reduceToNat,Int.cast_ofNat_Int,↓reduceIte, h0, h1, h7, h8, hx.I]
      refine condP_split (fun he => ?_) (fun he => ?_)
      · rw [if_pos he] at hh
        simp (disch := (first | assumption | omega | (simp only [List.length_append, List.length_cons, List.length_nil]; omega))) only [↓wD,wU,Nat.reduceBEq,zx150,zx151,zx159,zx160,zx161,zx162,Nat.reduceAdd,Nat.reduceSub,Nat.reduceMul,Nat.reduceLeDiff,Nat.reduceLT,Nat.reduceEqDiff,Int.reduceAdd,Int.reduceSub,Int.reduceMul,Int.reduceNeg,Int.reduceLT,Int.reduceLE,Int.reduceEq,Int.reduceToNat,Int.cast_ofNat_Int,↓reduceIte, h0, h1, h7, h8, hx.I]
        rw [hh]
      · rw [if_neg he] at hh
        simp (disch := (first | assumption | omega | (simp only [List.length_append, List.length_cons, List.length_nil]; omega))) only [↓wD,wU,Nat.reduceBEq,zx150,zx151,zx159,zx160,zx161,zx162,Nat.reduceAdd,Nat.reduceSub,Nat.reduceMul,Nat.reduceLeDiff,Nat.reduceLT,Nat.reduceEqDiff,Int.reduceAdd,Int.reduceSub,Int.reduceMul,Int.reduceNeg,Int.reduceLT,Int.reduceLE,Int.reduceEq,Int.reduceToNat,Int.cast_ofNat_Int,↓reduceIte, h0, h1, h7, h8, hx.I]
        refine (ih hi').go ⟨rfl, ?_⟩
        simp (disch := (first | assumption | omega | (simp only [List.length_append, List.length_cons, List.length_nil]; omega))) only [↓wD,wU,Nat.reduceBEq,zx150,zx151,zx159,zx160,zx161,zx162,Nat.reduceAdd,Nat.reduceSub,Nat.reduceMul,Nat.reduceLeDiff,Nat.reduceLT,Nat.reduceEqDiff,Int.reduceAdd,Int.reduceSub,Int.reduceMul,Int.reduceNeg,Int.reduceLT,Int.reduceLE,Int.reduceEq,Int.reduceToNat,Int.cast_ofNat_Int,↓reduceIte, h0, h1, h7, h8, hx.I]
        exact hh
    · rw [List.drop_of_length_le (by omega), findI] at hh
      subst hh
      simp (disch := (first | assumption | omega | (simp only [List.length_append, List.length_cons, List.length_nil]; omega))) only [↓wD,wU,Nat.reduceBEq,zx150,zx151,zx159,zx160,zx161,zx162,Nat.reduceAdd,Nat.reduceSub,Nat.reduceMul,Nat.reduceLeDiff,Nat.reduceLT,Nat.reduceEqDiff,Int.reduceAdd,Int.reduceSub,Int.reduceMul,Int.reduceNeg,Int.reduceLT,Int.reduceLE,Int.reduceEq,Int.reduceToNat,Int.cast_ofNat_Int,↓reduceIte, *]
  · simp (disch := (first | assumption | omega | (simp only [List.length_append, List.length_cons, List.length_nil]; omega))) only [↓wD,wU,Nat.reduceBEq,zx150,zx151,zx159,zx160,zx161,zx162,Nat.reduceAdd,Nat.reduceSub,Nat.reduceMul,Nat.reduceLeDiff,Nat.reduceLT,Nat.reduceEqDiff,Int.reduceAdd,Int.reduceSub,Int.reduceMul,Int.reduceNeg,Int.reduceLT,Int.reduceLE,Int.reduceEq,Int.reduceToNat,Int.cast_ofNat_Int,↓reduceIte, *]
theorem contains_ret {p : Nat → Prop} {H : Heap} {v : AV} {xs : List Int} {x : Int} (hx : Sl p H v xs) : RetP E 37 [v, .i x] H (.b (decide (x ∈ xs))) := by
  refine RetP.ro rfl fn37 rfl rfl ?_
  unfold f37A
  have hg := findI_ge (x := x) (xs := xs) (i := 0)
  by_cases h : x ∈ xs
  · have h1 := hg.2 h
    simp (disch := (first | assumption | omega | (simp only [List.length_append, List.length_cons, List.length_nil]; omega))) only [↓wD,wU,Nat.reduceBEq,zx150,zx151,zx159,zx160,zx161,zx162,Nat.reduceAdd,Nat.reduceSub,Nat.reduceMul,Nat.reduceLeDiff,Nat.reduceLT,Nat.reduceEqDiff,Int.reduceAdd,Int.reduceSub,Int.reduceMul,Int.reduceNeg,Int.reduceLT,Int.reduceLE,Int.reduceEq,Int.reduceToNat,Int.cast_ofNat_Int,↓reduceIte, *, (sindex_ret hx).call]
  · have h1 : ¬ 0 ≤ findI x xs 0 := fun hh => h (hg.1 hh)
    clear hg
    simp (disch := (first | assumption | omega | (simp only [List.length_append, List.length_cons, List.length_nil]; omega))) only [↓wD,wU,Nat.reduceBEq,zx150,zx151,zx159,zx160,zx161,zx162,Nat.reduceAdd,Nat.reduceSub,Nat.reduceMul,Nat.reduceLeDiff,Nat.reduceLT,Nat.reduceEqDiff,Int.reduceAdd,Int.reduceSub,Int.reduceMul,Int.reduceNeg,Int.reduceLT,Int.reduceLE,Int.reduceEq,Int.reduceToNat,Int.cast_ofNat_Int,↓reduceIte, *, (sindex_ret hx).call]
end Go.Proofs.Ytflekaacffdakaa
namespace Go.Proofs.Ytflekaacffdakaa
open Go Go.AM Go.Proofs
def dueE (t : List (List Int)) (i j : Nat) : Prop := gi (gi t (i : Int)) (j : Int) * nN t = rN t i * cN t j
/-- what is known behind some rows, and some numbers of the next one -/
def DueSt (t : List (List Int)) (i j : Nat) (b : Bool) : Prop := b = true ↔ (∀ i', i' < i → ∀ j', j' < (gi t 0).length → dueE t i' j') ∧ ∀ j', j' < j → dueE t i j'
theorem DueSt.go {t : List (List Int)} {i j : Nat} {b : Bool} (h : DueSt t i j b) {c : Bool} (hc : c = true ↔ b = true ∧ dueE t i j) : DueSt t i (j + 1) c := by
  unfold DueSt at h ⊢
  rw [hc, h]
  constructor
  · rintro ⟨⟨h1, h2⟩, h3⟩
    exact ⟨h1, fun j' hj => by by_cases e : j' = j; exact e ▸ h3; exact h2 j' (by omega)⟩
  · rintro ⟨h1, h2⟩
    exact ⟨⟨h1, fun j' hj => h2 j' (by omega)⟩, h2 j (by omega)⟩
theorem DueSt.row {t : List (List Int)} {i : Nat} {b : Bool} (h : DueSt t i (gi t 0).length b) : DueSt t (i + 1) 0 b := by
  unfold DueSt at h ⊢
  rw [h]
  constructor
  · rintro ⟨h1, h2⟩
    exact ⟨fun i' hi => by by_cases e : i' = i; exact e ▸ h2; exact h1 i' (by omega), fun j' hj => by omega⟩
  · rintro ⟨h1, _⟩
    exact ⟨fun i' hi => h1 i' (by omega), h1 i (by omega)⟩
theorem Walk.CountsDue (H : Heap) (u : AV) (t : List (List Int)) (ht : Sl (fun b => b < H.length) H u t) (sz : t.length * 24 ≤ 140737488351232) : WpF E H.length 8 [u] H fun v _ => v = .b true := by
  refine law_of (RetP.ro rfl fn8 rfl rfl ?_)
  unfold f8A
  simp (disch := (first | assumption | omega | (simp only [List.length_append, List.length_cons, List.length_nil]; omega))) only [↓wD,wU,Nat.reduceBEq,zx150,zx151,zx159,zx160,zx161,zx162,Nat.reduceAdd,Nat.reduceSub,Nat.reduceMul,Nat.reduceLeDiff,Nat.reduceLT,Nat.reduceEqDiff,Int.reduceAdd,Int.reduceSub,Int.reduceMul,Int.reduceNeg,Int.reduceLT,Int.reduceLE,Int.reduceEq,Int.reduceToNat,Int.cast_ofNat_Int,↓reduceIte]
  refine (table_ret ht).toX fun y H1 x1 hy => ?_
  have ht1 := ht.kp (x1.all _).kp
  have l1 := x1.1
  by_cases h : TabOk t
  · have hyt : Sl (fun b => False ∨ H.length ≤ b) H1 y t := by have := rvs hy; rwa [cutT_ok h] at this
    have hl1 := h.1
    have hl3 := h.2.1
    have hc := h.cols
    have hn16 : (0 : Int) ≤ nN t ∧ (nN t : Int) ≤ 16 := by have := total_le h; unfold nN; omega
    have en : (rowSums t).sum = nN t := by
      have := sum_nonneg (rowSums_ge h)
      unfold nN; omega
    obtain ⟨x, yy, e, ho, hres⟩ : ∃ x yy e : Int, RetP E 35 [y] H1 (.tp [.ag [.i x, .i yy], .i e]) ∧ ((Full t ∧ x = (fracN (offP t t.length) (allN t)).1 ∧ yy = (fracN (offP t t.length) (allN t)).2 ∧ e = 0) ∨ (¬ Full t ∧ e = 5)) := by
      by_cases hf : Full t
      · exact ⟨_, _, _, off_ret hyt hf, .inl ⟨hf, rfl, rfl, rfl⟩⟩
      · exact ⟨_, _, _, off_state hyt h hf, .inr ⟨hf, rfl⟩⟩
    have ht2 := ht1.app [.cells [.i x, .i yy]]
    have rt := rtable_ret ht2 sz
    rw [decide_eq_true h] at rt
    simp (disch := (first | assumption | omega | (simp only [List.length_append, List.length_cons, List.length_nil]; omega))) only [↓wD,wU,Nat.reduceBEq,zx150,zx151,zx159,zx160,zx161,zx162,Nat.reduceAdd,Nat.reduceSub,Nat.reduceMul,Nat.reduceLeDiff,Nat.reduceLT,Nat.reduceEqDiff,Int.reduceAdd,Int.reduceSub,Int.reduceMul,Int.reduceNeg,Int.reduceLT,Int.reduceLE,Int.reduceEq,Int.reduceToNat,Int.cast_ofNat_Int,↓reduceIte, ho.call, rt.call]
    refine (rsums_ret ht2 h).toX fun w H2 x2 hw => ?_
    obtain ⟨v1, v2, rfl, h1, h2⟩ := rv2 hw
    have c2 : H2[H1.length]? = some (.cells [.i x, .i yy]) := x2.get trivial get_last
    have ht3 := ht2.kp (x2.all _).kp
    have s1 := rvs h1
    have s2 := rvs h2
    have s1I := s1.I
    rw [rowSums_len] at s1I
    have s2I := s2.I
    rw [colSums_len] at s2I
    clear h1 h2 hw rt ho x2 ht2 ht1 hyt hy
    simp (disch := (first | assumption | omega | (simp only [List.length_append, List.length_cons, List.length_nil]; omega))) only [↓wD,wU,Nat.reduceBEq,zx150,zx151,zx159,zx160,zx161,zx162,Nat.reduceAdd,Nat.reduceSub,Nat.reduceMul,Nat.reduceLeDiff,Nat.reduceLT,Nat.reduceEqDiff,Int.reduceAdd,Int.reduceSub,Int.reduceMul,Int.reduceNeg,Int.reduceLT,Int.reduceLE,Int.reduceEq,Int.reduceToNat,Int.cast_ofNat_Int,↓reduceIte, s1I]
    refine Wp.for t.length (fun i a H' => H' = H2 ∧ a 0 = u ∧ a 3 = .p H1.length 0 ∧ a 4 = .i e ∧ a 5 = v1 ∧ a 6 = v2 ∧ a 34 = v1 ∧ a 35 = .i t.length ∧ a 36 = .i i ∧ a 7 = .i ((rowSums t).take i).sum ∧ 0 ≤ ((rowSums t).take i).sum ∧ ((rowSums t).take i).sum ≤ 16 * i) ?_ ?_
    · rintro i a H' hi ⟨rfl, a0, a3, a4, a5, a6, a34, a35, a36, a7, b1, b2⟩ ih
      simp (disch := (first | assumption | omega | (simp only [List.length_append, List.length_cons, List.length_nil]; omega))) only [↓wD,wU,Nat.reduceBEq,zx150,zx151,zx159,zx160,zx161,zx162,Nat.reduceAdd,Nat.reduceSub,Nat.reduceMul,Nat.reduceLeDiff,Nat.reduceLT,Nat.reduceEqDiff,Int.reduceAdd,Int.reduceSub,Int.reduceMul,Int.reduceNeg,Int.reduceLT,Int.reduceLE,Int.reduceEq,Int.reduceToNat,Int.cast_ofNat_Int,↓reduceIte, a0, a3, a4, a5, a6, a34, a35, a36, a7]
      refine condP_split (fun hlt => ?_) (fun hlt => ?_)
      · have hi' : i < t.length := by omega
        have hr := rowSums_le h _ (mem_gi (xs := rowSums t) (i := i) (by rw [rowSums_len]; exact hi'))
        have e := sum_take (xs := rowSums t) (i := i) (by rw [rowSums_len]; exact hi')
        simp (disch := (first | assumption | omega | (simp only [List.length_append, List.length_cons, List.length_nil]; omega))) only [↓wD,wU,Nat.reduceBEq,zx150,zx151,zx159,zx160,zx161,zx162,Nat.reduceAdd,Nat.reduceSub,Nat.reduceMul,Nat.reduceLeDiff,Nat.reduceLT,Nat.reduceEqDiff,Int.reduceAdd,Int.reduceSub,Int.reduceMul,Int.reduceNeg,Int.reduceLT,Int.reduceLE,Int.reduceEq,Int.reduceToNat,Int.cast_ofNat_Int,↓reduceIte, a0, a3, a4, a5, a6, a34, a35, a36, a7, s1I]
        refine (ih hi').go ⟨rfl, ?_⟩
        simp (disch := (first | assumption | omega | (simp only [List.length_append, List.length_cons, List.length_nil]; omega))) only [↓wD,wU,Nat.reduceBEq,zx150,zx151,zx159,zx160,zx161,zx162,Nat.reduceAdd,Nat.reduceSub,Nat.reduceMul,Nat.reduceLeDiff,Nat.reduceLT,Nat.reduceEqDiff,Int.reduceAdd,Int.reduceSub,Int.reduceMul,Int.reduceNeg,Int.reduceLT,Int.reduceLE,Int.reduceEq,Int.reduceToNat,Int.cast_ofNat_Int,↓reduceIte, a0, a3, a4, a5, a6, a34, a35, a36, a7, e]
        omega
      · obtain rfl : i = t.length := by omega
        rw [List.take_of_length_le (by rw [rowSums_len]; exact Nat.le_refl _), en] at a7
        clear b1 b2 ih
        rcases hres with ⟨hF, rfl, rfl, rfl⟩ | ⟨hF, rfl⟩
        · have k1 := contains_ret (x := 0) s1
          rw [decide_eq_false hF.2.1] at k1
          have k2 := contains_ret (x := 0) s2
          rw [decide_eq_false hF.2.2] at k2
          have n0 := hF.nums (i := 0) (j := 0) (by omega) (by omega)
          have hn1 : (1 : Int) ≤ nN t := by omega
          obtain ⟨pp, qq, g, efr, hg, em, eD, hq⟩ := fracN_parts (m := offP t t.length) (n := allN t) (by have := hF.all; omega)
          have hall := hF.all
          have hle := off_le hF
          have hz := off_zero hF
          have hp2 := hF.part2 (i := t.length) (Nat.le_refl _)
          have q1 : qq ≤ 268435456 := Nat.le_trans (Nat.le_mul_of_pos_left _ hg) (by omega)
          have p1 : pp ≤ 160000000000000 := Nat.le_trans (Nat.le_mul_of_pos_left _ hg) (by omega)
          have mm := Int.min_le_left (t.length : Int) (gi t 0).length
          obtain ⟨mn, emn⟩ : ∃ mn : Int, min (t.length : Int) (gi t 0).length = mn := ⟨_, rfl⟩
          have mn1 : 1 ≤ mn ∧ mn ≤ 3 := by omega
          rw [emn] at hle
          have pz : (pp = 0) ↔ dueP t := by
            rw [← hz, em]
            constructor
            · rintro rfl; simp
            · intro hh
              rcases Nat.mul_eq_zero.1 hh with hh | hh
              · omega
              · exact hh
          have ple : (pp : Int) ≤ nN t * (mn - 1) * qq := by
            rw [em, eD] at hle
            push_cast at hle
            apply Int.le_of_mul_le_mul_left _ (show (0 : Int) < g by omega)
            have : (nN t : Int) * (mn - 1) * (g * qq) = g * (nN t * (mn - 1) * qq) := by grind
            omega
          have m1 := mul_small (x := (nN t : Int)) (y := mn - 1) (m := 16) (n := 2) hn16.1 hn16.2 (by omega) (by omega) (by omega)
          have m2 := mul_small (x := (nN t : Int) * (mn - 1)) (y := (qq : Int)) (m := 32) (n := 268435456) (by omega) (by omega) (by omega) (by omega) (by omega)
          rw [efr] at c2
          simp only at c2
          clear mm hz hle efr em eD hp2
          have ht3L := ht3.L
          simp (disch := (first | assumption | omega | (simp only [List.length_append, List.length_cons, List.length_nil]; omega))) only [↓wD,wU,Nat.reduceBEq,zx150,zx151,zx159,zx160,zx161,zx162,Nat.reduceAdd,Nat.reduceSub,Nat.reduceMul,Nat.reduceLeDiff,Nat.reduceLT,Nat.reduceEqDiff,Int.reduceAdd,Int.reduceSub,Int.reduceMul,Int.reduceNeg,Int.reduceLT,Int.reduceLE,Int.reduceEq,Int.reduceToNat,Int.cast_ofNat_Int,↓reduceIte, a0, a3, a4, a5, a6, a7, k1.call, k2.call, ht3L]
          refine Wp.for t.length (fun i a Hq => ∃ b, Hq = H' ∧ a 0 = u ∧ a 3 = .p H1.length 0 ∧ a 4 = .i 0 ∧ a 5 = v1 ∧ a 6 = v2 ∧ a 7 = .i (nN t) ∧ a 10 = .b b ∧ a 55 = u ∧ a 56 = .i t.length ∧ a 57 = .i i ∧ DueSt t i 0 b) ?_ ?_
          · clear a0 a3 a4 a5 a6 a34 a35 a36 a7
            rintro i a H9 hi ⟨b, rfl, a0, a3, a4, a5, a6, a7, a10, a55, a56, a57, hd⟩ ih
            simp (disch := (first | assumption | omega | (simp only [List.length_append, List.length_cons, List.length_nil]; omega))) only [↓wD,wU,Nat.reduceBEq,zx150,zx151,zx159,zx160,zx161,zx162,Nat.reduceAdd,Nat.reduceSub,Nat.reduceMul,Nat.reduceLeDiff,Nat.reduceLT,Nat.reduceEqDiff,Int.reduceAdd,Int.reduceSub,Int.reduceMul,Int.reduceNeg,Int.reduceLT,Int.reduceLE,Int.reduceEq,Int.reduceToNat,Int.cast_ofNat_Int,↓reduceIte, a0, a3, a4, a5, a6, a7, a10, a55, a56, a57]
            refine condP_split (fun hlt => ?_) (fun hlt => ?_)
            · have hi' : i < t.length := by omega
              have g := ht3.get (k := (i : Int)) (by omega) (by omega)
              have gw := h.width hi'
              have gI := g.I
              rw [gw] at gI
              simp (disch := (first | assumption | omega | (simp only [List.length_append, List.length_cons, List.length_nil]; omega))) only [↓wD,wU,Nat.reduceBEq,zx150,zx151,zx159,zx160,zx161,zx162,Nat.reduceAdd,Nat.reduceSub,Nat.reduceMul,Nat.reduceLeDiff,Nat.reduceLT,Nat.reduceEqDiff,Int.reduceAdd,Int.reduceSub,Int.reduceMul,Int.reduceNeg,Int.reduceLT,Int.reduceLE,Int.reduceEq,Int.reduceToNat,Int.cast_ofNat_Int,↓reduceIte, a0, a3, a4, a5, a6, a7, a10, a55, a56, a57, ht3L, gI]
              refine Wp.for (gi t 0).length (fun j a H' => ∃ b, H' = H9 ∧ a 0 = u ∧ a 3 = .p H1.length 0 ∧ a 4 = .i 0 ∧ a 5 = v1 ∧ a 6 = v2 ∧ a 7 = .i (nN t) ∧ a 10 = .b b ∧ a 55 = u ∧ a 56 = .i t.length ∧ a 57 = .i i ∧ a 11 = .i i ∧ a 62 = u.get H9 i ∧ a 63 = .i (gi t 0).length ∧ a 64 = .i j ∧ DueSt t i j b) ?_ ?_
              · clear a0 a3 a4 a5 a6 a7 a10 a55 a56 a57 hd b
                rintro j a H8 hj ⟨b, rfl, a0, a3, a4, a5, a6, a7, a10, a55, a56, a57, a11, a62, a63, a64, hd⟩ ih2
                simp (disch := (first | assumption | omega | (simp only [List.length_append, List.length_cons, List.length_nil]; omega))) only [↓wD,wU,Nat.reduceBEq,zx150,zx151,zx159,zx160,zx161,zx162,Nat.reduceAdd,Nat.reduceSub,Nat.reduceMul,Nat.reduceLeDiff,Nat.reduceLT,Nat.reduceEqDiff,Int.reduceAdd,Int.reduceSub,Int.reduceMul,Int.reduceNeg,Int.reduceLT,Int.reduceLE,Int.reduceEq,Int.reduceToNat,Int.cast_ofNat_Int,↓reduceIte, a0, a3, a4, a5, a6, a7, a10, a55, a56, a57, a11, a62, a63, a64]
                refine condP_split (fun hlt2 => ?_) (fun hlt2 => ?_)
                · have hj' : j < (gi t 0).length := by omega
                  cases b with
                  | false =>
                    have hd2 := hd.go (c := false) (by simp)
                    simp (disch := (first | assumption | omega | (simp only [List.length_append, List.length_cons, List.length_nil]; omega))) only [↓wD,wU,Nat.reduceBEq,zx150,zx151,zx159,zx160,zx161,zx162,Nat.reduceAdd,Nat.reduceSub,Nat.reduceMul,Nat.reduceLeDiff,Nat.reduceLT,Nat.reduceEqDiff,Int.reduceAdd,Int.reduceSub,Int.reduceMul,Int.reduceNeg,Int.reduceLT,Int.reduceLE,Int.reduceEq,Int.reduceToNat,Int.cast_ofNat_Int,↓reduceIte, a0, a3, a4, a5, a6, a7, a10, a55, a56, a57, a11, a62, a63, a64, gI]
                    refine (ih2 hj').go ⟨false, rfl, ?_⟩
                    simp (disch := (first | assumption | omega | (simp only [List.length_append, List.length_cons, List.length_nil]; omega))) only [↓wD,wU,Nat.reduceBEq,zx150,zx151,zx159,zx160,zx161,zx162,Nat.reduceAdd,Nat.reduceSub,Nat.reduceMul,Nat.reduceLeDiff,Nat.reduceLT,Nat.reduceEqDiff,Int.reduceAdd,Int.reduceSub,Int.reduceMul,Int.reduceNeg,Int.reduceLT,Int.reduceLE,Int.reduceEq,Int.reduceToNat,Int.cast_ofNat_Int,↓reduceIte, a0, a3, a4, a5, a6, a7, a10, a55, a56, a57, a11, a62, a63, a64]
                    exact hd2
                  | true =>
                    obtain ⟨nr, nc, r1, r16, c1', c16, n1, n16, _⟩ := hF.nums hi' hj'
                    obtain ⟨d1, d2, e1, e2, _, _⟩ := hF.dd hi' hj'
                    have rc := mul_small (x := (rN t i : Int)) (y := (cN t j : Int)) (m := 16) (n := 16) (by omega) (by omega) (by omega) (by omega) (by omega)
                    have hd2 := hd.go (c := decide (gi (gi t (i : Int)) (j : Int) * nN t = rN t i * cN t j)) (by unfold dueE; simp)
                    simp (disch := (first | assumption | omega | (simp only [List.length_append, List.length_cons, List.length_nil]; omega))) only [↓wD,wU,Nat.reduceBEq,zx150,zx151,zx159,zx160,zx161,zx162,Nat.reduceAdd,Nat.reduceSub,Nat.reduceMul,Nat.reduceLeDiff,Nat.reduceLT,Nat.reduceEqDiff,Int.reduceAdd,Int.reduceSub,Int.reduceMul,Int.reduceNeg,Int.reduceLT,Int.reduceLE,Int.reduceEq,Int.reduceToNat,Int.cast_ofNat_Int,↓reduceIte, a0, a3, a4, a5, a6, a7, a10, a55, a56, a57, a11, a62, a63, a64, gI, s1I, s2I, nr, nc]
                    refine (ih2 hj').go ⟨decide (gi (gi t (i : Int)) (j : Int) * nN t = rN t i * cN t j), rfl, ?_⟩
                    simp (disch := (first | assumption | omega | (simp only [List.length_append, List.length_cons, List.length_nil]; omega))) only [↓wD,wU,Nat.reduceBEq,zx150,zx151,zx159,zx160,zx161,zx162,Nat.reduceAdd,Nat.reduceSub,Nat.reduceMul,Nat.reduceLeDiff,Nat.reduceLT,Nat.reduceEqDiff,Int.reduceAdd,Int.reduceSub,Int.reduceMul,Int.reduceNeg,Int.reduceLT,Int.reduceLE,Int.reduceEq,Int.reduceToNat,Int.cast_ofNat_Int,↓reduceIte, a0, a3, a4, a5, a6, a7, a55, a56, a57, a11, a62, a63, a64]
                    exact hd2
                · obtain rfl : j = (gi t 0).length := by omega
                  have hd2 := hd.row
                  simp (disch := (first | assumption | omega | (simp only [List.length_append, List.length_cons, List.length_nil]; omega))) only [↓wD,wU,Nat.reduceBEq,zx150,zx151,zx159,zx160,zx161,zx162,Nat.reduceAdd,Nat.reduceSub,Nat.reduceMul,Nat.reduceLeDiff,Nat.reduceLT,Nat.reduceEqDiff,Int.reduceAdd,Int.reduceSub,Int.reduceMul,Int.reduceNeg,Int.reduceLT,Int.reduceLE,Int.reduceEq,Int.reduceToNat,Int.cast_ofNat_Int,↓reduceIte, a0, a3, a4, a5, a6, a7, a10, a55, a56, a57, a11, a62, a63, a64]
                  refine (ih hi').go ⟨b, rfl, ?_⟩
                  simp (disch := (first | assumption | omega | (simp only [List.length_append, List.length_cons, List.length_nil]; omega))) only [↓wD,wU,Nat.reduceBEq,zx150,zx151,zx159,zx160,zx161,zx162,Nat.reduceAdd,Nat.reduceSub,Nat.reduceMul,Nat.reduceLeDiff,Nat.reduceLT,Nat.reduceEqDiff,Int.reduceAdd,Int.reduceSub,Int.reduceMul,Int.reduceNeg,Int.reduceLT,Int.reduceLE,Int.reduceEq,Int.reduceToNat,Int.cast_ofNat_Int,↓reduceIte, a0, a3, a4, a5, a6, a7, a10, a55, a56, a57]
                  exact hd2
              · simp (disch := (first | assumption | omega | (simp only [List.length_append, List.length_cons, List.length_nil]; omega))) only [↓wD,wU,Nat.reduceBEq,zx150,zx151,zx159,zx160,zx161,zx162,Nat.reduceAdd,Nat.reduceSub,Nat.reduceMul,Nat.reduceLeDiff,Nat.reduceLT,Nat.reduceEqDiff,Int.reduceAdd,Int.reduceSub,Int.reduceMul,Int.reduceNeg,Int.reduceLT,Int.reduceLE,Int.reduceEq,Int.reduceToNat,Int.cast_ofNat_Int,↓reduceIte, a0, a3, a4, a5, a6, a7, a10, a55, a56, a57]
                exact ⟨b, rfl, hd⟩
            · obtain rfl : i = t.length := by omega
              have hb : decide ((pp : Int) = 0) = b := by
                have hd' : b = true ↔ dueP t := by
                  unfold DueSt at hd
                  rw [hd]
                  exact ⟨fun h => h.1, fun h => ⟨h, fun j' hj => by omega⟩⟩
                cases b with
                | true => exact decide_eq_true (by have := pz.2 (hd'.1 rfl); omega)
                | false => exact decide_eq_false fun hh => by have := hd'.2 (pz.1 (by omega)); cases this
              have hbb : decide (b = b) = true := decide_eq_true rfl
              simp (disch := (first | assumption | omega | (simp only [List.length_append, List.length_cons, List.length_nil]; omega))) only [↓wD,wU,Nat.reduceBEq,zx150,zx151,zx159,zx160,zx161,zx162,Nat.reduceAdd,Nat.reduceSub,Nat.reduceMul,Nat.reduceLeDiff,Nat.reduceLT,Nat.reduceEqDiff,Int.reduceAdd,Int.reduceSub,Int.reduceMul,Int.reduceNeg,Int.reduceLT,Int.reduceLE,Int.reduceEq,Int.reduceToNat,Int.cast_ofNat_Int,↓reduceIte, a0, a3, a4, a5, a6, a7, a10, a55, a56, a57, ld_of c2, hb, s1I, s2I, emn, hbb, zx170 ple, awake_ret.call]
          · simp (disch := (first | assumption | omega | (simp only [List.length_append, List.length_cons, List.length_nil]; omega))) only [↓wD,wU,Nat.reduceBEq,zx150,zx151,zx159,zx160,zx161,zx162,Nat.reduceAdd,Nat.reduceSub,Nat.reduceMul,Nat.reduceLeDiff,Nat.reduceLT,Nat.reduceEqDiff,Int.reduceAdd,Int.reduceSub,Int.reduceMul,Int.reduceNeg,Int.reduceLT,Int.reduceLE,Int.reduceEq,Int.reduceToNat,Int.cast_ofNat_Int,↓reduceIte, a0, a3, a4, a5, a6, a7]
            exact ⟨true, rfl, by unfold DueSt; simp⟩
        · have k1 := contains_ret (x := 0) s1
          have k2 := contains_ret (x := 0) s2
          by_cases z1 : (0 : Int) ∈ rowSums t
          · rw [decide_eq_true z1] at k1
            clear hF z1
            simp (disch := (first | assumption | omega | (simp only [List.length_append, List.length_cons, List.length_nil]; omega))) only [↓wD,wU,Nat.reduceBEq,zx150,zx151,zx159,zx160,zx161,zx162,Nat.reduceAdd,Nat.reduceSub,Nat.reduceMul,Nat.reduceLeDiff,Nat.reduceLT,Nat.reduceEqDiff,Int.reduceAdd,Int.reduceSub,Int.reduceMul,Int.reduceNeg,Int.reduceLT,Int.reduceLE,Int.reduceEq,Int.reduceToNat,Int.cast_ofNat_Int,↓reduceIte, a0, a3, a4, a5, a6, a7, k1.call, awake_ret.call]
          · have z2 : (0 : Int) ∈ colSums t := Classical.byContradiction fun z2 => hF ⟨h, z1, z2⟩
            rw [decide_eq_false z1] at k1
            rw [decide_eq_true z2] at k2
            clear hF z1 z2
            simp (disch := (first | assumption | omega | (simp only [List.length_append, List.length_cons, List.length_nil]; omega))) only [↓wD,wU,Nat.reduceBEq,zx150,zx151,zx159,zx160,zx161,zx162,Nat.reduceAdd,Nat.reduceSub,Nat.reduceMul,Nat.reduceLeDiff,Nat.reduceLT,Nat.reduceEqDiff,Int.reduceAdd,Int.reduceSub,Int.reduceMul,Int.reduceNeg,Int.reduceLT,Int.reduceLE,Int.reduceEq,Int.reduceToNat,Int.cast_ofNat_Int,↓reduceIte, a0, a3, a4, a5, a6, a7, k1.call, k2.call, awake_ret.call]
    · (simp (disch := (first | assumption | omega | (simp only [List.length_append, List.length_cons, List.length_nil]; omega))) only [↓wD,wU,Nat.reduceBEq,zx150,zx151,zx159,zx160,zx161,zx162,Nat.reduceAdd,Nat.reduceSub,Nat.reduceMul,Nat.reduceLeDiff,Nat.reduceLT,Nat.reduceEqDiff,Int.reduceAdd,Int.reduceSub,Int.reduceMul,Int.reduceNeg,Int.reduceLT,Int.reduceLE,Int.reduceEq,Int.reduceToNat,Int.cast_ofNat_Int,↓reduceIte]) <;> simp
  · have h' : ¬ TabOk (cutT t) := fun hc => h (TabOk_cut.1 hc)
    have rt := rtable_ret (ht1.app [.cells [.i 0, .i 0]]) sz
    rw [decide_eq_false h] at rt
    simp (disch := (first | assumption | omega | (simp only [List.length_append, List.length_cons, List.length_nil]; omega))) only [↓wD,wU,Nat.reduceBEq,zx150,zx151,zx159,zx160,zx161,zx162,Nat.reduceAdd,Nat.reduceSub,Nat.reduceMul,Nat.reduceLeDiff,Nat.reduceLT,Nat.reduceEqDiff,Int.reduceAdd,Int.reduceSub,Int.reduceMul,Int.reduceNeg,Int.reduceLT,Int.reduceLE,Int.reduceEq,Int.reduceToNat,Int.cast_ofNat_Int,↓reduceIte, (off_err (rvs hy) h').call, rt.call, awake_ret.call]
end Go.Proofs.Ytflekaacffdakaa
