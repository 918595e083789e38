/- What the law needs: what its functions do, and the laws on lists behind it. No condition. -/
import Derived.Test.YtflekaacffdakaaPi
import Derived.Test.YtflekaacffdakaaBo
import Derived.Laws.StructEq
import Derived.KernelRfl
import Derived.WalkKit
import Derived.ProofKit
import Derived.OpenShut
import Derived.ShutString
import Derived.ChangeOld
import Derived.Below
import Derived.SizedLaws
import Derived.Carry
set_option linter.unusedSimpArgs false
set_option linter.unusedVariables false
namespace Go.Proofs.Ytflekaacffdakaa
open Go Go.AM Go.Proofs
theorem clone_ret {p : Nat → Prop} {H : Heap} {v : AV} {xs : List Int} (hx : Sl p H v xs) (hs : xs.length * 8 ≤ 1099511627776) : Ret E 56 [v] (fun _ => False) H xs := by
  refine Ret.ro rfl fn56 rfl ?_
  unfold f56A
  have main : ∀ {Q : AV × Heap → Prop}, (∀ v' H', Sl (fun b => H.length ≤ b) H' v' xs → Q (v', H')) → @optP _ (appendV H.length 1 8 (.s 1 H.length 0 0 (some 0)) v (H ++ [.cells []])) ⟨Q⟩ := fun {Q} go => by
    have ha : Acc H.length (fun _ => True) (H ++ [.cells []]) (.s 1 H.length 0 0 (some 0)) ([] : List Int) := Acc.fresh0 (Nat.le_refl _)
    refine ha.extend (q := fun b => b < H.length) (Nat.le_refl _) (by simp) ((hx.low.app [.cells []]).weak fun b h => h.2) (fun b hb => ⟨trivial, ?_⟩) (by simpa using hs) (by omega) fun v' H' h' _ => go _ _ ?_
    · intro e; simp only [AV.blk, Option.some.injEq] at e; omega
    · rw [List.nil_append] at h'
      rcases h' with h' | ⟨b, o, c, k, e, hb, hk, h1, h2, h3⟩
      · exact .inl h'
      · exact .inr ⟨b, o, c, k, e, hb, hk, h1, h2, h3⟩
  rcases hx with ⟨rfl, rfl⟩ | ⟨b, o, c, k, e, hb, hk, h1, h2, h3⟩
  · simp (disch := (first | assumption | omega | (simp only [List.length_append, List.length_cons, List.length_nil]; omega))) only [↓wD,wU,Nat.reduceBEq,zx150,zx151,zx159,zx160,zx161,zx162,Nat.reduceAdd,Nat.reduceSub,Nat.reduceMul,Nat.reduceLeDiff,Nat.reduceLT,Nat.reduceEqDiff,Int.reduceAdd,Int.reduceSub,Int.reduceMul,Int.reduceNeg,Int.reduceLT,Int.reduceLE,Int.reduceEq,Int.reduceToNat,Int.cast_ofNat_Int,↓reduceIte, *]
    exact Sl.nil
  · subst e
    simp (disch := (first | assumption | omega | (simp only [List.length_append, List.length_cons, List.length_nil]; omega))) only [↓wD,wU,Nat.reduceBEq,zx150,zx151,zx159,zx160,zx161,zx162,Nat.reduceAdd,Nat.reduceSub,Nat.reduceMul,Nat.reduceLeDiff,Nat.reduceLT,Nat.reduceEqDiff,Int.reduceAdd,Int.reduceSub,Int.reduceMul,Int.reduceNeg,Int.reduceLT,Int.reduceLE,Int.reduceEq,Int.reduceToNat,Int.cast_ofNat_Int,↓reduceIte, *]
    refine main fun v' H' h' => ?_
    simp (disch := (first | assumption | omega | (simp only [List.length_append, List.length_cons, List.length_nil]; omega))) only [↓wD,wU,Nat.reduceBEq,zx150,zx151,zx159,zx160,zx161,zx162,Nat.reduceAdd,Nat.reduceSub,Nat.reduceMul,Nat.reduceLeDiff,Nat.reduceLT,Nat.reduceEqDiff,Int.reduceAdd,Int.reduceSub,Int.reduceMul,Int.reduceNeg,Int.reduceLT,Int.reduceLE,Int.reduceEq,Int.reduceToNat,Int.cast_ofNat_Int,↓reduceIte, *]
    exact h'.weak fun _ h => .inr h
end Go.Proofs.Ytflekaacffdakaa
namespace Go.Proofs.Ytflekaacffdakaa
open Go Go.AM Go.Proofs
def OkN (xs : List Int) : Prop := ∀ x ∈ xs, 0 ≤ x ∧ x ≤ 16
instance (xs : List Int) : Decidable (OkN xs) := by unfold OkN; infer_instance
def RowOk (n : Nat) (r : List Int) : Prop := 1 ≤ r.length ∧ r.length ≤ 3 ∧ r.length = n ∧ OkN r
def TabOk (t : List (List Int)) : Prop := 1 ≤ t.length ∧ t.length ≤ 3 ∧ (∀ r ∈ t, RowOk (gi t 0).length r) ∧ (t.map List.sum).sum ≤ 16
instance (n : Nat) (r : List Int) : Decidable (RowOk n r) := by unfold RowOk; infer_instance
instance (t : List (List Int)) : Decidable (TabOk t) := by unfold TabOk; infer_instance
theorem isSums_ret {p : Nat → Prop} {H : Heap} {v : AV} {xs : List Int} (hx : Sl p H v xs) (hl : xs.length ≤ 100) : RetP E 79 [v] H (.b (decide (OkN xs ∧ xs.sum ≤ 16))) := by
  refine RetP.ro rfl fn79 rfl rfl ?_
  unfold f79A
  simp (disch := (first | assumption | omega | (simp only [List.length_append, List.length_cons, List.length_nil]; omega))) only [↓wD,wU,Nat.reduceBEq,zx150,zx151,zx159,zx160,zx161,zx162,Nat.reduceAdd,Nat.reduceSub,Nat.reduceMul,Nat.reduceLeDiff,Nat.reduceLT,Nat.reduceEqDiff,Int.reduceAdd,Int.reduceSub,Int.reduceMul,Int.reduceNeg,Int.reduceLT,Int.reduceLE,Int.reduceEq,Int.reduceToNat,Int.cast_ofNat_Int,↓reduceIte, *, hx.I]
  refine Wp.for xs.length (fun i a H' => H' = H ∧ a 6 = v ∧ a 7 = .i xs.length ∧ a 8 = .i i ∧ a 3 = .i (xs.take i).sum ∧ OkN (xs.take i)) ?_ ?_
  · rintro i a H' hi ⟨rfl, h6, h7, h8, h3, hh⟩ ih
    have hb := sum_bound hh
    have hb2 : (xs.take i).length ≤ 100 := by rw [List.length_take]; omega
    simp (disch := (first | assumption | omega | (simp only [List.length_append, List.length_cons, List.length_nil]; omega))) only [↓wD,wU,Nat.reduceBEq,zx150,zx151,zx159,zx160,zx161,zx162,Nat.reduceAdd,Nat.reduceSub,Nat.reduceMul,Nat.reduceLeDiff,Nat.reduceLT,Nat.reduceEqDiff,Int.reduceAdd,Int.reduceSub,Int.reduceMul,Int.reduceNeg,Int.reduceLT,Int.reduceLE,Int.reduceEq,Int.reduceToNat,Int.cast_ofNat_Int,↓reduceIte, *]
    refine condP_split (fun hlt => ?_) (fun hlt => ?_)
    · have hi' : i < xs.length := by omega
      (repeat' (first | refine condP_split (fun _ => ?_) (fun _ => ?_) | refine guardP_split (fun _ => ?_) (fun _ => ?_) | refine guardP_splitF (fun _ => ?_) (fun _ => ?_) | (simp (disch := (first | assumption | omega | (simp only [List.length_append, List.length_cons, List.length_nil]; omega))) only [↓wD,wU,Nat.reduceBEq,zx150,zx151,zx159,zx160,zx161,zx162,Nat.reduceAdd,Nat.reduceSub,Nat.reduceMul,Nat.reduceLeDiff,Nat.reduceLT,Nat.reduceEqDiff,Int.reduceAdd,Int.reduceSub,Int.reduceMul,Int.reduceNeg,Int.reduceLT,Int.reduceLE,Int.reduceEq,Int.reduceToNat,Int.cast_ofNat_Int,↓reduceIte, *, hx.I]))) <;> first
        | exact avb_f fun h => by have := h.1 _ (mem_gi hi'); omega
        | skip
      refine (ih hi').go ⟨rfl, ?_⟩
      have hg : 0 ≤ gi xs i ∧ gi xs i ≤ 16 := by omega
      rw [sum_take hi']
      simp (disch := (first | assumption | omega | (simp only [List.length_append, List.length_cons, List.length_nil]; omega))) only [↓wD,wU,Nat.reduceBEq,zx150,zx151,zx159,zx160,zx161,zx162,Nat.reduceAdd,Nat.reduceSub,Nat.reduceMul,Nat.reduceLeDiff,Nat.reduceLT,Nat.reduceEqDiff,Int.reduceAdd,Int.reduceSub,Int.reduceMul,Int.reduceNeg,Int.reduceLT,Int.reduceLE,Int.reduceEq,Int.reduceToNat,Int.cast_ofNat_Int,↓reduceIte, *]
      exact mem_take_gi hh hi' hg
    · simp (disch := (first | assumption | omega | (simp only [List.length_append, List.length_cons, List.length_nil]; omega))) only [↓wD,wU,Nat.reduceBEq,zx150,zx151,zx159,zx160,zx161,zx162,Nat.reduceAdd,Nat.reduceSub,Nat.reduceMul,Nat.reduceLeDiff,Nat.reduceLT,Nat.reduceEqDiff,Int.reduceAdd,Int.reduceSub,Int.reduceMul,Int.reduceNeg,Int.reduceLT,Int.reduceLE,Int.reduceEq,Int.reduceToNat,Int.cast_ofNat_Int,↓reduceIte, *]
      have e : xs.take i = xs := List.take_of_length_le (by omega)
      rw [e] at hh ⊢
      simp [hh]
  · (simp (disch := (first | assumption | omega | (simp only [List.length_append, List.length_cons, List.length_nil]; omega))) only [↓wD,wU,Nat.reduceBEq,zx150,zx151,zx159,zx160,zx161,zx162,Nat.reduceAdd,Nat.reduceSub,Nat.reduceMul,Nat.reduceLeDiff,Nat.reduceLT,Nat.reduceEqDiff,Int.reduceAdd,Int.reduceSub,Int.reduceMul,Int.reduceNeg,Int.reduceLT,Int.reduceLE,Int.reduceEq,Int.reduceToNat,Int.cast_ofNat_Int,↓reduceIte, *]) <;> simp [OkN]
theorem sum_nonneg {xs : List Int} (h : ∀ x ∈ xs, 0 ≤ x) : 0 ≤ xs.sum := by
  induction xs with
  | nil => simp
  | cons x xs ih => have := h x (by simp); have := ih fun y hy => h y (by simp [hy]); simp only [List.sum_cons]; omega
theorem le_sum {xs : List Int} (h : ∀ x ∈ xs, 0 ≤ x) {x : Int} (hx : x ∈ xs) : x ≤ xs.sum := by
  induction xs with
  | nil => cases hx
  | cons y xs ih =>
    have h0 := h y (by simp)
    have h1 := sum_nonneg fun z hz => h z (List.mem_cons_of_mem _ hz)
    simp only [List.sum_cons]
    rcases List.mem_cons.1 hx with rfl | hx
    · omega
    · have := ih (fun z hz => h z (List.mem_cons_of_mem _ hz)) hx; omega
theorem row_le_total {t : List (List Int)} (h : TabOk t) {r : List Int} (hr : r ∈ t) : r.sum ≤ 16 := by
  have h1 : ∀ x ∈ t.map List.sum, 0 ≤ x := by
    intro x hx
    obtain ⟨s, hs, rfl⟩ := List.mem_map.1 hx
    exact sum_nonneg fun y hy => ((h.2.2.1 s hs).2.2.2 y hy).1
  have := le_sum h1 (List.mem_map_of_mem hr)
  have := h.2.2.2
  omega
theorem valid_ret {p : Nat → Prop} {H : Heap} {v : AV} {t : List (List Int)} (ht : Sl p H v t) : RetP E 70 [v] H (.b (decide (TabOk t))) := by
  refine RetP.ro rfl fn70 rfl rfl ?_
  unfold f70A
  (repeat' (first | refine condP_split (fun _ => ?_) (fun _ => ?_) | refine guardP_split (fun _ => ?_) (fun _ => ?_) | refine guardP_splitF (fun _ => ?_) (fun _ => ?_) | (simp (disch := (first | assumption | omega | (simp only [List.length_append, List.length_cons, List.length_nil]; omega))) only [↓wD,wU,Nat.reduceBEq,zx150,zx151,zx159,zx160,zx161,zx162,Nat.reduceAdd,Nat.reduceSub,Nat.reduceMul,Nat.reduceLeDiff,Nat.reduceLT,Nat.reduceEqDiff,Int.reduceAdd,Int.reduceSub,Int.reduceMul,Int.reduceNeg,Int.reduceLT,Int.reduceLE,Int.reduceEq,Int.reduceToNat,Int.cast_ofNat_Int,↓reduceIte, *, ht.L]))) <;> first
    | exact avb_f fun h => by have := h.1; have := h.2.1; omega
    | skip
  refine Wp.for t.length (fun i a H' => H' = H ∧ a 0 = v ∧ a 16 = v ∧ a 17 = .i t.length ∧ a 18 = .i i ∧ a 3 = .i ((t.take i).map List.sum).sum ∧ (∀ r ∈ t.take i, RowOk (gi t 0).length r) ∧ 0 ≤ ((t.take i).map List.sum).sum ∧ ((t.take i).map List.sum).sum ≤ i * 48) ?_ ?_
  · rintro i a H' hi ⟨rfl, h0, h16, h17, h18, h3, hh, hp, hq⟩ ih
    simp (disch := (first | assumption | omega | (simp only [List.length_append, List.length_cons, List.length_nil]; omega))) only [↓wD,wU,Nat.reduceBEq,zx150,zx151,zx159,zx160,zx161,zx162,Nat.reduceAdd,Nat.reduceSub,Nat.reduceMul,Nat.reduceLeDiff,Nat.reduceLT,Nat.reduceEqDiff,Int.reduceAdd,Int.reduceSub,Int.reduceMul,Int.reduceNeg,Int.reduceLT,Int.reduceLE,Int.reduceEq,Int.reduceToNat,Int.cast_ofNat_Int,↓reduceIte, *]
    refine condP_split (fun hlt => ?_) (fun hlt => ?_)
    · have hi' : i < t.length := by omega
      have g := ht.get (k := (i : Int)) (by omega) (by omega)
      have g0 := ht.get (k := (0 : Int)) (by omega) (by omega)
      by_cases hr : RowOk (gi t 0).length (gi t i)
      · obtain ⟨hr1, hr2, hr3, hr4⟩ := hr
        have hgb := sum_bound hr4
        (repeat' (first | refine condP_split (fun _ => ?_) (fun _ => ?_) | refine guardP_split (fun _ => ?_) (fun _ => ?_) | refine guardP_splitF (fun _ => ?_) (fun _ => ?_) | (simp (disch := (first | assumption | omega | (simp only [List.length_append, List.length_cons, List.length_nil]; omega))) only [↓wD,wU,Nat.reduceBEq,zx150,zx151,zx159,zx160,zx161,zx162,Nat.reduceAdd,Nat.reduceSub,Nat.reduceMul,Nat.reduceLeDiff,Nat.reduceLT,Nat.reduceEqDiff,Int.reduceAdd,Int.reduceSub,Int.reduceMul,Int.reduceNeg,Int.reduceLT,Int.reduceLE,Int.reduceEq,Int.reduceToNat,Int.cast_ofNat_Int,↓reduceIte, *, ht.L, g.I, g0.I, (isSums_ret g (by omega)).call])))
        · exact avb_f fun h => by have := row_le_total h (mem_gi hi'); simp_all
        refine Wp.for (gi t i).length (fun j a H'' => H'' = H' ∧ a 0 = v ∧ a 16 = v ∧ a 17 = .i t.length ∧ a 18 = .i i ∧ a 44 = v.get H' i ∧ a 45 = .i (gi t i).length ∧ a 46 = .i j ∧ a 3 = .i (((t.take i).map List.sum).sum + ((gi t i).take j).sum)) ?_ ?_
        · clear h0 h16 h17 h18 h3
          rintro j a H' hj ⟨rfl, h0, h16, h17, h18, h44, h45, h46, h3⟩ ih2
          have hb1 : OkN ((gi t i).take j) := fun x hx => hr4 x (List.mem_of_mem_take hx)
          have hb2 := sum_bound hb1
          have hb3 : ((gi t i).take j).length ≤ 3 := by rw [List.length_take]; omega
          simp (disch := (first | assumption | omega | (simp only [List.length_append, List.length_cons, List.length_nil]; omega))) only [↓wD,wU,Nat.reduceBEq,zx150,zx151,zx159,zx160,zx161,zx162,Nat.reduceAdd,Nat.reduceSub,Nat.reduceMul,Nat.reduceLeDiff,Nat.reduceLT,Nat.reduceEqDiff,Int.reduceAdd,Int.reduceSub,Int.reduceMul,Int.reduceNeg,Int.reduceLT,Int.reduceLE,Int.reduceEq,Int.reduceToNat,Int.cast_ofNat_Int,↓reduceIte, *]
          refine condP_split (fun hlt => ?_) (fun hlt => ?_)
          · have hj' : j < (gi t i).length := by omega
            have hg := hr4 _ (mem_gi hj')
            simp (disch := (first | assumption | omega | (simp only [List.length_append, List.length_cons, List.length_nil]; omega))) only [↓wD,wU,Nat.reduceBEq,zx150,zx151,zx159,zx160,zx161,zx162,Nat.reduceAdd,Nat.reduceSub,Nat.reduceMul,Nat.reduceLeDiff,Nat.reduceLT,Nat.reduceEqDiff,Int.reduceAdd,Int.reduceSub,Int.reduceMul,Int.reduceNeg,Int.reduceLT,Int.reduceLE,Int.reduceEq,Int.reduceToNat,Int.cast_ofNat_Int,↓reduceIte, *, g.I]
            refine (ih2 hj').go ⟨rfl, ?_⟩
            rw [sum_take hj']
            simp (disch := (first | assumption | omega | (simp only [List.length_append, List.length_cons, List.length_nil]; omega))) only [↓wD,wU,Nat.reduceBEq,zx150,zx151,zx159,zx160,zx161,zx162,Nat.reduceAdd,Nat.reduceSub,Nat.reduceMul,Nat.reduceLeDiff,Nat.reduceLT,Nat.reduceEqDiff,Int.reduceAdd,Int.reduceSub,Int.reduceMul,Int.reduceNeg,Int.reduceLT,Int.reduceLE,Int.reduceEq,Int.reduceToNat,Int.cast_ofNat_Int,↓reduceIte, *]
            rw [Int.add_assoc]
          · simp (disch := (first | assumption | omega | (simp only [List.length_append, List.length_cons, List.length_nil]; omega))) only [↓wD,wU,Nat.reduceBEq,zx150,zx151,zx159,zx160,zx161,zx162,Nat.reduceAdd,Nat.reduceSub,Nat.reduceMul,Nat.reduceLeDiff,Nat.reduceLT,Nat.reduceEqDiff,Int.reduceAdd,Int.reduceSub,Int.reduceMul,Int.reduceNeg,Int.reduceLT,Int.reduceLE,Int.reduceEq,Int.reduceToNat,Int.cast_ofNat_Int,↓reduceIte, *]
            have e : ((gi t i).take j).sum = (gi t i).sum := sum_take_all (by omega)
            refine (ih hi').go ⟨rfl, ?_⟩
            have e2 : ((t.take (i + 1)).map List.sum).sum = ((t.take i).map List.sum).sum + (gi t i).sum := by rw [take_gi hi', List.map_append, List.sum_append]; simp
            rw [e2, ← e]
            simp (disch := (first | assumption | omega | (simp only [List.length_append, List.length_cons, List.length_nil]; omega))) only [↓wD,wU,Nat.reduceBEq,zx150,zx151,zx159,zx160,zx161,zx162,Nat.reduceAdd,Nat.reduceSub,Nat.reduceMul,Nat.reduceLeDiff,Nat.reduceLT,Nat.reduceEqDiff,Int.reduceAdd,Int.reduceSub,Int.reduceMul,Int.reduceNeg,Int.reduceLT,Int.reduceLE,Int.reduceEq,Int.reduceToNat,Int.cast_ofNat_Int,↓reduceIte, *]
            exact ⟨mem_take_gi hh hi' ⟨hr1, hr2, hr3, hr4⟩, by omega, by omega⟩
        · (simp (disch := (first | assumption | omega | (simp only [List.length_append, List.length_cons, List.length_nil]; omega))) only [↓wD,wU,Nat.reduceBEq,zx150,zx151,zx159,zx160,zx161,zx162,Nat.reduceAdd,Nat.reduceSub,Nat.reduceMul,Nat.reduceLeDiff,Nat.reduceLT,Nat.reduceEqDiff,Int.reduceAdd,Int.reduceSub,Int.reduceMul,Int.reduceNeg,Int.reduceLT,Int.reduceLE,Int.reduceEq,Int.reduceToNat,Int.cast_ofNat_Int,↓reduceIte, *]) <;> simp
      · have hr' : ¬ TabOk t := fun h => hr (h.2.2.1 _ (mem_gi hi'))
        (repeat' (first | refine condP_split (fun _ => ?_) (fun _ => ?_) | refine guardP_split (fun _ => ?_) (fun _ => ?_) | refine guardP_splitF (fun _ => ?_) (fun _ => ?_) | (simp (disch := (first | assumption | omega | (simp only [List.length_append, List.length_cons, List.length_nil]; omega))) only [↓wD,wU,Nat.reduceBEq,zx150,zx151,zx159,zx160,zx161,zx162,Nat.reduceAdd,Nat.reduceSub,Nat.reduceMul,Nat.reduceLeDiff,Nat.reduceLT,Nat.reduceEqDiff,Int.reduceAdd,Int.reduceSub,Int.reduceMul,Int.reduceNeg,Int.reduceLT,Int.reduceLE,Int.reduceEq,Int.reduceToNat,Int.cast_ofNat_Int,↓reduceIte, *, ht.L, g.I, g0.I]))) <;> first
          | exact avb_f hr'
          | skip
        (repeat' (first | refine condP_split (fun _ => ?_) (fun _ => ?_) | refine guardP_split (fun _ => ?_) (fun _ => ?_) | refine guardP_splitF (fun _ => ?_) (fun _ => ?_) | (simp (disch := (first | assumption | omega | (simp only [List.length_append, List.length_cons, List.length_nil]; omega))) only [↓wD,wU,Nat.reduceBEq,zx150,zx151,zx159,zx160,zx161,zx162,Nat.reduceAdd,Nat.reduceSub,Nat.reduceMul,Nat.reduceLeDiff,Nat.reduceLT,Nat.reduceEqDiff,Int.reduceAdd,Int.reduceSub,Int.reduceMul,Int.reduceNeg,Int.reduceLT,Int.reduceLE,Int.reduceEq,Int.reduceToNat,Int.cast_ofNat_Int,↓reduceIte, *, (isSums_ret g (by omega)).call]))) <;> first
          | exact avb_f hr'
          | skip
        rename_i q
        exact absurd ⟨by omega, by omega, by omega, (Decidable.not_not.1 q).1⟩ hr
    · simp (disch := (first | assumption | omega | (simp only [List.length_append, List.length_cons, List.length_nil]; omega))) only [↓wD,wU,Nat.reduceBEq,zx150,zx151,zx159,zx160,zx161,zx162,Nat.reduceAdd,Nat.reduceSub,Nat.reduceMul,Nat.reduceLeDiff,Nat.reduceLT,Nat.reduceEqDiff,Int.reduceAdd,Int.reduceSub,Int.reduceMul,Int.reduceNeg,Int.reduceLT,Int.reduceLE,Int.reduceEq,Int.reduceToNat,Int.cast_ofNat_Int,↓reduceIte, *]
      have e : t.take i = t := List.take_of_length_le (by omega)
      rw [e] at hh ⊢
      congr 1
      exact decide_eq_decide.2 ⟨fun h => ⟨by omega, by omega, hh, h⟩, fun h => h.2.2.2⟩
  · (simp (disch := (first | assumption | omega | (simp only [List.length_append, List.length_cons, List.length_nil]; omega))) only [↓wD,wU,Nat.reduceBEq,zx150,zx151,zx159,zx160,zx161,zx162,Nat.reduceAdd,Nat.reduceSub,Nat.reduceMul,Nat.reduceLeDiff,Nat.reduceLT,Nat.reduceEqDiff,Int.reduceAdd,Int.reduceSub,Int.reduceMul,Int.reduceNeg,Int.reduceLT,Int.reduceLE,Int.reduceEq,Int.reduceToNat,Int.cast_ofNat_Int,↓reduceIte, *]) <;> simp
end Go.Proofs.Ytflekaacffdakaa
namespace Go.Proofs.Ytflekaacffdakaa
open Go Go.AM Go.Proofs
theorem gi_map_range {α : Type} [Inhabited α] {n j : Nat} {f : Nat → α} (h : j < n) : gi ((List.range n).map f) (j : Int) = f j := by
  rw [gi_nat (by simpa using h)]; simp
theorem set_map_range {α : Type} {n j : Nat} {f : Nat → α} {y : α} : ((List.range n).map f).set j y = (List.range n).map fun c => if c = j then y else f c := by
  apply List.ext_getElem (by simp)
  intro i h1 h2
  simp only [List.getElem_set, List.getElem_map, List.getElem_range]
  by_cases h : j = i
  · subst h; simp
  · rw [if_neg h, if_neg (fun e => h e.symm)]
theorem map_range_congr {α : Type} {n : Nat} {f g : Nat → α} (h : ∀ c, c < n → f c = g c) : (List.range n).map f = (List.range n).map g :=
  List.map_congr_left fun c hc => h c (List.mem_range.1 hc)
theorem TabOk.entry {t : List (List Int)} (h : TabOk t) {i j : Nat} (hi : i < t.length) (hj : j < (gi t 0).length) : 0 ≤ gi (gi t i) j ∧ gi (gi t i) j ≤ 16 := by
  have h1 := h.2.2.1 _ (mem_gi hi)
  exact h1.2.2.2 _ (mem_gi (by rw [h1.2.2.1]; exact hj))
theorem TabOk.width {t : List (List Int)} (h : TabOk t) {i : Nat} (hi : i < t.length) : (gi t i).length = (gi t 0).length := (h.2.2.1 _ (mem_gi hi)).2.2.1
theorem TabOk.cols {t : List (List Int)} (h : TabOk t) : 1 ≤ (gi t 0).length ∧ (gi t 0).length ≤ 3 := by
  have h1 := h.2.2.1 _ (mem_gi (i := 0) h.1)
  exact ⟨h1.1, h1.2.1⟩
end Go.Proofs.Ytflekaacffdakaa
namespace Go.Proofs.Ytflekaacffdakaa
open Go Go.AM Go.Proofs
theorem list_ret {p : Nat → Prop} {H : Heap} {v : AV} {xs : List Int} (hx : Sl p H v xs) : Ret E 39 [v] (fun _ => False) H (xs.take 6) := by
  refine Ret.ro rfl fn39 rfl ?_
  unfold f39A
  have hb := hx.bound
  have hs : slV 1 v none (some (.i (min (xs.length : Int) 6))) none = some (v.cut 0 (min xs.length 6)) := by
    refine hx.slV_lh none _ (b := min xs.length 6) ?_ (bound_none (by omega)) (by omega) (by omega)
    rw [bound_some (by omega) (by omega)]
    congr 1
    omega
  simp (disch := (first | assumption | omega | (simp only [List.length_append, List.length_cons, List.length_nil]; omega))) only [↓wD,wU,Nat.reduceBEq,zx150,zx151,zx159,zx160,zx161,zx162,Nat.reduceAdd,Nat.reduceSub,Nat.reduceMul,Nat.reduceLeDiff,Nat.reduceLT,Nat.reduceEqDiff,Int.reduceAdd,Int.reduceSub,Int.reduceMul,Int.reduceNeg,Int.reduceLT,Int.reduceLE,Int.reduceEq,Int.reduceToNat,Int.cast_ofNat_Int,↓reduceIte, *, hx.I, hs]
  have hc := hx.cut (a := 0) (b := min xs.length 6) (by omega) (by omega)
  have e : (xs.drop 0).take (min xs.length 6 - 0) = xs.take 6 := by
    rw [List.drop_zero, Nat.sub_zero]
    by_cases hl : xs.length ≤ 6
    · rw [List.take_of_length_le (by omega), List.take_of_length_le hl]
    · congr 1; omega
  rw [e] at hc
  refine (clone_ret hc (by rw [List.length_take]; omega)).go fun u N hu => ?_
  simp (disch := (first | assumption | omega | (simp only [List.length_append, List.length_cons, List.length_nil]; omega))) only [↓wD,wU,Nat.reduceBEq,zx150,zx151,zx159,zx160,zx161,zx162,Nat.reduceAdd,Nat.reduceSub,Nat.reduceMul,Nat.reduceLeDiff,Nat.reduceLT,Nat.reduceEqDiff,Int.reduceAdd,Int.reduceSub,Int.reduceMul,Int.reduceNeg,Int.reduceLT,Int.reduceLE,Int.reduceEq,Int.reduceToNat,Int.cast_ofNat_Int,↓reduceIte]
  exact hu
def cutT (t : List (List Int)) : List (List Int) := (t.take 6).map fun r => r.take 6
theorem table_ret {p : Nat → Prop} {H : Heap} {v : AV} {t : List (List Int)} (ht : Sl p H v t) : Ret E 20 [v] (fun _ => False) H (cutT t) := by
  refine Ret.ro rfl fn20 rfl ?_
  unfold f20A
  have hb := ht.bound
  simp (disch := (first | assumption | omega | (simp only [List.length_append, List.length_cons, List.length_nil]; omega))) only [↓wD,wU,Nat.reduceBEq,zx150,zx151,zx159,zx160,zx161,zx162,Nat.reduceAdd,Nat.reduceSub,Nat.reduceMul,Nat.reduceLeDiff,Nat.reduceLT,Nat.reduceEqDiff,Int.reduceAdd,Int.reduceSub,Int.reduceMul,Int.reduceNeg,Int.reduceLT,Int.reduceLE,Int.reduceEq,Int.reduceToNat,Int.cast_ofNat_Int,↓reduceIte, *, ht.L]
  replace ht : Sl (fun b => b < H.length) H v t := ht.low.weak fun _ h => h.2
  refine Wp.for t.length (fun i a H' => ∃ u, a 6 = v ∧ a 7 = .i t.length ∧ a 8 = .i i ∧ a 3 = u ∧ Gr H H' ∧ Acc H.length (fun b => H.length ≤ b) H' u (((t.take i).take 6).map fun r => r.take 6)) ?_ ?_
  · rintro i a H1 hi ⟨u, h6, h7, h8, h3, hg, hu⟩ ih
    simp (disch := (first | assumption | omega | (simp only [List.length_append, List.length_cons, List.length_nil]; omega))) only [↓wD,wU,Nat.reduceBEq,zx150,zx151,zx159,zx160,zx161,zx162,Nat.reduceAdd,Nat.reduceSub,Nat.reduceMul,Nat.reduceLeDiff,Nat.reduceLT,Nat.reduceEqDiff,Int.reduceAdd,Int.reduceSub,Int.reduceMul,Int.reduceNeg,Int.reduceLT,Int.reduceLE,Int.reduceEq,Int.reduceToNat,Int.cast_ofNat_Int,↓reduceIte, *]
    refine condP_split (fun hlt => ?_) (fun hlt => ?_)
    · have hi' : i < t.length := by omega
      have ht1 := ht.gr hg
      have g := ht1.get (k := (i : Int)) (by omega) (by omega)
      simp (disch := (first | assumption | omega | (simp only [List.length_append, List.length_cons, List.length_nil]; omega))) only [↓wD,wU,Nat.reduceBEq,zx150,zx151,zx159,zx160,zx161,zx162,Nat.reduceAdd,Nat.reduceSub,Nat.reduceMul,Nat.reduceLeDiff,Nat.reduceLT,Nat.reduceEqDiff,Int.reduceAdd,Int.reduceSub,Int.reduceMul,Int.reduceNeg,Int.reduceLT,Int.reduceLE,Int.reduceEq,Int.reduceToNat,Int.cast_ofNat_Int,↓reduceIte, *, ht1.L]
      refine condP_split (fun h6 => ?_) (fun h6 => ?_)
      · simp (disch := (first | assumption | omega | (simp only [List.length_append, List.length_cons, List.length_nil]; omega))) only [↓wD,wU,Nat.reduceBEq,zx150,zx151,zx159,zx160,zx161,zx162,Nat.reduceAdd,Nat.reduceSub,Nat.reduceMul,Nat.reduceLeDiff,Nat.reduceLT,Nat.reduceEqDiff,Int.reduceAdd,Int.reduceSub,Int.reduceMul,Int.reduceNeg,Int.reduceLT,Int.reduceLE,Int.reduceEq,Int.reduceToNat,Int.cast_ofNat_Int,↓reduceIte, *]
        refine (list_ret g).toF fun y H2 hg2 hy => ?_
        have hl2 := hg2.1
        simp (disch := (first | assumption | omega | (simp only [List.length_append, List.length_cons, List.length_nil]; omega))) only [↓wD,wU,Nat.reduceBEq,zx150,zx151,zx159,zx160,zx161,zx162,Nat.reduceAdd,Nat.reduceSub,Nat.reduceMul,Nat.reduceLeDiff,Nat.reduceLT,Nat.reduceEqDiff,Int.reduceAdd,Int.reduceSub,Int.reduceMul,Int.reduceNeg,Int.reduceLT,Int.reduceLE,Int.reduceEq,Int.reduceToNat,Int.cast_ofNat_Int,↓reduceIte, *, hy.cellsV]
        refine (hu.gr hg2).pushL (Nat.le_refl _) (by have := hg.1; omega) hy (fun b hb => ⟨by have := hg.1; omega, fun e => by have := hu.blk_lt e; omega⟩) ?_ fun u' H3 hu' hk3 hl3' _ => ?_
        · simp; omega
        · simp (disch := (first | assumption | omega | (simp only [List.length_append, List.length_cons, List.length_nil]; omega))) only [↓wD,wU,Nat.reduceBEq,zx150,zx151,zx159,zx160,zx161,zx162,Nat.reduceAdd,Nat.reduceSub,Nat.reduceMul,Nat.reduceLeDiff,Nat.reduceLT,Nat.reduceEqDiff,Int.reduceAdd,Int.reduceSub,Int.reduceMul,Int.reduceNeg,Int.reduceLT,Int.reduceLE,Int.reduceEq,Int.reduceToNat,Int.cast_ofNat_Int,↓reduceIte, *]
          refine (ih hi').go ⟨u', ?_⟩
          simp (disch := (first | assumption | omega | (simp only [List.length_append, List.length_cons, List.length_nil]; omega))) only [↓wD,wU,Nat.reduceBEq,zx150,zx151,zx159,zx160,zx161,zx162,Nat.reduceAdd,Nat.reduceSub,Nat.reduceMul,Nat.reduceLeDiff,Nat.reduceLT,Nat.reduceEqDiff,Int.reduceAdd,Int.reduceSub,Int.reduceMul,Int.reduceNeg,Int.reduceLT,Int.reduceLE,Int.reduceEq,Int.reduceToNat,Int.cast_ofNat_Int,↓reduceIte, *]
          refine ⟨((hg.trans hg2).push (hu.gr hg2) (Nat.le_refl _) hk3), ?_⟩
          have e : ((t.take (i + 1)).take 6) = (t.take i).take 6 ++ [gi t i] := by
            rw [List.take_take, List.take_take, show min 6 (i + 1) = i + 1 by omega, show min 6 i = i by omega, take_gi hi']
          rw [e, List.map_append]; exact hu'
      · simp (disch := (first | assumption | omega | (simp only [List.length_append, List.length_cons, List.length_nil]; omega))) only [↓wD,wU,Nat.reduceBEq,zx150,zx151,zx159,zx160,zx161,zx162,Nat.reduceAdd,Nat.reduceSub,Nat.reduceMul,Nat.reduceLeDiff,Nat.reduceLT,Nat.reduceEqDiff,Int.reduceAdd,Int.reduceSub,Int.reduceMul,Int.reduceNeg,Int.reduceLT,Int.reduceLE,Int.reduceEq,Int.reduceToNat,Int.cast_ofNat_Int,↓reduceIte, *]
        refine (ih hi').go ⟨u, ?_⟩
        simp (disch := (first | assumption | omega | (simp only [List.length_append, List.length_cons, List.length_nil]; omega))) only [↓wD,wU,Nat.reduceBEq,zx150,zx151,zx159,zx160,zx161,zx162,Nat.reduceAdd,Nat.reduceSub,Nat.reduceMul,Nat.reduceLeDiff,Nat.reduceLT,Nat.reduceEqDiff,Int.reduceAdd,Int.reduceSub,Int.reduceMul,Int.reduceNeg,Int.reduceLT,Int.reduceLE,Int.reduceEq,Int.reduceToNat,Int.cast_ofNat_Int,↓reduceIte, *]
        have e : ((t.take (i + 1)).take 6) = (t.take i).take 6 := by
          rw [List.take_take, List.take_take]; congr 1; omega
        rw [e]; first | exact hu | exact ⟨hg, hu⟩
    · have e : i = t.length := by omega
      subst e
      simp (disch := (first | assumption | omega | (simp only [List.length_append, List.length_cons, List.length_nil]; omega))) only [↓wD,wU,Nat.reduceBEq,zx150,zx151,zx159,zx160,zx161,zx162,Nat.reduceAdd,Nat.reduceSub,Nat.reduceMul,Nat.reduceLeDiff,Nat.reduceLT,Nat.reduceEqDiff,Int.reduceAdd,Int.reduceSub,Int.reduceMul,Int.reduceNeg,Int.reduceLT,Int.reduceLE,Int.reduceEq,Int.reduceToNat,Int.cast_ofNat_Int,↓reduceIte, *]
      rw [List.take_length] at hu
      exact hu.sl.weak fun b h => .inr (by omega)
  · simp (disch := (first | assumption | omega | (simp only [List.length_append, List.length_cons, List.length_nil]; omega))) only [↓wD,wU,Nat.reduceBEq,zx150,zx151,zx159,zx160,zx161,zx162,Nat.reduceAdd,Nat.reduceSub,Nat.reduceMul,Nat.reduceLeDiff,Nat.reduceLT,Nat.reduceEqDiff,Int.reduceAdd,Int.reduceSub,Int.reduceMul,Int.reduceNeg,Int.reduceLT,Int.reduceLE,Int.reduceEq,Int.reduceToNat,Int.cast_ofNat_Int,↓reduceIte, *]
    exact ⟨.nils, rfl, Gr.refl _, Acc.nil⟩
end Go.Proofs.Ytflekaacffdakaa
namespace Go.Proofs.Ytflekaacffdakaa
open Go Go.AM Go.Proofs
theorem rtable_ret {p : Nat → Prop} {H : Heap} {v : AV} {t : List (List Int)} (ht : Sl p H v t) (hsz : t.length * 24 ≤ 140737488351232) : RetP E 22 [v] H (.b (decide (TabOk t))) := by
  refine RetP.ro rfl fn22 rfl rfl ?_
  unfold f22A
  simp (disch := (first | assumption | omega | (simp only [List.length_append, List.length_cons, List.length_nil]; omega))) only [↓wD,wU,Nat.reduceBEq,zx150,zx151,zx159,zx160,zx161,zx162,Nat.reduceAdd,Nat.reduceSub,Nat.reduceMul,Nat.reduceLeDiff,Nat.reduceLT,Nat.reduceEqDiff,Int.reduceAdd,Int.reduceSub,Int.reduceMul,Int.reduceNeg,Int.reduceLT,Int.reduceLE,Int.reduceEq,Int.reduceToNat,Int.cast_ofNat_Int,↓reduceIte, *, ht.L]
  refine Wp.for t.length (fun i a H' => H' = H ∧ a 0 = v ∧ a 8 = v ∧ a 9 = .i t.length ∧ a 10 = .i i ∧ a 3 = .i ((t.take i).map List.sum).sum ∧ (∀ r ∈ t.take i, RowOk (gi t 0).length r) ∧ 0 ≤ ((t.take i).map List.sum).sum ∧ ((t.take i).map List.sum).sum ≤ i * 48) ?_ ?_
  · rintro i a H' hi ⟨rfl, h0, h16, h17, h18, h3, hh, hp, hq⟩ ih
    simp (disch := (first | assumption | omega | (simp only [List.length_append, List.length_cons, List.length_nil]; omega))) only [↓wD,wU,Nat.reduceBEq,zx150,zx151,zx159,zx160,zx161,zx162,Nat.reduceAdd,Nat.reduceSub,Nat.reduceMul,Nat.reduceLeDiff,Nat.reduceLT,Nat.reduceEqDiff,Int.reduceAdd,Int.reduceSub,Int.reduceMul,Int.reduceNeg,Int.reduceLT,Int.reduceLE,Int.reduceEq,Int.reduceToNat,Int.cast_ofNat_Int,↓reduceIte, *]
    refine condP_split (fun hlt => ?_) (fun hlt => ?_)
    · have hi' : i < t.length := by omega
      have g := ht.get (k := (i : Int)) (by omega) (by omega)
      have g0 := ht.get (k := (0 : Int)) (by omega) (by omega)
      have hin : ¬ RowOk (gi t 0).length (gi t i) → ¬ TabOk t := fun hr h => hr (h.2.2.1 _ (mem_gi hi'))
      (repeat' (first | refine condP_split (fun _ => ?_) (fun _ => ?_) | refine guardP_split (fun _ => ?_) (fun _ => ?_) | refine guardP_splitF (fun _ => ?_) (fun _ => ?_) | (simp (disch := (first | assumption | omega | (simp only [List.length_append, List.length_cons, List.length_nil]; omega))) only [↓wD,wU,Nat.reduceBEq,zx150,zx151,zx159,zx160,zx161,zx162,Nat.reduceAdd,Nat.reduceSub,Nat.reduceMul,Nat.reduceLeDiff,Nat.reduceLT,Nat.reduceEqDiff,Int.reduceAdd,Int.reduceSub,Int.reduceMul,Int.reduceNeg,Int.reduceLT,Int.reduceLE,Int.reduceEq,Int.reduceToNat,Int.cast_ofNat_Int,↓reduceIte, *, ht.L, g.I, g0.I]))) <;> first
        | (refine avb_f (hin fun hr => ?_); have := hr.1; have := hr.2.1; have := hr.2.2.1; omega)
        | skip
      refine Wp.for (gi t i).length (fun j a H'' => H'' = H' ∧ a 0 = v ∧ a 8 = v ∧ a 9 = .i t.length ∧ a 10 = .i i ∧ a 31 = v.get H' i ∧ a 32 = .i (gi t i).length ∧ a 33 = .i j ∧ a 3 = .i (((t.take i).map List.sum).sum + ((gi t i).take j).sum) ∧ OkN ((gi t i).take j)) ?_ ?_
      · clear h0 h16 h17 h18 h3
        rintro j a H' hj ⟨rfl, h0, h16, h17, h18, h44, h45, h46, h3, hb1⟩ ih2
        have hb2 := sum_bound hb1
        have hb3 : ((gi t i).take j).length ≤ 3 := by rw [List.length_take]; omega
        simp (disch := (first | assumption | omega | (simp only [List.length_append, List.length_cons, List.length_nil]; omega))) only [↓wD,wU,Nat.reduceBEq,zx150,zx151,zx159,zx160,zx161,zx162,Nat.reduceAdd,Nat.reduceSub,Nat.reduceMul,Nat.reduceLeDiff,Nat.reduceLT,Nat.reduceEqDiff,Int.reduceAdd,Int.reduceSub,Int.reduceMul,Int.reduceNeg,Int.reduceLT,Int.reduceLE,Int.reduceEq,Int.reduceToNat,Int.cast_ofNat_Int,↓reduceIte, *]
        refine condP_split (fun hlt => ?_) (fun hlt => ?_)
        · have hj' : j < (gi t i).length := by omega
          (repeat' (first | refine condP_split (fun _ => ?_) (fun _ => ?_) | refine guardP_split (fun _ => ?_) (fun _ => ?_) | refine guardP_splitF (fun _ => ?_) (fun _ => ?_) | (simp (disch := (first | assumption | omega | (simp only [List.length_append, List.length_cons, List.length_nil]; omega))) only [↓wD,wU,Nat.reduceBEq,zx150,zx151,zx159,zx160,zx161,zx162,Nat.reduceAdd,Nat.reduceSub,Nat.reduceMul,Nat.reduceLeDiff,Nat.reduceLT,Nat.reduceEqDiff,Int.reduceAdd,Int.reduceSub,Int.reduceMul,Int.reduceNeg,Int.reduceLT,Int.reduceLE,Int.reduceEq,Int.reduceToNat,Int.cast_ofNat_Int,↓reduceIte, *, g.I]))) <;> first
            | (refine avb_f (hin fun hr => ?_); have := hr.2.2.2 _ (mem_gi hj'); omega)
            | skip
          refine (ih2 hj').go ⟨rfl, ?_⟩
          rw [sum_take hj']
          have hg : 0 ≤ gi (gi t i) j ∧ gi (gi t i) j ≤ 16 := by omega
          simp (disch := (first | assumption | omega | (simp only [List.length_append, List.length_cons, List.length_nil]; omega))) only [↓wD,wU,Nat.reduceBEq,zx150,zx151,zx159,zx160,zx161,zx162,Nat.reduceAdd,Nat.reduceSub,Nat.reduceMul,Nat.reduceLeDiff,Nat.reduceLT,Nat.reduceEqDiff,Int.reduceAdd,Int.reduceSub,Int.reduceMul,Int.reduceNeg,Int.reduceLT,Int.reduceLE,Int.reduceEq,Int.reduceToNat,Int.cast_ofNat_Int,↓reduceIte, *]
          exact ⟨by rw [Int.add_assoc], mem_take_gi hb1 hj' hg⟩
        · simp (disch := (first | assumption | omega | (simp only [List.length_append, List.length_cons, List.length_nil]; omega))) only [↓wD,wU,Nat.reduceBEq,zx150,zx151,zx159,zx160,zx161,zx162,Nat.reduceAdd,Nat.reduceSub,Nat.reduceMul,Nat.reduceLeDiff,Nat.reduceLT,Nat.reduceEqDiff,Int.reduceAdd,Int.reduceSub,Int.reduceMul,Int.reduceNeg,Int.reduceLT,Int.reduceLE,Int.reduceEq,Int.reduceToNat,Int.cast_ofNat_Int,↓reduceIte, *]
          have e : (gi t i).take j = gi t i := List.take_of_length_le (by omega)
          rw [e] at hb1 hb2 hb3
          refine (ih hi').go ⟨rfl, ?_⟩
          have e2 : ((t.take (i + 1)).map List.sum).sum = ((t.take i).map List.sum).sum + (gi t i).sum := by rw [take_gi hi', List.map_append, List.sum_append]; simp
          rw [e2]
          simp (disch := (first | assumption | omega | (simp only [List.length_append, List.length_cons, List.length_nil]; omega))) only [↓wD,wU,Nat.reduceBEq,zx150,zx151,zx159,zx160,zx161,zx162,Nat.reduceAdd,Nat.reduceSub,Nat.reduceMul,Nat.reduceLeDiff,Nat.reduceLT,Nat.reduceEqDiff,Int.reduceAdd,Int.reduceSub,Int.reduceMul,Int.reduceNeg,Int.reduceLT,Int.reduceLE,Int.reduceEq,Int.reduceToNat,Int.cast_ofNat_Int,↓reduceIte, *]
          refine ⟨mem_take_gi hh hi' ⟨?_, ?_, ?_, hb1⟩, ?_, ?_⟩ <;> omega
      · (simp (disch := (first | assumption | omega | (simp only [List.length_append, List.length_cons, List.length_nil]; omega))) only [↓wD,wU,Nat.reduceBEq,zx150,zx151,zx159,zx160,zx161,zx162,Nat.reduceAdd,Nat.reduceSub,Nat.reduceMul,Nat.reduceLeDiff,Nat.reduceLT,Nat.reduceEqDiff,Int.reduceAdd,Int.reduceSub,Int.reduceMul,Int.reduceNeg,Int.reduceLT,Int.reduceLE,Int.reduceEq,Int.reduceToNat,Int.cast_ofNat_Int,↓reduceIte, *]) <;> simp [OkN]
    · have e : t.take i = t := List.take_of_length_le (by omega)
      rw [e] at hh hp hq
      (repeat' (first | refine condP_split (fun _ => ?_) (fun _ => ?_) | refine guardP_split (fun _ => ?_) (fun _ => ?_) | refine guardP_splitF (fun _ => ?_) (fun _ => ?_) | (simp (disch := (first | assumption | omega | (simp only [List.length_append, List.length_cons, List.length_nil]; omega))) only [↓wD,wU,Nat.reduceBEq,zx150,zx151,zx159,zx160,zx161,zx162,Nat.reduceAdd,Nat.reduceSub,Nat.reduceMul,Nat.reduceLeDiff,Nat.reduceLT,Nat.reduceEqDiff,Int.reduceAdd,Int.reduceSub,Int.reduceMul,Int.reduceNeg,Int.reduceLT,Int.reduceLE,Int.reduceEq,Int.reduceToNat,Int.cast_ofNat_Int,↓reduceIte, *, ht.L]))) <;> first
        | (refine avb_f fun h => ?_; have := h.1; have := h.2.1; omega)
        | skip
      congr 1
      exact decide_eq_decide.2 ⟨fun h => ⟨by omega, by omega, hh, h⟩, fun h => h.2.2.2⟩
  · (simp (disch := (first | assumption | omega | (simp only [List.length_append, List.length_cons, List.length_nil]; omega))) only [↓wD,wU,Nat.reduceBEq,zx150,zx151,zx159,zx160,zx161,zx162,Nat.reduceAdd,Nat.reduceSub,Nat.reduceMul,Nat.reduceLeDiff,Nat.reduceLT,Nat.reduceEqDiff,Int.reduceAdd,Int.reduceSub,Int.reduceMul,Int.reduceNeg,Int.reduceLT,Int.reduceLE,Int.reduceEq,Int.reduceToNat,Int.cast_ofNat_Int,↓reduceIte, *]) <;> simp
theorem same_ret {p q : Nat → Prop} {H : Heap} {r1 r2 : AV} {xs ys : List (List Int)} (k1 : Sl p H r1 xs) (k2 : Sl q H r2 ys) :
    RetP E 26 [r1, r2] H (.b (decide (xs = ys))) := by
  refine RetP.ro rfl fn26 rfl rfl ?_
  unfold f26A
  have hb1 := k1.bound
  have hb2 := k2.bound
  (repeat' (first | refine condP_split (fun _ => ?_) (fun _ => ?_) | refine guardP_split (fun _ => ?_) (fun _ => ?_) | refine guardP_splitF (fun _ => ?_) (fun _ => ?_) | (simp (disch := (first | assumption | omega | (simp only [List.length_append, List.length_cons, List.length_nil]; omega))) only [↓wD,wU,Nat.reduceBEq,zx150,zx151,zx159,zx160,zx161,zx162,Nat.reduceAdd,Nat.reduceSub,Nat.reduceMul,Nat.reduceLeDiff,Nat.reduceLT,Nat.reduceEqDiff,Int.reduceAdd,Int.reduceSub,Int.reduceMul,Int.reduceNeg,Int.reduceLT,Int.reduceLE,Int.reduceEq,Int.reduceToNat,Int.cast_ofNat_Int,↓reduceIte, *, k1.L, k2.L]))) <;> first
    | (rename_i hl; exact avb_f fun h => hl (by simp_all))
    | skip
  rename_i hl
  have hl : xs.length = ys.length := by omega
  refine Wp.for xs.length (fun i a H' => H' = H ∧ a 1 = r2 ∧ a 14 = r1 ∧ a 15 = .i xs.length ∧ a 16 = .i i ∧ xs.take i = ys.take i) ?_ ?_
  · rintro i a H' hi ⟨rfl, h3, h24, h25, h26, hh⟩ ih
    simp (disch := (first | assumption | omega | (simp only [List.length_append, List.length_cons, List.length_nil]; omega))) only [↓wD,wU,Nat.reduceBEq,zx150,zx151,zx159,zx160,zx161,zx162,Nat.reduceAdd,Nat.reduceSub,Nat.reduceMul,Nat.reduceLeDiff,Nat.reduceLT,Nat.reduceEqDiff,Int.reduceAdd,Int.reduceSub,Int.reduceMul,Int.reduceNeg,Int.reduceLT,Int.reduceLE,Int.reduceEq,Int.reduceToNat,Int.cast_ofNat_Int,↓reduceIte, *]
    refine condP_split (fun hlt => ?_) (fun hlt => ?_)
    · have hi1 : i < xs.length := by omega
      have g1 := k1.get (k := (i : Int)) (by omega) (by omega)
      have g2 := k2.get (k := (i : Int)) (by omega) (by omega)
      have gb1 := g1.bound
      (repeat' (first | refine condP_split (fun _ => ?_) (fun _ => ?_) | refine guardP_split (fun _ => ?_) (fun _ => ?_) | refine guardP_splitF (fun _ => ?_) (fun _ => ?_) | (simp (disch := (first | assumption | omega | (simp only [List.length_append, List.length_cons, List.length_nil]; omega))) only [↓wD,wU,Nat.reduceBEq,zx150,zx151,zx159,zx160,zx161,zx162,Nat.reduceAdd,Nat.reduceSub,Nat.reduceMul,Nat.reduceLeDiff,Nat.reduceLT,Nat.reduceEqDiff,Int.reduceAdd,Int.reduceSub,Int.reduceMul,Int.reduceNeg,Int.reduceLT,Int.reduceLE,Int.reduceEq,Int.reduceToNat,Int.cast_ofNat_Int,↓reduceIte, *, k1.L, k2.L, g1.I, g2.I]))) <;> first
        | (rename_i hne; exact avb_f fun h => hne (by simp_all))
        | skip
      rename_i hll
      have hll : (gi xs i).length = (gi ys i).length := by omega
      refine Wp.for (gi xs i).length (fun j a H'' => H'' = H' ∧ a 1 = r2 ∧ a 14 = r1 ∧ a 15 = .i xs.length ∧ a 16 = .i i ∧ a 5 = .i i ∧ a 29 = r1.get H' i ∧ a 30 = .i (gi xs i).length ∧ a 31 = .i j ∧ (gi xs i).take j = (gi ys i).take j) ?_ ?_
      · clear h3 h24 h25 h26
        rintro j a H' hj ⟨rfl, h3, h24, h25, h26, h5, h40, h41, h42, hh2⟩ ih2
        simp (disch := (first | assumption | omega | (simp only [List.length_append, List.length_cons, List.length_nil]; omega))) only [↓wD,wU,Nat.reduceBEq,zx150,zx151,zx159,zx160,zx161,zx162,Nat.reduceAdd,Nat.reduceSub,Nat.reduceMul,Nat.reduceLeDiff,Nat.reduceLT,Nat.reduceEqDiff,Int.reduceAdd,Int.reduceSub,Int.reduceMul,Int.reduceNeg,Int.reduceLT,Int.reduceLE,Int.reduceEq,Int.reduceToNat,Int.cast_ofNat_Int,↓reduceIte, *]
        refine condP_split (fun hlt2 => ?_) (fun hlt2 => ?_)
        · have hj1 : j < (gi xs i).length := by omega
          (repeat' (first | refine condP_split (fun _ => ?_) (fun _ => ?_) | refine guardP_split (fun _ => ?_) (fun _ => ?_) | refine guardP_splitF (fun _ => ?_) (fun _ => ?_) | (simp (disch := (first | assumption | omega | (simp only [List.length_append, List.length_cons, List.length_nil]; omega))) only [↓wD,wU,Nat.reduceBEq,zx150,zx151,zx159,zx160,zx161,zx162,Nat.reduceAdd,Nat.reduceSub,Nat.reduceMul,Nat.reduceLeDiff,Nat.reduceLT,Nat.reduceEqDiff,Int.reduceAdd,Int.reduceSub,Int.reduceMul,Int.reduceNeg,Int.reduceLT,Int.reduceLE,Int.reduceEq,Int.reduceToNat,Int.cast_ofNat_Int,↓reduceIte, *, k1.L, k2.L, g1.I, g2.I]))) <;> first
            | (rename_i hne; exact avb_f fun h => hne (by simp_all))
            | skip
          refine (ih2 hj1).go ⟨rfl, ?_⟩
          simp (disch := (first | assumption | omega | (simp only [List.length_append, List.length_cons, List.length_nil]; omega))) only [↓wD,wU,Nat.reduceBEq,zx150,zx151,zx159,zx160,zx161,zx162,Nat.reduceAdd,Nat.reduceSub,Nat.reduceMul,Nat.reduceLeDiff,Nat.reduceLT,Nat.reduceEqDiff,Int.reduceAdd,Int.reduceSub,Int.reduceMul,Int.reduceNeg,Int.reduceLT,Int.reduceLE,Int.reduceEq,Int.reduceToNat,Int.cast_ofNat_Int,↓reduceIte, *]
          exact take_eq_succ hh2 hj1 (by omega) (by omega)
        · simp (disch := (first | assumption | omega | (simp only [List.length_append, List.length_cons, List.length_nil]; omega))) only [↓wD,wU,Nat.reduceBEq,zx150,zx151,zx159,zx160,zx161,zx162,Nat.reduceAdd,Nat.reduceSub,Nat.reduceMul,Nat.reduceLeDiff,Nat.reduceLT,Nat.reduceEqDiff,Int.reduceAdd,Int.reduceSub,Int.reduceMul,Int.reduceNeg,Int.reduceLT,Int.reduceLE,Int.reduceEq,Int.reduceToNat,Int.cast_ofNat_Int,↓reduceIte, *]
          refine (ih hi1).go ⟨rfl, ?_⟩
          simp (disch := (first | assumption | omega | (simp only [List.length_append, List.length_cons, List.length_nil]; omega))) only [↓wD,wU,Nat.reduceBEq,zx150,zx151,zx159,zx160,zx161,zx162,Nat.reduceAdd,Nat.reduceSub,Nat.reduceMul,Nat.reduceLeDiff,Nat.reduceLT,Nat.reduceEqDiff,Int.reduceAdd,Int.reduceSub,Int.reduceMul,Int.reduceNeg,Int.reduceLT,Int.reduceLE,Int.reduceEq,Int.reduceToNat,Int.cast_ofNat_Int,↓reduceIte, *]
          exact take_eq_succ hh hi1 (by omega) (take_all hh2 hll (by omega))
      · (simp (disch := (first | assumption | omega | (simp only [List.length_append, List.length_cons, List.length_nil]; omega))) only [↓wD,wU,Nat.reduceBEq,zx150,zx151,zx159,zx160,zx161,zx162,Nat.reduceAdd,Nat.reduceSub,Nat.reduceMul,Nat.reduceLeDiff,Nat.reduceLT,Nat.reduceEqDiff,Int.reduceAdd,Int.reduceSub,Int.reduceMul,Int.reduceNeg,Int.reduceLT,Int.reduceLE,Int.reduceEq,Int.reduceToNat,Int.cast_ofNat_Int,↓reduceIte, *]) <;> simp
    · simp (disch := (first | assumption | omega | (simp only [List.length_append, List.length_cons, List.length_nil]; omega))) only [↓wD,wU,Nat.reduceBEq,zx150,zx151,zx159,zx160,zx161,zx162,Nat.reduceAdd,Nat.reduceSub,Nat.reduceMul,Nat.reduceLeDiff,Nat.reduceLT,Nat.reduceEqDiff,Int.reduceAdd,Int.reduceSub,Int.reduceMul,Int.reduceNeg,Int.reduceLT,Int.reduceLE,Int.reduceEq,Int.reduceToNat,Int.cast_ofNat_Int,↓reduceIte, *]
      exact avb_t (take_all hh hl (by omega))
  · (simp (disch := (first | assumption | omega | (simp only [List.length_append, List.length_cons, List.length_nil]; omega))) only [↓wD,wU,Nat.reduceBEq,zx150,zx151,zx159,zx160,zx161,zx162,Nat.reduceAdd,Nat.reduceSub,Nat.reduceMul,Nat.reduceLeDiff,Nat.reduceLT,Nat.reduceEqDiff,Int.reduceAdd,Int.reduceSub,Int.reduceMul,Int.reduceNeg,Int.reduceLT,Int.reduceLE,Int.reduceEq,Int.reduceToNat,Int.cast_ofNat_Int,↓reduceIte, *]) <;> simp
end Go.Proofs.Ytflekaacffdakaa
namespace Go.Proofs.Ytflekaacffdakaa
open Go Go.AM Go.Proofs
theorem list2 {xs : List Int} (h : xs.length = 2) : ∃ a b, xs = [a, b] := by
  match xs, h with
  | [a, b], _ => exact ⟨a, b, rfl⟩
theorem list3 {xs : List Int} (h : xs.length = 3) : ∃ a b c, xs = [a, b, c] := by
  match xs, h with
  | [a, b, c], _ => exact ⟨a, b, c, rfl⟩
theorem eq37 (w : World) (x0 x1 y0 y1 : Int) : (Op.equalIn 10000 37 (.agg #[.int .i64 x0, .int .i64 x1]) (.agg #[.int .i64 y0, .int .i64 y1])).run C.P w = .ok ([x0, x1] == [y0, y1]) w := by
  rw [run_equalIn_struct w 9999 37 _ _ (by kernel_rfl) (by kernel_rfl)]
  have hi : Try.prog.underlying 3 = some (.int .i64) := Try.underlying3
  have e : ∀ a b : Int, (Op.equalIn 9999 3 (.int .i64 a) (.int .i64 b)).run Try.prog w = .ok (a == b) w := fun a b => run_equalIn_int w 9998 3 .i64 .i64 a b hi
  have pt : ∀ (a b : Int) (k : Nat), k < 2 → (part 3 #[.int .i64 a, .int .i64 b] k).run Try.prog w = .ok (.int .i64 (if k = 0 then a else b)) w := by
    intro a b k hk
    have : k = 0 ∨ k = 1 := by omega
    rcases this with rfl | rfl <;> go_simp
  simp [Try.underlying37, Program.fieldsOf, C, Op.eqFields, pt, e]
  by_cases h1 : x0 = y0 <;> by_cases h2 : x1 = y1 <;> simp [h1, h2]
theorem eq88 (w : World) (x0 x1 x2 y0 y1 y2 : Int) : (Op.equalIn 10000 88 (.agg #[.int .i64 x0, .int .i64 x1, .int .i64 x2]) (.agg #[.int .i64 y0, .int .i64 y1, .int .i64 y2])).run C.P w = .ok ([x0, x1, x2] == [y0, y1, y2]) w := by
  have hi : Try.prog.underlying 3 = some (.int .i64) := Try.underlying3
  have ha : Try.prog.underlying 88 = some (.array 3 3) := Try.underlying88
  have e : ∀ a b : Int, (Op.equalIn 9999 3 (.int .i64 a) (.int .i64 b)).run Try.prog w = .ok (a == b) w := fun a b => run_equalIn_int w 9998 3 .i64 .i64 a b hi
  have pt : ∀ (a b c : Int) (k : Nat), k < 3 → (part 3 #[.int .i64 a, .int .i64 b, .int .i64 c] k).run Try.prog w = .ok (.int .i64 (if k = 0 then a else if k = 1 then b else c)) w := by
    intro a b c k hk
    have : k = 0 ∨ k = 1 ∨ k = 2 := by omega
    rcases this with rfl | rfl | rfl <;> go_simp
  have sz : (sizeOf 3).run Try.prog w = .ok 1 w := by go_simp
  change (Op.equalIn (9999 + 1) 88 _ _).run Try.prog w = _
  unfold Op.equalIn
  simp [run_underlying ha, sz, Std.Legacy.Range.forIn_eq_forIn_range', Std.Legacy.Range.size, List.range', pt, e]
  by_cases h1 : x0 = y0 <;> by_cases h2 : x1 = y1 <;> by_cases h3 : x2 = y2 <;> simp [h1, h2, h3]
theorem eqOk : EqOk C := by
  intro t n ht xs ys hx hy neg xo yo w
  have hc : t = 37 ∧ n = 2 ∨ t = 88 ∧ n = 3 := by
    simp only [C] at ht
    split at ht
    · rename_i h; cases ht; exact .inl ⟨by simpa using h, rfl⟩
    · split at ht
      · rename_i h; cases ht; exact .inr ⟨by simpa using h, rfl⟩
      · cases ht
  rcases hc with ⟨rfl, rfl⟩ | ⟨rfl, rfl⟩
  · obtain ⟨x0, x1, rfl⟩ := list2 hx
    obtain ⟨y0, y1, rfl⟩ := list2 hy
    have g : ∀ op, (eqGuard op 37 xo yo (.agg (ints [x0, x1])) (.agg (ints [y0, y1]))).run C.P w = .ok () w := fun op => run_eqGuard_agg w op 37 xo yo _ _ (by kernel_rfl)
    have e := eq37 w x0 x1 y0 y1
    cases neg
    · simp only [Bool.false_eq_true, if_false, Sem.run_bind, g, Result.andThen_ok, run_eql_struct]
      simp [ints] at e ⊢; rw [e]; rfl
    · simp only [if_true, Sem.run_bind, g, Result.andThen_ok, run_neq_struct]
      simp [ints] at e ⊢; rw [e]; simp [Result.andThen, Bool.not_and]
  · obtain ⟨x0, x1, x2, rfl⟩ := list3 hx
    obtain ⟨y0, y1, y2, rfl⟩ := list3 hy
    have g : ∀ op, (eqGuard op 88 xo yo (.agg (ints [x0, x1, x2])) (.agg (ints [y0, y1, y2]))).run C.P w = .ok () w := fun op => run_eqGuard_agg w op 88 xo yo _ _ (by kernel_rfl)
    have e := eq88 w x0 x1 x2 y0 y1 y2
    cases neg
    · simp only [Bool.false_eq_true, if_false, Sem.run_bind, g, Result.andThen_ok, run_eql_struct]
      simp [ints] at e ⊢; rw [e]; rfl
    · simp only [if_true, Sem.run_bind, g, Result.andThen_ok, run_neq_struct]
      simp [ints] at e ⊢; rw [e]; simp [Result.andThen, Bool.not_and]
theorem eOk : EOk C (fun _ => True) E where
  kd := rfl
  fn := fun f af h => tab_ok (f, af) (lookup_mem h)
  prim := fun f g h => by
    simp only [C, kd] at h
    split at h
    · cases h
    · split at h <;> cases h
  stable := fun _ _ _ _ => trivial
  eq := eqOk
  mixed := mixed
end Go.Proofs.Ytflekaacffdakaa
namespace Go.Proofs.Ytflekaacffdakaa
open Go Go.AM Go.Proofs
theorem awake_ret {H : Heap} : RetP E 23 [] H (.b true) :=
  RetP.closed (n := 300) rfl fn23 rfl rfl (by kernel_rfl)
theorem cutT_ok {t : List (List Int)} (h : TabOk t) : cutT t = t := by
  unfold cutT
  rw [List.take_of_length_le (by have := h.2.1; omega)]
  conv => rhs; rw [← List.map_id t]
  apply List.map_congr_left
  intro r hr
  exact List.take_of_length_le (by have := (h.2.2.1 r hr).2.1; omega)
theorem TabOk_cut {t : List (List Int)} : TabOk (cutT t) ↔ TabOk t := by
  constructor
  · intro h
    have e : cutT t = t := by
      have h1 : t.length ≤ 3 := by have := h.2.1; simp [cutT] at this; omega
      unfold cutT
      rw [List.take_of_length_le (by omega)]
      conv => rhs; rw [← List.map_id t]
      apply List.map_congr_left
      intro r hr
      have hm : r.take 6 ∈ cutT t := by
        unfold cutT
        rw [List.take_of_length_le (by omega)]
        exact List.mem_map_of_mem hr
      have := (h.2.2.1 _ hm).2.1
      rw [List.length_take] at this
      exact List.take_of_length_le (by omega)
    rwa [e] at h
  · intro h
    rw [cutT_ok h]; exact h
end Go.Proofs.Ytflekaacffdakaa
namespace Go.Proofs.Ytflekaacffdakaa
open Go Go.AM Go.Proofs
theorem tmodN (m n : Nat) : (m : Int).tmod (n : Int) = ((m % n : Nat) : Int) := by
  rw [Int.tmod_eq_emod_of_nonneg (by omega)]; rfl
theorem tdivN (m n : Nat) : (m : Int).tdiv (n : Int) = ((m / n : Nat) : Int) := by
  rw [Int.tdiv_eq_ediv_of_nonneg (by omega)]; rfl
theorem gcd_step (x k : Nat) : Nat.gcd k (x % k) = Nat.gcd x k := by
  rw [Nat.gcd_comm k, ← Nat.gcd_rec, Nat.gcd_comm]
theorem gcd_ret {H : Heap} (m n : Nat) (hm : m ≤ 4611686018427387904) (hn : n ≤ 4611686018427387904) : RetP E 99 [.i m, .i n] H (.i (Nat.gcd m n : Nat)) := by
  refine RetP.ro rfl fn99 rfl rfl ?_
  unfold f99A
  simp (disch := (first | assumption | omega | (simp only [List.length_append, List.length_cons, List.length_nil]; omega))) only [↓wD,wU,Nat.reduceBEq,zx150,zx151,zx159,zx160,zx161,zx162,Nat.reduceAdd,Nat.reduceSub,Nat.reduceMul,Nat.reduceLeDiff,Nat.reduceLT,Nat.reduceEqDiff,Int.reduceAdd,Int.reduceSub,Int.reduceMul,Int.reduceNeg,Int.reduceLT,Int.reduceLE,Int.reduceEq,Int.reduceToNat,Int.cast_ofNat_Int,↓reduceIte, *]
  refine Wp.dec (fun k a H' => H' = H ∧ ∃ x : Nat, a 0 = .i x ∧ a 1 = .i k ∧ x ≤ 4611686018427387904 ∧ k ≤ 4611686018427387904 ∧ Nat.gcd x k = Nat.gcd m n) n ?_ ?_
  · rintro k a H' ⟨rfl, x, h0, h1, hx, hkb, hg⟩ ih
    by_cases hk : k = 0
    · subst hk
      simp (disch := (first | assumption | omega | (simp only [List.length_append, List.length_cons, List.length_nil]; omega))) only [↓wD,wU,Nat.reduceBEq,zx150,zx151,zx159,zx160,zx161,zx162,Nat.reduceAdd,Nat.reduceSub,Nat.reduceMul,Nat.reduceLeDiff,Nat.reduceLT,Nat.reduceEqDiff,Int.reduceAdd,Int.reduceSub,Int.reduceMul,Int.reduceNeg,Int.reduceLT,Int.reduceLE,Int.reduceEq,Int.reduceToNat,Int.cast_ofNat_Int,↓reduceIte, *]
      rw [Nat.gcd_zero_right] at hg
      rw [← hg]
      congr 1
      omega
    · simp (disch := (first | assumption | omega | (simp only [List.length_append, List.length_cons, List.length_nil]; omega))) only [↓wD,wU,Nat.reduceBEq,zx150,zx151,zx159,zx160,zx161,zx162,Nat.reduceAdd,Nat.reduceSub,Nat.reduceMul,Nat.reduceLeDiff,Nat.reduceLT,Nat.reduceEqDiff,Int.reduceAdd,Int.reduceSub,Int.reduceMul,Int.reduceNeg,Int.reduceLT,Int.reduceLE,Int.reduceEq,Int.reduceToNat,Int.cast_ofNat_Int,↓reduceIte, *, tmodN]
      have hlt : x % k < k := Nat.mod_lt _ (by omega)
      refine ih.go ⟨x % k, hlt, rfl, k, ?_⟩
      rw [← hg, ← gcd_step x k]
      simp (disch := (first | assumption | omega | (simp only [List.length_append, List.length_cons, List.length_nil]; omega))) only [↓wD,wU,Nat.reduceBEq,zx150,zx151,zx159,zx160,zx161,zx162,Nat.reduceAdd,Nat.reduceSub,Nat.reduceMul,Nat.reduceLeDiff,Nat.reduceLT,Nat.reduceEqDiff,Int.reduceAdd,Int.reduceSub,Int.reduceMul,Int.reduceNeg,Int.reduceLT,Int.reduceLE,Int.reduceEq,Int.reduceToNat,Int.cast_ofNat_Int,↓reduceIte, *]
      omega
  · simp (disch := (first | assumption | omega | (simp only [List.length_append, List.length_cons, List.length_nil]; omega))) only [↓wD,wU,Nat.reduceBEq,zx150,zx151,zx159,zx160,zx161,zx162,Nat.reduceAdd,Nat.reduceSub,Nat.reduceMul,Nat.reduceLeDiff,Nat.reduceLT,Nat.reduceEqDiff,Int.reduceAdd,Int.reduceSub,Int.reduceMul,Int.reduceNeg,Int.reduceLT,Int.reduceLE,Int.reduceEq,Int.reduceToNat,Int.cast_ofNat_Int,↓reduceIte, *]
    exact ⟨m, by simp_all⟩
def fracN (m n : Nat) : Int × Int := ((m / Nat.gcd m n : Nat), (n / Nat.gcd m n : Nat))
theorem frac_ret {H : Heap} (m n : Nat) (hm : m ≤ 4611686018427387904) (hn : n ≤ 4611686018427387904) (h0 : 0 < n) : RetP E 73 [.i m, .i n] H (.ag [.i (fracN m n).1, .i (fracN m n).2]) := by
  refine RetP.ro rfl fn73 rfl rfl ?_
  unfold f73A
  have hg : 0 < Nat.gcd m n := Nat.gcd_pos_of_pos_right _ h0
  have h1 : m / Nat.gcd m n ≤ m := Nat.div_le_self _ _
  have h2 : n / Nat.gcd m n ≤ n := Nat.div_le_self _ _
  unfold fracN
  obtain ⟨q1, hq1⟩ : ∃ q, m / Nat.gcd m n = q := ⟨_, rfl⟩
  obtain ⟨q2, hq2⟩ : ∃ q, n / Nat.gcd m n = q := ⟨_, rfl⟩
  rw [hq1] at h1
  rw [hq2] at h2
  simp (disch := (first | assumption | omega | (simp only [List.length_append, List.length_cons, List.length_nil]; omega))) only [↓wD,wU,Nat.reduceBEq,zx150,zx151,zx159,zx160,zx161,zx162,Nat.reduceAdd,Nat.reduceSub,Nat.reduceMul,Nat.reduceLeDiff,Nat.reduceLT,Nat.reduceEqDiff,Int.reduceAdd,Int.reduceSub,Int.reduceMul,Int.reduceNeg,Int.reduceLT,Int.reduceLE,Int.reduceEq,Int.reduceToNat,Int.cast_ofNat_Int,↓reduceIte, *, (gcd_ret m n hm hn).call, tdivN]
theorem rfrac_ret {H : Heap} (m n : Nat) (hm : m ≤ 4611686018427387904) (hn : n ≤ 4611686018427387904) (h0 : 0 < n) : RetP E 55 [.i m, .i n] H (.ag [.i (fracN m n).1, .i (fracN m n).2]) := by
  refine RetP.ro rfl fn55 rfl rfl ?_
  unfold f55A
  simp (disch := (first | assumption | omega | (simp only [List.length_append, List.length_cons, List.length_nil]; omega))) only [↓wD,wU,Nat.reduceBEq,zx150,zx151,zx159,zx160,zx161,zx162,Nat.reduceAdd,Nat.reduceSub,Nat.reduceMul,Nat.reduceLeDiff,Nat.reduceLT,Nat.reduceEqDiff,Int.reduceAdd,Int.reduceSub,Int.reduceMul,Int.reduceNeg,Int.reduceLT,Int.reduceLE,Int.reduceEq,Int.reduceToNat,Int.cast_ofNat_Int,↓reduceIte, *]
  refine Wp.dec (fun k a H' => H' = H ++ [.cells [.i 0, .i 0]] ∧ a 0 = .i m ∧ a 1 = .i n ∧ a 4 = .p H.length 0 ∧ ∃ x : Nat, a 5 = .i x ∧ a 6 = .i k ∧ x ≤ 4611686018427387904 ∧ k ≤ 4611686018427387904 ∧ Nat.gcd x k = Nat.gcd m n) n ?_ ?_
  · rintro k a H' ⟨rfl, h0, h1, h4, x, h5, h6, hx, hkb, hg⟩ ih
    by_cases hk : k = 0
    · subst hk
      rw [Nat.gcd_zero_right] at hg
      subst hg
      have hg : 0 < Nat.gcd m n := Nat.gcd_pos_of_pos_right _ (by assumption)
      have h1' : m / Nat.gcd m n ≤ m := Nat.div_le_self _ _
      have h2' : n / Nat.gcd m n ≤ n := Nat.div_le_self _ _
      unfold fracN
      obtain ⟨q1, hq1⟩ : ∃ q, m / Nat.gcd m n = q := ⟨_, rfl⟩
      obtain ⟨q2, hq2⟩ : ∃ q, n / Nat.gcd m n = q := ⟨_, rfl⟩
      rw [hq1] at h1'
      rw [hq2] at h2'
      simp (disch := (first | assumption | omega | (simp only [List.length_append, List.length_cons, List.length_nil]; omega))) only [↓wD,wU,Nat.reduceBEq,zx150,zx151,zx159,zx160,zx161,zx162,Nat.reduceAdd,Nat.reduceSub,Nat.reduceMul,Nat.reduceLeDiff,Nat.reduceLT,Nat.reduceEqDiff,Int.reduceAdd,Int.reduceSub,Int.reduceMul,Int.reduceNeg,Int.reduceLT,Int.reduceLE,Int.reduceEq,Int.reduceToNat,Int.cast_ofNat_Int,↓reduceIte, *, tdivN]
    · simp (disch := (first | assumption | omega | (simp only [List.length_append, List.length_cons, List.length_nil]; omega))) only [↓wD,wU,Nat.reduceBEq,zx150,zx151,zx159,zx160,zx161,zx162,Nat.reduceAdd,Nat.reduceSub,Nat.reduceMul,Nat.reduceLeDiff,Nat.reduceLT,Nat.reduceEqDiff,Int.reduceAdd,Int.reduceSub,Int.reduceMul,Int.reduceNeg,Int.reduceLT,Int.reduceLE,Int.reduceEq,Int.reduceToNat,Int.cast_ofNat_Int,↓reduceIte, *, tmodN]
      have hlt : x % k < k := Nat.mod_lt _ (by omega)
      refine ih.go ⟨x % k, hlt, rfl, ?_⟩
      rw [← hg, ← gcd_step x k]
      simp (disch := (first | assumption | omega | (simp only [List.length_append, List.length_cons, List.length_nil]; omega))) only [↓wD,wU,Nat.reduceBEq,zx150,zx151,zx159,zx160,zx161,zx162,Nat.reduceAdd,Nat.reduceSub,Nat.reduceMul,Nat.reduceLeDiff,Nat.reduceLT,Nat.reduceEqDiff,Int.reduceAdd,Int.reduceSub,Int.reduceMul,Int.reduceNeg,Int.reduceLT,Int.reduceLE,Int.reduceEq,Int.reduceToNat,Int.cast_ofNat_Int,↓reduceIte, *]
      exact ⟨k, rfl, hkb, by omega, rfl⟩
  · simp (disch := (first | assumption | omega | (simp only [List.length_append, List.length_cons, List.length_nil]; omega))) only [↓wD,wU,Nat.reduceBEq,zx150,zx151,zx159,zx160,zx161,zx162,Nat.reduceAdd,Nat.reduceSub,Nat.reduceMul,Nat.reduceLeDiff,Nat.reduceLT,Nat.reduceEqDiff,Int.reduceAdd,Int.reduceSub,Int.reduceMul,Int.reduceNeg,Int.reduceLT,Int.reduceLE,Int.reduceEq,Int.reduceToNat,Int.cast_ofNat_Int,↓reduceIte, *]
    have e : max (m : Int) (0 - (m : Int)) = (m : Int) := by omega
    exact ⟨m, by simp_all⟩
end Go.Proofs.Ytflekaacffdakaa
namespace Go.Proofs.Ytflekaacffdakaa
open Go Go.AM Go.Proofs
def Four (t : List (List Int)) : Prop := TabOk t ∧ t.length = 2 ∧ (gi t 0).length = 2
instance (t : List (List Int)) : Decidable (Four t) := by unfold Four; infer_instance
theorem nat_of {x : Int} (h : 0 ≤ x) : ∃ n : Nat, x = n := ⟨x.toNat, by omega⟩
theorem Four.elim {t : List (List Int)} (h : Four t) : ∃ a b c d : Nat, t = [[(a : Int), b], [(c : Int), d]] ∧ a + b + c + d ≤ 16 := by
  obtain ⟨h, h1, h2⟩ := h
  match t, h1 with
  | [r, s], _ =>
    have hs := h.2.2.1 s (by simp)
    have hr := h.2.2.1 r (by simp)
    have e1 : (gi [r, s] 0) = r := rfl
    rw [e1] at h2 hs hr
    have h3 : s.length = 2 := by rw [hs.2.2.1, h2]
    match r, h2, s, h3 with
    | [a, b], _, [c, d], _ =>
      have ha := hr.2.2.2 a (by simp)
      have hb := hr.2.2.2 b (by simp)
      have hc := hs.2.2.2 c (by simp)
      have hd := hs.2.2.2 d (by simp)
      have hsum := h.2.2.2
      simp at hsum
      obtain ⟨a, rfl⟩ := nat_of ha.1
      obtain ⟨b, rfl⟩ := nat_of hb.1
      obtain ⟨c, rfl⟩ := nat_of hc.1
      obtain ⟨d, rfl⟩ := nat_of hd.1
      exact ⟨a, b, c, d, rfl, by omega⟩
theorem Four.mk {a b c d : Nat} (h : a + b + c + d ≤ 16) : Four [[(a : Int), b], [(c : Int), d]] := by
  refine ⟨⟨by simp, by simp, ?_, by simp; omega⟩, rfl, rfl⟩
  intro r hr
  simp at hr
  rcases hr with rfl | rfl
  · refine ⟨by simp, by simp, rfl, ?_⟩
    intro x hx; simp at hx; rcases hx with rfl | rfl <;> omega
  · refine ⟨by simp, by simp, rfl, ?_⟩
    intro x hx; simp at hx; rcases hx with rfl | rfl <;> omega
theorem four_ret {p : Nat → Prop} {H : Heap} {v : AV} {t : List (List Int)} (ht : Sl p H v t) : RetP E 72 [v] H (.b (decide (Four t))) := by
  refine RetP.ro rfl fn72 rfl rfl ?_
  unfold f72A Four
  by_cases h : TabOk t
  · have g0 := ht.get (k := (0 : Int)) (by omega) (by have := h.1; omega)
    (repeat' (first | refine condP_split (fun _ => ?_) (fun _ => ?_) | refine guardP_split (fun _ => ?_) (fun _ => ?_) | refine guardP_splitF (fun _ => ?_) (fun _ => ?_) | (simp (disch := (first | assumption | omega | (simp only [List.length_append, List.length_cons, List.length_nil]; omega))) only [↓wD,wU,Nat.reduceBEq,zx150,zx151,zx159,zx160,zx161,zx162,Nat.reduceAdd,Nat.reduceSub,Nat.reduceMul,Nat.reduceLeDiff,Nat.reduceLT,Nat.reduceEqDiff,Int.reduceAdd,Int.reduceSub,Int.reduceMul,Int.reduceNeg,Int.reduceLT,Int.reduceLE,Int.reduceEq,Int.reduceToNat,Int.cast_ofNat_Int,↓reduceIte, *, (valid_ret ht).call, ht.L, g0.I]))) <;> first
      | (refine congrArg AV.b (decide_eq_decide.2 ?_); omega)
      | skip
  · (repeat' (first | refine condP_split (fun _ => ?_) (fun _ => ?_) | refine guardP_split (fun _ => ?_) (fun _ => ?_) | refine guardP_splitF (fun _ => ?_) (fun _ => ?_) | (simp (disch := (first | assumption | omega | (simp only [List.length_append, List.length_cons, List.length_nil]; omega))) only [↓wD,wU,Nat.reduceBEq,zx150,zx151,zx159,zx160,zx161,zx162,Nat.reduceAdd,Nat.reduceSub,Nat.reduceMul,Nat.reduceLeDiff,Nat.reduceLT,Nat.reduceEqDiff,Int.reduceAdd,Int.reduceSub,Int.reduceMul,Int.reduceNeg,Int.reduceLT,Int.reduceLE,Int.reduceEq,Int.reduceToNat,Int.cast_ofNat_Int,↓reduceIte, *, (valid_ret ht).call]))) <;> simp
theorem two_ret {p : Nat → Prop} {H : Heap} {v : AV} {t : List (List Int)} (ht : Sl p H v t) (sz : t.length * 24 ≤ 140737488351232) : RetP E 29 [v] H (.b (decide (Four t))) := by
  refine RetP.ro rfl fn29 rfl rfl ?_
  unfold f29A Four
  by_cases h : TabOk t
  · have g0 := ht.get (k := (0 : Int)) (by omega) (by have := h.1; omega)
    (repeat' (first | refine condP_split (fun _ => ?_) (fun _ => ?_) | refine guardP_split (fun _ => ?_) (fun _ => ?_) | refine guardP_splitF (fun _ => ?_) (fun _ => ?_) | (simp (disch := (first | assumption | omega | (simp only [List.length_append, List.length_cons, List.length_nil]; omega))) only [↓wD,wU,Nat.reduceBEq,zx150,zx151,zx159,zx160,zx161,zx162,Nat.reduceAdd,Nat.reduceSub,Nat.reduceMul,Nat.reduceLeDiff,Nat.reduceLT,Nat.reduceEqDiff,Int.reduceAdd,Int.reduceSub,Int.reduceMul,Int.reduceNeg,Int.reduceLT,Int.reduceLE,Int.reduceEq,Int.reduceToNat,Int.cast_ofNat_Int,↓reduceIte, *, (rtable_ret ht sz).call, ht.L, g0.I]))) <;> first
      | (refine congrArg AV.b (decide_eq_decide.2 ?_); omega)
      | skip
  · (repeat' (first | refine condP_split (fun _ => ?_) (fun _ => ?_) | refine guardP_split (fun _ => ?_) (fun _ => ?_) | refine guardP_splitF (fun _ => ?_) (fun _ => ?_) | (simp (disch := (first | assumption | omega | (simp only [List.length_append, List.length_cons, List.length_nil]; omega))) only [↓wD,wU,Nat.reduceBEq,zx150,zx151,zx159,zx160,zx161,zx162,Nat.reduceAdd,Nat.reduceSub,Nat.reduceMul,Nat.reduceLeDiff,Nat.reduceLT,Nat.reduceEqDiff,Int.reduceAdd,Int.reduceSub,Int.reduceMul,Int.reduceNeg,Int.reduceLT,Int.reduceLE,Int.reduceEq,Int.reduceToNat,Int.cast_ofNat_Int,↓reduceIte, *, (rtable_ret ht sz).call]))) <;> simp
theorem odds_ret {p : Nat → Prop} {H : Heap} {v : AV} {a b c d : Nat} (ht : Sl p H v [[(a : Int), b], [(c : Int), d]]) (h : a + b + c + d ≤ 16) :
    RetP E 28 [v] H (if b = 0 ∨ c = 0 then .tp [.ag [.i 0, .i 0], .i 5] else .tp [.ag [.i (fracN (a * d) (b * c)).1, .i (fracN (a * d) (b * c)).2], .i 0]) := by
  refine RetP.ro rfl fn28 rfl (by split <;> rfl) ?_
  unfold f28A
  have k := ht.app [.cells [.int .i64 0, .int .i64 0]]
  have g0 : Sl p _ (v.get _ 0) [(a : Int), b] := k.get (k := 0) (by simp) (by simp)
  have g1 : Sl p _ (v.get _ 1) [(c : Int), d] := k.get (k := 1) (by simp) (by simp)
  have h4 := Four.mk h
  by_cases hz : b = 0 ∨ c = 0
  · rw [if_pos hz]
    (repeat' (first | refine condP_split (fun _ => ?_) (fun _ => ?_) | refine guardP_split (fun _ => ?_) (fun _ => ?_) | refine guardP_splitF (fun _ => ?_) (fun _ => ?_) | (simp (disch := (first | assumption | omega | (simp only [List.length_append, List.length_cons, List.length_nil]; omega))) only [↓wD,wU,Nat.reduceBEq,zx150,zx151,zx159,zx160,zx161,zx162,Nat.reduceAdd,Nat.reduceSub,Nat.reduceMul,Nat.reduceLeDiff,Nat.reduceLT,Nat.reduceEqDiff,Int.reduceAdd,Int.reduceSub,Int.reduceMul,Int.reduceNeg,Int.reduceLT,Int.reduceLE,Int.reduceEq,Int.reduceToNat,Int.cast_ofNat_Int,↓reduceIte, *, (four_ret k).call, k.L, g0.I, g1.I]))) <;> omega
  · rw [if_neg hz]
    have p1 := mul_small (x := (a : Int)) (y := (d : Int)) (m := 16) (n := 16) (by omega) (by omega) (by omega) (by omega) (by omega)
    have p2 := mul_small (x := (b : Int)) (y := (c : Int)) (m := 16) (n := 16) (by omega) (by omega) (by omega) (by omega) (by omega)
    have q1 : a * d ≤ 256 := by have : ((a * d : Nat) : Int) = (a : Int) * d := by simp
                                omega
    have q2 : b * c ≤ 256 := by have : ((b * c : Nat) : Int) = (b : Int) * c := by simp
                                omega
    have q3 : 0 < b * c := Nat.mul_pos (by omega) (by omega)
    have fr := frac_ret (H := H ++ [.cells [.int .i64 0, .int .i64 0]]) (a * d) (b * c) (by omega) (by omega) q3
    rw [Int.natCast_mul, Int.natCast_mul] at fr
    (repeat' (first | refine condP_split (fun _ => ?_) (fun _ => ?_) | refine guardP_split (fun _ => ?_) (fun _ => ?_) | refine guardP_splitF (fun _ => ?_) (fun _ => ?_) | (simp (disch := (first | assumption | omega | (simp only [List.length_append, List.length_cons, List.length_nil]; omega))) only [↓wD,wU,Nat.reduceBEq,zx150,zx151,zx159,zx160,zx161,zx162,Nat.reduceAdd,Nat.reduceSub,Nat.reduceMul,Nat.reduceLeDiff,Nat.reduceLT,Nat.reduceEqDiff,Int.reduceAdd,Int.reduceSub,Int.reduceMul,Int.reduceNeg,Int.reduceLT,Int.reduceLE,Int.reduceEq,Int.reduceToNat,Int.cast_ofNat_Int,↓reduceIte, *, (four_ret k).call, k.L, g0.I, g1.I, fr.call])))
theorem rodds_ret {p : Nat → Prop} {H : Heap} {v : AV} {a b c d : Nat} (ht : Sl p H v [[(a : Int), b], [(c : Int), d]]) (h : a + b + c + d ≤ 16) :
    RetP E 31 [v] H (if b = 0 ∨ c = 0 then .tp [.ag [.i 0, .i 0], .i 5] else .tp [.ag [.i (fracN (a * d) (b * c)).1, .i (fracN (a * d) (b * c)).2], .i 0]) := by
  refine RetP.ro rfl fn31 rfl (by split <;> rfl) ?_
  unfold f31A
  have k := ht.app [.cells [.int .i64 0, .int .i64 0]]
  have g0 : Sl p _ (v.get _ 0) [(a : Int), b] := k.get (k := 0) (by simp) (by simp)
  have g1 : Sl p _ (v.get _ 1) [(c : Int), d] := k.get (k := 1) (by simp) (by simp)
  by_cases hz : b = 0 ∨ c = 0
  · rw [if_pos hz]
    (repeat' (first | refine condP_split (fun _ => ?_) (fun _ => ?_) | refine guardP_split (fun _ => ?_) (fun _ => ?_) | refine guardP_splitF (fun _ => ?_) (fun _ => ?_) | (simp (disch := (first | assumption | omega | (simp only [List.length_append, List.length_cons, List.length_nil]; omega))) only [↓wD,wU,Nat.reduceBEq,zx150,zx151,zx159,zx160,zx161,zx162,Nat.reduceAdd,Nat.reduceSub,Nat.reduceMul,Nat.reduceLeDiff,Nat.reduceLT,Nat.reduceEqDiff,Int.reduceAdd,Int.reduceSub,Int.reduceMul,Int.reduceNeg,Int.reduceLT,Int.reduceLE,Int.reduceEq,Int.reduceToNat,Int.cast_ofNat_Int,↓reduceIte, *, k.L, g0.I, g1.I]))) <;> omega
  · rw [if_neg hz]
    have p1 := mul_small (x := (a : Int)) (y := (d : Int)) (m := 16) (n := 16) (by omega) (by omega) (by omega) (by omega) (by omega)
    have p2 := mul_small (x := (b : Int)) (y := (c : Int)) (m := 16) (n := 16) (by omega) (by omega) (by omega) (by omega) (by omega)
    have q1 : a * d ≤ 256 := by have : ((a * d : Nat) : Int) = (a : Int) * d := by simp
                                omega
    have q2 : b * c ≤ 256 := by have : ((b * c : Nat) : Int) = (b : Int) * c := by simp
                                omega
    have q3 : 0 < b * c := Nat.mul_pos (by omega) (by omega)
    have fr := rfrac_ret (H := H ++ [.cells [.int .i64 0, .int .i64 0]]) (a * d) (b * c) (by omega) (by omega) q3
    rw [Int.natCast_mul, Int.natCast_mul] at fr
    (repeat' (first | refine condP_split (fun _ => ?_) (fun _ => ?_) | refine guardP_split (fun _ => ?_) (fun _ => ?_) | refine guardP_splitF (fun _ => ?_) (fun _ => ?_) | (simp (disch := (first | assumption | omega | (simp only [List.length_append, List.length_cons, List.length_nil]; omega))) only [↓wD,wU,Nat.reduceBEq,zx150,zx151,zx159,zx160,zx161,zx162,Nat.reduceAdd,Nat.reduceSub,Nat.reduceMul,Nat.reduceLeDiff,Nat.reduceLT,Nat.reduceEqDiff,Int.reduceAdd,Int.reduceSub,Int.reduceMul,Int.reduceNeg,Int.reduceLT,Int.reduceLE,Int.reduceEq,Int.reduceToNat,Int.cast_ofNat_Int,↓reduceIte, *, k.L, g0.I, g1.I, fr.call])))
end Go.Proofs.Ytflekaacffdakaa
namespace Go.Proofs.Ytflekaacffdakaa
open Go Go.AM Go.Proofs
def cmpI (x y : Int) : Int := if x < y then -1 else if y < x then 1 else 0
theorem isNaN_ret {H : Heap} {x : Int} : RetP E 102 [.i x] H (.b false) := by
  refine RetP.ro rfl fn102 rfl rfl ?_
  unfold f102A
  simp (disch := (first | assumption | omega | (simp only [List.length_append, List.length_cons, List.length_nil]; omega))) only [↓wD,wU,Nat.reduceBEq,zx150,zx151,zx159,zx160,zx161,zx162,Nat.reduceAdd,Nat.reduceSub,Nat.reduceMul,Nat.reduceLeDiff,Nat.reduceLT,Nat.reduceEqDiff,Int.reduceAdd,Int.reduceSub,Int.reduceMul,Int.reduceNeg,Int.reduceLT,Int.reduceLE,Int.reduceEq,Int.reduceToNat,Int.cast_ofNat_Int,↓reduceIte, *]
theorem cmp_ret {H : Heap} {x y : Int} : RetP E 85 [.i x, .i y] H (.i (cmpI x y)) := by
  refine RetP.ro rfl fn85 rfl rfl ?_
  unfold f85A
  (repeat' (first | refine condP_split (fun _ => ?_) (fun _ => ?_) | refine guardP_split (fun _ => ?_) (fun _ => ?_) | refine guardP_splitF (fun _ => ?_) (fun _ => ?_) | (simp (disch := (first | assumption | omega | (simp only [List.length_append, List.length_cons, List.length_nil]; omega))) only [↓wD,wU,Nat.reduceBEq,zx150,zx151,zx159,zx160,zx161,zx162,Nat.reduceAdd,Nat.reduceSub,Nat.reduceMul,Nat.reduceLeDiff,Nat.reduceLT,Nat.reduceEqDiff,Int.reduceAdd,Int.reduceSub,Int.reduceMul,Int.reduceNeg,Int.reduceLT,Int.reduceLE,Int.reduceEq,Int.reduceToNat,Int.cast_ofNat_Int,↓reduceIte, *, isNaN_ret.call]))) <;> (unfold cmpI; first | (rw [if_pos (by assumption)]) | (rw [if_neg (by assumption), if_pos (by assumption)]) | (rw [if_neg (by assumption), if_neg (by assumption)]))
end Go.Proofs.Ytflekaacffdakaa
namespace Go.Proofs.Ytflekaacffdakaa
open Go Go.AM Go.Proofs
def NE (t : List (List Int)) : Prop := ∀ r ∈ t, r ≠ [] ∧ r.length ≤ 1000
theorem TabOk.ne {t : List (List Int)} (h : TabOk t) : NE t := fun r hr => ⟨fun e => by have := (h.2.2.1 r hr).1; rw [e] at this; simp at this, by have := (h.2.2.1 r hr).2.1; omega⟩
theorem tclone_ret {p : Nat → Prop} {H : Heap} {v : AV} {t : List (List Int)} (ht : Sl p H v t) (hne : NE t) (hl : t.length ≤ 1000) : Ret E 84 [v] (fun _ => False) H (OT.mk t) := by
  refine Ret.ro rfl fn84 rfl ?_
  unfold f84A
  simp (disch := (first | assumption | omega | (simp only [List.length_append, List.length_cons, List.length_nil]; omega))) only [↓wD,wU,Nat.reduceBEq,zx150,zx151,zx159,zx160,zx161,zx162,Nat.reduceAdd,Nat.reduceSub,Nat.reduceMul,Nat.reduceLeDiff,Nat.reduceLT,Nat.reduceEqDiff,Int.reduceAdd,Int.reduceSub,Int.reduceMul,Int.reduceNeg,Int.reduceLT,Int.reduceLE,Int.reduceEq,Int.reduceToNat,Int.cast_ofNat_Int,↓reduceIte, *, ht.L]
  replace ht : Sl (fun b => b < H.length) H v t := ht.low.weak fun _ h => h.2
  refine Wp.for t.length (fun i a H' => ∃ u, a 6 = v ∧ a 7 = .i t.length ∧ a 8 = .i i ∧ a 3 = u ∧ Gr H H' ∧ MT H.length H' u (t.take i)) ?_ ?_
  · rintro i a H1 hi ⟨u, h6, h7, h8, h3, hg, hu⟩ ih
    simp (disch := (first | assumption | omega | (simp only [List.length_append, List.length_cons, List.length_nil]; omega))) only [↓wD,wU,Nat.reduceBEq,zx150,zx151,zx159,zx160,zx161,zx162,Nat.reduceAdd,Nat.reduceSub,Nat.reduceMul,Nat.reduceLeDiff,Nat.reduceLT,Nat.reduceEqDiff,Int.reduceAdd,Int.reduceSub,Int.reduceMul,Int.reduceNeg,Int.reduceLT,Int.reduceLE,Int.reduceEq,Int.reduceToNat,Int.cast_ofNat_Int,↓reduceIte, *]
    refine condP_split (fun hlt => ?_) (fun hlt => ?_)
    · have hi' : i < t.length := by omega
      have ht1 := ht.gr hg
      have g := ht1.get (k := (i : Int)) (by omega) (by omega)
      have hn := hne _ (mem_gi hi')
      have hl1 := hg.1
      simp (disch := (first | assumption | omega | (simp only [List.length_append, List.length_cons, List.length_nil]; omega))) only [↓wD,wU,Nat.reduceBEq,zx150,zx151,zx159,zx160,zx161,zx162,Nat.reduceAdd,Nat.reduceSub,Nat.reduceMul,Nat.reduceLeDiff,Nat.reduceLT,Nat.reduceEqDiff,Int.reduceAdd,Int.reduceSub,Int.reduceMul,Int.reduceNeg,Int.reduceLT,Int.reduceLE,Int.reduceEq,Int.reduceToNat,Int.cast_ofNat_Int,↓reduceIte, *, ht1.L]
      refine (clone_ret g (by omega)).toF fun y H2 hg2 hy => ?_
      have hl2 := hg2.1
      simp (disch := (first | assumption | omega | (simp only [List.length_append, List.length_cons, List.length_nil]; omega))) only [↓wD,wU,Nat.reduceBEq,zx150,zx151,zx159,zx160,zx161,zx162,Nat.reduceAdd,Nat.reduceSub,Nat.reduceMul,Nat.reduceLeDiff,Nat.reduceLT,Nat.reduceEqDiff,Int.reduceAdd,Int.reduceSub,Int.reduceMul,Int.reduceNeg,Int.reduceLT,Int.reduceLE,Int.reduceEq,Int.reduceToNat,Int.cast_ofNat_Int,↓reduceIte, *, hy.cellsV]
      refine hu.push hg2 (Nat.le_refl _) hl1 hy hn.1 (by simp; omega) fun u' H3 hu' hk3 => ?_
      simp (disch := (first | assumption | omega | (simp only [List.length_append, List.length_cons, List.length_nil]; omega))) only [↓wD,wU,Nat.reduceBEq,zx150,zx151,zx159,zx160,zx161,zx162,Nat.reduceAdd,Nat.reduceSub,Nat.reduceMul,Nat.reduceLeDiff,Nat.reduceLT,Nat.reduceEqDiff,Int.reduceAdd,Int.reduceSub,Int.reduceMul,Int.reduceNeg,Int.reduceLT,Int.reduceLE,Int.reduceEq,Int.reduceToNat,Int.cast_ofNat_Int,↓reduceIte, *]
      refine (ih hi').go ⟨u', ?_⟩
      rw [take_gi hi']
      simp (disch := (first | assumption | omega | (simp only [List.length_append, List.length_cons, List.length_nil]; omega))) only [↓wD,wU,Nat.reduceBEq,zx150,zx151,zx159,zx160,zx161,zx162,Nat.reduceAdd,Nat.reduceSub,Nat.reduceMul,Nat.reduceLeDiff,Nat.reduceLT,Nat.reduceEqDiff,Int.reduceAdd,Int.reduceSub,Int.reduceMul,Int.reduceNeg,Int.reduceLT,Int.reduceLE,Int.reduceEq,Int.reduceToNat,Int.cast_ofNat_Int,↓reduceIte, *]
      exact (hg.trans hg2).trans' hk3 fun b hb e => by have := hu.blk_lt e; omega
    · have e : i = t.length := by omega
      subst e
      rw [List.take_length] at hu
      simp (disch := (first | assumption | omega | (simp only [List.length_append, List.length_cons, List.length_nil]; omega))) only [↓wD,wU,Nat.reduceBEq,zx150,zx151,zx159,zx160,zx161,zx162,Nat.reduceAdd,Nat.reduceSub,Nat.reduceMul,Nat.reduceLeDiff,Nat.reduceLT,Nat.reduceEqDiff,Int.reduceAdd,Int.reduceSub,Int.reduceMul,Int.reduceNeg,Int.reduceLT,Int.reduceLE,Int.reduceEq,Int.reduceToNat,Int.cast_ofNat_Int,↓reduceIte, *]
      exact hu.rv fun b h => .inr h
  · simp (disch := (first | assumption | omega | (simp only [List.length_append, List.length_cons, List.length_nil]; omega))) only [↓wD,wU,Nat.reduceBEq,zx150,zx151,zx159,zx160,zx161,zx162,Nat.reduceAdd,Nat.reduceSub,Nat.reduceMul,Nat.reduceLeDiff,Nat.reduceLT,Nat.reduceEqDiff,Int.reduceAdd,Int.reduceSub,Int.reduceMul,Int.reduceNeg,Int.reduceLT,Int.reduceLE,Int.reduceEq,Int.reduceToNat,Int.cast_ofNat_Int,↓reduceIte, *]
    exact ⟨.nils, rfl, Gr.refl _, MT.nil⟩
end Go.Proofs.Ytflekaacffdakaa
namespace Go.Proofs.Ytflekaacffdakaa
open Go Go.AM Go.Proofs
/-- one table added to another one, up to some place -/
def addU (s t : List (List Int)) (i j : Nat) : List (List Int) := (List.range s.length).map fun a : Nat => (List.range (gi s 0).length).map fun b : Nat => gi (gi s (a : Int)) (b : Int) + if a < i ∨ (a = i ∧ b < j) then gi (gi t (a : Int)) (b : Int) else 0
def plusT (s t : List (List Int)) : List (List Int) := (List.range s.length).map fun a : Nat => (List.range (gi s 0).length).map fun b : Nat => gi (gi s (a : Int)) (b : Int) + gi (gi t (a : Int)) (b : Int)
theorem addU_0 {s t : List (List Int)} (h : TabOk s) : addU s t 0 0 = s := by
  unfold addU
  apply List.ext_getElem (by simp)
  intro a h1 h2
  simp only [List.getElem_map, List.getElem_range]
  have hw := h.width h2
  apply List.ext_getElem
  · simp; rw [gi_nat h2] at hw; omega
  · intro b h3 h4
    simp only [List.getElem_map, List.getElem_range]
    rw [gi_nat h2, gi_nat h4]
    simp
theorem addU_end {s t : List (List Int)} : addU s t s.length 0 = plusT s t := by
  unfold addU plusT
  apply map_range_congr
  intro a ha
  apply map_range_congr
  intro b hb
  rw [if_pos (.inl ha)]
theorem addU_row {s t : List (List Int)} {i : Nat} : addU s t i (gi s 0).length = addU s t (i + 1) 0 := by
  unfold addU
  apply map_range_congr
  intro a ha
  apply map_range_congr
  intro b hb
  congr 1
  by_cases h : a < i ∨ a = i ∧ b < (gi s 0).length
  · rw [if_pos h, if_pos (.inl (by omega))]
  · rw [if_neg h, if_neg (by omega)]
theorem addU_at {s t : List (List Int)} {i j a b : Nat} (ha : a < s.length) (hb : b < (gi s 0).length) : gi (gi (addU s t i j) (a : Int)) (b : Int) = gi (gi s (a : Int)) (b : Int) + if a < i ∨ (a = i ∧ b < j) then gi (gi t (a : Int)) (b : Int) else 0 := by
  unfold addU
  rw [gi_map_range ha, gi_map_range hb]
theorem addU_set {s t : List (List Int)} {i j : Nat} (hi : i < s.length) (hj : j < (gi s 0).length) : (addU s t i j).set i ((gi (addU s t i j) (i : Int)).set j (gi (gi s (i : Int)) (j : Int) + gi (gi t (i : Int)) (j : Int))) = addU s t i (j + 1) := by
  unfold addU
  rw [gi_map_range hi, set_map_range, set_map_range]
  apply map_range_congr
  intro a ha
  by_cases e : a = i
  · subst e
    rw [if_pos rfl]
    apply map_range_congr
    intro b hb
    by_cases e : b = j
    · subst e
      rw [if_pos rfl, if_pos (.inr ⟨rfl, by omega⟩)]
    · rw [if_neg e]
      congr 1
      by_cases h : a < a ∨ a = a ∧ b < j
      · rw [if_pos h, if_pos (by omega)]
      · rw [if_neg h, if_neg (by omega)]
  · rw [if_neg e]
    apply map_range_congr
    intro b hb
    congr 1
    by_cases h : a < i ∨ a = i ∧ b < j
    · rw [if_pos h, if_pos (by omega)]
    · rw [if_neg h, if_neg (by omega)]
/-- as many rows and columns -/
def Dm (s t : List (List Int)) : Prop := TabOk s ∧ TabOk t ∧ s.length = t.length ∧ (gi s 0).length = (gi t 0).length
instance (s t : List (List Int)) : Decidable (Dm s t) := by unfold Dm; infer_instance
theorem plusT_row {s t : List (List Int)} {a : Nat} (ha : a < s.length) : gi (plusT s t) (a : Int) = (List.range (gi s 0).length).map fun b : Nat => gi (gi s (a : Int)) (b : Int) + gi (gi t (a : Int)) (b : Int) := gi_map_range ha
theorem plus_err {p q : Nat → Prop} {H : Heap} {v w : AV} {s t : List (List Int)} (hs : Sl p H v s) (ht : Sl q H w t) (h : ¬ Dm s t) : RetP E 45 [v, w] H (.tp [.nils, .i 2]) := by
  refine RetP.ro rfl fn45 rfl rfl ?_
  unfold f45A
  by_cases h1 : TabOk s
  · by_cases h2 : TabOk t
    · have l1 := h1.1
      have l2 := h2.1
      have g1 := hs.get (k := 0) (by omega) (by omega)
      have g2 := ht.get (k := 0) (by omega) (by omega)
      by_cases h3 : s.length = t.length
      · have h3' : decide (¬ (s.length : Int) = t.length) = false := decide_eq_false (by omega)
        have h4' : decide (¬ ((gi s 0).length : Int) = (gi t 0).length) = true := decide_eq_true fun e => h ⟨h1, h2, h3, by omega⟩
        clear h h3
        simp (disch := (first | assumption | omega | (simp only [List.length_append, List.length_cons, List.length_nil]; omega))) only [↓wD,wU,Nat.reduceBEq,zx150,zx151,zx159,zx160,zx161,zx162,Nat.reduceAdd,Nat.reduceSub,Nat.reduceMul,Nat.reduceLeDiff,Nat.reduceLT,Nat.reduceEqDiff,Int.reduceAdd,Int.reduceSub,Int.reduceMul,Int.reduceNeg,Int.reduceLT,Int.reduceLE,Int.reduceEq,Int.reduceToNat,Int.cast_ofNat_Int,↓reduceIte, (valid_ret hs).call, (valid_ret ht).call, decide_eq_true h1, decide_eq_true h2, hs.L, ht.L, g1.I, g2.I, h3', h4']
      · have h3' : decide (¬ (s.length : Int) = t.length) = true := decide_eq_true (by omega)
        clear h h3
        simp (disch := (first | assumption | omega | (simp only [List.length_append, List.length_cons, List.length_nil]; omega))) only [↓wD,wU,Nat.reduceBEq,zx150,zx151,zx159,zx160,zx161,zx162,Nat.reduceAdd,Nat.reduceSub,Nat.reduceMul,Nat.reduceLeDiff,Nat.reduceLT,Nat.reduceEqDiff,Int.reduceAdd,Int.reduceSub,Int.reduceMul,Int.reduceNeg,Int.reduceLT,Int.reduceLE,Int.reduceEq,Int.reduceToNat,Int.cast_ofNat_Int,↓reduceIte, (valid_ret hs).call, (valid_ret ht).call, decide_eq_true h1, decide_eq_true h2, hs.L, ht.L, h3']
    · clear h
      simp (disch := (first | assumption | omega | (simp only [List.length_append, List.length_cons, List.length_nil]; omega))) only [↓wD,wU,Nat.reduceBEq,zx150,zx151,zx159,zx160,zx161,zx162,Nat.reduceAdd,Nat.reduceSub,Nat.reduceMul,Nat.reduceLeDiff,Nat.reduceLT,Nat.reduceEqDiff,Int.reduceAdd,Int.reduceSub,Int.reduceMul,Int.reduceNeg,Int.reduceLT,Int.reduceLE,Int.reduceEq,Int.reduceToNat,Int.cast_ofNat_Int,↓reduceIte, (valid_ret hs).call, (valid_ret ht).call, decide_eq_true h1, decide_eq_false h2]
  · clear h
    simp (disch := (first | assumption | omega | (simp only [List.length_append, List.length_cons, List.length_nil]; omega))) only [↓wD,wU,Nat.reduceBEq,zx150,zx151,zx159,zx160,zx161,zx162,Nat.reduceAdd,Nat.reduceSub,Nat.reduceMul,Nat.reduceLeDiff,Nat.reduceLT,Nat.reduceEqDiff,Int.reduceAdd,Int.reduceSub,Int.reduceMul,Int.reduceNeg,Int.reduceLT,Int.reduceLE,Int.reduceEq,Int.reduceToNat,Int.cast_ofNat_Int,↓reduceIte, (valid_ret hs).call, decide_eq_false h1]
theorem plus_ret {p q : Nat → Prop} {H : Heap} {v w : AV} {s t : List (List Int)} (hs : Sl p H v s) (ht : Sl q H w t) (h : Dm s t) : Ret E 45 [v, w] (fun _ => False) H (if TabOk (plusT s t) then T2.mk (plusT s t) (0 : Int) else T2.mk ([] : List (List Int)) (4 : Int)) := by
  refine Ret.ro rfl fn45 rfl ?_
  unfold f45A
  obtain ⟨h1, h2, h3, h4⟩ := h
  have l1 := h1.1
  have l2 := h2.1
  have l3 := h1.2.1
  have hc := h1.cols
  have g1 := hs.get (k := 0) (by omega) (by omega)
  have g2 := ht.get (k := 0) (by omega) (by omega)
  have h3' : decide (¬ (s.length : Int) = t.length) = false := decide_eq_false (by omega)
  have h4' : decide (¬ ((gi s 0).length : Int) = (gi t 0).length) = false := decide_eq_false (by omega)
  simp (disch := (first | assumption | omega | (simp only [List.length_append, List.length_cons, List.length_nil]; omega))) only [↓wD,wU,Nat.reduceBEq,zx150,zx151,zx159,zx160,zx161,zx162,Nat.reduceAdd,Nat.reduceSub,Nat.reduceMul,Nat.reduceLeDiff,Nat.reduceLT,Nat.reduceEqDiff,Int.reduceAdd,Int.reduceSub,Int.reduceMul,Int.reduceNeg,Int.reduceLT,Int.reduceLE,Int.reduceEq,Int.reduceToNat,Int.cast_ofNat_Int,↓reduceIte, (valid_ret hs).call, (valid_ret ht).call, decide_eq_true h1, decide_eq_true h2, hs.L, ht.L, g1.I, g2.I, h3', h4']
  refine (tclone_ret hs h1.ne (by omega)).to fun u H1 hg1 hu => ?_
  have m0 : MT H.length H1 u s := MT.of hu fun b hb => hb.elim (fun h => h.elim) id
  rw [← addU_0 (t := t) h1] at m0
  have htl : Sl (fun b => b < H.length) H w t := ht.low.weak fun _ h => h.2
  have ht1 := htl.gr hg1
  have tL := ht1.L
  rw [← h3] at tL
  clear hu h3' h4' g1 g2
  simp (disch := (first | assumption | omega | (simp only [List.length_append, List.length_cons, List.length_nil]; omega))) only [↓wD,wU,Nat.reduceBEq,zx150,zx151,zx159,zx160,zx161,zx162,Nat.reduceAdd,Nat.reduceSub,Nat.reduceMul,Nat.reduceLeDiff,Nat.reduceLT,Nat.reduceEqDiff,Int.reduceAdd,Int.reduceSub,Int.reduceMul,Int.reduceNeg,Int.reduceLT,Int.reduceLE,Int.reduceEq,Int.reduceToNat,Int.cast_ofNat_Int,↓reduceIte, tL]
  refine Wp.for s.length (fun i a H' => a 6 = u ∧ a 39 = w ∧ a 40 = .i s.length ∧ a 41 = .i i ∧ Kp (fun b => b < H.length) H1 H' ∧ MT H.length H' u (addU s t i 0)) ?_ ?_
  · rintro i a H2 hi ⟨a6, a39, a40, a41, hk, m⟩ ih
    simp (disch := (first | assumption | omega | (simp only [List.length_append, List.length_cons, List.length_nil]; omega))) only [↓wD,wU,Nat.reduceBEq,zx150,zx151,zx159,zx160,zx161,zx162,Nat.reduceAdd,Nat.reduceSub,Nat.reduceMul,Nat.reduceLeDiff,Nat.reduceLT,Nat.reduceEqDiff,Int.reduceAdd,Int.reduceSub,Int.reduceMul,Int.reduceNeg,Int.reduceLT,Int.reduceLE,Int.reduceEq,Int.reduceToNat,Int.cast_ofNat_Int,↓reduceIte, a6, a39, a40, a41]
    refine condP_split (fun hlt => ?_) (fun hlt => ?_)
    · have hi' : i < s.length := by omega
      have ht2 : Sl (fun b => b < H.length) H2 w t := ht1.kp hk
      have gt := ht2.get (k := (i : Int)) (by omega) (by omega)
      have gw := h2.width (show i < t.length by omega)
      have t2L := ht2.L
      rw [← h3] at t2L
      simp (disch := (first | assumption | omega | (simp only [List.length_append, List.length_cons, List.length_nil]; omega))) only [↓wD,wU,Nat.reduceBEq,zx150,zx151,zx159,zx160,zx161,zx162,Nat.reduceAdd,Nat.reduceSub,Nat.reduceMul,Nat.reduceLeDiff,Nat.reduceLT,Nat.reduceEqDiff,Int.reduceAdd,Int.reduceSub,Int.reduceMul,Int.reduceNeg,Int.reduceLT,Int.reduceLE,Int.reduceEq,Int.reduceToNat,Int.cast_ofNat_Int,↓reduceIte, a6, a39, a40, a41, t2L, gt.I]
      refine Wp.for (gi s 0).length (fun j a H' => a 6 = u ∧ a 39 = w ∧ a 40 = .i s.length ∧ a 41 = .i i ∧ a 7 = .i i ∧ a 46 = w.get H2 i ∧ a 47 = .i (gi s 0).length ∧ a 48 = .i j ∧ Kp (fun b => b < H.length) H1 H' ∧ Kp (fun b => b < H.length) H2 H' ∧ MT H.length H' u (addU s t i j)) ?_ ?_
      · clear a6 a39 a40 a41
        rintro j a H3 hj ⟨a6, a39, a40, a41, a7, a46, a47, a48, hk3, hk23, m3⟩ ih2
        simp (disch := (first | assumption | omega | (simp only [List.length_append, List.length_cons, List.length_nil]; omega))) only [↓wD,wU,Nat.reduceBEq,zx150,zx151,zx159,zx160,zx161,zx162,Nat.reduceAdd,Nat.reduceSub,Nat.reduceMul,Nat.reduceLeDiff,Nat.reduceLT,Nat.reduceEqDiff,Int.reduceAdd,Int.reduceSub,Int.reduceMul,Int.reduceNeg,Int.reduceLT,Int.reduceLE,Int.reduceEq,Int.reduceToNat,Int.cast_ofNat_Int,↓reduceIte, a6, a39, a40, a41, a7, a46, a47, a48]
        refine condP_split (fun hlt2 => ?_) (fun hlt2 => ?_)
        · have hj' : j < (gi s 0).length := by omega
          have gt3 := gt.kp hk23
          have mL := m3.sl.L
          have mlen : (addU s t i j).length = s.length := by simp [addU]
          have mg := m3.sl.get (k := (i : Int)) (by omega) (by omega)
          have mglen : (gi (addU s t i j) (i : Int)).length = (gi s 0).length := by unfold addU; rw [gi_map_range hi']; simp
          have mgI := mg.I
          rw [mglen] at mgI
          rw [mlen] at mL
          have eat := addU_at (s := s) (t := t) (i := i) (j := j) hi' hj'
          rw [if_neg (by omega), Int.add_zero] at eat
          have e1 := h1.entry hi' hj'
          have e2 := h2.entry (show i < t.length by omega) (show j < (gi t 0).length by omega)
          have gtI := gt3.I
          rw [gw, ← h4] at gtI
          simp (disch := (first | assumption | omega | (simp only [List.length_append, List.length_cons, List.length_nil]; omega))) only [↓wD,wU,Nat.reduceBEq,zx150,zx151,zx159,zx160,zx161,zx162,Nat.reduceAdd,Nat.reduceSub,Nat.reduceMul,Nat.reduceLeDiff,Nat.reduceLT,Nat.reduceEqDiff,Int.reduceAdd,Int.reduceSub,Int.reduceMul,Int.reduceNeg,Int.reduceLT,Int.reduceLE,Int.reduceEq,Int.reduceToNat,Int.cast_ofNat_Int,↓reduceIte, a6, a39, a40, a41, a7, a46, a47, a48, gtI, mL, mgI, eat]
          refine m3.store (Nat.le_refl _) (by omega) (by omega) (by omega) (by omega) fun H4 m4 hk4 hl4 => ?_
          have m4' : MT H.length H4 u (addU s t i (j + 1)) := by
            rw [← addU_set hi' hj']
            exact m4
          simp (disch := (first | assumption | omega | (simp only [List.length_append, List.length_cons, List.length_nil]; omega))) only [↓wD,wU,Nat.reduceBEq,zx150,zx151,zx159,zx160,zx161,zx162,Nat.reduceAdd,Nat.reduceSub,Nat.reduceMul,Nat.reduceLeDiff,Nat.reduceLT,Nat.reduceEqDiff,Int.reduceAdd,Int.reduceSub,Int.reduceMul,Int.reduceNeg,Int.reduceLT,Int.reduceLE,Int.reduceEq,Int.reduceToNat,Int.cast_ofNat_Int,↓reduceIte, a6, a39, a40, a41, a7, a46, a47, a48]
          refine (ih2 hj').go ?_
          simp (disch := (first | assumption | omega | (simp only [List.length_append, List.length_cons, List.length_nil]; omega))) only [↓wD,wU,Nat.reduceBEq,zx150,zx151,zx159,zx160,zx161,zx162,Nat.reduceAdd,Nat.reduceSub,Nat.reduceMul,Nat.reduceLeDiff,Nat.reduceLT,Nat.reduceEqDiff,Int.reduceAdd,Int.reduceSub,Int.reduceMul,Int.reduceNeg,Int.reduceLT,Int.reduceLE,Int.reduceEq,Int.reduceToNat,Int.cast_ofNat_Int,↓reduceIte, a6, a39, a40, a41, a7, a46, a47, a48]
          exact ⟨hk3.trans hk4 fun _ h => h, hk23.trans hk4 fun _ h => h, m4'⟩
        · obtain rfl : j = (gi s 0).length := by omega
          rw [addU_row] at m3
          simp (disch := (first | assumption | omega | (simp only [List.length_append, List.length_cons, List.length_nil]; omega))) only [↓wD,wU,Nat.reduceBEq,zx150,zx151,zx159,zx160,zx161,zx162,Nat.reduceAdd,Nat.reduceSub,Nat.reduceMul,Nat.reduceLeDiff,Nat.reduceLT,Nat.reduceEqDiff,Int.reduceAdd,Int.reduceSub,Int.reduceMul,Int.reduceNeg,Int.reduceLT,Int.reduceLE,Int.reduceEq,Int.reduceToNat,Int.cast_ofNat_Int,↓reduceIte, a6, a39, a40, a41, a7, a46, a47, a48]
          refine (ih hi').go ?_
          simp (disch := (first | assumption | omega | (simp only [List.length_append, List.length_cons, List.length_nil]; omega))) only [↓wD,wU,Nat.reduceBEq,zx150,zx151,zx159,zx160,zx161,zx162,Nat.reduceAdd,Nat.reduceSub,Nat.reduceMul,Nat.reduceLeDiff,Nat.reduceLT,Nat.reduceEqDiff,Int.reduceAdd,Int.reduceSub,Int.reduceMul,Int.reduceNeg,Int.reduceLT,Int.reduceLE,Int.reduceEq,Int.reduceToNat,Int.cast_ofNat_Int,↓reduceIte, a6, a39, a40, a41]
          exact ⟨hk3, m3⟩
      · have gw' : (gi t (i : Int)).length = (gi s 0).length := by omega
        simp (disch := (first | assumption | omega | (simp only [List.length_append, List.length_cons, List.length_nil]; omega))) only [↓wD,wU,Nat.reduceBEq,zx150,zx151,zx159,zx160,zx161,zx162,Nat.reduceAdd,Nat.reduceSub,Nat.reduceMul,Nat.reduceLeDiff,Nat.reduceLT,Nat.reduceEqDiff,Int.reduceAdd,Int.reduceSub,Int.reduceMul,Int.reduceNeg,Int.reduceLT,Int.reduceLE,Int.reduceEq,Int.reduceToNat,Int.cast_ofNat_Int,↓reduceIte, a6, a39, a40, a41, gw']
        exact ⟨hk, Kp.refl _ _, m⟩
    · obtain rfl : i = s.length := by omega
      rw [addU_end] at m
      by_cases hp : TabOk (plusT s t)
      · rw [if_pos hp]
        simp (disch := (first | assumption | omega | (simp only [List.length_append, List.length_cons, List.length_nil]; omega))) only [↓wD,wU,Nat.reduceBEq,zx150,zx151,zx159,zx160,zx161,zx162,Nat.reduceAdd,Nat.reduceSub,Nat.reduceMul,Nat.reduceLeDiff,Nat.reduceLT,Nat.reduceEqDiff,Int.reduceAdd,Int.reduceSub,Int.reduceMul,Int.reduceNeg,Int.reduceLT,Int.reduceLE,Int.reduceEq,Int.reduceToNat,Int.cast_ofNat_Int,↓reduceIte, a6, a39, a40, a41, (valid_ret m.sl).call, decide_eq_true hp]
        exact rv_2 (m.sl.weak fun b hb => .inr hb) rv_i
      · rw [if_neg hp]
        simp (disch := (first | assumption | omega | (simp only [List.length_append, List.length_cons, List.length_nil]; omega))) only [↓wD,wU,Nat.reduceBEq,zx150,zx151,zx159,zx160,zx161,zx162,Nat.reduceAdd,Nat.reduceSub,Nat.reduceMul,Nat.reduceLeDiff,Nat.reduceLT,Nat.reduceEqDiff,Int.reduceAdd,Int.reduceSub,Int.reduceMul,Int.reduceNeg,Int.reduceLT,Int.reduceLE,Int.reduceEq,Int.reduceToNat,Int.cast_ofNat_Int,↓reduceIte, a6, a39, a40, a41, (valid_ret m.sl).call, decide_eq_false hp]
        exact rv_2 Sl.nil rv_i
  · simp (disch := (first | assumption | omega | (simp only [List.length_append, List.length_cons, List.length_nil]; omega))) only [↓wD,wU,Nat.reduceBEq,zx150,zx151,zx159,zx160,zx161,zx162,Nat.reduceAdd,Nat.reduceSub,Nat.reduceMul,Nat.reduceLeDiff,Nat.reduceLT,Nat.reduceEqDiff,Int.reduceAdd,Int.reduceSub,Int.reduceMul,Int.reduceNeg,Int.reduceLT,Int.reduceLE,Int.reduceEq,Int.reduceToNat,Int.cast_ofNat_Int,↓reduceIte]
    exact ⟨Kp.refl _ _, m0⟩
theorem rplus_ret {p q : Nat → Prop} {H : Heap} {v w : AV} {s t : List (List Int)} (hs : Sl p H v s) (ht : Sl q H w t) (h : Dm s t) : Ret E 47 [v, w] (fun _ => False) H (if TabOk (plusT s t) then T2.mk (plusT s t) (0 : Int) else T2.mk ([] : List (List Int)) (4 : Int)) := by
  refine Ret.ro rfl fn47 rfl ?_
  unfold f47A
  obtain ⟨h1, h2, h3, h4⟩ := h
  have l1 := h1.1
  have l2 := h2.1
  have l3 := h1.2.1
  have hc := h1.cols
  have hsl : Sl (fun b => b < H.length) H v s := hs.low.weak fun _ h => h.2
  have htl : Sl (fun b => b < H.length) H w t := ht.low.weak fun _ h => h.2
  simp (disch := (first | assumption | omega | (simp only [List.length_append, List.length_cons, List.length_nil]; omega))) only [↓wD,wU,Nat.reduceBEq,zx150,zx151,zx159,zx160,zx161,zx162,Nat.reduceAdd,Nat.reduceSub,Nat.reduceMul,Nat.reduceLeDiff,Nat.reduceLT,Nat.reduceEqDiff,Int.reduceAdd,Int.reduceSub,Int.reduceMul,Int.reduceNeg,Int.reduceLT,Int.reduceLE,Int.reduceEq,Int.reduceToNat,Int.cast_ofNat_Int,↓reduceIte, hs.L]
  refine Wp.for s.length (fun i a H' => ∃ u, a 1 = w ∧ a 12 = v ∧ a 13 = .i s.length ∧ a 14 = .i i ∧ a 6 = u ∧ Gr H H' ∧ Acc H.length (fun b => H.length ≤ b) H' u ((plusT s t).take i)) ?_ ?_
  · rintro i a H2 hi ⟨u, a1, a12, a13, a14, a6, hg, hu⟩ ih
    simp (disch := (first | assumption | omega | (simp only [List.length_append, List.length_cons, List.length_nil]; omega))) only [↓wD,wU,Nat.reduceBEq,zx150,zx151,zx159,zx160,zx161,zx162,Nat.reduceAdd,Nat.reduceSub,Nat.reduceMul,Nat.reduceLeDiff,Nat.reduceLT,Nat.reduceEqDiff,Int.reduceAdd,Int.reduceSub,Int.reduceMul,Int.reduceNeg,Int.reduceLT,Int.reduceLE,Int.reduceEq,Int.reduceToNat,Int.cast_ofNat_Int,↓reduceIte, a1, a12, a13, a14, a6]
    refine condP_split (fun hlt => ?_) (fun hlt => ?_)
    · have hi' : i < s.length := by omega
      have hs2 := hsl.gr hg
      have ht2 := htl.gr hg
      have gs := hs2.get (k := (i : Int)) (by omega) (by omega)
      have ws := h1.width hi'
      have hl2 := hg.1
      simp (disch := (first | assumption | omega | (simp only [List.length_append, List.length_cons, List.length_nil]; omega))) only [↓wD,wU,Nat.reduceBEq,zx150,zx151,zx159,zx160,zx161,zx162,Nat.reduceAdd,Nat.reduceSub,Nat.reduceMul,Nat.reduceLeDiff,Nat.reduceLT,Nat.reduceEqDiff,Int.reduceAdd,Int.reduceSub,Int.reduceMul,Int.reduceNeg,Int.reduceLT,Int.reduceLE,Int.reduceEq,Int.reduceToNat,Int.cast_ofNat_Int,↓reduceIte, a1, a12, a13, a14, a6, hs2.L, gs.I]
      have gsl := gs.low.weak (q := fun b => b < H2.length) fun _ h => h.2
      refine Wp.for (gi s 0).length (fun j a H' => ∃ x, a 1 = w ∧ a 12 = v ∧ a 13 = .i s.length ∧ a 14 = .i i ∧ a 6 = u ∧ a 7 = .i i ∧ a 19 = v.get H2 i ∧ a 20 = .i (gi s 0).length ∧ a 21 = .i j ∧ a 9 = x ∧ Gr H2 H' ∧ Acc H2.length (fun b => H2.length ≤ b) H' x ((gi (plusT s t) (i : Int)).take j)) ?_ ?_
      · clear a1 a12 a13 a14 a6
        rintro j a H3 hj ⟨x, a1, a12, a13, a14, a6, a7, a19, a20, a21, a9, hg3, hx⟩ ih2
        simp (disch := (first | assumption | omega | (simp only [List.length_append, List.length_cons, List.length_nil]; omega))) only [↓wD,wU,Nat.reduceBEq,zx150,zx151,zx159,zx160,zx161,zx162,Nat.reduceAdd,Nat.reduceSub,Nat.reduceMul,Nat.reduceLeDiff,Nat.reduceLT,Nat.reduceEqDiff,Int.reduceAdd,Int.reduceSub,Int.reduceMul,Int.reduceNeg,Int.reduceLT,Int.reduceLE,Int.reduceEq,Int.reduceToNat,Int.cast_ofNat_Int,↓reduceIte, a1, a12, a13, a14, a6, a7, a19, a20, a21, a9]
        refine condP_split (fun hlt2 => ?_) (fun hlt2 => ?_)
        · have hj' : j < (gi s 0).length := by omega
          have gs3 := gsl.gr hg3
          have ht3 := ht2.gr hg3
          have gt := ht3.get (k := (i : Int)) (by omega) (by omega)
          have wt := h2.width (show i < t.length by omega)
          have e1 := h1.entry hi' hj'
          have e2 := h2.entry (show i < t.length by omega) (show j < (gi t 0).length by omega)
          have gsI := gs3.I
          rw [ws] at gsI
          have gtI := gt.I
          rw [wt, ← h4] at gtI
          have tL := ht3.L
          rw [← h3] at tL
          have hg3l := hg3.1
          simp (disch := (first | assumption | omega | (simp only [List.length_append, List.length_cons, List.length_nil]; omega))) only [↓wD,wU,Nat.reduceBEq,zx150,zx151,zx159,zx160,zx161,zx162,Nat.reduceAdd,Nat.reduceSub,Nat.reduceMul,Nat.reduceLeDiff,Nat.reduceLT,Nat.reduceEqDiff,Int.reduceAdd,Int.reduceSub,Int.reduceMul,Int.reduceNeg,Int.reduceLT,Int.reduceLE,Int.reduceEq,Int.reduceToNat,Int.cast_ofNat_Int,↓reduceIte, a1, a12, a13, a14, a6, a7, a19, a20, a21, a9, gsI, tL, gtI]
          refine hx.pushI (by omega) (by omega) (by rw [List.length_take]; omega) fun x' H4 hx' hk4 hl4 _ => ?_
          have eT : (gi (plusT s t) (i : Int)).take (j + 1) = (gi (plusT s t) (i : Int)).take j ++ [gi (gi s (i : Int)) (j : Int) + gi (gi t (i : Int)) (j : Int)] := by
            rw [plusT_row hi', take_gi (by simpa using hj'), gi_map_range hj']
          rw [← eT] at hx'
          have hg4 := hg3.push hx (Nat.le_refl _) hk4
          simp (disch := (first | assumption | omega | (simp only [List.length_append, List.length_cons, List.length_nil]; omega))) only [↓wD,wU,Nat.reduceBEq,zx150,zx151,zx159,zx160,zx161,zx162,Nat.reduceAdd,Nat.reduceSub,Nat.reduceMul,Nat.reduceLeDiff,Nat.reduceLT,Nat.reduceEqDiff,Int.reduceAdd,Int.reduceSub,Int.reduceMul,Int.reduceNeg,Int.reduceLT,Int.reduceLE,Int.reduceEq,Int.reduceToNat,Int.cast_ofNat_Int,↓reduceIte, a1, a12, a13, a14, a6, a7, a19, a20, a21, a9]
          refine (ih2 hj').go ⟨x', ?_⟩
          simp (disch := (first | assumption | omega | (simp only [List.length_append, List.length_cons, List.length_nil]; omega))) only [↓wD,wU,Nat.reduceBEq,zx150,zx151,zx159,zx160,zx161,zx162,Nat.reduceAdd,Nat.reduceSub,Nat.reduceMul,Nat.reduceLeDiff,Nat.reduceLT,Nat.reduceEqDiff,Int.reduceAdd,Int.reduceSub,Int.reduceMul,Int.reduceNeg,Int.reduceLT,Int.reduceLE,Int.reduceEq,Int.reduceToNat,Int.cast_ofNat_Int,↓reduceIte, a1, a12, a13, a14, a6, a7, a19, a20, a21, a9]
          exact ⟨hg4, hx'⟩
        · obtain rfl : j = (gi s 0).length := by omega
          rw [List.take_of_length_le (by rw [plusT_row hi']; simp)] at hx
          have hu3 := hu.gr hg3
          have hl3 := hg3.1
          simp (disch := (first | assumption | omega | (simp only [List.length_append, List.length_cons, List.length_nil]; omega))) only [↓wD,wU,Nat.reduceBEq,zx150,zx151,zx159,zx160,zx161,zx162,Nat.reduceAdd,Nat.reduceSub,Nat.reduceMul,Nat.reduceLeDiff,Nat.reduceLT,Nat.reduceEqDiff,Int.reduceAdd,Int.reduceSub,Int.reduceMul,Int.reduceNeg,Int.reduceLT,Int.reduceLE,Int.reduceEq,Int.reduceToNat,Int.cast_ofNat_Int,↓reduceIte, a1, a12, a13, a14, a6, a7, a19, a20, a21, a9, hx.cellsV]
          refine hu3.pushL (by omega) (by omega) hx.sl (fun b hb => ⟨by omega, fun e => by have := (hu.blk_lt e).2; omega⟩) (by rw [List.length_take]; omega) fun u' H4 hu' hk4 hl4 _ => ?_
          have eT : (plusT s t).take (i + 1) = (plusT s t).take i ++ [gi (plusT s t) (i : Int)] := take_gi (by simpa [plusT] using hi')
          rw [← eT] at hu'
          have hg4 := (hg.trans hg3).push hu3 (Nat.le_refl _) hk4
          simp (disch := (first | assumption | omega | (simp only [List.length_append, List.length_cons, List.length_nil]; omega))) only [↓wD,wU,Nat.reduceBEq,zx150,zx151,zx159,zx160,zx161,zx162,Nat.reduceAdd,Nat.reduceSub,Nat.reduceMul,Nat.reduceLeDiff,Nat.reduceLT,Nat.reduceEqDiff,Int.reduceAdd,Int.reduceSub,Int.reduceMul,Int.reduceNeg,Int.reduceLT,Int.reduceLE,Int.reduceEq,Int.reduceToNat,Int.cast_ofNat_Int,↓reduceIte, a1, a12, a13, a14, a6]
          refine (ih hi').go ⟨u', ?_⟩
          simp (disch := (first | assumption | omega | (simp only [List.length_append, List.length_cons, List.length_nil]; omega))) only [↓wD,wU,Nat.reduceBEq,zx150,zx151,zx159,zx160,zx161,zx162,Nat.reduceAdd,Nat.reduceSub,Nat.reduceMul,Nat.reduceLeDiff,Nat.reduceLT,Nat.reduceEqDiff,Int.reduceAdd,Int.reduceSub,Int.reduceMul,Int.reduceNeg,Int.reduceLT,Int.reduceLE,Int.reduceEq,Int.reduceToNat,Int.cast_ofNat_Int,↓reduceIte, a1, a12, a13, a14, a6]
          exact ⟨hg4, hu'⟩
      · simp (disch := (first | assumption | omega | (simp only [List.length_append, List.length_cons, List.length_nil]; omega))) only [↓wD,wU,Nat.reduceBEq,zx150,zx151,zx159,zx160,zx161,zx162,Nat.reduceAdd,Nat.reduceSub,Nat.reduceMul,Nat.reduceLeDiff,Nat.reduceLT,Nat.reduceEqDiff,Int.reduceAdd,Int.reduceSub,Int.reduceMul,Int.reduceNeg,Int.reduceLT,Int.reduceLE,Int.reduceEq,Int.reduceToNat,Int.cast_ofNat_Int,↓reduceIte, a1, a12, a13, a14, a6, ws]
        exact ⟨.nils, rfl, Gr.refl _, Acc.nil⟩
    · obtain rfl : i = s.length := by omega
      rw [List.take_of_length_le (by simp [plusT])] at hu
      have rt := rtable_ret hu.sl (by simp [plusT]; omega)
      by_cases hp : TabOk (plusT s t)
      · rw [if_pos hp]
        rw [decide_eq_true hp] at rt
        simp (disch := (first | assumption | omega | (simp only [List.length_append, List.length_cons, List.length_nil]; omega))) only [↓wD,wU,Nat.reduceBEq,zx150,zx151,zx159,zx160,zx161,zx162,Nat.reduceAdd,Nat.reduceSub,Nat.reduceMul,Nat.reduceLeDiff,Nat.reduceLT,Nat.reduceEqDiff,Int.reduceAdd,Int.reduceSub,Int.reduceMul,Int.reduceNeg,Int.reduceLT,Int.reduceLE,Int.reduceEq,Int.reduceToNat,Int.cast_ofNat_Int,↓reduceIte, a1, a12, a13, a14, a6, rt.call]
        exact rv_2 (hu.sl.weak fun b hb => .inr (by omega)) rv_i
      · rw [if_neg hp]
        rw [decide_eq_false hp] at rt
        simp (disch := (first | assumption | omega | (simp only [List.length_append, List.length_cons, List.length_nil]; omega))) only [↓wD,wU,Nat.reduceBEq,zx150,zx151,zx159,zx160,zx161,zx162,Nat.reduceAdd,Nat.reduceSub,Nat.reduceMul,Nat.reduceLeDiff,Nat.reduceLT,Nat.reduceEqDiff,Int.reduceAdd,Int.reduceSub,Int.reduceMul,Int.reduceNeg,Int.reduceLT,Int.reduceLE,Int.reduceEq,Int.reduceToNat,Int.cast_ofNat_Int,↓reduceIte, a1, a12, a13, a14, a6, rt.call]
        exact rv_2 Sl.nil rv_i
  · simp (disch := (first | assumption | omega | (simp only [List.length_append, List.length_cons, List.length_nil]; omega))) only [↓wD,wU,Nat.reduceBEq,zx150,zx151,zx159,zx160,zx161,zx162,Nat.reduceAdd,Nat.reduceSub,Nat.reduceMul,Nat.reduceLeDiff,Nat.reduceLT,Nat.reduceEqDiff,Int.reduceAdd,Int.reduceSub,Int.reduceMul,Int.reduceNeg,Int.reduceLT,Int.reduceLE,Int.reduceEq,Int.reduceToNat,Int.cast_ofNat_Int,↓reduceIte]
    exact ⟨.nils, rfl, Gr.refl _, Acc.nil⟩
end Go.Proofs.Ytflekaacffdakaa
namespace Go.Proofs.Ytflekaacffdakaa
open Go Go.AM Go.Proofs
def badT (t : List (List Int)) : Prop := gi (gi t 0) 1 = 0 ∨ gi (gi t 1) 0 = 0
instance (t : List (List Int)) : Decidable (badT t) := by unfold badT; infer_instance
def fT (t : List (List Int)) : Int × Int := fracN (gi (gi t 0) 0 * gi (gi t 1) 1).toNat (gi (gi t 0) 1 * gi (gi t 1) 0).toNat
theorem fT_mk (a b c d : Nat) : fT [[(a : Int), b], [(c : Int), d]] = fracN (a * d) (b * c) := by
  show fracN ((a : Int) * d).toNat ((b : Int) * c).toNat = _
  rw [← Int.natCast_mul, ← Int.natCast_mul, Int.toNat_natCast, Int.toNat_natCast]
theorem badT_mk (a b c d : Nat) : badT [[(a : Int), b], [(c : Int), d]] ↔ b = 0 ∨ c = 0 := by
  show ((b : Int) = 0 ∨ (c : Int) = 0) ↔ _
  omega
theorem fT_small {t : List (List Int)} (h : Four t) (hb : ¬ badT t) : (0 ≤ (fT t).1 ∧ (fT t).1 ≤ 256) ∧ 1 ≤ (fT t).2 ∧ (fT t).2 ≤ 256 := by
  obtain ⟨a, b, c, d, rfl, hs⟩ := h.elim
  rw [badT_mk] at hb
  rw [fT_mk]
  have p1 := mul_small (x := (a : Int)) (y := (d : Int)) (m := 16) (n := 16) (by omega) (by omega) (by omega) (by omega) (by omega)
  have p2 := mul_small (x := (b : Int)) (y := (c : Int)) (m := 16) (n := 16) (by omega) (by omega) (by omega) (by omega) (by omega)
  have q1 : a * d ≤ 256 := by have : ((a * d : Nat) : Int) = (a : Int) * d := by simp
                              omega
  have q2 : b * c ≤ 256 := by have : ((b * c : Nat) : Int) = (b : Int) * c := by simp
                              omega
  have q3 : 0 < b * c := Nat.mul_pos (by omega) (by omega)
  have g1 : 0 < Nat.gcd (a * d) (b * c) := Nat.gcd_pos_of_pos_right _ q3
  have g2 := Nat.div_pos (Nat.le_of_dvd q3 (Nat.gcd_dvd_right (a * d) (b * c))) g1
  have g3 := Nat.div_le_self (b * c) (Nat.gcd (a * d) (b * c))
  have g4 := Nat.div_le_self (a * d) (Nat.gcd (a * d) (b * c))
  unfold fracN
  exact ⟨⟨Int.natCast_nonneg _, Int.ofNat_le.2 (Nat.le_trans g4 q1)⟩, Int.ofNat_le.2 g2, Int.ofNat_le.2 (Nat.le_trans g3 q2)⟩
theorem oddsT {p : Nat → Prop} {H : Heap} {v : AV} {t : List (List Int)} (ht : Sl p H v t) (h : Four t) : RetP E 28 [v] H (if badT t then .tp [.ag [.i 0, .i 0], .i 5] else .tp [.ag [.i (fT t).1, .i (fT t).2], .i 0]) := by
  obtain ⟨a, b, c, d, rfl, hs⟩ := h.elim
  have := odds_ret ht hs
  rw [fT_mk]
  simp only [badT_mk]
  exact this
theorem roddsT {p : Nat → Prop} {H : Heap} {v : AV} {t : List (List Int)} (ht : Sl p H v t) (h : Four t) : RetP E 31 [v] H (if badT t then .tp [.ag [.i 0, .i 0], .i 5] else .tp [.ag [.i (fT t).1, .i (fT t).2], .i 0]) := by
  obtain ⟨a, b, c, d, rfl, hs⟩ := h.elim
  have := rodds_ret ht hs
  rw [fT_mk]
  simp only [badT_mk]
  exact this
theorem less_ret {H : Heap} {x y z w : Int} (hx : 0 ≤ x ∧ x ≤ 256) (hy : 0 ≤ y ∧ y ≤ 256) (hz : 0 ≤ z ∧ z ≤ 256) (hw : 0 ≤ w ∧ w ≤ 256) : RetP E 54 [.ag [.i x, .i y], .ag [.i z, .i w]] H (.b (decide (x * w < z * y))) := by
  refine RetP.ro rfl fn54 rfl rfl ?_
  unfold f54A
  have p1 := mul_small (x := x) (y := w) (m := 256) (n := 256) (by omega) (by omega) (by omega) (by omega) (by omega)
  have p2 := mul_small (x := z) (y := y) (m := 256) (n := 256) (by omega) (by omega) (by omega) (by omega) (by omega)
  simp (disch := (first | assumption | omega | (simp only [List.length_append, List.length_cons, List.length_nil]; omega))) only [↓wD,wU,Nat.reduceBEq,zx150,zx151,zx159,zx160,zx161,zx162,Nat.reduceAdd,Nat.reduceSub,Nat.reduceMul,Nat.reduceLeDiff,Nat.reduceLT,Nat.reduceEqDiff,Int.reduceAdd,Int.reduceSub,Int.reduceMul,Int.reduceNeg,Int.reduceLT,Int.reduceLE,Int.reduceEq,Int.reduceToNat,Int.cast_ofNat_Int,↓reduceIte, *]
theorem aeq3 {a b c d e f : Int} : aeqV false 3 (.ag [.int .i64 a, .int .i64 b, .int .i64 c]) (.ag [.int .i64 d, .int .i64 e, .int .i64 f]) = some (.b (decide (a = d ∧ b = e ∧ c = f))) := by
  by_cases h1 : a = d <;> by_cases h2 : b = e <;> by_cases h3 : c = f <;> simp [aeqV, eqInts, h1, h2, h3]
/-- which way a table points -/
def sgT (t : List (List Int)) : Int := cmpI (fT t).1 (fT t).2
/-- both tables one way and their sum the other one -/
def hidB (s t u : List (List Int)) : Bool := decide ((sgT s = 1 ∧ sgT t = 1 ∧ sgT u = -1) ∨ (sgT s = -1 ∧ sgT t = -1 ∧ sgT u = 1))
theorem sgT_p {t : List (List Int)} : sgT t = 1 ↔ (fT t).2 < (fT t).1 := by
  unfold sgT cmpI
  split
  · omega
  · split <;> omega
theorem sgT_m {t : List (List Int)} : sgT t = -1 ↔ (fT t).1 < (fT t).2 := by
  unfold sgT cmpI
  split
  · omega
  · split <;> omega
theorem Four.dm {s t : List (List Int)} (hs : Four s) (ht : Four t) : Dm s t := ⟨hs.1, ht.1, by rw [hs.2.1, ht.2.1], by rw [hs.2.2, ht.2.2]⟩
theorem Four.sum {s t : List (List Int)} (hs : Four s) (h : TabOk (plusT s t)) : Four (plusT s t) := by
  refine ⟨h, by unfold plusT; simp [hs.2.1], ?_⟩
  have := plusT_row (s := s) (t := t) (a := 0) (by rw [hs.2.1]; decide)
  rw [show gi (plusT s t) 0 = gi (plusT s t) ((0 : Nat) : Int) from rfl, this]
  simp [hs.2.2]
end Go.Proofs.Ytflekaacffdakaa
namespace Go.Proofs.Ytflekaacffdakaa
open Go Go.AM Go.Proofs
theorem hidden_two {p q : Nat → Prop} {H : Heap} {v w : AV} {s t : List (List Int)} (hs : Sl p H v s) (ht : Sl q H w t) (h : ¬ (Four s ∧ Four t)) : RetP E 46 [v, w] H (.tp [.b false, .i 2]) := by
  refine RetP.ro rfl fn46 rfl rfl ?_
  unfold f46A
  by_cases h1 : Four s
  · have h2 : ¬ Four t := fun h2 => h ⟨h1, h2⟩
    simp (disch := (first | assumption | omega | (simp only [List.length_append, List.length_cons, List.length_nil]; omega))) only [↓wD,wU,Nat.reduceBEq,zx150,zx151,zx159,zx160,zx161,zx162,Nat.reduceAdd,Nat.reduceSub,Nat.reduceMul,Nat.reduceLeDiff,Nat.reduceLT,Nat.reduceEqDiff,Int.reduceAdd,Int.reduceSub,Int.reduceMul,Int.reduceNeg,Int.reduceLT,Int.reduceLE,Int.reduceEq,Int.reduceToNat,Int.cast_ofNat_Int,↓reduceIte, (four_ret hs).call, (four_ret ht).call, decide_eq_true h1, decide_eq_false h2]
  · simp (disch := (first | assumption | omega | (simp only [List.length_append, List.length_cons, List.length_nil]; omega))) only [↓wD,wU,Nat.reduceBEq,zx150,zx151,zx159,zx160,zx161,zx162,Nat.reduceAdd,Nat.reduceSub,Nat.reduceMul,Nat.reduceLeDiff,Nat.reduceLT,Nat.reduceEqDiff,Int.reduceAdd,Int.reduceSub,Int.reduceMul,Int.reduceNeg,Int.reduceLT,Int.reduceLE,Int.reduceEq,Int.reduceToNat,Int.cast_ofNat_Int,↓reduceIte, (four_ret hs).call, decide_eq_false h1]
theorem hidden_ret {p q : Nat → Prop} {H : Heap} {v w : AV} {s t : List (List Int)} (hs : Sl p H v s) (ht : Sl q H w t) (h1 : Four s) (h2 : Four t) : RetP E 46 [v, w] H (if TabOk (plusT s t) ∧ ¬ badT s ∧ ¬ badT t ∧ ¬ badT (plusT s t) then .tp [.b (hidB s t (plusT s t)), .i 0] else .tp [.b false, .i 5]) := by
  refine RetP.ro rfl fn46 rfl (by split <;> rfl) ?_
  unfold f46A
  have hsl : Sl (fun b => b < H.length) H v s := hs.low.weak fun _ h => h.2
  have htl : Sl (fun b => b < H.length) H w t := ht.low.weak fun _ h => h.2
  simp (disch := (first | assumption | omega | (simp only [List.length_append, List.length_cons, List.length_nil]; omega))) only [↓wD,wU,Nat.reduceBEq,zx150,zx151,zx159,zx160,zx161,zx162,Nat.reduceAdd,Nat.reduceSub,Nat.reduceMul,Nat.reduceLeDiff,Nat.reduceLT,Nat.reduceEqDiff,Int.reduceAdd,Int.reduceSub,Int.reduceMul,Int.reduceNeg,Int.reduceLT,Int.reduceLE,Int.reduceEq,Int.reduceToNat,Int.cast_ofNat_Int,↓reduceIte, (four_ret hs).call, (four_ret ht).call, decide_eq_true h1, decide_eq_true h2]
  refine (plus_ret hs ht (h1.dm h2)).to fun y H1 hg1 hy => ?_
  by_cases hp : TabOk (plusT s t)
  · rw [if_pos hp] at hy
    obtain ⟨x, _, rfl, hx, rfl⟩ := rv2 hy
    have hxs : Sl (fun b => b < H1.length) H1 x (plusT s t) := (rvs hx).low.weak fun _ h => h.2
    have hs1 : Sl (fun b => b < H1.length) H1 v s := (hsl.gr hg1).low.weak fun _ h => h.2
    have ht1 : Sl (fun b => b < H1.length) H1 w t := (htl.gr hg1).low.weak fun _ h => h.2
    have h3 := h1.sum hp
    have hl1 := hg1.1
    clear hx hy hs ht hsl htl
    simp (disch := (first | assumption | omega | (simp only [List.length_append, List.length_cons, List.length_nil]; omega))) only [↓wD,wU,Nat.reduceBEq,zx150,zx151,zx159,zx160,zx161,zx162,Nat.reduceAdd,Nat.reduceSub,Nat.reduceMul,Nat.reduceLeDiff,Nat.reduceLT,Nat.reduceEqDiff,Int.reduceAdd,Int.reduceSub,Int.reduceMul,Int.reduceNeg,Int.reduceLT,Int.reduceLE,Int.reduceEq,Int.reduceToNat,Int.cast_ofNat_Int,↓reduceIte, hs1.cellsV, ht1.cellsV, hxs.cellsV]
    have hia0 : iaddrAV 3 1 (.p H1.length 0) (.i 0) = some (.p H1.length 0) := rfl
    have hia1 : iaddrAV 3 1 (.p H1.length 0) (.i 1) = some (.p H1.length 1) := rfl
    have hia2 : iaddrAV 3 1 (.p H1.length 0) (.i 2) = some (.p H1.length 2) := rfl
    refine Wp.for 3 (fun i a H' => ∃ c0 c1 c2, a 8 = .p H1.length 0 ∧ a 32 = .s 1 (H1.length + 1) 0 3 (some 3) ∧ a 33 = .i 3 ∧ a 34 = .i i ∧ H'[H1.length]? = some (.cells [.i c0, .i c1, .i c2]) ∧ H'[H1.length + 1]? = some (.cells [v, w, x]) ∧ Kp (fun b => b < H1.length) H1 H' ∧ (0 < i → ¬ badT s ∧ c0 = sgT s) ∧ (1 < i → ¬ badT t ∧ c1 = sgT t) ∧ (2 < i → ¬ badT (plusT s t) ∧ c2 = sgT (plusT s t))) ?_ ?_
    · rintro i a H2 hi ⟨c0, c1, c2, a8, a32, a33, a34, cA, cB, hk, k1, k2, k3⟩ ih
      obtain rfl | rfl | rfl | rfl : i = 0 ∨ i = 1 ∨ i = 2 ∨ i = 3 := by omega
      · clear k1
        have hS : Sl (fun b => b < H1.length) H2 v s := hs1.kp hk
        have hle : H.length ≤ H2.length := by have := hk.1; omega
        have ho := oddsT hS h1
        by_cases hb : badT s
        · rw [if_pos hb] at ho
          rw [if_neg (fun h => h.2.1 hb)]
          simp (disch := (first | assumption | omega | (simp only [List.length_append, List.length_cons, List.length_nil]; omega))) only [↓wD,wU,Nat.reduceBEq,zx150,zx151,zx159,zx160,zx161,zx162,Nat.reduceAdd,Nat.reduceSub,Nat.reduceMul,Nat.reduceLeDiff,Nat.reduceLT,Nat.reduceEqDiff,Int.reduceAdd,Int.reduceSub,Int.reduceMul,Int.reduceNeg,Int.reduceLT,Int.reduceLE,Int.reduceEq,Int.reduceToNat,Int.cast_ofNat_Int,↓reduceIte, a8, a32, a33, a34, ldn_of cB, ld_of cB, ho.call, hle]
        · rw [if_neg hb] at ho
          have cA' : (H2 ++ [Blk.cells [.i (fT s).1, .i (fT s).2]])[H1.length]? = some (.cells [.i c0, .i c1, .i c2]) := by rw [List.getElem?_append_left (by have := hk.1; have := (List.getElem?_eq_some_iff.1 cA).1; omega)]; exact cA
          have hst : st H.length (H2 ++ [Blk.cells [.i (fT s).1, .i (fT s).2]]) H1.length 0 [.i (cmpI (fT s).1 (fT s).2)] = some ((H2 ++ [Blk.cells [.i (fT s).1, .i (fT s).2]]).set H1.length (.cells [.i (cmpI (fT s).1 (fT s).2), .i c1, .i c2])) := by rw [st_of cA' (by omega) (by simp)]; simp [wr]
          simp (disch := (first | assumption | omega | (simp only [List.length_append, List.length_cons, List.length_nil]; omega))) only [↓wD,wU,Nat.reduceBEq,zx150,zx151,zx159,zx160,zx161,zx162,Nat.reduceAdd,Nat.reduceSub,Nat.reduceMul,Nat.reduceLeDiff,Nat.reduceLT,Nat.reduceEqDiff,Int.reduceAdd,Int.reduceSub,Int.reduceMul,Int.reduceNeg,Int.reduceLT,Int.reduceLE,Int.reduceEq,Int.reduceToNat,Int.cast_ofNat_Int,↓reduceIte, a8, a32, a33, a34, ldn_of cB, ld_of cB, ho.call, cmp_ret.call, hst, hle, hia0]
          have cB' : ((H2 ++ [Blk.cells [.i (fT s).1, .i (fT s).2]]).set H1.length (.cells [.i (sgT s), .i c1, .i c2]))[H1.length + 1]? = some (.cells [v, w, x]) := by rw [List.getElem?_set_ne (by omega), List.getElem?_append_left (List.getElem?_eq_some_iff.1 cB).1]; exact cB
          have hk' : Kp (fun b => b < H1.length) H1 ((H2 ++ [Blk.cells [.i (fT s).1, .i (fT s).2]]).set H1.length (.cells [.i (sgT s), .i c1, .i c2])) := (hk.trans (Kp.app _ _ _) fun _ h => h).trans (Kp.set _ _ _) fun _ h => by omega
          have cA2 := get_set cA' (k := .cells [.i (sgT s), .i c1, .i c2])
          refine (ih (by omega)).go ⟨sgT s, c1, c2, ?_⟩
          clear ih ho cA cA' hst
          simp (disch := (first | assumption | omega | (simp only [List.length_append, List.length_cons, List.length_nil]; omega))) only [↓wD,wU,Nat.reduceBEq,zx150,zx151,zx159,zx160,zx161,zx162,Nat.reduceAdd,Nat.reduceSub,Nat.reduceMul,Nat.reduceLeDiff,Nat.reduceLT,Nat.reduceEqDiff,Int.reduceAdd,Int.reduceSub,Int.reduceMul,Int.reduceNeg,Int.reduceLT,Int.reduceLE,Int.reduceEq,Int.reduceToNat,Int.cast_ofNat_Int,↓reduceIte, a8, a32, a33, a34]
          exact ⟨cA2, cB', hk', fun _ => hb, fun h => absurd h (by simp), fun h => absurd h (by simp)⟩
      · clear k2
        have hS : Sl (fun b => b < H1.length) H2 w t := ht1.kp hk
        have hle : H.length ≤ H2.length := by have := hk.1; omega
        have ho := oddsT hS h2
        by_cases hb : badT t
        · rw [if_pos hb] at ho
          rw [if_neg (fun h => h.2.2.1 hb)]
          simp (disch := (first | assumption | omega | (simp only [List.length_append, List.length_cons, List.length_nil]; omega))) only [↓wD,wU,Nat.reduceBEq,zx150,zx151,zx159,zx160,zx161,zx162,Nat.reduceAdd,Nat.reduceSub,Nat.reduceMul,Nat.reduceLeDiff,Nat.reduceLT,Nat.reduceEqDiff,Int.reduceAdd,Int.reduceSub,Int.reduceMul,Int.reduceNeg,Int.reduceLT,Int.reduceLE,Int.reduceEq,Int.reduceToNat,Int.cast_ofNat_Int,↓reduceIte, a8, a32, a33, a34, ldn_of cB, ld_of cB, ho.call, hle]
        · rw [if_neg hb] at ho
          have cA' : (H2 ++ [Blk.cells [.i (fT t).1, .i (fT t).2]])[H1.length]? = some (.cells [.i c0, .i c1, .i c2]) := by rw [List.getElem?_append_left (by have := hk.1; have := (List.getElem?_eq_some_iff.1 cA).1; omega)]; exact cA
          have hst : st H.length (H2 ++ [Blk.cells [.i (fT t).1, .i (fT t).2]]) H1.length 1 [.i (cmpI (fT t).1 (fT t).2)] = some ((H2 ++ [Blk.cells [.i (fT t).1, .i (fT t).2]]).set H1.length (.cells [.i c0, .i (cmpI (fT t).1 (fT t).2), .i c2])) := by rw [st_of cA' (by omega) (by simp)]; simp [wr]
          simp (disch := (first | assumption | omega | (simp only [List.length_append, List.length_cons, List.length_nil]; omega))) only [↓wD,wU,Nat.reduceBEq,zx150,zx151,zx159,zx160,zx161,zx162,Nat.reduceAdd,Nat.reduceSub,Nat.reduceMul,Nat.reduceLeDiff,Nat.reduceLT,Nat.reduceEqDiff,Int.reduceAdd,Int.reduceSub,Int.reduceMul,Int.reduceNeg,Int.reduceLT,Int.reduceLE,Int.reduceEq,Int.reduceToNat,Int.cast_ofNat_Int,↓reduceIte, a8, a32, a33, a34, ldn_of cB, ld_of cB, ho.call, cmp_ret.call, hst, hle, hia1]
          have cB' : ((H2 ++ [Blk.cells [.i (fT t).1, .i (fT t).2]]).set H1.length (.cells [.i c0, .i (sgT t), .i c2]))[H1.length + 1]? = some (.cells [v, w, x]) := by rw [List.getElem?_set_ne (by omega), List.getElem?_append_left (List.getElem?_eq_some_iff.1 cB).1]; exact cB
          have hk' : Kp (fun b => b < H1.length) H1 ((H2 ++ [Blk.cells [.i (fT t).1, .i (fT t).2]]).set H1.length (.cells [.i c0, .i (sgT t), .i c2])) := (hk.trans (Kp.app _ _ _) fun _ h => h).trans (Kp.set _ _ _) fun _ h => by omega
          have cA2 := get_set cA' (k := .cells [.i c0, .i (sgT t), .i c2])
          refine (ih (by omega)).go ⟨c0, sgT t, c2, ?_⟩
          clear ih ho cA cA' hst
          simp (disch := (first | assumption | omega | (simp only [List.length_append, List.length_cons, List.length_nil]; omega))) only [↓wD,wU,Nat.reduceBEq,zx150,zx151,zx159,zx160,zx161,zx162,Nat.reduceAdd,Nat.reduceSub,Nat.reduceMul,Nat.reduceLeDiff,Nat.reduceLT,Nat.reduceEqDiff,Int.reduceAdd,Int.reduceSub,Int.reduceMul,Int.reduceNeg,Int.reduceLT,Int.reduceLE,Int.reduceEq,Int.reduceToNat,Int.cast_ofNat_Int,↓reduceIte, a8, a32, a33, a34]
          exact ⟨cA2, cB', hk', fun _ => k1 (by omega), fun _ => hb, fun h => absurd h (by simp)⟩
      · clear k3
        have hS : Sl (fun b => b < H1.length) H2 x (plusT s t) := hxs.kp hk
        have hle : H.length ≤ H2.length := by have := hk.1; omega
        have ho := oddsT hS h3
        by_cases hb : badT (plusT s t)
        · rw [if_pos hb] at ho
          rw [if_neg (fun h => h.2.2.2 hb)]
          simp (disch := (first | assumption | omega | (simp only [List.length_append, List.length_cons, List.length_nil]; omega))) only [↓wD,wU,Nat.reduceBEq,zx150,zx151,zx159,zx160,zx161,zx162,Nat.reduceAdd,Nat.reduceSub,Nat.reduceMul,Nat.reduceLeDiff,Nat.reduceLT,Nat.reduceEqDiff,Int.reduceAdd,Int.reduceSub,Int.reduceMul,Int.reduceNeg,Int.reduceLT,Int.reduceLE,Int.reduceEq,Int.reduceToNat,Int.cast_ofNat_Int,↓reduceIte, a8, a32, a33, a34, ldn_of cB, ld_of cB, ho.call, hle]
        · rw [if_neg hb] at ho
          have cA' : (H2 ++ [Blk.cells [.i (fT (plusT s t)).1, .i (fT (plusT s t)).2]])[H1.length]? = some (.cells [.i c0, .i c1, .i c2]) := by rw [List.getElem?_append_left (by have := hk.1; have := (List.getElem?_eq_some_iff.1 cA).1; omega)]; exact cA
          have hst : st H.length (H2 ++ [Blk.cells [.i (fT (plusT s t)).1, .i (fT (plusT s t)).2]]) H1.length 2 [.i (cmpI (fT (plusT s t)).1 (fT (plusT s t)).2)] = some ((H2 ++ [Blk.cells [.i (fT (plusT s t)).1, .i (fT (plusT s t)).2]]).set H1.length (.cells [.i c0, .i c1, .i (cmpI (fT (plusT s t)).1 (fT (plusT s t)).2)])) := by rw [st_of cA' (by omega) (by simp)]; simp [wr]
          simp (disch := (first | assumption | omega | (simp only [List.length_append, List.length_cons, List.length_nil]; omega))) only [↓wD,wU,Nat.reduceBEq,zx150,zx151,zx159,zx160,zx161,zx162,Nat.reduceAdd,Nat.reduceSub,Nat.reduceMul,Nat.reduceLeDiff,Nat.reduceLT,Nat.reduceEqDiff,Int.reduceAdd,Int.reduceSub,Int.reduceMul,Int.reduceNeg,Int.reduceLT,Int.reduceLE,Int.reduceEq,Int.reduceToNat,Int.cast_ofNat_Int,↓reduceIte, a8, a32, a33, a34, ldn_of cB, ld_of cB, ho.call, cmp_ret.call, hst, hle, hia2]
          have cB' : ((H2 ++ [Blk.cells [.i (fT (plusT s t)).1, .i (fT (plusT s t)).2]]).set H1.length (.cells [.i c0, .i c1, .i (sgT (plusT s t))]))[H1.length + 1]? = some (.cells [v, w, x]) := by rw [List.getElem?_set_ne (by omega), List.getElem?_append_left (List.getElem?_eq_some_iff.1 cB).1]; exact cB
          have hk' : Kp (fun b => b < H1.length) H1 ((H2 ++ [Blk.cells [.i (fT (plusT s t)).1, .i (fT (plusT s t)).2]]).set H1.length (.cells [.i c0, .i c1, .i (sgT (plusT s t))])) := (hk.trans (Kp.app _ _ _) fun _ h => h).trans (Kp.set _ _ _) fun _ h => by omega
          have cA2 := get_set cA' (k := .cells [.i c0, .i c1, .i (sgT (plusT s t))])
          refine (ih (by omega)).go ⟨c0, c1, sgT (plusT s t), ?_⟩
          clear ih ho cA cA' hst
          simp (disch := (first | assumption | omega | (simp only [List.length_append, List.length_cons, List.length_nil]; omega))) only [↓wD,wU,Nat.reduceBEq,zx150,zx151,zx159,zx160,zx161,zx162,Nat.reduceAdd,Nat.reduceSub,Nat.reduceMul,Nat.reduceLeDiff,Nat.reduceLT,Nat.reduceEqDiff,Int.reduceAdd,Int.reduceSub,Int.reduceMul,Int.reduceNeg,Int.reduceLT,Int.reduceLE,Int.reduceEq,Int.reduceToNat,Int.cast_ofNat_Int,↓reduceIte, a8, a32, a33, a34]
          exact ⟨cA2, cB', hk', fun _ => k1 (by omega), fun _ => k2 (by omega), fun _ => hb⟩
      · obtain ⟨b1, rfl⟩ := k1 (by omega)
        obtain ⟨b2, rfl⟩ := k2 (by omega)
        obtain ⟨b3, rfl⟩ := k3 (by omega)
        rw [if_pos ⟨hp, b1, b2, b3⟩]
        have e1 : aeqV false 3 (.ag [.i (sgT s), .i (sgT t), .i (sgT (plusT s t))]) (.ag [.int .i64 1, .int .i64 1, .int .i64 (-1)]) = some (.b (decide (sgT s = 1 ∧ sgT t = 1 ∧ sgT (plusT s t) = -1))) := aeq3
        have e2 : aeqV false 3 (.ag [.i (sgT s), .i (sgT t), .i (sgT (plusT s t))]) (.ag [.int .i64 (-1), .int .i64 (-1), .int .i64 1]) = some (.b (decide (sgT s = -1 ∧ sgT t = -1 ∧ sgT (plusT s t) = 1))) := aeq3
        by_cases g1 : sgT s = 1 ∧ sgT t = 1 ∧ sgT (plusT s t) = -1
        · rw [decide_eq_true g1] at e1
          have eh : hidB s t (plusT s t) = true := decide_eq_true (.inl g1)
          clear g1
          simp (disch := (first | assumption | omega | (simp only [List.length_append, List.length_cons, List.length_nil]; omega))) only [↓wD,wU,Nat.reduceBEq,zx150,zx151,zx159,zx160,zx161,zx162,Nat.reduceAdd,Nat.reduceSub,Nat.reduceMul,Nat.reduceLeDiff,Nat.reduceLT,Nat.reduceEqDiff,Int.reduceAdd,Int.reduceSub,Int.reduceMul,Int.reduceNeg,Int.reduceLT,Int.reduceLE,Int.reduceEq,Int.reduceToNat,Int.cast_ofNat_Int,↓reduceIte, a8, a32, a33, a34, ldn_of cA, e1, eh]
        · rw [decide_eq_false g1] at e1
          by_cases g2 : sgT s = -1 ∧ sgT t = -1 ∧ sgT (plusT s t) = 1
          · rw [decide_eq_true g2] at e2
            have eh : hidB s t (plusT s t) = true := decide_eq_true (.inr g2)
            clear g1 g2
            simp (disch := (first | assumption | omega | (simp only [List.length_append, List.length_cons, List.length_nil]; omega))) only [↓wD,wU,Nat.reduceBEq,zx150,zx151,zx159,zx160,zx161,zx162,Nat.reduceAdd,Nat.reduceSub,Nat.reduceMul,Nat.reduceLeDiff,Nat.reduceLT,Nat.reduceEqDiff,Int.reduceAdd,Int.reduceSub,Int.reduceMul,Int.reduceNeg,Int.reduceLT,Int.reduceLE,Int.reduceEq,Int.reduceToNat,Int.cast_ofNat_Int,↓reduceIte, a8, a32, a33, a34, ldn_of cA, e1, e2, eh]
          · rw [decide_eq_false g2] at e2
            have eh : hidB s t (plusT s t) = false := decide_eq_false fun h => h.elim g1 g2
            clear g1 g2
            simp (disch := (first | assumption | omega | (simp only [List.length_append, List.length_cons, List.length_nil]; omega))) only [↓wD,wU,Nat.reduceBEq,zx150,zx151,zx159,zx160,zx161,zx162,Nat.reduceAdd,Nat.reduceSub,Nat.reduceMul,Nat.reduceLeDiff,Nat.reduceLT,Nat.reduceEqDiff,Int.reduceAdd,Int.reduceSub,Int.reduceMul,Int.reduceNeg,Int.reduceLT,Int.reduceLE,Int.reduceEq,Int.reduceToNat,Int.cast_ofNat_Int,↓reduceIte, a8, a32, a33, a34, ldn_of cA, e1, e2, eh]
    · simp (disch := (first | assumption | omega | (simp only [List.length_append, List.length_cons, List.length_nil]; omega))) only [↓wD,wU,Nat.reduceBEq,zx150,zx151,zx159,zx160,zx161,zx162,Nat.reduceAdd,Nat.reduceSub,Nat.reduceMul,Nat.reduceLeDiff,Nat.reduceLT,Nat.reduceEqDiff,Int.reduceAdd,Int.reduceSub,Int.reduceMul,Int.reduceNeg,Int.reduceLT,Int.reduceLE,Int.reduceEq,Int.reduceToNat,Int.cast_ofNat_Int,↓reduceIte]
      refine ⟨0, 0, 0, rfl, ?_, by intro h; exact h.elim, by intro h; exact h.elim, by intro h; exact h.elim⟩
      exact (Kp.app _ _ _).trans (Kp.app _ _ _) fun _ h => h
  · rw [if_neg hp] at hy
    obtain ⟨x, _, rfl, hx, rfl⟩ := rv2 hy
    rw [if_neg (fun h => hp h.1)]
    simp (disch := (first | assumption | omega | (simp only [List.length_append, List.length_cons, List.length_nil]; omega))) only [↓wD,wU,Nat.reduceBEq,zx150,zx151,zx159,zx160,zx161,zx162,Nat.reduceAdd,Nat.reduceSub,Nat.reduceMul,Nat.reduceLeDiff,Nat.reduceLT,Nat.reduceEqDiff,Int.reduceAdd,Int.reduceSub,Int.reduceMul,Int.reduceNeg,Int.reduceLT,Int.reduceLE,Int.reduceEq,Int.reduceToNat,Int.cast_ofNat_Int,↓reduceIte]
end Go.Proofs.Ytflekaacffdakaa
namespace Go.Proofs.Ytflekaacffdakaa
open Go Go.AM Go.Proofs
theorem hid_c {s t u : List (List Int)} (x : Bool) (h : x = true ↔ ((fT s).2 < (fT s).1 ∧ (fT t).2 < (fT t).1 ∧ (fT u).1 < (fT u).2) ∨ ((fT s).1 < (fT s).2 ∧ (fT t).1 < (fT t).2 ∧ (fT u).2 < (fT u).1)) : x = hidB s t u := by
  have : x = true ↔ hidB s t u = true := by
    rw [h]
    unfold hidB
    rw [decide_eq_true_iff, sgT_p, sgT_p, sgT_p, sgT_m, sgT_m, sgT_m]
  cases x <;> cases hh : hidB s t u <;> simp [hh] at this ⊢
theorem rhidden_ret {p q : Nat → Prop} {H : Heap} {v w : AV} {s t : List (List Int)} (hs : Sl p H v s) (ht : Sl q H w t) (h1 : Four s) (h2 : Four t) : RetP E 48 [v, w] H (if TabOk (plusT s t) ∧ ¬ badT s ∧ ¬ badT t ∧ ¬ badT (plusT s t) then .tp [.b (hidB s t (plusT s t)), .i 0] else .tp [.b false, .i 5]) := by
  refine RetP.ro rfl fn48 rfl (by split <;> rfl) ?_
  unfold f48A
  have hsl : Sl (fun b => b < H.length) H v s := hs.low.weak fun _ h => h.2
  have htl : Sl (fun b => b < H.length) H w t := ht.low.weak fun _ h => h.2
  simp (disch := (first | assumption | omega | (simp only [List.length_append, List.length_cons, List.length_nil]; omega))) only [↓wD,wU,Nat.reduceBEq,zx150,zx151,zx159,zx160,zx161,zx162,Nat.reduceAdd,Nat.reduceSub,Nat.reduceMul,Nat.reduceLeDiff,Nat.reduceLT,Nat.reduceEqDiff,Int.reduceAdd,Int.reduceSub,Int.reduceMul,Int.reduceNeg,Int.reduceLT,Int.reduceLE,Int.reduceEq,Int.reduceToNat,Int.cast_ofNat_Int,↓reduceIte]
  refine (rplus_ret hs ht (h1.dm h2)).to fun y H1 hg1 hy => ?_
  have hl1 := hg1.1
  by_cases hp : TabOk (plusT s t)
  · rw [if_pos hp] at hy
    obtain ⟨x, _, rfl, hx, rfl⟩ := rv2 hy
    have hxs : Sl (fun b => b < H1.length) H1 x (plusT s t) := (rvs hx).low.weak fun _ h => h.2
    have hs1 : Sl (fun b => b < H1.length) H1 v s := (hsl.gr hg1).low.weak fun _ h => h.2
    have ht1 : Sl (fun b => b < H1.length) H1 w t := (htl.gr hg1).low.weak fun _ h => h.2
    have h3 := h1.sum hp
    clear hx hy hs ht hsl htl
    have o1 := roddsT hs1 h1
    by_cases b1 : badT s
    · rw [if_pos b1] at o1
      rw [if_neg (fun h => h.2.1 b1)]
      have k1 := ht1.app [.cells [.i 0, .i 0]]
      have o2 := roddsT k1 h2
      by_cases b2 : badT t
      · rw [if_pos b2] at o2
        have k2 := (hxs.app [.cells [.i 0, .i 0]]).app [.cells [.i 0, .i 0]]
        have o3 := roddsT k2 h3
        by_cases b3 : badT (plusT s t)
        · rw [if_pos b3] at o3
          simp (disch := (first | assumption | omega | (simp only [List.length_append, List.length_cons, List.length_nil]; omega))) only [↓wD,wU,Nat.reduceBEq,zx150,zx151,zx159,zx160,zx161,zx162,Nat.reduceAdd,Nat.reduceSub,Nat.reduceMul,Nat.reduceLeDiff,Nat.reduceLT,Nat.reduceEqDiff,Int.reduceAdd,Int.reduceSub,Int.reduceMul,Int.reduceNeg,Int.reduceLT,Int.reduceLE,Int.reduceEq,Int.reduceToNat,Int.cast_ofNat_Int,↓reduceIte, o1.call, o2.call, o3.call, hl1]
        · rw [if_neg b3] at o3
          simp (disch := (first | assumption | omega | (simp only [List.length_append, List.length_cons, List.length_nil]; omega))) only [↓wD,wU,Nat.reduceBEq,zx150,zx151,zx159,zx160,zx161,zx162,Nat.reduceAdd,Nat.reduceSub,Nat.reduceMul,Nat.reduceLeDiff,Nat.reduceLT,Nat.reduceEqDiff,Int.reduceAdd,Int.reduceSub,Int.reduceMul,Int.reduceNeg,Int.reduceLT,Int.reduceLE,Int.reduceEq,Int.reduceToNat,Int.cast_ofNat_Int,↓reduceIte, o1.call, o2.call, o3.call, hl1]
      · rw [if_neg b2] at o2
        have k2 := (hxs.app [.cells [.i 0, .i 0]]).app [.cells [.i (fT t).1, .i (fT t).2]]
        have o3 := roddsT k2 h3
        by_cases b3 : badT (plusT s t)
        · rw [if_pos b3] at o3
          simp (disch := (first | assumption | omega | (simp only [List.length_append, List.length_cons, List.length_nil]; omega))) only [↓wD,wU,Nat.reduceBEq,zx150,zx151,zx159,zx160,zx161,zx162,Nat.reduceAdd,Nat.reduceSub,Nat.reduceMul,Nat.reduceLeDiff,Nat.reduceLT,Nat.reduceEqDiff,Int.reduceAdd,Int.reduceSub,Int.reduceMul,Int.reduceNeg,Int.reduceLT,Int.reduceLE,Int.reduceEq,Int.reduceToNat,Int.cast_ofNat_Int,↓reduceIte, o1.call, o2.call, o3.call, hl1]
        · rw [if_neg b3] at o3
          simp (disch := (first | assumption | omega | (simp only [List.length_append, List.length_cons, List.length_nil]; omega))) only [↓wD,wU,Nat.reduceBEq,zx150,zx151,zx159,zx160,zx161,zx162,Nat.reduceAdd,Nat.reduceSub,Nat.reduceMul,Nat.reduceLeDiff,Nat.reduceLT,Nat.reduceEqDiff,Int.reduceAdd,Int.reduceSub,Int.reduceMul,Int.reduceNeg,Int.reduceLT,Int.reduceLE,Int.reduceEq,Int.reduceToNat,Int.cast_ofNat_Int,↓reduceIte, o1.call, o2.call, o3.call, hl1]
    · rw [if_neg b1] at o1
      have k1 := ht1.app [.cells [.i (fT s).1, .i (fT s).2]]
      have o2 := roddsT k1 h2
      by_cases b2 : badT t
      · rw [if_pos b2] at o2
        rw [if_neg (fun h => h.2.2.1 b2)]
        have k2 := (hxs.app [.cells [.i (fT s).1, .i (fT s).2]]).app [.cells [.i 0, .i 0]]
        have o3 := roddsT k2 h3
        by_cases b3 : badT (plusT s t)
        · rw [if_pos b3] at o3
          simp (disch := (first | assumption | omega | (simp only [List.length_append, List.length_cons, List.length_nil]; omega))) only [↓wD,wU,Nat.reduceBEq,zx150,zx151,zx159,zx160,zx161,zx162,Nat.reduceAdd,Nat.reduceSub,Nat.reduceMul,Nat.reduceLeDiff,Nat.reduceLT,Nat.reduceEqDiff,Int.reduceAdd,Int.reduceSub,Int.reduceMul,Int.reduceNeg,Int.reduceLT,Int.reduceLE,Int.reduceEq,Int.reduceToNat,Int.cast_ofNat_Int,↓reduceIte, o1.call, o2.call, o3.call, hl1]
        · rw [if_neg b3] at o3
          simp (disch := (first | assumption | omega | (simp only [List.length_append, List.length_cons, List.length_nil]; omega))) only [↓wD,wU,Nat.reduceBEq,zx150,zx151,zx159,zx160,zx161,zx162,Nat.reduceAdd,Nat.reduceSub,Nat.reduceMul,Nat.reduceLeDiff,Nat.reduceLT,Nat.reduceEqDiff,Int.reduceAdd,Int.reduceSub,Int.reduceMul,Int.reduceNeg,Int.reduceLT,Int.reduceLE,Int.reduceEq,Int.reduceToNat,Int.cast_ofNat_Int,↓reduceIte, o1.call, o2.call, o3.call, hl1]
      · rw [if_neg b2] at o2
        have k2 := (hxs.app [.cells [.i (fT s).1, .i (fT s).2]]).app [.cells [.i (fT t).1, .i (fT t).2]]
        have o3 := roddsT k2 h3
        by_cases b3 : badT (plusT s t)
        · rw [if_pos b3] at o3
          rw [if_neg (fun h => h.2.2.2 b3)]
          simp (disch := (first | assumption | omega | (simp only [List.length_append, List.length_cons, List.length_nil]; omega))) only [↓wD,wU,Nat.reduceBEq,zx150,zx151,zx159,zx160,zx161,zx162,Nat.reduceAdd,Nat.reduceSub,Nat.reduceMul,Nat.reduceLeDiff,Nat.reduceLT,Nat.reduceEqDiff,Int.reduceAdd,Int.reduceSub,Int.reduceMul,Int.reduceNeg,Int.reduceLT,Int.reduceLE,Int.reduceEq,Int.reduceToNat,Int.cast_ofNat_Int,↓reduceIte, o1.call, o2.call, o3.call, hl1]
        · rw [if_neg b3] at o3
          rw [if_pos ⟨hp, b1, b2, b3⟩]
          obtain ⟨m1, m2⟩ := fT_small h1 b1
          obtain ⟨n1, n2⟩ := fT_small h2 b2
          obtain ⟨r1, r2⟩ := fT_small h3 b3
          have eh := hid_c (s := s) (t := t) (u := plusT s t)
          generalize hidB s t (plusT s t) = B at eh ⊢
          generalize (fT s).1 = x1, (fT s).2 = x2, (fT t).1 = y1, (fT t).2 = y2, (fT (plusT s t)).1 = z1, (fT (plusT s t)).2 = z2 at *
          have u0 : (0 : Int) ≤ 1 ∧ (1 : Int) ≤ 256 := by omega
          have l1 := fun {H : Heap} => less_ret (H := H) (x := 1) (y := 1) (z := x1) (w := x2) u0 u0 m1 (by omega)
          have l2 := fun {H : Heap} => less_ret (H := H) (x := 1) (y := 1) (z := y1) (w := y2) u0 u0 n1 (by omega)
          have l3 := fun {H : Heap} => less_ret (H := H) (x := z1) (y := z2) (z := 1) (w := 1) r1 (by omega) u0 u0
          have l4 := fun {H : Heap} => less_ret (H := H) (x := x1) (y := x2) (z := 1) (w := 1) m1 (by omega) u0 u0
          have l5 := fun {H : Heap} => less_ret (H := H) (x := y1) (y := y2) (z := 1) (w := 1) n1 (by omega) u0 u0
          have l6 := fun {H : Heap} => less_ret (H := H) (x := 1) (y := 1) (z := z1) (w := z2) u0 u0 r1 (by omega)
          have lv : ∀ b1 b2 b3 b4 b5 b6 : Bool, b1 = decide (1 * x2 < x1 * 1) → b2 = decide (1 * y2 < y1 * 1) → b3 = decide (z1 * 1 < 1 * z2) → b4 = decide (x1 * 1 < 1 * x2) → b5 = decide (y1 * 1 < 1 * y2) → b6 = decide (1 * z2 < z1 * 1) → (b1 && b2 && b3 || b4 && b5 && b6) = B := by
            rintro b1 b2 b3 b4 b5 b6 rfl rfl rfl rfl rfl rfl
            apply eh
            simp only [Bool.or_eq_true, Bool.and_eq_true, decide_eq_true_iff, Int.one_mul, Int.mul_one, and_assoc]
          obtain ⟨c1, g1⟩ : ∃ c, c = decide (1 * x2 < x1 * 1) := ⟨_, rfl⟩
          obtain ⟨c2, g2⟩ : ∃ c, c = decide (1 * y2 < y1 * 1) := ⟨_, rfl⟩
          obtain ⟨c3, g3⟩ : ∃ c, c = decide (z1 * 1 < 1 * z2) := ⟨_, rfl⟩
          obtain ⟨c4, g4⟩ : ∃ c, c = decide (x1 * 1 < 1 * x2) := ⟨_, rfl⟩
          obtain ⟨c5, g5⟩ : ∃ c, c = decide (y1 * 1 < 1 * y2) := ⟨_, rfl⟩
          obtain ⟨c6, g6⟩ : ∃ c, c = decide (1 * z2 < z1 * 1) := ⟨_, rfl⟩
          have hB := lv c1 c2 c3 c4 c5 c6 g1 g2 g3 g4 g5 g6
          rw [← g1] at l1
          rw [← g2] at l2
          rw [← g3] at l3
          rw [← g4] at l4
          rw [← g5] at l5
          rw [← g6] at l6
          clear lv eh g1 g2 g3 g4 g5 g6 m1 m2 n1 n2 r1 r2 h1 h2 h3 hp b1 b2 b3
          subst hB
          cases c1 with
          | false =>
            cases c4 with
            | false => simp (disch := (first | assumption | omega | (simp only [List.length_append, List.length_cons, List.length_nil]; omega))) only [↓wD,wU,Nat.reduceBEq,zx150,zx151,zx159,zx160,zx161,zx162,Nat.reduceAdd,Nat.reduceSub,Nat.reduceMul,Nat.reduceLeDiff,Nat.reduceLT,Nat.reduceEqDiff,Int.reduceAdd,Int.reduceSub,Int.reduceMul,Int.reduceNeg,Int.reduceLT,Int.reduceLE,Int.reduceEq,Int.reduceToNat,Int.cast_ofNat_Int,↓reduceIte, o1.call, o2.call, o3.call, hl1, l1.call, l2.call, l3.call, l4.call, l5.call, l6.call]
            | true =>
              cases c5 with
              | false => simp (disch := (first | assumption | omega | (simp only [List.length_append, List.length_cons, List.length_nil]; omega))) only [↓wD,wU,Nat.reduceBEq,zx150,zx151,zx159,zx160,zx161,zx162,Nat.reduceAdd,Nat.reduceSub,Nat.reduceMul,Nat.reduceLeDiff,Nat.reduceLT,Nat.reduceEqDiff,Int.reduceAdd,Int.reduceSub,Int.reduceMul,Int.reduceNeg,Int.reduceLT,Int.reduceLE,Int.reduceEq,Int.reduceToNat,Int.cast_ofNat_Int,↓reduceIte, o1.call, o2.call, o3.call, hl1, l1.call, l2.call, l3.call, l4.call, l5.call, l6.call]
              | true => simp (disch := (first | assumption | omega | (simp only [List.length_append, List.length_cons, List.length_nil]; omega))) only [↓wD,wU,Nat.reduceBEq,zx150,zx151,zx159,zx160,zx161,zx162,Nat.reduceAdd,Nat.reduceSub,Nat.reduceMul,Nat.reduceLeDiff,Nat.reduceLT,Nat.reduceEqDiff,Int.reduceAdd,Int.reduceSub,Int.reduceMul,Int.reduceNeg,Int.reduceLT,Int.reduceLE,Int.reduceEq,Int.reduceToNat,Int.cast_ofNat_Int,↓reduceIte, o1.call, o2.call, o3.call, hl1, l1.call, l2.call, l3.call, l4.call, l5.call, l6.call]
          | true =>
            cases c2 with
            | false =>
              cases c4 with
              | false => simp (disch := (first | assumption | omega | (simp only [List.length_append, List.length_cons, List.length_nil]; omega))) only [↓wD,wU,Nat.reduceBEq,zx150,zx151,zx159,zx160,zx161,zx162,Nat.reduceAdd,Nat.reduceSub,Nat.reduceMul,Nat.reduceLeDiff,Nat.reduceLT,Nat.reduceEqDiff,Int.reduceAdd,Int.reduceSub,Int.reduceMul,Int.reduceNeg,Int.reduceLT,Int.reduceLE,Int.reduceEq,Int.reduceToNat,Int.cast_ofNat_Int,↓reduceIte, o1.call, o2.call, o3.call, hl1, l1.call, l2.call, l3.call, l4.call, l5.call, l6.call]
              | true =>
                cases c5 with
                | false => simp (disch := (first | assumption | omega | (simp only [List.length_append, List.length_cons, List.length_nil]; omega))) only [↓wD,wU,Nat.reduceBEq,zx150,zx151,zx159,zx160,zx161,zx162,Nat.reduceAdd,Nat.reduceSub,Nat.reduceMul,Nat.reduceLeDiff,Nat.reduceLT,Nat.reduceEqDiff,Int.reduceAdd,Int.reduceSub,Int.reduceMul,Int.reduceNeg,Int.reduceLT,Int.reduceLE,Int.reduceEq,Int.reduceToNat,Int.cast_ofNat_Int,↓reduceIte, o1.call, o2.call, o3.call, hl1, l1.call, l2.call, l3.call, l4.call, l5.call, l6.call]
                | true => simp (disch := (first | assumption | omega | (simp only [List.length_append, List.length_cons, List.length_nil]; omega))) only [↓wD,wU,Nat.reduceBEq,zx150,zx151,zx159,zx160,zx161,zx162,Nat.reduceAdd,Nat.reduceSub,Nat.reduceMul,Nat.reduceLeDiff,Nat.reduceLT,Nat.reduceEqDiff,Int.reduceAdd,Int.reduceSub,Int.reduceMul,Int.reduceNeg,Int.reduceLT,Int.reduceLE,Int.reduceEq,Int.reduceToNat,Int.cast_ofNat_Int,↓reduceIte, o1.call, o2.call, o3.call, hl1, l1.call, l2.call, l3.call, l4.call, l5.call, l6.call]
            | true =>
              cases c3 with
              | false =>
                cases c4 with
                | false => simp (disch := (first | assumption | omega | (simp only [List.length_append, List.length_cons, List.length_nil]; omega))) only [↓wD,wU,Nat.reduceBEq,zx150,zx151,zx159,zx160,zx161,zx162,Nat.reduceAdd,Nat.reduceSub,Nat.reduceMul,Nat.reduceLeDiff,Nat.reduceLT,Nat.reduceEqDiff,Int.reduceAdd,Int.reduceSub,Int.reduceMul,Int.reduceNeg,Int.reduceLT,Int.reduceLE,Int.reduceEq,Int.reduceToNat,Int.cast_ofNat_Int,↓reduceIte, o1.call, o2.call, o3.call, hl1, l1.call, l2.call, l3.call, l4.call, l5.call, l6.call]
                | true =>
                  cases c5 with
                  | false => simp (disch := (first | assumption | omega | (simp only [List.length_append, List.length_cons, List.length_nil]; omega))) only [↓wD,wU,Nat.reduceBEq,zx150,zx151,zx159,zx160,zx161,zx162,Nat.reduceAdd,Nat.reduceSub,Nat.reduceMul,Nat.reduceLeDiff,Nat.reduceLT,Nat.reduceEqDiff,Int.reduceAdd,Int.reduceSub,Int.reduceMul,Int.reduceNeg,Int.reduceLT,Int.reduceLE,Int.reduceEq,Int.reduceToNat,Int.cast_ofNat_Int,↓reduceIte, o1.call, o2.call, o3.call, hl1, l1.call, l2.call, l3.call, l4.call, l5.call, l6.call]
                  | true => simp (disch := (first | assumption | omega | (simp only [List.length_append, List.length_cons, List.length_nil]; omega))) only [↓wD,wU,Nat.reduceBEq,zx150,zx151,zx159,zx160,zx161,zx162,Nat.reduceAdd,Nat.reduceSub,Nat.reduceMul,Nat.reduceLeDiff,Nat.reduceLT,Nat.reduceEqDiff,Int.reduceAdd,Int.reduceSub,Int.reduceMul,Int.reduceNeg,Int.reduceLT,Int.reduceLE,Int.reduceEq,Int.reduceToNat,Int.cast_ofNat_Int,↓reduceIte, o1.call, o2.call, o3.call, hl1, l1.call, l2.call, l3.call, l4.call, l5.call, l6.call]
              | true => simp (disch := (first | assumption | omega | (simp only [List.length_append, List.length_cons, List.length_nil]; omega))) only [↓wD,wU,Nat.reduceBEq,zx150,zx151,zx159,zx160,zx161,zx162,Nat.reduceAdd,Nat.reduceSub,Nat.reduceMul,Nat.reduceLeDiff,Nat.reduceLT,Nat.reduceEqDiff,Int.reduceAdd,Int.reduceSub,Int.reduceMul,Int.reduceNeg,Int.reduceLT,Int.reduceLE,Int.reduceEq,Int.reduceToNat,Int.cast_ofNat_Int,↓reduceIte, o1.call, o2.call, o3.call, hl1, l1.call, l2.call, l3.call, l4.call, l5.call, l6.call]
  · rw [if_neg hp] at hy
    obtain ⟨x, _, rfl, hx, rfl⟩ := rv2 hy
    rw [if_neg (fun h => hp h.1)]
    simp (disch := (first | assumption | omega | (simp only [List.length_append, List.length_cons, List.length_nil]; omega))) only [↓wD,wU,Nat.reduceBEq,zx150,zx151,zx159,zx160,zx161,zx162,Nat.reduceAdd,Nat.reduceSub,Nat.reduceMul,Nat.reduceLeDiff,Nat.reduceLT,Nat.reduceEqDiff,Int.reduceAdd,Int.reduceSub,Int.reduceMul,Int.reduceNeg,Int.reduceLT,Int.reduceLE,Int.reduceEq,Int.reduceToNat,Int.cast_ofNat_Int,↓reduceIte]
end Go.Proofs.Ytflekaacffdakaa
namespace Go.Proofs.Ytflekaacffdakaa
open Go Go.AM Go.Proofs
theorem Walk.CountsHidden (H : Heap) (u : AV) (s : List (List Int)) (hs : Sl (fun b => b < H.length) H u s) (sz : s.length * 24 ≤ 140737488351232) (w : AV) (t : List (List Int)) (ht : Sl (fun b => b < H.length) H w t) (szt : t.length * 24 ≤ 140737488351232) : WpF E H.length 12 [u, w] H fun v _ => v = .b true := by
  refine law_of (RetP.ro rfl fn12 rfl rfl ?_)
  unfold f12A
  simp (disch := (first | assumption | omega | (simp only [List.length_append, List.length_cons, List.length_nil]; omega))) only [↓wD,wU,Nat.reduceBEq,zx150,zx151,zx159,zx160,zx161,zx162,Nat.reduceAdd,Nat.reduceSub,Nat.reduceMul,Nat.reduceLeDiff,Nat.reduceLT,Nat.reduceEqDiff,Int.reduceAdd,Int.reduceSub,Int.reduceMul,Int.reduceNeg,Int.reduceLT,Int.reduceLE,Int.reduceEq,Int.reduceToNat,Int.cast_ofNat_Int,↓reduceIte]
  refine (table_ret hs).toF fun y1 H1 hg1 hy1 => ?_
  have hs1 := hs.gr hg1
  have ht1 := ht.gr hg1
  have hl1 := hg1.1
  simp (disch := (first | assumption | omega | (simp only [List.length_append, List.length_cons, List.length_nil]; omega))) only [↓wD,wU,Nat.reduceBEq,zx150,zx151,zx159,zx160,zx161,zx162,Nat.reduceAdd,Nat.reduceSub,Nat.reduceMul,Nat.reduceLeDiff,Nat.reduceLT,Nat.reduceEqDiff,Int.reduceAdd,Int.reduceSub,Int.reduceMul,Int.reduceNeg,Int.reduceLT,Int.reduceLE,Int.reduceEq,Int.reduceToNat,Int.cast_ofNat_Int,↓reduceIte]
  refine (table_ret ht1).toF fun y2 H2 hg2 hy2 => ?_
  have hs2 := hs1.gr hg2
  have ht2 := ht1.gr hg2
  have hl2 := hg2.1
  have hy1 := hy1.gr hg2
  by_cases hD : Dm s t
  · have c1 := cutT_ok hD.1
    have c2 := cutT_ok hD.2.1
    rw [c1] at hy1
    rw [c2] at hy2
    simp (disch := (first | assumption | omega | (simp only [List.length_append, List.length_cons, List.length_nil]; omega))) only [↓wD,wU,Nat.reduceBEq,zx150,zx151,zx159,zx160,zx161,zx162,Nat.reduceAdd,Nat.reduceSub,Nat.reduceMul,Nat.reduceLeDiff,Nat.reduceLT,Nat.reduceEqDiff,Int.reduceAdd,Int.reduceSub,Int.reduceMul,Int.reduceNeg,Int.reduceLT,Int.reduceLE,Int.reduceEq,Int.reduceToNat,Int.cast_ofNat_Int,↓reduceIte]
    refine (plus_ret hy1 hy2 hD).to fun z H3 hg3 hz => ?_
    have hs3 := hs2.gr hg3
    have ht3 := ht2.gr hg3
    have hl3 := hg3.1
    obtain ⟨T, e, hT⟩ : ∃ (T : List (List Int)) (e : Int), (if TabOk (plusT s t) then T2.mk (plusT s t) (0 : Int) else T2.mk ([] : List (List Int)) (4 : Int)) = T2.mk T e := by split <;> exact ⟨_, _, rfl⟩
    rw [hT] at hz
    obtain ⟨x, _, rfl, hx, rfl⟩ := rv2 hz
    replace hx := rvs hx
    simp (disch := (first | assumption | omega | (simp only [List.length_append, List.length_cons, List.length_nil]; omega))) only [↓wD,wU,Nat.reduceBEq,zx150,zx151,zx159,zx160,zx161,zx162,Nat.reduceAdd,Nat.reduceSub,Nat.reduceMul,Nat.reduceLeDiff,Nat.reduceLT,Nat.reduceEqDiff,Int.reduceAdd,Int.reduceSub,Int.reduceMul,Int.reduceNeg,Int.reduceLT,Int.reduceLE,Int.reduceEq,Int.reduceToNat,Int.cast_ofNat_Int,↓reduceIte]
    refine (table_ret hs3).toF fun y3 H4 hg4 hy3 => ?_
    have hs4 := hs3.gr hg4
    have ht4 := ht3.gr hg4
    have hl4 := hg4.1
    have hx4 := hx.gr hg4
    simp (disch := (first | assumption | omega | (simp only [List.length_append, List.length_cons, List.length_nil]; omega))) only [↓wD,wU,Nat.reduceBEq,zx150,zx151,zx159,zx160,zx161,zx162,Nat.reduceAdd,Nat.reduceSub,Nat.reduceMul,Nat.reduceLeDiff,Nat.reduceLT,Nat.reduceEqDiff,Int.reduceAdd,Int.reduceSub,Int.reduceMul,Int.reduceNeg,Int.reduceLT,Int.reduceLE,Int.reduceEq,Int.reduceToNat,Int.cast_ofNat_Int,↓reduceIte]
    refine (table_ret ht4).toF fun y4 H5 hg5 hy4 => ?_
    have hs5 := hs4.gr hg5
    have ht5 := ht4.gr hg5
    have hl5 := hg5.1
    have hx5 := hx4.gr hg5
    have hy3 := hy3.gr hg5
    rw [c1] at hy3
    rw [c2] at hy4
    have r1 := rtable_ret hs5 sz
    have r2 := rtable_ret ht5 szt
    rw [decide_eq_true hD.1] at r1
    rw [decide_eq_true hD.2.1] at r2
    have l1 := hD.1.1
    have l2 := hD.2.1.1
    have g1 := hs5.get (k := 0) (by omega) (by omega)
    have g2 := ht5.get (k := 0) (by omega) (by omega)
    have h3' : decide (¬ (s.length : Int) = t.length) = false := decide_eq_false (by have := hD.2.2.1; omega)
    have h4' : decide (¬ ((gi s 0).length : Int) = (gi t 0).length) = false := decide_eq_false (by have := hD.2.2.2; omega)
    by_cases hF : Four s ∧ Four t
    · obtain ⟨hA, hB⟩ := hF
      obtain ⟨b, e2, hh, rh⟩ : ∃ (b : Bool) (e2 : Int), (if TabOk (plusT s t) ∧ ¬ badT s ∧ ¬ badT t ∧ ¬ badT (plusT s t) then AV.tp [.b (hidB s t (plusT s t)), .i 0] else .tp [.b false, .i 5]) = .tp [.b b, .i e2] ∧ True := by split <;> exact ⟨_, _, rfl, trivial⟩
      have k1 := hidden_ret hy3 hy4 hA hB
      rw [hh] at k1
      simp (disch := (first | assumption | omega | (simp only [List.length_append, List.length_cons, List.length_nil]; omega))) only [↓wD,wU,Nat.reduceBEq,zx150,zx151,zx159,zx160,zx161,zx162,Nat.reduceAdd,Nat.reduceSub,Nat.reduceMul,Nat.reduceLeDiff,Nat.reduceLT,Nat.reduceEqDiff,Int.reduceAdd,Int.reduceSub,Int.reduceMul,Int.reduceNeg,Int.reduceLT,Int.reduceLE,Int.reduceEq,Int.reduceToNat,Int.cast_ofNat_Int,↓reduceIte, k1.call, r1.call, r2.call, hs5.L, ht5.L, g1.I, g2.I, h3', h4']
      refine (rplus_ret hs5 ht5 hD).to fun z H6 hg6 hz6 => ?_
      have hs6 := hs5.gr hg6
      have ht6 := ht5.gr hg6
      rw [hT] at hz6
      obtain ⟨x2, _, rfl, hx2, rfl⟩ := rv2 hz6
      replace hx2 := rvs hx2
      have k2 := rhidden_ret hs6 ht6 hA hB
      rw [hh] at k2
      have q1 := two_ret hs6 sz
      have q2 := two_ret ht6 szt
      rw [decide_eq_true hA] at q1
      rw [decide_eq_true hB] at q2
      have k3 := same_ret (hx5.gr hg6) hx2
      rw [decide_eq_true rfl] at k3
      simp (disch := (first | assumption | omega | (simp only [List.length_append, List.length_cons, List.length_nil]; omega))) only [↓wD,wU,Nat.reduceBEq,zx150,zx151,zx159,zx160,zx161,zx162,Nat.reduceAdd,Nat.reduceSub,Nat.reduceMul,Nat.reduceLeDiff,Nat.reduceLT,Nat.reduceEqDiff,Int.reduceAdd,Int.reduceSub,Int.reduceMul,Int.reduceNeg,Int.reduceLT,Int.reduceLE,Int.reduceEq,Int.reduceToNat,Int.cast_ofNat_Int,↓reduceIte, k3.call, q1.call, q2.call, k2.call, awake_ret.call]
    · have k1 := hidden_two hy3 hy4 hF
      simp (disch := (first | assumption | omega | (simp only [List.length_append, List.length_cons, List.length_nil]; omega))) only [↓wD,wU,Nat.reduceBEq,zx150,zx151,zx159,zx160,zx161,zx162,Nat.reduceAdd,Nat.reduceSub,Nat.reduceMul,Nat.reduceLeDiff,Nat.reduceLT,Nat.reduceEqDiff,Int.reduceAdd,Int.reduceSub,Int.reduceMul,Int.reduceNeg,Int.reduceLT,Int.reduceLE,Int.reduceEq,Int.reduceToNat,Int.cast_ofNat_Int,↓reduceIte, k1.call, r1.call, r2.call, hs5.L, ht5.L, g1.I, g2.I, h3', h4']
      refine (rplus_ret hs5 ht5 hD).to fun z H6 hg6 hz6 => ?_
      have hs6 := hs5.gr hg6
      have ht6 := ht5.gr hg6
      rw [hT] at hz6
      obtain ⟨x2, _, rfl, hx2, rfl⟩ := rv2 hz6
      replace hx2 := rvs hx2
      have q1 := two_ret hs6 sz
      have q2 := two_ret ht6 szt
      have k3 := same_ret (hx5.gr hg6) hx2
      rw [decide_eq_true rfl] at k3
      by_cases hA : Four s
      · rw [decide_eq_true hA] at q1
        rw [decide_eq_false (fun h => hF ⟨hA, h⟩)] at q2
        simp (disch := (first | assumption | omega | (simp only [List.length_append, List.length_cons, List.length_nil]; omega))) only [↓wD,wU,Nat.reduceBEq,zx150,zx151,zx159,zx160,zx161,zx162,Nat.reduceAdd,Nat.reduceSub,Nat.reduceMul,Nat.reduceLeDiff,Nat.reduceLT,Nat.reduceEqDiff,Int.reduceAdd,Int.reduceSub,Int.reduceMul,Int.reduceNeg,Int.reduceLT,Int.reduceLE,Int.reduceEq,Int.reduceToNat,Int.cast_ofNat_Int,↓reduceIte, k3.call, q1.call, q2.call, awake_ret.call]
      · rw [decide_eq_false hA] at q1
        simp (disch := (first | assumption | omega | (simp only [List.length_append, List.length_cons, List.length_nil]; omega))) only [↓wD,wU,Nat.reduceBEq,zx150,zx151,zx159,zx160,zx161,zx162,Nat.reduceAdd,Nat.reduceSub,Nat.reduceMul,Nat.reduceLeDiff,Nat.reduceLT,Nat.reduceEqDiff,Int.reduceAdd,Int.reduceSub,Int.reduceMul,Int.reduceNeg,Int.reduceLT,Int.reduceLE,Int.reduceEq,Int.reduceToNat,Int.cast_ofNat_Int,↓reduceIte, k3.call, q1.call, awake_ret.call]
  · have hD' : ¬ Dm (cutT s) (cutT t) := fun h => hD (by
      have h1 := TabOk_cut.1 h.1
      have h2 := TabOk_cut.1 h.2.1
      rwa [cutT_ok h1, cutT_ok h2] at h)
    have hF' : ¬ (Four (cutT s) ∧ Four (cutT t)) := fun h => hD' (h.1.dm h.2)
    have hF : ¬ (Four s ∧ Four t) := fun h => hD (h.1.dm h.2)
    simp (disch := (first | assumption | omega | (simp only [List.length_append, List.length_cons, List.length_nil]; omega))) only [↓wD,wU,Nat.reduceBEq,zx150,zx151,zx159,zx160,zx161,zx162,Nat.reduceAdd,Nat.reduceSub,Nat.reduceMul,Nat.reduceLeDiff,Nat.reduceLT,Nat.reduceEqDiff,Int.reduceAdd,Int.reduceSub,Int.reduceMul,Int.reduceNeg,Int.reduceLT,Int.reduceLE,Int.reduceEq,Int.reduceToNat,Int.cast_ofNat_Int,↓reduceIte, (plus_err hy1 hy2 hD').call]
    refine (table_ret hs2).toF fun y3 H4 hg4 hy3 => ?_
    have ht4 := ht2.gr hg4
    have hs4 := hs2.gr hg4
    have hl4 := hg4.1
    simp (disch := (first | assumption | omega | (simp only [List.length_append, List.length_cons, List.length_nil]; omega))) only [↓wD,wU,Nat.reduceBEq,zx150,zx151,zx159,zx160,zx161,zx162,Nat.reduceAdd,Nat.reduceSub,Nat.reduceMul,Nat.reduceLeDiff,Nat.reduceLT,Nat.reduceEqDiff,Int.reduceAdd,Int.reduceSub,Int.reduceMul,Int.reduceNeg,Int.reduceLT,Int.reduceLE,Int.reduceEq,Int.reduceToNat,Int.cast_ofNat_Int,↓reduceIte]
    refine (table_ret ht4).toF fun y4 H5 hg5 hy4 => ?_
    have hs5 := hs4.gr hg5
    have ht5 := ht4.gr hg5
    have hl5 := hg5.1
    have hy3 := hy3.gr hg5
    have k1 := hidden_two hy3 hy4 hF'
    have r1 := rtable_ret hs5 sz
    have r2 := rtable_ret ht5 szt
    have q1 := two_ret hs5 sz
    have q2 := two_ret ht5 szt
    by_cases hA : Four s
    · have hB : ¬ Four t := fun h => hF ⟨hA, h⟩
      rw [decide_eq_true hA] at q1
      rw [decide_eq_false hB] at q2
      rw [decide_eq_true hA.1] at r1
      by_cases h2 : TabOk t
      · rw [decide_eq_true h2] at r2
        have l1 := hA.1.1
        have l2 := h2.1
        have g1 := hs5.get (k := 0) (by omega) (by omega)
        have g2 := ht5.get (k := 0) (by omega) (by omega)
        by_cases h3 : s.length = t.length
        · have h3' : decide (¬ (s.length : Int) = t.length) = false := decide_eq_false (by omega)
          have h4' : decide (¬ ((gi s 0).length : Int) = (gi t 0).length) = true := decide_eq_true fun e => hD ⟨hA.1, h2, h3, by omega⟩
          simp (disch := (first | assumption | omega | (simp only [List.length_append, List.length_cons, List.length_nil]; omega))) only [↓wD,wU,Nat.reduceBEq,zx150,zx151,zx159,zx160,zx161,zx162,Nat.reduceAdd,Nat.reduceSub,Nat.reduceMul,Nat.reduceLeDiff,Nat.reduceLT,Nat.reduceEqDiff,Int.reduceAdd,Int.reduceSub,Int.reduceMul,Int.reduceNeg,Int.reduceLT,Int.reduceLE,Int.reduceEq,Int.reduceToNat,Int.cast_ofNat_Int,↓reduceIte, k1.call, r1.call, r2.call, q1.call, q2.call, hs5.L, ht5.L, g1.I, g2.I, h3', h4', awake_ret.call]
        · have h3' : decide (¬ (s.length : Int) = t.length) = true := decide_eq_true (by omega)
          simp (disch := (first | assumption | omega | (simp only [List.length_append, List.length_cons, List.length_nil]; omega))) only [↓wD,wU,Nat.reduceBEq,zx150,zx151,zx159,zx160,zx161,zx162,Nat.reduceAdd,Nat.reduceSub,Nat.reduceMul,Nat.reduceLeDiff,Nat.reduceLT,Nat.reduceEqDiff,Int.reduceAdd,Int.reduceSub,Int.reduceMul,Int.reduceNeg,Int.reduceLT,Int.reduceLE,Int.reduceEq,Int.reduceToNat,Int.cast_ofNat_Int,↓reduceIte, k1.call, r1.call, r2.call, q1.call, q2.call, hs5.L, ht5.L, h3', awake_ret.call]
      · rw [decide_eq_false h2] at r2
        simp (disch := (first | assumption | omega | (simp only [List.length_append, List.length_cons, List.length_nil]; omega))) only [↓wD,wU,Nat.reduceBEq,zx150,zx151,zx159,zx160,zx161,zx162,Nat.reduceAdd,Nat.reduceSub,Nat.reduceMul,Nat.reduceLeDiff,Nat.reduceLT,Nat.reduceEqDiff,Int.reduceAdd,Int.reduceSub,Int.reduceMul,Int.reduceNeg,Int.reduceLT,Int.reduceLE,Int.reduceEq,Int.reduceToNat,Int.cast_ofNat_Int,↓reduceIte, k1.call, r1.call, r2.call, q1.call, q2.call, awake_ret.call]
    · rw [decide_eq_false hA] at q1
      by_cases h1 : TabOk s
      · rw [decide_eq_true h1] at r1
        by_cases h2 : TabOk t
        · rw [decide_eq_true h2] at r2
          have l1 := h1.1
          have l2 := h2.1
          have g1 := hs5.get (k := 0) (by omega) (by omega)
          have g2 := ht5.get (k := 0) (by omega) (by omega)
          by_cases h3 : s.length = t.length
          · have h3' : decide (¬ (s.length : Int) = t.length) = false := decide_eq_false (by omega)
            have h4' : decide (¬ ((gi s 0).length : Int) = (gi t 0).length) = true := decide_eq_true fun e => hD ⟨h1, h2, h3, by omega⟩
            simp (disch := (first | assumption | omega | (simp only [List.length_append, List.length_cons, List.length_nil]; omega))) only [↓wD,wU,Nat.reduceBEq,zx150,zx151,zx159,zx160,zx161,zx162,Nat.reduceAdd,Nat.reduceSub,Nat.reduceMul,Nat.reduceLeDiff,Nat.reduceLT,Nat.reduceEqDiff,Int.reduceAdd,Int.reduceSub,Int.reduceMul,Int.reduceNeg,Int.reduceLT,Int.reduceLE,Int.reduceEq,Int.reduceToNat,Int.cast_ofNat_Int,↓reduceIte, k1.call, r1.call, r2.call, q1.call, hs5.L, ht5.L, g1.I, g2.I, h3', h4', awake_ret.call]
          · have h3' : decide (¬ (s.length : Int) = t.length) = true := decide_eq_true (by omega)
            simp (disch := (first | assumption | omega | (simp only [List.length_append, List.length_cons, List.length_nil]; omega))) only [↓wD,wU,Nat.reduceBEq,zx150,zx151,zx159,zx160,zx161,zx162,Nat.reduceAdd,Nat.reduceSub,Nat.reduceMul,Nat.reduceLeDiff,Nat.reduceLT,Nat.reduceEqDiff,Int.reduceAdd,Int.reduceSub,Int.reduceMul,Int.reduceNeg,Int.reduceLT,Int.reduceLE,Int.reduceEq,Int.reduceToNat,Int.cast_ofNat_Int,↓reduceIte, k1.call, r1.call, r2.call, q1.call, hs5.L, ht5.L, h3', awake_ret.call]
        · rw [decide_eq_false h2] at r2
          simp (disch := (first | assumption | omega | (simp only [List.length_append, List.length_cons, List.length_nil]; omega))) only [↓wD,wU,Nat.reduceBEq,zx150,zx151,zx159,zx160,zx161,zx162,Nat.reduceAdd,Nat.reduceSub,Nat.reduceMul,Nat.reduceLeDiff,Nat.reduceLT,Nat.reduceEqDiff,Int.reduceAdd,Int.reduceSub,Int.reduceMul,Int.reduceNeg,Int.reduceLT,Int.reduceLE,Int.reduceEq,Int.reduceToNat,Int.cast_ofNat_Int,↓reduceIte, k1.call, r1.call, r2.call, q1.call, awake_ret.call]
      · rw [decide_eq_false h1] at r1
        simp (disch := (first | assumption | omega | (simp only [List.length_append, List.length_cons, List.length_nil]; omega))) only [↓wD,wU,Nat.reduceBEq,zx150,zx151,zx159,zx160,zx161,zx162,Nat.reduceAdd,Nat.reduceSub,Nat.reduceMul,Nat.reduceLeDiff,Nat.reduceLT,Nat.reduceEqDiff,Int.reduceAdd,Int.reduceSub,Int.reduceMul,Int.reduceNeg,Int.reduceLT,Int.reduceLE,Int.reduceEq,Int.reduceToNat,Int.cast_ofNat_Int,↓reduceIte, k1.call, r1.call, q1.call, awake_ret.call]
end Go.Proofs.Ytflekaacffdakaa
