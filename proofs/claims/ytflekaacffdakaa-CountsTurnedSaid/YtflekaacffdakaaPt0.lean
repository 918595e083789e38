/- What the law needs: what its functions do, and the laws on lists behind it. No condition. -/
import Derived.Test.YtflekaacffdakaaPi
import Derived.Test.YtflekaacffdakaaBo
import Derived.Laws.StructEq
import Derived.KernelRfl
import Derived.WalkKit
import Derived.ProofKit
import Derived.OpenShut
import Derived.ShutString
import Derived.ChangeOld
import Derived.Below
import Derived.SizedLaws
import Derived.Carry
set_option linter.unusedSimpArgs false
set_option linter.unusedVariables false
namespace Go.Proofs.Ytflekaacffdakaa
open Go Go.AM Go.Proofs
theorem clone_ret {p : Nat → Prop} {H : Heap} {v : AV} {xs : List Int} (hx : Sl p H v xs) (hs : xs.length * 8 ≤ 1099511627776) : Ret E 56 [v] (fun _ => False) H xs := by
  refine Ret.ro rfl fn56 rfl ?_
  unfold f56A
  have main : ∀ {Q : AV × Heap → Prop}, (∀ v' H', Sl (fun b => H.length ≤ b) H' v' xs → Q (v', H')) → @optP _ (appendV H.length 1 8 (.s 1 H.length 0 0 (some 0)) v (H ++ [.cells []])) ⟨Q⟩ := fun {Q} go => by
    have ha : Acc H.length (fun _ => True) (H ++ [.cells []]) (.s 1 H.length 0 0 (some 0)) ([] : List Int) := Acc.fresh0 (Nat.le_refl _)
    refine ha.extend (q := fun b => b < H.length) (Nat.le_refl _) (by simp) ((hx.low.app [.cells []]).weak fun b h => h.2) (fun b hb => ⟨trivial, ?_⟩) (by simpa using hs) (by omega) fun v' H' h' _ => go _ _ ?_
    · intro e; simp only [AV.blk, Option.some.injEq] at e; omega
    · rw [List.nil_append] at h'
      rcases h' with h' | ⟨b, o, c, k, e, hb, hk, h1, h2, h3⟩
      · exact .inl h'
      · exact .inr ⟨b, o, c, k, e, hb, hk, h1, h2, h3⟩
  rcases hx with ⟨rfl, rfl⟩ | ⟨b, o, c, k, e, hb, hk, h1, h2, h3⟩
  · simp (disch := (first | assumption | omega | (simp only [List.length_append, List.length_cons, List.length_nil]; omega))) only [↓wD,wU,Nat.reduceBEq,zx150,zx151,zx159,zx160,zx161,zx162,Nat.reduceAdd,Nat.reduceSub,Nat.reduceMul,Nat.reduceLeDiff,Nat.reduceLT,Nat.reduceEqDiff,Int.reduceAdd,Int.reduceSub,Int.reduceMul,Int.reduceNeg,Int.reduceLT,Int.reduceLE,Int.reduceEq,Int.reduceToNat,Int.cast_ofNat_Int,↓reduceIte, *]
    exact Sl.nil
  · subst e
    simp (disch := (first | assumption | omega | (simp only [List.length_append, List.length_cons, List.length_nil]; omega))) only [↓wD,wU,Nat.reduceBEq,zx150,zx151,zx159,zx160,zx161,zx162,Nat.reduceAdd,Nat.reduceSub,Nat.reduceMul,Nat.reduceLeDiff,Nat.reduceLT,Nat.reduceEqDiff,Int.reduceAdd,Int.reduceSub,Int.reduceMul,Int.reduceNeg,Int.reduceLT,Int.reduceLE,Int.reduceEq,Int.reduceToNat,Int.cast_ofNat_Int,↓reduceIte, *]
    refine main fun v' H' h' => ?_
    simp (disch := (first | assumption | omega | (simp only [List.length_append, List.length_cons, List.length_nil]; omega))) only [↓wD,wU,Nat.reduceBEq,zx150,zx151,zx159,zx160,zx161,zx162,Nat.reduceAdd,Nat.reduceSub,Nat.reduceMul,Nat.reduceLeDiff,Nat.reduceLT,Nat.reduceEqDiff,Int.reduceAdd,Int.reduceSub,Int.reduceMul,Int.reduceNeg,Int.reduceLT,Int.reduceLE,Int.reduceEq,Int.reduceToNat,Int.cast_ofNat_Int,↓reduceIte, *]
    exact h'.weak fun _ h => .inr h
end Go.Proofs.Ytflekaacffdakaa
namespace Go.Proofs.Ytflekaacffdakaa
open Go Go.AM Go.Proofs
def OkN (xs : List Int) : Prop := ∀ x ∈ xs, 0 ≤ x ∧ x ≤ 16
instance (xs : List Int) : Decidable (OkN xs) := by unfold OkN; infer_instance
def RowOk (n : Nat) (r : List Int) : Prop := 1 ≤ r.length ∧ r.length ≤ 3 ∧ r.length = n ∧ OkN r
def TabOk (t : List (List Int)) : Prop := 1 ≤ t.length ∧ t.length ≤ 3 ∧ (∀ r ∈ t, RowOk (gi t 0).length r) ∧ (t.map List.sum).sum ≤ 16
instance (n : Nat) (r : List Int) : Decidable (RowOk n r) := by unfold RowOk; infer_instance
instance (t : List (List Int)) : Decidable (TabOk t) := by unfold TabOk; infer_instance
theorem isSums_ret {p : Nat → Prop} {H : Heap} {v : AV} {xs : List Int} (hx : Sl p H v xs) (hl : xs.length ≤ 100) : RetP E 79 [v] H (.b (decide (OkN xs ∧ xs.sum ≤ 16))) := by
  refine RetP.ro rfl fn79 rfl rfl ?_
  unfold f79A
  simp (disch := (first | assumption | omega | (simp only [List.length_append, List.length_cons, List.length_nil]; omega))) only [↓wD,wU,Nat.reduceBEq,zx150,zx151,zx159,zx160,zx161,zx162,Nat.reduceAdd,Nat.reduceSub,Nat.reduceMul,Nat.reduceLeDiff,Nat.reduceLT,Nat.reduceEqDiff,Int.reduceAdd,Int.reduceSub,Int.reduceMul,Int.reduceNeg,Int.reduceLT,Int.reduceLE,Int.reduceEq,Int.reduceToNat,Int.cast_ofNat_Int,↓reduceIte, *, hx.I]
  refine Wp.for xs.length (fun i a H' => H' = H ∧ a 6 = v ∧ a 7 = .i xs.length ∧ a 8 = .i i ∧ a 3 = .i (xs.take i).sum ∧ OkN (xs.take i)) ?_ ?_
  · rintro i a H' hi ⟨rfl, h6, h7, h8, h3, hh⟩ ih
    have hb := sum_bound hh
    have hb2 : (xs.take i).length ≤ 100 := by rw [List.length_take]; omega
    simp (disch := (first | assumption | omega | (simp only [List.length_append, List.length_cons, List.length_nil]; omega))) only [↓wD,wU,Nat.reduceBEq,zx150,zx151,zx159,zx160,zx161,zx162,Nat.reduceAdd,Nat.reduceSub,Nat.reduceMul,Nat.reduceLeDiff,Nat.reduceLT,Nat.reduceEqDiff,Int.reduceAdd,Int.reduceSub,Int.reduceMul,Int.reduceNeg,Int.reduceLT,Int.reduceLE,Int.reduceEq,Int.reduceToNat,Int.cast_ofNat_Int,↓reduceIte, *]
    refine condP_split (fun hlt => ?_) (fun hlt => ?_)
    · have hi' : i < xs.length := by omega
      (repeat' (first | refine condP_split (fun _ => ?_) (fun _ => ?_) | refine guardP_split (fun _ => ?_) (fun _ => ?_) | refine guardP_splitF (fun _ => ?_) (fun _ => ?_) | (simp (disch := (first | assumption | omega | (simp only [List.length_append, List.length_cons, List.length_nil]; omega))) only [↓wD,wU,Nat.reduceBEq,zx150,zx151,zx159,zx160,zx161,zx162,Nat.reduceAdd,Nat.reduceSub,Nat.reduceMul,Nat.reduceLeDiff,Nat.reduceLT,Nat.reduceEqDiff,Int.reduceAdd,Int.reduceSub,Int.reduceMul,Int.reduceNeg,Int.reduceLT,Int.reduceLE,Int.reduceEq,Int.reduceToNat,Int.cast_ofNat_Int,↓reduceIte, *, hx.I]))) <;> first
        | exact avb_f fun h => by have := h.1 _ (mem_gi hi'); omega
        | skip
      refine (ih hi').go ⟨rfl, ?_⟩
      have hg : 0 ≤ gi xs i ∧ gi xs i ≤ 16 := by omega
      rw [sum_take hi']
      simp (disch := (first | assumption | omega | (simp only [List.length_append, List.length_cons, List.length_nil]; omega))) only [↓wD,wU,Nat.reduceBEq,zx150,zx151,zx159,zx160,zx161,zx162,Nat.reduceAdd,Nat.reduceSub,Nat.reduceMul,Nat.reduceLeDiff,Nat.reduceLT,Nat.reduceEqDiff,Int.reduceAdd,Int.reduceSub,Int.reduceMul,Int.reduceNeg,Int.reduceLT,Int.reduceLE,Int.reduceEq,Int.reduceToNat,Int.cast_ofNat_Int,↓reduceIte, *]
      exact mem_take_gi hh hi' hg
    · simp (disch := (first | assumption | omega | (simp only [List.length_append, List.length_cons, List.length_nil]; omega))) only [↓wD,wU,Nat.reduceBEq,zx150,zx151,zx159,zx160,zx161,zx162,Nat.reduceAdd,Nat.reduceSub,Nat.reduceMul,Nat.reduceLeDiff,Nat.reduceLT,Nat.reduceEqDiff,Int.reduceAdd,Int.reduceSub,Int.reduceMul,Int.reduceNeg,Int.reduceLT,Int.reduceLE,Int.reduceEq,Int.reduceToNat,Int.cast_ofNat_Int,↓reduceIte, *]
      have e : xs.take i = xs := List.take_of_length_le (by omega)
      rw [e] at hh ⊢
      simp [hh]
  · (simp (disch := (first | assumption | omega | (simp only [List.length_append, List.length_cons, List.length_nil]; omega))) only [↓wD,wU,Nat.reduceBEq,zx150,zx151,zx159,zx160,zx161,zx162,Nat.reduceAdd,Nat.reduceSub,Nat.reduceMul,Nat.reduceLeDiff,Nat.reduceLT,Nat.reduceEqDiff,Int.reduceAdd,Int.reduceSub,Int.reduceMul,Int.reduceNeg,Int.reduceLT,Int.reduceLE,Int.reduceEq,Int.reduceToNat,Int.cast_ofNat_Int,↓reduceIte, *]) <;> simp [OkN]
theorem sum_nonneg {xs : List Int} (h : ∀ x ∈ xs, 0 ≤ x) : 0 ≤ xs.sum := by
  induction xs with
  | nil => simp
  | cons x xs ih => have := h x (by simp); have := ih fun y hy => h y (by simp [hy]); simp only [List.sum_cons]; omega
theorem le_sum {xs : List Int} (h : ∀ x ∈ xs, 0 ≤ x) {x : Int} (hx : x ∈ xs) : x ≤ xs.sum := by
  induction xs with
  | nil => cases hx
  | cons y xs ih =>
    have h0 := h y (by simp)
    have h1 := sum_nonneg fun z hz => h z (List.mem_cons_of_mem _ hz)
    simp only [List.sum_cons]
    rcases List.mem_cons.1 hx with rfl | hx
    · omega
    · have := ih (fun z hz => h z (List.mem_cons_of_mem _ hz)) hx; omega
theorem row_le_total {t : List (List Int)} (h : TabOk t) {r : List Int} (hr : r ∈ t) : r.sum ≤ 16 := by
  have h1 : ∀ x ∈ t.map List.sum, 0 ≤ x := by
    intro x hx
    obtain ⟨s, hs, rfl⟩ := List.mem_map.1 hx
    exact sum_nonneg fun y hy => ((h.2.2.1 s hs).2.2.2 y hy).1
  have := le_sum h1 (List.mem_map_of_mem hr)
  have := h.2.2.2
  omega
theorem valid_ret {p : Nat → Prop} {H : Heap} {v : AV} {t : List (List Int)} (ht : Sl p H v t) : RetP E 70 [v] H (.b (decide (TabOk t))) := by
  refine RetP.ro rfl fn70 rfl rfl ?_
  unfold f70A
  (repeat' (first | refine condP_split (fun _ => ?_) (fun _ => ?_) | refine guardP_split (fun _ => ?_) (fun _ => ?_) | refine guardP_splitF (fun _ => ?_) (fun _ => ?_) | (simp (disch := (first | assumption | omega | (simp only [List.length_append, List.length_cons, List.length_nil]; omega))) only [↓wD,wU,Nat.reduceBEq,zx150,zx151,zx159,zx160,zx161,zx162,Nat.reduceAdd,Nat.reduceSub,Nat.reduceMul,Nat.reduceLeDiff,Nat.reduceLT,Nat.reduceEqDiff,Int.reduceAdd,Int.reduceSub,Int.reduceMul,Int.reduceNeg,Int.reduceLT,Int.reduceLE,Int.reduceEq,Int.reduceToNat,Int.cast_ofNat_Int,↓reduceIte, *, ht.L]))) <;> first
    | exact avb_f fun h => by have := h.1; have := h.2.1; omega
    | skip
  refine Wp.for t.length (fun i a H' => H' = H ∧ a 0 = v ∧ a 16 = v ∧ a 17 = .i t.length ∧ a 18 = .i i ∧ a 3 = .i ((t.take i).map List.sum).sum ∧ (∀ r ∈ t.take i, RowOk (gi t 0).length r) ∧ 0 ≤ ((t.take i).map List.sum).sum ∧ ((t.take i).map List.sum).sum ≤ i * 48) ?_ ?_
  · rintro i a H' hi ⟨rfl, h0, h16, h17, h18, h3, hh, hp, hq⟩ ih
    simp (disch := (first | assumption | omega | (simp only [List.length_append, List.length_cons, List.length_nil]; omega))) only [↓wD,wU,Nat.reduceBEq,zx150,zx151,zx159,zx160,zx161,zx162,Nat.reduceAdd,Nat.reduceSub,Nat.reduceMul,Nat.reduceLeDiff,Nat.reduceLT,Nat.reduceEqDiff,Int.reduceAdd,Int.reduceSub,Int.reduceMul,Int.reduceNeg,Int.reduceLT,Int.reduceLE,Int.reduceEq,Int.reduceToNat,Int.cast_ofNat_Int,↓reduceIte, *]
    refine condP_split (fun hlt => ?_) (fun hlt => ?_)
    · have hi' : i < t.length := by omega
      have g := ht.get (k := (i : Int)) (by omega) (by omega)
      have g0 := ht.get (k := (0 : Int)) (by omega) (by omega)
      by_cases hr : RowOk (gi t 0).length (gi t i)
      · obtain ⟨hr1, hr2, hr3, hr4⟩ := hr
        have hgb := sum_bound hr4
        (repeat' (first | refine condP_split (fun _ => ?_) (fun _ => ?_) | refine guardP_split (fun _ => ?_) (fun _ => ?_) | refine guardP_splitF (fun _ => ?_) (fun _ => ?_) | (simp (disch := (first | assumption | omega | (simp only [List.length_append, List.length_cons, List.length_nil]; omega))) only [↓wD,wU,Nat.reduceBEq,zx150,zx151,zx159,zx160,zx161,zx162,Nat.reduceAdd,Nat.reduceSub,Nat.reduceMul,Nat.reduceLeDiff,Nat.reduceLT,Nat.reduceEqDiff,Int.reduceAdd,Int.reduceSub,Int.reduceMul,Int.reduceNeg,Int.reduceLT,Int.reduceLE,Int.reduceEq,Int.reduceToNat,Int.cast_ofNat_Int,↓reduceIte, *, ht.L, g.I, g0.I, (isSums_ret g (by omega)).call])))
        · exact avb_f fun h => by have := row_le_total h (mem_gi hi'); simp_all
        refine Wp.for (gi t i).length (fun j a H'' => H'' = H' ∧ a 0 = v ∧ a 16 = v ∧ a 17 = .i t.length ∧ a 18 = .i i ∧ a 44 = v.get H' i ∧ a 45 = .i (gi t i).length ∧ a 46 = .i j ∧ a 3 = .i (((t.take i).map List.sum).sum + ((gi t i).take j).sum)) ?_ ?_
        · clear h0 h16 h17 h18 h3
          rintro j a H' hj ⟨rfl, h0, h16, h17, h18, h44, h45, h46, h3⟩ ih2
          have hb1 : OkN ((gi t i).take j) := fun x hx => hr4 x (List.mem_of_mem_take hx)
          have hb2 := sum_bound hb1
          have hb3 : ((gi t i).take j).length ≤ 3 := by rw [List.length_take]; omega
          simp (disch := (first | assumption | omega | (simp only [List.length_append, List.length_cons, List.length_nil]; omega))) only [↓wD,wU,Nat.reduceBEq,zx150,zx151,zx159,zx160,zx161,zx162,Nat.reduceAdd,Nat.reduceSub,Nat.reduceMul,Nat.reduceLeDiff,Nat.reduceLT,Nat.reduceEqDiff,Int.reduceAdd,Int.reduceSub,Int.reduceMul,Int.reduceNeg,Int.reduceLT,Int.reduceLE,Int.reduceEq,Int.reduceToNat,Int.cast_ofNat_Int,↓reduceIte, *]
          refine condP_split (fun hlt => ?_) (fun hlt => ?_)
          · have hj' : j < (gi t i).length := by omega
            have hg := hr4 _ (mem_gi hj')
            simp (disch := (first | assumption | omega | (simp only [List.length_append, List.length_cons, List.length_nil]; omega))) only [↓wD,wU,Nat.reduceBEq,zx150,zx151,zx159,zx160,zx161,zx162,Nat.reduceAdd,Nat.reduceSub,Nat.reduceMul,Nat.reduceLeDiff,Nat.reduceLT,Nat.reduceEqDiff,Int.reduceAdd,Int.reduceSub,Int.reduceMul,Int.reduceNeg,Int.reduceLT,Int.reduceLE,Int.reduceEq,Int.reduceToNat,Int.cast_ofNat_Int,↓reduceIte, *, g.I]
            refine (ih2 hj').go ⟨rfl, ?_⟩
            rw [sum_take hj']
            simp (disch := (first | assumption | omega | (simp only [List.length_append, List.length_cons, List.length_nil]; omega))) only [↓wD,wU,Nat.reduceBEq,zx150,zx151,zx159,zx160,zx161,zx162,Nat.reduceAdd,Nat.reduceSub,Nat.reduceMul,Nat.reduceLeDiff,Nat.reduceLT,Nat.reduceEqDiff,Int.reduceAdd,Int.reduceSub,Int.reduceMul,Int.reduceNeg,Int.reduceLT,Int.reduceLE,Int.reduceEq,Int.reduceToNat,Int.cast_ofNat_Int,↓reduceIte, *]
            rw [Int.add_assoc]
          · simp (disch := (first | assumption | omega | (simp only [List.length_append, List.length_cons, List.length_nil]; omega))) only [↓wD,wU,Nat.reduceBEq,zx150,zx151,zx159,zx160,zx161,zx162,Nat.reduceAdd,Nat.reduceSub,Nat.reduceMul,Nat.reduceLeDiff,Nat.reduceLT,Nat.reduceEqDiff,Int.reduceAdd,Int.reduceSub,Int.reduceMul,Int.reduceNeg,Int.reduceLT,Int.reduceLE,Int.reduceEq,Int.reduceToNat,Int.cast_ofNat_Int,↓reduceIte, *]
            have e : ((gi t i).take j).sum = (gi t i).sum := sum_take_all (by omega)
            refine (ih hi').go ⟨rfl, ?_⟩
            have e2 : ((t.take (i + 1)).map List.sum).sum = ((t.take i).map List.sum).sum + (gi t i).sum := by rw [take_gi hi', List.map_append, List.sum_append]; simp
            rw [e2, ← e]
            simp (disch := (first | assumption | omega | (simp only [List.length_append, List.length_cons, List.length_nil]; omega))) only [↓wD,wU,Nat.reduceBEq,zx150,zx151,zx159,zx160,zx161,zx162,Nat.reduceAdd,Nat.reduceSub,Nat.reduceMul,Nat.reduceLeDiff,Nat.reduceLT,Nat.reduceEqDiff,Int.reduceAdd,Int.reduceSub,Int.reduceMul,Int.reduceNeg,Int.reduceLT,Int.reduceLE,Int.reduceEq,Int.reduceToNat,Int.cast_ofNat_Int,↓reduceIte, *]
            exact ⟨mem_take_gi hh hi' ⟨hr1, hr2, hr3, hr4⟩, by omega, by omega⟩
        · (simp (disch := (first | assumption | omega | (simp only [List.length_append, List.length_cons, List.length_nil]; omega))) only [↓wD,wU,Nat.reduceBEq,zx150,zx151,zx159,zx160,zx161,zx162,Nat.reduceAdd,Nat.reduceSub,Nat.reduceMul,Nat.reduceLeDiff,Nat.reduceLT,Nat.reduceEqDiff,Int.reduceAdd,Int.reduceSub,Int.reduceMul,Int.reduceNeg,Int.reduceLT,Int.reduceLE,Int.reduceEq,Int.reduceToNat,Int.cast_ofNat_Int,↓reduceIte, *]) <;> simp
      · have hr' : ¬ TabOk t := fun h => hr (h.2.2.1 _ (mem_gi hi'))
        (repeat' (first | refine condP_split (fun _ => ?_) (fun _ => ?_) | refine guardP_split (fun _ => ?_) (fun _ => ?_) | refine guardP_splitF (fun _ => ?_) (fun _ => ?_) | (simp (disch := (first | assumption | omega | (simp only [List.length_append, List.length_cons, List.length_nil]; omega))) only [↓wD,wU,Nat.reduceBEq,zx150,zx151,zx159,zx160,zx161,zx162,Nat.reduceAdd,Nat.reduceSub,Nat.reduceMul,Nat.reduceLeDiff,Nat.reduceLT,Nat.reduceEqDiff,Int.reduceAdd,Int.reduceSub,Int.reduceMul,Int.reduceNeg,Int.reduceLT,Int.reduceLE,Int.reduceEq,Int.reduceToNat,Int.cast_ofNat_Int,↓reduceIte, *, ht.L, g.I, g0.I]))) <;> first
          | exact avb_f hr'
          | skip
        (repeat' (first | refine condP_split (fun _ => ?_) (fun _ => ?_) | refine guardP_split (fun _ => ?_) (fun _ => ?_) | refine guardP_splitF (fun _ => ?_) (fun _ => ?_) | (simp (disch := (first | assumption | omega | (simp only [List.length_append, List.length_cons, List.length_nil]; omega))) only [↓wD,wU,Nat.reduceBEq,zx150,zx151,zx159,zx160,zx161,zx162,Nat.reduceAdd,Nat.reduceSub,Nat.reduceMul,Nat.reduceLeDiff,Nat.reduceLT,Nat.reduceEqDiff,Int.reduceAdd,Int.reduceSub,Int.reduceMul,Int.reduceNeg,Int.reduceLT,Int.reduceLE,Int.reduceEq,Int.reduceToNat,Int.cast_ofNat_Int,↓reduceIte, *, (isSums_ret g (by omega)).call]))) <;> first
          | exact avb_f hr'
          | skip
        rename_i q
        exact absurd ⟨by omega, by omega, by omega, (Decidable.not_not.1 q).1⟩ hr
    · simp (disch := (first | assumption | omega | (simp only [List.length_append, List.length_cons, List.length_nil]; omega))) only [↓wD,wU,Nat.reduceBEq,zx150,zx151,zx159,zx160,zx161,zx162,Nat.reduceAdd,Nat.reduceSub,Nat.reduceMul,Nat.reduceLeDiff,Nat.reduceLT,Nat.reduceEqDiff,Int.reduceAdd,Int.reduceSub,Int.reduceMul,Int.reduceNeg,Int.reduceLT,Int.reduceLE,Int.reduceEq,Int.reduceToNat,Int.cast_ofNat_Int,↓reduceIte, *]
      have e : t.take i = t := List.take_of_length_le (by omega)
      rw [e] at hh ⊢
      congr 1
      exact decide_eq_decide.2 ⟨fun h => ⟨by omega, by omega, hh, h⟩, fun h => h.2.2.2⟩
  · (simp (disch := (first | assumption | omega | (simp only [List.length_append, List.length_cons, List.length_nil]; omega))) only [↓wD,wU,Nat.reduceBEq,zx150,zx151,zx159,zx160,zx161,zx162,Nat.reduceAdd,Nat.reduceSub,Nat.reduceMul,Nat.reduceLeDiff,Nat.reduceLT,Nat.reduceEqDiff,Int.reduceAdd,Int.reduceSub,Int.reduceMul,Int.reduceNeg,Int.reduceLT,Int.reduceLE,Int.reduceEq,Int.reduceToNat,Int.cast_ofNat_Int,↓reduceIte, *]) <;> simp
end Go.Proofs.Ytflekaacffdakaa
namespace Go.Proofs.Ytflekaacffdakaa
open Go Go.AM Go.Proofs
theorem gi_map_range {α : Type} [Inhabited α] {n j : Nat} {f : Nat → α} (h : j < n) : gi ((List.range n).map f) (j : Int) = f j := by
  rw [gi_nat (by simpa using h)]; simp
theorem set_map_range {α : Type} {n j : Nat} {f : Nat → α} {y : α} : ((List.range n).map f).set j y = (List.range n).map fun c => if c = j then y else f c := by
  apply List.ext_getElem (by simp)
  intro i h1 h2
  simp only [List.getElem_set, List.getElem_map, List.getElem_range]
  by_cases h : j = i
  · subst h; simp
  · rw [if_neg h, if_neg (fun e => h e.symm)]
theorem map_range_congr {α : Type} {n : Nat} {f g : Nat → α} (h : ∀ c, c < n → f c = g c) : (List.range n).map f = (List.range n).map g :=
  List.map_congr_left fun c hc => h c (List.mem_range.1 hc)
def colPart (t : List (List Int)) (i j : Nat) : Int := ((t.take i).map fun r => gi r (j : Int)).sum
def colSums (t : List (List Int)) : List Int := (List.range (gi t 0).length).map fun j => colPart t t.length j
def rowSums (t : List (List Int)) : List Int := t.map List.sum
theorem colPart_succ {t : List (List Int)} {i j : Nat} (h : i < t.length) : colPart t (i + 1) j = colPart t i j + gi (gi t i) j := by
  simp [colPart, take_gi h, List.map_append, List.sum_append]
theorem colPart_0 {t : List (List Int)} {j : Nat} : colPart t 0 j = 0 := by simp [colPart]
theorem TabOk.entry {t : List (List Int)} (h : TabOk t) {i j : Nat} (hi : i < t.length) (hj : j < (gi t 0).length) : 0 ≤ gi (gi t i) j ∧ gi (gi t i) j ≤ 16 := by
  have h1 := h.2.2.1 _ (mem_gi hi)
  exact h1.2.2.2 _ (mem_gi (by rw [h1.2.2.1]; exact hj))
theorem TabOk.width {t : List (List Int)} (h : TabOk t) {i : Nat} (hi : i < t.length) : (gi t i).length = (gi t 0).length := (h.2.2.1 _ (mem_gi hi)).2.2.1
theorem TabOk.cols {t : List (List Int)} (h : TabOk t) : 1 ≤ (gi t 0).length ∧ (gi t 0).length ≤ 3 := by
  have h1 := h.2.2.1 _ (mem_gi (i := 0) h.1)
  exact ⟨h1.1, h1.2.1⟩
theorem TabOk.colPart {t : List (List Int)} (h : TabOk t) {i j : Nat} (hj : j < (gi t 0).length) : 0 ≤ colPart t i j ∧ colPart t i j ≤ 48 := by
  have h1 : ∀ x ∈ (t.take i).map fun r => gi r (j : Int), 0 ≤ x ∧ x ≤ 16 := by
    intro x hx
    obtain ⟨r, hr, rfl⟩ := List.mem_map.1 hx
    have hr' := h.2.2.1 r (List.mem_of_mem_take hr)
    exact hr'.2.2.2 _ (mem_gi (by rw [hr'.2.2.1]; exact hj))
  have h2 := sum_bound h1
  have h3 : ((t.take i).map fun r => gi r (j : Int)).length ≤ 3 := by have := h.2.1; simp; omega
  unfold Go.Proofs.Ytflekaacffdakaa.colPart
  omega
theorem sums_ret {p : Nat → Prop} {H : Heap} {v : AV} {t : List (List Int)} (ht : Sl p H v t) (h : TabOk t) : Ret E 71 [v] (fun _ => False) H (T2.mk (rowSums t) (colSums t)) := by
  refine Ret.ro rfl fn71 rfl ?_
  unfold f71A
  have hc := h.cols
  have hl := h.1
  have hl3 := h.2.1
  replace ht : Sl (fun b => b < H.length) H v t := ht.low.weak fun _ h => h.2
  have g0 := ht.get (k := (0 : Int)) (by omega) (by omega)
  simp (disch := (first | assumption | omega | (simp only [List.length_append, List.length_cons, List.length_nil]; omega))) only [↓wD,wU,Nat.reduceBEq,zx150,zx151,zx159,zx160,zx161,zx162,Nat.reduceAdd,Nat.reduceSub,Nat.reduceMul,Nat.reduceLeDiff,Nat.reduceLT,Nat.reduceEqDiff,Int.reduceAdd,Int.reduceSub,Int.reduceMul,Int.reduceNeg,Int.reduceLT,Int.reduceLE,Int.reduceEq,Int.reduceToNat,Int.cast_ofNat_Int,↓reduceIte, *, ht.L, g0.I]
  refine Wp.for t.length (fun i a H' => ∃ u w, a 14 = v ∧ a 15 = .i t.length ∧ a 16 = .i i ∧ a 2 = u ∧ a 3 = w ∧ Gr H H' ∧ Acc H.length (fun _ => False) H' u ((t.take i).map List.sum) ∧ MI H.length H' w ((List.range (gi t 0).length).map fun j => colPart t i j) ∧ (∀ b, u.blk = some b → w.blk ≠ some b)) ?_ ?_
  · rintro i a H1 hi ⟨u, w, h14, h15, h16, h2, h3, hg, hu, hw, hne⟩ ih
    simp (disch := (first | assumption | omega | (simp only [List.length_append, List.length_cons, List.length_nil]; omega))) only [↓wD,wU,Nat.reduceBEq,zx150,zx151,zx159,zx160,zx161,zx162,Nat.reduceAdd,Nat.reduceSub,Nat.reduceMul,Nat.reduceLeDiff,Nat.reduceLT,Nat.reduceEqDiff,Int.reduceAdd,Int.reduceSub,Int.reduceMul,Int.reduceNeg,Int.reduceLT,Int.reduceLE,Int.reduceEq,Int.reduceToNat,Int.cast_ofNat_Int,↓reduceIte, *]
    refine condP_split (fun hlt => ?_) (fun hlt => ?_)
    · have hi' : i < t.length := by omega
      have ht1 := ht.gr hg
      have g := ht1.get (k := (i : Int)) (by omega) (by omega)
      have hwd := h.width hi'
      simp (disch := (first | assumption | omega | (simp only [List.length_append, List.length_cons, List.length_nil]; omega))) only [↓wD,wU,Nat.reduceBEq,zx150,zx151,zx159,zx160,zx161,zx162,Nat.reduceAdd,Nat.reduceSub,Nat.reduceMul,Nat.reduceLeDiff,Nat.reduceLT,Nat.reduceEqDiff,Int.reduceAdd,Int.reduceSub,Int.reduceMul,Int.reduceNeg,Int.reduceLT,Int.reduceLE,Int.reduceEq,Int.reduceToNat,Int.cast_ofNat_Int,↓reduceIte, *, ht1.L, g.I]
      refine Wp.for (gi t i).length (fun j a H2 => a 14 = v ∧ a 15 = .i t.length ∧ a 16 = .i i ∧ a 2 = u ∧ a 3 = w ∧ a 20 = v.get H1 i ∧ a 21 = .i (gi t i).length ∧ a 22 = .i j ∧ a 6 = .i ((gi t i).take j).sum ∧ Kp (fun b => w.blk ≠ some b) H1 H2 ∧ H2.length ≤ H1.length ∧ MI H.length H2 w ((List.range (gi t 0).length).map fun c => colPart t i c + if c < j then gi (gi t i) c else 0)) ?_ ?_
      · clear h14 h15 h16 h2 h3
        rintro j a H2 hj ⟨h14, h15, h16, h2, h3, h20, h21, h22, h6, hk, hl2, hw2⟩ ih2
        simp (disch := (first | assumption | omega | (simp only [List.length_append, List.length_cons, List.length_nil]; omega))) only [↓wD,wU,Nat.reduceBEq,zx150,zx151,zx159,zx160,zx161,zx162,Nat.reduceAdd,Nat.reduceSub,Nat.reduceMul,Nat.reduceLeDiff,Nat.reduceLT,Nat.reduceEqDiff,Int.reduceAdd,Int.reduceSub,Int.reduceMul,Int.reduceNeg,Int.reduceLT,Int.reduceLE,Int.reduceEq,Int.reduceToNat,Int.cast_ofNat_Int,↓reduceIte, *]
        refine condP_split (fun hlt => ?_) (fun hlt => ?_)
        · have hj' : j < (gi t i).length := by omega
          have he := h.entry hi' (j := j) (by omega)
          have hcp := h.colPart (i := i) (j := j) (by omega)
          have hrs := sum_bound (xs := (gi t i).take j) (m := 16) fun x hx => (h.2.2.1 _ (mem_gi hi')).2.2.2 x (List.mem_of_mem_take hx)
          have hrl : ((gi t i).take j).length ≤ 3 := by rw [List.length_take]; omega
          have g2 : Sl (fun b => b < H.length) H2 (v.get H1 i) (gi t i) := g.mono (hk.weak fun b hb e => by have := hw.blk_lt e; omega) fun _ h => h
          have hgv : gi ((List.range (gi t 0).length).map fun c => colPart t i c + if c < j then gi (gi t i) c else 0) (j : Int) = colPart t i j := by
            rw [gi_map_range (by omega)]; simp
          have hml : ((List.range (gi t 0).length).map fun c => colPart t i c + if c < j then gi (gi t i) c else 0).length = (gi t 0).length := by simp
          simp (disch := (first | assumption | omega | (simp only [List.length_append, List.length_cons, List.length_nil]; omega))) only [↓wD,wU,Nat.reduceBEq,zx150,zx151,zx159,zx160,zx161,zx162,Nat.reduceAdd,Nat.reduceSub,Nat.reduceMul,Nat.reduceLeDiff,Nat.reduceLT,Nat.reduceEqDiff,Int.reduceAdd,Int.reduceSub,Int.reduceMul,Int.reduceNeg,Int.reduceLT,Int.reduceLE,Int.reduceEq,Int.reduceToNat,Int.cast_ofNat_Int,↓reduceIte, *, g2.I, hw2.sl.I, hgv]
          refine hw2.store (Nat.le_refl _) (by omega) (by omega) fun H3 hw3 hk3 hl3' => ?_
          simp (disch := (first | assumption | omega | (simp only [List.length_append, List.length_cons, List.length_nil]; omega))) only [↓wD,wU,Nat.reduceBEq,zx150,zx151,zx159,zx160,zx161,zx162,Nat.reduceAdd,Nat.reduceSub,Nat.reduceMul,Nat.reduceLeDiff,Nat.reduceLT,Nat.reduceEqDiff,Int.reduceAdd,Int.reduceSub,Int.reduceMul,Int.reduceNeg,Int.reduceLT,Int.reduceLE,Int.reduceEq,Int.reduceToNat,Int.cast_ofNat_Int,↓reduceIte, *]
          refine (ih2 hj').go ?_
          rw [sum_take hj']
          simp (disch := (first | assumption | omega | (simp only [List.length_append, List.length_cons, List.length_nil]; omega))) only [↓wD,wU,Nat.reduceBEq,zx150,zx151,zx159,zx160,zx161,zx162,Nat.reduceAdd,Nat.reduceSub,Nat.reduceMul,Nat.reduceLeDiff,Nat.reduceLT,Nat.reduceEqDiff,Int.reduceAdd,Int.reduceSub,Int.reduceMul,Int.reduceNeg,Int.reduceLT,Int.reduceLE,Int.reduceEq,Int.reduceToNat,Int.cast_ofNat_Int,↓reduceIte, *]
          refine ⟨hk.trans hk3 fun b hb => hb, ?_⟩
          rw [set_map_range] at hw3
          have e : ((List.range (gi t 0).length).map fun c => colPart t i c + if c < j + 1 then gi (gi t i) c else 0) = (List.range (gi t 0).length).map fun c => if c = (j : Int).toNat then colPart t i j + gi (gi t i) j else colPart t i c + if c < j then gi (gi t i) c else 0 := by
            apply map_range_congr
            intro c _
            by_cases hcj : c = j
            · subst hcj; simp
            · have : (c < j + 1) = (c < j) := by simp only [eq_iff_iff]; omega
              simp [hcj, this]
          rw [e]; exact hw3
        · have hj2 : j = (gi t i).length := by omega
          subst hj2
          simp (disch := (first | assumption | omega | (simp only [List.length_append, List.length_cons, List.length_nil]; omega))) only [↓wD,wU,Nat.reduceBEq,zx150,zx151,zx159,zx160,zx161,zx162,Nat.reduceAdd,Nat.reduceSub,Nat.reduceMul,Nat.reduceLeDiff,Nat.reduceLT,Nat.reduceEqDiff,Int.reduceAdd,Int.reduceSub,Int.reduceMul,Int.reduceNeg,Int.reduceLT,Int.reduceLE,Int.reduceEq,Int.reduceToNat,Int.cast_ofNat_Int,↓reduceIte, *]
          have hu2 : Acc H.length (fun _ => False) H2 u ((t.take i).map List.sum) := hu.kp hk (fun b e e2 => hne b e e2) fun _ h => h.elim
          refine hu2.pushI (Nat.le_refl _) (by have := hg.1; have := hk.1; omega) ?_ fun u' H3 hu' hk3 hl3' hub => ?_
          · simp; omega
          · simp (disch := (first | assumption | omega | (simp only [List.length_append, List.length_cons, List.length_nil]; omega))) only [↓wD,wU,Nat.reduceBEq,zx150,zx151,zx159,zx160,zx161,zx162,Nat.reduceAdd,Nat.reduceSub,Nat.reduceMul,Nat.reduceLeDiff,Nat.reduceLT,Nat.reduceEqDiff,Int.reduceAdd,Int.reduceSub,Int.reduceMul,Int.reduceNeg,Int.reduceLT,Int.reduceLE,Int.reduceEq,Int.reduceToNat,Int.cast_ofNat_Int,↓reduceIte, *]
            refine (ih hi').go ⟨u', w, ?_⟩
            simp (disch := (first | assumption | omega | (simp only [List.length_append, List.length_cons, List.length_nil]; omega))) only [↓wD,wU,Nat.reduceBEq,zx150,zx151,zx159,zx160,zx161,zx162,Nat.reduceAdd,Nat.reduceSub,Nat.reduceMul,Nat.reduceLeDiff,Nat.reduceLT,Nat.reduceEqDiff,Int.reduceAdd,Int.reduceSub,Int.reduceMul,Int.reduceNeg,Int.reduceLT,Int.reduceLE,Int.reduceEq,Int.reduceToNat,Int.cast_ofNat_Int,↓reduceIte, *]
            have hgk : Gr H H2 := hg.trans' hk fun b hb e => by have := hw.blk_lt e; omega
            refine ⟨hgk.push hu2 (Nat.le_refl _) hk3, ?_, ?_, ?_⟩
            · rw [take_gi hi', List.map_append]
              simpa [List.take_of_length_le (show (gi t (i : Int)).length ≤ (gi t 0).length by omega)] using hu'
            · have e : ((List.range (gi t 0).length).map fun c => colPart t (i + 1) c) = (List.range (gi t 0).length).map fun c => colPart t i c + if c < (gi t i).length then gi (gi t i) c else 0 := by
                apply map_range_congr
                intro c hc
                rw [colPart_succ hi', if_pos (by omega)]
              rw [e]
              exact hw2.kp hk3 fun b e => fun e2 => hne b e2 e
            · intro b hb e
              have := hw2.blk_lt e
              simp at hb; omega
      · simp (disch := (first | assumption | omega | (simp only [List.length_append, List.length_cons, List.length_nil]; omega))) only [↓wD,wU,Nat.reduceBEq,zx150,zx151,zx159,zx160,zx161,zx162,Nat.reduceAdd,Nat.reduceSub,Nat.reduceMul,Nat.reduceLeDiff,Nat.reduceLT,Nat.reduceEqDiff,Int.reduceAdd,Int.reduceSub,Int.reduceMul,Int.reduceNeg,Int.reduceLT,Int.reduceLE,Int.reduceEq,Int.reduceToNat,Int.cast_ofNat_Int,↓reduceIte, *]
        refine ⟨rfl, Kp.refl _ _, ?_⟩
        simpa using hw
    · have e : i = t.length := by omega
      subst e
      simp (disch := (first | assumption | omega | (simp only [List.length_append, List.length_cons, List.length_nil]; omega))) only [↓wD,wU,Nat.reduceBEq,zx150,zx151,zx159,zx160,zx161,zx162,Nat.reduceAdd,Nat.reduceSub,Nat.reduceMul,Nat.reduceLeDiff,Nat.reduceLT,Nat.reduceEqDiff,Int.reduceAdd,Int.reduceSub,Int.reduceMul,Int.reduceNeg,Int.reduceLT,Int.reduceLE,Int.reduceEq,Int.reduceToNat,Int.cast_ofNat_Int,↓reduceIte, *]
      refine rv_2 ?_ ?_
      · have h1 := hu.sl.weak (q := fun b => False ∨ H.length ≤ b) fun b h => h
        rwa [List.take_length] at h1
      · exact hw.sl.weak fun b h => .inr h
  · simp (disch := (first | assumption | omega | (simp only [List.length_append, List.length_cons, List.length_nil]; omega))) only [↓wD,wU,Nat.reduceBEq,zx150,zx151,zx159,zx160,zx161,zx162,Nat.reduceAdd,Nat.reduceSub,Nat.reduceMul,Nat.reduceLeDiff,Nat.reduceLT,Nat.reduceEqDiff,Int.reduceAdd,Int.reduceSub,Int.reduceMul,Int.reduceNeg,Int.reduceLT,Int.reduceLE,Int.reduceEq,Int.reduceToNat,Int.cast_ofNat_Int,↓reduceIte, *]
    refine ⟨.nils, _, rfl, rfl, Kp.app _ _ _, Acc.nil, ?_, fun b e => by cases e⟩
    have h1 := MI.mk (H := H) (n := (gi t 0).length) (Nat.le_refl _) (by omega)
    have e : ((List.range (gi t 0).length).map fun j => colPart t 0 j) = List.replicate (gi t 0).length 0 := by
      apply List.ext_getElem (by simp)
      intro i h1 h2
      simp [colPart_0]
    rw [e]; exact h1
end Go.Proofs.Ytflekaacffdakaa
namespace Go.Proofs.Ytflekaacffdakaa
open Go Go.AM Go.Proofs
theorem list_ret {p : Nat → Prop} {H : Heap} {v : AV} {xs : List Int} (hx : Sl p H v xs) : Ret E 39 [v] (fun _ => False) H (xs.take 6) := by
  refine Ret.ro rfl fn39 rfl ?_
  unfold f39A
  have hb := hx.bound
  have hs : slV 1 v none (some (.i (min (xs.length : Int) 6))) none = some (v.cut 0 (min xs.length 6)) := by
    refine hx.slV_lh none _ (b := min xs.length 6) ?_ (bound_none (by omega)) (by omega) (by omega)
    rw [bound_some (by omega) (by omega)]
    congr 1
    omega
  simp (disch := (first | assumption | omega | (simp only [List.length_append, List.length_cons, List.length_nil]; omega))) only [↓wD,wU,Nat.reduceBEq,zx150,zx151,zx159,zx160,zx161,zx162,Nat.reduceAdd,Nat.reduceSub,Nat.reduceMul,Nat.reduceLeDiff,Nat.reduceLT,Nat.reduceEqDiff,Int.reduceAdd,Int.reduceSub,Int.reduceMul,Int.reduceNeg,Int.reduceLT,Int.reduceLE,Int.reduceEq,Int.reduceToNat,Int.cast_ofNat_Int,↓reduceIte, *, hx.I, hs]
  have hc := hx.cut (a := 0) (b := min xs.length 6) (by omega) (by omega)
  have e : (xs.drop 0).take (min xs.length 6 - 0) = xs.take 6 := by
    rw [List.drop_zero, Nat.sub_zero]
    by_cases hl : xs.length ≤ 6
    · rw [List.take_of_length_le (by omega), List.take_of_length_le hl]
    · congr 1; omega
  rw [e] at hc
  refine (clone_ret hc (by rw [List.length_take]; omega)).go fun u N hu => ?_
  simp (disch := (first | assumption | omega | (simp only [List.length_append, List.length_cons, List.length_nil]; omega))) only [↓wD,wU,Nat.reduceBEq,zx150,zx151,zx159,zx160,zx161,zx162,Nat.reduceAdd,Nat.reduceSub,Nat.reduceMul,Nat.reduceLeDiff,Nat.reduceLT,Nat.reduceEqDiff,Int.reduceAdd,Int.reduceSub,Int.reduceMul,Int.reduceNeg,Int.reduceLT,Int.reduceLE,Int.reduceEq,Int.reduceToNat,Int.cast_ofNat_Int,↓reduceIte]
  exact hu
def cutT (t : List (List Int)) : List (List Int) := (t.take 6).map fun r => r.take 6
theorem table_ret {p : Nat → Prop} {H : Heap} {v : AV} {t : List (List Int)} (ht : Sl p H v t) : Ret E 20 [v] (fun _ => False) H (cutT t) := by
  refine Ret.ro rfl fn20 rfl ?_
  unfold f20A
  have hb := ht.bound
  simp (disch := (first | assumption | omega | (simp only [List.length_append, List.length_cons, List.length_nil]; omega))) only [↓wD,wU,Nat.reduceBEq,zx150,zx151,zx159,zx160,zx161,zx162,Nat.reduceAdd,Nat.reduceSub,Nat.reduceMul,Nat.reduceLeDiff,Nat.reduceLT,Nat.reduceEqDiff,Int.reduceAdd,Int.reduceSub,Int.reduceMul,Int.reduceNeg,Int.reduceLT,Int.reduceLE,Int.reduceEq,Int.reduceToNat,Int.cast_ofNat_Int,↓reduceIte, *, ht.L]
  replace ht : Sl (fun b => b < H.length) H v t := ht.low.weak fun _ h => h.2
  refine Wp.for t.length (fun i a H' => ∃ u, a 6 = v ∧ a 7 = .i t.length ∧ a 8 = .i i ∧ a 3 = u ∧ Gr H H' ∧ Acc H.length (fun b => H.length ≤ b) H' u (((t.take i).take 6).map fun r => r.take 6)) ?_ ?_
  · rintro i a H1 hi ⟨u, h6, h7, h8, h3, hg, hu⟩ ih
    simp (disch := (first | assumption | omega | (simp only [List.length_append, List.length_cons, List.length_nil]; omega))) only [↓wD,wU,Nat.reduceBEq,zx150,zx151,zx159,zx160,zx161,zx162,Nat.reduceAdd,Nat.reduceSub,Nat.reduceMul,Nat.reduceLeDiff,Nat.reduceLT,Nat.reduceEqDiff,Int.reduceAdd,Int.reduceSub,Int.reduceMul,Int.reduceNeg,Int.reduceLT,Int.reduceLE,Int.reduceEq,Int.reduceToNat,Int.cast_ofNat_Int,↓reduceIte, *]
    refine condP_split (fun hlt => ?_) (fun hlt => ?_)
    · have hi' : i < t.length := by omega
      have ht1 := ht.gr hg
      have g := ht1.get (k := (i : Int)) (by omega) (by omega)
      simp (disch := (first | assumption | omega | (simp only [List.length_append, List.length_cons, List.length_nil]; omega))) only [↓wD,wU,Nat.reduceBEq,zx150,zx151,zx159,zx160,zx161,zx162,Nat.reduceAdd,Nat.reduceSub,Nat.reduceMul,Nat.reduceLeDiff,Nat.reduceLT,Nat.reduceEqDiff,Int.reduceAdd,Int.reduceSub,Int.reduceMul,Int.reduceNeg,Int.reduceLT,Int.reduceLE,Int.reduceEq,Int.reduceToNat,Int.cast_ofNat_Int,↓reduceIte, *, ht1.L]
      refine condP_split (fun h6 => ?_) (fun h6 => ?_)
      · simp (disch := (first | assumption | omega | (simp only [List.length_append, List.length_cons, List.length_nil]; omega))) only [↓wD,wU,Nat.reduceBEq,zx150,zx151,zx159,zx160,zx161,zx162,Nat.reduceAdd,Nat.reduceSub,Nat.reduceMul,Nat.reduceLeDiff,Nat.reduceLT,Nat.reduceEqDiff,Int.reduceAdd,Int.reduceSub,Int.reduceMul,Int.reduceNeg,Int.reduceLT,Int.reduceLE,Int.reduceEq,Int.reduceToNat,Int.cast_ofNat_Int,↓reduceIte, *]
        refine (list_ret g).toF fun y H2 hg2 hy => ?_
        have hl2 := hg2.1
        simp (disch := (first | assumption | omega | (simp only [List.length_append, List.length_cons, List.length_nil]; omega))) only [↓wD,wU,Nat.reduceBEq,zx150,zx151,zx159,zx160,zx161,zx162,Nat.reduceAdd,Nat.reduceSub,Nat.reduceMul,Nat.reduceLeDiff,Nat.reduceLT,Nat.reduceEqDiff,Int.reduceAdd,Int.reduceSub,Int.reduceMul,Int.reduceNeg,Int.reduceLT,Int.reduceLE,Int.reduceEq,Int.reduceToNat,Int.cast_ofNat_Int,↓reduceIte, *, hy.cellsV]
        refine (hu.gr hg2).pushL (Nat.le_refl _) (by have := hg.1; omega) hy (fun b hb => ⟨by have := hg.1; omega, fun e => by have := hu.blk_lt e; omega⟩) ?_ fun u' H3 hu' hk3 hl3' _ => ?_
        · simp; omega
        · simp (disch := (first | assumption | omega | (simp only [List.length_append, List.length_cons, List.length_nil]; omega))) only [↓wD,wU,Nat.reduceBEq,zx150,zx151,zx159,zx160,zx161,zx162,Nat.reduceAdd,Nat.reduceSub,Nat.reduceMul,Nat.reduceLeDiff,Nat.reduceLT,Nat.reduceEqDiff,Int.reduceAdd,Int.reduceSub,Int.reduceMul,Int.reduceNeg,Int.reduceLT,Int.reduceLE,Int.reduceEq,Int.reduceToNat,Int.cast_ofNat_Int,↓reduceIte, *]
          refine (ih hi').go ⟨u', ?_⟩
          simp (disch := (first | assumption | omega | (simp only [List.length_append, List.length_cons, List.length_nil]; omega))) only [↓wD,wU,Nat.reduceBEq,zx150,zx151,zx159,zx160,zx161,zx162,Nat.reduceAdd,Nat.reduceSub,Nat.reduceMul,Nat.reduceLeDiff,Nat.reduceLT,Nat.reduceEqDiff,Int.reduceAdd,Int.reduceSub,Int.reduceMul,Int.reduceNeg,Int.reduceLT,Int.reduceLE,Int.reduceEq,Int.reduceToNat,Int.cast_ofNat_Int,↓reduceIte, *]
          refine ⟨((hg.trans hg2).push (hu.gr hg2) (Nat.le_refl _) hk3), ?_⟩
          have e : ((t.take (i + 1)).take 6) = (t.take i).take 6 ++ [gi t i] := by
            rw [List.take_take, List.take_take, show min 6 (i + 1) = i + 1 by omega, show min 6 i = i by omega, take_gi hi']
          rw [e, List.map_append]; exact hu'
      · simp (disch := (first | assumption | omega | (simp only [List.length_append, List.length_cons, List.length_nil]; omega))) only [↓wD,wU,Nat.reduceBEq,zx150,zx151,zx159,zx160,zx161,zx162,Nat.reduceAdd,Nat.reduceSub,Nat.reduceMul,Nat.reduceLeDiff,Nat.reduceLT,Nat.reduceEqDiff,Int.reduceAdd,Int.reduceSub,Int.reduceMul,Int.reduceNeg,Int.reduceLT,Int.reduceLE,Int.reduceEq,Int.reduceToNat,Int.cast_ofNat_Int,↓reduceIte, *]
        refine (ih hi').go ⟨u, ?_⟩
        simp (disch := (first | assumption | omega | (simp only [List.length_append, List.length_cons, List.length_nil]; omega))) only [↓wD,wU,Nat.reduceBEq,zx150,zx151,zx159,zx160,zx161,zx162,Nat.reduceAdd,Nat.reduceSub,Nat.reduceMul,Nat.reduceLeDiff,Nat.reduceLT,Nat.reduceEqDiff,Int.reduceAdd,Int.reduceSub,Int.reduceMul,Int.reduceNeg,Int.reduceLT,Int.reduceLE,Int.reduceEq,Int.reduceToNat,Int.cast_ofNat_Int,↓reduceIte, *]
        have e : ((t.take (i + 1)).take 6) = (t.take i).take 6 := by
          rw [List.take_take, List.take_take]; congr 1; omega
        rw [e]; first | exact hu | exact ⟨hg, hu⟩
    · have e : i = t.length := by omega
      subst e
      simp (disch := (first | assumption | omega | (simp only [List.length_append, List.length_cons, List.length_nil]; omega))) only [↓wD,wU,Nat.reduceBEq,zx150,zx151,zx159,zx160,zx161,zx162,Nat.reduceAdd,Nat.reduceSub,Nat.reduceMul,Nat.reduceLeDiff,Nat.reduceLT,Nat.reduceEqDiff,Int.reduceAdd,Int.reduceSub,Int.reduceMul,Int.reduceNeg,Int.reduceLT,Int.reduceLE,Int.reduceEq,Int.reduceToNat,Int.cast_ofNat_Int,↓reduceIte, *]
      rw [List.take_length] at hu
      exact hu.sl.weak fun b h => .inr (by omega)
  · simp (disch := (first | assumption | omega | (simp only [List.length_append, List.length_cons, List.length_nil]; omega))) only [↓wD,wU,Nat.reduceBEq,zx150,zx151,zx159,zx160,zx161,zx162,Nat.reduceAdd,Nat.reduceSub,Nat.reduceMul,Nat.reduceLeDiff,Nat.reduceLT,Nat.reduceEqDiff,Int.reduceAdd,Int.reduceSub,Int.reduceMul,Int.reduceNeg,Int.reduceLT,Int.reduceLE,Int.reduceEq,Int.reduceToNat,Int.cast_ofNat_Int,↓reduceIte, *]
    exact ⟨.nils, rfl, Gr.refl _, Acc.nil⟩
end Go.Proofs.Ytflekaacffdakaa
namespace Go.Proofs.Ytflekaacffdakaa
open Go Go.AM Go.Proofs
theorem rtable_ret {p : Nat → Prop} {H : Heap} {v : AV} {t : List (List Int)} (ht : Sl p H v t) (hsz : t.length * 24 ≤ 140737488351232) : RetP E 22 [v] H (.b (decide (TabOk t))) := by
  refine RetP.ro rfl fn22 rfl rfl ?_
  unfold f22A
  simp (disch := (first | assumption | omega | (simp only [List.length_append, List.length_cons, List.length_nil]; omega))) only [↓wD,wU,Nat.reduceBEq,zx150,zx151,zx159,zx160,zx161,zx162,Nat.reduceAdd,Nat.reduceSub,Nat.reduceMul,Nat.reduceLeDiff,Nat.reduceLT,Nat.reduceEqDiff,Int.reduceAdd,Int.reduceSub,Int.reduceMul,Int.reduceNeg,Int.reduceLT,Int.reduceLE,Int.reduceEq,Int.reduceToNat,Int.cast_ofNat_Int,↓reduceIte, *, ht.L]
  refine Wp.for t.length (fun i a H' => H' = H ∧ a 0 = v ∧ a 8 = v ∧ a 9 = .i t.length ∧ a 10 = .i i ∧ a 3 = .i ((t.take i).map List.sum).sum ∧ (∀ r ∈ t.take i, RowOk (gi t 0).length r) ∧ 0 ≤ ((t.take i).map List.sum).sum ∧ ((t.take i).map List.sum).sum ≤ i * 48) ?_ ?_
  · rintro i a H' hi ⟨rfl, h0, h16, h17, h18, h3, hh, hp, hq⟩ ih
    simp (disch := (first | assumption | omega | (simp only [List.length_append, List.length_cons, List.length_nil]; omega))) only [↓wD,wU,Nat.reduceBEq,zx150,zx151,zx159,zx160,zx161,zx162,Nat.reduceAdd,Nat.reduceSub,Nat.reduceMul,Nat.reduceLeDiff,Nat.reduceLT,Nat.reduceEqDiff,Int.reduceAdd,Int.reduceSub,Int.reduceMul,Int.reduceNeg,Int.reduceLT,Int.reduceLE,Int.reduceEq,Int.reduceToNat,Int.cast_ofNat_Int,↓reduceIte, *]
    refine condP_split (fun hlt => ?_) (fun hlt => ?_)
    · have hi' : i < t.length := by omega
      have g := ht.get (k := (i : Int)) (by omega) (by omega)
      have g0 := ht.get (k := (0 : Int)) (by omega) (by omega)
      have hin : ¬ RowOk (gi t 0).length (gi t i) → ¬ TabOk t := fun hr h => hr (h.2.2.1 _ (mem_gi hi'))
      (repeat' (first | refine condP_split (fun _ => ?_) (fun _ => ?_) | refine guardP_split (fun _ => ?_) (fun _ => ?_) | refine guardP_splitF (fun _ => ?_) (fun _ => ?_) | (simp (disch := (first | assumption | omega | (simp only [List.length_append, List.length_cons, List.length_nil]; omega))) only [↓wD,wU,Nat.reduceBEq,zx150,zx151,zx159,zx160,zx161,zx162,Nat.reduceAdd,Nat.reduceSub,Nat.reduceMul,Nat.reduceLeDiff,Nat.reduceLT,Nat.reduceEqDiff,Int.reduceAdd,Int.reduceSub,Int.reduceMul,Int.reduceNeg,Int.reduceLT,Int.reduceLE,Int.reduceEq,Int.reduceToNat,Int.cast_ofNat_Int,↓reduceIte, *, ht.L, g.I, g0.I]))) <;> first
        | (refine avb_f (hin fun hr => ?_); have := hr.1; have := hr.2.1; have := hr.2.2.1; omega)
        | skip
      refine Wp.for (gi t i).length (fun j a H'' => H'' = H' ∧ a 0 = v ∧ a 8 = v ∧ a 9 = .i t.length ∧ a 10 = .i i ∧ a 31 = v.get H' i ∧ a 32 = .i (gi t i).length ∧ a 33 = .i j ∧ a 3 = .i (((t.take i).map List.sum).sum + ((gi t i).take j).sum) ∧ OkN ((gi t i).take j)) ?_ ?_
      · clear h0 h16 h17 h18 h3
        rintro j a H' hj ⟨rfl, h0, h16, h17, h18, h44, h45, h46, h3, hb1⟩ ih2
        have hb2 := sum_bound hb1
        have hb3 : ((gi t i).take j).length ≤ 3 := by rw [List.length_take]; omega
        simp (disch := (first | assumption | omega | (simp only [List.length_append, List.length_cons, List.length_nil]; omega))) only [↓wD,wU,Nat.reduceBEq,zx150,zx151,zx159,zx160,zx161,zx162,Nat.reduceAdd,Nat.reduceSub,Nat.reduceMul,Nat.reduceLeDiff,Nat.reduceLT,Nat.reduceEqDiff,Int.reduceAdd,Int.reduceSub,Int.reduceMul,Int.reduceNeg,Int.reduceLT,Int.reduceLE,Int.reduceEq,Int.reduceToNat,Int.cast_ofNat_Int,↓reduceIte, *]
        refine condP_split (fun hlt => ?_) (fun hlt => ?_)
        · have hj' : j < (gi t i).length := by omega
          (repeat' (first | refine condP_split (fun _ => ?_) (fun _ => ?_) | refine guardP_split (fun _ => ?_) (fun _ => ?_) | refine guardP_splitF (fun _ => ?_) (fun _ => ?_) | (simp (disch := (first | assumption | omega | (simp only [List.length_append, List.length_cons, List.length_nil]; omega))) only [↓wD,wU,Nat.reduceBEq,zx150,zx151,zx159,zx160,zx161,zx162,Nat.reduceAdd,Nat.reduceSub,Nat.reduceMul,Nat.reduceLeDiff,Nat.reduceLT,Nat.reduceEqDiff,Int.reduceAdd,Int.reduceSub,Int.reduceMul,Int.reduceNeg,Int.reduceLT,Int.reduceLE,Int.reduceEq,Int.reduceToNat,Int.cast_ofNat_Int,↓reduceIte, *, g.I]))) <;> first
            | (refine avb_f (hin fun hr => ?_); have := hr.2.2.2 _ (mem_gi hj'); omega)
            | skip
          refine (ih2 hj').go ⟨rfl, ?_⟩
          rw [sum_take hj']
          have hg : 0 ≤ gi (gi t i) j ∧ gi (gi t i) j ≤ 16 := by omega
          simp (disch := (first | assumption | omega | (simp only [List.length_append, List.length_cons, List.length_nil]; omega))) only [↓wD,wU,Nat.reduceBEq,zx150,zx151,zx159,zx160,zx161,zx162,Nat.reduceAdd,Nat.reduceSub,Nat.reduceMul,Nat.reduceLeDiff,Nat.reduceLT,Nat.reduceEqDiff,Int.reduceAdd,Int.reduceSub,Int.reduceMul,Int.reduceNeg,Int.reduceLT,Int.reduceLE,Int.reduceEq,Int.reduceToNat,Int.cast_ofNat_Int,↓reduceIte, *]
          exact ⟨by rw [Int.add_assoc], mem_take_gi hb1 hj' hg⟩
        · simp (disch := (first | assumption | omega | (simp only [List.length_append, List.length_cons, List.length_nil]; omega))) only [↓wD,wU,Nat.reduceBEq,zx150,zx151,zx159,zx160,zx161,zx162,Nat.reduceAdd,Nat.reduceSub,Nat.reduceMul,Nat.reduceLeDiff,Nat.reduceLT,Nat.reduceEqDiff,Int.reduceAdd,Int.reduceSub,Int.reduceMul,Int.reduceNeg,Int.reduceLT,Int.reduceLE,Int.reduceEq,Int.reduceToNat,Int.cast_ofNat_Int,↓reduceIte, *]
          have e : (gi t i).take j = gi t i := List.take_of_length_le (by omega)
          rw [e] at hb1 hb2 hb3
          refine (ih hi').go ⟨rfl, ?_⟩
          have e2 : ((t.take (i + 1)).map List.sum).sum = ((t.take i).map List.sum).sum + (gi t i).sum := by rw [take_gi hi', List.map_append, List.sum_append]; simp
          rw [e2]
          simp (disch := (first | assumption | omega | (simp only [List.length_append, List.length_cons, List.length_nil]; omega))) only [↓wD,wU,Nat.reduceBEq,zx150,zx151,zx159,zx160,zx161,zx162,Nat.reduceAdd,Nat.reduceSub,Nat.reduceMul,Nat.reduceLeDiff,Nat.reduceLT,Nat.reduceEqDiff,Int.reduceAdd,Int.reduceSub,Int.reduceMul,Int.reduceNeg,Int.reduceLT,Int.reduceLE,Int.reduceEq,Int.reduceToNat,Int.cast_ofNat_Int,↓reduceIte, *]
          refine ⟨mem_take_gi hh hi' ⟨?_, ?_, ?_, hb1⟩, ?_, ?_⟩ <;> omega
      · (simp (disch := (first | assumption | omega | (simp only [List.length_append, List.length_cons, List.length_nil]; omega))) only [↓wD,wU,Nat.reduceBEq,zx150,zx151,zx159,zx160,zx161,zx162,Nat.reduceAdd,Nat.reduceSub,Nat.reduceMul,Nat.reduceLeDiff,Nat.reduceLT,Nat.reduceEqDiff,Int.reduceAdd,Int.reduceSub,Int.reduceMul,Int.reduceNeg,Int.reduceLT,Int.reduceLE,Int.reduceEq,Int.reduceToNat,Int.cast_ofNat_Int,↓reduceIte, *]) <;> simp [OkN]
    · have e : t.take i = t := List.take_of_length_le (by omega)
      rw [e] at hh hp hq
      (repeat' (first | refine condP_split (fun _ => ?_) (fun _ => ?_) | refine guardP_split (fun _ => ?_) (fun _ => ?_) | refine guardP_splitF (fun _ => ?_) (fun _ => ?_) | (simp (disch := (first | assumption | omega | (simp only [List.length_append, List.length_cons, List.length_nil]; omega))) only [↓wD,wU,Nat.reduceBEq,zx150,zx151,zx159,zx160,zx161,zx162,Nat.reduceAdd,Nat.reduceSub,Nat.reduceMul,Nat.reduceLeDiff,Nat.reduceLT,Nat.reduceEqDiff,Int.reduceAdd,Int.reduceSub,Int.reduceMul,Int.reduceNeg,Int.reduceLT,Int.reduceLE,Int.reduceEq,Int.reduceToNat,Int.cast_ofNat_Int,↓reduceIte, *, ht.L]))) <;> first
        | (refine avb_f fun h => ?_; have := h.1; have := h.2.1; omega)
        | skip
      congr 1
      exact decide_eq_decide.2 ⟨fun h => ⟨by omega, by omega, hh, h⟩, fun h => h.2.2.2⟩
  · (simp (disch := (first | assumption | omega | (simp only [List.length_append, List.length_cons, List.length_nil]; omega))) only [↓wD,wU,Nat.reduceBEq,zx150,zx151,zx159,zx160,zx161,zx162,Nat.reduceAdd,Nat.reduceSub,Nat.reduceMul,Nat.reduceLeDiff,Nat.reduceLT,Nat.reduceEqDiff,Int.reduceAdd,Int.reduceSub,Int.reduceMul,Int.reduceNeg,Int.reduceLT,Int.reduceLE,Int.reduceEq,Int.reduceToNat,Int.cast_ofNat_Int,↓reduceIte, *]) <;> simp
theorem same_ret {p q : Nat → Prop} {H : Heap} {r1 r2 : AV} {xs ys : List (List Int)} (k1 : Sl p H r1 xs) (k2 : Sl q H r2 ys) :
    RetP E 26 [r1, r2] H (.b (decide (xs = ys))) := by
  refine RetP.ro rfl fn26 rfl rfl ?_
  unfold f26A
  have hb1 := k1.bound
  have hb2 := k2.bound
  (repeat' (first | refine condP_split (fun _ => ?_) (fun _ => ?_) | refine guardP_split (fun _ => ?_) (fun _ => ?_) | refine guardP_splitF (fun _ => ?_) (fun _ => ?_) | (simp (disch := (first | assumption | omega | (simp only [List.length_append, List.length_cons, List.length_nil]; omega))) only [↓wD,wU,Nat.reduceBEq,zx150,zx151,zx159,zx160,zx161,zx162,Nat.reduceAdd,Nat.reduceSub,Nat.reduceMul,Nat.reduceLeDiff,Nat.reduceLT,Nat.reduceEqDiff,Int.reduceAdd,Int.reduceSub,Int.reduceMul,Int.reduceNeg,Int.reduceLT,Int.reduceLE,Int.reduceEq,Int.reduceToNat,Int.cast_ofNat_Int,↓reduceIte, *, k1.L, k2.L]))) <;> first
    | (rename_i hl; exact avb_f fun h => hl (by simp_all))
    | skip
  rename_i hl
  have hl : xs.length = ys.length := by omega
  refine Wp.for xs.length (fun i a H' => H' = H ∧ a 1 = r2 ∧ a 14 = r1 ∧ a 15 = .i xs.length ∧ a 16 = .i i ∧ xs.take i = ys.take i) ?_ ?_
  · rintro i a H' hi ⟨rfl, h3, h24, h25, h26, hh⟩ ih
    simp (disch := (first | assumption | omega | (simp only [List.length_append, List.length_cons, List.length_nil]; omega))) only [↓wD,wU,Nat.reduceBEq,zx150,zx151,zx159,zx160,zx161,zx162,Nat.reduceAdd,Nat.reduceSub,Nat.reduceMul,Nat.reduceLeDiff,Nat.reduceLT,Nat.reduceEqDiff,Int.reduceAdd,Int.reduceSub,Int.reduceMul,Int.reduceNeg,Int.reduceLT,Int.reduceLE,Int.reduceEq,Int.reduceToNat,Int.cast_ofNat_Int,↓reduceIte, *]
    refine condP_split (fun hlt => ?_) (fun hlt => ?_)
    · have hi1 : i < xs.length := by omega
      have g1 := k1.get (k := (i : Int)) (by omega) (by omega)
      have g2 := k2.get (k := (i : Int)) (by omega) (by omega)
      have gb1 := g1.bound
      (repeat' (first | refine condP_split (fun _ => ?_) (fun _ => ?_) | refine guardP_split (fun _ => ?_) (fun _ => ?_) | refine guardP_splitF (fun _ => ?_) (fun _ => ?_) | (simp (disch := (first | assumption | omega | (simp only [List.length_append, List.length_cons, List.length_nil]; omega))) only [↓wD,wU,Nat.reduceBEq,zx150,zx151,zx159,zx160,zx161,zx162,Nat.reduceAdd,Nat.reduceSub,Nat.reduceMul,Nat.reduceLeDiff,Nat.reduceLT,Nat.reduceEqDiff,Int.reduceAdd,Int.reduceSub,Int.reduceMul,Int.reduceNeg,Int.reduceLT,Int.reduceLE,Int.reduceEq,Int.reduceToNat,Int.cast_ofNat_Int,↓reduceIte, *, k1.L, k2.L, g1.I, g2.I]))) <;> first
        | (rename_i hne; exact avb_f fun h => hne (by simp_all))
        | skip
      rename_i hll
      have hll : (gi xs i).length = (gi ys i).length := by omega
      refine Wp.for (gi xs i).length (fun j a H'' => H'' = H' ∧ a 1 = r2 ∧ a 14 = r1 ∧ a 15 = .i xs.length ∧ a 16 = .i i ∧ a 5 = .i i ∧ a 29 = r1.get H' i ∧ a 30 = .i (gi xs i).length ∧ a 31 = .i j ∧ (gi xs i).take j = (gi ys i).take j) ?_ ?_
      · clear h3 h24 h25 h26
        rintro j a H' hj ⟨rfl, h3, h24, h25, h26, h5, h40, h41, h42, hh2⟩ ih2
        simp (disch := (first | assumption | omega | (simp only [List.length_append, List.length_cons, List.length_nil]; omega))) only [↓wD,wU,Nat.reduceBEq,zx150,zx151,zx159,zx160,zx161,zx162,Nat.reduceAdd,Nat.reduceSub,Nat.reduceMul,Nat.reduceLeDiff,Nat.reduceLT,Nat.reduceEqDiff,Int.reduceAdd,Int.reduceSub,Int.reduceMul,Int.reduceNeg,Int.reduceLT,Int.reduceLE,Int.reduceEq,Int.reduceToNat,Int.cast_ofNat_Int,↓reduceIte, *]
        refine condP_split (fun hlt2 => ?_) (fun hlt2 => ?_)
        · have hj1 : j < (gi xs i).length := by omega
          (repeat' (first | refine condP_split (fun _ => ?_) (fun _ => ?_) | refine guardP_split (fun _ => ?_) (fun _ => ?_) | refine guardP_splitF (fun _ => ?_) (fun _ => ?_) | (simp (disch := (first | assumption | omega | (simp only [List.length_append, List.length_cons, List.length_nil]; omega))) only [↓wD,wU,Nat.reduceBEq,zx150,zx151,zx159,zx160,zx161,zx162,Nat.reduceAdd,Nat.reduceSub,Nat.reduceMul,Nat.reduceLeDiff,Nat.reduceLT,Nat.reduceEqDiff,Int.reduceAdd,Int.reduceSub,Int.reduceMul,Int.reduceNeg,Int.reduceLT,Int.reduceLE,Int.reduceEq,Int.reduceToNat,Int.cast_ofNat_Int,↓reduceIte, *, k1.L, k2.L, g1.I, g2.I]))) <;> first
            | (rename_i hne; exact avb_f fun h => hne (by simp_all))
            | skip
          refine (ih2 hj1).go ⟨rfl, ?_⟩
          simp (disch := (first | assumption | omega | (simp only [List.length_append, List.length_cons, List.length_nil]; omega))) only [↓wD,wU,Nat.reduceBEq,zx150,zx151,zx159,zx160,zx161,zx162,Nat.reduceAdd,Nat.reduceSub,Nat.reduceMul,Nat.reduceLeDiff,Nat.reduceLT,Nat.reduceEqDiff,Int.reduceAdd,Int.reduceSub,Int.reduceMul,Int.reduceNeg,Int.reduceLT,Int.reduceLE,Int.reduceEq,Int.reduceToNat,Int.cast_ofNat_Int,↓reduceIte, *]
          exact take_eq_succ hh2 hj1 (by omega) (by omega)
        · simp (disch := (first | assumption | omega | (simp only [List.length_append, List.length_cons, List.length_nil]; omega))) only [↓wD,wU,Nat.reduceBEq,zx150,zx151,zx159,zx160,zx161,zx162,Nat.reduceAdd,Nat.reduceSub,Nat.reduceMul,Nat.reduceLeDiff,Nat.reduceLT,Nat.reduceEqDiff,Int.reduceAdd,Int.reduceSub,Int.reduceMul,Int.reduceNeg,Int.reduceLT,Int.reduceLE,Int.reduceEq,Int.reduceToNat,Int.cast_ofNat_Int,↓reduceIte, *]
          refine (ih hi1).go ⟨rfl, ?_⟩
          simp (disch := (first | assumption | omega | (simp only [List.length_append, List.length_cons, List.length_nil]; omega))) only [↓wD,wU,Nat.reduceBEq,zx150,zx151,zx159,zx160,zx161,zx162,Nat.reduceAdd,Nat.reduceSub,Nat.reduceMul,Nat.reduceLeDiff,Nat.reduceLT,Nat.reduceEqDiff,Int.reduceAdd,Int.reduceSub,Int.reduceMul,Int.reduceNeg,Int.reduceLT,Int.reduceLE,Int.reduceEq,Int.reduceToNat,Int.cast_ofNat_Int,↓reduceIte, *]
          exact take_eq_succ hh hi1 (by omega) (take_all hh2 hll (by omega))
      · (simp (disch := (first | assumption | omega | (simp only [List.length_append, List.length_cons, List.length_nil]; omega))) only [↓wD,wU,Nat.reduceBEq,zx150,zx151,zx159,zx160,zx161,zx162,Nat.reduceAdd,Nat.reduceSub,Nat.reduceMul,Nat.reduceLeDiff,Nat.reduceLT,Nat.reduceEqDiff,Int.reduceAdd,Int.reduceSub,Int.reduceMul,Int.reduceNeg,Int.reduceLT,Int.reduceLE,Int.reduceEq,Int.reduceToNat,Int.cast_ofNat_Int,↓reduceIte, *]) <;> simp
    · simp (disch := (first | assumption | omega | (simp only [List.length_append, List.length_cons, List.length_nil]; omega))) only [↓wD,wU,Nat.reduceBEq,zx150,zx151,zx159,zx160,zx161,zx162,Nat.reduceAdd,Nat.reduceSub,Nat.reduceMul,Nat.reduceLeDiff,Nat.reduceLT,Nat.reduceEqDiff,Int.reduceAdd,Int.reduceSub,Int.reduceMul,Int.reduceNeg,Int.reduceLT,Int.reduceLE,Int.reduceEq,Int.reduceToNat,Int.cast_ofNat_Int,↓reduceIte, *]
      exact avb_t (take_all hh hl (by omega))
  · (simp (disch := (first | assumption | omega | (simp only [List.length_append, List.length_cons, List.length_nil]; omega))) only [↓wD,wU,Nat.reduceBEq,zx150,zx151,zx159,zx160,zx161,zx162,Nat.reduceAdd,Nat.reduceSub,Nat.reduceMul,Nat.reduceLeDiff,Nat.reduceLT,Nat.reduceEqDiff,Int.reduceAdd,Int.reduceSub,Int.reduceMul,Int.reduceNeg,Int.reduceLT,Int.reduceLE,Int.reduceEq,Int.reduceToNat,Int.cast_ofNat_Int,↓reduceIte, *]) <;> simp
end Go.Proofs.Ytflekaacffdakaa
namespace Go.Proofs.Ytflekaacffdakaa
open Go Go.AM Go.Proofs
def turnT (t : List (List Int)) : List (List Int) := (List.range (gi t 0).length).map fun j : Nat => t.map fun r => gi r (j : Int)
/-- growing slices side by side -/
def MA (L : Nat) (H : Heap) (us : List AV) (xss : List (List Int)) : Prop :=
  us.length = xss.length ∧ (∀ (j : Nat) (h : j < us.length) (h' : j < xss.length), Acc L (fun _ => False) H us[j] xss[j]) ∧ ∀ (j j' b : Nat) (h : j < us.length) (h' : j' < us.length), us[j].blk = some b → us[j'].blk = some b → j = j'
theorem turn_ret {p : Nat → Prop} {H : Heap} {v : AV} {t : List (List Int)} (ht : Sl p H v t) (h : TabOk t) : Ret E 21 [v] (fun _ => False) H (T2.mk (turnT t) (0 : Int)) := by
  refine Ret.ro rfl fn21 rfl ?_
  unfold f21A
  have hc := h.cols
  have hl := h.1
  have hl3 := h.2.1
  replace ht : Sl (fun b => b < H.length) H v t := ht.low.weak fun _ h => h.2
  have g0 := ht.get (k := (0 : Int)) (by omega) (by omega)
  simp (disch := (first | assumption | omega | (simp only [List.length_append, List.length_cons, List.length_nil]; omega))) only [↓wD,wU,Nat.reduceBEq,zx150,zx151,zx159,zx160,zx161,zx162,Nat.reduceAdd,Nat.reduceSub,Nat.reduceMul,Nat.reduceLeDiff,Nat.reduceLT,Nat.reduceEqDiff,Int.reduceAdd,Int.reduceSub,Int.reduceMul,Int.reduceNeg,Int.reduceLT,Int.reduceLE,Int.reduceEq,Int.reduceToNat,Int.cast_ofNat_Int,↓reduceIte, *, (valid_ret ht).call, ht.L, g0.I]
  refine Wp.for t.length (fun i a H' => ∃ us, a 4 = .s 1 H.length 0 (gi t 0).length (some (gi t 0).length) ∧ a 17 = v ∧ a 18 = .i t.length ∧ a 19 = .i i ∧ Gr H H' ∧ H'[H.length]? = some (.cells us) ∧ MA (H.length + 1) H' us ((List.range (gi t 0).length).map fun j : Nat => (t.take i).map fun r => gi r (j : Int))) ?_ ?_
  · rintro i a H1 hi ⟨us, h4, h17, h18, h19, hg, hc1, hm⟩ ih
    simp (disch := (first | assumption | omega | (simp only [List.length_append, List.length_cons, List.length_nil]; omega))) only [↓wD,wU,Nat.reduceBEq,zx150,zx151,zx159,zx160,zx161,zx162,Nat.reduceAdd,Nat.reduceSub,Nat.reduceMul,Nat.reduceLeDiff,Nat.reduceLT,Nat.reduceEqDiff,Int.reduceAdd,Int.reduceSub,Int.reduceMul,Int.reduceNeg,Int.reduceLT,Int.reduceLE,Int.reduceEq,Int.reduceToNat,Int.cast_ofNat_Int,↓reduceIte, *]
    refine condP_split (fun hlt => ?_) (fun hlt => ?_)
    · have hi' : i < t.length := by omega
      have ht1 := ht.gr hg
      have g := ht1.get (k := (i : Int)) (by omega) (by omega)
      have hw := h.width hi'
      simp (disch := (first | assumption | omega | (simp only [List.length_append, List.length_cons, List.length_nil]; omega))) only [↓wD,wU,Nat.reduceBEq,zx150,zx151,zx159,zx160,zx161,zx162,Nat.reduceAdd,Nat.reduceSub,Nat.reduceMul,Nat.reduceLeDiff,Nat.reduceLT,Nat.reduceEqDiff,Int.reduceAdd,Int.reduceSub,Int.reduceMul,Int.reduceNeg,Int.reduceLT,Int.reduceLE,Int.reduceEq,Int.reduceToNat,Int.cast_ofNat_Int,↓reduceIte, *, ht1.L, g.I]
      refine Wp.for (gi t i).length (fun j a H' => ∃ us, a 4 = .s 1 H.length 0 (gi t 0).length (some (gi t 0).length) ∧ a 17 = v ∧ a 18 = .i t.length ∧ a 19 = .i i ∧ a 23 = v.get H1 i ∧ a 24 = .i (gi t i).length ∧ a 25 = .i j ∧ Kp (fun b => b < H.length) H1 H' ∧ H'[H.length]? = some (.cells us) ∧ MA (H.length + 1) H' us ((List.range (gi t 0).length).map fun c : Nat => ((t.take i).map fun r => gi r (c : Int)) ++ if c < j then [gi (gi t i) (c : Int)] else [])) ?_ ?_
      · clear h4 h17 h18 h19 hc1 hm us
        rintro j a H2 hj ⟨us, h4, h17, h18, h19, h23, h24, h25, hk, hc2, hm⟩ ih2
        simp (disch := (first | assumption | omega | (simp only [List.length_append, List.length_cons, List.length_nil]; omega))) only [↓wD,wU,Nat.reduceBEq,zx150,zx151,zx159,zx160,zx161,zx162,Nat.reduceAdd,Nat.reduceSub,Nat.reduceMul,Nat.reduceLeDiff,Nat.reduceLT,Nat.reduceEqDiff,Int.reduceAdd,Int.reduceSub,Int.reduceMul,Int.reduceNeg,Int.reduceLT,Int.reduceLE,Int.reduceEq,Int.reduceToNat,Int.cast_ofNat_Int,↓reduceIte, *]
        refine condP_split (fun hlt => ?_) (fun hlt => ?_)
        · have hj' : j < (gi t i).length := by omega
          have g2 : Sl (fun b => b < H.length) H2 (v.get H1 i) (gi t i) := g.kp hk
          obtain ⟨m1, m2, m3⟩ := hm
          have hjl : j < us.length := by rw [m1]; simp; omega
          have hu := m2 j hjl (by simp; omega)
          have hH := (List.getElem?_eq_some_iff.1 hc2).1
          have e1 : us[j]? = some us[j] := List.getElem?_eq_getElem hjl
          have ej : (((List.range (gi t 0).length).map fun c : Nat => ((t.take i).map fun r => gi r (c : Int)) ++ if c < j then [gi (gi t i) (c : Int)] else []))[j]'(by simp; omega) = (t.take i).map fun r => gi r (j : Int) := by simp
          rw [ej] at hu
          simp (disch := (first | assumption | omega | (simp only [List.length_append, List.length_cons, List.length_nil]; omega))) only [↓wD,wU,Nat.reduceBEq,zx150,zx151,zx159,zx160,zx161,zx162,Nat.reduceAdd,Nat.reduceSub,Nat.reduceMul,Nat.reduceLeDiff,Nat.reduceLT,Nat.reduceEqDiff,Int.reduceAdd,Int.reduceSub,Int.reduceMul,Int.reduceNeg,Int.reduceLT,Int.reduceLE,Int.reduceEq,Int.reduceToNat,Int.cast_ofNat_Int,↓reduceIte, *, g2.I, ld_of hc2, e1]
          refine hu.pushI (by omega) (by omega) (by simp; omega) fun u' H3 hu' hk3 hl3' _ => ?_
          have hc3 := hk3.get (b := H.length) (fun e => by have := hu.blk_lt e; omega) hc2
          simp (disch := (first | assumption | omega | (simp only [List.length_append, List.length_cons, List.length_nil]; omega))) only [↓wD,wU,Nat.reduceBEq,zx150,zx151,zx159,zx160,zx161,zx162,Nat.reduceAdd,Nat.reduceSub,Nat.reduceMul,Nat.reduceLeDiff,Nat.reduceLT,Nat.reduceEqDiff,Int.reduceAdd,Int.reduceSub,Int.reduceMul,Int.reduceNeg,Int.reduceLT,Int.reduceLE,Int.reduceEq,Int.reduceToNat,Int.cast_ofNat_Int,↓reduceIte, *, st_of hc3, hu'.cellsV]
          refine (ih2 hj').go ⟨us.set j u', ?_⟩
          simp (disch := (first | assumption | omega | (simp only [List.length_append, List.length_cons, List.length_nil]; omega))) only [↓wD,wU,Nat.reduceBEq,zx150,zx151,zx159,zx160,zx161,zx162,Nat.reduceAdd,Nat.reduceSub,Nat.reduceMul,Nat.reduceLeDiff,Nat.reduceLT,Nat.reduceEqDiff,Int.reduceAdd,Int.reduceSub,Int.reduceMul,Int.reduceNeg,Int.reduceLT,Int.reduceLE,Int.reduceEq,Int.reduceToNat,Int.cast_ofNat_Int,↓reduceIte, *]
          refine ⟨?_, ?_, ?_⟩
          · exact (hk.trans hk3 fun b hb e => by have := hu.blk_lt e; omega).trans (Kp.set _ _ _) fun b hb => by omega
          · simpa [wr] using get_set hc3
          · refine ⟨by simp [m1], fun c h1 h2 => ?_, fun c c' b h1 h2 e1' e2' => ?_⟩
            · have hc1 : c < us.length := by simpa using h1
              have hks : Kp (fun b => H.length + 1 ≤ b) H3 (H3.set H.length (.cells (us.set j u'))) := (Kp.set _ _ _).weak fun b hb => by omega
              simp only [List.getElem_set, List.getElem_map, List.getElem_range]
              by_cases hcj : j = c
              · subst hcj
                simp only [if_true]
                have : ((t.take i).map fun r => gi r (j : Int)) ++ (if j < j + 1 then [gi (gi t i) (j : Int)] else []) = ((t.take i).map fun r => gi r (j : Int)) ++ [gi (gi t i) (j : Int)] := by simp
                rw [this]
                refine hu'.up hks
              · rw [if_neg hcj]
                have h3 := m2 c hc1 (by simpa using h2)
                have : (((List.range (gi t 0).length).map fun c : Nat => ((t.take i).map fun r => gi r (c : Int)) ++ if c < j then [gi (gi t i) (c : Int)] else []))[c]'(by simpa using h2) = ((t.take i).map fun r => gi r (c : Int)) ++ if c < j + 1 then [gi (gi t i) (c : Int)] else [] := by
                  have : (c < j + 1) = (c < j) := by simp only [eq_iff_iff]; omega
                  simp [this]
                rw [this] at h3
                have h4 := h3.kp hk3 (fun b e e2 => hcj (m3 j c b hjl hc1 e2 e)) fun _ h => h.elim
                exact h4.up hks
            · have hc1 : c < us.length := by simpa using h1
              have hc2' : c' < us.length := by simpa using h2
              simp only [List.getElem_set] at e1' e2'
              have hfr : ∀ (k : Nat) (hk : k < us.length) (b : Nat), us[k].blk = some b → b < H2.length := fun k hk b e => ((m2 k hk (by omega)).blk_lt e).2
              by_cases q1 : j = c <;> by_cases q2 : j = c'
              · omega
              · rw [if_pos q1] at e1'
                rw [if_neg q2] at e2'
                have := hfr _ hc2' _ e2'
                have h5 : u'.blk = some (H3.length - 1) := by assumption
                rw [h5] at e1'
                cases e1'; omega
              · rw [if_neg q1] at e1'
                rw [if_pos q2] at e2'
                have := hfr _ hc1 _ e1'
                have h5 : u'.blk = some (H3.length - 1) := by assumption
                rw [h5] at e2'
                cases e2'; omega
              · rw [if_neg q1] at e1'
                rw [if_neg q2] at e2'
                exact m3 c c' b hc1 hc2' e1' e2'
        · have e : j = (gi t i).length := by omega
          subst e
          simp (disch := (first | assumption | omega | (simp only [List.length_append, List.length_cons, List.length_nil]; omega))) only [↓wD,wU,Nat.reduceBEq,zx150,zx151,zx159,zx160,zx161,zx162,Nat.reduceAdd,Nat.reduceSub,Nat.reduceMul,Nat.reduceLeDiff,Nat.reduceLT,Nat.reduceEqDiff,Int.reduceAdd,Int.reduceSub,Int.reduceMul,Int.reduceNeg,Int.reduceLT,Int.reduceLE,Int.reduceEq,Int.reduceToNat,Int.cast_ofNat_Int,↓reduceIte, *]
          refine (ih hi').go ⟨us, ?_⟩
          simp (disch := (first | assumption | omega | (simp only [List.length_append, List.length_cons, List.length_nil]; omega))) only [↓wD,wU,Nat.reduceBEq,zx150,zx151,zx159,zx160,zx161,zx162,Nat.reduceAdd,Nat.reduceSub,Nat.reduceMul,Nat.reduceLeDiff,Nat.reduceLT,Nat.reduceEqDiff,Int.reduceAdd,Int.reduceSub,Int.reduceMul,Int.reduceNeg,Int.reduceLT,Int.reduceLE,Int.reduceEq,Int.reduceToNat,Int.cast_ofNat_Int,↓reduceIte, *]
          refine ⟨hg.trans' hk fun b hb => hb, ?_⟩
          have e : ((List.range (gi t 0).length).map fun j : Nat => (t.take (i + 1)).map fun r => gi r (j : Int)) = (List.range (gi t 0).length).map fun c : Nat => ((t.take i).map fun r => gi r (c : Int)) ++ if c < (gi t i).length then [gi (gi t i) (c : Int)] else [] := by
            apply map_range_congr
            intro c hc
            rw [take_gi hi', List.map_append, if_pos (by omega)]
            rfl
          rw [e]; exact hm
      · simp (disch := (first | assumption | omega | (simp only [List.length_append, List.length_cons, List.length_nil]; omega))) only [↓wD,wU,Nat.reduceBEq,zx150,zx151,zx159,zx160,zx161,zx162,Nat.reduceAdd,Nat.reduceSub,Nat.reduceMul,Nat.reduceLeDiff,Nat.reduceLT,Nat.reduceEqDiff,Int.reduceAdd,Int.reduceSub,Int.reduceMul,Int.reduceNeg,Int.reduceLT,Int.reduceLE,Int.reduceEq,Int.reduceToNat,Int.cast_ofNat_Int,↓reduceIte, *]
        refine ⟨us, ?_⟩
        simp (disch := (first | assumption | omega | (simp only [List.length_append, List.length_cons, List.length_nil]; omega))) only [↓wD,wU,Nat.reduceBEq,zx150,zx151,zx159,zx160,zx161,zx162,Nat.reduceAdd,Nat.reduceSub,Nat.reduceMul,Nat.reduceLeDiff,Nat.reduceLT,Nat.reduceEqDiff,Int.reduceAdd,Int.reduceSub,Int.reduceMul,Int.reduceNeg,Int.reduceLT,Int.reduceLE,Int.reduceEq,Int.reduceToNat,Int.cast_ofNat_Int,↓reduceIte, *]
        refine ⟨Kp.refl _ _, ?_⟩
        simpa using hm
    · have e : i = t.length := by omega
      subst e
      simp (disch := (first | assumption | omega | (simp only [List.length_append, List.length_cons, List.length_nil]; omega))) only [↓wD,wU,Nat.reduceBEq,zx150,zx151,zx159,zx160,zx161,zx162,Nat.reduceAdd,Nat.reduceSub,Nat.reduceMul,Nat.reduceLeDiff,Nat.reduceLT,Nat.reduceEqDiff,Int.reduceAdd,Int.reduceSub,Int.reduceMul,Int.reduceNeg,Int.reduceLT,Int.reduceLE,Int.reduceEq,Int.reduceToNat,Int.cast_ofNat_Int,↓reduceIte, *]
      rw [List.take_length] at hm
      obtain ⟨m1, m2, m3⟩ := hm
      refine rv_2 (.inr ⟨H.length, 0, some (gi t 0).length, us, by simp [turnT]; rfl, .inr (Nat.le_refl _), hc1, ?_, ?_, fun j hj => ?_⟩) rv_i
      · rw [m1]; change 0 + _ * 1 ≤ _; simp [turnT]
      · simp [turnT]; omega
      · have hj1 : j < us.length := by rw [m1]; simpa [turnT] using hj
        have hj2 := m2 j hj1 (by simpa [turnT] using hj)
        refine ⟨us[j], ?_, ?_⟩
        · change (us.drop (0 + j * 1)).take 1 = _
          rw [Nat.zero_add, Nat.mul_one, List.take_one, List.head?_drop]
          simp [hj1]
        · have h3 := hj2.sl.weak (q := fun b => False ∨ H.length ≤ b) (by intro b hb; rcases hb with hb | hb; exact hb.elim; exact .inr (by omega))
          have e : (turnT t)[j]'hj = (((List.range (gi t 0).length).map fun j : Nat => t.map fun r => gi r (j : Int)))[j]'(by simpa [turnT] using hj) := rfl
          rw [e]; exact h3
  · simp (disch := (first | assumption | omega | (simp only [List.length_append, List.length_cons, List.length_nil]; omega))) only [↓wD,wU,Nat.reduceBEq,zx150,zx151,zx159,zx160,zx161,zx162,Nat.reduceAdd,Nat.reduceSub,Nat.reduceMul,Nat.reduceLeDiff,Nat.reduceLT,Nat.reduceEqDiff,Int.reduceAdd,Int.reduceSub,Int.reduceMul,Int.reduceNeg,Int.reduceLT,Int.reduceLE,Int.reduceEq,Int.reduceToNat,Int.cast_ofNat_Int,↓reduceIte, *]
    refine ⟨_, Kp.app _ _ _, rfl, by simp [reps_z], fun j h1 h2 => ?_, fun j j' b h1 h2 e => ?_⟩
    · have e1 : (reps (gi t 0).length [AV.nils])[j] = .nils := by simp [reps_z]
      have e2 : (((List.range (gi t 0).length).map fun _ : Nat => ([] : List Int)))[j]'h2 = [] := by simp
      rw [e1, e2]; exact Acc.nil
    · have e1 : (reps (gi t 0).length [AV.nils])[j] = .nils := by simp [reps_z]
      rw [e1] at e; cases e
theorem turn_err {p q : Nat → Prop} {H : Heap} {v : AV} {t : List (List Int)} (ht : Sl p H v t) (h : ¬ TabOk t) : Ret E 21 [v] q H (T2.mk ([] : List (List Int)) (2 : Int)) := by
  refine Ret.ro rfl fn21 rfl ?_
  unfold f21A
  simp (disch := (first | assumption | omega | (simp only [List.length_append, List.length_cons, List.length_nil]; omega))) only [↓wD,wU,Nat.reduceBEq,zx150,zx151,zx159,zx160,zx161,zx162,Nat.reduceAdd,Nat.reduceSub,Nat.reduceMul,Nat.reduceLeDiff,Nat.reduceLT,Nat.reduceEqDiff,Int.reduceAdd,Int.reduceSub,Int.reduceMul,Int.reduceNeg,Int.reduceLT,Int.reduceLE,Int.reduceEq,Int.reduceToNat,Int.cast_ofNat_Int,↓reduceIte, *, (valid_ret ht).call]
  exact rv_2 Sl.nil rv_i
end Go.Proofs.Ytflekaacffdakaa
namespace Go.Proofs.Ytflekaacffdakaa
open Go Go.AM Go.Proofs
theorem list2 {xs : List Int} (h : xs.length = 2) : ∃ a b, xs = [a, b] := by
  match xs, h with
  | [a, b], _ => exact ⟨a, b, rfl⟩
theorem list3 {xs : List Int} (h : xs.length = 3) : ∃ a b c, xs = [a, b, c] := by
  match xs, h with
  | [a, b, c], _ => exact ⟨a, b, c, rfl⟩
theorem eq37 (w : World) (x0 x1 y0 y1 : Int) : (Op.equalIn 10000 37 (.agg #[.int .i64 x0, .int .i64 x1]) (.agg #[.int .i64 y0, .int .i64 y1])).run C.P w = .ok ([x0, x1] == [y0, y1]) w := by
  rw [run_equalIn_struct w 9999 37 _ _ (by kernel_rfl) (by kernel_rfl)]
  have hi : Try.prog.underlying 3 = some (.int .i64) := Try.underlying3
  have e : ∀ a b : Int, (Op.equalIn 9999 3 (.int .i64 a) (.int .i64 b)).run Try.prog w = .ok (a == b) w := fun a b => run_equalIn_int w 9998 3 .i64 .i64 a b hi
  have pt : ∀ (a b : Int) (k : Nat), k < 2 → (part 3 #[.int .i64 a, .int .i64 b] k).run Try.prog w = .ok (.int .i64 (if k = 0 then a else b)) w := by
    intro a b k hk
    have : k = 0 ∨ k = 1 := by omega
    rcases this with rfl | rfl <;> go_simp
  simp [Try.underlying37, Program.fieldsOf, C, Op.eqFields, pt, e]
  by_cases h1 : x0 = y0 <;> by_cases h2 : x1 = y1 <;> simp [h1, h2]
theorem eq88 (w : World) (x0 x1 x2 y0 y1 y2 : Int) : (Op.equalIn 10000 88 (.agg #[.int .i64 x0, .int .i64 x1, .int .i64 x2]) (.agg #[.int .i64 y0, .int .i64 y1, .int .i64 y2])).run C.P w = .ok ([x0, x1, x2] == [y0, y1, y2]) w := by
  have hi : Try.prog.underlying 3 = some (.int .i64) := Try.underlying3
  have ha : Try.prog.underlying 88 = some (.array 3 3) := Try.underlying88
  have e : ∀ a b : Int, (Op.equalIn 9999 3 (.int .i64 a) (.int .i64 b)).run Try.prog w = .ok (a == b) w := fun a b => run_equalIn_int w 9998 3 .i64 .i64 a b hi
  have pt : ∀ (a b c : Int) (k : Nat), k < 3 → (part 3 #[.int .i64 a, .int .i64 b, .int .i64 c] k).run Try.prog w = .ok (.int .i64 (if k = 0 then a else if k = 1 then b else c)) w := by
    intro a b c k hk
    have : k = 0 ∨ k = 1 ∨ k = 2 := by omega
    rcases this with rfl | rfl | rfl <;> go_simp
  have sz : (sizeOf 3).run Try.prog w = .ok 1 w := by go_simp
  change (Op.equalIn (9999 + 1) 88 _ _).run Try.prog w = _
  unfold Op.equalIn
  simp [run_underlying ha, sz, Std.Legacy.Range.forIn_eq_forIn_range', Std.Legacy.Range.size, List.range', pt, e]
  by_cases h1 : x0 = y0 <;> by_cases h2 : x1 = y1 <;> by_cases h3 : x2 = y2 <;> simp [h1, h2, h3]
theorem eqOk : EqOk C := by
  intro t n ht xs ys hx hy neg xo yo w
  have hc : t = 37 ∧ n = 2 ∨ t = 88 ∧ n = 3 := by
    simp only [C] at ht
    split at ht
    · rename_i h; cases ht; exact .inl ⟨by simpa using h, rfl⟩
    · split at ht
      · rename_i h; cases ht; exact .inr ⟨by simpa using h, rfl⟩
      · cases ht
  rcases hc with ⟨rfl, rfl⟩ | ⟨rfl, rfl⟩
  · obtain ⟨x0, x1, rfl⟩ := list2 hx
    obtain ⟨y0, y1, rfl⟩ := list2 hy
    have g : ∀ op, (eqGuard op 37 xo yo (.agg (ints [x0, x1])) (.agg (ints [y0, y1]))).run C.P w = .ok () w := fun op => run_eqGuard_agg w op 37 xo yo _ _ (by kernel_rfl)
    have e := eq37 w x0 x1 y0 y1
    cases neg
    · simp only [Bool.false_eq_true, if_false, Sem.run_bind, g, Result.andThen_ok, run_eql_struct]
      simp [ints] at e ⊢; rw [e]; rfl
    · simp only [if_true, Sem.run_bind, g, Result.andThen_ok, run_neq_struct]
      simp [ints] at e ⊢; rw [e]; simp [Result.andThen, Bool.not_and]
  · obtain ⟨x0, x1, x2, rfl⟩ := list3 hx
    obtain ⟨y0, y1, y2, rfl⟩ := list3 hy
    have g : ∀ op, (eqGuard op 88 xo yo (.agg (ints [x0, x1, x2])) (.agg (ints [y0, y1, y2]))).run C.P w = .ok () w := fun op => run_eqGuard_agg w op 88 xo yo _ _ (by kernel_rfl)
    have e := eq88 w x0 x1 x2 y0 y1 y2
    cases neg
    · simp only [Bool.false_eq_true, if_false, Sem.run_bind, g, Result.andThen_ok, run_eql_struct]
      simp [ints] at e ⊢; rw [e]; rfl
    · simp only [if_true, Sem.run_bind, g, Result.andThen_ok, run_neq_struct]
      simp [ints] at e ⊢; rw [e]; simp [Result.andThen, Bool.not_and]
theorem eOk : EOk C (fun _ => True) E where
  kd := rfl
  fn := fun f af h => tab_ok (f, af) (lookup_mem h)
  prim := fun f g h => by
    simp only [C, kd] at h
    split at h
    · cases h
    · split at h <;> cases h
  stable := fun _ _ _ _ => trivial
  eq := eqOk
  mixed := mixed
end Go.Proofs.Ytflekaacffdakaa
namespace Go.Proofs.Ytflekaacffdakaa
open Go Go.AM Go.Proofs
theorem awake_ret {H : Heap} : RetP E 23 [] H (.b true) :=
  RetP.closed (n := 300) rfl fn23 rfl rfl (by kernel_rfl)
theorem cutT_ok {t : List (List Int)} (h : TabOk t) : cutT t = t := by
  unfold cutT
  rw [List.take_of_length_le (by have := h.2.1; omega)]
  conv => rhs; rw [← List.map_id t]
  apply List.map_congr_left
  intro r hr
  exact List.take_of_length_le (by have := (h.2.2.1 r hr).2.1; omega)
theorem TabOk_cut {t : List (List Int)} : TabOk (cutT t) ↔ TabOk t := by
  constructor
  · intro h
    have e : cutT t = t := by
      have h1 : t.length ≤ 3 := by have := h.2.1; simp [cutT] at this; omega
      unfold cutT
      rw [List.take_of_length_le (by omega)]
      conv => rhs; rw [← List.map_id t]
      apply List.map_congr_left
      intro r hr
      have hm : r.take 6 ∈ cutT t := by
        unfold cutT
        rw [List.take_of_length_le (by omega)]
        exact List.mem_map_of_mem hr
      have := (h.2.2.1 _ hm).2.1
      rw [List.length_take] at this
      exact List.take_of_length_le (by omega)
    rwa [e] at h
  · intro h
    rw [cutT_ok h]; exact h
end Go.Proofs.Ytflekaacffdakaa
namespace Go.Proofs.Ytflekaacffdakaa
open Go Go.AM Go.Proofs
theorem tmodN (m n : Nat) : (m : Int).tmod (n : Int) = ((m % n : Nat) : Int) := by
  rw [Int.tmod_eq_emod_of_nonneg (by omega)]; rfl
theorem tdivN (m n : Nat) : (m : Int).tdiv (n : Int) = ((m / n : Nat) : Int) := by
  rw [Int.tdiv_eq_ediv_of_nonneg (by omega)]; rfl
theorem gcd_step (x k : Nat) : Nat.gcd k (x % k) = Nat.gcd x k := by
  rw [Nat.gcd_comm k, ← Nat.gcd_rec, Nat.gcd_comm]
theorem gcd_ret {H : Heap} (m n : Nat) (hm : m ≤ 4611686018427387904) (hn : n ≤ 4611686018427387904) : RetP E 99 [.i m, .i n] H (.i (Nat.gcd m n : Nat)) := by
  refine RetP.ro rfl fn99 rfl rfl ?_
  unfold f99A
  simp (disch := (first | assumption | omega | (simp only [List.length_append, List.length_cons, List.length_nil]; omega))) only [↓wD,wU,Nat.reduceBEq,zx150,zx151,zx159,zx160,zx161,zx162,Nat.reduceAdd,Nat.reduceSub,Nat.reduceMul,Nat.reduceLeDiff,Nat.reduceLT,Nat.reduceEqDiff,Int.reduceAdd,Int.reduceSub,Int.reduceMul,Int.reduceNeg,Int.reduceLT,Int.reduceLE,Int.reduceEq,Int.reduceToNat,Int.cast_ofNat_Int,↓reduceIte, *]
  refine Wp.dec (fun k a H' => H' = H ∧ ∃ x : Nat, a 0 = .i x ∧ a 1 = .i k ∧ x ≤ 4611686018427387904 ∧ k ≤ 4611686018427387904 ∧ Nat.gcd x k = Nat.gcd m n) n ?_ ?_
  · rintro k a H' ⟨rfl, x, h0, h1, hx, hkb, hg⟩ ih
    by_cases hk : k = 0
    · subst hk
      simp (disch := (first | assumption | omega | (simp only [List.length_append, List.length_cons, List.length_nil]; omega))) only [↓wD,wU,Nat.reduceBEq,zx150,zx151,zx159,zx160,zx161,zx162,Nat.reduceAdd,Nat.reduceSub,Nat.reduceMul,Nat.reduceLeDiff,Nat.reduceLT,Nat.reduceEqDiff,Int.reduceAdd,Int.reduceSub,Int.reduceMul,Int.reduceNeg,Int.reduceLT,Int.reduceLE,Int.reduceEq,Int.reduceToNat,Int.cast_ofNat_Int,↓reduceIte, *]
      rw [Nat.gcd_zero_right] at hg
      rw [← hg]
      congr 1
      omega
    · simp (disch := (first | assumption | omega | (simp only [List.length_append, List.length_cons, List.length_nil]; omega))) only [↓wD,wU,Nat.reduceBEq,zx150,zx151,zx159,zx160,zx161,zx162,Nat.reduceAdd,Nat.reduceSub,Nat.reduceMul,Nat.reduceLeDiff,Nat.reduceLT,Nat.reduceEqDiff,Int.reduceAdd,Int.reduceSub,Int.reduceMul,Int.reduceNeg,Int.reduceLT,Int.reduceLE,Int.reduceEq,Int.reduceToNat,Int.cast_ofNat_Int,↓reduceIte, *, tmodN]
      have hlt : x % k < k := Nat.mod_lt _ (by omega)
      refine ih.go ⟨x % k, hlt, rfl, k, ?_⟩
      rw [← hg, ← gcd_step x k]
      simp (disch := (first | assumption | omega | (simp only [List.length_append, List.length_cons, List.length_nil]; omega))) only [↓wD,wU,Nat.reduceBEq,zx150,zx151,zx159,zx160,zx161,zx162,Nat.reduceAdd,Nat.reduceSub,Nat.reduceMul,Nat.reduceLeDiff,Nat.reduceLT,Nat.reduceEqDiff,Int.reduceAdd,Int.reduceSub,Int.reduceMul,Int.reduceNeg,Int.reduceLT,Int.reduceLE,Int.reduceEq,Int.reduceToNat,Int.cast_ofNat_Int,↓reduceIte, *]
      omega
  · simp (disch := (first | assumption | omega | (simp only [List.length_append, List.length_cons, List.length_nil]; omega))) only [↓wD,wU,Nat.reduceBEq,zx150,zx151,zx159,zx160,zx161,zx162,Nat.reduceAdd,Nat.reduceSub,Nat.reduceMul,Nat.reduceLeDiff,Nat.reduceLT,Nat.reduceEqDiff,Int.reduceAdd,Int.reduceSub,Int.reduceMul,Int.reduceNeg,Int.reduceLT,Int.reduceLE,Int.reduceEq,Int.reduceToNat,Int.cast_ofNat_Int,↓reduceIte, *]
    exact ⟨m, by simp_all⟩
def fracN (m n : Nat) : Int × Int := ((m / Nat.gcd m n : Nat), (n / Nat.gcd m n : Nat))
theorem frac_ret {H : Heap} (m n : Nat) (hm : m ≤ 4611686018427387904) (hn : n ≤ 4611686018427387904) (h0 : 0 < n) : RetP E 73 [.i m, .i n] H (.ag [.i (fracN m n).1, .i (fracN m n).2]) := by
  refine RetP.ro rfl fn73 rfl rfl ?_
  unfold f73A
  have hg : 0 < Nat.gcd m n := Nat.gcd_pos_of_pos_right _ h0
  have h1 : m / Nat.gcd m n ≤ m := Nat.div_le_self _ _
  have h2 : n / Nat.gcd m n ≤ n := Nat.div_le_self _ _
  unfold fracN
  obtain ⟨q1, hq1⟩ : ∃ q, m / Nat.gcd m n = q := ⟨_, rfl⟩
  obtain ⟨q2, hq2⟩ : ∃ q, n / Nat.gcd m n = q := ⟨_, rfl⟩
  rw [hq1] at h1
  rw [hq2] at h2
  simp (disch := (first | assumption | omega | (simp only [List.length_append, List.length_cons, List.length_nil]; omega))) only [↓wD,wU,Nat.reduceBEq,zx150,zx151,zx159,zx160,zx161,zx162,Nat.reduceAdd,Nat.reduceSub,Nat.reduceMul,Nat.reduceLeDiff,Nat.reduceLT,Nat.reduceEqDiff,Int.reduceAdd,Int.reduceSub,Int.reduceMul,Int.reduceNeg,Int.reduceLT,Int.reduceLE,Int.reduceEq,Int.reduceToNat,Int.cast_ofNat_Int,↓reduceIte, *, (gcd_ret m n hm hn).call, tdivN]
end Go.Proofs.Ytflekaacffdakaa
namespace Go.Proofs.Ytflekaacffdakaa
open Go Go.AM Go.Proofs
def Four (t : List (List Int)) : Prop := TabOk t ∧ t.length = 2 ∧ (gi t 0).length = 2
instance (t : List (List Int)) : Decidable (Four t) := by unfold Four; infer_instance
theorem nat_of {x : Int} (h : 0 ≤ x) : ∃ n : Nat, x = n := ⟨x.toNat, by omega⟩
theorem Four.elim {t : List (List Int)} (h : Four t) : ∃ a b c d : Nat, t = [[(a : Int), b], [(c : Int), d]] ∧ a + b + c + d ≤ 16 := by
  obtain ⟨h, h1, h2⟩ := h
  match t, h1 with
  | [r, s], _ =>
    have hs := h.2.2.1 s (by simp)
    have hr := h.2.2.1 r (by simp)
    have e1 : (gi [r, s] 0) = r := rfl
    rw [e1] at h2 hs hr
    have h3 : s.length = 2 := by rw [hs.2.2.1, h2]
    match r, h2, s, h3 with
    | [a, b], _, [c, d], _ =>
      have ha := hr.2.2.2 a (by simp)
      have hb := hr.2.2.2 b (by simp)
      have hc := hs.2.2.2 c (by simp)
      have hd := hs.2.2.2 d (by simp)
      have hsum := h.2.2.2
      simp at hsum
      obtain ⟨a, rfl⟩ := nat_of ha.1
      obtain ⟨b, rfl⟩ := nat_of hb.1
      obtain ⟨c, rfl⟩ := nat_of hc.1
      obtain ⟨d, rfl⟩ := nat_of hd.1
      exact ⟨a, b, c, d, rfl, by omega⟩
theorem Four.mk {a b c d : Nat} (h : a + b + c + d ≤ 16) : Four [[(a : Int), b], [(c : Int), d]] := by
  refine ⟨⟨by simp, by simp, ?_, by simp; omega⟩, rfl, rfl⟩
  intro r hr
  simp at hr
  rcases hr with rfl | rfl
  · refine ⟨by simp, by simp, rfl, ?_⟩
    intro x hx; simp at hx; rcases hx with rfl | rfl <;> omega
  · refine ⟨by simp, by simp, rfl, ?_⟩
    intro x hx; simp at hx; rcases hx with rfl | rfl <;> omega
end Go.Proofs.Ytflekaacffdakaa
namespace Go.Proofs.Ytflekaacffdakaa
open Go Go.AM Go.Proofs
def NE (t : List (List Int)) : Prop := ∀ r ∈ t, r ≠ [] ∧ r.length ≤ 1000
theorem TabOk.ne {t : List (List Int)} (h : TabOk t) : NE t := fun r hr => ⟨fun e => by have := (h.2.2.1 r hr).1; rw [e] at this; simp at this, by have := (h.2.2.1 r hr).2.1; omega⟩
theorem tclone_ret {p : Nat → Prop} {H : Heap} {v : AV} {t : List (List Int)} (ht : Sl p H v t) (hne : NE t) (hl : t.length ≤ 1000) : Ret E 84 [v] (fun _ => False) H (OT.mk t) := by
  refine Ret.ro rfl fn84 rfl ?_
  unfold f84A
  simp (disch := (first | assumption | omega | (simp only [List.length_append, List.length_cons, List.length_nil]; omega))) only [↓wD,wU,Nat.reduceBEq,zx150,zx151,zx159,zx160,zx161,zx162,Nat.reduceAdd,Nat.reduceSub,Nat.reduceMul,Nat.reduceLeDiff,Nat.reduceLT,Nat.reduceEqDiff,Int.reduceAdd,Int.reduceSub,Int.reduceMul,Int.reduceNeg,Int.reduceLT,Int.reduceLE,Int.reduceEq,Int.reduceToNat,Int.cast_ofNat_Int,↓reduceIte, *, ht.L]
  replace ht : Sl (fun b => b < H.length) H v t := ht.low.weak fun _ h => h.2
  refine Wp.for t.length (fun i a H' => ∃ u, a 6 = v ∧ a 7 = .i t.length ∧ a 8 = .i i ∧ a 3 = u ∧ Gr H H' ∧ MT H.length H' u (t.take i)) ?_ ?_
  · rintro i a H1 hi ⟨u, h6, h7, h8, h3, hg, hu⟩ ih
    simp (disch := (first | assumption | omega | (simp only [List.length_append, List.length_cons, List.length_nil]; omega))) only [↓wD,wU,Nat.reduceBEq,zx150,zx151,zx159,zx160,zx161,zx162,Nat.reduceAdd,Nat.reduceSub,Nat.reduceMul,Nat.reduceLeDiff,Nat.reduceLT,Nat.reduceEqDiff,Int.reduceAdd,Int.reduceSub,Int.reduceMul,Int.reduceNeg,Int.reduceLT,Int.reduceLE,Int.reduceEq,Int.reduceToNat,Int.cast_ofNat_Int,↓reduceIte, *]
    refine condP_split (fun hlt => ?_) (fun hlt => ?_)
    · have hi' : i < t.length := by omega
      have ht1 := ht.gr hg
      have g := ht1.get (k := (i : Int)) (by omega) (by omega)
      have hn := hne _ (mem_gi hi')
      have hl1 := hg.1
      simp (disch := (first | assumption | omega | (simp only [List.length_append, List.length_cons, List.length_nil]; omega))) only [↓wD,wU,Nat.reduceBEq,zx150,zx151,zx159,zx160,zx161,zx162,Nat.reduceAdd,Nat.reduceSub,Nat.reduceMul,Nat.reduceLeDiff,Nat.reduceLT,Nat.reduceEqDiff,Int.reduceAdd,Int.reduceSub,Int.reduceMul,Int.reduceNeg,Int.reduceLT,Int.reduceLE,Int.reduceEq,Int.reduceToNat,Int.cast_ofNat_Int,↓reduceIte, *, ht1.L]
      refine (clone_ret g (by omega)).toF fun y H2 hg2 hy => ?_
      have hl2 := hg2.1
      simp (disch := (first | assumption | omega | (simp only [List.length_append, List.length_cons, List.length_nil]; omega))) only [↓wD,wU,Nat.reduceBEq,zx150,zx151,zx159,zx160,zx161,zx162,Nat.reduceAdd,Nat.reduceSub,Nat.reduceMul,Nat.reduceLeDiff,Nat.reduceLT,Nat.reduceEqDiff,Int.reduceAdd,Int.reduceSub,Int.reduceMul,Int.reduceNeg,Int.reduceLT,Int.reduceLE,Int.reduceEq,Int.reduceToNat,Int.cast_ofNat_Int,↓reduceIte, *, hy.cellsV]
      refine hu.push hg2 (Nat.le_refl _) hl1 hy hn.1 (by simp; omega) fun u' H3 hu' hk3 => ?_
      simp (disch := (first | assumption | omega | (simp only [List.length_append, List.length_cons, List.length_nil]; omega))) only [↓wD,wU,Nat.reduceBEq,zx150,zx151,zx159,zx160,zx161,zx162,Nat.reduceAdd,Nat.reduceSub,Nat.reduceMul,Nat.reduceLeDiff,Nat.reduceLT,Nat.reduceEqDiff,Int.reduceAdd,Int.reduceSub,Int.reduceMul,Int.reduceNeg,Int.reduceLT,Int.reduceLE,Int.reduceEq,Int.reduceToNat,Int.cast_ofNat_Int,↓reduceIte, *]
      refine (ih hi').go ⟨u', ?_⟩
      rw [take_gi hi']
      simp (disch := (first | assumption | omega | (simp only [List.length_append, List.length_cons, List.length_nil]; omega))) only [↓wD,wU,Nat.reduceBEq,zx150,zx151,zx159,zx160,zx161,zx162,Nat.reduceAdd,Nat.reduceSub,Nat.reduceMul,Nat.reduceLeDiff,Nat.reduceLT,Nat.reduceEqDiff,Int.reduceAdd,Int.reduceSub,Int.reduceMul,Int.reduceNeg,Int.reduceLT,Int.reduceLE,Int.reduceEq,Int.reduceToNat,Int.cast_ofNat_Int,↓reduceIte, *]
      exact (hg.trans hg2).trans' hk3 fun b hb e => by have := hu.blk_lt e; omega
    · have e : i = t.length := by omega
      subst e
      rw [List.take_length] at hu
      simp (disch := (first | assumption | omega | (simp only [List.length_append, List.length_cons, List.length_nil]; omega))) only [↓wD,wU,Nat.reduceBEq,zx150,zx151,zx159,zx160,zx161,zx162,Nat.reduceAdd,Nat.reduceSub,Nat.reduceMul,Nat.reduceLeDiff,Nat.reduceLT,Nat.reduceEqDiff,Int.reduceAdd,Int.reduceSub,Int.reduceMul,Int.reduceNeg,Int.reduceLT,Int.reduceLE,Int.reduceEq,Int.reduceToNat,Int.cast_ofNat_Int,↓reduceIte, *]
      exact hu.rv fun b h => .inr h
  · simp (disch := (first | assumption | omega | (simp only [List.length_append, List.length_cons, List.length_nil]; omega))) only [↓wD,wU,Nat.reduceBEq,zx150,zx151,zx159,zx160,zx161,zx162,Nat.reduceAdd,Nat.reduceSub,Nat.reduceMul,Nat.reduceLeDiff,Nat.reduceLT,Nat.reduceEqDiff,Int.reduceAdd,Int.reduceSub,Int.reduceMul,Int.reduceNeg,Int.reduceLT,Int.reduceLE,Int.reduceEq,Int.reduceToNat,Int.cast_ofNat_Int,↓reduceIte, *]
    exact ⟨.nils, rfl, Gr.refl _, MT.nil⟩
theorem gi_set {α : Type} [Inhabited α] {xs : List α} {i j : Int} {x : α} (hi : 0 ≤ i) (hj : 0 ≤ j) (hl : i < xs.length) : gi (xs.set i.toNat x) j = if i = j then x else gi xs j := by
  unfold gi
  by_cases h : i = j
  · subst h
    rw [if_pos rfl]
    have : i.toNat < xs.length := by omega
    simp [this]
  · rw [if_neg h]
    have : i.toNat ≠ j.toNat := by omega
    simp [List.getD_eq_getElem?_getD, List.getElem?_set_ne this]
end Go.Proofs.Ytflekaacffdakaa
namespace Go.Proofs.Ytflekaacffdakaa
open Go Go.AM Go.Proofs
theorem foldl_min_le {xs : List Int} : ∀ {m : Int}, xs.foldl min m ≤ m ∧ ∀ x ∈ xs, xs.foldl min m ≤ x := by
  induction xs with
  | nil => simp
  | cons x xs ih =>
    intro m
    have := ih (m := min m x)
    simp only [List.foldl_cons, List.mem_cons, forall_eq_or_imp]
    exact ⟨by omega, by omega, this.2⟩
theorem foldl_max_ge {xs : List Int} : ∀ {m : Int}, m ≤ xs.foldl max m ∧ ∀ x ∈ xs, x ≤ xs.foldl max m := by
  induction xs with
  | nil => simp
  | cons x xs ih =>
    intro m
    have := ih (m := max m x)
    simp only [List.foldl_cons, List.mem_cons, forall_eq_or_imp]
    exact ⟨by omega, by omega, this.2⟩
theorem foldl_min_mem {xs : List Int} : ∀ {m : Int}, xs.foldl min m = m ∨ xs.foldl min m ∈ xs := by
  induction xs with
  | nil => simp
  | cons x xs ih =>
    intro m
    simp only [List.foldl_cons, List.mem_cons]
    rcases ih (m := min m x) with h | h
    · rw [h]; rcases Int.le_total m x with h1 | h1
      · left; omega
      · right; left; omega
    · exact .inr (.inr h)
theorem foldl_max_mem {xs : List Int} : ∀ {m : Int}, xs.foldl max m = m ∨ xs.foldl max m ∈ xs := by
  induction xs with
  | nil => simp
  | cons x xs ih =>
    intro m
    simp only [List.foldl_cons, List.mem_cons]
    rcases ih (m := max m x) with h | h
    · rw [h]; rcases Int.le_total m x with h1 | h1
      · right; left; omega
      · left; omega
    · exact .inr (.inr h)
def minL (xs : List Int) : Int := (xs.drop 1).foldl min (gi xs 0)
def maxL (xs : List Int) : Int := (xs.drop 1).foldl max (gi xs 0)
theorem minL_spec {xs : List Int} (h : 1 ≤ xs.length) : minL xs ∈ xs ∧ ∀ x ∈ xs, minL xs ≤ x := by
  cases xs with
  | nil => simp at h
  | cons x xs =>
    simp only [minL, zx181, List.drop_succ_cons, List.drop_zero]
    have h1 := foldl_min_le (xs := xs) (m := x)
    refine ⟨?_, fun y hy => ?_⟩
    · rcases foldl_min_mem (xs := xs) (m := x) with h | h
      · rw [h]; simp
      · exact List.mem_cons_of_mem _ h
    · rcases List.mem_cons.1 hy with rfl | hy
      · exact h1.1
      · exact h1.2 y hy
theorem maxL_spec {xs : List Int} (h : 1 ≤ xs.length) : maxL xs ∈ xs ∧ ∀ x ∈ xs, x ≤ maxL xs := by
  cases xs with
  | nil => simp at h
  | cons x xs =>
    simp only [maxL, zx181, List.drop_succ_cons, List.drop_zero]
    have h1 := foldl_max_ge (xs := xs) (m := x)
    refine ⟨?_, fun y hy => ?_⟩
    · rcases foldl_max_mem (xs := xs) (m := x) with h | h
      · rw [h]; simp
      · exact List.mem_cons_of_mem _ h
    · rcases List.mem_cons.1 hy with rfl | hy
      · exact h1.1
      · exact h1.2 y hy
theorem take_drop1 {xs : List Int} {i : Nat} (h1 : 1 ≤ i) (h : i < xs.length) : (xs.take (i + 1)).drop 1 = (xs.take i).drop 1 ++ [gi xs i] := by
  rw [take_gi h, List.drop_append_of_le_length (by rw [List.length_take]; omega)]
theorem minL_take {xs : List Int} {i : Nat} (h1 : 1 ≤ i) (h : i < xs.length) : minL (xs.take (i + 1)) = min (minL (xs.take i)) (gi xs i) := by
  have e : ∀ j, 1 ≤ j → gi (xs.take j) 0 = gi xs 0 := fun j hj => by cases xs with | nil => simp at h | cons x r => cases j with | zero => omega | succ j => rfl
  unfold minL
  rw [take_drop1 h1 h, List.foldl_append, e _ h1, e _ (by omega)]; rfl
theorem maxL_take {xs : List Int} {i : Nat} (h1 : 1 ≤ i) (h : i < xs.length) : maxL (xs.take (i + 1)) = max (maxL (xs.take i)) (gi xs i) := by
  have e : ∀ j, 1 ≤ j → gi (xs.take j) 0 = gi xs 0 := fun j hj => by cases xs with | nil => simp at h | cons x r => cases j with | zero => omega | succ j => rfl
  unfold maxL
  rw [take_drop1 h1 h, List.foldl_append, e _ h1, e _ (by omega)]; rfl
theorem min_ret {p : Nat → Prop} {H : Heap} {v : AV} {xs : List Int} (hx : Sl p H v xs) (h : 1 ≤ xs.length) : RetP E 75 [v] H (.i (minL xs)) := by
  refine RetP.ro rfl fn75 rfl rfl ?_
  unfold f75A
  have hb := hx.bound
  simp (disch := (first | assumption | omega | (simp only [List.length_append, List.length_cons, List.length_nil]; omega))) only [↓wD,wU,Nat.reduceBEq,zx150,zx151,zx159,zx160,zx161,zx162,Nat.reduceAdd,Nat.reduceSub,Nat.reduceMul,Nat.reduceLeDiff,Nat.reduceLT,Nat.reduceEqDiff,Int.reduceAdd,Int.reduceSub,Int.reduceMul,Int.reduceNeg,Int.reduceLT,Int.reduceLE,Int.reduceEq,Int.reduceToNat,Int.cast_ofNat_Int,↓reduceIte, *, hx.I]
  refine Wp.for (xs.length - 1) (fun i a H' => H' = H ∧ a 0 = v ∧ a 4 = .i (i + 1) ∧ a 3 = .i (minL (xs.take (i + 1)))) ?_ ?_
  · rintro i a H' hi ⟨rfl, a0, a4, a3⟩ ih
    simp (disch := (first | assumption | omega | (simp only [List.length_append, List.length_cons, List.length_nil]; omega))) only [↓wD,wU,Nat.reduceBEq,zx150,zx151,zx159,zx160,zx161,zx162,Nat.reduceAdd,Nat.reduceSub,Nat.reduceMul,Nat.reduceLeDiff,Nat.reduceLT,Nat.reduceEqDiff,Int.reduceAdd,Int.reduceSub,Int.reduceMul,Int.reduceNeg,Int.reduceLT,Int.reduceLE,Int.reduceEq,Int.reduceToNat,Int.cast_ofNat_Int,↓reduceIte, *, hx.I]
    refine condP_split (fun hlt => ?_) (fun hlt => ?_)
    · have hi' : i < xs.length - 1 := by omega
      have e := minL_take (xs := xs) (i := i + 1) (by omega) (by omega)
      simp only [Int.natCast_add, Int.natCast_one] at e
      simp (disch := (first | assumption | omega | (simp only [List.length_append, List.length_cons, List.length_nil]; omega))) only [↓wD,wU,Nat.reduceBEq,zx150,zx151,zx159,zx160,zx161,zx162,Nat.reduceAdd,Nat.reduceSub,Nat.reduceMul,Nat.reduceLeDiff,Nat.reduceLT,Nat.reduceEqDiff,Int.reduceAdd,Int.reduceSub,Int.reduceMul,Int.reduceNeg,Int.reduceLT,Int.reduceLE,Int.reduceEq,Int.reduceToNat,Int.cast_ofNat_Int,↓reduceIte, *, hx.I]
      refine (ih hi').go ⟨rfl, ?_⟩
      simp (disch := (first | assumption | omega | (simp only [List.length_append, List.length_cons, List.length_nil]; omega))) only [↓wD,wU,Nat.reduceBEq,zx150,zx151,zx159,zx160,zx161,zx162,Nat.reduceAdd,Nat.reduceSub,Nat.reduceMul,Nat.reduceLeDiff,Nat.reduceLT,Nat.reduceEqDiff,Int.reduceAdd,Int.reduceSub,Int.reduceMul,Int.reduceNeg,Int.reduceLT,Int.reduceLE,Int.reduceEq,Int.reduceToNat,Int.cast_ofNat_Int,↓reduceIte, *]
    · simp (disch := (first | assumption | omega | (simp only [List.length_append, List.length_cons, List.length_nil]; omega))) only [↓wD,wU,Nat.reduceBEq,zx150,zx151,zx159,zx160,zx161,zx162,Nat.reduceAdd,Nat.reduceSub,Nat.reduceMul,Nat.reduceLeDiff,Nat.reduceLT,Nat.reduceEqDiff,Int.reduceAdd,Int.reduceSub,Int.reduceMul,Int.reduceNeg,Int.reduceLT,Int.reduceLE,Int.reduceEq,Int.reduceToNat,Int.cast_ofNat_Int,↓reduceIte, *]
      rw [List.take_of_length_le (by omega)]
  · (simp (disch := (first | assumption | omega | (simp only [List.length_append, List.length_cons, List.length_nil]; omega))) only [↓wD,wU,Nat.reduceBEq,zx150,zx151,zx159,zx160,zx161,zx162,Nat.reduceAdd,Nat.reduceSub,Nat.reduceMul,Nat.reduceLeDiff,Nat.reduceLT,Nat.reduceEqDiff,Int.reduceAdd,Int.reduceSub,Int.reduceMul,Int.reduceNeg,Int.reduceLT,Int.reduceLE,Int.reduceEq,Int.reduceToNat,Int.cast_ofNat_Int,↓reduceIte, *]) <;> first | rfl | skip
    unfold minL
    cases xs with
    | nil => simp at h
    | cons x r => simp [zx181]
theorem max_ret {p : Nat → Prop} {H : Heap} {v : AV} {xs : List Int} (hx : Sl p H v xs) (h : 1 ≤ xs.length) : RetP E 101 [v] H (.i (maxL xs)) := by
  refine RetP.ro rfl fn101 rfl rfl ?_
  unfold f101A
  have hb := hx.bound
  simp (disch := (first | assumption | omega | (simp only [List.length_append, List.length_cons, List.length_nil]; omega))) only [↓wD,wU,Nat.reduceBEq,zx150,zx151,zx159,zx160,zx161,zx162,Nat.reduceAdd,Nat.reduceSub,Nat.reduceMul,Nat.reduceLeDiff,Nat.reduceLT,Nat.reduceEqDiff,Int.reduceAdd,Int.reduceSub,Int.reduceMul,Int.reduceNeg,Int.reduceLT,Int.reduceLE,Int.reduceEq,Int.reduceToNat,Int.cast_ofNat_Int,↓reduceIte, *, hx.I]
  refine Wp.for (xs.length - 1) (fun i a H' => H' = H ∧ a 0 = v ∧ a 4 = .i (i + 1) ∧ a 3 = .i (maxL (xs.take (i + 1)))) ?_ ?_
  · rintro i a H' hi ⟨rfl, a0, a4, a3⟩ ih
    simp (disch := (first | assumption | omega | (simp only [List.length_append, List.length_cons, List.length_nil]; omega))) only [↓wD,wU,Nat.reduceBEq,zx150,zx151,zx159,zx160,zx161,zx162,Nat.reduceAdd,Nat.reduceSub,Nat.reduceMul,Nat.reduceLeDiff,Nat.reduceLT,Nat.reduceEqDiff,Int.reduceAdd,Int.reduceSub,Int.reduceMul,Int.reduceNeg,Int.reduceLT,Int.reduceLE,Int.reduceEq,Int.reduceToNat,Int.cast_ofNat_Int,↓reduceIte, *, hx.I]
    refine condP_split (fun hlt => ?_) (fun hlt => ?_)
    · have hi' : i < xs.length - 1 := by omega
      have e := maxL_take (xs := xs) (i := i + 1) (by omega) (by omega)
      simp only [Int.natCast_add, Int.natCast_one] at e
      simp (disch := (first | assumption | omega | (simp only [List.length_append, List.length_cons, List.length_nil]; omega))) only [↓wD,wU,Nat.reduceBEq,zx150,zx151,zx159,zx160,zx161,zx162,Nat.reduceAdd,Nat.reduceSub,Nat.reduceMul,Nat.reduceLeDiff,Nat.reduceLT,Nat.reduceEqDiff,Int.reduceAdd,Int.reduceSub,Int.reduceMul,Int.reduceNeg,Int.reduceLT,Int.reduceLE,Int.reduceEq,Int.reduceToNat,Int.cast_ofNat_Int,↓reduceIte, *, hx.I]
      refine (ih hi').go ⟨rfl, ?_⟩
      simp (disch := (first | assumption | omega | (simp only [List.length_append, List.length_cons, List.length_nil]; omega))) only [↓wD,wU,Nat.reduceBEq,zx150,zx151,zx159,zx160,zx161,zx162,Nat.reduceAdd,Nat.reduceSub,Nat.reduceMul,Nat.reduceLeDiff,Nat.reduceLT,Nat.reduceEqDiff,Int.reduceAdd,Int.reduceSub,Int.reduceMul,Int.reduceNeg,Int.reduceLT,Int.reduceLE,Int.reduceEq,Int.reduceToNat,Int.cast_ofNat_Int,↓reduceIte, *]
    · simp (disch := (first | assumption | omega | (simp only [List.length_append, List.length_cons, List.length_nil]; omega))) only [↓wD,wU,Nat.reduceBEq,zx150,zx151,zx159,zx160,zx161,zx162,Nat.reduceAdd,Nat.reduceSub,Nat.reduceMul,Nat.reduceLeDiff,Nat.reduceLT,Nat.reduceEqDiff,Int.reduceAdd,Int.reduceSub,Int.reduceMul,Int.reduceNeg,Int.reduceLT,Int.reduceLE,Int.reduceEq,Int.reduceToNat,Int.cast_ofNat_Int,↓reduceIte, *]
      rw [List.take_of_length_le (by omega)]
  · (simp (disch := (first | assumption | omega | (simp only [List.length_append, List.length_cons, List.length_nil]; omega))) only [↓wD,wU,Nat.reduceBEq,zx150,zx151,zx159,zx160,zx161,zx162,Nat.reduceAdd,Nat.reduceSub,Nat.reduceMul,Nat.reduceLeDiff,Nat.reduceLT,Nat.reduceEqDiff,Int.reduceAdd,Int.reduceSub,Int.reduceMul,Int.reduceNeg,Int.reduceLT,Int.reduceLE,Int.reduceEq,Int.reduceToNat,Int.cast_ofNat_Int,↓reduceIte, *]) <;> first | rfl | skip
    unfold maxL
    cases xs with
    | nil => simp at h
    | cons x r => simp [zx181]
end Go.Proofs.Ytflekaacffdakaa
namespace Go.Proofs.Ytflekaacffdakaa
open Go Go.AM Go.Proofs
def lines : List Int → Int → List (List Int)
  | [], need => if need > 0 then [] else [[]]
  | c :: cs, need => (List.range (min need c + 1).toNat).flatMap fun x : Nat => (lines cs (need - (x : Int))).map ((x : Int) :: ·)
def subL (xs ys : List Int) : List Int := List.zipWith (· - ·) xs ys
def tabsL : List Int → List Int → List (List (List Int))
  | [], L => if maxL L > 0 then [] else [[]]
  | r :: rs, L => (lines L r).flatMap fun l => (tabsL rs (subL L l)).map (l :: ·)
/-- the blocks that grow writes -/
def Wb (n R lb b : Nat) : Prop := b = lb ∨ (R ≤ b ∧ b < R + n)
/-- what grow reads and never writes -/
structure Fx (K : Nat → Prop) (H : Heap) (y rv cv lv : AV) (rows cols : List Int) (n m : Nat) (bm bl bY bt bg tb R lb : Nat) : Prop where
  mg : H[bm]? = some (.cells [rv, cv]) ∧ ¬ K bm ∧ ¬ Wb n R lb bm
  lg : H[bl]? = some (.cells [lv]) ∧ ¬ K bl ∧ ¬ Wb n R lb bl
  yg : H[bY]? = some (.cells [y]) ∧ ¬ K bY ∧ ¬ Wb n R lb bY
  tg : H[bt]? = some (.cells [.s 1 tb 0 n (some n)]) ∧ ¬ K bt ∧ ¬ Wb n R lb bt
  tbg : H[tb]? = some (.cells ((List.range n).map fun a : Nat => .s 1 (R + a) 0 m (some m))) ∧ ¬ K tb ∧ ¬ Wb n R lb tb
  gg : H[bg]? = some (.cells [.fn 100 [] [.p bm 0, .p bl 0, .p bY 0, .p bt 0, .p bg 0]]) ∧ ¬ K bg ∧ ¬ Wb n R lb bg
  rows : Sl (fun b => ¬ K b ∧ ¬ Wb n R lb b) H rv rows
  cols : Sl (fun b => ¬ K b ∧ ¬ Wb n R lb b) H cv cols
theorem Fx.mono {K K' : Nat → Prop} {H H' : Heap} {y rv cv lv : AV} {rows cols : List Int} {n m : Nat} {bm bl bY bt bg tb R lb : Nat} (h : Fx K H y rv cv lv rows cols n m bm bl bY bt bg tb R lb)
    (hk : Kx (fun b => ¬ K b ∧ ¬ Wb n R lb b) H H') (hK : ∀ b, b < H.length → K' b → K b) : Fx K' H' y rv cv lv rows cols n m bm bl bY bt bg tb R lb := by
  have go : ∀ {b : Nat} {k : Blk}, (H[b]? = some k ∧ ¬ K b ∧ ¬ Wb n R lb b) → (H'[b]? = some k ∧ ¬ K' b ∧ ¬ Wb n R lb b) := fun {b k} q =>
    ⟨hk.get q.2 q.1, fun e => q.2.1 (hK _ (List.getElem?_eq_some_iff.1 q.1).1 e), q.2.2⟩
  exact ⟨go h.mg, go h.lg, go h.yg, go h.tg, go h.tbg, go h.gg, (h.rows.low.mono (hk.weak fun _ _ h => h.1).kp fun b q => ⟨fun e => q.1.1 (hK b q.2 e), q.1.2⟩), (h.cols.low.mono (hk.weak fun _ _ h => h.1).kp fun b q => ⟨fun e => q.1.1 (hK b q.2 e), q.1.2⟩)⟩
/-- what grow writes -/
structure Wk (B : Nat) (K : Nat → Prop) (H : Heap) (lv : AV) (n m R lb : Nat) (T : List (List Int)) (L : List Int) : Prop where
  len : T.length = n
  row : ∀ a, a < n → H[R + a]? = some (.cells ((gi T (a : Int)).map AV.i)) ∧ (gi T (a : Int)).length = m ∧ ¬ K (R + a)
  left : Rep.rep (fun b => ¬ K b) H [lv] (⟨lb, L⟩ : OR)
  ll : L.length = m
  lo : B ≤ lb ∧ B ≤ R ∧ ¬ (R ≤ lb ∧ lb < R + n)
theorem Wk.left_lt {B : Nat} {K : Nat → Prop} {H : Heap} {lv : AV} {n m R lb : Nat} {T : List (List Int)} {L : List Int} (h : Wk B K H lv n m R lb T L) : lb < H.length ∧ ¬ K lb := by
  obtain ⟨o, c, k, e, h1, h2, _⟩ := h.left
  exact ⟨(List.getElem?_eq_some_iff.1 h2).1, h1⟩
theorem Wk.row_lt {B : Nat} {K : Nat → Prop} {H : Heap} {lv : AV} {n m R lb : Nat} {T : List (List Int)} {L : List Int} (h : Wk B K H lv n m R lb T L) {a : Nat} (ha : a < n) : R + a < H.length := (List.getElem?_eq_some_iff.1 (h.row a ha).1).1
theorem Wk.mono {B : Nat} {K K' : Nat → Prop} {H H' : Heap} {lv : AV} {n m R lb : Nat} {T : List (List Int)} {L : List Int} (h : Wk B K H lv n m R lb T L) (hk : Kx (fun b => ¬ K b) H H') (hK : ∀ b, b < H.length → K' b → K b) : Wk B K' H' lv n m R lb T L :=
  ⟨h.len, fun a ha => ⟨hk.get (h.row a ha).2.2 (h.row a ha).1, (h.row a ha).2.1, fun e => (h.row a ha).2.2 (hK _ (h.row_lt ha) e)⟩,
    Rep.mono (Rep.low h.left) (hk.weak fun _ _ h => h.1).kp fun b q e => q.1 (hK b q.2 e), h.ll, h.lo⟩
theorem Wk.leftSl {B : Nat} {K : Nat → Prop} {H : Heap} {lv : AV} {n m R lb : Nat} {T : List (List Int)} {L : List Int} (h : Wk B K H lv n m R lb T L) : Sl (fun b => ¬ K b) H lv L := by
  obtain ⟨v, e, hs⟩ := OR.sl h.left
  cases e
  exact hs
theorem zx178 {b m : Nat} {c : Option Nat} {k : Nat} (h : k < m) : iaddrV 1 (.s 1 b 0 m c) (.i (k : Int)) = some (.p b k) := by
  have h0 : (0 : Int) ≤ k ∧ (k : Int) < m := by omega
  show (if 0 ≤ (k : Int) ∧ (k : Int) < m ∧ 1 = 1 then some (AV.p b (0 + (k : Int).toNat * 1)) else none) = _
  rw [if_pos ⟨h0.1, h0.2, rfl⟩]
  simp
/-- a number of left, set -/
theorem Wk.setL {B lo : Nat} {K : Nat → Prop} {H : Heap} {lv : AV} {n m R lb : Nat} {T : List (List Int)} {L : List Int} (h : Wk B K H lv n m R lb T L) {j : Nat} (hj : j < m) (hlo : lo ≤ B) {x : Int} {Q : Heap → Prop}
    (go : ∀ H', Wk B K H' lv n m R lb T (L.set j x) → Kx (fun b => b ≠ lb) H H' → H'.length = H.length → Q H') : @optP _ (stA lo H 1 (lv.at 1 (j : Int)) (.i x)) ⟨Q⟩ := by
  obtain ⟨o, c, k, e, h1, h2, h3, h4, h5⟩ := h.left
  cases e
  have hll := h.ll
  change ¬ K lb at h1
  change H[lb]? = _ at h2
  change o + L.length ≤ _ at h3
  change L.length ≤ _ at h4
  change ∀ (i : Nat) (h : i < L.length), k[o + i]? = some (.i L[i]) at h5
  have hst : stA lo H 1 ((AV.s 1 lb o L.length c).at 1 (j : Int)) (.i x) = some (H.set lb (.cells (k.set (o + j) (.i x)))) := by
    simp only [stA, AV.at, zx130, List.length_singleton, List.all_cons, List.all_nil, zx140, Bool.and_self, and_self, if_true]
    change st lo H lb (o + j * 1) [.i x] = _
    rw [Nat.mul_one, st_of (lo := lo) (o := o + j) (vs := [.i x]) h2 (by have := h.lo; omega) (by simp; omega)]
    simp [wr]
  refine ⟨_, hst, go _ ⟨h.len, fun a ha => ?_, ?_, by rw [List.length_set]; exact h.ll, h.lo⟩ (Kx.set _ _ _) (by simp)⟩
  · rw [List.getElem?_set_ne (show lb ≠ R + a by have := h.lo; omega)]
    exact h.row a ha
  · refine ⟨o, c, k.set (o + j) (.i x), by simp, h1, get_set h2, by simpa using h3, by simpa using h4, fun i hi => ?_⟩
    have hi' : i < L.length := by simpa using hi
    by_cases e : j = i
    · subst e
      rw [List.getElem?_set_self (by omega)]; simp
    · rw [List.getElem?_set_ne (by omega), h5 i hi']
      simp only [List.getElem_set]
      rw [if_neg e]
/-- a number of the table, set -/
theorem Wk.setT {B lo : Nat} {K : Nat → Prop} {H : Heap} {lv : AV} {n m R lb : Nat} {T : List (List Int)} {L : List Int} (h : Wk B K H lv n m R lb T L) {i j : Nat} (hi : i < n) (hj : j < m) (hlo : lo ≤ B) {x : Int} :
    ∃ H', st lo H (R + i) j [.i x] = some H' ∧ Wk B K H' lv n m R lb (T.set i ((gi T (i : Int)).set j x)) L ∧ Kx (fun b => b ≠ R + i) H H' ∧ H'.length = H.length := by
  obtain ⟨h1, h2, h3⟩ := h.row i hi
  have hlen := h.len
  refine ⟨_, st_of h1 (by have := h.lo; omega) (by simp; omega), ⟨by rw [List.length_set]; exact h.len, fun a ha => ?_, ?_, h.ll, h.lo⟩, Kx.set _ _ _, by simp⟩
  · have eg : gi (T.set i ((gi T (i : Int)).set j x)) (a : Int) = if i = a then (gi T (i : Int)).set j x else gi T (a : Int) := by
      have := gi_set (xs := T) (i := (i : Int)) (j := (a : Int)) (x := (gi T (i : Int)).set j x) (by omega) (by omega) (by omega)
      rw [show ((i : Int)).toNat = i from rfl] at this
      rw [this]
      by_cases e : i = a
      · rw [if_pos e, if_pos (by omega)]
      · rw [if_neg e, if_neg (by omega)]
    rw [eg]
    by_cases e : i = a
    · subst e
      rw [if_pos rfl]
      refine ⟨?_, by rw [List.length_set]; exact h2, h3⟩
      rw [get_set h1]
      simp [wr, List.map_set]
    · rw [if_neg e, List.getElem?_set_ne (by omega)]
      exact h.row a ha
  · obtain ⟨o, c, k, e, q1, q2, q3⟩ := h.left
    exact ⟨o, c, k, e, q1, by rw [List.getElem?_set_ne (show R + i ≠ lb by have := h.lo; omega)]; exact q2, q3⟩
/-- the table, as a slice -/
theorem Wk.tabSl {B : Nat} {K : Nat → Prop} {H : Heap} {lv : AV} {n m R lb tb : Nat} {T : List (List Int)} {L : List Int} (h : Wk B K H lv n m R lb T L) (ht : H[tb]? = some (.cells ((List.range n).map fun a : Nat => .s 1 (R + a) 0 m (some m)))) (hn : n ≤ 3) (hm : m ≤ 3) : Sl (fun _ => True) H (.s 1 tb 0 n (some n)) T := by
  have hlen := h.len
  subst hlen
  refine .inr ⟨tb, 0, some T.length, _, rfl, trivial, ht, ?_, by omega, fun i hi => ?_⟩
  · change 0 + T.length * 1 ≤ _; simp
  · refine ⟨.s 1 (R + i) 0 m (some m), ?_, ?_⟩
    · change (((List.range T.length).map fun a : Nat => AV.s 1 (R + a) 0 m (some m)).drop (0 + i * 1)).take 1 = _
      rw [Nat.zero_add, Nat.mul_one, List.take_one, List.head?_drop]
      simp [hi]
    · obtain ⟨h1, h2, h3⟩ := h.row i hi
      rw [gi_nat hi] at h1 h2
      subst h2
      exact Sl.litI (p := fun _ => True) h1 trivial (by omega)
end Go.Proofs.Ytflekaacffdakaa
namespace Go.Proofs.Ytflekaacffdakaa
open Go Go.AM Go.Proofs
/-- an item: a table -/
def ArgT (Ki : Nat → Prop) (H : Heap) (args : List AV) (x : List (List Int)) : Prop := ∃ u, args = [u] ∧ Sl Ki H u x
/-- what is known of a table behind i rows and some numbers of the next one -/
def Pre (T D : List (List Int)) (i : Nat) (c : List Int) : Prop := (∀ a : Nat, a < i → gi T (a : Int) = gi D (a : Int)) ∧ (gi T (i : Int)).take c.length = c
def GPost (B n m R lb : Nat) (lv : AV) (D : List (List Int)) (c L : List Int) (Q : Bool → (Nat → Prop) → Heap → Prop) (K : Nat → Prop) (H : Heap) (u : AV) (H' : Heap) : Prop :=
  ∃ ok K', u = .b ok ∧ (∀ H2, Kx (fun b => b < B ∨ K' b) H' H2 → Q ok K' H2) ∧ Kx (fun b => ¬ K b ∧ ¬ Wb n R lb b) H H' ∧ (∀ b, K' b → b < H'.length ∧ (b < H.length → K b)) ∧ ∃ T', Wk B K' H' lv n m R lb T' L ∧ Pre T' D D.length c
section
variable {lo B n m bm bl bY bt bg tb R lb : Nat} {y rv cv lv : AV} {rows cols : List Int}
def GrowA (lo B n m bm bl bY bt bg tb R lb : Nat) (y rv cv lv : AV) (rows cols : List Int) (rs : List Int) : Prop :=
  ∀ (D : List (List Int)) (L : List Int) (T : List (List Int)) (K : Nat → Prop) (H : Heap) (Q : Bool → (Nat → Prop) → Heap → Prop), D.length + rs.length = n → rows.drop D.length = rs → (∀ x ∈ L, 0 ≤ x ∧ x ≤ 16) →
    Fx K H y rv cv lv rows cols n m bm bl bY bt bg tb R lb → Wk B K H lv n m R lb T L → Pre T D D.length [] → (∀ b, K b → b < H.length) → B ≤ H.length →
    Its E lo y B ArgT Q ((tabsL rs L).map (D ++ ·)) K H →
    WpF E lo 100 [.i D.length, .i 0, .i (gi rows (D.length : Int)), .p bm 0, .p bl 0, .p bY 0, .p bt 0, .p bg 0] H (GPost B n m R lb lv D [] L Q K H)
def GrowB (lo B n m bm bl bY bt bg tb R lb : Nat) (y rv cv lv : AV) (rows cols : List Int) (rs cs : List Int) : Prop :=
  ∀ (D : List (List Int)) (c : List Int) (need : Int) (L : List Int) (T : List (List Int)) (K : Nat → Prop) (H : Heap) (Q : Bool → (Nat → Prop) → Heap → Prop), D.length + 1 + rs.length = n → rows.drop (D.length + 1) = rs → L.drop c.length = cs → c.length + cs.length = m → 0 ≤ need ∧ need ≤ 16 → (∀ x ∈ L, 0 ≤ x ∧ x ≤ 16) →
    Fx K H y rv cv lv rows cols n m bm bl bY bt bg tb R lb → Wk B K H lv n m R lb T L → Pre T D D.length c → (∀ b, K b → b < H.length) → B ≤ H.length →
    Its E lo y B ArgT Q ((lines cs need).flatMap fun l => (tabsL rs (L.take c.length ++ subL cs l)).map (fun z => D ++ (c ++ l) :: z)) K H →
    WpF E lo 100 [.i D.length, .i c.length, .i need, .p bm 0, .p bl 0, .p bY 0, .p bt 0, .p bg 0] H (GPost B n m R lb lv D c L Q K H)
theorem Pre.full {T D : List (List Int)} (h : Pre T D D.length []) (hl : T.length = D.length) : T = D := by
  apply List.ext_getElem hl
  intro i h1 h2
  have := h.1 i h2
  rwa [gi_nat h1, gi_nat h2] at this
theorem growA_nil (hlo : lo ≤ B) (hn : n ≤ 3) (hm : m ≤ 3) (hm1 : 1 ≤ m) (hrl : rows.length = n) : GrowA lo B n m bm bl bY bt bg tb R lb y rv cv lv rows cols [] := by
  intro D L T K H Q hD hr hL fx wk pre hK hB hI
  refine WpF.wrt rfl fn100 rfl ?_
  unfold f100A
  simp only [List.length_nil, Nat.add_zero] at hD
  subst hD
  have rI := fx.rows.I
  rw [hrl] at rI
  have hls := wk.leftSl
  have hll := wk.ll
  have mx := max_ret hls (by omega)
  by_cases h0 : maxL L > 0
  · rw [tabsL, if_pos h0] at hI
    have h0' : decide (0 < maxL L) = true := decide_eq_true h0
    simp (disch := (first | assumption | omega | (simp only [List.length_append, List.length_cons, List.length_nil]; omega))) only [↓wD,wU,Nat.reduceBEq,zx150,zx151,zx159,zx160,zx161,zx162,Nat.reduceAdd,Nat.reduceSub,Nat.reduceMul,Nat.reduceLeDiff,Nat.reduceLT,Nat.reduceEqDiff,Int.reduceAdd,Int.reduceSub,Int.reduceMul,Int.reduceNeg,Int.reduceLT,Int.reduceLE,Int.reduceEq,Int.reduceToNat,Int.cast_ofNat_Int,↓reduceIte, ld_of fx.mg.1, ld_of fx.lg.1, fx.rows.lenV, hrl, mx.call, h0']
    exact ⟨true, K, rfl, hI, Kx.refl _ _, fun b q => ⟨hK b q, fun _ => q⟩, T, wk, pre⟩
  · rw [tabsL, if_neg h0] at hI
    have h0' : decide (0 < maxL L) = false := decide_eq_false h0
    have hT := pre.full (by rw [wk.len])
    subst hT
    have ts := wk.tabSl fx.tbg.1 hn hm
    have hne : NE T := by
      intro r hr
      obtain ⟨a, ha, rfl⟩ := List.mem_iff_getElem.1 hr
      have := (wk.row a (by rw [← wk.len]; exact ha)).2.1
      rw [gi_nat ha] at this
      exact ⟨fun e => by rw [e] at this; simp at this; omega, by omega⟩
    simp (disch := (first | assumption | omega | (simp only [List.length_append, List.length_cons, List.length_nil]; omega))) only [↓wD,wU,Nat.reduceBEq,zx150,zx151,zx159,zx160,zx161,zx162,Nat.reduceAdd,Nat.reduceSub,Nat.reduceMul,Nat.reduceLeDiff,Nat.reduceLT,Nat.reduceEqDiff,Int.reduceAdd,Int.reduceSub,Int.reduceMul,Int.reduceNeg,Int.reduceLT,Int.reduceLE,Int.reduceEq,Int.reduceToNat,Int.cast_ofNat_Int,↓reduceIte, ld_of fx.mg.1, ld_of fx.lg.1, ld_of fx.yg.1, ld_of fx.tg.1, fx.rows.lenV, hrl, mx.call, h0']
    refine (tclone_ret ts hne (by omega)).toX fun u H1 hx hu => ?_
    have hmt : MT H.length H1 u T := MT.of hu fun b hb => hb.elim (fun h => h.elim) id
    have hsl := hmt.sl.low
    have hl1 := hx.1
    simp (disch := (first | assumption | omega | (simp only [List.length_append, List.length_cons, List.length_nil]; omega))) only [↓wD,wU,Nat.reduceBEq,zx150,zx151,zx159,zx160,zx161,zx162,Nat.reduceAdd,Nat.reduceSub,Nat.reduceMul,Nat.reduceLeDiff,Nat.reduceLT,Nat.reduceEqDiff,Int.reduceAdd,Int.reduceSub,Int.reduceMul,Int.reduceNeg,Int.reduceLT,Int.reduceLE,Int.reduceEq,Int.reduceToNat,Int.cast_ofNat_Int,↓reduceIte]
    refine callvI ((hI H1 (fun b => H.length ≤ b ∧ b < H1.length) [u] (hx.all _) ⟨u, rfl, ?_⟩ ?_).mono ?_)
    · simp only [List.append_nil]; exact hsl
    · exact fun b e => ⟨by omega, e.2, fun q => by have := hK b q; omega⟩
    · rintro v H2 ⟨hx2, hc⟩
      have kb : ∀ b, Kn K (fun b => H.length ≤ b ∧ b < H1.length) H1 H2 b → b < H2.length ∧ (b < H.length → K b) := by
        have hl2 := hx2.1
        rintro b (h | h | h)
        · exact ⟨by have := hK b h; omega, fun _ => h⟩
        · exact ⟨by omega, fun q => by omega⟩
        · exact ⟨h.2, fun q => by omega⟩
      have x12 : Kx (fun b => ¬ K b) H H2 := (hx.all _).trans hx2 fun b hb h q => q.elim h fun q => by omega
      have wk2 := wk.mono x12 fun b hb q => (kb b q).2 hb
      rcases hc with ⟨rfl, hc⟩ | ⟨rfl, hc⟩
      · simp (disch := (first | assumption | omega | (simp only [List.length_append, List.length_cons, List.length_nil]; omega))) only [↓wD,wU,Nat.reduceBEq,zx150,zx151,zx159,zx160,zx161,zx162,Nat.reduceAdd,Nat.reduceSub,Nat.reduceMul,Nat.reduceLeDiff,Nat.reduceLT,Nat.reduceEqDiff,Int.reduceAdd,Int.reduceSub,Int.reduceMul,Int.reduceNeg,Int.reduceLT,Int.reduceLE,Int.reduceEq,Int.reduceToNat,Int.cast_ofNat_Int,↓reduceIte]
        exact ⟨true, _, rfl, hc, x12.weak fun _ _ h => h.1, kb, T, wk2, pre⟩
      · simp (disch := (first | assumption | omega | (simp only [List.length_append, List.length_cons, List.length_nil]; omega))) only [↓wD,wU,Nat.reduceBEq,zx150,zx151,zx159,zx160,zx161,zx162,Nat.reduceAdd,Nat.reduceSub,Nat.reduceMul,Nat.reduceLeDiff,Nat.reduceLT,Nat.reduceEqDiff,Int.reduceAdd,Int.reduceSub,Int.reduceMul,Int.reduceNeg,Int.reduceLT,Int.reduceLE,Int.reduceEq,Int.reduceToNat,Int.cast_ofNat_Int,↓reduceIte]
        exact ⟨false, _, rfl, hc, x12.weak fun _ _ h => h.1, kb, T, wk2, pre⟩
end
end Go.Proofs.Ytflekaacffdakaa
namespace Go.Proofs.Ytflekaacffdakaa
open Go Go.AM Go.Proofs
theorem gi_app {α : Type} [Inhabited α] {xs ys : List α} {a : Nat} (h : a < xs.length) : gi (xs ++ ys) (a : Int) = gi xs (a : Int) := by
  rw [gi_nat h, gi_nat (by simp; omega), List.getElem_append_left h]
theorem gi_end {α : Type} [Inhabited α] {xs : List α} {x : α} : gi (xs ++ [x]) (xs.length : Int) = x := by
  rw [gi_nat (by simp)]; simp
theorem gi_out {α : Type} [Inhabited α] {xs : List α} {a : Nat} (h : xs.length ≤ a) : gi xs (a : Int) = default := by
  unfold gi; simp [h]
theorem Pre.row {T D : List (List Int)} {c : List Int} (h : Pre T D D.length c) (hl : (gi T (D.length : Int)).length = c.length) : Pre T (D ++ [c]) (D ++ [c]).length [] := by
  refine ⟨fun a ha => ?_, by simp⟩
  simp only [List.length_append, List.length_singleton] at ha
  by_cases e : a = D.length
  · subst e
    rw [gi_end]
    have := h.2
    rwa [← hl, List.take_length] at this
  · rw [gi_app (by omega)]
    exact h.1 a (by omega)
theorem Pre.unrow {T D : List (List Int)} {c : List Int} (h : Pre T (D ++ [c]) (D ++ [c]).length []) : Pre T D D.length c := by
  have hl : (D ++ [c]).length = D.length + 1 := by simp
  refine ⟨fun a ha => ?_, ?_⟩
  · have := h.1 a (by omega)
    rwa [gi_app ha] at this
  · have := h.1 D.length (by omega)
    rw [this, gi_end, List.take_length]
section
variable {lo B n m bm bl bY bt bg tb R lb : Nat} {y rv cv lv : AV} {rows cols : List Int}
theorem growB_nil {rs : List Int} (hlo : lo ≤ B) (hn : n ≤ 3) (hm : m ≤ 3) (hrl : rows.length = n) (hcl : cols.length = m) (hA : GrowA lo B n m bm bl bY bt bg tb R lb y rv cv lv rows cols rs) : GrowB lo B n m bm bl bY bt bg tb R lb y rv cv lv rows cols rs [] := by
  intro D c need L T K H Q hD hr hd hc hneed hL fx wk pre hK hB hI
  refine WpF.wrt rfl fn100 rfl ?_
  unfold f100A
  simp only [List.length_nil, Nat.add_zero] at hc
  have hT := wk.row D.length (by omega)
  have hll := wk.ll
  have e1 : decide ((D.length : Int) = n) = false := decide_eq_false (by omega)
  have e2 : decide ((c.length : Int) = m) = true := decide_eq_true (by omega)
  have hrv := fx.rows.lenV
  have hcv := fx.cols.lenV
  rw [hrl] at hrv
  rw [hcl] at hcv
  by_cases h0 : need > 0
  · rw [lines, if_pos h0] at hI
    have h0' : decide (0 < need) = true := decide_eq_true h0
    simp (disch := (first | assumption | omega | (simp only [List.length_append, List.length_cons, List.length_nil]; omega))) only [↓wD,wU,Nat.reduceBEq,zx150,zx151,zx159,zx160,zx161,zx162,Nat.reduceAdd,Nat.reduceSub,Nat.reduceMul,Nat.reduceLeDiff,Nat.reduceLT,Nat.reduceEqDiff,Int.reduceAdd,Int.reduceSub,Int.reduceMul,Int.reduceNeg,Int.reduceLT,Int.reduceLE,Int.reduceEq,Int.reduceToNat,Int.cast_ofNat_Int,↓reduceIte, ld_of fx.mg.1, ldn_of fx.mg.1, hrv, hcv, e1, e2, h0']
    exact ⟨true, K, rfl, hI, Kx.refl _ _, fun b q => ⟨hK b q, fun _ => q⟩, T, wk, pre⟩
  · rw [lines, if_neg h0] at hI
    have h0' : decide (0 < need) = false := decide_eq_false h0
    have hI' : Its E lo y B ArgT Q ((tabsL rs L).map ((D ++ [c]) ++ ·)) K H := by
      have eL : L.take c.length ++ subL [] [] = L := by rw [List.take_of_length_le (by omega)]; simp [subL]
      simp only [List.flatMap_cons, List.flatMap_nil, List.append_nil, eL] at hI
      simpa using hI
    have hl : (D ++ [c]).length = D.length + 1 := by simp
    have go := hA (D ++ [c]) L T K H Q (by omega) (by rw [hl]; exact hr) hL fx wk (pre.row (by rw [hT.2.1, hc])) hK hB hI'
    rw [hl] at go
    have fin : ∀ u H', GPost B n m R lb lv (D ++ [c]) [] L Q K H u H' → GPost B n m R lb lv D c L Q K H u H' := by
      rintro u H' ⟨ok, K', e, q1, q2, q3, T', q4, q5⟩
      exact ⟨ok, K', e, q1, q2, q3, T', q4, q5.unrow⟩
    by_cases h1 : D.length + 1 = n
    · have h1' : decide ((D.length : Int) + 1 = n) = true := decide_eq_true (by omega)
      rw [gi_out (by omega)] at go
      change WpF E lo _ [.i ((D.length + 1 : Nat) : Int), .i 0, .i 0, _, _, _, _, _] H _ at go
      rw [show ((D.length + 1 : Nat) : Int) = (D.length : Int) + 1 from by omega] at go
      simp (disch := (first | assumption | omega | (simp only [List.length_append, List.length_cons, List.length_nil]; omega))) only [↓wD,wU,Nat.reduceBEq,zx150,zx151,zx159,zx160,zx161,zx162,Nat.reduceAdd,Nat.reduceSub,Nat.reduceMul,Nat.reduceLeDiff,Nat.reduceLT,Nat.reduceEqDiff,Int.reduceAdd,Int.reduceSub,Int.reduceMul,Int.reduceNeg,Int.reduceLT,Int.reduceLE,Int.reduceEq,Int.reduceToNat,Int.cast_ofNat_Int,↓reduceIte, ld_of fx.mg.1, ldn_of fx.mg.1, ld_of fx.gg.1, hrv, hcv, e1, e2, h0', h1']
      refine callvI (WpV.fn (us := []) (vs := [_, _, _]) (go.mono ?_))
      intro u H' hp
      obtain ⟨ok, K', rfl, hq⟩ := fin u H' hp
      simp (disch := (first | assumption | omega | (simp only [List.length_append, List.length_cons, List.length_nil]; omega))) only [↓wD,wU,Nat.reduceBEq,zx150,zx151,zx159,zx160,zx161,zx162,Nat.reduceAdd,Nat.reduceSub,Nat.reduceMul,Nat.reduceLeDiff,Nat.reduceLT,Nat.reduceEqDiff,Int.reduceAdd,Int.reduceSub,Int.reduceMul,Int.reduceNeg,Int.reduceLT,Int.reduceLE,Int.reduceEq,Int.reduceToNat,Int.cast_ofNat_Int,↓reduceIte]
      exact ⟨ok, K', rfl, hq⟩
    · have h1' : decide ((D.length : Int) + 1 = n) = false := decide_eq_false (by omega)
      rw [show ((D.length + 1 : Nat) : Int) = (D.length : Int) + 1 from by omega] at go
      have rI := fx.rows.I
      rw [hrl] at rI
      simp (disch := (first | assumption | omega | (simp only [List.length_append, List.length_cons, List.length_nil]; omega))) only [↓wD,wU,Nat.reduceBEq,zx150,zx151,zx159,zx160,zx161,zx162,Nat.reduceAdd,Nat.reduceSub,Nat.reduceMul,Nat.reduceLeDiff,Nat.reduceLT,Nat.reduceEqDiff,Int.reduceAdd,Int.reduceSub,Int.reduceMul,Int.reduceNeg,Int.reduceLT,Int.reduceLE,Int.reduceEq,Int.reduceToNat,Int.cast_ofNat_Int,↓reduceIte, ld_of fx.mg.1, ldn_of fx.mg.1, ld_of fx.gg.1, hrv, hcv, e1, e2, h0', h1', rI]
      refine callvI (WpV.fn (us := []) (vs := [_, _, _]) (go.mono ?_))
      intro u H' hp
      obtain ⟨ok, K', rfl, hq⟩ := fin u H' hp
      simp (disch := (first | assumption | omega | (simp only [List.length_append, List.length_cons, List.length_nil]; omega))) only [↓wD,wU,Nat.reduceBEq,zx150,zx151,zx159,zx160,zx161,zx162,Nat.reduceAdd,Nat.reduceSub,Nat.reduceMul,Nat.reduceLeDiff,Nat.reduceLT,Nat.reduceEqDiff,Int.reduceAdd,Int.reduceSub,Int.reduceMul,Int.reduceNeg,Int.reduceLT,Int.reduceLE,Int.reduceEq,Int.reduceToNat,Int.cast_ofNat_Int,↓reduceIte]
      exact ⟨ok, K', rfl, hq⟩
end
end Go.Proofs.Ytflekaacffdakaa
namespace Go.Proofs.Ytflekaacffdakaa
open Go Go.AM Go.Proofs
/-- the items of one number of a row -/
def numL (rs cs : List Int) (D : List (List Int)) (c P : List Int) (cap need : Int) (x : Nat) : List (List (List Int)) :=
  (lines cs (need - (x : Int))).flatMap fun l => (tabsL rs ((P ++ [cap - (x : Int)]) ++ subL cs l)).map (fun z => D ++ ((c ++ [(x : Int)]) ++ l) :: z)
theorem lines_num {rs cs : List Int} {D : List (List Int)} {c P : List Int} {cap need : Int} : ((lines (cap :: cs) need).flatMap fun l => (tabsL rs (P ++ subL (cap :: cs) l)).map (fun z => D ++ (c ++ l) :: z)) = (List.range (min need cap + 1).toNat).flatMap (numL rs cs D c P cap need) := by
  simp only [lines, List.flatMap_assoc]
  congr 1
  funext x
  unfold numL
  rw [List.flatMap_map]
  congr 1
  funext l
  simp [subL]
theorem range_drop {N x : Nat} (h : x < N) : (List.range N).drop x = x :: (List.range N).drop (x + 1) := by
  rw [List.drop_eq_getElem_cons (by simpa using h)]; simp
theorem Pre.setT {T D : List (List Int)} {c : List Int} {x : Int} (h : Pre T D D.length c) (hl : D.length < T.length) (hc : c.length < (gi T (D.length : Int)).length) : Pre (T.set D.length ((gi T (D.length : Int)).set c.length x)) D D.length (c ++ [x]) := by
  have eg : ∀ a : Nat, gi (T.set D.length ((gi T (D.length : Int)).set c.length x)) (a : Int) = if D.length = a then (gi T (D.length : Int)).set c.length x else gi T (a : Int) := by
    intro a
    have := gi_set (xs := T) (i := (D.length : Int)) (j := (a : Int)) (x := (gi T (D.length : Int)).set c.length x) (by omega) (by omega) (by omega)
    rw [show ((D.length : Int)).toNat = D.length from rfl] at this
    rw [this]
    by_cases e : D.length = a
    · rw [if_pos e, if_pos (by omega)]
    · rw [if_neg e, if_neg (by omega)]
  refine ⟨fun a ha => ?_, ?_⟩
  · rw [eg, if_neg (by omega)]
    exact h.1 a ha
  · rw [eg, if_pos rfl]
    have h2 := h.2
    apply List.ext_getElem
    · simp; omega
    · intro i h3 h4
      simp only [List.length_append, List.length_singleton] at h4
      rw [List.getElem_take, List.getElem_set]
      by_cases e : c.length = i
      · subst e
        rw [if_pos rfl, List.getElem_append_right (Nat.le_refl _)]; simp
      · rw [if_neg e, List.getElem_append_left (by omega)]
        have h5 : i < ((gi T (D.length : Int)).take c.length).length := by rw [h2]; omega
        have : ((gi T (D.length : Int)).take c.length)[i] = c[i]'(by omega) := by simp only [h2]
        rw [List.getElem_take] at this
        exact this
theorem Pre.cut {T D : List (List Int)} {c : List Int} {x : Int} (h : Pre T D D.length (c ++ [x])) : Pre T D D.length c := by
  refine ⟨h.1, ?_⟩
  have := congrArg (List.take c.length) h.2
  rw [List.take_take, List.take_append_of_le_length (Nat.le_refl _), List.take_length] at this
  rwa [show min c.length (c ++ [x]).length = c.length by simp] at this
theorem left_drop {L cs : List Int} {j : Nat} {cap : Int} (h : L.drop j = cap :: cs) : j < L.length ∧ gi L (j : Int) = cap ∧ L.drop (j + 1) = cs := by
  have hj : j < L.length := by
    rcases Nat.lt_or_ge j L.length with h1 | h1
    · exact h1
    · rw [List.drop_of_length_le h1] at h; cases h
  rw [List.drop_eq_getElem_cons hj] at h
  injection h with h1 h2
  exact ⟨hj, by rw [gi_nat hj]; exact h1, h2⟩
theorem left_set {L : List Int} {j : Nat} {x : Int} (hj : j < L.length) : (L.set j x).drop (j + 1) = L.drop (j + 1) ∧ (L.set j x).take (j + 1) = L.take j ++ [x] := by
  refine ⟨by rw [List.drop_set_of_lt (by omega)], ?_⟩
  rw [List.take_succ_eq_append_getElem (by simpa using hj), List.take_set_of_le (Nat.le_refl _)]
  simp
theorem left_back {L : List Int} {j : Nat} {x y : Int} (hj : j < L.length) (h : y = gi L (j : Int)) : (L.set j x).set j y = L := by
  rw [List.set_set, h, gi_nat hj]; simp
end Go.Proofs.Ytflekaacffdakaa
namespace Go.Proofs.Ytflekaacffdakaa
open Go Go.AM Go.Proofs
section
variable {lo B n m bm bl bY bt bg tb R lb : Nat} {y rv cv lv : AV} {rows cols : List Int}
theorem growB_cons {rs cs : List Int} {cap : Int} (hlo : lo ≤ B) (hn : n ≤ 3) (hm : m ≤ 3) (hrl : rows.length = n) (hcl : cols.length = m) (hB' : GrowB lo B n m bm bl bY bt bg tb R lb y rv cv lv rows cols rs cs) : GrowB lo B n m bm bl bY bt bg tb R lb y rv cv lv rows cols rs (cap :: cs) := by
  intro D c need L T K H Q hD hr hd hc hneed hL fx wk pre hK hB hI
  refine WpF.wrt rfl fn100 rfl ?_
  unfold f100A
  rw [lines_num] at hI
  simp only [List.length_cons] at hc
  obtain ⟨hjl, hcap, hcs⟩ := left_drop hd
  have hll := wk.ll
  have hcm := hL _ (mem_gi hjl)
  rw [hcap] at hcm
  have e1 : decide ((D.length : Int) = n) = false := decide_eq_false (by omega)
  have e2 : decide ((c.length : Int) = m) = false := decide_eq_false (by omega)
  have hrv := fx.rows.lenV
  have hcv := fx.cols.lenV
  rw [hrl] at hrv
  rw [hcl] at hcv
  have lI := wk.leftSl.I
  have hmn : 0 ≤ min need cap ∧ min need cap ≤ 16 := by omega
  obtain ⟨N, hN⟩ : ∃ N : Nat, (min need cap + 1).toNat = N := ⟨_, rfl⟩
  have hN' : min need cap + 1 = (N : Int) := by omega
  rw [hN] at hI
  have hNn : ∀ x : Nat, x < N → (x : Int) ≤ need ∧ (x : Int) ≤ cap := by omega
  simp (disch := (first | assumption | omega | (simp only [List.length_append, List.length_cons, List.length_nil]; omega))) only [↓wD,wU,Nat.reduceBEq,zx150,zx151,zx159,zx160,zx161,zx162,Nat.reduceAdd,Nat.reduceSub,Nat.reduceMul,Nat.reduceLeDiff,Nat.reduceLT,Nat.reduceEqDiff,Int.reduceAdd,Int.reduceSub,Int.reduceMul,Int.reduceNeg,Int.reduceLT,Int.reduceLE,Int.reduceEq,Int.reduceToNat,Int.cast_ofNat_Int,↓reduceIte, ld_of fx.mg.1, ldn_of fx.mg.1, ld_of fx.lg.1, hrv, hcv, e1, e2, lI, hcap, hN']
  refine Wp.for N (fun x a H1 => a 0 = .i D.length ∧ a 1 = .i c.length ∧ a 2 = .i need ∧ a 3 = .p bm 0 ∧ a 4 = .p bl 0 ∧ a 5 = .p bY 0 ∧ a 6 = .p bt 0 ∧ a 7 = .p bg 0 ∧ a 63 = .i N ∧ a 64 = .i x ∧ ∃ K1 T1, Its E lo y B ArgT Q (((List.range N).drop x).flatMap (numL rs cs D c (L.take c.length) cap need)) K1 H1 ∧ Kx (fun b => ¬ K b ∧ ¬ Wb n R lb b) H H1 ∧ (∀ b, K1 b → b < H1.length ∧ (b < H.length → K b)) ∧ Wk B K1 H1 lv n m R lb T1 L ∧ Pre T1 D D.length c) ?_ ?_
  · rintro x a H1 hx ⟨a0, a1, a2, a3, a4, a5, a6, a7, a63, a64, K1, T1, hI1, x1, hK1, wk1, pre1⟩ ih
    simp (disch := (first | assumption | omega | (simp only [List.length_append, List.length_cons, List.length_nil]; omega))) only [↓wD,wU,Nat.reduceBEq,zx150,zx151,zx159,zx160,zx161,zx162,Nat.reduceAdd,Nat.reduceSub,Nat.reduceMul,Nat.reduceLeDiff,Nat.reduceLT,Nat.reduceEqDiff,Int.reduceAdd,Int.reduceSub,Int.reduceMul,Int.reduceNeg,Int.reduceLT,Int.reduceLE,Int.reduceEq,Int.reduceToNat,Int.cast_ofNat_Int,↓reduceIte, a0, a1, a2, a3, a4, a5, a6, a7, a63, a64]
    refine condP_split (fun hlt => ?_) (fun hlt => ?_)
    · have hx' : x < N := by omega
      obtain ⟨xn, xc⟩ := hNn x hx'
      rw [range_drop hx', List.flatMap_cons] at hI1
      have hI2 := Its.append hI1
      have fx1 := fx.mono x1 fun b h q => (hK1 b q).2 h
      have hrow := wk1.row D.length (by omega)
      obtain ⟨H2, hst, wk2, x2, l2⟩ := wk1.setT (lo := lo) (i := D.length) (j := c.length) (x := (x : Int)) (by omega) (by omega) hlo
      have x12 : Kx (fun b => ¬ K1 b ∧ ¬ Wb n R lb b) H1 H2 := x2.weak fun b _ h e => h.2 (.inr (by omega))
      have fx2 := fx1.mono x12 fun b _ q => q
      have iT := zx178 (b := tb) (m := n) (c := some n) (k := D.length) (by omega)
      have iR := zx178 (b := R + D.length) (m := m) (c := some m) (k := c.length) (by omega)
      have tI := ld_of fx1.tbg.1 (o := D.length)
      rw [show (((List.range n).map fun a : Nat => AV.s 1 (R + a) 0 m (some m))[D.length]?) = some (.s 1 (R + D.length) 0 m (some m)) by rw [List.getElem?_map, List.getElem?_range (by omega)]; rfl] at tI
      have lI2 := wk2.leftSl.I
      simp (disch := (first | assumption | omega | (simp only [List.length_append, List.length_cons, List.length_nil]; omega))) only [↓wD,wU,Nat.reduceBEq,zx150,zx151,zx159,zx160,zx161,zx162,Nat.reduceAdd,Nat.reduceSub,Nat.reduceMul,Nat.reduceLeDiff,Nat.reduceLT,Nat.reduceEqDiff,Int.reduceAdd,Int.reduceSub,Int.reduceMul,Int.reduceNeg,Int.reduceLT,Int.reduceLE,Int.reduceEq,Int.reduceToNat,Int.cast_ofNat_Int,↓reduceIte, a0, a1, a2, a3, a4, a5, a6, a7, a63, a64, ld_of fx1.tg.1, iT, tI, iR, hst, ld_of fx2.lg.1, lI2, hcap]
      refine wk2.setL (j := c.length) (by omega) hlo fun H3 wk3 x3 l3 => ?_
      have x13 : Kx (fun b => ¬ K1 b ∧ ¬ Wb n R lb b) H1 H3 := x12.trans x3 fun b _ h e => h.2 (.inl e)
      have fx3 := fx1.mono x13 fun b _ q => q
      have hcl1 : (c ++ [(x : Int)]).length = c.length + 1 := by simp
      obtain ⟨ls1, ls2⟩ := left_set (L := L) (j := c.length) (x := cap - (x : Int)) hjl
      have hl1 := x1.1
      have pre3 := pre1.setT (x := (x : Int)) (by rw [wk1.len]; omega) (by rw [hrow.2.1]; omega)
      have x13' : Kx (fun b => b < B ∨ K1 b) H1 H3 := ((x2.weak (q := fun b => b ≠ R + D.length ∧ b ≠ lb) fun _ _ h => h.1).trans x3 fun b _ h => h.2) |>.weak fun b _ h => ⟨fun e => by
          have := wk1.lo
          rcases h with h | h
          · omega
          · exact hrow.2.2 (e ▸ h), fun e => by
          have := wk1.lo
          rcases h with h | h
          · omega
          · exact wk1.left_lt.2 (e ▸ h)⟩
      have go := hB' D (c ++ [(x : Int)]) (need - x) (L.set c.length (cap - x)) _ K1 H3 _ hD hr (by rw [hcl1, ls1]; exact hcs) (by rw [hcl1]; omega) (by omega) (by
        intro z hz
        rcases List.mem_or_eq_of_mem_set hz with h | h
        · exact hL z h
        · omega) fx3 wk3 pre3 (fun b q => by have := (hK1 b q).1; omega) (by omega) (by
          rw [hcl1, ls2]
          exact hI2.keep x13')
      rw [hcl1, show ((c.length + 1 : Nat) : Int) = (c.length : Int) + 1 from by omega] at go
      simp (disch := (first | assumption | omega | (simp only [List.length_append, List.length_cons, List.length_nil]; omega))) only [↓wD,wU,Nat.reduceBEq,zx150,zx151,zx159,zx160,zx161,zx162,Nat.reduceAdd,Nat.reduceSub,Nat.reduceMul,Nat.reduceLeDiff,Nat.reduceLT,Nat.reduceEqDiff,Int.reduceAdd,Int.reduceSub,Int.reduceMul,Int.reduceNeg,Int.reduceLT,Int.reduceLE,Int.reduceEq,Int.reduceToNat,Int.cast_ofNat_Int,↓reduceIte, a0, a1, a2, a3, a4, a5, a6, a7, a63, a64, ld_of fx3.gg.1]
      refine callvI (WpV.fn (us := []) (vs := [_, _, _]) (go.mono ?_))
      rintro u' H4 ⟨ok, K4, rfl, hq, x34, hK4, T4, wk4, pre4⟩
      have l34 := x34.1
      have fx4 := fx3.mono x34 fun b h q => (hK4 b q).2 h
      have lI4 := wk4.leftSl.I
      rw [List.length_set] at lI4
      have eg : gi (L.set c.length (cap - (x : Int))) (c.length : Int) = cap - x := by rw [gi_nat (by simpa using hjl)]; simp
      simp (disch := (first | assumption | omega | (simp only [List.length_append, List.length_cons, List.length_nil]; omega))) only [↓wD,wU,Nat.reduceBEq,zx150,zx151,zx159,zx160,zx161,zx162,Nat.reduceAdd,Nat.reduceSub,Nat.reduceMul,Nat.reduceLeDiff,Nat.reduceLT,Nat.reduceEqDiff,Int.reduceAdd,Int.reduceSub,Int.reduceMul,Int.reduceNeg,Int.reduceLT,Int.reduceLE,Int.reduceEq,Int.reduceToNat,Int.cast_ofNat_Int,↓reduceIte, a0, a1, a2, a3, a4, a5, a6, a7, a63, a64, ld_of fx4.lg.1, lI4, eg]
      refine wk4.setL (j := c.length) (by omega) hlo fun H5 wk5 x5 l5 => ?_
      rw [left_back hjl (by rw [hcap]; omega)] at wk5
      have x15 : Kx (fun b => ¬ K b ∧ ¬ Wb n R lb b) H H5 := ((x1.trans x13 fun b hb h => ⟨fun q => h.1 ((hK1 b q).2 hb), h.2⟩).trans x34 fun b hb h => ⟨fun q => h.1 ((hK1 b q).2 hb), h.2⟩).trans x5 fun b hb h e => h.2 (.inl e)
      have kb : ∀ b, K4 b → b < H5.length ∧ (b < H.length → K b) := fun b q => ⟨by have := (hK4 b q).1; omega, fun hb => (hK1 b ((hK4 b q).2 (by omega))).2 hb⟩
      have x45 : Kx (fun b => b < B ∨ K4 b) H4 H5 := x5.weak fun b _ h e => by
        have := wk4.lo
        rcases h with h | h
        · omega
        · exact wk4.left_lt.2 (e ▸ h)
      cases ok with
      | true =>
        have hI5 := (hq H5 x45).1 rfl
        clear hq go hI hI1 hI2
        simp (disch := (first | assumption | omega | (simp only [List.length_append, List.length_cons, List.length_nil]; omega))) only [↓wD,wU,Nat.reduceBEq,zx150,zx151,zx159,zx160,zx161,zx162,Nat.reduceAdd,Nat.reduceSub,Nat.reduceMul,Nat.reduceLeDiff,Nat.reduceLT,Nat.reduceEqDiff,Int.reduceAdd,Int.reduceSub,Int.reduceMul,Int.reduceNeg,Int.reduceLT,Int.reduceLE,Int.reduceEq,Int.reduceToNat,Int.cast_ofNat_Int,↓reduceIte, a0, a1, a2, a3, a4, a5, a6, a7, a63, a64]
        refine (ih hx').go ?_
        simp (disch := (first | assumption | omega | (simp only [List.length_append, List.length_cons, List.length_nil]; omega))) only [↓wD,wU,Nat.reduceBEq,zx150,zx151,zx159,zx160,zx161,zx162,Nat.reduceAdd,Nat.reduceSub,Nat.reduceMul,Nat.reduceLeDiff,Nat.reduceLT,Nat.reduceEqDiff,Int.reduceAdd,Int.reduceSub,Int.reduceMul,Int.reduceNeg,Int.reduceLT,Int.reduceLE,Int.reduceEq,Int.reduceToNat,Int.cast_ofNat_Int,↓reduceIte, a0, a1, a2, a3, a4, a5, a6, a7, a63, a64]
        exact ⟨K4, T4, hI5, x15, kb, wk5, pre4.cut⟩
      | false =>
        have hq5 : ∀ H6, Kx (fun b => b < B ∨ K4 b) H5 H6 → Q false K4 H6 := fun H6 h6 => (hq H6 (x45.trans h6 fun _ _ h => h)).2 rfl
        simp (disch := (first | assumption | omega | (simp only [List.length_append, List.length_cons, List.length_nil]; omega))) only [↓wD,wU,Nat.reduceBEq,zx150,zx151,zx159,zx160,zx161,zx162,Nat.reduceAdd,Nat.reduceSub,Nat.reduceMul,Nat.reduceLeDiff,Nat.reduceLT,Nat.reduceEqDiff,Int.reduceAdd,Int.reduceSub,Int.reduceMul,Int.reduceNeg,Int.reduceLT,Int.reduceLE,Int.reduceEq,Int.reduceToNat,Int.cast_ofNat_Int,↓reduceIte, a0, a1, a2, a3, a4, a5, a6, a7, a63, a64]
        exact ⟨false, K4, rfl, hq5, x15, kb, T4, wk5, pre4.cut⟩
    · simp (disch := (first | assumption | omega | (simp only [List.length_append, List.length_cons, List.length_nil]; omega))) only [↓wD,wU,Nat.reduceBEq,zx150,zx151,zx159,zx160,zx161,zx162,Nat.reduceAdd,Nat.reduceSub,Nat.reduceMul,Nat.reduceLeDiff,Nat.reduceLT,Nat.reduceEqDiff,Int.reduceAdd,Int.reduceSub,Int.reduceMul,Int.reduceNeg,Int.reduceLT,Int.reduceLE,Int.reduceEq,Int.reduceToNat,Int.cast_ofNat_Int,↓reduceIte]
      obtain rfl : x = N := by omega
      rw [List.drop_of_length_le (by simp)] at hI1
      exact ⟨true, K1, rfl, hI1, x1, hK1, T1, wk1, pre1⟩
  · simp (disch := (first | assumption | omega | (simp only [List.length_append, List.length_cons, List.length_nil]; omega))) only [↓wD,wU,Nat.reduceBEq,zx150,zx151,zx159,zx160,zx161,zx162,Nat.reduceAdd,Nat.reduceSub,Nat.reduceMul,Nat.reduceLeDiff,Nat.reduceLT,Nat.reduceEqDiff,Int.reduceAdd,Int.reduceSub,Int.reduceMul,Int.reduceNeg,Int.reduceLT,Int.reduceLE,Int.reduceEq,Int.reduceToNat,Int.cast_ofNat_Int,↓reduceIte]
    exact ⟨K, T, hI, Kx.refl _ _, fun b q => ⟨hK b q, fun _ => q⟩, wk, pre⟩
theorem grow_all (hlo : lo ≤ B) (hn : n ≤ 3) (hm : m ≤ 3) (hm1 : 1 ≤ m) (hrl : rows.length = n) (hcl : cols.length = m) (hrows : ∀ x ∈ rows, 0 ≤ x ∧ x ≤ 16) : ∀ rs, GrowA lo B n m bm bl bY bt bg tb R lb y rv cv lv rows cols rs := by
  intro rs
  induction rs with
  | nil => exact growA_nil hlo hn hm hm1 hrl
  | cons r rs ih =>
    have hB : ∀ cs, GrowB lo B n m bm bl bY bt bg tb R lb y rv cv lv rows cols rs cs := by
      intro cs
      induction cs with
      | nil => exact growB_nil hlo hn hm hrl hcl ih
      | cons cap cs ihc => exact growB_cons hlo hn hm hrl hcl ihc
    intro D L T K H Q hD hr hL fx wk pre hK hB' hI
    obtain ⟨q1, q2, q3⟩ := left_drop hr
    have h4 := hrows _ (mem_gi q1)
    have := hB L D [] (gi rows (D.length : Int)) L T K H Q (by simp at hD; omega) q3 (by simp) (by simp [wk.ll]) h4 hL fx wk pre hK hB' (by
      rw [q2]
      simp only [tabsL, List.map_flatMap, List.map_map] at hI
      simpa [Function.comp_def] using hI)
    exact this
end
end Go.Proofs.Ytflekaacffdakaa
namespace Go.Proofs.Ytflekaacffdakaa
open Go Go.AM Go.Proofs
/-- the rows that are laid already -/
def laidC (n m R i : Nat) : List AV := (List.range n).map fun a : Nat => if a < i then .s 1 (R + a) 0 m (some m) else .nils
theorem laidC_0 {n m R : Nat} : laidC n m R 0 = reps n [AV.nils] := by
  rw [reps_z]
  apply List.ext_getElem (by simp [laidC])
  intro i h1 h2
  simp [laidC]
theorem laidC_n {n m R : Nat} : laidC n m R n = (List.range n).map fun a : Nat => .s 1 (R + a) 0 m (some m) := by
  unfold laidC
  apply map_range_congr
  intro a ha
  rw [if_pos ha]
theorem laidC_set {n m R i : Nat} (hi : i < n) : (laidC n m R i).set i (.s 1 (R + i) 0 m (some m)) = laidC n m R (i + 1) := by
  unfold laidC
  rw [set_map_range]
  apply map_range_congr
  intro a ha
  by_cases e : a = i
  · subst e
    rw [if_pos rfl, if_pos (by omega)]
  · rw [if_neg e]
    by_cases h : a < i
    · rw [if_pos h, if_pos (by omega)]
    · rw [if_neg h, if_neg (by omega)]
theorem all_it {lo : Nat} {y rv cv : AV} {rows cols : List Int} {K : Nat → Prop} {H : Heap} {Q : Bool → (Nat → Prop) → Heap → Prop} (hlo : lo ≤ H.length) (hy : y.cells = [y] ∧ y.one = true)
    (hr : Sl (fun b => ¬ K b) H rv rows) (hc : Sl (fun b => ¬ K b) H cv cols) (hn1 : 1 ≤ rows.length) (hn : rows.length ≤ 3) (hm1 : 1 ≤ cols.length) (hm : cols.length ≤ 3) (hrows : ∀ x ∈ rows, 0 ≤ x ∧ x ≤ 16) (hcols : ∀ x ∈ cols, 0 ≤ x ∧ x ≤ 16) (hK : ∀ b, K b → b < H.length)
    (hI : Its E lo y H.length ArgT Q (tabsL rows cols) K H) : WpF E lo 80 [.ag [rv, cv], y] H fun _ H' => ∃ ok K', Q ok K' H' := by
  refine WpF.wrt rfl fn80 rfl ?_
  unfold f80A
  obtain ⟨n, en⟩ : ∃ n, rows.length = n := ⟨_, rfl⟩
  obtain ⟨m, em⟩ : ∃ m, cols.length = m := ⟨_, rfl⟩
  rw [en] at hn1 hn
  rw [em] at hm1 hm
  have hrv := hr.lenV
  rw [en] at hrv
  have hcv := hc.lenV
  rw [em] at hcv
  have k1 : mksliceV 1 24 [AV.nils] (.i (n : Int)) = some n := zx177 (by omega) (by omega)
  have k2 : mksliceV 1 8 [AV.int .i64 0] (.i (m : Int)) = some m := zx176 (by omega) (by omega)
  simp (disch := (first | assumption | omega | (simp only [List.length_append, List.length_cons, List.length_nil]; omega))) only [↓wD,wU,Nat.reduceBEq,zx150,zx151,zx159,zx160,zx161,zx162,Nat.reduceAdd,Nat.reduceSub,Nat.reduceMul,Nat.reduceLeDiff,Nat.reduceLT,Nat.reduceEqDiff,Int.reduceAdd,Int.reduceSub,Int.reduceMul,Int.reduceNeg,Int.reduceLT,Int.reduceLE,Int.reduceEq,Int.reduceToNat,Int.cast_ofNat_Int,↓reduceIte, hr.cellsV, hc.cellsV, hy.1, hy.2, hrv, k1]
  refine Wp.for n (fun i a H1 => a 2 = .p H.length 0 ∧ a 3 = .p (H.length + 1) 0 ∧ a 4 = .p (H.length + 3) 0 ∧ a 13 = .i n ∧ a 14 = .i i ∧ H1.length = H.length + 4 + i ∧ H1[H.length]? = some (.cells [rv, cv]) ∧ H1[H.length + 1]? = some (.cells [y]) ∧ H1[H.length + 2]? = some (.cells (laidC n m (H.length + 4) i)) ∧ H1[H.length + 3]? = some (.cells [.s 1 (H.length + 2) 0 n (some n)]) ∧ (∀ j, j < i → H1[H.length + 4 + j]? = some (.cells (reps m [AV.int .i64 0]))) ∧ Kx (fun b => b < H.length) H H1) ?_ ?_
  · rintro i a H1 hi ⟨a2, a3, a4, a13, a14, l1, g1, g2, g3, g4, g5, x1⟩ ih
    simp (disch := (first | assumption | omega | (simp only [List.length_append, List.length_cons, List.length_nil]; omega))) only [↓wD,wU,Nat.reduceBEq,zx150,zx151,zx159,zx160,zx161,zx162,Nat.reduceAdd,Nat.reduceSub,Nat.reduceMul,Nat.reduceLeDiff,Nat.reduceLT,Nat.reduceEqDiff,Int.reduceAdd,Int.reduceSub,Int.reduceMul,Int.reduceNeg,Int.reduceLT,Int.reduceLE,Int.reduceEq,Int.reduceToNat,Int.cast_ofNat_Int,↓reduceIte, a2, a3, a4, a13, a14]
    refine condP_split (fun hlt => ?_) (fun hlt => ?_)
    · have hi' : i < n := by omega
      have ia := zx178 (b := H.length + 2) (m := n) (c := some n) (k := i) hi'
      have hst : st lo (H1 ++ [Blk.cells (reps m [AV.int .i64 0])]) (H.length + 2) i [.s 1 H1.length 0 m (some m)] = some ((H1 ++ [Blk.cells (reps m [AV.int .i64 0])]).set (H.length + 2) (.cells (laidC n m (H.length + 4) (i + 1)))) := by
        rw [st_of (cs := laidC n m (H.length + 4) i) (by rw [List.getElem?_append_left (by omega)]; exact g3) (by omega) (by simp [laidC]; omega), ← laidC_set hi', l1]
        simp [wr]
      simp (disch := (first | assumption | omega | (simp only [List.length_append, List.length_cons, List.length_nil]; omega))) only [↓wD,wU,Nat.reduceBEq,zx150,zx151,zx159,zx160,zx161,zx162,Nat.reduceAdd,Nat.reduceSub,Nat.reduceMul,Nat.reduceLeDiff,Nat.reduceLT,Nat.reduceEqDiff,Int.reduceAdd,Int.reduceSub,Int.reduceMul,Int.reduceNeg,Int.reduceLT,Int.reduceLE,Int.reduceEq,Int.reduceToNat,Int.cast_ofNat_Int,↓reduceIte, a2, a3, a4, a13, a14, ld_of g4, ld_of g1, hcv, k2, ia, hst]
      refine (ih hi').go ?_
      simp (disch := (first | assumption | omega | (simp only [List.length_append, List.length_cons, List.length_nil]; omega))) only [↓wD,wU,Nat.reduceBEq,zx150,zx151,zx159,zx160,zx161,zx162,Nat.reduceAdd,Nat.reduceSub,Nat.reduceMul,Nat.reduceLeDiff,Nat.reduceLT,Nat.reduceEqDiff,Int.reduceAdd,Int.reduceSub,Int.reduceMul,Int.reduceNeg,Int.reduceLT,Int.reduceLE,Int.reduceEq,Int.reduceToNat,Int.cast_ofNat_Int,↓reduceIte, a2, a3, a4, a13, a14]
      have hge : ∀ b, b < H1.length → b ≠ H.length + 2 → ((H1 ++ [Blk.cells (reps m [AV.int .i64 0])]).set (H.length + 2) (Blk.cells (laidC n m (H.length + 4) (i + 1))))[b]? = H1[b]? := fun b hb hne => by rw [List.getElem?_set_ne (Ne.symm hne), List.getElem?_append_left hb]
      refine ⟨by simp; omega, by rw [hge _ (by omega) (by omega)]; exact g1, by rw [hge _ (by omega) (by omega)]; exact g2, by rw [List.getElem?_set_self (by simp; omega)], by rw [hge _ (by omega) (by omega)]; exact g4, fun j hj => ?_, (x1.app' _).set' (fun h => by omega) _⟩
      by_cases e : j = i
      · subst e
        rw [List.getElem?_set_ne (by omega), ← l1]
        simp
      · rw [hge _ (by omega) (by omega)]
        exact g5 j (by omega)
    · obtain rfl : n = i := by omega
      simp (disch := (first | assumption | omega | (simp only [List.length_append, List.length_cons, List.length_nil]; omega))) only [↓wD,wU,Nat.reduceBEq,zx150,zx151,zx159,zx160,zx161,zx162,Nat.reduceAdd,Nat.reduceSub,Nat.reduceMul,Nat.reduceLeDiff,Nat.reduceLT,Nat.reduceEqDiff,Int.reduceAdd,Int.reduceSub,Int.reduceMul,Int.reduceNeg,Int.reduceLT,Int.reduceLE,Int.reduceEq,Int.reduceToNat,Int.cast_ofNat_Int,↓reduceIte, a2, a3, a4, a13, a14, ld_of g1]
      refine (clone_ret ((hc.low.weak (q := fun b => b < H.length ∧ ¬ K b) fun b h => ⟨h.2, h.1⟩).kp (x1.weak fun b _ h => h.1).kp) (by omega)).toFX fun lv H2 x2 hlv => ?_
      have hne : cols ≠ [] := fun e => by rw [e] at em; simp at em; omega
      obtain ⟨lb, elb, hor⟩ := OR.of hlv hne
      have hlb := hlv.blkp elb
      have l2 := x2.1
      have rI := ((hr.low.weak (q := fun b => b < H.length ∧ ¬ K b) fun b h => ⟨h.2, h.1⟩).kp (x1.weak fun b _ h => h.1).kp).kp (x2.all _).kp
      clear ih
      obtain ⟨H3, eH3⟩ : ∃ H3, H2 ++ [Blk.cells [lv]] ++ [Blk.cells [AV.fn 100 [] [.p H.length 0, .p H2.length 0, .p (H.length + 1) 0, .p (H.length + 3) 0, .p (H2.length + 1) 0]]] = H3 := ⟨_, rfl⟩
      have x23 : Kx (fun _ => True) H2 H3 := by rw [← eH3]; exact (Kx.app _ _ _).app' _
      have x13 : Kx (fun _ => True) H1 H3 := x2.trans x23 fun _ _ _ => trivial
      have n3 : H3.length = H2.length + 2 := by rw [← eH3]; simp
      have f1 := x13.get trivial g1
      have f2 := x13.get trivial g2
      have f3 := x13.get trivial g3
      have f4 := x13.get trivial g4
      have f5 : H3[H2.length]? = some (.cells [lv]) := by rw [← eH3]; simp [List.getElem?_append]
      have f6 : H3[H2.length + 1]? = some (.cells [AV.fn 100 [] [.p H.length 0, .p H2.length 0, .p (H.length + 1) 0, .p (H.length + 3) 0, .p (H2.length + 1) 0]]) := by rw [← eH3]; simp [List.getElem?_append]
      rw [laidC_n] at f3
      have rI3 := (rI.kp (x23.all _).kp).I
      rw [en] at rI3
      simp (disch := (first | assumption | omega | (simp only [List.length_append, List.length_cons, List.length_nil]; omega))) only [↓wD,wU,Nat.reduceBEq,zx150,zx151,zx159,zx160,zx161,zx162,Nat.reduceAdd,Nat.reduceSub,Nat.reduceMul,Nat.reduceLeDiff,Nat.reduceLT,Nat.reduceEqDiff,Int.reduceAdd,Int.reduceSub,Int.reduceMul,Int.reduceNeg,Int.reduceLT,Int.reduceLE,Int.reduceEq,Int.reduceToNat,Int.cast_ofNat_Int,↓reduceIte, a2, a3, a4, hlv.cellsV, eH3, ld_of f1, ld_of f6, rI3]
      have hnw : ∀ b, b < H.length + 4 ∨ H1.length + 0 < b ∧ H2.length ≤ b → ¬ Wb n (H.length + 4) lb b := by
        rintro b h (e | e) <;> omega
      have hkH : ∀ b, H.length ≤ b → ¬ K b := fun b h q => by have := hK b q; omega
      have hlow : ∀ {v : AV} {xs : List Int}, Sl (fun b => ¬ K b) H v xs → Sl (fun b => ¬ K b ∧ ¬ Wb n (H.length + 4) lb b) H3 v xs := fun {v xs} h =>
        ((h.low.weak (q := fun b => b < H.length ∧ ¬ K b) fun b h => ⟨h.2, h.1⟩).kp ((x1.trans x13 fun _ _ _ => trivial).weak fun b _ h => h.1).kp).weak fun b h => ⟨h.2, hnw b (.inl (by omega))⟩
      have fx : Fx K H3 y rv cv lv rows cols n m H.length H2.length (H.length + 1) (H.length + 3) (H2.length + 1) (H.length + 2) (H.length + 4) lb :=
        ⟨⟨f1, hkH _ (by omega), hnw _ (by omega)⟩, ⟨f5, hkH _ (by omega), hnw _ (by omega)⟩, ⟨f2, hkH _ (by omega), hnw _ (by omega)⟩, ⟨f4, hkH _ (by omega), hnw _ (by omega)⟩, ⟨f3, hkH _ (by omega), hnw _ (by omega)⟩, ⟨f6, hkH _ (by omega), hnw _ (by omega)⟩, hlow hr, hlow hc⟩
      have hgr : ∀ a : Nat, a < n → gi (List.replicate n (List.replicate m (0 : Int))) (a : Int) = List.replicate m 0 := fun a ha => by rw [gi_nat (by simpa using ha)]; simp
      have wk : Wk H.length K H3 lv n m (H.length + 4) lb (List.replicate n (List.replicate m (0 : Int))) cols :=
        ⟨by simp, fun j hj => by rw [hgr j hj]; exact ⟨by rw [x13.get trivial (g5 j hj), reps_z]; simp, by simp, hkH _ (by omega)⟩, Rep.mono hor (x23.all _).kp fun b h => hkH b (by omega), em, by omega⟩
      have go := grow_all (y := y) hlo hn hm hm1 en em hrows rows [] cols _ K H3 Q (by simpa using en) (by simp) hcols fx wk ⟨fun a ha => by simp at ha, by simp⟩ (fun b q => by have := hK b q; omega) (by omega) (by
        have : (tabsL rows cols).map ([] ++ ·) = tabsL rows cols := by simp
        rw [this]
        exact hI.keep ((x1.trans x13 fun _ _ _ => trivial).weak fun b hb h => hb))
      change WpF E lo _ [.i 0, .i 0, .i (gi rows 0), _, _, _, _, _] H3 _ at go
      refine callvI (WpV.fn (us := []) (vs := [_, _, _]) (go.mono ?_))
      rintro u' H4 ⟨ok, K4, rfl, hq, _⟩
      simp (disch := (first | assumption | omega | (simp only [List.length_append, List.length_cons, List.length_nil]; omega))) only [↓wD,wU,Nat.reduceBEq,zx150,zx151,zx159,zx160,zx161,zx162,Nat.reduceAdd,Nat.reduceSub,Nat.reduceMul,Nat.reduceLeDiff,Nat.reduceLT,Nat.reduceEqDiff,Int.reduceAdd,Int.reduceSub,Int.reduceMul,Int.reduceNeg,Int.reduceLT,Int.reduceLE,Int.reduceEq,Int.reduceToNat,Int.cast_ofNat_Int,↓reduceIte]
      exact ⟨ok, K4, hq H4 (Kx.refl _ _)⟩
  · simp (disch := (first | assumption | omega | (simp only [List.length_append, List.length_cons, List.length_nil]; omega))) only [↓wD,wU,Nat.reduceBEq,zx150,zx151,zx159,zx160,zx161,zx162,Nat.reduceAdd,Nat.reduceSub,Nat.reduceMul,Nat.reduceLeDiff,Nat.reduceLT,Nat.reduceEqDiff,Int.reduceAdd,Int.reduceSub,Int.reduceMul,Int.reduceNeg,Int.reduceLT,Int.reduceLE,Int.reduceEq,Int.reduceToNat,Int.cast_ofNat_Int,↓reduceIte]
    refine ⟨by rw [laidC_0], fun j hj => by omega, (((Kx.app _ _ _).app' _).app' _).app' _⟩
end Go.Proofs.Ytflekaacffdakaa
namespace Go.Proofs.Ytflekaacffdakaa
open Go Go.AM Go.Proofs
def MgOk (xs : List Int) : Prop := 1 ≤ xs.length ∧ xs.length ≤ 3 ∧ OkN xs ∧ xs.sum ≤ 16
instance (xs : List Int) : Decidable (MgOk xs) := by unfold MgOk OkN; infer_instance
theorem flatMap_len {α β : Type} {b : Nat} {f : α → List β} : ∀ {l : List α}, (∀ x ∈ l, (f x).length ≤ b) → (l.flatMap f).length ≤ l.length * b
  | [], _ => by simp
  | x :: l, h => by
    rw [List.flatMap_cons, List.length_append, List.length_cons, Nat.add_mul, Nat.one_mul]
    have h1 := h x (by simp)
    have h2 := flatMap_len (l := l) fun y hy => h y (by simp [hy])
    omega
theorem lines_len : ∀ {cs : List Int} {need : Int}, need ≤ 16 → (lines cs need).length ≤ 17 ^ cs.length
  | [], need, _ => by
    unfold lines
    split <;> simp
  | c :: cs, need, h => by
    unfold lines
    refine Nat.le_trans (flatMap_len (b := 17 ^ cs.length) fun x hx => ?_) ?_
    · rw [List.length_map]
      exact lines_len (by omega)
    · rw [List.length_range, List.length_cons, Nat.pow_succ, Nat.mul_comm]
      exact Nat.mul_le_mul_left _ (by omega)
theorem tabsL_len : ∀ {rs L : List Int}, (∀ r ∈ rs, r ≤ 16) → L.length ≤ 3 → (tabsL rs L).length ≤ 4913 ^ rs.length
  | [], L, _, _ => by
    unfold tabsL
    split <;> simp
  | r :: rs, L, h, hl => by
    unfold tabsL
    refine Nat.le_trans (flatMap_len (b := 4913 ^ rs.length) fun x hx => ?_) ?_
    · rw [List.length_map]
      exact tabsL_len (fun r hr => h r (by simp [hr])) (by unfold subL; rw [List.length_zipWith]; omega)
    · rw [List.length_cons, Nat.pow_succ, Nat.mul_comm]
      refine Nat.mul_le_mul_left _ (Nat.le_trans (lines_len (h r (by simp))) ?_)
      have : 17 ^ L.length ≤ 17 ^ 3 := Nat.pow_le_pow_right (by omega) hl
      omega
theorem MgOk.el {xs : List Int} (h : MgOk xs) : ∀ x ∈ xs, 0 ≤ x ∧ x ≤ 16 := h.2.2.1
theorem MgOk.len {xs ys : List Int} (h : MgOk xs) (h' : MgOk ys) : (tabsL xs ys).length ≤ 118587876497 := by
  refine Nat.le_trans (tabsL_len (fun r hr => (h.el r hr).2) h'.2.1) ?_
  have : 4913 ^ xs.length ≤ 4913 ^ 3 := Nat.pow_le_pow_right (by omega) h.2.1
  omega
theorem gset {b : Nat} {H H2 : Heap} {k k' : Blk} (e : H.set b k = H2) (h : H[b]? = some k') : H2[b]? = some k := by rw [← e]; exact get_set h
theorem argT_len : ∀ (Ki : Nat → Prop) (H1 : Heap) (args : List AV) (x : List (List Int)), ArgT Ki H1 args x → args.length = 1 := by rintro _ _ _ _ ⟨u, rfl, _⟩; rfl
end Go.Proofs.Ytflekaacffdakaa
namespace Go.Proofs.Ytflekaacffdakaa
open Go Go.AM Go.Proofs
theorem cnt_no {β : Type} {f : Nat → List β} {N : Nat} (h : ∀ x, x < N → f x = []) : (List.range N).flatMap f = [] := by
  rw [List.flatMap_eq_nil_iff]
  intro x hx
  exact h x (List.mem_range.1 hx)
theorem lines1 {r d : Nat} : lines [(d : Int)] (r : Int) = if r ≤ d then [[(r : Int)]] else [] := by
  unfold lines
  unfold lines
  by_cases h : r ≤ d
  · rw [if_pos h, show (min (r : Int) d + 1).toNat = r + 1 by omega, List.range_succ, List.flatMap_append, cnt_no fun x hx => by rw [if_pos (by omega)]; rfl]
    simp
  · rw [if_neg h]
    exact cnt_no fun x hx => by rw [if_pos (by omega)]; rfl
end Go.Proofs.Ytflekaacffdakaa
namespace Go.Proofs.Ytflekaacffdakaa
open Go Go.AM Go.Proofs
theorem fracN_scale {k m n : Nat} (hk : 0 < k) : fracN (k * m) (k * n) = fracN m n := by
  unfold fracN
  rw [Nat.gcd_mul_left, Nat.mul_div_mul_left _ _ hk, Nat.mul_div_mul_left _ _ hk]
theorem fracN_parts {m n : Nat} (hn : 0 < n) : ∃ p q g : Nat, fracN m n = ((p : Int), (q : Int)) ∧ 0 < g ∧ m = g * p ∧ n = g * q ∧ 0 < q := by
  refine ⟨m / Nat.gcd m n, n / Nat.gcd m n, Nat.gcd m n, rfl, Nat.gcd_pos_of_pos_right _ hn, (Nat.mul_div_cancel' (Nat.gcd_dvd_left m n)).symm, (Nat.mul_div_cancel' (Nat.gcd_dvd_right m n)).symm, ?_⟩
  exact Nat.div_pos (Nat.le_of_dvd hn (Nat.gcd_dvd_right m n)) (Nat.gcd_pos_of_pos_right _ hn)
theorem plus_ret {H : Heap} {a b c d : Nat} (ha : a ≤ 200000000000000) (hb : b ≤ 300000000) (hc : c ≤ 65536) (hd : d ≤ 4096) (hb0 : 0 < b) (hd0 : 0 < d) :
    RetP E 76 [.ag [.i (fracN a b).1, .i (fracN a b).2], .ag [.i (fracN c d).1, .i (fracN c d).2]] H (.ag [.i (fracN (a * d + c * b) (b * d)).1, .i (fracN (a * d + c * b) (b * d)).2]) := by
  obtain ⟨p, q, g1, e1, hg1, rfl, rfl, hq⟩ := fracN_parts (m := a) hb0
  obtain ⟨r, s, g2, e2, hg2, rfl, rfl, hs⟩ := fracN_parts (m := c) hd0
  have lp : p ≤ 200000000000000 := Nat.le_trans (Nat.le_mul_of_pos_left _ hg1) ha
  have lq : q ≤ 300000000 := Nat.le_trans (Nat.le_mul_of_pos_left _ hg1) hb
  have lr : r ≤ 65536 := Nat.le_trans (Nat.le_mul_of_pos_left _ hg2) hc
  have ls : s ≤ 4096 := Nat.le_trans (Nat.le_mul_of_pos_left _ hg2) hd
  have hg : 0 < Nat.gcd q s := Nat.gcd_pos_of_pos_left _ hq
  obtain ⟨q', hq'⟩ : ∃ q', q = Nat.gcd q s * q' := Nat.gcd_dvd_left q s
  obtain ⟨s', hs'⟩ : ∃ s', s = Nat.gcd q s * s' := Nat.gcd_dvd_right q s
  have eq1 : q / Nat.gcd q s = q' := by
    conv => lhs; rw [show q / Nat.gcd q s = (Nat.gcd q s * q') / Nat.gcd q s by rw [← hq']]
    exact Nat.mul_div_cancel_left _ hg
  have es1 : s / Nat.gcd q s = s' := by
    conv => lhs; rw [show s / Nat.gcd q s = (Nat.gcd q s * s') / Nat.gcd q s by rw [← hs']]
    exact Nat.mul_div_cancel_left _ hg
  have fin : fracN (g1 * p * (g2 * s) + g2 * r * (g1 * q)) (g1 * q * (g2 * s)) = fracN (p * s' + r * q') (q' * s) := by
    have hk : 0 < g1 * g2 * Nat.gcd q s := Nat.mul_pos (Nat.mul_pos hg1 hg2) hg
    rw [← fracN_scale (m := p * s' + r * q') (n := q' * s) hk]
    generalize Nat.gcd q s = g at *
    congr 1
    · conv => lhs; rw [hq', hs']
      grind
    · conv => lhs; rw [hq']
      grind
  rw [fin, e1, e2]
  have ls' : s' ≤ 4096 := by rw [← es1]; exact Nat.le_trans (Nat.div_le_self _ _) ls
  have lq' : q' ≤ 300000000 := by rw [← eq1]; exact Nat.le_trans (Nat.div_le_self _ _) lq
  have hq0 : 0 < q' := by rw [← eq1]; exact Nat.div_pos (Nat.le_of_dvd hq (Nat.gcd_dvd_left q s)) hg
  have b1 : p * s' ≤ 200000000000000 * 4096 := Nat.mul_le_mul lp ls'
  have b2 : r * q' ≤ 65536 * 300000000 := Nat.mul_le_mul lr lq'
  have b3 : q' * s ≤ 300000000 * 4096 := Nat.mul_le_mul lq' ls
  have b4 : 0 < q' * s := Nat.mul_pos hq0 hs
  have i1 : (p : Int) * s' = ((p * s' : Nat) : Int) := by simp
  have i2 : (r : Int) * q' = ((r * q' : Nat) : Int) := by simp
  have i3 : (q' : Int) * s = ((q' * s : Nat) : Int) := by simp
  have t1 : (s : Int).tdiv (Nat.gcd q s : Nat) = s' := by rw [tdivN, es1]
  have t2 : (q : Int).tdiv (Nat.gcd q s : Nat) = q' := by rw [tdivN, eq1]
  have i4 : ((p * s' : Nat) : Int) + ((r * q' : Nat) : Int) = ((p * s' + r * q' : Nat) : Int) := by simp
  have hgl : Nat.gcd q s ≤ 4096 := Nat.le_trans (Nat.gcd_le_right _ hs) ls
  have gr : ∀ H : Heap, RetP E 99 [.i q, .i s] H (.i (Nat.gcd q s : Nat)) := fun H => gcd_ret q s (by omega) (by omega)
  have fr : ∀ H : Heap, RetP E 73 [.i ((p * s' + r * q' : Nat) : Int), .i ((q' * s : Nat) : Int)] H (.ag [.i (fracN (p * s' + r * q') (q' * s)).1, .i (fracN (p * s' + r * q') (q' * s)).2]) := fun H => frac_ret _ _ (by omega) (by omega) b4
  refine RetP.ro rfl fn76 rfl rfl ?_
  unfold f76A
  have hg' : ((Nat.gcd q s : Nat) : Int) ≠ 0 := by omega
  obtain ⟨x1, ex1⟩ : ∃ x, p * s' = x := ⟨_, rfl⟩
  obtain ⟨x2, ex2⟩ : ∃ x, r * q' = x := ⟨_, rfl⟩
  obtain ⟨x3, ex3⟩ : ∃ x, q' * s = x := ⟨_, rfl⟩
  obtain ⟨gg, egg⟩ : ∃ x, Nat.gcd q s = x := ⟨_, rfl⟩
  rw [ex1, ex2, ex3] at fr
  rw [ex1] at i1 b1 i4
  rw [ex2] at i2 b2 i4
  rw [ex3] at i3 b3 b4
  rw [egg] at t1 t2 gr hg' hgl
  rw [ex1, ex2, ex3]
  have hg2' : ¬ (gg : Int) = 0 := hg'
  have fr' := fun H => fr H
  simp only [Int.natCast_add] at fr'
  clear fin eq1 es1 ex1 ex2 ex3 egg hq' hs' e1 e2 hg' hg
  clear i4 fr
  simp (disch := (first | assumption | omega | (simp only [List.length_append, List.length_cons, List.length_nil]; omega))) only [↓wD,wU,Nat.reduceBEq,zx150,zx151,zx159,zx160,zx161,zx162,Nat.reduceAdd,Nat.reduceSub,Nat.reduceMul,Nat.reduceLeDiff,Nat.reduceLT,Nat.reduceEqDiff,Int.reduceAdd,Int.reduceSub,Int.reduceMul,Int.reduceNeg,Int.reduceLT,Int.reduceLE,Int.reduceEq,Int.reduceToNat,Int.cast_ofNat_Int,↓reduceIte, (gr _).call, t1, t2, i1, i2, i3, (fr' _).call]
end Go.Proofs.Ytflekaacffdakaa
namespace Go.Proofs.Ytflekaacffdakaa
open Go Go.AM Go.Proofs
theorem lines_mem : ∀ {cs : List Int} {need : Int} {l : List Int}, l ∈ lines cs need → l.length = cs.length
  | [], need, l, h => by
    unfold lines at h
    split at h <;> simp at h
    subst h; rfl
  | c :: cs, need, l, h => by
    unfold lines at h
    rw [List.mem_flatMap] at h
    obtain ⟨x, _, h⟩ := h
    obtain ⟨l', h1, rfl⟩ := List.mem_map.1 h
    rw [List.length_cons, lines_mem h1, List.length_cons]
end Go.Proofs.Ytflekaacffdakaa
namespace Go.AM
open Go
def OAcc (p : Nat → Prop) (H : Heap) (u : AV) (xs : List (List Int)) : Prop :=
  (u = .nils ∧ xs = []) ∨ ∃ b o c k, u = .s 1 b o xs.length c ∧ p b ∧ H[b]? = some (.cells k) ∧ o + xs.length ≤ k.length ∧ xs.length ≤ 9223372036854775807 ∧ ∀ (i : Nat) (h : i < xs.length), Rep.rep (fun b' => p b' ∧ b' ≠ b) H ((k.drop (o + i)).take 1) xs[i]
theorem OAcc.of {L : Nat} {p q : Nat → Prop} {H : Heap} {u : AV} {xs : List (List Int)} (h : Acc L p H u xs) (hL : ∀ b, L ≤ b → q b) (hp : ∀ b, p b → q b) : OAcc q H u xs := by
  rcases h with h | ⟨b, o, c, k, rfl, hb, hk1, h1, h2, h3⟩
  · exact .inl h
  · refine .inr ⟨b, o, c, k, rfl, hL b hb, hk1, by change o + xs.length * 1 ≤ _ at h1; omega, h2, fun i hi => ?_⟩
    have := h3 i hi
    change Rep.rep _ H ((k.drop (o + i * 1)).take 1) _ at this
    rw [Nat.mul_one] at this
    exact Rep.mono this (Kp.refl _ _) fun b h => ⟨hp b h.1, h.2⟩
end Go.AM
namespace Go.Proofs.Ytflekaacffdakaa
open Go Go.AM Go.Proofs
theorem lines_len2 : ∀ {cs : List Int} {need : Int}, 0 ≤ need → need ≤ 16 → (∀ x ∈ cs, 0 ≤ x ∧ x ≤ 16) → (lines cs need).length ≤ 17 ^ (cs.length - 1)
  | [], need, _, _, _ => by
    unfold lines
    split <;> simp
  | [c], need, h0, h, hc => by
    have := hc c (by simp)
    obtain ⟨c, rfl⟩ := nat_of this.1
    obtain ⟨need, rfl⟩ := nat_of h0
    rw [lines1]
    split <;> simp
  | c :: d :: cs, need, h0, h, hc => by
    have hcc := hc c (by simp)
    rw [lines]
    refine Nat.le_trans (flatMap_len (b := 17 ^ cs.length) fun x hx => ?_) ?_
    · have := List.mem_range.1 hx
      rw [List.length_map]
      exact lines_len2 (cs := d :: cs) (by omega) (by omega) fun y hy => hc y (by simp only [List.mem_cons] at hy ⊢; exact .inr hy)
    · rw [List.length_range]
      simp only [List.length_cons, Nat.add_sub_cancel]
      rw [Nat.pow_succ, Nat.mul_comm]
      exact Nat.mul_le_mul_left _ (by omega)
theorem lines_el : ∀ {cs : List Int} {need : Int} {l : List Int}, 0 ≤ need → need ≤ 16 → (∀ x ∈ cs, 0 ≤ x ∧ x ≤ 16) → l ∈ lines cs need → (∀ x ∈ l, 0 ≤ x ∧ x ≤ 16) ∧ ∀ x ∈ subL cs l, 0 ≤ x ∧ x ≤ 16
  | [], need, l, _, _, _, h => by
    unfold lines at h
    split at h <;> simp at h
    subst h; simp [subL]
  | c :: cs, need, l, h0, h16, hc, h => by
    unfold lines at h
    rw [List.mem_flatMap] at h
    obtain ⟨x, hx, h⟩ := h
    have := List.mem_range.1 hx
    have hcc := hc c (by simp)
    obtain ⟨l', h1, rfl⟩ := List.mem_map.1 h
    obtain ⟨i1, i2⟩ := lines_el (by omega) (by omega) (fun y hy => hc y (by simp [hy])) h1
    refine ⟨fun y hy => ?_, fun y hy => ?_⟩
    · rcases List.mem_cons.1 hy with rfl | hy
      · omega
      · exact i1 y hy
    · have e : subL (c :: cs) ((x : Int) :: l') = (c - x) :: subL cs l' := rfl
      rw [e] at hy
      rcases List.mem_cons.1 hy with rfl | hy
      · omega
      · exact i2 y hy
theorem subL_len {cs l : List Int} (h : l.length = cs.length) : (subL cs l).length = cs.length := by unfold subL; rw [List.length_zipWith]; omega
theorem subL_gi {cs l : List Int} (h : l.length = cs.length) {j : Nat} (hj : j < cs.length) : gi (subL cs l) (j : Int) = gi cs (j : Int) - gi l (j : Int) := by
  rw [gi_nat (by rw [subL_len h]; exact hj), gi_nat hj, gi_nat (by omega)]
  simp [subL]
theorem tabsL_len2 : ∀ {rs L : List Int}, (∀ r ∈ rs, 0 ≤ r ∧ r ≤ 16) → (∀ x ∈ L, 0 ≤ x ∧ x ≤ 16) → L.length ≤ 3 → (tabsL rs L).length ≤ 289 ^ rs.length
  | [], L, _, _, _ => by
    unfold tabsL
    split <;> simp
  | r :: rs, L, h, h', hl => by
    have hr := h r (by simp)
    unfold tabsL
    refine Nat.le_trans (flatMap_len (b := 289 ^ rs.length) fun x hx => ?_) ?_
    · rw [List.length_map]
      exact tabsL_len2 (fun r hr => h r (by simp [hr])) (lines_el hr.1 hr.2 h' hx).2 (by rw [subL_len (lines_mem hx)]; exact hl)
    · rw [List.length_cons, Nat.pow_succ, Nat.mul_comm]
      refine Nat.mul_le_mul_left _ (Nat.le_trans (lines_len2 hr.1 hr.2 h') ?_)
      have : 17 ^ (L.length - 1) ≤ 17 ^ 2 := Nat.pow_le_pow_right (by omega) (by omega)
      omega
end Go.Proofs.Ytflekaacffdakaa
namespace Go.Proofs.Ytflekaacffdakaa
open Go Go.AM Go.Proofs
theorem tabsL_mem : ∀ {rs L : List Int} {t : List (List Int)}, t ∈ tabsL rs L → t.length = rs.length
  | [], L, t, h => by
    unfold tabsL at h
    split at h <;> simp at h
    subst h; rfl
  | r :: rs, L, t, h => by
    unfold tabsL at h
    rw [List.mem_flatMap] at h
    obtain ⟨l, _, h⟩ := h
    obtain ⟨t', h1, rfl⟩ := List.mem_map.1 h
    rw [List.length_cons, tabsL_mem h1, List.length_cons]
end Go.Proofs.Ytflekaacffdakaa
namespace Go.Proofs.Ytflekaacffdakaa
open Go Go.AM Go.Proofs
def cmpI (x y : Int) : Int := if x < y then -1 else if y < x then 1 else 0
/-- how two slices compare -/
def cmpL : List Int → List Int → Int
  | [], [] => 0
  | [], _ :: _ => -1
  | _ :: _, [] => 1
  | x :: xs, y :: ys => if cmpI x y ≠ 0 then cmpI x y else cmpL xs ys
theorem cmpL_refl : ∀ xs : List Int, cmpL xs xs = 0
  | [] => rfl
  | x :: xs => by simp [cmpL, cmpI, cmpL_refl xs]
theorem gi_consS {α : Type} [Inhabited α] {x : α} {xs : List α} {i : Nat} : gi (x :: xs) ((i + 1 : Nat) : Int) = gi xs (i : Int) := by simp [gi]
end Go.Proofs.Ytflekaacffdakaa
namespace Go.Proofs.Ytflekaacffdakaa
open Go Go.AM Go.Proofs
def prodN : List Int → Nat
  | [] => 1
  | x :: l => x.toNat * prodN l
theorem prodN_dvd {x : Int} : ∀ {l : List Int}, x ∈ l → x.toNat ∣ prodN l
  | y :: l, h => by
    rcases List.mem_cons.1 h with rfl | h
    · exact Nat.dvd_mul_right _ _
    · exact Nat.dvd_trans (prodN_dvd h) (Nat.dvd_mul_left _ _)
theorem prodN_le {m : Nat} (hm : 1 ≤ m) : ∀ {l : List Int}, (∀ x ∈ l, x ≤ m) → prodN l ≤ m ^ l.length
  | [], _ => by simp [prodN]
  | x :: l, h => by
    rw [prodN, List.length_cons, Nat.pow_succ, Nat.mul_comm]
    exact Nat.mul_le_mul (prodN_le hm fun y hy => h y (by simp [hy])) (by have := h x (by simp); omega)
theorem prodN_pos : ∀ {l : List Int}, (∀ x ∈ l, 0 < x) → 0 < prodN l
  | [], _ => by simp [prodN]
  | x :: l, h => Nat.mul_pos (by have := h x (by simp); omega) (prodN_pos fun y hy => h y (by simp [hy]))
section
variable (t : List (List Int))
def nN : Nat := (rowSums t).sum.toNat
def rN (i : Nat) : Nat := (gi (rowSums t) (i : Int)).toNat
def cN (j : Nat) : Nat := (gi (colSums t) (j : Int)).toNat
def allN : Nat := nN t * prodN (rowSums t) * prodN (colSums t)
def eN (i j : Nat) : Nat := rN t i * cN t j * nN t
def qN (i j : Nat) : Nat := allN t / eN t i j
def dd (i j : Nat) : Int := gi (gi t (i : Int)) (j : Int) * nN t - (rN t i * cN t j : Nat)
def sqN (i j : Nat) : Nat := (dd t i j * dd t i j).toNat
def rowOff (i j : Nat) : Nat := ((List.range j).map fun j => qN t i j * sqN t i j).sum
def offP (i : Nat) : Nat := ((List.range i).map fun i => rowOff t i (gi t 0).length).sum
end
theorem rowOff_succ {t : List (List Int)} {i j : Nat} : rowOff t i (j + 1) = rowOff t i j + qN t i j * sqN t i j := by
  unfold rowOff; rw [List.range_succ, List.map_append, List.sum_append]; simp
theorem offP_succ {t : List (List Int)} {i : Nat} : offP t (i + 1) = offP t i + rowOff t i (gi t 0).length := by
  unfold offP; rw [List.range_succ, List.map_append, List.sum_append]; simp
/-- all sums above 0 -/
def Full (t : List (List Int)) : Prop := TabOk t ∧ ¬ (0 : Int) ∈ rowSums t ∧ ¬ (0 : Int) ∈ colSums t
theorem rowSums_len {t : List (List Int)} : (rowSums t).length = t.length := by simp [rowSums]
theorem colSums_len {t : List (List Int)} : (colSums t).length = (gi t 0).length := by simp [colSums]
theorem rowSums_at {t : List (List Int)} {i : Nat} (h : i < t.length) : gi (rowSums t) (i : Int) = (gi t (i : Int)).sum := by
  rw [gi_nat (by rw [rowSums_len]; exact h), gi_nat h]; simp [rowSums]
theorem colSums_at {t : List (List Int)} {j : Nat} (h : j < (gi t 0).length) : gi (colSums t) (j : Int) = colPart t t.length j := gi_map_range h
theorem total_le {t : List (List Int)} (h : TabOk t) : (rowSums t).sum ≤ 16 := h.2.2.2
theorem rowSums_ge {t : List (List Int)} (h : TabOk t) : ∀ x ∈ rowSums t, 0 ≤ x := by
  intro x hx
  obtain ⟨r, hr, rfl⟩ := List.mem_map.1 hx
  exact sum_nonneg fun y hy => ((h.2.2.1 r hr).2.2.2 y hy).1
theorem rowSums_le {t : List (List Int)} (h : TabOk t) : ∀ x ∈ rowSums t, 0 ≤ x ∧ x ≤ 16 := fun x hx =>
  ⟨rowSums_ge h x hx, Int.le_trans (le_sum (rowSums_ge h) hx) (total_le h)⟩
/-- the sums of the columns sum to the same -/
theorem colPart_le {t : List (List Int)} (h : TabOk t) {j : Nat} (hj : j < (gi t 0).length) : ∀ i, i ≤ t.length → colPart t i j ≤ ((rowSums t).take i).sum
  | 0, _ => by simp [colPart]
  | i + 1, hi => by
    have h1 := colPart_le h hj i (by omega)
    have h2 : i < (rowSums t).length := by rw [rowSums_len]; omega
    rw [colPart_succ (by omega), sum_take h2, rowSums_at (by omega)]
    have hw := h.width (show i < t.length by omega)
    have : gi (gi t (i : Int)) (j : Int) ≤ (gi t (i : Int)).sum := le_sum (fun y hy => ((h.2.2.1 _ (mem_gi (show i < t.length by omega))).2.2.2 y hy).1) (mem_gi (by omega))
    omega
theorem colSums_le {t : List (List Int)} (h : TabOk t) : ∀ x ∈ colSums t, 0 ≤ x ∧ x ≤ 16 := fun x hx => by
  unfold colSums at hx
  obtain ⟨j, hj, rfl⟩ := List.mem_map.1 hx
  have hj' := List.mem_range.1 hj
  have h1 := (h.colPart (i := t.length) hj').1
  have h2 := colPart_le h hj' t.length (Nat.le_refl _)
  rw [List.take_of_length_le (by rw [rowSums_len]; exact Nat.le_refl _)] at h2
  have := total_le h
  exact ⟨h1, by omega⟩
/-- the numbers, and how great they are -/
theorem Full.nums {t : List (List Int)} (h : Full t) {i j : Nat} (hi : i < t.length) (hj : j < (gi t 0).length) :
    gi (rowSums t) (i : Int) = rN t i ∧ gi (colSums t) (j : Int) = cN t j ∧ 1 ≤ rN t i ∧ rN t i ≤ 16 ∧ 1 ≤ cN t j ∧ cN t j ≤ 16 ∧ 1 ≤ nN t ∧ nN t ≤ 16 ∧ (rowSums t).sum = nN t := by
  have r1 := mem_gi (xs := rowSums t) (i := i) (by rw [rowSums_len]; exact hi)
  have c1 := mem_gi (xs := colSums t) (i := j) (by rw [colSums_len]; exact hj)
  have r2 := rowSums_le h.1 _ r1
  have c2 := colSums_le h.1 _ c1
  have r3 : gi (rowSums t) (i : Int) ≠ 0 := fun e => h.2.1 (e ▸ r1)
  have c3 : gi (colSums t) (j : Int) ≠ 0 := fun e => h.2.2 (e ▸ c1)
  have n1 := le_sum (rowSums_ge h.1) r1
  have n2 := total_le h.1
  unfold rN cN nN
  omega
theorem Full.all {t : List (List Int)} (h : Full t) : 1 ≤ allN t ∧ allN t ≤ 268435456 := by
  have hl := h.1.1
  have hc := h.1.cols
  have hn := h.nums (i := 0) (j := 0) (by omega) (by omega)
  have pr : ∀ x ∈ rowSums t, 0 < x := fun x hx => by
    have := rowSums_le h.1 x hx
    have : x ≠ 0 := fun e => h.2.1 (e ▸ hx)
    omega
  have pc : ∀ x ∈ colSums t, 0 < x := fun x hx => by
    have := colSums_le h.1 x hx
    have : x ≠ 0 := fun e => h.2.2 (e ▸ hx)
    omega
  have a1 : prodN (rowSums t) ≤ 16 ^ 3 := Nat.le_trans (prodN_le (m := 16) (by omega) fun x hx => (rowSums_le h.1 x hx).2) (Nat.pow_le_pow_right (by omega) (by rw [rowSums_len]; exact h.1.2.1))
  have a2 : prodN (colSums t) ≤ 16 ^ 3 := Nat.le_trans (prodN_le (m := 16) (by omega) fun x hx => (colSums_le h.1 x hx).2) (Nat.pow_le_pow_right (by omega) (by rw [colSums_len]; exact hc.2))
  have b1 := prodN_pos pr
  have b2 := prodN_pos pc
  unfold allN
  refine ⟨Nat.mul_pos (Nat.mul_pos (by omega) b1) b2, ?_⟩
  have := Nat.mul_le_mul (Nat.mul_le_mul hn.2.2.2.2.2.2.2.1 a1) a2
  omega
theorem Full.dvd {t : List (List Int)} (h : Full t) {i j : Nat} (hi : i < t.length) (hj : j < (gi t 0).length) : allN t = eN t i j * qN t i j ∧ 1 ≤ eN t i j ∧ eN t i j ≤ 4096 := by
  have hn := h.nums hi hj
  have r1 : rN t i ∣ prodN (rowSums t) := prodN_dvd (mem_gi (by rw [rowSums_len]; exact hi))
  have c1 : cN t j ∣ prodN (colSums t) := prodN_dvd (mem_gi (by rw [colSums_len]; exact hj))
  have d : eN t i j ∣ allN t := by
    unfold eN allN
    rw [Nat.mul_comm (rN t i * cN t j), Nat.mul_assoc (nN t)]
    exact Nat.mul_dvd_mul_left _ (Nat.mul_dvd_mul r1 c1)
  refine ⟨(Nat.mul_div_cancel' d).symm, Nat.mul_pos (Nat.mul_pos (by omega) (by omega)) (by omega), ?_⟩
  unfold eN
  exact Nat.mul_le_mul (Nat.mul_le_mul hn.2.2.2.1 hn.2.2.2.2.2.1) hn.2.2.2.2.2.2.2.1
theorem sq_nonneg (x : Int) : 0 ≤ x * x := by
  rcases Int.le_total 0 x with h | h
  · exact Int.mul_nonneg h h
  · exact Int.mul_nonneg_of_nonpos_of_nonpos h h
theorem Full.dd {t : List (List Int)} (h : Full t) {i j : Nat} (hi : i < t.length) (hj : j < (gi t 0).length) : -256 ≤ dd t i j ∧ dd t i j ≤ 256 ∧ 0 ≤ gi (gi t (i : Int)) (j : Int) * nN t ∧ gi (gi t (i : Int)) (j : Int) * nN t ≤ 256 ∧ ((sqN t i j : Nat) : Int) = Go.Proofs.Ytflekaacffdakaa.dd t i j * Go.Proofs.Ytflekaacffdakaa.dd t i j ∧ sqN t i j ≤ 65536 := by
  have hn := h.nums hi hj
  have he := h.1.entry hi hj
  have m1 := mul_small (m := 16) (n := 16) he.1 he.2 (show (0 : Int) ≤ nN t by omega) (by omega) (by omega)
  have m2 : rN t i * cN t j ≤ 16 * 16 := Nat.mul_le_mul hn.2.2.2.1 hn.2.2.2.2.2.1
  have b1 : -256 ≤ Go.Proofs.Ytflekaacffdakaa.dd t i j ∧ Go.Proofs.Ytflekaacffdakaa.dd t i j ≤ 256 := by
    unfold Go.Proofs.Ytflekaacffdakaa.dd; omega
  have b2 := sq_nonneg (Go.Proofs.Ytflekaacffdakaa.dd t i j)
  have b3 : Go.Proofs.Ytflekaacffdakaa.dd t i j * Go.Proofs.Ytflekaacffdakaa.dd t i j ≤ 65536 := by
    rcases Int.le_total 0 (Go.Proofs.Ytflekaacffdakaa.dd t i j) with h | h
    · have := mul_small h b1.2 h b1.2 (by omega); omega
    · have := mul_small (show 0 ≤ - Go.Proofs.Ytflekaacffdakaa.dd t i j by omega) (show - Go.Proofs.Ytflekaacffdakaa.dd t i j ≤ 256 by omega) (show 0 ≤ - Go.Proofs.Ytflekaacffdakaa.dd t i j by omega) (show - Go.Proofs.Ytflekaacffdakaa.dd t i j ≤ 256 by omega) (by omega)
      rw [Int.neg_mul_neg] at this; omega
  unfold sqN
  refine ⟨b1.1, b1.2, m1.1, by omega, by omega, by omega⟩
/-- how great the sum is -/
theorem Full.part {t : List (List Int)} (h : Full t) {i : Nat} (hi : i < t.length) : ∀ {j : Nat}, j ≤ (gi t 0).length → rowOff t i j ≤ j * 17592186044416
  | 0, _ => by simp [rowOff]
  | j + 1, hj => by
    have h1 := h.part hi (j := j) (by omega)
    have h2 := h.dvd hi (j := j) (by omega)
    have h3 := h.dd hi (j := j) (by omega)
    have h4 := h.all
    have h5 : qN t i j ≤ 268435456 := by
      have : qN t i j ≤ allN t := Nat.div_le_self _ _
      omega
    have h6 := Nat.mul_le_mul h5 h3.2.2.2.2.2
    rw [rowOff_succ]; omega
theorem Full.part2 {t : List (List Int)} (h : Full t) : ∀ {i : Nat}, i ≤ t.length → offP t i ≤ i * 52776558133248
  | 0, _ => by simp [offP]
  | i + 1, hi => by
    have h1 := h.part2 (i := i) (by omega)
    have h2 := h.part (i := i) (by omega) (j := (gi t 0).length) (Nat.le_refl _)
    have h3 := h.1.cols
    rw [offP_succ]; omega
theorem off_step {M sq q e D : Nat} (hD : D = e * q) (he : 1 ≤ e) : fracN (M * e + sq * D) (D * e) = fracN (M + q * sq) D := by
  rw [← fracN_scale (m := M + q * sq) (n := D) he]
  congr 1
  · rw [hD]; grind
  · exact Nat.mul_comm _ _
end Go.Proofs.Ytflekaacffdakaa
namespace Go.Proofs.Ytflekaacffdakaa
open Go Go.AM Go.Proofs
theorem min_zero {xs : List Int} (h : 1 ≤ xs.length) (h0 : ∀ x ∈ xs, 0 ≤ x) : minL xs = 0 ↔ (0 : Int) ∈ xs := by
  have hs := minL_spec h
  constructor
  · intro e; rw [← e]; exact hs.1
  · intro e
    have h1 := hs.2 _ e
    have h2 := h0 _ hs.1
    omega
theorem full_min {t : List (List Int)} (h : TabOk t) : Full t ↔ ¬ minL (rowSums t) = 0 ∧ ¬ minL (colSums t) = 0 := by
  have hc := h.cols
  rw [min_zero (by rw [rowSums_len]; exact h.1) fun x hx => (rowSums_le h x hx).1, min_zero (by rw [colSums_len]; exact hc.1) fun x hx => (colSums_le h x hx).1]
  exact ⟨fun hf => hf.2, fun hf => ⟨h, hf⟩⟩
theorem off_state {p : Nat → Prop} {H : Heap} {v : AV} {t : List (List Int)} (ht : Sl p H v t) (h : TabOk t) (hf : ¬ Full t) : RetP E 35 [v] H (.tp [.ag [.i 0, .i 0], .i 5]) := by
  refine RetP.ro rfl fn35 rfl rfl ?_
  unfold f35A
  rw [full_min h] at hf
  have hc := h.cols
  have k0 := ht.app [.cells [.int .i64 0, .int .i64 0]]
  simp (disch := (first | assumption | omega | (simp only [List.length_append, List.length_cons, List.length_nil]; omega))) only [↓wD,wU,Nat.reduceBEq,zx150,zx151,zx159,zx160,zx161,zx162,Nat.reduceAdd,Nat.reduceSub,Nat.reduceMul,Nat.reduceLeDiff,Nat.reduceLT,Nat.reduceEqDiff,Int.reduceAdd,Int.reduceSub,Int.reduceMul,Int.reduceNeg,Int.reduceLT,Int.reduceLE,Int.reduceEq,Int.reduceToNat,Int.cast_ofNat_Int,↓reduceIte, (valid_ret k0).call, decide_eq_true h]
  refine (sums_ret k0 h).toX fun w H1 x1 hw => ?_
  obtain ⟨v1, v2, rfl, h1, h2⟩ := rv2 hw
  have c1 : H1[H.length]? = some (.cells [.i 0, .i 0]) := x1.get trivial (by simp)
  have m1 := min_ret (rvs h1) (by rw [rowSums_len]; exact h.1)
  have m2 := min_ret (rvs h2) (by rw [colSums_len]; exact hc.1)
  have hst : st H.length H1 H.length 0 [.i 0, .i 0] = some (H1.set H.length (.cells [.i 0, .i 0])) := by rw [st_of c1 (Nat.le_refl _) (by simp)]; simp [wr]
  by_cases e1 : minL (rowSums t) = 0
  · rw [e1] at m1
    clear hf e1
    simp (disch := (first | assumption | omega | (simp only [List.length_append, List.length_cons, List.length_nil]; omega))) only [↓wD,wU,Nat.reduceBEq,zx150,zx151,zx159,zx160,zx161,zx162,Nat.reduceAdd,Nat.reduceSub,Nat.reduceMul,Nat.reduceLeDiff,Nat.reduceLT,Nat.reduceEqDiff,Int.reduceAdd,Int.reduceSub,Int.reduceMul,Int.reduceNeg,Int.reduceLT,Int.reduceLE,Int.reduceEq,Int.reduceToNat,Int.cast_ofNat_Int,↓reduceIte, m1.call, hst, ldn_of (get_set c1)]
  · have e2 : minL (colSums t) = 0 := Classical.byContradiction fun e2 => hf ⟨e1, e2⟩
    rw [e2] at m2
    have e1' : decide (minL (rowSums t) = 0) = false := decide_eq_false e1
    clear hf e2 e1
    simp (disch := (first | assumption | omega | (simp only [List.length_append, List.length_cons, List.length_nil]; omega))) only [↓wD,wU,Nat.reduceBEq,zx150,zx151,zx159,zx160,zx161,zx162,Nat.reduceAdd,Nat.reduceSub,Nat.reduceMul,Nat.reduceLeDiff,Nat.reduceLT,Nat.reduceEqDiff,Int.reduceAdd,Int.reduceSub,Int.reduceMul,Int.reduceNeg,Int.reduceLT,Int.reduceLE,Int.reduceEq,Int.reduceToNat,Int.cast_ofNat_Int,↓reduceIte, m1.call, m2.call, e1', hst, ldn_of (get_set c1)]
theorem off_ret {p : Nat → Prop} {H : Heap} {v : AV} {t : List (List Int)} (ht : Sl p H v t) (hF : Full t) : RetP E 35 [v] H (.tp [.ag [.i (fracN (offP t t.length) (allN t)).1, .i (fracN (offP t t.length) (allN t)).2], .i 0]) := by
  refine RetP.ro rfl fn35 rfl rfl ?_
  unfold f35A
  have h := hF.1
  have hm := (full_min h).1 hF
  have hc := h.cols
  have hl1 := h.1
  have hl3 := h.2.1
  have hall := hF.all
  have hlow : Sl (fun b => b < H.length) H v t := ht.low.weak fun _ h => h.2
  have k0 := hlow.app [.cells [.int .i64 0, .int .i64 0]]
  simp (disch := (first | assumption | omega | (simp only [List.length_append, List.length_cons, List.length_nil]; omega))) only [↓wD,wU,Nat.reduceBEq,zx150,zx151,zx159,zx160,zx161,zx162,Nat.reduceAdd,Nat.reduceSub,Nat.reduceMul,Nat.reduceLeDiff,Nat.reduceLT,Nat.reduceEqDiff,Int.reduceAdd,Int.reduceSub,Int.reduceMul,Int.reduceNeg,Int.reduceLT,Int.reduceLE,Int.reduceEq,Int.reduceToNat,Int.cast_ofNat_Int,↓reduceIte, (valid_ret k0).call, decide_eq_true h]
  refine (sums_ret k0 h).toX fun w H1 x1 hw => ?_
  obtain ⟨v1, v2, rfl, h1, h2⟩ := rv2 hw
  have c1 : H1[H.length]? = some (.cells [.i 0, .i 0]) := x1.get trivial (by simp)
  have hl01 := (List.getElem?_eq_some_iff.1 c1).1
  have s1 : Sl (fun b => H.length + 1 ≤ b ∧ b < H1.length) H1 v1 (rowSums t) := (rvs h1).low.weak fun b h => ⟨by have := h.1.resolve_left (fun h => h.elim); simpa using this, h.2⟩
  have s2 : Sl (fun b => H.length + 1 ≤ b ∧ b < H1.length) H1 v2 (colSums t) := (rvs h2).low.weak fun b h => ⟨by have := h.1.resolve_left (fun h => h.elim); simpa using this, h.2⟩
  have kt : Sl (fun b => b < H.length) H1 v t := k0.kp (x1.all _).kp
  have m1 := min_ret s1 (by rw [rowSums_len]; exact h.1)
  have m2 := min_ret s2 (by rw [colSums_len]; exact hc.1)
  have e1' : decide (minL (rowSums t) = 0) = false := decide_eq_false hm.1
  have e2' : decide (minL (colSums t) = 0) = false := decide_eq_false hm.2
  clear h1 h2 hw x1 k0 hm
  have s1I := s1.I
  rw [rowSums_len] at s1I
  simp (disch := (first | assumption | omega | (simp only [List.length_append, List.length_cons, List.length_nil]; omega))) only [↓wD,wU,Nat.reduceBEq,zx150,zx151,zx159,zx160,zx161,zx162,Nat.reduceAdd,Nat.reduceSub,Nat.reduceMul,Nat.reduceLeDiff,Nat.reduceLT,Nat.reduceEqDiff,Int.reduceAdd,Int.reduceSub,Int.reduceMul,Int.reduceNeg,Int.reduceLT,Int.reduceLE,Int.reduceEq,Int.reduceToNat,Int.cast_ofNat_Int,↓reduceIte, m1.call, m2.call, e1', e2', s1I]
  refine Wp.for t.length (fun i a H' => H' = H1 ∧ a 0 = v ∧ a 2 = .p H.length 0 ∧ a 4 = v1 ∧ a 5 = v2 ∧ a 34 = v1 ∧ a 35 = .i t.length ∧ a 36 = .i i ∧ a 6 = .i ((rowSums t).take i).sum ∧ 0 ≤ ((rowSums t).take i).sum ∧ ((rowSums t).take i).sum ≤ 16 * i) ?_ ?_
  · rintro i a H' hi ⟨rfl, a0, a2, a4, a5, a34, a35, a36, a6, b1, b2⟩ ih
    simp (disch := (first | assumption | omega | (simp only [List.length_append, List.length_cons, List.length_nil]; omega))) only [↓wD,wU,Nat.reduceBEq,zx150,zx151,zx159,zx160,zx161,zx162,Nat.reduceAdd,Nat.reduceSub,Nat.reduceMul,Nat.reduceLeDiff,Nat.reduceLT,Nat.reduceEqDiff,Int.reduceAdd,Int.reduceSub,Int.reduceMul,Int.reduceNeg,Int.reduceLT,Int.reduceLE,Int.reduceEq,Int.reduceToNat,Int.cast_ofNat_Int,↓reduceIte, a0, a2, a4, a5, a34, a35, a36, a6]
    refine condP_split (fun hlt => ?_) (fun hlt => ?_)
    · have hi' : i < t.length := by omega
      have hr := rowSums_le h _ (mem_gi (xs := rowSums t) (i := i) (by rw [rowSums_len]; exact hi'))
      have e := sum_take (xs := rowSums t) (i := i) (by rw [rowSums_len]; exact hi')
      simp (disch := (first | assumption | omega | (simp only [List.length_append, List.length_cons, List.length_nil]; omega))) only [↓wD,wU,Nat.reduceBEq,zx150,zx151,zx159,zx160,zx161,zx162,Nat.reduceAdd,Nat.reduceSub,Nat.reduceMul,Nat.reduceLeDiff,Nat.reduceLT,Nat.reduceEqDiff,Int.reduceAdd,Int.reduceSub,Int.reduceMul,Int.reduceNeg,Int.reduceLT,Int.reduceLE,Int.reduceEq,Int.reduceToNat,Int.cast_ofNat_Int,↓reduceIte, a0, a2, a4, a5, a34, a35, a36, a6, s1I]
      refine (ih hi').go ⟨rfl, ?_⟩
      simp (disch := (first | assumption | omega | (simp only [List.length_append, List.length_cons, List.length_nil]; omega))) only [↓wD,wU,Nat.reduceBEq,zx150,zx151,zx159,zx160,zx161,zx162,Nat.reduceAdd,Nat.reduceSub,Nat.reduceMul,Nat.reduceLeDiff,Nat.reduceLT,Nat.reduceEqDiff,Int.reduceAdd,Int.reduceSub,Int.reduceMul,Int.reduceNeg,Int.reduceLT,Int.reduceLE,Int.reduceEq,Int.reduceToNat,Int.cast_ofNat_Int,↓reduceIte, a0, a2, a4, a5, a34, a35, a36, a6, e]
      omega
    · obtain rfl : i = t.length := by omega
      rw [List.take_of_length_le (by rw [rowSums_len]; exact Nat.le_refl _)] at a6
      have hn := hF.nums (i := 0) (j := 0) (by omega) (by omega)
      rw [hn.2.2.2.2.2.2.2.2] at a6
      have hn16 : (1 : Int) ≤ nN t ∧ (nN t : Int) ≤ 16 := by omega
      have fr := frac_ret (H := H') 0 1 (by omega) (by omega) (by omega)
      have f0 : fracN 0 1 = (0, 1) := by decide
      rw [f0] at fr
      simp only [Int.natCast_zero, Int.natCast_one] at fr
      have fD : fracN (offP t 0) (allN t) = (0, 1) := by
        have : fracN (allN t * 0) (allN t * 1) = fracN 0 1 := fracN_scale (by omega)
        rw [Nat.mul_zero, Nat.mul_one] at this
        change fracN 0 (allN t) = _
        rw [this, f0]
      clear hn b1 b2 f0
      simp (disch := (first | assumption | omega | (simp only [List.length_append, List.length_cons, List.length_nil]; omega))) only [↓wD,wU,Nat.reduceBEq,zx150,zx151,zx159,zx160,zx161,zx162,Nat.reduceAdd,Nat.reduceSub,Nat.reduceMul,Nat.reduceLeDiff,Nat.reduceLT,Nat.reduceEqDiff,Int.reduceAdd,Int.reduceSub,Int.reduceMul,Int.reduceNeg,Int.reduceLT,Int.reduceLE,Int.reduceEq,Int.reduceToNat,Int.cast_ofNat_Int,↓reduceIte, a0, a2, a4, a5, a6, fr.call, kt.L]
      have kt' := kt.app [.cells [.i 0, .i 1]]
      refine Wp.for t.length (fun i a Hw => a 0 = v ∧ a 2 = .p H.length 0 ∧ a 4 = v1 ∧ a 5 = v2 ∧ a 6 = .i (nN t) ∧ a 9 = .p H'.length 0 ∧ a 45 = v ∧ a 46 = .i t.length ∧ a 47 = .i i ∧ Kx (fun b => b ≠ H'.length) (H' ++ [.cells [.i 0, .i 1]]) Hw ∧ Hw[H'.length]? = some (.cells [.i (fracN (offP t i) (allN t)).1, .i (fracN (offP t i) (allN t)).2])) ?_ ?_
      · clear a0 a2 a4 a5 a34 a35 a36 a6 ih
        rintro i a Hw hi ⟨a0, a2, a4, a5, a6, a9, a45, a46, a47, hx, cw⟩ ih
        simp (disch := (first | assumption | omega | (simp only [List.length_append, List.length_cons, List.length_nil]; omega))) only [↓wD,wU,Nat.reduceBEq,zx150,zx151,zx159,zx160,zx161,zx162,Nat.reduceAdd,Nat.reduceSub,Nat.reduceMul,Nat.reduceLeDiff,Nat.reduceLT,Nat.reduceEqDiff,Int.reduceAdd,Int.reduceSub,Int.reduceMul,Int.reduceNeg,Int.reduceLT,Int.reduceLE,Int.reduceEq,Int.reduceToNat,Int.cast_ofNat_Int,↓reduceIte, a0, a2, a4, a5, a6, a9, a45, a46, a47]
        refine condP_split (fun hlt => ?_) (fun hlt => ?_)
        · have hi' : i < t.length := by omega
          have ktw := kt'.kp (hx.weak fun b _ h => by omega).kp
          have g := ktw.get (k := (i : Int)) (by omega) (by omega)
          have gw := h.width hi'
          simp (disch := (first | assumption | omega | (simp only [List.length_append, List.length_cons, List.length_nil]; omega))) only [↓wD,wU,Nat.reduceBEq,zx150,zx151,zx159,zx160,zx161,zx162,Nat.reduceAdd,Nat.reduceSub,Nat.reduceMul,Nat.reduceLeDiff,Nat.reduceLT,Nat.reduceEqDiff,Int.reduceAdd,Int.reduceSub,Int.reduceMul,Int.reduceNeg,Int.reduceLT,Int.reduceLE,Int.reduceEq,Int.reduceToNat,Int.cast_ofNat_Int,↓reduceIte, a0, a2, a4, a5, a6, a9, a45, a46, a47, ktw.L, g.I]
          obtain ⟨gu, egu⟩ : ∃ gu, v.get Hw i = gu := ⟨_, rfl⟩
          rw [egu] at g
          refine Wp.for (gi t 0).length (fun j a Hz => a 0 = v ∧ a 2 = .p H.length 0 ∧ a 4 = v1 ∧ a 5 = v2 ∧ a 6 = .i (nN t) ∧ a 9 = .p H'.length 0 ∧ a 45 = v ∧ a 46 = .i t.length ∧ a 47 = .i i ∧ a 10 = .i i ∧ a 52 = gu ∧ a 53 = .i (gi t 0).length ∧ a 54 = .i j ∧ Kx (fun b => b ≠ H'.length) (H' ++ [.cells [.i 0, .i 1]]) Hz ∧ Kx (fun b => b ≠ H'.length) Hw Hz ∧ Hz[H'.length]? = some (.cells [.i (fracN (offP t i + rowOff t i j) (allN t)).1, .i (fracN (offP t i + rowOff t i j) (allN t)).2])) ?_ ?_
          · clear a0 a2 a4 a5 a6 a9 a45 a46 a47
            rintro j a Hz hj ⟨a0, a2, a4, a5, a6, a9, a45, a46, a47, a10, a52, a53, a54, hxz, hwz, cz⟩ ih2
            simp (disch := (first | assumption | omega | (simp only [List.length_append, List.length_cons, List.length_nil]; omega))) only [↓wD,wU,Nat.reduceBEq,zx150,zx151,zx159,zx160,zx161,zx162,Nat.reduceAdd,Nat.reduceSub,Nat.reduceMul,Nat.reduceLeDiff,Nat.reduceLT,Nat.reduceEqDiff,Int.reduceAdd,Int.reduceSub,Int.reduceMul,Int.reduceNeg,Int.reduceLT,Int.reduceLE,Int.reduceEq,Int.reduceToNat,Int.cast_ofNat_Int,↓reduceIte, a0, a2, a4, a5, a6, a9, a45, a46, a47, a10, a52, a53, a54]
            refine condP_split (fun hlt2 => ?_) (fun hlt2 => ?_)
            · have hj' : j < (gi t 0).length := by omega
              have gz : Sl (fun b => b < H.length) Hz gu (gi t (i : Int)) := g.kp (hwz.weak fun b _ h => by omega).kp
              have s1z := (s1.app [.cells [.i 0, .i 1]]).kp (hxz.weak fun b _ h => by omega).kp
              have s2z := (s2.app [.cells [.i 0, .i 1]]).kp (hxz.weak fun b _ h => by omega).kp
              obtain ⟨nr, nc, r1, r16, c1', c16, n1, n16, _⟩ := hF.nums hi' hj'
              obtain ⟨eD, e1, e4⟩ := hF.dvd hi' hj'
              obtain ⟨d1, d2, p1, p2, sqd, sq6⟩ := hF.dd hi' hj'
              have pm := hF.part2 (i := i) (by omega)
              have pr := hF.part hi' (j := j) (by omega)
              have pl := plus_ret (H := Hz) (a := offP t i + rowOff t i j) (b := allN t) (c := sqN t i j) (d := eN t i j) (by omega) (by omega) sq6 e4 (by omega) (by omega)
              rw [off_step eD e1] at pl
              have fr := frac_ret (H := Hz) (sqN t i j) (eN t i j) (by omega) (by omega) (by omega)
              have m1 : (rN t i : Int) * cN t j = ((rN t i * cN t j : Nat) : Int) := by simp
              have l1 : rN t i * cN t j ≤ 256 := Nat.mul_le_mul r16 c16
              have m2 : ((rN t i * cN t j : Nat) : Int) * nN t = ((eN t i j : Nat) : Int) := by unfold eN; simp
              have m3 : gi (gi t (i : Int)) (j : Int) * nN t - ((rN t i * cN t j : Nat) : Int) = dd t i j := rfl
              have eOff := rowOff_succ (t := t) (i := i) (j := j)
              have hge := h.entry hi' hj'
              have s1I := s1z.I
              rw [rowSums_len] at s1I
              have s2I := s2z.I
              rw [colSums_len] at s2I
              have gI := gz.I
              rw [gw] at gI
              have hlz := hxz.1
              generalize fracN (offP t i + rowOff t i j) (allN t) = F0 at pl cz
              rw [show offP t i + rowOff t i j + qN t i j * sqN t i j = offP t i + rowOff t i (j + 1) by omega] at pl
              generalize fracN (sqN t i j) (eN t i j) = F1 at pl fr
              have eF : fracN (offP t i + rowOff t i (j + 1)) (allN t) = fracN (offP t i + rowOff t i (j + 1)) (allN t) := rfl
              generalize e2 : fracN (offP t i + rowOff t i (j + 1)) (allN t) = F2 at pl
              clear eF eOff eD pm pr
              generalize rN t i * cN t j = rc at m1 m2 m3 l1
              generalize eN t i j = ee at m2 fr pl e1 e4
              generalize dd t i j = d at m3 d1 d2 sqd
              generalize sqN t i j = sq at sqd sq6 fr
              have sqd' : d * d = sq := sqd.symm
              clear sqd
              obtain ⟨F0a, F0b⟩ := F0
              obtain ⟨F1a, F1b⟩ := F1
              obtain ⟨F2a, F2b⟩ := F2
              simp only at pl fr cz
              simp (disch := (first | assumption | omega | (simp only [List.length_append, List.length_cons, List.length_nil]; omega))) only [↓wD,wU,Nat.reduceBEq,zx150,zx151,zx159,zx160,zx161,zx162,Nat.reduceAdd,Nat.reduceSub,Nat.reduceMul,Nat.reduceLeDiff,Nat.reduceLT,Nat.reduceEqDiff,Int.reduceAdd,Int.reduceSub,Int.reduceMul,Int.reduceNeg,Int.reduceLT,Int.reduceLE,Int.reduceEq,Int.reduceToNat,Int.cast_ofNat_Int,↓reduceIte, a0, a2, a4, a5, a6, a9, a45, a46, a47, a10, a52, a53, a54, gI, s1I, s2I, nr, nc, m1, m2, m3, sqd', ldn_of cz, fr.call, pl.call, st_of cz]
              refine (ih2 hj').go ?_
              simp (disch := (first | assumption | omega | (simp only [List.length_append, List.length_cons, List.length_nil]; omega))) only [↓wD,wU,Nat.reduceBEq,zx150,zx151,zx159,zx160,zx161,zx162,Nat.reduceAdd,Nat.reduceSub,Nat.reduceMul,Nat.reduceLeDiff,Nat.reduceLT,Nat.reduceEqDiff,Int.reduceAdd,Int.reduceSub,Int.reduceMul,Int.reduceNeg,Int.reduceLT,Int.reduceLE,Int.reduceEq,Int.reduceToNat,Int.cast_ofNat_Int,↓reduceIte, a0, a2, a4, a5, a6, a9, a45, a46, a47, a10, a52, a53, a54, e2]
              exact ⟨hxz.set' (fun _ h => h rfl) _, hwz.set' (fun _ h => h rfl) _, get_set cz⟩
            · obtain rfl : j = (gi t 0).length := by omega
              rw [← offP_succ] at cz
              simp (disch := (first | assumption | omega | (simp only [List.length_append, List.length_cons, List.length_nil]; omega))) only [↓wD,wU,Nat.reduceBEq,zx150,zx151,zx159,zx160,zx161,zx162,Nat.reduceAdd,Nat.reduceSub,Nat.reduceMul,Nat.reduceLeDiff,Nat.reduceLT,Nat.reduceEqDiff,Int.reduceAdd,Int.reduceSub,Int.reduceMul,Int.reduceNeg,Int.reduceLT,Int.reduceLE,Int.reduceEq,Int.reduceToNat,Int.cast_ofNat_Int,↓reduceIte, a0, a2, a4, a5, a6, a9, a45, a46, a47, a10, a52, a53, a54]
              refine (ih hi').go ?_
              simp (disch := (first | assumption | omega | (simp only [List.length_append, List.length_cons, List.length_nil]; omega))) only [↓wD,wU,Nat.reduceBEq,zx150,zx151,zx159,zx160,zx161,zx162,Nat.reduceAdd,Nat.reduceSub,Nat.reduceMul,Nat.reduceLeDiff,Nat.reduceLT,Nat.reduceEqDiff,Int.reduceAdd,Int.reduceSub,Int.reduceMul,Int.reduceNeg,Int.reduceLT,Int.reduceLE,Int.reduceEq,Int.reduceToNat,Int.cast_ofNat_Int,↓reduceIte, a0, a2, a4, a5, a6, a9, a45, a46, a47]
              exact ⟨hxz, cz⟩
          · simp (disch := (first | assumption | omega | (simp only [List.length_append, List.length_cons, List.length_nil]; omega))) only [↓wD,wU,Nat.reduceBEq,zx150,zx151,zx159,zx160,zx161,zx162,Nat.reduceAdd,Nat.reduceSub,Nat.reduceMul,Nat.reduceLeDiff,Nat.reduceLT,Nat.reduceEqDiff,Int.reduceAdd,Int.reduceSub,Int.reduceMul,Int.reduceNeg,Int.reduceLT,Int.reduceLE,Int.reduceEq,Int.reduceToNat,Int.cast_ofNat_Int,↓reduceIte, a0, a2, a4, a5, a6, a9, a45, a46, a47, egu, gw]
            exact ⟨hx, Kx.refl _ _, by simpa [rowOff] using cw⟩
        · obtain rfl : i = t.length := by omega
          have cw2 := hx.get (b := H.length) (by omega) ((Kx.app (fun _ => True) H' _).get trivial c1)
          have hst : st H.length Hw H.length 0 [.i (fracN (offP t t.length) (allN t)).1, .i (fracN (offP t t.length) (allN t)).2] = some (Hw.set H.length (.cells [.i (fracN (offP t t.length) (allN t)).1, .i (fracN (offP t t.length) (allN t)).2])) := by rw [st_of cw2 (Nat.le_refl _) (by simp)]; simp [wr]
          simp (disch := (first | assumption | omega | (simp only [List.length_append, List.length_cons, List.length_nil]; omega))) only [↓wD,wU,Nat.reduceBEq,zx150,zx151,zx159,zx160,zx161,zx162,Nat.reduceAdd,Nat.reduceSub,Nat.reduceMul,Nat.reduceLeDiff,Nat.reduceLT,Nat.reduceEqDiff,Int.reduceAdd,Int.reduceSub,Int.reduceMul,Int.reduceNeg,Int.reduceLT,Int.reduceLE,Int.reduceEq,Int.reduceToNat,Int.cast_ofNat_Int,↓reduceIte, a0, a2, a4, a5, a6, a9, a45, a46, a47, ldn_of cw, hst]
          simp (disch := (first | assumption | omega | (simp only [List.length_append, List.length_cons, List.length_nil]; omega))) only [↓wD,wU,Nat.reduceBEq,zx150,zx151,zx159,zx160,zx161,zx162,Nat.reduceAdd,Nat.reduceSub,Nat.reduceMul,Nat.reduceLeDiff,Nat.reduceLT,Nat.reduceEqDiff,Int.reduceAdd,Int.reduceSub,Int.reduceMul,Int.reduceNeg,Int.reduceLT,Int.reduceLE,Int.reduceEq,Int.reduceToNat,Int.cast_ofNat_Int,↓reduceIte, ldn_of (get_set cw2)]
      · simp (disch := (first | assumption | omega | (simp only [List.length_append, List.length_cons, List.length_nil]; omega))) only [↓wD,wU,Nat.reduceBEq,zx150,zx151,zx159,zx160,zx161,zx162,Nat.reduceAdd,Nat.reduceSub,Nat.reduceMul,Nat.reduceLeDiff,Nat.reduceLT,Nat.reduceEqDiff,Int.reduceAdd,Int.reduceSub,Int.reduceMul,Int.reduceNeg,Int.reduceLT,Int.reduceLE,Int.reduceEq,Int.reduceToNat,Int.cast_ofNat_Int,↓reduceIte, a0, a2, a4, a5, a6]
        rw [fD]
        exact ⟨Kx.refl _ _, by simp⟩
  · (simp (disch := (first | assumption | omega | (simp only [List.length_append, List.length_cons, List.length_nil]; omega))) only [↓wD,wU,Nat.reduceBEq,zx150,zx151,zx159,zx160,zx161,zx162,Nat.reduceAdd,Nat.reduceSub,Nat.reduceMul,Nat.reduceLeDiff,Nat.reduceLT,Nat.reduceEqDiff,Int.reduceAdd,Int.reduceSub,Int.reduceMul,Int.reduceNeg,Int.reduceLT,Int.reduceLE,Int.reduceEq,Int.reduceToNat,Int.cast_ofNat_Int,↓reduceIte]) <;> simp
end Go.Proofs.Ytflekaacffdakaa
namespace Go.Proofs.Ytflekaacffdakaa
open Go Go.AM Go.Proofs
theorem mg_rows {t : List (List Int)} (h : TabOk t) : MgOk (rowSums t) := by
  refine ⟨by rw [rowSums_len]; exact h.1, by rw [rowSums_len]; exact h.2.1, fun x hx => rowSums_le h x hx, ?_⟩
  have := total_le h
  exact this
theorem family_ret {p : Nat → Prop} {H : Heap} {v : AV} {t : List (List Int)} (ht : Sl p H v t) (h : TabOk t) : Ret E 82 [v] (fun _ => False) H (rowSums t, colSums t) := by
  refine Ret.ro rfl fn82 rfl ?_
  unfold f82A
  simp (disch := (first | assumption | omega | (simp only [List.length_append, List.length_cons, List.length_nil]; omega))) only [↓wD,wU,Nat.reduceBEq,zx150,zx151,zx159,zx160,zx161,zx162,Nat.reduceAdd,Nat.reduceSub,Nat.reduceMul,Nat.reduceLeDiff,Nat.reduceLT,Nat.reduceEqDiff,Int.reduceAdd,Int.reduceSub,Int.reduceMul,Int.reduceNeg,Int.reduceLT,Int.reduceLE,Int.reduceEq,Int.reduceToNat,Int.cast_ofNat_Int,↓reduceIte]
  refine (sums_ret (ht.app [.cells [.nils, .nils]]) h).toX fun w H2 x2 hw => ?_
  obtain ⟨v1, v2, rfl, h1, h2⟩ := rv2 hw
  have c2 : H2[H.length]? = some (.cells [.nils, .nils]) := x2.get trivial get_last
  have s1 := rvs h1
  have s2 := rvs h2
  have hst : st H.length H2 H.length 0 [v1, v2] = some (H2.set H.length (.cells [v1, v2])) := by rw [st_of c2 (Nat.le_refl _) (by simp)]; simp [wr]
  have k1 : Sl (fun b => H.length + 1 ≤ b) (H2.set H.length (.cells [v1, v2])) v1 (rowSums t) := (s1.weak (q := fun b => H.length + 1 ≤ b) fun b h => h.elim (fun h => h.elim) fun h => by simpa using h).kp ((Kp.set _ _ _).weak fun b h => by omega)
  have k2 : Sl (fun b => H.length + 1 ≤ b) (H2.set H.length (.cells [v1, v2])) v2 (colSums t) := (s2.weak (q := fun b => H.length + 1 ≤ b) fun b h => h.elim (fun h => h.elim) fun h => by simpa using h).kp ((Kp.set _ _ _).weak fun b h => by omega)
  simp (disch := (first | assumption | omega | (simp only [List.length_append, List.length_cons, List.length_nil]; omega))) only [↓wD,wU,Nat.reduceBEq,zx150,zx151,zx159,zx160,zx161,zx162,Nat.reduceAdd,Nat.reduceSub,Nat.reduceMul,Nat.reduceLeDiff,Nat.reduceLT,Nat.reduceEqDiff,Int.reduceAdd,Int.reduceSub,Int.reduceMul,Int.reduceNeg,Int.reduceLT,Int.reduceLE,Int.reduceEq,Int.reduceToNat,Int.cast_ofNat_Int,↓reduceIte, s1.cellsV, s2.cellsV, hst, ldn_of (get_set c2)]
  exact ⟨_, rfl, [v1], [v2], rfl, ⟨v1, rfl, k1.weak fun b h => .inr (by omega)⟩, ⟨v2, rfl, k2.weak fun b h => .inr (by omega)⟩⟩
end Go.Proofs.Ytflekaacffdakaa
namespace Go.Proofs.Ytflekaacffdakaa
open Go Go.AM Go.Proofs
/-- a sum -/
def is (m : Nat) (f : Nat → Int) : Int := ((List.range m).map f).sum
theorem is_0 {f : Nat → Int} : is 0 f = 0 := by simp [is]
theorem is_succ {m : Nat} {f : Nat → Int} : is (m + 1) f = is m f + f m := by
  unfold is; rw [List.range_succ, List.map_append, List.sum_append]; simp
theorem is_congr {m : Nat} {f g : Nat → Int} (h : ∀ k, k < m → f k = g k) : is m f = is m g := by
  induction m with
  | zero => rfl
  | succ m ih => rw [is_succ, is_succ, ih fun k hk => h k (by omega), h m (by omega)]
theorem is_add {m : Nat} {f g : Nat → Int} : is m (fun k => f k + g k) = is m f + is m g := by
  induction m with
  | zero => rfl
  | succ m ih => rw [is_succ, is_succ, is_succ, ih]; omega
theorem is_const {m : Nat} {c : Int} : is m (fun _ => c) = m * c := by
  induction m with
  | zero => simp [is_0]
  | succ m ih => rw [is_succ, ih]; push_cast; rw [Int.add_mul]; omega
theorem sum_is : ∀ {xs : List Int} {m : Nat}, m ≤ xs.length → (xs.take m).sum = is m fun k => gi xs (k : Int)
  | xs, 0, _ => by simp [is_0]
  | xs, m + 1, h => by rw [sum_take (by omega), is_succ, sum_is (by omega)]
theorem Full.cell {t : List (List Int)} (h : Full t) {i j : Nat} (hi : i < t.length) (hj : j < (gi t 0).length) :
    (allN t : Int) = rN t i * cN t j * nN t * qN t i j ∧ ((qN t i j * sqN t i j : Nat) : Int) = qN t i j * ((gi (gi t (i : Int)) (j : Int) * nN t - rN t i * cN t j) * (gi (gi t (i : Int)) (j : Int) * nN t - rN t i * cN t j)) ∧ 0 ≤ gi (gi t (i : Int)) (j : Int) ∧ gi (gi t (i : Int)) (j : Int) ≤ rN t i ∧ gi (gi t (i : Int)) (j : Int) ≤ cN t j := by
  have hn := h.nums hi hj
  have hd := h.dd hi hj
  have he := h.1.entry hi hj
  refine ⟨?_, ?_, he.1, ?_, ?_⟩
  · conv => lhs; rw [(h.dvd hi hj).1]
    unfold eN; push_cast; rfl
  · rw [Int.natCast_mul, hd.2.2.2.2.1]
    unfold Go.Proofs.Ytflekaacffdakaa.dd; push_cast; rfl
  · rw [← hn.1, rowSums_at hi]
    exact le_sum (fun y hy => ((h.1.2.2.1 _ (mem_gi hi)).2.2.2 y hy).1) (mem_gi (by rw [h.1.width hi]; exact hj))
  · rw [← hn.2.1, colSums_at hj]
    have key : ∀ m, m ≤ t.length → i < m → gi (gi t (i : Int)) (j : Int) ≤ colPart t m j := by
      intro m
      induction m with
      | zero => omega
      | succ m ih =>
        intro hm him
        rw [colPart_succ (by omega)]
        have e := h.1.entry (show m < t.length by omega) hj
        by_cases hh : i = m
        · subst hh
          have := (h.1.colPart (i := i) hj).1
          omega
        · have := ih (by omega) (by omega)
          omega
    exact key t.length (Nat.le_refl _) hi
theorem cols_sum {t : List (List Int)} (h : TabOk t) : is (gi t 0).length (fun j => colPart t t.length j) = (rowSums t).sum := by
  have key : ∀ m, m ≤ t.length → is (gi t 0).length (fun j => colPart t m j) = ((rowSums t).take m).sum := by
    intro m
    induction m with
    | zero =>
      intro _
      simp only [colPart_0]
      rw [is_const]; simp
    | succ m ih =>
      intro hm
      rw [sum_take (by rw [rowSums_len]; omega), ← ih (by omega), rowSums_at (by omega)]
      rw [is_congr fun k hk => colPart_succ (t := t) (i := m) (j := k) (by omega), is_add]
      congr 1
      rw [← sum_is (by rw [h.width (by omega)]; exact Nat.le_refl _), List.take_of_length_le (by rw [h.width (by omega)]; exact Nat.le_refl _)]
  have := key t.length (Nat.le_refl _)
  rwa [List.take_of_length_le (by rw [rowSums_len]; exact Nat.le_refl _)] at this
end Go.Proofs.Ytflekaacffdakaa
namespace Go.Proofs.Ytflekaacffdakaa
open Go Go.AM Go.Proofs
theorem family_range {lo : Nat} {v w : AV} {xs ys : List Int} {Hr H1 : Heap} {K0 K : Nat → Prop} {Q : Bool → (Nat → Prop) → Heap → Prop} (hlo : lo ≤ Hr.length) (hx : Sl (fun b => ¬ K0 b) Hr v xs) (hy : Sl (fun b => ¬ K0 b) Hr w ys) (h1 : MgOk xs) (h2 : MgOk ys) (hK0 : ∀ b, K0 b → b < Hr.length)
    (e : H1.length = Hr.length + 1) (hx' : Kx (fun _ => True) Hr H1) (hK : ∀ b, K b ↔ K0 b ∨ b = Hr.length) (hI : Its E lo (.yl Hr.length) (Hr.length + 1) ArgT Q (tabsL xs ys) K H1) :
    WpF E lo 80 [.ag [v, w], .yl Hr.length] H1 fun _ H' => ∃ ok K', Q ok K' H' := by
  rw [← e] at hI
  have hn : ∀ b, ¬ K0 b ∧ b < Hr.length → ¬ K b := fun b h q => by
    rcases (hK b).1 q with q | q
    · exact h.1 q
    · omega
  exact all_it (by omega) ⟨rfl, rfl⟩ ((hx.low.kp (hx'.all _).kp).weak hn) ((hy.low.kp (hx'.all _).kp).weak hn) h1.1 h1.2.1 h2.1 h2.2.1 h1.el h2.el (fun b q => by
    rcases (hK b).1 q with q | q
    · have := hK0 b q; omega
    · omega) hI
/-- what holds between rounds: c the cell of the slice -/
def FamI (c : Nat) (ts : List (List (List Int))) (i : Nat) (K : Nat → Prop) (H1 : Heap) : Prop := ∃ u, H1[c]? = some (.cells [u]) ∧ K c ∧ Acc (c + 1) (fun b => K b ∧ c < b) H1 u (ts.take i) ∧ ∀ b, u.blk = some b → K b
theorem FamI.st {c : Nat} {ts : List (List (List Int))} {i : Nat} {K : Nat → Prop} {H1 H2 : Heap} {P : Nat → Prop} (h : FamI c ts i K H1) (hx : Kx (fun b => P b ∨ K b) H1 H2) : FamI c ts i K H2 := by
  obtain ⟨u, h1, h2, h3, h4⟩ := h
  exact ⟨u, hx.get (.inr h2) h1, h2, h3.kp hx.kp (fun b e => .inr (h4 b e)) (fun b h => .inr h.1), h4⟩
theorem mg_cols {t : List (List Int)} (h : TabOk t) (hs : (colSums t).sum ≤ 16) : MgOk (colSums t) := by
  have hc := h.cols
  refine ⟨by rw [colSums_len]; omega, by rw [colSums_len]; omega, colSums_le h, hs⟩
theorem cols_le {t : List (List Int)} (h : TabOk t) : (colSums t).sum ≤ 16 := by
  have := cols_sum h
  have h2 := total_le h
  unfold is at this
  show ((List.range (gi t 0).length).map fun j => colPart t t.length j).sum ≤ 16
  omega
end Go.Proofs.Ytflekaacffdakaa
namespace Go.Proofs.Ytflekaacffdakaa
open Go Go.AM Go.Proofs
theorem lines_sum : ∀ {cs : List Int} {need : Int} {l : List Int}, 0 ≤ need → l ∈ lines cs need → l.sum = need
  | [], need, l, h0, h => by
    unfold lines at h
    split at h <;> simp at h
    subst h; simp; omega
  | c :: cs, need, l, h0, h => by
    unfold lines at h
    rw [List.mem_flatMap] at h
    obtain ⟨x, hx, h⟩ := h
    have := List.mem_range.1 hx
    obtain ⟨l', h1, rfl⟩ := List.mem_map.1 h
    rw [List.sum_cons, lines_sum (by omega) h1]
    omega
theorem lines_all : ∀ {cs l : List Int}, l.length = cs.length → (∀ x ∈ l, 0 ≤ x) → (∀ x ∈ subL cs l, 0 ≤ x) → l ∈ lines cs l.sum
  | [], [], _, _, _ => by simp [lines]
  | [], _ :: _, h, _, _ => by simp at h
  | _ :: _, [], h, _, _ => by simp at h
  | c :: cs, x :: l, h, h1, h2 => by
    have e : subL (c :: cs) (x :: l) = (c - x) :: subL cs l := rfl
    rw [e] at h2
    have hx := h1 x (by simp)
    have hc := h2 (c - x) (by simp)
    have hs := sum_nonneg fun y hy => h1 y (List.mem_cons_of_mem x hy)
    obtain ⟨x, rfl⟩ := nat_of hx
    unfold lines
    rw [List.mem_flatMap]
    refine ⟨x, List.mem_range.2 (by rw [List.sum_cons]; omega), List.mem_map.2 ⟨l, ?_, rfl⟩⟩
    rw [List.sum_cons, show (x : Int) + l.sum - x = l.sum by omega]
    exact lines_all (by simpa using h) (fun y hy => h1 y (by simp [hy])) (fun y hy => h2 y (by simp [hy]))
theorem tabsL_sums : ∀ {rs L : List Int} {t : List (List Int)}, (∀ r ∈ rs, 0 ≤ r) → t ∈ tabsL rs L → rowSums t = rs ∧ ∀ r ∈ t, r.length = L.length
  | [], L, t, _, h => by
    unfold tabsL at h
    split at h <;> simp at h
    subst h; simp [rowSums]
  | r :: rs, L, t, hr, h => by
    unfold tabsL at h
    rw [List.mem_flatMap] at h
    obtain ⟨l, hl, h⟩ := h
    obtain ⟨t', h1, rfl⟩ := List.mem_map.1 h
    obtain ⟨i1, i2⟩ := tabsL_sums (fun x hx => hr x (by simp [hx])) h1
    have hll := lines_mem hl
    rw [subL_len hll] at i2
    refine ⟨?_, fun q hq => ?_⟩
    · unfold rowSums at i1 ⊢
      rw [List.map_cons, i1, lines_sum (hr r (by simp)) hl]
    · rcases List.mem_cons.1 hq with rfl | hq
      · exact hll
      · exact i2 q hq
theorem colPart_cons {l : List Int} {t : List (List Int)} {j : Nat} : colPart (l :: t) (l :: t).length j = gi l (j : Int) + colPart t t.length j := by
  simp [colPart]
theorem tabsL_cols : ∀ {rs L : List Int} {t : List (List Int)}, (∀ r ∈ rs, 0 ≤ r ∧ r ≤ 16) → (∀ x ∈ L, 0 ≤ x ∧ x ≤ 16) → t ∈ tabsL rs L → ∀ j : Nat, j < L.length → colPart t t.length j = gi L (j : Int)
  | [], L, t, _, hL, h, j, hj => by
    unfold tabsL at h
    split at h <;> simp at h
    rename_i hm
    subst h
    have h1 := (maxL_spec (xs := L) (by omega)).2 _ (mem_gi hj)
    have h2 := hL _ (mem_gi hj)
    simp [colPart]
    omega
  | r :: rs, L, t, hr, hL, h, j, hj => by
    unfold tabsL at h
    rw [List.mem_flatMap] at h
    obtain ⟨l, hl, h⟩ := h
    obtain ⟨t', h1, rfl⟩ := List.mem_map.1 h
    have hr0 := hr r (by simp)
    have hll := lines_mem hl
    rw [colPart_cons, tabsL_cols (fun x hx => hr x (by simp [hx])) (lines_el hr0.1 hr0.2 hL hl).2 h1 j (by rw [subL_len hll]; exact hj), subL_gi hll hj]
    omega
theorem mem_idx {xs : List Int} {x : Int} (h : x ∈ xs) : ∃ j : Nat, j < xs.length ∧ gi xs (j : Int) = x := by
  obtain ⟨j, hj, rfl⟩ := List.mem_iff_getElem.1 h
  exact ⟨j, hj, gi_nat hj⟩
theorem colPart_ge : ∀ {t : List (List Int)} {m j : Nat}, (∀ r ∈ t, r.length = m ∧ ∀ x ∈ r, 0 ≤ x) → j < m → 0 ≤ colPart t t.length j
  | [], m, j, _, _ => by simp [colPart]
  | l :: t, m, j, h, hj => by
    rw [colPart_cons]
    have h1 := h l (by simp)
    have h2 := h1.2 _ (mem_gi (xs := l) (i := j) (by omega))
    have h3 := colPart_ge (t := t) (fun r hr => h r (by simp [hr])) hj
    omega
theorem tabsL_has : ∀ {t : List (List Int)} {L : List Int}, 1 ≤ L.length → (∀ r ∈ t, r.length = L.length ∧ ∀ x ∈ r, 0 ≤ x) → (∀ j : Nat, j < L.length → colPart t t.length j = gi L (j : Int)) → t ∈ tabsL (rowSums t) L
  | [], L, h1, _, hc => by
    have : ¬ maxL L > 0 := fun hm => by
      obtain ⟨j, hj, e⟩ := mem_idx (maxL_spec h1).1
      have := hc j hj
      simp [colPart] at this
      omega
    simp [rowSums, tabsL, this]
  | l :: t, L, h1, hr, hc => by
    have hl := hr l (by simp)
    have hs : ∀ j : Nat, j < L.length → gi (subL L l) (j : Int) = colPart t t.length j := fun j hj => by
      have := hc j hj
      rw [colPart_cons] at this
      rw [subL_gi hl.1 hj]; omega
    have hsl := subL_len hl.1
    have e : rowSums (l :: t) = l.sum :: rowSums t := rfl
    rw [e, tabsL, List.mem_flatMap]
    refine ⟨l, lines_all hl.1 hl.2 fun x hx => ?_, List.mem_map.2 ⟨t, tabsL_has (by omega) (fun r hr' => by rw [hsl]; exact hr r (by simp [hr'])) (fun j hj => by rw [hs j (by omega)]), rfl⟩⟩
    obtain ⟨j, hj, rfl⟩ := mem_idx hx
    rw [hs j (by omega)]
    exact colPart_ge (fun r hr' => hr r (by simp [hr'])) (by omega)
theorem family_has {t : List (List Int)} (h : TabOk t) : t ∈ tabsL (rowSums t) (colSums t) := by
  have hc := h.cols
  refine tabsL_has (by rw [colSums_len]; omega) (fun r hr => ?_) fun j hj => ?_
  · have := h.2.2.1 r hr
    exact ⟨by rw [colSums_len]; exact this.2.2.1, fun x hx => (this.2.2.2 x hx).1⟩
  · rw [colSums_len] at hj
    rw [colSums_at hj]
end Go.Proofs.Ytflekaacffdakaa
namespace Go.Proofs.Ytflekaacffdakaa
open Go Go.AM Go.Proofs
/-- how two tables compare -/
def cmpT : List (List Int) → List (List Int) → Int
  | [], [] => 0
  | [], _ :: _ => -1
  | _ :: _, [] => 1
  | x :: xs, y :: ys => if cmpL x y ≠ 0 then cmpL x y else cmpT xs ys
end Go.Proofs.Ytflekaacffdakaa
namespace Go.Proofs.Ytflekaacffdakaa
open Go Go.AM Go.Proofs
theorem tabsL_el : ∀ {rs L : List Int} {t : List (List Int)}, (∀ r ∈ rs, 0 ≤ r ∧ r ≤ 16) → (∀ x ∈ L, 0 ≤ x ∧ x ≤ 16) → t ∈ tabsL rs L → ∀ r ∈ t, ∀ x ∈ r, 0 ≤ x ∧ x ≤ 16
  | [], L, t, _, _, h => by
    unfold tabsL at h
    split at h <;> simp at h
    subst h; simp
  | r :: rs, L, t, hr, hL, h => by
    unfold tabsL at h
    rw [List.mem_flatMap] at h
    obtain ⟨l, hl, h⟩ := h
    obtain ⟨t', h1, rfl⟩ := List.mem_map.1 h
    have hr0 := hr r (by simp)
    obtain ⟨e1, e2⟩ := lines_el hr0.1 hr0.2 hL hl
    intro q hq
    rcases List.mem_cons.1 hq with rfl | hq
    · exact e1
    · exact tabsL_el (fun x hx => hr x (by simp [hx])) e2 h1 q hq
theorem family_ok {t t' : List (List Int)} (h : TabOk t) (h' : t' ∈ tabsL (rowSums t) (colSums t)) : TabOk t' ∧ rowSums t' = rowSums t ∧ colSums t' = colSums t := by
  have hc := h.cols
  have m1 := mg_rows h
  have m2 := mg_cols h (cols_le h)
  obtain ⟨s1, s2⟩ := tabsL_sums (fun r hr => (m1.el r hr).1) h'
  have s3 := tabsL_el m1.el m2.el h'
  have s4 := tabsL_cols m1.el m2.el h'
  have s5 := tabsL_mem h'
  rw [rowSums_len] at s5
  have l1 := h.1
  have l2 := h.2.1
  have g0 : (gi t' 0).length = (gi t 0).length := by
    have := s2 _ (mem_gi (xs := t') (i := 0) (by omega))
    rwa [colSums_len] at this
  refine ⟨⟨by omega, by omega, fun r hr => ⟨?_, ?_, ?_, s3 r hr⟩, ?_⟩, s1, ?_⟩
  · rw [s2 r hr, colSums_len]; omega
  · rw [s2 r hr, colSums_len]; omega
  · rw [s2 r hr, colSums_len, g0]
  · have := total_le h
    rw [← s1] at this
    exact this
  · apply List.ext_getElem (by rw [colSums_len, colSums_len, g0])
    intro j j1 j2
    have e := s4 j j2
    rw [colSums_len] at j1 j2
    rw [← gi_nat, ← gi_nat, colSums_at j1, e]
end Go.Proofs.Ytflekaacffdakaa
namespace Go.Proofs.Ytflekaacffdakaa
open Go Go.AM Go.Proofs
theorem cmpL_lt {x y : Int} {xs ys : List Int} (h : x < y) : cmpL (x :: xs) (y :: ys) < 0 := by
  have : cmpI x y = -1 := by unfold cmpI; rw [if_pos h]
  simp [cmpL, this]
theorem cmpL_eq {x : Int} {xs ys : List Int} (h : cmpL xs ys < 0) : cmpL (x :: xs) (x :: ys) < 0 := by
  simpa [cmpL, cmpI] using h
theorem lines_order : ∀ {cs : List Int} {need : Int}, (lines cs need).Pairwise fun a b => cmpL a b < 0
  | [], need => by
    unfold lines
    split <;> simp
  | c :: cs, need => by
    unfold lines
    rw [List.pairwise_flatMap]
    refine ⟨fun x _ => ?_, List.pairwise_lt_range.imp fun {x y} hxy a ha b hb => ?_⟩
    · rw [List.pairwise_map]
      exact lines_order.imp fun h => cmpL_eq h
    · obtain ⟨a, _, rfl⟩ := List.mem_map.1 ha
      obtain ⟨b, _, rfl⟩ := List.mem_map.1 hb
      exact cmpL_lt (by omega)
theorem tabsL_order : ∀ {rs L : List Int}, (tabsL rs L).Pairwise fun a b => cmpT a b < 0
  | [], L => by
    unfold tabsL
    split <;> simp
  | r :: rs, L => by
    unfold tabsL
    rw [List.pairwise_flatMap]
    refine ⟨fun x _ => ?_, lines_order.imp fun {x y} hxy a ha b hb => ?_⟩
    · rw [List.pairwise_map]
      exact tabsL_order.imp fun h => by simpa [cmpT, cmpL_refl] using h
    · obtain ⟨a, _, rfl⟩ := List.mem_map.1 ha
      obtain ⟨b, _, rfl⟩ := List.mem_map.1 hb
      have : cmpL x y ≠ 0 := by omega
      simp only [cmpT, this, ne_eq, not_false_eq_true, if_true]
      exact hxy
end Go.Proofs.Ytflekaacffdakaa
namespace Go.Proofs.Ytflekaacffdakaa
open Go Go.AM Go.Proofs
theorem u64_idx {k : Int} {n : Nat} (h : 0 < n) (h1 : n ≤ 1000000000) : ∃ r : Nat, r < n ∧ IntKind.wrap .u64 (n : Int) = n ∧ (IntKind.wrap .u64 k).tmod n = r ∧ IntKind.wrap .i64 (r : Int) = r := by
  have h2 : 0 ≤ IntKind.wrap .u64 k := by
    have e1 : IntKind.u64.bits = 64 := rfl
    have e2 : IntKind.u64.signed = false := rfl
    simp only [IntKind.wrap, e1, e2, Bool.false_and, Bool.false_eq_true, if_false]
    exact Int.emod_nonneg _ (by decide)
  have h3 := Int.tmod_nonneg (n : Int) h2
  have h4 := Int.tmod_lt_of_pos (IntKind.wrap .u64 k) (show (0 : Int) < n by omega)
  obtain ⟨r, hr⟩ := Int.eq_ofNat_of_zero_le h3
  exact ⟨r, by omega, wrapU (by omega) (by omega), hr, zx172 (by omega) (by omega)⟩
end Go.Proofs.Ytflekaacffdakaa
namespace Go.Proofs.Ytflekaacffdakaa
open Go Go.AM Go.Proofs
def bin : Nat → Nat → Nat
  | _, 0 => 1
  | 0, _ + 1 => 0
  | n + 1, k + 1 => bin n k + bin n (k + 1)
theorem bin_0 {n : Nat} : bin n 0 = 1 := by cases n <;> rfl
theorem bin_mul : ∀ {n k : Nat}, bin (n + 1) (k + 1) * (k + 1) = bin n k * (n + 1)
  | 0, 0 => rfl
  | 0, k + 1 => by simp [bin]
  | n + 1, 0 => by
    have h := bin_mul (n := n) (k := 0)
    rw [bin_0] at h ⊢
    have e : bin (n + 1 + 1) (0 + 1) = bin (n + 1) 0 + bin (n + 1) (0 + 1) := rfl
    rw [e, bin_0]
    omega
  | n + 1, k + 1 => by
    have h1 := bin_mul (n := n) (k := k)
    have h2 := bin_mul (n := n) (k := k + 1)
    have e : bin (n + 1 + 1) (k + 1 + 1) = bin (n + 1) (k + 1) + bin (n + 1) (k + 1 + 1) := rfl
    have e2 : bin (n + 1) (k + 1) = bin n k + bin n (k + 1) := rfl
    rw [e, Nat.add_mul, h2, Nat.mul_add (bin (n + 1) (k + 1)) (k + 1) 1, h1]
    conv => lhs; rw [e2]
    conv => rhs; rw [e2]
    grind
theorem bin_pos : ∀ {n k : Nat}, k ≤ n → 0 < bin n k
  | n, 0, _ => by rw [bin_0]; omega
  | 0, k + 1, h => by omega
  | n + 1, k + 1, h => by
    have := bin_pos (n := n) (k := k) (by omega)
    show 0 < bin n k + bin n (k + 1)
    omega
theorem bin_le : ∀ {n k : Nat}, bin (n + 1) k ≤ 2 ^ n
  | n, 0 => by rw [bin_0]; exact Nat.one_le_two_pow
  | 0, k + 1 => by cases k <;> simp [bin]
  | n + 1, k + 1 => by
    have h1 := bin_le (n := n) (k := k)
    have h2 := bin_le (n := n) (k := k + 1)
    have e : bin (n + 1 + 1) (k + 1) = bin (n + 1) k + bin (n + 1) (k + 1) := rfl
    rw [e, Nat.pow_succ]; omega
theorem bin_small {n k : Nat} (h : n ≤ 16) : bin n k ≤ 32768 := by
  cases n with
  | zero => cases k <;> simp [bin]
  | succ n => exact Nat.le_trans bin_le (Nat.pow_le_pow_right (n := 2) (by omega) (show n ≤ 15 by omega))
theorem bin_self : ∀ {n : Nat}, bin n n = 1
  | 0 => rfl
  | n + 1 => by
    have z : ∀ {m k : Nat}, m < k → bin m k = 0 := by
      intro m
      induction m with
      | zero => intro k h; cases k with
        | zero => omega
        | succ k => rfl
      | succ m ih => intro k h; cases k with
        | zero => omega
        | succ k =>
          show bin m k + bin m (k + 1) = 0
          rw [ih (by omega), ih (by omega)]
    show bin n n + bin n (n + 1) = 1
    rw [bin_self, z (by omega)]
/-- in how many orders things come of which n stand before -/
def ordN : Nat → List Nat → Nat
  | _, [] => 1
  | n, k :: ks => bin (n + k) k * ordN (n + k) ks
theorem ordN_app : ∀ {ks : List Nat} {n j : Nat}, ordN n (ks ++ [j]) = ordN n ks * bin (n + ks.sum + j) j
  | [], n, j => by simp [ordN]
  | k :: ks, n, j => by
    rw [List.cons_append]
    show bin (n + k) k * ordN (n + k) (ks ++ [j]) = bin (n + k) k * ordN (n + k) ks * _
    rw [ordN_app, Nat.mul_assoc, List.sum_cons, Nat.add_assoc n k]
theorem ordN_pos : ∀ {ks : List Nat} {n : Nat}, 0 < ordN n ks
  | [], n => by simp [ordN]
  | k :: ks, n => Nat.mul_pos (bin_pos (by omega)) ordN_pos
theorem ordN_le {ks : List Nat} (hl : ks.length ≤ 3) (hs : ks.sum ≤ 16) : ordN 0 ks ≤ 1073741824 := by
  match ks, hl with
  | [], _ => simp [ordN]
  | [a], _ => simp [ordN, bin_self]
  | [a, b], _ =>
    simp at hs
    simp [ordN, bin_self]
    exact Nat.le_trans (bin_small (by omega)) (by omega)
  | [a, b, c], _ =>
    simp at hs
    simp [ordN, bin_self]
    exact Nat.le_trans (Nat.mul_le_mul (bin_small (n := a + b) (k := b) (by omega)) (bin_small (n := a + b + c) (k := c) (by omega))) (by omega)
  | _ :: _ :: _ :: _ :: _, h => simp at h
theorem ord_step (P s j : Nat) : (((P * bin (s + j) j : Nat) : Int) * ((s : Int) + (j : Int) + 1)).tdiv ((j : Int) + 1) = ((P * bin (s + (j + 1)) (j + 1) : Nat) : Int) := by
  have e : (((P * bin (s + j) j : Nat) : Int) * ((s : Int) + (j : Int) + 1)) = ((P * bin (s + (j + 1)) (j + 1) * (j + 1) : Nat) : Int) := by
    have : P * bin (s + j) j * (s + j + 1) = P * bin (s + (j + 1)) (j + 1) * (j + 1) := by
      rw [Nat.mul_assoc, Nat.mul_assoc, ← Nat.add_assoc, bin_mul]
    rw [← this]
    simp
  rw [e, show ((j : Int) + 1) = ((j + 1 : Nat) : Int) by simp, tdivN, Nat.mul_div_cancel _ (by omega)]
def toN (xs : List Int) : List Nat := xs.map Int.toNat
def ordL (xs : List Int) : Nat := ordN 0 (toN xs)
theorem toN_sum : ∀ {xs : List Int}, (∀ x ∈ xs, 0 ≤ x) → ((toN xs).sum : Int) = xs.sum
  | [], _ => rfl
  | x :: xs, h => by
    have := toN_sum (xs := xs) fun y hy => h y (by simp [hy])
    have h0 := h x (by simp)
    unfold toN at this ⊢
    simp only [List.map_cons, List.sum_cons]
    omega
theorem toN_take {xs : List Int} {i : Nat} (h : i < xs.length) : toN (xs.take (i + 1)) = toN (xs.take i) ++ [(gi xs (i : Int)).toNat] := by
  unfold toN
  rw [take_gi h, List.map_append]; rfl
/-- what the inner loop needs -/
theorem ord_inner {xs : List Int} (hl : xs.length ≤ 3) (h0 : ∀ x ∈ xs, 0 ≤ x) (hs : xs.sum ≤ 16) {i : Nat} (hi : i < xs.length) : ∃ P s k : Nat, ordN 0 (toN (xs.take i)) = P ∧ ((xs.take i).sum : Int) = s ∧ gi xs (i : Int) = k ∧ s + k ≤ 16 ∧ ((xs.take (i + 1)).sum : Int) = s + k ∧ ordN 0 (toN (xs.take (i + 1))) = P * bin (s + k) k ∧ ∀ j, j ≤ k → P * bin (s + j) j ≤ 1073741824 := by
  have hk := h0 _ (mem_gi hi)
  obtain ⟨k, ek⟩ := Int.eq_ofNat_of_zero_le hk
  have h1 : ∀ x ∈ xs.take i, 0 ≤ x := fun x hx => h0 x (List.mem_of_mem_take hx)
  have hts := toN_sum h1
  have hst := sum_take hi
  have hle : (xs.take (i + 1)).sum ≤ xs.sum := by
    have h2 := sum_nonneg (xs := xs.drop (i + 1)) fun x hx => h0 x (List.mem_of_mem_drop hx)
    have h3 : xs.sum = (xs.take (i + 1)).sum + (xs.drop (i + 1)).sum := by rw [← List.sum_append, List.take_append_drop]
    omega
  refine ⟨_, _, k, rfl, hts.symm, ek, by omega, by omega, ?_, fun j hj => ?_⟩
  · rw [toN_take hi, ordN_app, ek]
    simp
  · have e := ordN_app (ks := toN (xs.take i)) (n := 0) (j := j)
    rw [Nat.zero_add] at e
    rw [← e]
    refine ordN_le ?_ ?_
    · unfold toN; simp; omega
    · rw [List.sum_append]; simp; omega
theorem choose_ret {p : Nat → Prop} {H : Heap} {v : AV} {xs : List Int} (hx : Sl p H v xs) (hl : xs.length ≤ 3) (h0 : ∀ x ∈ xs, 0 ≤ x) (hs : xs.sum ≤ 16) : RetP E 87 [v] H (.i (ordL xs : Nat)) := by
  refine RetP.ro rfl fn87 rfl rfl ?_
  unfold f87A
  have hI := hx.I
  simp (disch := (first | assumption | omega | (simp only [List.length_append, List.length_cons, List.length_nil]; omega))) only [↓wD,wU,Nat.reduceBEq,zx150,zx151,zx159,zx160,zx161,zx162,Nat.reduceAdd,Nat.reduceSub,Nat.reduceMul,Nat.reduceLeDiff,Nat.reduceLT,Nat.reduceEqDiff,Int.reduceAdd,Int.reduceSub,Int.reduceMul,Int.reduceNeg,Int.reduceLT,Int.reduceLE,Int.reduceEq,Int.reduceToNat,Int.cast_ofNat_Int,↓reduceIte, hI]
  refine Wp.for xs.length (fun i a H' => H' = H ∧ a 3 = .i (ordN 0 (toN (xs.take i)) : Nat) ∧ a 4 = .i (xs.take i).sum ∧ a 8 = v ∧ a 9 = .i xs.length ∧ a 10 = .i i) ?_ ?_
  · rintro i a H' hi ⟨rfl, a3, a4, a8, a9, a10⟩ ih
    simp (disch := (first | assumption | omega | (simp only [List.length_append, List.length_cons, List.length_nil]; omega))) only [↓wD,wU,Nat.reduceBEq,zx150,zx151,zx159,zx160,zx161,zx162,Nat.reduceAdd,Nat.reduceSub,Nat.reduceMul,Nat.reduceLeDiff,Nat.reduceLT,Nat.reduceEqDiff,Int.reduceAdd,Int.reduceSub,Int.reduceMul,Int.reduceNeg,Int.reduceLT,Int.reduceLE,Int.reduceEq,Int.reduceToNat,Int.cast_ofNat_Int,↓reduceIte, a3, a4, a8, a9, a10]
    refine condP_split (fun hlt => ?_) (fun hlt => ?_)
    · have hi' : i < xs.length := by omega
      obtain ⟨P, s, k, e1, e2, e3, hsk, e4, e5, hb⟩ := ord_inner hl h0 hs hi'
      rw [e1] at a3
      rw [e2] at a4
      simp (disch := (first | assumption | omega | (simp only [List.length_append, List.length_cons, List.length_nil]; omega))) only [↓wD,wU,Nat.reduceBEq,zx150,zx151,zx159,zx160,zx161,zx162,Nat.reduceAdd,Nat.reduceSub,Nat.reduceMul,Nat.reduceLeDiff,Nat.reduceLT,Nat.reduceEqDiff,Int.reduceAdd,Int.reduceSub,Int.reduceMul,Int.reduceNeg,Int.reduceLT,Int.reduceLE,Int.reduceEq,Int.reduceToNat,Int.cast_ofNat_Int,↓reduceIte, a3, a4, a8, a9, a10, hI, e3]
      refine Wp.for k (fun j a H'' => H'' = H' ∧ a 3 = .i (P * bin (s + j) j : Nat) ∧ a 4 = .i (s + j) ∧ a 8 = v ∧ a 9 = .i xs.length ∧ a 10 = .i i ∧ a 6 = .i k ∧ a 7 = .i (j + 1)) ?_ ?_
      · clear a3 a4 a8 a9 a10
        rintro j a H' hj ⟨rfl, a3, a4, a8, a9, a10, a6, a7⟩ ih2
        simp (disch := (first | assumption | omega | (simp only [List.length_append, List.length_cons, List.length_nil]; omega))) only [↓wD,wU,Nat.reduceBEq,zx150,zx151,zx159,zx160,zx161,zx162,Nat.reduceAdd,Nat.reduceSub,Nat.reduceMul,Nat.reduceLeDiff,Nat.reduceLT,Nat.reduceEqDiff,Int.reduceAdd,Int.reduceSub,Int.reduceMul,Int.reduceNeg,Int.reduceLT,Int.reduceLE,Int.reduceEq,Int.reduceToNat,Int.cast_ofNat_Int,↓reduceIte, a3, a4, a8, a9, a10, a6, a7]
        refine condP_split (fun hlt => ?_) (fun hlt => ?_)
        · have hj' : j < k := by omega
          have b1 := hb j hj
          have b2 := hb (j + 1) hj'
          have st := ord_step P s j
          obtain ⟨X, eX⟩ : ∃ X, P * bin (s + j) j = X := ⟨_, rfl⟩
          obtain ⟨Y, eY⟩ : ∃ Y, P * bin (s + (j + 1)) (j + 1) = Y := ⟨_, rfl⟩
          rw [eX] at a3 b1 st
          rw [eY] at b2 st
          have mb : (X : Int) * (s + j + 1) ≤ 1073741824 * 17 := Int.mul_le_mul (by omega) (by omega) (by omega) (by omega)
          have mb0 : 0 ≤ (X : Int) * (s + j + 1) := Int.mul_nonneg (by omega) (by omega)
          have ne : ¬ (j : Int) + 1 = 0 := by omega
          obtain ⟨Z, eZ⟩ : ∃ Z, (X : Int) * (s + j + 1) = Z := ⟨_, rfl⟩
          rw [eZ] at mb mb0 st
          simp (disch := (first | assumption | omega | (simp only [List.length_append, List.length_cons, List.length_nil]; omega))) only [↓wD,wU,Nat.reduceBEq,zx150,zx151,zx159,zx160,zx161,zx162,Nat.reduceAdd,Nat.reduceSub,Nat.reduceMul,Nat.reduceLeDiff,Nat.reduceLT,Nat.reduceEqDiff,Int.reduceAdd,Int.reduceSub,Int.reduceMul,Int.reduceNeg,Int.reduceLT,Int.reduceLE,Int.reduceEq,Int.reduceToNat,Int.cast_ofNat_Int,↓reduceIte, a3, a4, a8, a9, a10, a6, a7, eZ, st]
          refine (ih2 hj').go ⟨rfl, ?_⟩
          simp (disch := (first | assumption | omega | (simp only [List.length_append, List.length_cons, List.length_nil]; omega))) only [↓wD,wU,Nat.reduceBEq,zx150,zx151,zx159,zx160,zx161,zx162,Nat.reduceAdd,Nat.reduceSub,Nat.reduceMul,Nat.reduceLeDiff,Nat.reduceLT,Nat.reduceEqDiff,Int.reduceAdd,Int.reduceSub,Int.reduceMul,Int.reduceNeg,Int.reduceLT,Int.reduceLE,Int.reduceEq,Int.reduceToNat,Int.cast_ofNat_Int,↓reduceIte, a3, a4, a8, a9, a10, a6, a7, eY]
          rw [Int.add_assoc]
        · obtain rfl : j = k := by omega
          rw [← e5] at a3
          rw [← e4] at a4
          simp (disch := (first | assumption | omega | (simp only [List.length_append, List.length_cons, List.length_nil]; omega))) only [↓wD,wU,Nat.reduceBEq,zx150,zx151,zx159,zx160,zx161,zx162,Nat.reduceAdd,Nat.reduceSub,Nat.reduceMul,Nat.reduceLeDiff,Nat.reduceLT,Nat.reduceEqDiff,Int.reduceAdd,Int.reduceSub,Int.reduceMul,Int.reduceNeg,Int.reduceLT,Int.reduceLE,Int.reduceEq,Int.reduceToNat,Int.cast_ofNat_Int,↓reduceIte, a3, a4, a8, a9, a10, a6, a7]
          refine (ih hi').go ⟨rfl, ?_⟩
          simp (disch := (first | assumption | omega | (simp only [List.length_append, List.length_cons, List.length_nil]; omega))) only [↓wD,wU,Nat.reduceBEq,zx150,zx151,zx159,zx160,zx161,zx162,Nat.reduceAdd,Nat.reduceSub,Nat.reduceMul,Nat.reduceLeDiff,Nat.reduceLT,Nat.reduceEqDiff,Int.reduceAdd,Int.reduceSub,Int.reduceMul,Int.reduceNeg,Int.reduceLT,Int.reduceLE,Int.reduceEq,Int.reduceToNat,Int.cast_ofNat_Int,↓reduceIte, a3, a4, a8, a9, a10, a6, a7]
      · simp (disch := (first | assumption | omega | (simp only [List.length_append, List.length_cons, List.length_nil]; omega))) only [↓wD,wU,Nat.reduceBEq,zx150,zx151,zx159,zx160,zx161,zx162,Nat.reduceAdd,Nat.reduceSub,Nat.reduceMul,Nat.reduceLeDiff,Nat.reduceLT,Nat.reduceEqDiff,Int.reduceAdd,Int.reduceSub,Int.reduceMul,Int.reduceNeg,Int.reduceLT,Int.reduceLE,Int.reduceEq,Int.reduceToNat,Int.cast_ofNat_Int,↓reduceIte, a3, a4, a8, a9, a10]
        simp [bin_0]
    · obtain rfl : i = xs.length := by omega
      rw [List.take_length] at a3
      simp (disch := (first | assumption | omega | (simp only [List.length_append, List.length_cons, List.length_nil]; omega))) only [↓wD,wU,Nat.reduceBEq,zx150,zx151,zx159,zx160,zx161,zx162,Nat.reduceAdd,Nat.reduceSub,Nat.reduceMul,Nat.reduceLeDiff,Nat.reduceLT,Nat.reduceEqDiff,Int.reduceAdd,Int.reduceSub,Int.reduceMul,Int.reduceNeg,Int.reduceLT,Int.reduceLE,Int.reduceEq,Int.reduceToNat,Int.cast_ofNat_Int,↓reduceIte, a3]
      rfl
  · (simp (disch := (first | assumption | omega | (simp only [List.length_append, List.length_cons, List.length_nil]; omega))) only [↓wD,wU,Nat.reduceBEq,zx150,zx151,zx159,zx160,zx161,zx162,Nat.reduceAdd,Nat.reduceSub,Nat.reduceMul,Nat.reduceLeDiff,Nat.reduceLT,Nat.reduceEqDiff,Int.reduceAdd,Int.reduceSub,Int.reduceMul,Int.reduceNeg,Int.reduceLT,Int.reduceLE,Int.reduceEq,Int.reduceToNat,Int.cast_ofNat_Int,↓reduceIte]) <;> simp [toN, ordN]
end Go.Proofs.Ytflekaacffdakaa
namespace Go.Proofs.Ytflekaacffdakaa
open Go Go.AM Go.Proofs
/-- in how many ways a table comes -/
def wayN : List (List Int) → Nat
  | [] => 1
  | r :: t => wayN t * ordL r
theorem wayN_take {t : List (List Int)} : ∀ {i : Nat}, i < t.length → wayN (t.take (i + 1)) = wayN (t.take i) * ordL (gi t (i : Int)) := by
  induction t with
  | nil => intro i h; simp at h
  | cons r t ih =>
    intro i h
    cases i with
    | zero => simp [wayN]; rfl
    | succ i =>
      rw [List.take_succ_cons, List.take_succ_cons, gi_consS]
      show wayN (t.take (i + 1)) * ordL r = wayN (t.take i) * ordL r * _
      rw [ih (by simpa using h)]
      grind
theorem row_ord {t : List (List Int)} (h : TabOk t) {i : Nat} (hi : i < t.length) : (gi t (i : Int)).length ≤ 3 ∧ (∀ x ∈ gi t (i : Int), 0 ≤ x) ∧ (gi t (i : Int)).sum ≤ 16 := by
  have hr := h.2.2.1 _ (mem_gi hi)
  exact ⟨hr.2.1, fun x hx => (hr.2.2.2 x hx).1, row_le_total h (mem_gi hi)⟩
theorem ordN_le2 {ks : List Nat} (hl : ks.length ≤ 3) : ordN 0 ks ≤ 4 ^ ks.sum := by
  have b : ∀ {n k : Nat}, bin n k ≤ 2 ^ n := fun {n k} => by
    cases n with
    | zero => cases k <;> simp [bin]
    | succ n => exact Nat.le_trans bin_le (Nat.pow_le_pow_right (by omega) (by omega))
  have four : ∀ n : Nat, 4 ^ n = 2 ^ n * 2 ^ n := fun n => by rw [show 4 = 2 * 2 by rfl, Nat.mul_pow]
  match ks, hl with
  | [], _ => simp [ordN]
  | [a], _ => simp [ordN, bin_self]; exact Nat.one_le_pow _ _ (by omega)
  | [a, c], _ =>
    simp [ordN, bin_self]
    refine Nat.le_trans b ?_
    exact Nat.pow_le_pow_left (by omega) _
  | [a, c, d], _ =>
    simp [ordN, bin_self]
    rw [four]
    exact Nat.mul_le_mul (Nat.le_trans b (Nat.pow_le_pow_right (by omega) (by omega))) (Nat.le_trans b (Nat.pow_le_pow_right (by omega) (by omega)))
  | _ :: _ :: _ :: _ :: _, h => simp at h
theorem ordL_le2 {xs : List Int} (hl : xs.length ≤ 3) (h0 : ∀ x ∈ xs, 0 ≤ x) : ordL xs ≤ 4 ^ xs.sum.toNat := by
  have h := ordN_le2 (ks := toN xs) (by unfold toN; simpa using hl)
  have e := toN_sum h0
  have : (toN xs).sum = xs.sum.toNat := by omega
  rwa [this] at h
theorem wayN_le : ∀ {t : List (List Int)}, (∀ r ∈ t, r.length ≤ 3 ∧ ∀ x ∈ r, 0 ≤ x) → wayN t ≤ 4 ^ (t.map List.sum).sum.toNat
  | [], _ => by simp [wayN]
  | r :: t, h => by
    have h1 := h r (by simp)
    have h2 := wayN_le (t := t) fun q hq => h q (by simp [hq])
    have h3 := ordL_le2 h1.1 h1.2
    have s1 := sum_nonneg h1.2
    have s2 : 0 ≤ (t.map List.sum).sum := sum_nonneg fun x hx => by
      obtain ⟨q, hq, rfl⟩ := List.mem_map.1 hx
      exact sum_nonneg (h q (by simp [hq])).2
    have e : ((r :: t).map List.sum).sum.toNat = (t.map List.sum).sum.toNat + r.sum.toNat := by
      rw [List.map_cons, List.sum_cons]; omega
    rw [e, Nat.pow_add]
    exact Nat.mul_le_mul h2 h3
theorem wayN_small {t : List (List Int)} (h : TabOk t) (i : Nat) : wayN (t.take i) ≤ 4294967296 := by
  have h1 : ∀ r ∈ t, r.length ≤ 3 ∧ ∀ x ∈ r, 0 ≤ x := fun r hr => ⟨(h.2.2.1 r hr).2.1, fun x hx => ((h.2.2.1 r hr).2.2.2 x hx).1⟩
  refine Nat.le_trans (wayN_le fun r hr => h1 r (List.mem_of_mem_take hr)) ?_
  have hn : ∀ x ∈ t.map List.sum, 0 ≤ x := fun x hx => by
    obtain ⟨q, hq, rfl⟩ := List.mem_map.1 hx
    exact sum_nonneg (h1 q hq).2
  have hle : ((t.take i).map List.sum).sum ≤ (t.map List.sum).sum := by
    rw [List.map_take]
    have h2 := sum_nonneg (xs := (t.map List.sum).drop i) fun x hx => hn x (List.mem_of_mem_drop hx)
    have h3 : (t.map List.sum).sum = ((t.map List.sum).take i).sum + ((t.map List.sum).drop i).sum := by rw [← List.sum_append, List.take_append_drop]
    omega
  have := h.2.2.2
  exact Nat.pow_le_pow_right (n := 4) (by omega) (show ((t.take i).map List.sum).sum.toNat ≤ 16 by omega)
theorem weight_ret {p : Nat → Prop} {H : Heap} {v : AV} {t : List (List Int)} (ht : Sl p H v t) (h : TabOk t) : RetP E 86 [v] H (.i (wayN t : Nat)) := by
  refine RetP.ro rfl fn86 rfl rfl ?_
  unfold f86A
  have hL := ht.L
  have h3 := h.2.1
  simp (disch := (first | assumption | omega | (simp only [List.length_append, List.length_cons, List.length_nil]; omega))) only [↓wD,wU,Nat.reduceBEq,zx150,zx151,zx159,zx160,zx161,zx162,Nat.reduceAdd,Nat.reduceSub,Nat.reduceMul,Nat.reduceLeDiff,Nat.reduceLT,Nat.reduceEqDiff,Int.reduceAdd,Int.reduceSub,Int.reduceMul,Int.reduceNeg,Int.reduceLT,Int.reduceLE,Int.reduceEq,Int.reduceToNat,Int.cast_ofNat_Int,↓reduceIte, hL]
  refine Wp.for t.length (fun i a H' => H' = H ∧ a 3 = .i (wayN (t.take i) : Nat) ∧ a 6 = v ∧ a 7 = .i t.length ∧ a 8 = .i i) ?_ ?_
  · rintro i a H' hi ⟨rfl, a3, a6, a7, a8⟩ ih
    simp (disch := (first | assumption | omega | (simp only [List.length_append, List.length_cons, List.length_nil]; omega))) only [↓wD,wU,Nat.reduceBEq,zx150,zx151,zx159,zx160,zx161,zx162,Nat.reduceAdd,Nat.reduceSub,Nat.reduceMul,Nat.reduceLeDiff,Nat.reduceLT,Nat.reduceEqDiff,Int.reduceAdd,Int.reduceSub,Int.reduceMul,Int.reduceNeg,Int.reduceLT,Int.reduceLE,Int.reduceEq,Int.reduceToNat,Int.cast_ofNat_Int,↓reduceIte, a3, a6, a7, a8]
    refine condP_split (fun hlt => ?_) (fun hlt => ?_)
    · have hi' : i < t.length := by omega
      have g := ht.get (k := (i : Int)) (by omega) (by omega)
      obtain ⟨o1, o2, o3⟩ := row_ord h hi'
      have ch := choose_ret g o1 o2 o3
      have e := wayN_take hi'
      have b1 := wayN_small h i
      have b2 := wayN_small h (i + 1)
      obtain ⟨X, eX⟩ : ∃ X, wayN (t.take i) = X := ⟨_, rfl⟩
      obtain ⟨Y, eY⟩ : ∃ Y, wayN (t.take (i + 1)) = Y := ⟨_, rfl⟩
      obtain ⟨Z, eZ⟩ : ∃ Z, ordL (gi t (i : Int)) = Z := ⟨_, rfl⟩
      rw [eX] at a3 b1 e
      rw [eY] at b2 e
      rw [eZ] at ch e
      have e' : (X : Int) * Z = Y := by rw [e]; simp
      clear o1 o2 o3 e
      simp (disch := (first | assumption | omega | (simp only [List.length_append, List.length_cons, List.length_nil]; omega))) only [↓wD,wU,Nat.reduceBEq,zx150,zx151,zx159,zx160,zx161,zx162,Nat.reduceAdd,Nat.reduceSub,Nat.reduceMul,Nat.reduceLeDiff,Nat.reduceLT,Nat.reduceEqDiff,Int.reduceAdd,Int.reduceSub,Int.reduceMul,Int.reduceNeg,Int.reduceLT,Int.reduceLE,Int.reduceEq,Int.reduceToNat,Int.cast_ofNat_Int,↓reduceIte, a3, a6, a7, a8, hL, ch.call, e']
      refine (ih hi').go ⟨rfl, ?_⟩
      simp (disch := (first | assumption | omega | (simp only [List.length_append, List.length_cons, List.length_nil]; omega))) only [↓wD,wU,Nat.reduceBEq,zx150,zx151,zx159,zx160,zx161,zx162,Nat.reduceAdd,Nat.reduceSub,Nat.reduceMul,Nat.reduceLeDiff,Nat.reduceLT,Nat.reduceEqDiff,Int.reduceAdd,Int.reduceSub,Int.reduceMul,Int.reduceNeg,Int.reduceLT,Int.reduceLE,Int.reduceEq,Int.reduceToNat,Int.cast_ofNat_Int,↓reduceIte, a3, a6, a7, a8, eY]
    · obtain rfl : i = t.length := by omega
      rw [List.take_length] at a3
      simp (disch := (first | assumption | omega | (simp only [List.length_append, List.length_cons, List.length_nil]; omega))) only [↓wD,wU,Nat.reduceBEq,zx150,zx151,zx159,zx160,zx161,zx162,Nat.reduceAdd,Nat.reduceSub,Nat.reduceMul,Nat.reduceLeDiff,Nat.reduceLT,Nat.reduceEqDiff,Int.reduceAdd,Int.reduceSub,Int.reduceMul,Int.reduceNeg,Int.reduceLT,Int.reduceLE,Int.reduceEq,Int.reduceToNat,Int.cast_ofNat_Int,↓reduceIte, a3]
  · (simp (disch := (first | assumption | omega | (simp only [List.length_append, List.length_cons, List.length_nil]; omega))) only [↓wD,wU,Nat.reduceBEq,zx150,zx151,zx159,zx160,zx161,zx162,Nat.reduceAdd,Nat.reduceSub,Nat.reduceMul,Nat.reduceLeDiff,Nat.reduceLT,Nat.reduceEqDiff,Int.reduceAdd,Int.reduceSub,Int.reduceMul,Int.reduceNeg,Int.reduceLT,Int.reduceLE,Int.reduceEq,Int.reduceToNat,Int.cast_ofNat_Int,↓reduceIte]) <;> simp [wayN]
end Go.Proofs.Ytflekaacffdakaa
namespace Go.Proofs.Ytflekaacffdakaa
open Go Go.AM Go.Proofs
theorem cols_ord {t : List (List Int)} (h : TabOk t) : (colSums t).length ≤ 3 ∧ (∀ x ∈ colSums t, 0 ≤ x) ∧ (colSums t).sum ≤ 16 := by
  have m := mg_cols h (cols_le h)
  exact ⟨m.2.1, fun x hx => (m.el x hx).1, cols_le h⟩
theorem ordL_small {xs : List Int} (hl : xs.length ≤ 3) (h0 : ∀ x ∈ xs, 0 ≤ x) (hs : xs.sum ≤ 16) : ordL xs ≤ 1073741824 ∧ 0 < ordL xs := by
  have e := toN_sum h0
  exact ⟨ordN_le (by unfold toN; simpa using hl) (by omega), ordN_pos⟩
def chF (t : List (List Int)) : Int × Int := fracN (wayN t) (ordL (colSums t))
theorem chance_ret {p : Nat → Prop} {H : Heap} {v : AV} {t : List (List Int)} (ht : Sl p H v t) (h : TabOk t) : RetP E 49 [v] H (.tp [.ag [.i (chF t).1, .i (chF t).2], .i 0]) := by
  refine RetP.ro rfl fn49 rfl rfl ?_
  unfold f49A
  have k0 := ht.app [.cells [.int .i64 0, .int .i64 0]]
  have hv := valid_ret k0
  rw [decide_eq_true h] at hv
  simp (disch := (first | assumption | omega | (simp only [List.length_append, List.length_cons, List.length_nil]; omega))) only [↓wD,wU,Nat.reduceBEq,zx150,zx151,zx159,zx160,zx161,zx162,Nat.reduceAdd,Nat.reduceSub,Nat.reduceMul,Nat.reduceLeDiff,Nat.reduceLT,Nat.reduceEqDiff,Int.reduceAdd,Int.reduceSub,Int.reduceMul,Int.reduceNeg,Int.reduceLT,Int.reduceLE,Int.reduceEq,Int.reduceToNat,Int.cast_ofNat_Int,↓reduceIte, hv.call, (weight_ret k0 h).call]
  refine (family_ret k0 h).toX fun w H1 x1 hw => ?_
  obtain ⟨cs, rfl, c1, c2, rfl, ⟨v1, rfl, q1⟩, ⟨v2, rfl, q2⟩⟩ := hw
  have c0 : H1[H.length]? = some (.cells [.i 0, .i 0]) := x1.get trivial (by simp)
  obtain ⟨o1, o2, o3⟩ := cols_ord h
  have ch := choose_ret q2 o1 o2 o3
  obtain ⟨b1, b2⟩ := ordL_small o1 o2 o3
  have b3 := wayN_small h t.length
  rw [List.take_length] at b3
  have fr := frac_ret (H := H1) (wayN t) (ordL (colSums t)) (by omega) (by omega) b2
  have eF : fracN (wayN t) (ordL (colSums t)) = chF t := rfl
  rw [eF] at fr
  generalize chF t = F at fr
  generalize ordL (colSums t) = D at fr ch
  generalize wayN t = N at fr
  obtain ⟨F1, F2⟩ := F
  simp only [List.singleton_append, List.cons_append, List.nil_append]
  have hst : st H.length H1 H.length 0 [.i F1, .i F2] = some (H1.set H.length (.cells [.i F1, .i F2])) := by rw [st_of c0 (Nat.le_refl _) (by simp)]; simp [wr]
  simp (disch := (first | assumption | omega | (simp only [List.length_append, List.length_cons, List.length_nil]; omega))) only [↓wD,wU,Nat.reduceBEq,zx150,zx151,zx159,zx160,zx161,zx162,Nat.reduceAdd,Nat.reduceSub,Nat.reduceMul,Nat.reduceLeDiff,Nat.reduceLT,Nat.reduceEqDiff,Int.reduceAdd,Int.reduceSub,Int.reduceMul,Int.reduceNeg,Int.reduceLT,Int.reduceLE,Int.reduceEq,Int.reduceToNat,Int.cast_ofNat_Int,↓reduceIte, ch.call, fr.call, hst, ldn_of (get_set c0)]
def tailN : List (List (List Int)) → Nat → Nat
  | [], _ => 0
  | u :: ts, w => tailN ts w + if wayN u ≤ w then wayN u else 0
theorem tailN_take {w : Nat} {ts : List (List (List Int))} : ∀ {i : Nat}, i < ts.length → tailN (ts.take (i + 1)) w = tailN (ts.take i) w + if wayN (gi ts (i : Int)) ≤ w then wayN (gi ts (i : Int)) else 0 := by
  induction ts with
  | nil => intro i h; simp at h
  | cons u ts ih =>
    intro i h
    cases i with
    | zero => simp [tailN]; rfl
    | succ i =>
      rw [List.take_succ_cons, List.take_succ_cons, gi_consS]
      show tailN (ts.take (i + 1)) w + _ = tailN (ts.take i) w + _ + _
      rw [ih (by simpa using h)]
      omega
theorem tailN_le {w : Nat} : ∀ {ts : List (List (List Int))}, (∀ u ∈ ts, wayN u ≤ 4294967296) → tailN ts w ≤ ts.length * 4294967296
  | [], _ => by simp [tailN]
  | u :: ts, h => by
    have h1 := h u (by simp)
    have h2 := tailN_le (w := w) (ts := ts) fun x hx => h x (by simp [hx])
    have e : tailN (u :: ts) w = tailN ts w + if wayN u ≤ w then wayN u else 0 := rfl
    rw [e, List.length_cons, Nat.add_mul, Nat.one_mul]
    refine Nat.add_le_add h2 ?_
    split
    · exact h1
    · exact Nat.zero_le _
def taF (t : List (List Int)) : Int × Int := fracN (tailN (tabsL (rowSums t) (colSums t)) (wayN t)) (ordL (colSums t))
/-- what the walks of Tail use -/
theorem tail_facts {t : List (List Int)} (h : TabOk t) : ∃ ts, tabsL (rowSums t) (colSums t) = ts ∧ (∀ i, tailN (ts.take i) (wayN t) ≤ 103670070174154752) ∧ ∀ i : Nat, i < ts.length → TabOk (gi ts (i : Int)) := by
  have h1 := mg_rows h
  have h2 := mg_cols h (cols_le h)
  refine ⟨_, rfl, fun i => ?_, fun i hi => (family_ok h (mem_gi hi)).1⟩
  have hts : (tabsL (rowSums t) (colSums t)).length ≤ 24137569 := by
    refine Nat.le_trans (tabsL_len2 h1.el h2.el h2.2.1) ?_
    have : 289 ^ (rowSums t).length ≤ 289 ^ 3 := Nat.pow_le_pow_right (by omega) h1.2.1
    omega
  have := tailN_le (w := wayN t) (ts := (tabsL (rowSums t) (colSums t)).take i) fun u hu => by
    have := wayN_small (family_ok h (List.mem_of_mem_take hu)).1 u.length
    rwa [List.take_length] at this
  rw [List.length_take] at this
  have h3 : min i (tabsL (rowSums t) (colSums t)).length * 4294967296 ≤ 24137569 * 4294967296 := Nat.mul_le_mul_right _ (by omega)
  omega
theorem tail_ret {p : Nat → Prop} {H : Heap} {v : AV} {t : List (List Int)} (ht : Sl p H v t) (h : TabOk t) : RetP E 50 [v] H (.tp [.ag [.i (taF t).1, .i (taF t).2], .i 0]) := by
  refine RetP.ro rfl fn50 rfl rfl ?_
  unfold f50A
  replace ht : Sl (fun b => b < H.length) H v t := ht.low.weak fun _ h => h.2
  have k0 := ht.app [.cells [.int .i64 0, .int .i64 0]]
  have hv := valid_ret k0
  rw [decide_eq_true h] at hv
  have b3 := wayN_small h t.length
  rw [List.take_length] at b3
  obtain ⟨W, eW⟩ : ∃ W, wayN t = W := ⟨_, rfl⟩
  have hw0 := weight_ret k0 h
  rw [eW] at hw0 b3
  obtain ⟨H2, eH2⟩ : ∃ H2, H ++ [.cells [.int .i64 0, .int .i64 0]] ++ [Blk.cells [.i (W : Nat)]] ++ [Blk.cells [.i 0]] = H2 := ⟨_, rfl⟩
  have x2 : Kx (fun _ => True) H H2 := by rw [← eH2]; exact ((Kx.app _ _ _).app' _).app' _
  have n2 : H2.length = H.length + 3 := by rw [← eH2]; simp
  have d0 : H2[H.length]? = some (.cells [.i 0, .i 0]) := by rw [← eH2]; simp
  have d1 : H2[H.length + 1]? = some (.cells [.i (W : Nat)]) := by rw [← eH2]; simp [List.getElem?_append]
  have d2 : H2[H.length + 2]? = some (.cells [.i 0]) := by rw [← eH2]; simp [List.getElem?_append]
  have hst1 : st H.length (H ++ [.cells [.int .i64 0, .int .i64 0]] ++ [Blk.cells [.int .i64 0]]) (H.length + 1) 0 [.i (W : Nat)] = some (H ++ [.cells [.int .i64 0, .int .i64 0]] ++ [Blk.cells [.i (W : Nat)]]) := by
    rw [st_of (cs := [.i 0]) (by simp [List.getElem?_append]) (by omega) (by simp)]
    congr 1
    simp [wr, List.set_append]
  have hst2 : st H.length H2 (H.length + 2) 0 [.i 0] = some H2 := by
    rw [st_of d2 (by omega) (by simp)]
    congr 1
    rw [← eH2]
    simp [wr, List.set_append]
  have k2 : Sl (fun b => b < H.length) H2 v t := ht.kp (x2.all _).kp
  simp (disch := (first | assumption | omega | (simp only [List.length_append, List.length_cons, List.length_nil]; omega))) only [↓wD,wU,Nat.reduceBEq,zx150,zx151,zx159,zx160,zx161,zx162,Nat.reduceAdd,Nat.reduceSub,Nat.reduceMul,Nat.reduceLeDiff,Nat.reduceLT,Nat.reduceEqDiff,Int.reduceAdd,Int.reduceSub,Int.reduceMul,Int.reduceNeg,Int.reduceLT,Int.reduceLE,Int.reduceEq,Int.reduceToNat,Int.cast_ofNat_Int,↓reduceIte, hv.call, hw0.call, hst1, eH2, hst2]
  refine (family_ret k2 h).toX fun w Hr x1 hw => ?_
  obtain ⟨cs, rfl, c1, c2, rfl, ⟨v1, rfl, q1⟩, ⟨v2, rfl, q2⟩⟩ := hw
  obtain ⟨ts, ets, hb, hok⟩ := tail_facts h
  rw [eW] at hb
  have r0 := x1.get trivial d0
  have r1 := x1.get trivial d1
  have r2 := x1.get trivial d2
  have nr := x1.1
  have q1' : Sl (fun b => ¬ b = H.length + 2) Hr v1 (rowSums t) := q1.weak fun b h => h.elim (fun h => h.elim) fun h => by omega
  have q2' : Sl (fun b => ¬ b = H.length + 2) Hr v2 (colSums t) := q2.weak fun b h => h.elim (fun h => h.elim) fun h => by omega
  have kr : Sl (fun b => b < H.length) Hr v t := k2.kp (x1.all _).kp
  have m1 := mg_rows h
  have m2 := mg_cols h (cols_le h)
  clear hst1 hst2 hw0 hv k0 eH2 d0 d1 d2
  simp only [List.singleton_append, List.cons_append, List.nil_append]
  simp (disch := (first | assumption | omega | (simp only [List.length_append, List.length_cons, List.length_nil]; omega))) only [↓wD,wU,Nat.reduceBEq,zx150,zx151,zx159,zx160,zx161,zx162,Nat.reduceAdd,Nat.reduceSub,Nat.reduceMul,Nat.reduceLeDiff,Nat.reduceLT,Nat.reduceEqDiff,Int.reduceAdd,Int.reduceSub,Int.reduceMul,Int.reduceNeg,Int.reduceLT,Int.reduceLE,Int.reduceEq,Int.reduceToNat,Int.cast_ofNat_Int,↓reduceIte, q1'.cellsV, q2'.cellsV]
  refine Wp.range (A := ArgT) ts (fun b => b = H.length + 2) (fun i K H1 => H1[H.length + 2]? = some (.cells [.i (tailN (ts.take i) W : Nat)]) ∧ H1[H.length + 1]? = some (.cells [.i W]) ∧ K (H.length + 2)) (fun j K H1 => False) (by (simp (disch := (first | assumption | omega | (simp only [List.length_append, List.length_cons, List.length_nil]; omega))) only [↓wD,wU,Nat.reduceBEq,zx150,zx151,zx159,zx160,zx161,zx162,Nat.reduceAdd,Nat.reduceSub,Nat.reduceMul,Nat.reduceLeDiff,Nat.reduceLT,Nat.reduceEqDiff,Int.reduceAdd,Int.reduceSub,Int.reduceMul,Int.reduceNeg,Int.reduceLT,Int.reduceLE,Int.reduceEq,Int.reduceToNat,Int.cast_ofNat_Int,↓reduceIte]) <;> rfl) rfl (by omega) (fun b h => by omega) argT_len ?_ ?_ ?_ ?_ ?_ ?_ ?_
  · intro K' H1 Q' e hx' hK' hI
    rw [← ets] at hI
    exact family_range (by omega) q1' q2' m1 m2 (fun b h => by omega) e hx' hK' hI
  · exact fun i K H1 H2 h hx => ⟨hx.get (.inr h.2.2) h.1, hx.get (.inl (by omega)) h.2.1, h.2.2⟩
  · exact fun j K H1 H2 h hx => h.elim
  · exact ⟨r2, r1, rfl⟩
  · rintro i hi K Ki args H1 ⟨c1, c2, c3⟩ ⟨x, rfl, hu⟩ hKi hK hx hl1 hlr hKK
    simp (disch := (first | assumption | omega | (simp only [List.length_append, List.length_cons, List.length_nil]; omega))) only [↓wD,wU,Nat.reduceBEq,zx150,zx151,zx159,zx160,zx161,zx162,Nat.reduceAdd,Nat.reduceSub,Nat.reduceMul,Nat.reduceLeDiff,Nat.reduceLT,Nat.reduceEqDiff,Int.reduceAdd,Int.reduceSub,Int.reduceMul,Int.reduceNeg,Int.reduceLT,Int.reduceLE,Int.reduceEq,Int.reduceToNat,Int.cast_ofNat_Int,↓reduceIte, zx188 (lo := H.length) hlr (by omega), zx189, zx190]
    generalize e2 : H1.set Hr.length _ = H2
    have x12 : Kx (fun b => b ≠ Hr.length) H1 H2 := by rw [← e2]; exact Kx.set _ _ _
    have gl := gset e2 hlr
    have g1 := x12.get (b := H.length + 2) (by omega) c1
    have g2 := x12.get (b := H.length + 1) (by omega) c2
    have hu2 : Sl Ki H2 x ts[i] := hu.low.kp (x12.weak (q := fun b => Ki b ∧ b < H1.length) fun b _ h => by have := (hKi b h.1).1; omega).kp |>.weak fun b h => h.1
    have eg : ts[i] = gi ts (i : Int) := (gi_nat hi).symm
    rw [eg] at hu2
    have wr := weight_ret hu2 (hok i hi)
    have et := tailN_take (w := W) hi
    have b1 := hb i
    have b2 := hb (i + 1)
    have bw := wayN_small (hok i hi) (gi ts (i : Int)).length
    rw [List.take_length] at bw
    generalize wayN (gi ts (i : Int)) = Y at wr et bw
    generalize tailN (ts.take i) W = T0 at g1 et b1
    generalize tailN (ts.take (i + 1)) W = T1 at et b2 ⊢
    clear e2
    by_cases hc : Y ≤ W
    · rw [if_pos hc] at et
      subst et
      have hd : decide ((Y : Int) ≤ W) = true := decide_eq_true (by omega)
      have hst : st H.length H2 (H.length + 2) 0 [.i ((T0 : Int) + Y)] = some (H2.set (H.length + 2) (.cells [.i ((T0 : Int) + Y)])) := by rw [st_of g1 (by omega) (by simp)]; simp [Go.AM.wr]
      simp (disch := (first | assumption | omega | (simp only [List.length_append, List.length_cons, List.length_nil]; omega))) only [↓wD,wU,Nat.reduceBEq,zx150,zx151,zx159,zx160,zx161,zx162,Nat.reduceAdd,Nat.reduceSub,Nat.reduceMul,Nat.reduceLeDiff,Nat.reduceLT,Nat.reduceEqDiff,Int.reduceAdd,Int.reduceSub,Int.reduceMul,Int.reduceNeg,Int.reduceLT,Int.reduceLE,Int.reduceEq,Int.reduceToNat,Int.cast_ofNat_Int,↓reduceIte, wr.call, ld_of g2, ld_of g1, hd, hst]
      refine ⟨?_, ?_, ?_, ?_, .inl c3⟩
      · rw [List.getElem?_set_ne (by omega)]; exact gl
      · exact (x12.weak fun b _ h => h.2).set' (fun _ h => h.1 (.inl c3)) _
      · rw [get_set g1]; try simp
      · rw [List.getElem?_set_ne (by omega)]; exact g2
    · rw [if_neg hc, Nat.add_zero] at et
      subst et
      have hd : decide ((Y : Int) ≤ W) = false := decide_eq_false (by omega)
      simp (disch := (first | assumption | omega | (simp only [List.length_append, List.length_cons, List.length_nil]; omega))) only [↓wD,wU,Nat.reduceBEq,zx150,zx151,zx159,zx160,zx161,zx162,Nat.reduceAdd,Nat.reduceSub,Nat.reduceMul,Nat.reduceLeDiff,Nat.reduceLT,Nat.reduceEqDiff,Int.reduceAdd,Int.reduceSub,Int.reduceMul,Int.reduceNeg,Int.reduceLT,Int.reduceLE,Int.reduceEq,Int.reduceToNat,Int.cast_ofNat_Int,↓reduceIte, wr.call, ld_of g2, hd]
      exact ⟨gl, x12.weak fun b _ h => h.2, g1, g2, .inl c3⟩
  · rintro K H1 ⟨c1, _, _⟩ hx hl1
    rw [List.take_length] at c1
    have kt : Sl (fun b => b < H.length) H1 v t := kr.kp (hx.weak fun b _ h => by omega).kp
    have r0' := hx.get (b := H.length) (by omega) r0
    have hbl := hb ts.length
    rw [List.take_length] at hbl
    simp (disch := (first | assumption | omega | (simp only [List.length_append, List.length_cons, List.length_nil]; omega))) only [↓wD,wU,Nat.reduceBEq,zx150,zx151,zx159,zx160,zx161,zx162,Nat.reduceAdd,Nat.reduceSub,Nat.reduceMul,Nat.reduceLeDiff,Nat.reduceLT,Nat.reduceEqDiff,Int.reduceAdd,Int.reduceSub,Int.reduceMul,Int.reduceNeg,Int.reduceLT,Int.reduceLE,Int.reduceEq,Int.reduceToNat,Int.cast_ofNat_Int,↓reduceIte, ld_of c1]
    refine (family_ret kt h).toX fun w H3 x3 hw => ?_
    obtain ⟨cs, rfl, c1, c2, rfl, ⟨v3, rfl, p1⟩, ⟨v4, rfl, p2⟩⟩ := hw
    have z0 := x3.get trivial r0'
    obtain ⟨o1, o2, o3⟩ := cols_ord h
    have ch := choose_ret p2 o1 o2 o3
    obtain ⟨d1, d2⟩ := ordL_small o1 o2 o3
    have fr := frac_ret (H := H3) (tailN ts W) (ordL (colSums t)) (by omega) (by omega) d2
    have eF : fracN (tailN ts W) (ordL (colSums t)) = taF t := by rw [← ets, ← eW]; rfl
    rw [eF] at fr
    generalize taF t = F at fr
    generalize ordL (colSums t) = D at fr ch
    generalize tailN ts W = N at fr
    obtain ⟨F1, F2⟩ := F
    simp only [List.singleton_append, List.cons_append, List.nil_append]
    have hst : st H.length H3 H.length 0 [.i F1, .i F2] = some (H3.set H.length (.cells [.i F1, .i F2])) := by rw [st_of z0 (Nat.le_refl _) (by simp)]; simp [wr]
    simp (disch := (first | assumption | omega | (simp only [List.length_append, List.length_cons, List.length_nil]; omega))) only [↓wD,wU,Nat.reduceBEq,zx150,zx151,zx159,zx160,zx161,zx162,Nat.reduceAdd,Nat.reduceSub,Nat.reduceMul,Nat.reduceLeDiff,Nat.reduceLT,Nat.reduceEqDiff,Int.reduceAdd,Int.reduceSub,Int.reduceMul,Int.reduceNeg,Int.reduceLT,Int.reduceLE,Int.reduceEq,Int.reduceToNat,Int.cast_ofNat_Int,↓reduceIte, ch.call, fr.call, hst, ldn_of (get_set z0)]
  · exact fun j K H' h _ _ => h.elim
end Go.Proofs.Ytflekaacffdakaa
namespace Go.Proofs.Ytflekaacffdakaa
open Go Go.AM Go.Proofs
def fac : Nat → Nat
  | 0 => 1
  | n + 1 => (n + 1) * fac n
theorem fac_pos : ∀ n, 0 < fac n
  | 0 => by simp [fac]
  | n + 1 => Nat.mul_pos (by omega) (fac_pos n)
theorem bin_fac : ∀ {a b : Nat}, bin (a + b) b * (fac a * fac b) = fac (a + b)
  | a, 0 => by rw [bin_0]; simp [fac]
  | a, b + 1 => by
    have h := bin_fac (a := a) (b := b)
    have m := bin_mul (n := a + b) (k := b)
    have e : fac (b + 1) = (b + 1) * fac b := rfl
    have e2 : fac (a + (b + 1)) = (a + b + 1) * fac (a + b) := rfl
    rw [e, e2, ← h, ← Nat.add_assoc]
    calc bin (a + b + 1) (b + 1) * (fac a * ((b + 1) * fac b)) = (bin (a + b + 1) (b + 1) * (b + 1)) * (fac a * fac b) := by grind
      _ = _ := by rw [m]; grind
def pfacN : List Nat → Nat
  | [] => 1
  | k :: ks => fac k * pfacN ks
theorem ordN_fac : ∀ {ks : List Nat} {n : Nat}, ordN n ks * (fac n * pfacN ks) = fac (n + ks.sum)
  | [], n => by simp [ordN, pfacN]
  | k :: ks, n => by
    have h := ordN_fac (ks := ks) (n := n + k)
    have b := bin_fac (a := n) (b := k)
    rw [List.sum_cons, ← Nat.add_assoc, ← h, ← b]
    show bin (n + k) k * ordN (n + k) ks * (fac n * (fac k * pfacN ks)) = _
    grind
theorem pfacN_pos : ∀ {ks : List Nat}, 0 < pfacN ks
  | [] => by simp [pfacN]
  | k :: ks => Nat.mul_pos (fac_pos k) pfacN_pos
theorem ordL_fac (xs : List Int) : ordL xs * pfacN (toN xs) = fac (toN xs).sum := by
  have := ordN_fac (ks := toN xs) (n := 0)
  rw [Nat.zero_add] at this
  rw [← this]
  show ordN 0 (toN xs) * _ = ordN 0 (toN xs) * (fac 0 * _)
  rw [show fac 0 = 1 from rfl, Nat.one_mul]
/-! ### Vandermonde -/
def lsum {α : Type} (f : α → Nat) : List α → Nat
  | [] => 0
  | x :: l => f x + lsum f l
theorem lsum_map {α β : Type} {f : β → Nat} {g : α → β} : ∀ {l : List α}, lsum f (l.map g) = lsum (fun x => f (g x)) l
  | [] => rfl
  | x :: l => by
    rw [List.map_cons]
    show f (g x) + lsum f (l.map g) = _
    rw [lsum_map]; rfl
theorem lsum_congr {α : Type} {f g : α → Nat} : ∀ {l : List α}, (∀ x ∈ l, f x = g x) → lsum f l = lsum g l
  | [], _ => rfl
  | x :: l, h => by
    show f x + lsum f l = g x + lsum g l
    rw [h x (by simp), lsum_congr fun y hy => h y (by simp [hy])]
theorem lsum_mul {α : Type} {f : α → Nat} {c : Nat} : ∀ {l : List α}, lsum (fun x => c * f x) l = c * lsum f l
  | [] => rfl
  | x :: l => by
    show c * f x + lsum (fun x => c * f x) l = c * (f x + lsum f l)
    rw [lsum_mul, Nat.mul_add]
end Go.Proofs.Ytflekaacffdakaa
namespace Go.Proofs.Ytflekaacffdakaa
open Go Go.AM Go.Proofs
theorem cmpT_refl : ∀ t : List (List Int), cmpT t t = 0
  | [] => rfl
  | r :: t => by simp [cmpT, cmpL_refl, cmpT_refl t]
end Go.Proofs.Ytflekaacffdakaa
namespace Go.Proofs.Ytflekaacffdakaa
open Go Go.AM Go.Proofs
abbrev Tab := List (List Int)
abbrev famT (t : Tab) : List Tab := tabsL (rowSums t) (colSums t)
theorem frac_prop {A D A' D' R R' : Nat} (hR : 0 < R) (hR' : 0 < R') (h1 : A * R' = A' * R) (h2 : D * R' = D' * R) : fracN A D = fracN A' D' := by
  rw [← fracN_scale (m := A) (n := D) hR', ← fracN_scale (m := A') (n := D') hR, Nat.mul_comm R' A, Nat.mul_comm R' D, h1, h2, Nat.mul_comm A' R, Nat.mul_comm D' R]
def ceT : Tab → Nat
  | [] => 1
  | r :: t => pfacN (toN r) * ceT t
theorem toN_sum' {xs : List Int} (h : ∀ x ∈ xs, 0 ≤ x) : (toN xs).sum = xs.sum.toNat := by
  have := toN_sum h
  omega
theorem way_ce : ∀ {t : Tab}, (∀ r ∈ t, ∀ x ∈ r, 0 ≤ x) → wayN t * ceT t = pfacN (toN (rowSums t))
  | [], _ => rfl
  | r :: t, h => by
    have ih := way_ce (t := t) fun r hr => h r (by simp [hr])
    have hr := ordL_fac r
    rw [toN_sum' (h r (by simp))] at hr
    have e : pfacN (toN (rowSums (r :: t))) = fac r.sum.toNat * pfacN (toN (rowSums t)) := rfl
    rw [e, ← ih, ← hr]
    simp only [wayN, ceT]
    grind
def rP (t : Tab) : Nat := pfacN (toN (rowSums t))
def cP (t : Tab) : Nat := pfacN (toN (colSums t))
/-- a symmetry of t's family -/
structure Sym (t u : Tab) (φ ψ : Tab → Tab) : Prop where
  ok : TabOk t
  ok' : TabOk u
  it : φ t = u
  fam : ∀ s, s ∈ famT t → φ s ∈ famT u
  fam' : ∀ s, s ∈ famT u → ψ s ∈ famT t
  inv : ∀ s, s ∈ famT t → ψ (φ s) = s
  inv' : ∀ s, s ∈ famT u → φ (ψ s) = s
  ce : ∀ s, s ∈ famT t → ceT (φ s) = ceT s
  rc : rP u * cP u = rP t * cP t
  nn : (toN (colSums u)).sum = (toN (colSums t)).sum
theorem fam_way {t s : Tab} (h : TabOk t) (hs : s ∈ famT t) : wayN s * ceT s = rP t := by
  obtain ⟨h1, h2, h3⟩ := family_ok h hs
  unfold rP
  rw [← h2]
  exact way_ce fun r hr x hx => ((h1.2.2.1 r hr).2.2.2 x hx).1
theorem lsum_erase {α : Type} [BEq α] [LawfulBEq α] {f : α → Nat} {x : α} : ∀ {l : List α}, x ∈ l → lsum f l = f x + lsum f (l.erase x)
  | y :: l, h => by
    by_cases e : y = x
    · subst e; simp [lsum]
    · rcases List.mem_cons.1 h with rfl | h
      · exact absurd rfl e
      · have ih := lsum_erase (f := f) h
        rw [List.erase_cons_tail (by simpa using e)]
        simp only [lsum, ih]
        omega
theorem lsum_sub {α : Type} [BEq α] [LawfulBEq α] {f : α → Nat} : ∀ {l l' : List α}, l.Nodup → (∀ x ∈ l, x ∈ l') → lsum f l ≤ lsum f l'
  | [], _, _, _ => Nat.zero_le _
  | x :: l, l', hn, hs => by
    have hx := hs x (by simp)
    have h1 := lsum_sub (f := f) (l' := l'.erase x) (List.nodup_cons.1 hn).2 fun y hy => by
      have hne : y ≠ x := fun e => (List.nodup_cons.1 hn).1 (e ▸ hy)
      exact (List.mem_erase_of_ne hne).2 (hs y (by simp [hy]))
    rw [lsum_erase hx]
    simp only [lsum]
    omega
theorem fam_nodup {t : Tab} : (famT t).Nodup := (tabsL_order (rs := rowSums t) (L := colSums t)).imp fun {a b} h e => by
  rw [e, cmpT_refl] at h
  omega
theorem tailN_lsum {w : Nat} : ∀ {ts : List Tab}, tailN ts w = lsum (fun s => if wayN s ≤ w then wayN s else 0) ts
  | [] => rfl
  | s :: ts => by
    have := tailN_lsum (w := w) (ts := ts)
    simp only [tailN, lsum, this]
    omega
theorem lsum_mul' {α : Type} {f : α → Nat} {c : Nat} {l : List α} : lsum f l * c = lsum (fun x => f x * c) l := by
  rw [Nat.mul_comm, ← lsum_mul]
  exact lsum_congr fun x _ => Nat.mul_comm _ _
section
variable {t u : Tab} {φ ψ : Tab → Tab}
theorem Sym.bij (h : Sym t u φ ψ) (f : Tab → Nat) : lsum f (famT u) = lsum (fun s => f (φ s)) (famT t) := by
  have e := lsum_map (f := f) (g := φ) (l := famT t)
  rw [← e]
  apply Nat.le_antisymm
  · refine lsum_sub fam_nodup fun s hs => List.mem_map.2 ⟨ψ s, h.fam' s hs, h.inv' s hs⟩
  · refine lsum_sub ?_ fun s hs => ?_
    · rw [List.nodup_iff_pairwise_ne, List.pairwise_map]
      refine (List.nodup_iff_pairwise_ne.1 fam_nodup).imp_of_mem fun {a b} ha hb hne e => hne ?_
      rw [← h.inv a ha, e, h.inv b hb]
    · obtain ⟨a, ha, rfl⟩ := List.mem_map.1 hs
      exact h.fam a ha
theorem Sym.way (h : Sym t u φ ψ) {s : Tab} (hs : s ∈ famT t) : wayN (φ s) * rP t = wayN s * rP u := by
  have h1 := fam_way h.ok hs
  have h2 := fam_way h.ok' (h.fam s hs)
  rw [h.ce s hs] at h2
  rw [← h1, ← h2]
  grind
theorem rP_pos {t : Tab} : 0 < rP t := pfacN_pos
theorem Sym.den (h : Sym t u φ ψ) : ordL (colSums u) * rP t = ordL (colSums t) * rP u := by
  have h1 := ordL_fac (colSums u)
  have h2 := ordL_fac (colSums t)
  rw [h.nn, ← h2] at h1
  change ordL (colSums u) * cP u = ordL (colSums t) * cP t at h1
  have h3 := h.rc
  have hp : 0 < cP t := pfacN_pos
  have hp' : 0 < cP u := pfacN_pos
  apply Nat.eq_of_mul_eq_mul_right hp
  calc ordL (colSums u) * rP t * cP t = ordL (colSums u) * (rP t * cP t) := Nat.mul_assoc _ _ _
    _ = ordL (colSums u) * (rP u * cP u) := by rw [h3]
    _ = ordL (colSums u) * cP u * rP u := by rw [Nat.mul_comm (rP u), ← Nat.mul_assoc]
    _ = ordL (colSums t) * cP t * rP u := by rw [h1]
    _ = ordL (colSums t) * rP u * cP t := by rw [Nat.mul_assoc, Nat.mul_comm (cP t), ← Nat.mul_assoc]
theorem Sym.chance (h : Sym t u φ ψ) : chF u = chF t := by
  unfold chF
  have := h.way (family_has h.ok)
  rw [h.it] at this
  exact frac_prop rP_pos rP_pos this h.den
theorem Sym.tail (h : Sym t u φ ψ) : taF u = taF t := by
  unfold taF
  refine frac_prop (R := rP u) (R' := rP t) rP_pos rP_pos ?_ h.den
  have ht := h.way (family_has h.ok)
  rw [h.it] at ht
  rw [tailN_lsum, tailN_lsum]
  change lsum _ (famT u) * rP t = lsum _ (famT t) * rP u
  rw [h.bij, lsum_mul', lsum_mul']
  refine lsum_congr fun s hs => ?_
  have hw := h.way hs
  have hiff : wayN (φ s) ≤ wayN u ↔ wayN s ≤ wayN t := by
    constructor
    · intro q
      have := Nat.mul_le_mul_right (rP t) q
      rw [hw, ht] at this
      exact Nat.le_of_mul_le_mul_right this rP_pos
    · intro q
      have := Nat.mul_le_mul_right (rP u) q
      rw [← hw, ← ht] at this
      exact Nat.le_of_mul_le_mul_right this rP_pos
  by_cases q : wayN s ≤ wayN t
  · simp only [if_pos q, if_pos (hiff.2 q)]; exact hw
  · simp only [if_neg q, if_neg fun z => q (hiff.1 z), Nat.zero_mul]
end
end Go.Proofs.Ytflekaacffdakaa
namespace Go.Proofs.Ytflekaacffdakaa
open Go Go.AM Go.Proofs
theorem len3 {α : Type} {l : List α} (h1 : 1 ≤ l.length) (h3 : l.length ≤ 3) : (∃ a, l = [a]) ∨ (∃ a b, l = [a, b]) ∨ ∃ a b c, l = [a, b, c] := by
  match l, h1, h3 with
  | [a], _, _ => exact .inl ⟨a, rfl⟩
  | [a, b], _, _ => exact .inr (.inl ⟨a, b, rfl⟩)
  | [a, b, c], _, _ => exact .inr (.inr ⟨a, b, c, rfl⟩)
theorem len1 {r : List Int} (h : r.length = 1) : ∃ a, r = [a] := by
  match r, h with
  | [a], _ => exact ⟨a, rfl⟩
theorem len2 {r : List Int} (h : r.length = 2) : ∃ a b, r = [a, b] := by
  match r, h with
  | [a, b], _ => exact ⟨a, b, rfl⟩
theorem len3' {r : List Int} (h : r.length = 3) : ∃ a b c, r = [a, b, c] := by
  match r, h with
  | [a, b, c], _ => exact ⟨a, b, c, rfl⟩
theorem shapes {P : Tab → Prop} {t : Tab} (h : TabOk t) (c11 : ∀ a, TabOk [[a]] → P [[a]]) (c12 : ∀ a b, TabOk [[a, b]] → P [[a, b]]) (c13 : ∀ a b c, TabOk [[a, b, c]] → P [[a, b, c]])
    (c21 : ∀ a b, TabOk [[a], [b]] → P [[a], [b]]) (c22 : ∀ a b c d, TabOk [[a, b], [c, d]] → P [[a, b], [c, d]]) (c23 : ∀ a b c d e f, TabOk [[a, b, c], [d, e, f]] → P [[a, b, c], [d, e, f]])
    (c31 : ∀ a b c, TabOk [[a], [b], [c]] → P [[a], [b], [c]]) (c32 : ∀ a b c d e f, TabOk [[a, b], [c, d], [e, f]] → P [[a, b], [c, d], [e, f]]) (c33 : ∀ a b c d e f g i j, TabOk [[a, b, c], [d, e, f], [g, i, j]] → P [[a, b, c], [d, e, f], [g, i, j]]) : P t := by
  have hr := h.2.2.1
  rcases len3 h.1 h.2.1 with ⟨r, rfl⟩ | ⟨r, s, rfl⟩ | ⟨r, s, q, rfl⟩
  · have h1 := hr r (by simp)
    rcases len3 h1.1 h1.2.1 with ⟨a, rfl⟩ | ⟨a, b, rfl⟩ | ⟨a, b, c, rfl⟩
    · exact c11 a h
    · exact c12 a b h
    · exact c13 a b c h
  · have h1 := hr r (by simp)
    have h2 := (hr s (by simp)).2.2.1
    rcases len3 h1.1 h1.2.1 with ⟨a, rfl⟩ | ⟨a, b, rfl⟩ | ⟨a, b, c, rfl⟩
    · obtain ⟨d, rfl⟩ := len1 h2; exact c21 a d h
    · obtain ⟨d, e, rfl⟩ := len2 h2; exact c22 a b d e h
    · obtain ⟨d, e, f, rfl⟩ := len3' h2; exact c23 a b c d e f h
  · have h1 := hr r (by simp)
    have h2 := (hr s (by simp)).2.2.1
    have h3 := (hr q (by simp)).2.2.1
    rcases len3 h1.1 h1.2.1 with ⟨a, rfl⟩ | ⟨a, b, rfl⟩ | ⟨a, b, c, rfl⟩
    · obtain ⟨d, rfl⟩ := len1 h2; obtain ⟨e, rfl⟩ := len1 h3; exact c31 a d e h
    · obtain ⟨d, e, rfl⟩ := len2 h2; obtain ⟨f, g, rfl⟩ := len2 h3; exact c32 a b d e f g h
    · obtain ⟨d, e, f, rfl⟩ := len3' h2; obtain ⟨g, i, j, rfl⟩ := len3' h3; exact c33 a b c d e f g i j h
def TF (t : Tab) : Prop := TabOk (turnT t) ∧ rowSums (turnT t) = colSums t ∧ colSums (turnT t) = rowSums t ∧ turnT (turnT t) = t ∧ ceT (turnT t) = ceT t ∧ (rowSums t).sum = (colSums t).sum
theorem turn_facts {t : Tab} (h : TabOk t) : TF t := by
  refine shapes (P := TF) h ?_ ?_ ?_ ?_ ?_ ?_ ?_ ?_ ?_
  all_goals
    intros
    rename_i h
    simp [TabOk, RowOk, OkN, gi] at h
    refine ⟨?_, ?_, ?_, rfl, ?_, ?_⟩
    · simp [turnT, TabOk, RowOk, OkN, gi, List.range, List.range.loop]; omega
    · simp [turnT, rowSums, colSums, colPart, gi, List.range, List.range.loop] <;> omega
    · simp [turnT, rowSums, colSums, colPart, gi, List.range, List.range.loop] <;> omega
    · simp [turnT, ceT, toN, pfacN, gi, List.range, List.range.loop] <;> grind
    · simp [rowSums, colSums, colPart, gi, List.range, List.range.loop] <;> omega
def swG {α : Type} [Inhabited α] (a b : Nat) (t : List α) : List α := (t.set a (gi t (b : Int))).set b (gi t (a : Int))
def SF (a b : Nat) (t : Tab) : Prop := TabOk (swG a b t) ∧ rowSums (swG a b t) = swG a b (rowSums t) ∧ colSums (swG a b t) = colSums t ∧ swG a b (swG a b t) = t ∧ ceT (swG a b t) = ceT t ∧ rP (swG a b t) = rP t
theorem swap_facts {t : Tab} (h : TabOk t) : ∀ a b : Nat, a < t.length → b < t.length → SF a b t := by
  refine shapes (P := fun t => ∀ a b : Nat, a < t.length → b < t.length → SF a b t) h ?_ ?_ ?_ ?_ ?_ ?_ ?_ ?_ ?_
  all_goals
    intros
    rename_i h a b ha hb
    simp only [List.length_cons, List.length_nil, Nat.zero_add, Nat.reduceAdd] at ha hb
    simp [TabOk, RowOk, OkN, gi] at h
    have ha' : a = 0 ∨ a = 1 ∨ a = 2 := by omega
    have hb' : b = 0 ∨ b = 1 ∨ b = 2 := by omega
    rcases ha' with rfl | rfl | rfl <;> rcases hb' with rfl | rfl | rfl <;> first
      | (exfalso; omega)
      | (refine ⟨?_, rfl, ?_, rfl, ?_, ?_⟩
         · simp [swG, TabOk, RowOk, OkN, gi]; omega
         · simp [swG, colSums, colPart, gi, List.range, List.range.loop] <;> omega
         · simp [swG, ceT, toN, pfacN, gi] <;> grind
         · simp [swG, rP, rowSums, toN, pfacN, gi] <;> grind)
end Go.Proofs.Ytflekaacffdakaa
namespace Go.Proofs.Ytflekaacffdakaa
open Go Go.AM Go.Proofs
theorem rows_nonneg {t : Tab} (h : TabOk t) : ∀ x ∈ rowSums t, 0 ≤ x := fun x hx => (rowSums_le h x hx).1
theorem cols_nonneg {t : Tab} (h : TabOk t) : ∀ x ∈ colSums t, 0 ≤ x := fun x hx => (colSums_le h x hx).1
theorem fam_of {s u : Tab} (h : TabOk s) (h1 : rowSums s = rowSums u) (h2 : colSums s = colSums u) : s ∈ famT u := by
  have := family_has h
  rwa [h1, h2] at this
theorem sym_turn {t : Tab} (h : TabOk t) : Sym t (turnT t) turnT turnT := by
  obtain ⟨k1, k2, k3, k4, k5, k6⟩ := turn_facts h
  refine ⟨h, k1, rfl, fun s hs => ?_, fun s hs => ?_, fun s hs => ?_, fun s hs => ?_, fun s hs => ?_, ?_, ?_⟩
  · obtain ⟨q1, q2, q3⟩ := family_ok h hs
    obtain ⟨f1, f2, f3, _⟩ := turn_facts q1
    exact fam_of f1 (by rw [f2, q3, k2]) (by rw [f3, q2, k3])
  · obtain ⟨q1, q2, q3⟩ := family_ok k1 hs
    obtain ⟨f1, f2, f3, _⟩ := turn_facts q1
    exact fam_of f1 (by rw [f2, q3, k3]) (by rw [f3, q2, k2])
  · exact (turn_facts (family_ok h hs).1).2.2.2.1
  · exact (turn_facts (family_ok k1 hs).1).2.2.2.1
  · exact (turn_facts (family_ok h hs).1).2.2.2.2.1
  · unfold rP cP
    rw [k2, k3, Nat.mul_comm]
  · rw [k3, toN_sum' (rows_nonneg h), toN_sum' (cols_nonneg h), k6]
theorem sym_swap {t : Tab} (h : TabOk t) {a b : Nat} (ha : a < t.length) (hb : b < t.length) : Sym t (swG a b t) (swG a b) (swG a b) := by
  obtain ⟨k1, k2, k3, k4, k5, k6⟩ := swap_facts h a b ha hb
  have hl : ∀ {u s : Tab}, rowSums s = rowSums u → s.length = u.length := fun {u s} e => by
    rw [← rowSums_len (t := s), e, rowSums_len]
  have lu : (swG a b t).length = t.length := by simp [swG]
  refine ⟨h, k1, rfl, fun s hs => ?_, fun s hs => ?_, fun s hs => ?_, fun s hs => ?_, fun s hs => ?_, ?_, ?_⟩
  · obtain ⟨q1, q2, q3⟩ := family_ok h hs
    obtain ⟨f1, f2, f3, _⟩ := swap_facts q1 a b (by rw [hl q2]; exact ha) (by rw [hl q2]; exact hb)
    exact fam_of f1 (by rw [f2, q2, k2]) (by rw [f3, q3, k3])
  · obtain ⟨q1, q2, q3⟩ := family_ok k1 hs
    have l2 : s.length = t.length := by rw [hl q2, lu]
    obtain ⟨f1, f2, f3, _⟩ := swap_facts q1 a b (by omega) (by omega)
    refine fam_of f1 ?_ (by rw [f3, q3, k3])
    rw [f2, q2, k2]
    obtain ⟨_, g2, _, g4, _⟩ := swap_facts k1 a b (by omega) (by omega)
    rw [← k2, ← g2, k4]
  · obtain ⟨q1, q2, q3⟩ := family_ok h hs
    exact (swap_facts q1 a b (by rw [hl q2]; exact ha) (by rw [hl q2]; exact hb)).2.2.2.1
  · obtain ⟨q1, q2, q3⟩ := family_ok k1 hs
    exact (swap_facts q1 a b (by rw [hl q2, lu]; exact ha) (by rw [hl q2, lu]; exact hb)).2.2.2.1
  · obtain ⟨q1, q2, q3⟩ := family_ok h hs
    exact (swap_facts q1 a b (by rw [hl q2]; exact ha) (by rw [hl q2]; exact hb)).2.2.2.2.1
  · rw [k6]; unfold cP; rw [k3]
  · rw [k3]
/-! ### Off -/
def sumR (n : Nat) (f : Nat → Nat) : Nat := ((List.range n).map f).sum
theorem sumR_s (n : Nat) (f : Nat → Nat) : sumR (n + 1) f = sumR n f + f n := by
  unfold sumR
  rw [List.range_succ, List.map_append, List.sum_append]
  simp
theorem sumR_0 (f : Nat → Nat) : sumR 0 f = 0 := rfl
theorem sumR_add (n : Nat) (f g : Nat → Nat) : sumR n (fun i => f i + g i) = sumR n f + sumR n g := by
  induction n with
  | zero => rfl
  | succ n ih => rw [sumR_s, sumR_s, sumR_s, ih]; omega
theorem sumR_zero (n : Nat) : sumR n (fun _ => 0) = 0 := by
  induction n with
  | zero => rfl
  | succ n ih => rw [sumR_s, ih]
theorem sumR_swap (n m : Nat) (f : Nat → Nat → Nat) : sumR n (fun i => sumR m fun j => f i j) = sumR m fun j => sumR n fun i => f i j := by
  induction n with
  | zero => simp only [sumR_0, sumR_zero]
  | succ n ih => simp only [sumR_s, sumR_add, ih]
theorem sumR_congr {n : Nat} {f g : Nat → Nat} (h : ∀ i, i < n → f i = g i) : sumR n f = sumR n g := by
  unfold sumR
  rw [List.map_congr_left fun i hi => h i (List.mem_range.1 hi)]
theorem offP_R {t : Tab} {n : Nat} : offP t n = sumR n fun i => sumR (gi t 0).length fun j => qN t i j * sqN t i j := rfl
theorem gi_turn {t : Tab} {i j : Nat} (hi : i < t.length) (hj : j < (gi t 0).length) : gi (gi (turnT t) (j : Int)) (i : Int) = gi (gi t (i : Int)) (j : Int) := by
  unfold turnT
  rw [gi_map_range hj]
  rw [gi_nat (by simpa using hi), List.getElem_map, gi_nat hi]
theorem turn_len {t : Tab} (h : TabOk t) : (turnT t).length = (gi t 0).length ∧ (gi (turnT t) 0).length = t.length := by
  have hc := h.cols
  constructor
  · simp [turnT]
  · have : gi (turnT t) ((0 : Nat) : Int) = t.map fun r => gi r ((0 : Nat) : Int) := by unfold turnT; rw [gi_map_range (by omega)]
    change gi (turnT t) 0 = _ at this
    rw [this]; simp
theorem turn_off {t : Tab} (h : TabOk t) : (Full (turnT t) ↔ Full t) ∧ offP (turnT t) (turnT t).length = offP t t.length ∧ allN (turnT t) = allN t := by
  obtain ⟨k1, k2, k3, k4, k5, k6⟩ := turn_facts h
  have hN : nN (turnT t) = nN t := by unfold nN; rw [k2, k6]
  have hR : ∀ j, rN (turnT t) j = cN t j := fun j => by unfold rN cN; rw [k2]
  have hC : ∀ i, cN (turnT t) i = rN t i := fun i => by unfold rN cN; rw [k3]
  have hA : allN (turnT t) = allN t := by unfold allN; rw [hN, k2, k3, Nat.mul_assoc, Nat.mul_comm (prodN (colSums t)), ← Nat.mul_assoc]
  refine ⟨?_, ?_, hA⟩
  · unfold Full
    rw [k2, k3]
    exact ⟨fun q => ⟨h, q.2.2, q.2.1⟩, fun q => ⟨k1, q.2.2, q.2.1⟩⟩
  · obtain ⟨l1, l2⟩ := turn_len h
    rw [offP_R, offP_R, l1, l2, sumR_swap]
    refine sumR_congr fun i hi => sumR_congr fun j hj => ?_
    have hq : qN (turnT t) j i = qN t i j := by unfold qN eN; rw [hA, hN, hR, hC, Nat.mul_comm (cN t j)]
    have hd : dd (turnT t) j i = dd t i j := by unfold dd; rw [gi_turn hi hj, hN, hR, hC, Nat.mul_comm (cN t j)]
    have hs : sqN (turnT t) j i = sqN t i j := by unfold sqN; rw [hd]
    rw [hq, hs]
def piI (a b i : Nat) : Nat := if i = b then a else if i = a then b else i
theorem piI_lt {n a b i : Nat} (ha : a < n) (hb : b < n) (hi : i < n) : piI a b i < n := by
  unfold piI
  split
  · exact ha
  · split
    · exact hb
    · exact hi
theorem gi_setN {α : Type} [Inhabited α] {xs : List α} {i : Nat} (hi : i < xs.length) (q : α) (j : Nat) : gi (xs.set i q) (j : Int) = if j = i then q else gi xs (j : Int) := by
  unfold gi
  rw [Int.toNat_natCast, List.getD_eq_getElem?_getD, List.getD_eq_getElem?_getD, List.getElem?_set]
  by_cases h : j = i
  · subst h; simp [hi]
  · rw [if_neg (by omega), if_neg h]
theorem gi_sw {α : Type} [Inhabited α] {l : List α} {a b : Nat} (ha : a < l.length) (hb : b < l.length) (i : Nat) : gi (swG a b l) (i : Int) = gi l ((piI a b i : Nat) : Int) := by
  unfold swG piI
  rw [gi_setN (by simpa using hb), gi_setN ha]
  by_cases e : i = b
  · rw [if_pos e, if_pos e]
  · rw [if_neg e, if_neg e]
    by_cases e2 : i = a
    · rw [if_pos e2, if_pos e2]
    · rw [if_neg e2, if_neg e2]
theorem sw_len {α : Type} [Inhabited α] {l : List α} {a b : Nat} : (swG a b l).length = l.length := by simp [swG]
theorem prodN_sw {l : List Int} {a b : Nat} (h3 : l.length ≤ 3) (ha : a < l.length) (hb : b < l.length) : prodN (swG a b l) = prodN l := by
  have ha' : a = 0 ∨ a = 1 ∨ a = 2 := by omega
  have hb' : b = 0 ∨ b = 1 ∨ b = 2 := by omega
  rcases len3 (by omega) h3 with ⟨x, rfl⟩ | ⟨x, y, rfl⟩ | ⟨x, y, z, rfl⟩ <;> simp only [List.length_cons, List.length_nil, Nat.zero_add, Nat.reduceAdd] at ha hb <;>
  rcases ha' with rfl | rfl | rfl <;> rcases hb' with rfl | rfl | rfl <;> first
    | (exfalso; omega)
    | (simp [swG, prodN, gi] <;> grind)
theorem sumR_pi {n a b : Nat} (h3 : n ≤ 3) (ha : a < n) (hb : b < n) (f : Nat → Nat) : sumR n (fun i => f (piI a b i)) = sumR n f := by
  have ha' : a = 0 ∨ a = 1 ∨ a = 2 := by omega
  have hb' : b = 0 ∨ b = 1 ∨ b = 2 := by omega
  have hn' : n = 1 ∨ n = 2 ∨ n = 3 := by omega
  rcases hn' with rfl | rfl | rfl <;> rcases ha' with rfl | rfl | rfl <;> rcases hb' with rfl | rfl | rfl <;> first
    | (exfalso; omega)
    | (simp [sumR, List.range, List.range.loop, piI] <;> omega)
theorem swap_off {t : Tab} (h : TabOk t) {a b : Nat} (ha : a < t.length) (hb : b < t.length) : (Full (swG a b t) ↔ Full t) ∧ offP (swG a b t) (swG a b t).length = offP t t.length ∧ allN (swG a b t) = allN t := by
  obtain ⟨k1, k2, k3, k4, k5, k6⟩ := swap_facts h a b ha hb
  have hra : a < (rowSums t).length := by rw [rowSums_len]; exact ha
  have hrb : b < (rowSums t).length := by rw [rowSums_len]; exact hb
  have hN : nN (swG a b t) = nN t := by
    unfold nN
    rw [(turn_facts k1).2.2.2.2.2, k3, ← (turn_facts h).2.2.2.2.2]
  have hC : ∀ i, cN (swG a b t) i = cN t i := fun i => by unfold cN; rw [k3]
  have hR : ∀ i, rN (swG a b t) i = rN t (piI a b i) := fun i => by unfold rN; rw [k2, gi_sw hra hrb]
  have hA : allN (swG a b t) = allN t := by unfold allN; rw [hN, k2, k3, prodN_sw (by rw [rowSums_len]; exact h.2.1) hra hrb]
  have hmem : (0 : Int) ∈ rowSums (swG a b t) ↔ (0 : Int) ∈ rowSums t := by
    have key : ∀ (l : List Int), a < l.length → b < l.length → (0 : Int) ∈ swG a b l → (0 : Int) ∈ l := fun l ha hb hm => by
      obtain ⟨i, hi, e⟩ := List.mem_iff_getElem.1 hm
      rw [← gi_nat hi, gi_sw ha hb] at e
      rw [sw_len] at hi
      have hp : piI a b i < l.length := piI_lt ha hb hi
      rw [← e]; exact mem_gi hp
    rw [k2]
    refine ⟨key _ hra hrb, fun hm => ?_⟩
    refine key (swG a b (rowSums t)) (by rwa [sw_len]) (by rwa [sw_len]) ?_
    have g2 := (swap_facts k1 a b (by rwa [sw_len]) (by rwa [sw_len])).2.1
    rw [k4, k2] at g2
    rwa [← g2]
  refine ⟨?_, ?_, hA⟩
  · unfold Full
    rw [hmem, k3]
    exact ⟨fun q => ⟨h, q.2⟩, fun q => ⟨k1, q.2⟩⟩
  · have hw : (gi (swG a b t) 0).length = (gi t 0).length := by
      have e1 := colSums_len (t := swG a b t)
      rw [k3, colSums_len] at e1
      exact e1.symm
    have e := sumR_pi h.2.1 ha hb fun i => sumR (gi t 0).length fun j => qN t i j * sqN t i j
    rw [offP_R, offP_R, sw_len, hw, ← e]
    refine sumR_congr fun i hi => sumR_congr fun j hj => ?_
    have hq : qN (swG a b t) i j = qN t (piI a b i) j := by unfold qN eN; rw [hA, hN, hR, hC]
    have hd : dd (swG a b t) i j = dd t (piI a b i) j := by unfold dd; rw [gi_sw ha hb, hN, hR, hC]
    have hs : sqN (swG a b t) i j = sqN t (piI a b i) j := by unfold sqN; rw [hd]
    rw [hq, hs]
/-- of the same chance, tail, distance -/
structure Tw6 (t u : Tab) : Prop where
  ok : TabOk u
  ch : chF u = chF t
  ta : taF u = taF t
  fu : Full u ↔ Full t
  of : fracN (offP u u.length) (allN u) = fracN (offP t t.length) (allN t)
theorem Tw6.trans {t u v : Tab} (h : Tw6 t u) (h' : Tw6 u v) : Tw6 t v := ⟨h'.ok, h'.ch.trans h.ch, h'.ta.trans h.ta, h'.fu.trans h.fu, h'.of.trans h.of⟩
theorem tw_turn {t : Tab} (h : TabOk t) : Tw6 t (turnT t) := by
  obtain ⟨q1, q2, q3⟩ := turn_off h
  exact ⟨(turn_facts h).1, (sym_turn h).chance, (sym_turn h).tail, q1, by rw [q2, q3]⟩
theorem tw_swap {t : Tab} (h : TabOk t) {a b : Nat} (ha : a < t.length) (hb : b < t.length) : Tw6 t (swG a b t) := by
  obtain ⟨q1, q2, q3⟩ := swap_off h ha hb
  exact ⟨(swap_facts h a b ha hb).1, (sym_swap h ha hb).chance, (sym_swap h ha hb).tail, q1, by rw [q2, q3]⟩
/-- two columns exchanged -/
theorem tw_cols {t : Tab} (h : TabOk t) {a b : Nat} (ha : a < (gi t 0).length) (hb : b < (gi t 0).length) : Tw6 t (t.map (swG a b)) := by
  have e : t.map (swG a b) = turnT (swG a b (turnT t)) := by
    have ht := turn_facts h
    have hs := swap_facts ht.1 a b (by rw [(turn_len h).1]; exact ha) (by rw [(turn_len h).1]; exact hb)
    have hts := turn_len hs.1
    have hcs : (gi (swG a b (turnT t)) 0).length = t.length := by
      have e1 := colSums_len (t := swG a b (turnT t))
      rw [hs.2.2.1, ht.2.2.1, rowSums_len] at e1
      exact e1.symm
    apply gi_ext (by rw [List.length_map, hts.1, hcs])
    intro i hi
    rw [List.length_map] at hi
    have l1 : (gi (turnT (swG a b (turnT t))) (i : Int)).length = (gi t 0).length := by
      unfold turnT
      rw [gi_map_range (by rw [← hcs] at hi; exact hi), List.length_map, sw_len]
      simp
    have l2 : gi (t.map (swG a b)) (i : Int) = swG a b (gi t (i : Int)) := by
      rw [gi_nat (by simpa using hi), List.getElem_map, gi_nat hi]
    rw [l2]
    have hwi := h.width hi
    apply gi_ext (by rw [sw_len, l1, hwi])
    intro j hj
    rw [sw_len, hwi] at hj
    rw [gi_sw (by rw [hwi]; exact ha) (by rw [hwi]; exact hb)]
    have hj' : j < (swG a b (turnT t)).length := by rw [sw_len, (turn_len h).1]; exact hj
    have hp : piI a b j < (gi t 0).length := piI_lt ha hb hj
    rw [gi_turn hj' (by rw [hcs]; exact hi), gi_sw (by rw [(turn_len h).1]; exact ha) (by rw [(turn_len h).1]; exact hb), gi_turn hi hp]
  rw [e]
  have t1 := tw_turn h
  have t2 := tw_swap t1.ok (a := a) (b := b) (by rw [(turn_len h).1]; exact ha) (by rw [(turn_len h).1]; exact hb)
  exact (t1.trans t2).trans (tw_turn t2.ok)
end Go.Proofs.Ytflekaacffdakaa
