/- What the law needs: what its functions do, and the laws on lists behind it. No condition. -/
import Derived.Test.YtflekaacffdakaaPi
import Derived.Test.YtflekaacffdakaaBo
import Derived.Laws.StructEq
import Derived.KernelRfl
import Derived.WalkKit
import Derived.ProofKit
import Derived.OpenShut
import Derived.ShutString
import Derived.ChangeOld
import Derived.Below
import Derived.SizedLaws
import Derived.Carry
set_option linter.unusedSimpArgs false
set_option linter.unusedVariables false
namespace Go.Proofs.Ytflekaacffdakaa
open Go Go.AM Go.Proofs
theorem equal_ret {p q : Nat → Prop} {H : Heap} {v u : AV} {xs ys : List Int} (hx : Sl p H v xs) (hy : Sl q H u ys) : RetP E 25 [v, u] H (.b (decide (xs = ys))) := by
  refine RetP.ro rfl fn25 rfl rfl ?_
  unfold f25A
  have hbx := hx.bound
  repeat' (first | refine condP_split (fun _ => ?_) (fun _ => ?_) | refine guardP_split (fun _ => ?_) (fun _ => ?_) | refine guardP_splitF (fun _ => ?_) (fun _ => ?_) | (simp (disch := (first | assumption | omega | (simp only [List.length_append, List.length_cons, List.length_nil]; omega))) only [↓wD,wU,Nat.reduceBEq,zx150,zx151,zx159,zx160,zx161,zx162,Nat.reduceAdd,Nat.reduceSub,Nat.reduceMul,Nat.reduceLeDiff,Nat.reduceLT,Nat.reduceEqDiff,Int.reduceAdd,Int.reduceSub,Int.reduceMul,Int.reduceNeg,Int.reduceLT,Int.reduceLE,Int.reduceEq,Int.reduceToNat,Int.cast_ofNat_Int,↓reduceIte, *, hx.I, hy.I]))
  · exact avb_f fun h => by simp_all
  · have hl : xs.length = ys.length := by omega
    refine Wp.for xs.length (fun i a H' => H' = H ∧ a 0 = v ∧ a 1 = u ∧ a 12 = .i xs.length ∧ a 13 = .i i ∧ xs.take i = ys.take i) ?_ ?_
    · rintro i a H' hi ⟨rfl, h0, h1, h12, h13, hh⟩ ih
      simp (disch := (first | assumption | omega | (simp only [List.length_append, List.length_cons, List.length_nil]; omega))) only [↓wD,wU,Nat.reduceBEq,zx150,zx151,zx159,zx160,zx161,zx162,Nat.reduceAdd,Nat.reduceSub,Nat.reduceMul,Nat.reduceLeDiff,Nat.reduceLT,Nat.reduceEqDiff,Int.reduceAdd,Int.reduceSub,Int.reduceMul,Int.reduceNeg,Int.reduceLT,Int.reduceLE,Int.reduceEq,Int.reduceToNat,Int.cast_ofNat_Int,↓reduceIte, *]
      refine condP_split (fun hlt => ?_) (fun hlt => ?_)
      · have hi' : i < xs.length := by omega
        repeat' (first | refine condP_split (fun _ => ?_) (fun _ => ?_) | refine guardP_split (fun _ => ?_) (fun _ => ?_) | refine guardP_splitF (fun _ => ?_) (fun _ => ?_) | (simp (disch := (first | assumption | omega | (simp only [List.length_append, List.length_cons, List.length_nil]; omega))) only [↓wD,wU,Nat.reduceBEq,zx150,zx151,zx159,zx160,zx161,zx162,Nat.reduceAdd,Nat.reduceSub,Nat.reduceMul,Nat.reduceLeDiff,Nat.reduceLT,Nat.reduceEqDiff,Int.reduceAdd,Int.reduceSub,Int.reduceMul,Int.reduceNeg,Int.reduceLT,Int.reduceLE,Int.reduceEq,Int.reduceToNat,Int.cast_ofNat_Int,↓reduceIte, *, hx.I, hy.I]))
        · exact avb_f fun h => by simp_all
        · refine (ih hi').go ⟨rfl, ?_⟩
          simp (disch := (first | assumption | omega | (simp only [List.length_append, List.length_cons, List.length_nil]; omega))) only [↓wD,wU,Nat.reduceBEq,zx150,zx151,zx159,zx160,zx161,zx162,Nat.reduceAdd,Nat.reduceSub,Nat.reduceMul,Nat.reduceLeDiff,Nat.reduceLT,Nat.reduceEqDiff,Int.reduceAdd,Int.reduceSub,Int.reduceMul,Int.reduceNeg,Int.reduceLT,Int.reduceLE,Int.reduceEq,Int.reduceToNat,Int.cast_ofNat_Int,↓reduceIte, *]
          exact take_eq_succ hh hi' (by omega) (by simp_all)
      · simp (disch := (first | assumption | omega | (simp only [List.length_append, List.length_cons, List.length_nil]; omega))) only [↓wD,wU,Nat.reduceBEq,zx150,zx151,zx159,zx160,zx161,zx162,Nat.reduceAdd,Nat.reduceSub,Nat.reduceMul,Nat.reduceLeDiff,Nat.reduceLT,Nat.reduceEqDiff,Int.reduceAdd,Int.reduceSub,Int.reduceMul,Int.reduceNeg,Int.reduceLT,Int.reduceLE,Int.reduceEq,Int.reduceToNat,Int.cast_ofNat_Int,↓reduceIte, *]
        exact avb_t (take_all hh hl (by omega))
    · (simp (disch := (first | assumption | omega | (simp only [List.length_append, List.length_cons, List.length_nil]; omega))) only [↓wD,wU,Nat.reduceBEq,zx150,zx151,zx159,zx160,zx161,zx162,Nat.reduceAdd,Nat.reduceSub,Nat.reduceMul,Nat.reduceLeDiff,Nat.reduceLT,Nat.reduceEqDiff,Int.reduceAdd,Int.reduceSub,Int.reduceMul,Int.reduceNeg,Int.reduceLT,Int.reduceLE,Int.reduceEq,Int.reduceToNat,Int.cast_ofNat_Int,↓reduceIte, *]) <;> simp
theorem clone_ret {p : Nat → Prop} {H : Heap} {v : AV} {xs : List Int} (hx : Sl p H v xs) (hs : xs.length * 8 ≤ 1099511627776) : Ret E 56 [v] (fun _ => False) H xs := by
  refine Ret.ro rfl fn56 rfl ?_
  unfold f56A
  have main : ∀ {Q : AV × Heap → Prop}, (∀ v' H', Sl (fun b => H.length ≤ b) H' v' xs → Q (v', H')) → @optP _ (appendV H.length 1 8 (.s 1 H.length 0 0 (some 0)) v (H ++ [.cells []])) ⟨Q⟩ := fun {Q} go => by
    have ha : Acc H.length (fun _ => True) (H ++ [.cells []]) (.s 1 H.length 0 0 (some 0)) ([] : List Int) := Acc.fresh0 (Nat.le_refl _)
    refine ha.extend (q := fun b => b < H.length) (Nat.le_refl _) (by simp) ((hx.low.app [.cells []]).weak fun b h => h.2) (fun b hb => ⟨trivial, ?_⟩) (by simpa using hs) (by omega) fun v' H' h' _ => go _ _ ?_
    · intro e; simp only [AV.blk, Option.some.injEq] at e; omega
    · rw [List.nil_append] at h'
      rcases h' with h' | ⟨b, o, c, k, e, hb, hk, h1, h2, h3⟩
      · exact .inl h'
      · exact .inr ⟨b, o, c, k, e, hb, hk, h1, h2, h3⟩
  rcases hx with ⟨rfl, rfl⟩ | ⟨b, o, c, k, e, hb, hk, h1, h2, h3⟩
  · simp (disch := (first | assumption | omega | (simp only [List.length_append, List.length_cons, List.length_nil]; omega))) only [↓wD,wU,Nat.reduceBEq,zx150,zx151,zx159,zx160,zx161,zx162,Nat.reduceAdd,Nat.reduceSub,Nat.reduceMul,Nat.reduceLeDiff,Nat.reduceLT,Nat.reduceEqDiff,Int.reduceAdd,Int.reduceSub,Int.reduceMul,Int.reduceNeg,Int.reduceLT,Int.reduceLE,Int.reduceEq,Int.reduceToNat,Int.cast_ofNat_Int,↓reduceIte, *]
    exact Sl.nil
  · subst e
    simp (disch := (first | assumption | omega | (simp only [List.length_append, List.length_cons, List.length_nil]; omega))) only [↓wD,wU,Nat.reduceBEq,zx150,zx151,zx159,zx160,zx161,zx162,Nat.reduceAdd,Nat.reduceSub,Nat.reduceMul,Nat.reduceLeDiff,Nat.reduceLT,Nat.reduceEqDiff,Int.reduceAdd,Int.reduceSub,Int.reduceMul,Int.reduceNeg,Int.reduceLT,Int.reduceLE,Int.reduceEq,Int.reduceToNat,Int.cast_ofNat_Int,↓reduceIte, *]
    refine main fun v' H' h' => ?_
    simp (disch := (first | assumption | omega | (simp only [List.length_append, List.length_cons, List.length_nil]; omega))) only [↓wD,wU,Nat.reduceBEq,zx150,zx151,zx159,zx160,zx161,zx162,Nat.reduceAdd,Nat.reduceSub,Nat.reduceMul,Nat.reduceLeDiff,Nat.reduceLT,Nat.reduceEqDiff,Int.reduceAdd,Int.reduceSub,Int.reduceMul,Int.reduceNeg,Int.reduceLT,Int.reduceLE,Int.reduceEq,Int.reduceToNat,Int.cast_ofNat_Int,↓reduceIte, *]
    exact h'.weak fun _ h => .inr h
end Go.Proofs.Ytflekaacffdakaa
namespace Go.Proofs.Ytflekaacffdakaa
open Go Go.AM Go.Proofs
def OkN (xs : List Int) : Prop := ∀ x ∈ xs, 0 ≤ x ∧ x ≤ 16
instance (xs : List Int) : Decidable (OkN xs) := by unfold OkN; infer_instance
def RowOk (n : Nat) (r : List Int) : Prop := 1 ≤ r.length ∧ r.length ≤ 3 ∧ r.length = n ∧ OkN r
def TabOk (t : List (List Int)) : Prop := 1 ≤ t.length ∧ t.length ≤ 3 ∧ (∀ r ∈ t, RowOk (gi t 0).length r) ∧ (t.map List.sum).sum ≤ 16
instance (n : Nat) (r : List Int) : Decidable (RowOk n r) := by unfold RowOk; infer_instance
instance (t : List (List Int)) : Decidable (TabOk t) := by unfold TabOk; infer_instance
theorem isSums_ret {p : Nat → Prop} {H : Heap} {v : AV} {xs : List Int} (hx : Sl p H v xs) (hl : xs.length ≤ 100) : RetP E 79 [v] H (.b (decide (OkN xs ∧ xs.sum ≤ 16))) := by
  refine RetP.ro rfl fn79 rfl rfl ?_
  unfold f79A
  simp (disch := (first | assumption | omega | (simp only [List.length_append, List.length_cons, List.length_nil]; omega))) only [↓wD,wU,Nat.reduceBEq,zx150,zx151,zx159,zx160,zx161,zx162,Nat.reduceAdd,Nat.reduceSub,Nat.reduceMul,Nat.reduceLeDiff,Nat.reduceLT,Nat.reduceEqDiff,Int.reduceAdd,Int.reduceSub,Int.reduceMul,Int.reduceNeg,Int.reduceLT,Int.reduceLE,Int.reduceEq,Int.reduceToNat,Int.cast_ofNat_Int,↓reduceIte, *, hx.I]
  refine Wp.for xs.length (fun i a H' => H' = H ∧ a 6 = v ∧ a 7 = .i xs.length ∧ a 8 = .i i ∧ a 3 = .i (xs.take i).sum ∧ OkN (xs.take i)) ?_ ?_
  · rintro i a H' hi ⟨rfl, h6, h7, h8, h3, hh⟩ ih
    have hb := sum_bound hh
    have hb2 : (xs.take i).length ≤ 100 := by rw [List.length_take]; omega
    simp (disch := (first | assumption | omega | (simp only [List.length_append, List.length_cons, List.length_nil]; omega))) only [↓wD,wU,Nat.reduceBEq,zx150,zx151,zx159,zx160,zx161,zx162,Nat.reduceAdd,Nat.reduceSub,Nat.reduceMul,Nat.reduceLeDiff,Nat.reduceLT,Nat.reduceEqDiff,Int.reduceAdd,Int.reduceSub,Int.reduceMul,Int.reduceNeg,Int.reduceLT,Int.reduceLE,Int.reduceEq,Int.reduceToNat,Int.cast_ofNat_Int,↓reduceIte, *]
    refine condP_split (fun hlt => ?_) (fun hlt => ?_)
    · have hi' : i < xs.length := by omega
      (repeat' (first | refine condP_split (fun _ => ?_) (fun _ => ?_) | refine guardP_split (fun _ => ?_) (fun _ => ?_) | refine guardP_splitF (fun _ => ?_) (fun _ => ?_) | (simp (disch := (first | assumption | omega | (simp only [List.length_append, List.length_cons, List.length_nil]; omega))) only [↓wD,wU,Nat.reduceBEq,zx150,zx151,zx159,zx160,zx161,zx162,Nat.reduceAdd,Nat.reduceSub,Nat.reduceMul,Nat.reduceLeDiff,Nat.reduceLT,Nat.reduceEqDiff,Int.reduceAdd,Int.reduceSub,Int.reduceMul,Int.reduceNeg,Int.reduceLT,Int.reduceLE,Int.reduceEq,Int.reduceToNat,Int.cast_ofNat_Int,↓reduceIte, *, hx.I]))) <;> first
        | exact avb_f fun h => by have := h.1 _ (mem_gi hi'); omega
        | skip
      refine (ih hi').go ⟨rfl, ?_⟩
      have hg : 0 ≤ gi xs i ∧ gi xs i ≤ 16 := by omega
      rw [sum_take hi']
      simp (disch := (first | assumption | omega | (simp only [List.length_append, List.length_cons, List.length_nil]; omega))) only [↓wD,wU,Nat.reduceBEq,zx150,zx151,zx159,zx160,zx161,zx162,Nat.reduceAdd,Nat.reduceSub,Nat.reduceMul,Nat.reduceLeDiff,Nat.reduceLT,Nat.reduceEqDiff,Int.reduceAdd,Int.reduceSub,Int.reduceMul,Int.reduceNeg,Int.reduceLT,Int.reduceLE,Int.reduceEq,Int.reduceToNat,Int.cast_ofNat_Int,↓reduceIte, *]
      exact mem_take_gi hh hi' hg
    · simp (disch := (first | assumption | omega | (simp only [List.length_append, List.length_cons, List.length_nil]; omega))) only [↓wD,wU,Nat.reduceBEq,zx150,zx151,zx159,zx160,zx161,zx162,Nat.reduceAdd,Nat.reduceSub,Nat.reduceMul,Nat.reduceLeDiff,Nat.reduceLT,Nat.reduceEqDiff,Int.reduceAdd,Int.reduceSub,Int.reduceMul,Int.reduceNeg,Int.reduceLT,Int.reduceLE,Int.reduceEq,Int.reduceToNat,Int.cast_ofNat_Int,↓reduceIte, *]
      have e : xs.take i = xs := List.take_of_length_le (by omega)
      rw [e] at hh ⊢
      simp [hh]
  · (simp (disch := (first | assumption | omega | (simp only [List.length_append, List.length_cons, List.length_nil]; omega))) only [↓wD,wU,Nat.reduceBEq,zx150,zx151,zx159,zx160,zx161,zx162,Nat.reduceAdd,Nat.reduceSub,Nat.reduceMul,Nat.reduceLeDiff,Nat.reduceLT,Nat.reduceEqDiff,Int.reduceAdd,Int.reduceSub,Int.reduceMul,Int.reduceNeg,Int.reduceLT,Int.reduceLE,Int.reduceEq,Int.reduceToNat,Int.cast_ofNat_Int,↓reduceIte, *]) <;> simp [OkN]
theorem sum_nonneg {xs : List Int} (h : ∀ x ∈ xs, 0 ≤ x) : 0 ≤ xs.sum := by
  induction xs with
  | nil => simp
  | cons x xs ih => have := h x (by simp); have := ih fun y hy => h y (by simp [hy]); simp only [List.sum_cons]; omega
theorem le_sum {xs : List Int} (h : ∀ x ∈ xs, 0 ≤ x) {x : Int} (hx : x ∈ xs) : x ≤ xs.sum := by
  induction xs with
  | nil => cases hx
  | cons y xs ih =>
    have h0 := h y (by simp)
    have h1 := sum_nonneg fun z hz => h z (List.mem_cons_of_mem _ hz)
    simp only [List.sum_cons]
    rcases List.mem_cons.1 hx with rfl | hx
    · omega
    · have := ih (fun z hz => h z (List.mem_cons_of_mem _ hz)) hx; omega
theorem row_le_total {t : List (List Int)} (h : TabOk t) {r : List Int} (hr : r ∈ t) : r.sum ≤ 16 := by
  have h1 : ∀ x ∈ t.map List.sum, 0 ≤ x := by
    intro x hx
    obtain ⟨s, hs, rfl⟩ := List.mem_map.1 hx
    exact sum_nonneg fun y hy => ((h.2.2.1 s hs).2.2.2 y hy).1
  have := le_sum h1 (List.mem_map_of_mem hr)
  have := h.2.2.2
  omega
theorem valid_ret {p : Nat → Prop} {H : Heap} {v : AV} {t : List (List Int)} (ht : Sl p H v t) : RetP E 70 [v] H (.b (decide (TabOk t))) := by
  refine RetP.ro rfl fn70 rfl rfl ?_
  unfold f70A
  (repeat' (first | refine condP_split (fun _ => ?_) (fun _ => ?_) | refine guardP_split (fun _ => ?_) (fun _ => ?_) | refine guardP_splitF (fun _ => ?_) (fun _ => ?_) | (simp (disch := (first | assumption | omega | (simp only [List.length_append, List.length_cons, List.length_nil]; omega))) only [↓wD,wU,Nat.reduceBEq,zx150,zx151,zx159,zx160,zx161,zx162,Nat.reduceAdd,Nat.reduceSub,Nat.reduceMul,Nat.reduceLeDiff,Nat.reduceLT,Nat.reduceEqDiff,Int.reduceAdd,Int.reduceSub,Int.reduceMul,Int.reduceNeg,Int.reduceLT,Int.reduceLE,Int.reduceEq,Int.reduceToNat,Int.cast_ofNat_Int,↓reduceIte, *, ht.L]))) <;> first
    | exact avb_f fun h => by have := h.1; have := h.2.1; omega
    | skip
  refine Wp.for t.length (fun i a H' => H' = H ∧ a 0 = v ∧ a 16 = v ∧ a 17 = .i t.length ∧ a 18 = .i i ∧ a 3 = .i ((t.take i).map List.sum).sum ∧ (∀ r ∈ t.take i, RowOk (gi t 0).length r) ∧ 0 ≤ ((t.take i).map List.sum).sum ∧ ((t.take i).map List.sum).sum ≤ i * 48) ?_ ?_
  · rintro i a H' hi ⟨rfl, h0, h16, h17, h18, h3, hh, hp, hq⟩ ih
    simp (disch := (first | assumption | omega | (simp only [List.length_append, List.length_cons, List.length_nil]; omega))) only [↓wD,wU,Nat.reduceBEq,zx150,zx151,zx159,zx160,zx161,zx162,Nat.reduceAdd,Nat.reduceSub,Nat.reduceMul,Nat.reduceLeDiff,Nat.reduceLT,Nat.reduceEqDiff,Int.reduceAdd,Int.reduceSub,Int.reduceMul,Int.reduceNeg,Int.reduceLT,Int.reduceLE,Int.reduceEq,Int.reduceToNat,Int.cast_ofNat_Int,↓reduceIte, *]
    refine condP_split (fun hlt => ?_) (fun hlt => ?_)
    · have hi' : i < t.length := by omega
      have g := ht.get (k := (i : Int)) (by omega) (by omega)
      have g0 := ht.get (k := (0 : Int)) (by omega) (by omega)
      by_cases hr : RowOk (gi t 0).length (gi t i)
      · obtain ⟨hr1, hr2, hr3, hr4⟩ := hr
        have hgb := sum_bound hr4
        (repeat' (first | refine condP_split (fun _ => ?_) (fun _ => ?_) | refine guardP_split (fun _ => ?_) (fun _ => ?_) | refine guardP_splitF (fun _ => ?_) (fun _ => ?_) | (simp (disch := (first | assumption | omega | (simp only [List.length_append, List.length_cons, List.length_nil]; omega))) only [↓wD,wU,Nat.reduceBEq,zx150,zx151,zx159,zx160,zx161,zx162,Nat.reduceAdd,Nat.reduceSub,Nat.reduceMul,Nat.reduceLeDiff,Nat.reduceLT,Nat.reduceEqDiff,Int.reduceAdd,Int.reduceSub,Int.reduceMul,Int.reduceNeg,Int.reduceLT,Int.reduceLE,Int.reduceEq,Int.reduceToNat,Int.cast_ofNat_Int,↓reduceIte, *, ht.L, g.I, g0.I, (isSums_ret g (by omega)).call])))
        · exact avb_f fun h => by have := row_le_total h (mem_gi hi'); simp_all
        refine Wp.for (gi t i).length (fun j a H'' => H'' = H' ∧ a 0 = v ∧ a 16 = v ∧ a 17 = .i t.length ∧ a 18 = .i i ∧ a 44 = v.get H' i ∧ a 45 = .i (gi t i).length ∧ a 46 = .i j ∧ a 3 = .i (((t.take i).map List.sum).sum + ((gi t i).take j).sum)) ?_ ?_
        · clear h0 h16 h17 h18 h3
          rintro j a H' hj ⟨rfl, h0, h16, h17, h18, h44, h45, h46, h3⟩ ih2
          have hb1 : OkN ((gi t i).take j) := fun x hx => hr4 x (List.mem_of_mem_take hx)
          have hb2 := sum_bound hb1
          have hb3 : ((gi t i).take j).length ≤ 3 := by rw [List.length_take]; omega
          simp (disch := (first | assumption | omega | (simp only [List.length_append, List.length_cons, List.length_nil]; omega))) only [↓wD,wU,Nat.reduceBEq,zx150,zx151,zx159,zx160,zx161,zx162,Nat.reduceAdd,Nat.reduceSub,Nat.reduceMul,Nat.reduceLeDiff,Nat.reduceLT,Nat.reduceEqDiff,Int.reduceAdd,Int.reduceSub,Int.reduceMul,Int.reduceNeg,Int.reduceLT,Int.reduceLE,Int.reduceEq,Int.reduceToNat,Int.cast_ofNat_Int,↓reduceIte, *]
          refine condP_split (fun hlt => ?_) (fun hlt => ?_)
          · have hj' : j < (gi t i).length := by omega
            have hg := hr4 _ (mem_gi hj')
            simp (disch := (first | assumption | omega | (simp only [List.length_append, List.length_cons, List.length_nil]; omega))) only [↓wD,wU,Nat.reduceBEq,zx150,zx151,zx159,zx160,zx161,zx162,Nat.reduceAdd,Nat.reduceSub,Nat.reduceMul,Nat.reduceLeDiff,Nat.reduceLT,Nat.reduceEqDiff,Int.reduceAdd,Int.reduceSub,Int.reduceMul,Int.reduceNeg,Int.reduceLT,Int.reduceLE,Int.reduceEq,Int.reduceToNat,Int.cast_ofNat_Int,↓reduceIte, *, g.I]
            refine (ih2 hj').go ⟨rfl, ?_⟩
            rw [sum_take hj']
            simp (disch := (first | assumption | omega | (simp only [List.length_append, List.length_cons, List.length_nil]; omega))) only [↓wD,wU,Nat.reduceBEq,zx150,zx151,zx159,zx160,zx161,zx162,Nat.reduceAdd,Nat.reduceSub,Nat.reduceMul,Nat.reduceLeDiff,Nat.reduceLT,Nat.reduceEqDiff,Int.reduceAdd,Int.reduceSub,Int.reduceMul,Int.reduceNeg,Int.reduceLT,Int.reduceLE,Int.reduceEq,Int.reduceToNat,Int.cast_ofNat_Int,↓reduceIte, *]
            rw [Int.add_assoc]
          · simp (disch := (first | assumption | omega | (simp only [List.length_append, List.length_cons, List.length_nil]; omega))) only [↓wD,wU,Nat.reduceBEq,zx150,zx151,zx159,zx160,zx161,zx162,Nat.reduceAdd,Nat.reduceSub,Nat.reduceMul,Nat.reduceLeDiff,Nat.reduceLT,Nat.reduceEqDiff,Int.reduceAdd,Int.reduceSub,Int.reduceMul,Int.reduceNeg,Int.reduceLT,Int.reduceLE,Int.reduceEq,Int.reduceToNat,Int.cast_ofNat_Int,↓reduceIte, *]
            have e : ((gi t i).take j).sum = (gi t i).sum := sum_take_all (by omega)
            refine (ih hi').go ⟨rfl, ?_⟩
            have e2 : ((t.take (i + 1)).map List.sum).sum = ((t.take i).map List.sum).sum + (gi t i).sum := by rw [take_gi hi', List.map_append, List.sum_append]; simp
            rw [e2, ← e]
            simp (disch := (first | assumption | omega | (simp only [List.length_append, List.length_cons, List.length_nil]; omega))) only [↓wD,wU,Nat.reduceBEq,zx150,zx151,zx159,zx160,zx161,zx162,Nat.reduceAdd,Nat.reduceSub,Nat.reduceMul,Nat.reduceLeDiff,Nat.reduceLT,Nat.reduceEqDiff,Int.reduceAdd,Int.reduceSub,Int.reduceMul,Int.reduceNeg,Int.reduceLT,Int.reduceLE,Int.reduceEq,Int.reduceToNat,Int.cast_ofNat_Int,↓reduceIte, *]
            exact ⟨mem_take_gi hh hi' ⟨hr1, hr2, hr3, hr4⟩, by omega, by omega⟩
        · (simp (disch := (first | assumption | omega | (simp only [List.length_append, List.length_cons, List.length_nil]; omega))) only [↓wD,wU,Nat.reduceBEq,zx150,zx151,zx159,zx160,zx161,zx162,Nat.reduceAdd,Nat.reduceSub,Nat.reduceMul,Nat.reduceLeDiff,Nat.reduceLT,Nat.reduceEqDiff,Int.reduceAdd,Int.reduceSub,Int.reduceMul,Int.reduceNeg,Int.reduceLT,Int.reduceLE,Int.reduceEq,Int.reduceToNat,Int.cast_ofNat_Int,↓reduceIte, *]) <;> simp
      · have hr' : ¬ TabOk t := fun h => hr (h.2.2.1 _ (mem_gi hi'))
        (repeat' (first | refine condP_split (fun _ => ?_) (fun _ => ?_) | refine guardP_split (fun _ => ?_) (fun _ => ?_) | refine guardP_splitF (fun _ => ?_) (fun _ => ?_) | (simp (disch := (first | assumption | omega | (simp only [List.length_append, List.length_cons, List.length_nil]; omega))) only [↓wD,wU,Nat.reduceBEq,zx150,zx151,zx159,zx160,zx161,zx162,Nat.reduceAdd,Nat.reduceSub,Nat.reduceMul,Nat.reduceLeDiff,Nat.reduceLT,Nat.reduceEqDiff,Int.reduceAdd,Int.reduceSub,Int.reduceMul,Int.reduceNeg,Int.reduceLT,Int.reduceLE,Int.reduceEq,Int.reduceToNat,Int.cast_ofNat_Int,↓reduceIte, *, ht.L, g.I, g0.I]))) <;> first
          | exact avb_f hr'
          | skip
        (repeat' (first | refine condP_split (fun _ => ?_) (fun _ => ?_) | refine guardP_split (fun _ => ?_) (fun _ => ?_) | refine guardP_splitF (fun _ => ?_) (fun _ => ?_) | (simp (disch := (first | assumption | omega | (simp only [List.length_append, List.length_cons, List.length_nil]; omega))) only [↓wD,wU,Nat.reduceBEq,zx150,zx151,zx159,zx160,zx161,zx162,Nat.reduceAdd,Nat.reduceSub,Nat.reduceMul,Nat.reduceLeDiff,Nat.reduceLT,Nat.reduceEqDiff,Int.reduceAdd,Int.reduceSub,Int.reduceMul,Int.reduceNeg,Int.reduceLT,Int.reduceLE,Int.reduceEq,Int.reduceToNat,Int.cast_ofNat_Int,↓reduceIte, *, (isSums_ret g (by omega)).call]))) <;> first
          | exact avb_f hr'
          | skip
        rename_i q
        exact absurd ⟨by omega, by omega, by omega, (Decidable.not_not.1 q).1⟩ hr
    · simp (disch := (first | assumption | omega | (simp only [List.length_append, List.length_cons, List.length_nil]; omega))) only [↓wD,wU,Nat.reduceBEq,zx150,zx151,zx159,zx160,zx161,zx162,Nat.reduceAdd,Nat.reduceSub,Nat.reduceMul,Nat.reduceLeDiff,Nat.reduceLT,Nat.reduceEqDiff,Int.reduceAdd,Int.reduceSub,Int.reduceMul,Int.reduceNeg,Int.reduceLT,Int.reduceLE,Int.reduceEq,Int.reduceToNat,Int.cast_ofNat_Int,↓reduceIte, *]
      have e : t.take i = t := List.take_of_length_le (by omega)
      rw [e] at hh ⊢
      congr 1
      exact decide_eq_decide.2 ⟨fun h => ⟨by omega, by omega, hh, h⟩, fun h => h.2.2.2⟩
  · (simp (disch := (first | assumption | omega | (simp only [List.length_append, List.length_cons, List.length_nil]; omega))) only [↓wD,wU,Nat.reduceBEq,zx150,zx151,zx159,zx160,zx161,zx162,Nat.reduceAdd,Nat.reduceSub,Nat.reduceMul,Nat.reduceLeDiff,Nat.reduceLT,Nat.reduceEqDiff,Int.reduceAdd,Int.reduceSub,Int.reduceMul,Int.reduceNeg,Int.reduceLT,Int.reduceLE,Int.reduceEq,Int.reduceToNat,Int.cast_ofNat_Int,↓reduceIte, *]) <;> simp
end Go.Proofs.Ytflekaacffdakaa
namespace Go.Proofs.Ytflekaacffdakaa
open Go Go.AM Go.Proofs
theorem gi_map_range {α : Type} [Inhabited α] {n j : Nat} {f : Nat → α} (h : j < n) : gi ((List.range n).map f) (j : Int) = f j := by
  rw [gi_nat (by simpa using h)]; simp
theorem set_map_range {α : Type} {n j : Nat} {f : Nat → α} {y : α} : ((List.range n).map f).set j y = (List.range n).map fun c => if c = j then y else f c := by
  apply List.ext_getElem (by simp)
  intro i h1 h2
  simp only [List.getElem_set, List.getElem_map, List.getElem_range]
  by_cases h : j = i
  · subst h; simp
  · rw [if_neg h, if_neg (fun e => h e.symm)]
theorem map_range_congr {α : Type} {n : Nat} {f g : Nat → α} (h : ∀ c, c < n → f c = g c) : (List.range n).map f = (List.range n).map g :=
  List.map_congr_left fun c hc => h c (List.mem_range.1 hc)
def colPart (t : List (List Int)) (i j : Nat) : Int := ((t.take i).map fun r => gi r (j : Int)).sum
def colSums (t : List (List Int)) : List Int := (List.range (gi t 0).length).map fun j => colPart t t.length j
def rowSums (t : List (List Int)) : List Int := t.map List.sum
theorem colPart_succ {t : List (List Int)} {i j : Nat} (h : i < t.length) : colPart t (i + 1) j = colPart t i j + gi (gi t i) j := by
  simp [colPart, take_gi h, List.map_append, List.sum_append]
theorem colPart_0 {t : List (List Int)} {j : Nat} : colPart t 0 j = 0 := by simp [colPart]
theorem TabOk.entry {t : List (List Int)} (h : TabOk t) {i j : Nat} (hi : i < t.length) (hj : j < (gi t 0).length) : 0 ≤ gi (gi t i) j ∧ gi (gi t i) j ≤ 16 := by
  have h1 := h.2.2.1 _ (mem_gi hi)
  exact h1.2.2.2 _ (mem_gi (by rw [h1.2.2.1]; exact hj))
theorem TabOk.width {t : List (List Int)} (h : TabOk t) {i : Nat} (hi : i < t.length) : (gi t i).length = (gi t 0).length := (h.2.2.1 _ (mem_gi hi)).2.2.1
theorem TabOk.cols {t : List (List Int)} (h : TabOk t) : 1 ≤ (gi t 0).length ∧ (gi t 0).length ≤ 3 := by
  have h1 := h.2.2.1 _ (mem_gi (i := 0) h.1)
  exact ⟨h1.1, h1.2.1⟩
theorem TabOk.colPart {t : List (List Int)} (h : TabOk t) {i j : Nat} (hj : j < (gi t 0).length) : 0 ≤ colPart t i j ∧ colPart t i j ≤ 48 := by
  have h1 : ∀ x ∈ (t.take i).map fun r => gi r (j : Int), 0 ≤ x ∧ x ≤ 16 := by
    intro x hx
    obtain ⟨r, hr, rfl⟩ := List.mem_map.1 hx
    have hr' := h.2.2.1 r (List.mem_of_mem_take hr)
    exact hr'.2.2.2 _ (mem_gi (by rw [hr'.2.2.1]; exact hj))
  have h2 := sum_bound h1
  have h3 : ((t.take i).map fun r => gi r (j : Int)).length ≤ 3 := by have := h.2.1; simp; omega
  unfold Go.Proofs.Ytflekaacffdakaa.colPart
  omega
theorem sums_ret {p : Nat → Prop} {H : Heap} {v : AV} {t : List (List Int)} (ht : Sl p H v t) (h : TabOk t) : Ret E 71 [v] (fun _ => False) H (T2.mk (rowSums t) (colSums t)) := by
  refine Ret.ro rfl fn71 rfl ?_
  unfold f71A
  have hc := h.cols
  have hl := h.1
  have hl3 := h.2.1
  replace ht : Sl (fun b => b < H.length) H v t := ht.low.weak fun _ h => h.2
  have g0 := ht.get (k := (0 : Int)) (by omega) (by omega)
  simp (disch := (first | assumption | omega | (simp only [List.length_append, List.length_cons, List.length_nil]; omega))) only [↓wD,wU,Nat.reduceBEq,zx150,zx151,zx159,zx160,zx161,zx162,Nat.reduceAdd,Nat.reduceSub,Nat.reduceMul,Nat.reduceLeDiff,Nat.reduceLT,Nat.reduceEqDiff,Int.reduceAdd,Int.reduceSub,Int.reduceMul,Int.reduceNeg,Int.reduceLT,Int.reduceLE,Int.reduceEq,Int.reduceToNat,Int.cast_ofNat_Int,↓reduceIte, *, ht.L, g0.I]
  refine Wp.for t.length (fun i a H' => ∃ u w, a 14 = v ∧ a 15 = .i t.length ∧ a 16 = .i i ∧ a 2 = u ∧ a 3 = w ∧ Gr H H' ∧ Acc H.length (fun _ => False) H' u ((t.take i).map List.sum) ∧ MI H.length H' w ((List.range (gi t 0).length).map fun j => colPart t i j) ∧ (∀ b, u.blk = some b → w.blk ≠ some b)) ?_ ?_
  · rintro i a H1 hi ⟨u, w, h14, h15, h16, h2, h3, hg, hu, hw, hne⟩ ih
    simp (disch := (first | assumption | omega | (simp only [List.length_append, List.length_cons, List.length_nil]; omega))) only [↓wD,wU,Nat.reduceBEq,zx150,zx151,zx159,zx160,zx161,zx162,Nat.reduceAdd,Nat.reduceSub,Nat.reduceMul,Nat.reduceLeDiff,Nat.reduceLT,Nat.reduceEqDiff,Int.reduceAdd,Int.reduceSub,Int.reduceMul,Int.reduceNeg,Int.reduceLT,Int.reduceLE,Int.reduceEq,Int.reduceToNat,Int.cast_ofNat_Int,↓reduceIte, *]
    refine condP_split (fun hlt => ?_) (fun hlt => ?_)
    · have hi' : i < t.length := by omega
      have ht1 := ht.gr hg
      have g := ht1.get (k := (i : Int)) (by omega) (by omega)
      have hwd := h.width hi'
      simp (disch := (first | assumption | omega | (simp only [List.length_append, List.length_cons, List.length_nil]; omega))) only [↓wD,wU,Nat.reduceBEq,zx150,zx151,zx159,zx160,zx161,zx162,Nat.reduceAdd,Nat.reduceSub,Nat.reduceMul,Nat.reduceLeDiff,Nat.reduceLT,Nat.reduceEqDiff,Int.reduceAdd,Int.reduceSub,Int.reduceMul,Int.reduceNeg,Int.reduceLT,Int.reduceLE,Int.reduceEq,Int.reduceToNat,Int.cast_ofNat_Int,↓reduceIte, *, ht1.L, g.I]
      refine Wp.for (gi t i).length (fun j a H2 => a 14 = v ∧ a 15 = .i t.length ∧ a 16 = .i i ∧ a 2 = u ∧ a 3 = w ∧ a 20 = v.get H1 i ∧ a 21 = .i (gi t i).length ∧ a 22 = .i j ∧ a 6 = .i ((gi t i).take j).sum ∧ Kp (fun b => w.blk ≠ some b) H1 H2 ∧ H2.length ≤ H1.length ∧ MI H.length H2 w ((List.range (gi t 0).length).map fun c => colPart t i c + if c < j then gi (gi t i) c else 0)) ?_ ?_
      · clear h14 h15 h16 h2 h3
        rintro j a H2 hj ⟨h14, h15, h16, h2, h3, h20, h21, h22, h6, hk, hl2, hw2⟩ ih2
        simp (disch := (first | assumption | omega | (simp only [List.length_append, List.length_cons, List.length_nil]; omega))) only [↓wD,wU,Nat.reduceBEq,zx150,zx151,zx159,zx160,zx161,zx162,Nat.reduceAdd,Nat.reduceSub,Nat.reduceMul,Nat.reduceLeDiff,Nat.reduceLT,Nat.reduceEqDiff,Int.reduceAdd,Int.reduceSub,Int.reduceMul,Int.reduceNeg,Int.reduceLT,Int.reduceLE,Int.reduceEq,Int.reduceToNat,Int.cast_ofNat_Int,↓reduceIte, *]
        refine condP_split (fun hlt => ?_) (fun hlt => ?_)
        · have hj' : j < (gi t i).length := by omega
          have he := h.entry hi' (j := j) (by omega)
          have hcp := h.colPart (i := i) (j := j) (by omega)
          have hrs := sum_bound (xs := (gi t i).take j) (m := 16) fun x hx => (h.2.2.1 _ (mem_gi hi')).2.2.2 x (List.mem_of_mem_take hx)
          have hrl : ((gi t i).take j).length ≤ 3 := by rw [List.length_take]; omega
          have g2 : Sl (fun b => b < H.length) H2 (v.get H1 i) (gi t i) := g.mono (hk.weak fun b hb e => by have := hw.blk_lt e; omega) fun _ h => h
          have hgv : gi ((List.range (gi t 0).length).map fun c => colPart t i c + if c < j then gi (gi t i) c else 0) (j : Int) = colPart t i j := by
            rw [gi_map_range (by omega)]; simp
          have hml : ((List.range (gi t 0).length).map fun c => colPart t i c + if c < j then gi (gi t i) c else 0).length = (gi t 0).length := by simp
          simp (disch := (first | assumption | omega | (simp only [List.length_append, List.length_cons, List.length_nil]; omega))) only [↓wD,wU,Nat.reduceBEq,zx150,zx151,zx159,zx160,zx161,zx162,Nat.reduceAdd,Nat.reduceSub,Nat.reduceMul,Nat.reduceLeDiff,Nat.reduceLT,Nat.reduceEqDiff,Int.reduceAdd,Int.reduceSub,Int.reduceMul,Int.reduceNeg,Int.reduceLT,Int.reduceLE,Int.reduceEq,Int.reduceToNat,Int.cast_ofNat_Int,↓reduceIte, *, g2.I, hw2.sl.I, hgv]
          refine hw2.store (Nat.le_refl _) (by omega) (by omega) fun H3 hw3 hk3 hl3' => ?_
          simp (disch := (first | assumption | omega | (simp only [List.length_append, List.length_cons, List.length_nil]; omega))) only [↓wD,wU,Nat.reduceBEq,zx150,zx151,zx159,zx160,zx161,zx162,Nat.reduceAdd,Nat.reduceSub,Nat.reduceMul,Nat.reduceLeDiff,Nat.reduceLT,Nat.reduceEqDiff,Int.reduceAdd,Int.reduceSub,Int.reduceMul,Int.reduceNeg,Int.reduceLT,Int.reduceLE,Int.reduceEq,Int.reduceToNat,Int.cast_ofNat_Int,↓reduceIte, *]
          refine (ih2 hj').go ?_
          rw [sum_take hj']
          simp (disch := (first | assumption | omega | (simp only [List.length_append, List.length_cons, List.length_nil]; omega))) only [↓wD,wU,Nat.reduceBEq,zx150,zx151,zx159,zx160,zx161,zx162,Nat.reduceAdd,Nat.reduceSub,Nat.reduceMul,Nat.reduceLeDiff,Nat.reduceLT,Nat.reduceEqDiff,Int.reduceAdd,Int.reduceSub,Int.reduceMul,Int.reduceNeg,Int.reduceLT,Int.reduceLE,Int.reduceEq,Int.reduceToNat,Int.cast_ofNat_Int,↓reduceIte, *]
          refine ⟨hk.trans hk3 fun b hb => hb, ?_⟩
          rw [set_map_range] at hw3
          have e : ((List.range (gi t 0).length).map fun c => colPart t i c + if c < j + 1 then gi (gi t i) c else 0) = (List.range (gi t 0).length).map fun c => if c = (j : Int).toNat then colPart t i j + gi (gi t i) j else colPart t i c + if c < j then gi (gi t i) c else 0 := by
            apply map_range_congr
            intro c _
            by_cases hcj : c = j
            · subst hcj; simp
            · have : (c < j + 1) = (c < j) := by simp only [eq_iff_iff]; omega
              simp [hcj, this]
          rw [e]; exact hw3
        · have hj2 : j = (gi t i).length := by omega
          subst hj2
          simp (disch := (first | assumption | omega | (simp only [List.length_append, List.length_cons, List.length_nil]; omega))) only [↓wD,wU,Nat.reduceBEq,zx150,zx151,zx159,zx160,zx161,zx162,Nat.reduceAdd,Nat.reduceSub,Nat.reduceMul,Nat.reduceLeDiff,Nat.reduceLT,Nat.reduceEqDiff,Int.reduceAdd,Int.reduceSub,Int.reduceMul,Int.reduceNeg,Int.reduceLT,Int.reduceLE,Int.reduceEq,Int.reduceToNat,Int.cast_ofNat_Int,↓reduceIte, *]
          have hu2 : Acc H.length (fun _ => False) H2 u ((t.take i).map List.sum) := hu.kp hk (fun b e e2 => hne b e e2) fun _ h => h.elim
          refine hu2.pushI (Nat.le_refl _) (by have := hg.1; have := hk.1; omega) ?_ fun u' H3 hu' hk3 hl3' hub => ?_
          · simp; omega
          · simp (disch := (first | assumption | omega | (simp only [List.length_append, List.length_cons, List.length_nil]; omega))) only [↓wD,wU,Nat.reduceBEq,zx150,zx151,zx159,zx160,zx161,zx162,Nat.reduceAdd,Nat.reduceSub,Nat.reduceMul,Nat.reduceLeDiff,Nat.reduceLT,Nat.reduceEqDiff,Int.reduceAdd,Int.reduceSub,Int.reduceMul,Int.reduceNeg,Int.reduceLT,Int.reduceLE,Int.reduceEq,Int.reduceToNat,Int.cast_ofNat_Int,↓reduceIte, *]
            refine (ih hi').go ⟨u', w, ?_⟩
            simp (disch := (first | assumption | omega | (simp only [List.length_append, List.length_cons, List.length_nil]; omega))) only [↓wD,wU,Nat.reduceBEq,zx150,zx151,zx159,zx160,zx161,zx162,Nat.reduceAdd,Nat.reduceSub,Nat.reduceMul,Nat.reduceLeDiff,Nat.reduceLT,Nat.reduceEqDiff,Int.reduceAdd,Int.reduceSub,Int.reduceMul,Int.reduceNeg,Int.reduceLT,Int.reduceLE,Int.reduceEq,Int.reduceToNat,Int.cast_ofNat_Int,↓reduceIte, *]
            have hgk : Gr H H2 := hg.trans' hk fun b hb e => by have := hw.blk_lt e; omega
            refine ⟨hgk.push hu2 (Nat.le_refl _) hk3, ?_, ?_, ?_⟩
            · rw [take_gi hi', List.map_append]
              simpa [List.take_of_length_le (show (gi t (i : Int)).length ≤ (gi t 0).length by omega)] using hu'
            · have e : ((List.range (gi t 0).length).map fun c => colPart t (i + 1) c) = (List.range (gi t 0).length).map fun c => colPart t i c + if c < (gi t i).length then gi (gi t i) c else 0 := by
                apply map_range_congr
                intro c hc
                rw [colPart_succ hi', if_pos (by omega)]
              rw [e]
              exact hw2.kp hk3 fun b e => fun e2 => hne b e2 e
            · intro b hb e
              have := hw2.blk_lt e
              simp at hb; omega
      · simp (disch := (first | assumption | omega | (simp only [List.length_append, List.length_cons, List.length_nil]; omega))) only [↓wD,wU,Nat.reduceBEq,zx150,zx151,zx159,zx160,zx161,zx162,Nat.reduceAdd,Nat.reduceSub,Nat.reduceMul,Nat.reduceLeDiff,Nat.reduceLT,Nat.reduceEqDiff,Int.reduceAdd,Int.reduceSub,Int.reduceMul,Int.reduceNeg,Int.reduceLT,Int.reduceLE,Int.reduceEq,Int.reduceToNat,Int.cast_ofNat_Int,↓reduceIte, *]
        refine ⟨rfl, Kp.refl _ _, ?_⟩
        simpa using hw
    · have e : i = t.length := by omega
      subst e
      simp (disch := (first | assumption | omega | (simp only [List.length_append, List.length_cons, List.length_nil]; omega))) only [↓wD,wU,Nat.reduceBEq,zx150,zx151,zx159,zx160,zx161,zx162,Nat.reduceAdd,Nat.reduceSub,Nat.reduceMul,Nat.reduceLeDiff,Nat.reduceLT,Nat.reduceEqDiff,Int.reduceAdd,Int.reduceSub,Int.reduceMul,Int.reduceNeg,Int.reduceLT,Int.reduceLE,Int.reduceEq,Int.reduceToNat,Int.cast_ofNat_Int,↓reduceIte, *]
      refine rv_2 ?_ ?_
      · have h1 := hu.sl.weak (q := fun b => False ∨ H.length ≤ b) fun b h => h
        rwa [List.take_length] at h1
      · exact hw.sl.weak fun b h => .inr h
  · simp (disch := (first | assumption | omega | (simp only [List.length_append, List.length_cons, List.length_nil]; omega))) only [↓wD,wU,Nat.reduceBEq,zx150,zx151,zx159,zx160,zx161,zx162,Nat.reduceAdd,Nat.reduceSub,Nat.reduceMul,Nat.reduceLeDiff,Nat.reduceLT,Nat.reduceEqDiff,Int.reduceAdd,Int.reduceSub,Int.reduceMul,Int.reduceNeg,Int.reduceLT,Int.reduceLE,Int.reduceEq,Int.reduceToNat,Int.cast_ofNat_Int,↓reduceIte, *]
    refine ⟨.nils, _, rfl, rfl, Kp.app _ _ _, Acc.nil, ?_, fun b e => by cases e⟩
    have h1 := MI.mk (H := H) (n := (gi t 0).length) (Nat.le_refl _) (by omega)
    have e : ((List.range (gi t 0).length).map fun j => colPart t 0 j) = List.replicate (gi t 0).length 0 := by
      apply List.ext_getElem (by simp)
      intro i h1 h2
      simp [colPart_0]
    rw [e]; exact h1
end Go.Proofs.Ytflekaacffdakaa
namespace Go.Proofs.Ytflekaacffdakaa
open Go Go.AM Go.Proofs
theorem list_ret {p : Nat → Prop} {H : Heap} {v : AV} {xs : List Int} (hx : Sl p H v xs) : Ret E 39 [v] (fun _ => False) H (xs.take 6) := by
  refine Ret.ro rfl fn39 rfl ?_
  unfold f39A
  have hb := hx.bound
  have hs : slV 1 v none (some (.i (min (xs.length : Int) 6))) none = some (v.cut 0 (min xs.length 6)) := by
    refine hx.slV_lh none _ (b := min xs.length 6) ?_ (bound_none (by omega)) (by omega) (by omega)
    rw [bound_some (by omega) (by omega)]
    congr 1
    omega
  simp (disch := (first | assumption | omega | (simp only [List.length_append, List.length_cons, List.length_nil]; omega))) only [↓wD,wU,Nat.reduceBEq,zx150,zx151,zx159,zx160,zx161,zx162,Nat.reduceAdd,Nat.reduceSub,Nat.reduceMul,Nat.reduceLeDiff,Nat.reduceLT,Nat.reduceEqDiff,Int.reduceAdd,Int.reduceSub,Int.reduceMul,Int.reduceNeg,Int.reduceLT,Int.reduceLE,Int.reduceEq,Int.reduceToNat,Int.cast_ofNat_Int,↓reduceIte, *, hx.I, hs]
  have hc := hx.cut (a := 0) (b := min xs.length 6) (by omega) (by omega)
  have e : (xs.drop 0).take (min xs.length 6 - 0) = xs.take 6 := by
    rw [List.drop_zero, Nat.sub_zero]
    by_cases hl : xs.length ≤ 6
    · rw [List.take_of_length_le (by omega), List.take_of_length_le hl]
    · congr 1; omega
  rw [e] at hc
  refine (clone_ret hc (by rw [List.length_take]; omega)).go fun u N hu => ?_
  simp (disch := (first | assumption | omega | (simp only [List.length_append, List.length_cons, List.length_nil]; omega))) only [↓wD,wU,Nat.reduceBEq,zx150,zx151,zx159,zx160,zx161,zx162,Nat.reduceAdd,Nat.reduceSub,Nat.reduceMul,Nat.reduceLeDiff,Nat.reduceLT,Nat.reduceEqDiff,Int.reduceAdd,Int.reduceSub,Int.reduceMul,Int.reduceNeg,Int.reduceLT,Int.reduceLE,Int.reduceEq,Int.reduceToNat,Int.cast_ofNat_Int,↓reduceIte]
  exact hu
def cutT (t : List (List Int)) : List (List Int) := (t.take 6).map fun r => r.take 6
theorem table_ret {p : Nat → Prop} {H : Heap} {v : AV} {t : List (List Int)} (ht : Sl p H v t) : Ret E 20 [v] (fun _ => False) H (cutT t) := by
  refine Ret.ro rfl fn20 rfl ?_
  unfold f20A
  have hb := ht.bound
  simp (disch := (first | assumption | omega | (simp only [List.length_append, List.length_cons, List.length_nil]; omega))) only [↓wD,wU,Nat.reduceBEq,zx150,zx151,zx159,zx160,zx161,zx162,Nat.reduceAdd,Nat.reduceSub,Nat.reduceMul,Nat.reduceLeDiff,Nat.reduceLT,Nat.reduceEqDiff,Int.reduceAdd,Int.reduceSub,Int.reduceMul,Int.reduceNeg,Int.reduceLT,Int.reduceLE,Int.reduceEq,Int.reduceToNat,Int.cast_ofNat_Int,↓reduceIte, *, ht.L]
  replace ht : Sl (fun b => b < H.length) H v t := ht.low.weak fun _ h => h.2
  refine Wp.for t.length (fun i a H' => ∃ u, a 6 = v ∧ a 7 = .i t.length ∧ a 8 = .i i ∧ a 3 = u ∧ Gr H H' ∧ Acc H.length (fun b => H.length ≤ b) H' u (((t.take i).take 6).map fun r => r.take 6)) ?_ ?_
  · rintro i a H1 hi ⟨u, h6, h7, h8, h3, hg, hu⟩ ih
    simp (disch := (first | assumption | omega | (simp only [List.length_append, List.length_cons, List.length_nil]; omega))) only [↓wD,wU,Nat.reduceBEq,zx150,zx151,zx159,zx160,zx161,zx162,Nat.reduceAdd,Nat.reduceSub,Nat.reduceMul,Nat.reduceLeDiff,Nat.reduceLT,Nat.reduceEqDiff,Int.reduceAdd,Int.reduceSub,Int.reduceMul,Int.reduceNeg,Int.reduceLT,Int.reduceLE,Int.reduceEq,Int.reduceToNat,Int.cast_ofNat_Int,↓reduceIte, *]
    refine condP_split (fun hlt => ?_) (fun hlt => ?_)
    · have hi' : i < t.length := by omega
      have ht1 := ht.gr hg
      have g := ht1.get (k := (i : Int)) (by omega) (by omega)
      simp (disch := (first | assumption | omega | (simp only [List.length_append, List.length_cons, List.length_nil]; omega))) only [↓wD,wU,Nat.reduceBEq,zx150,zx151,zx159,zx160,zx161,zx162,Nat.reduceAdd,Nat.reduceSub,Nat.reduceMul,Nat.reduceLeDiff,Nat.reduceLT,Nat.reduceEqDiff,Int.reduceAdd,Int.reduceSub,Int.reduceMul,Int.reduceNeg,Int.reduceLT,Int.reduceLE,Int.reduceEq,Int.reduceToNat,Int.cast_ofNat_Int,↓reduceIte, *, ht1.L]
      refine condP_split (fun h6 => ?_) (fun h6 => ?_)
      · simp (disch := (first | assumption | omega | (simp only [List.length_append, List.length_cons, List.length_nil]; omega))) only [↓wD,wU,Nat.reduceBEq,zx150,zx151,zx159,zx160,zx161,zx162,Nat.reduceAdd,Nat.reduceSub,Nat.reduceMul,Nat.reduceLeDiff,Nat.reduceLT,Nat.reduceEqDiff,Int.reduceAdd,Int.reduceSub,Int.reduceMul,Int.reduceNeg,Int.reduceLT,Int.reduceLE,Int.reduceEq,Int.reduceToNat,Int.cast_ofNat_Int,↓reduceIte, *]
        refine (list_ret g).toF fun y H2 hg2 hy => ?_
        have hl2 := hg2.1
        simp (disch := (first | assumption | omega | (simp only [List.length_append, List.length_cons, List.length_nil]; omega))) only [↓wD,wU,Nat.reduceBEq,zx150,zx151,zx159,zx160,zx161,zx162,Nat.reduceAdd,Nat.reduceSub,Nat.reduceMul,Nat.reduceLeDiff,Nat.reduceLT,Nat.reduceEqDiff,Int.reduceAdd,Int.reduceSub,Int.reduceMul,Int.reduceNeg,Int.reduceLT,Int.reduceLE,Int.reduceEq,Int.reduceToNat,Int.cast_ofNat_Int,↓reduceIte, *, hy.cellsV]
        refine (hu.gr hg2).pushL (Nat.le_refl _) (by have := hg.1; omega) hy (fun b hb => ⟨by have := hg.1; omega, fun e => by have := hu.blk_lt e; omega⟩) ?_ fun u' H3 hu' hk3 hl3' _ => ?_
        · simp; omega
        · simp (disch := (first | assumption | omega | (simp only [List.length_append, List.length_cons, List.length_nil]; omega))) only [↓wD,wU,Nat.reduceBEq,zx150,zx151,zx159,zx160,zx161,zx162,Nat.reduceAdd,Nat.reduceSub,Nat.reduceMul,Nat.reduceLeDiff,Nat.reduceLT,Nat.reduceEqDiff,Int.reduceAdd,Int.reduceSub,Int.reduceMul,Int.reduceNeg,Int.reduceLT,Int.reduceLE,Int.reduceEq,Int.reduceToNat,Int.cast_ofNat_Int,↓reduceIte, *]
          refine (ih hi').go ⟨u', ?_⟩
          simp (disch := (first | assumption | omega | (simp only [List.length_append, List.length_cons, List.length_nil]; omega))) only [↓wD,wU,Nat.reduceBEq,zx150,zx151,zx159,zx160,zx161,zx162,Nat.reduceAdd,Nat.reduceSub,Nat.reduceMul,Nat.reduceLeDiff,Nat.reduceLT,Nat.reduceEqDiff,Int.reduceAdd,Int.reduceSub,Int.reduceMul,Int.reduceNeg,Int.reduceLT,Int.reduceLE,Int.reduceEq,Int.reduceToNat,Int.cast_ofNat_Int,↓reduceIte, *]
          refine ⟨((hg.trans hg2).push (hu.gr hg2) (Nat.le_refl _) hk3), ?_⟩
          have e : ((t.take (i + 1)).take 6) = (t.take i).take 6 ++ [gi t i] := by
            rw [List.take_take, List.take_take, show min 6 (i + 1) = i + 1 by omega, show min 6 i = i by omega, take_gi hi']
          rw [e, List.map_append]; exact hu'
      · simp (disch := (first | assumption | omega | (simp only [List.length_append, List.length_cons, List.length_nil]; omega))) only [↓wD,wU,Nat.reduceBEq,zx150,zx151,zx159,zx160,zx161,zx162,Nat.reduceAdd,Nat.reduceSub,Nat.reduceMul,Nat.reduceLeDiff,Nat.reduceLT,Nat.reduceEqDiff,Int.reduceAdd,Int.reduceSub,Int.reduceMul,Int.reduceNeg,Int.reduceLT,Int.reduceLE,Int.reduceEq,Int.reduceToNat,Int.cast_ofNat_Int,↓reduceIte, *]
        refine (ih hi').go ⟨u, ?_⟩
        simp (disch := (first | assumption | omega | (simp only [List.length_append, List.length_cons, List.length_nil]; omega))) only [↓wD,wU,Nat.reduceBEq,zx150,zx151,zx159,zx160,zx161,zx162,Nat.reduceAdd,Nat.reduceSub,Nat.reduceMul,Nat.reduceLeDiff,Nat.reduceLT,Nat.reduceEqDiff,Int.reduceAdd,Int.reduceSub,Int.reduceMul,Int.reduceNeg,Int.reduceLT,Int.reduceLE,Int.reduceEq,Int.reduceToNat,Int.cast_ofNat_Int,↓reduceIte, *]
        have e : ((t.take (i + 1)).take 6) = (t.take i).take 6 := by
          rw [List.take_take, List.take_take]; congr 1; omega
        rw [e]; first | exact hu | exact ⟨hg, hu⟩
    · have e : i = t.length := by omega
      subst e
      simp (disch := (first | assumption | omega | (simp only [List.length_append, List.length_cons, List.length_nil]; omega))) only [↓wD,wU,Nat.reduceBEq,zx150,zx151,zx159,zx160,zx161,zx162,Nat.reduceAdd,Nat.reduceSub,Nat.reduceMul,Nat.reduceLeDiff,Nat.reduceLT,Nat.reduceEqDiff,Int.reduceAdd,Int.reduceSub,Int.reduceMul,Int.reduceNeg,Int.reduceLT,Int.reduceLE,Int.reduceEq,Int.reduceToNat,Int.cast_ofNat_Int,↓reduceIte, *]
      rw [List.take_length] at hu
      exact hu.sl.weak fun b h => .inr (by omega)
  · simp (disch := (first | assumption | omega | (simp only [List.length_append, List.length_cons, List.length_nil]; omega))) only [↓wD,wU,Nat.reduceBEq,zx150,zx151,zx159,zx160,zx161,zx162,Nat.reduceAdd,Nat.reduceSub,Nat.reduceMul,Nat.reduceLeDiff,Nat.reduceLT,Nat.reduceEqDiff,Int.reduceAdd,Int.reduceSub,Int.reduceMul,Int.reduceNeg,Int.reduceLT,Int.reduceLE,Int.reduceEq,Int.reduceToNat,Int.cast_ofNat_Int,↓reduceIte, *]
    exact ⟨.nils, rfl, Gr.refl _, Acc.nil⟩
end Go.Proofs.Ytflekaacffdakaa
namespace Go.Proofs.Ytflekaacffdakaa
open Go Go.AM Go.Proofs
theorem rtable_ret {p : Nat → Prop} {H : Heap} {v : AV} {t : List (List Int)} (ht : Sl p H v t) (hsz : t.length * 24 ≤ 140737488351232) : RetP E 22 [v] H (.b (decide (TabOk t))) := by
  refine RetP.ro rfl fn22 rfl rfl ?_
  unfold f22A
  simp (disch := (first | assumption | omega | (simp only [List.length_append, List.length_cons, List.length_nil]; omega))) only [↓wD,wU,Nat.reduceBEq,zx150,zx151,zx159,zx160,zx161,zx162,Nat.reduceAdd,Nat.reduceSub,Nat.reduceMul,Nat.reduceLeDiff,Nat.reduceLT,Nat.reduceEqDiff,Int.reduceAdd,Int.reduceSub,Int.reduceMul,Int.reduceNeg,Int.reduceLT,Int.reduceLE,Int.reduceEq,Int.reduceToNat,Int.cast_ofNat_Int,↓reduceIte, *, ht.L]
  refine Wp.for t.length (fun i a H' => H' = H ∧ a 0 = v ∧ a 8 = v ∧ a 9 = .i t.length ∧ a 10 = .i i ∧ a 3 = .i ((t.take i).map List.sum).sum ∧ (∀ r ∈ t.take i, RowOk (gi t 0).length r) ∧ 0 ≤ ((t.take i).map List.sum).sum ∧ ((t.take i).map List.sum).sum ≤ i * 48) ?_ ?_
  · rintro i a H' hi ⟨rfl, h0, h16, h17, h18, h3, hh, hp, hq⟩ ih
    simp (disch := (first | assumption | omega | (simp only [List.length_append, List.length_cons, List.length_nil]; omega))) only [↓wD,wU,Nat.reduceBEq,zx150,zx151,zx159,zx160,zx161,zx162,Nat.reduceAdd,Nat.reduceSub,Nat.reduceMul,Nat.reduceLeDiff,Nat.reduceLT,Nat.reduceEqDiff,Int.reduceAdd,Int.reduceSub,Int.reduceMul,Int.reduceNeg,Int.reduceLT,Int.reduceLE,Int.reduceEq,Int.reduceToNat,Int.cast_ofNat_Int,↓reduceIte, *]
    refine condP_split (fun hlt => ?_) (fun hlt => ?_)
    · have hi' : i < t.length := by omega
      have g := ht.get (k := (i : Int)) (by omega) (by omega)
      have g0 := ht.get (k := (0 : Int)) (by omega) (by omega)
      have hin : ¬ RowOk (gi t 0).length (gi t i) → ¬ TabOk t := fun hr h => hr (h.2.2.1 _ (mem_gi hi'))
      (repeat' (first | refine condP_split (fun _ => ?_) (fun _ => ?_) | refine guardP_split (fun _ => ?_) (fun _ => ?_) | refine guardP_splitF (fun _ => ?_) (fun _ => ?_) | (simp (disch := (first | assumption | omega | (simp only [List.length_append, List.length_cons, List.length_nil]; omega))) only [↓wD,wU,Nat.reduceBEq,zx150,zx151,zx159,zx160,zx161,zx162,Nat.reduceAdd,Nat.reduceSub,Nat.reduceMul,Nat.reduceLeDiff,Nat.reduceLT,Nat.reduceEqDiff,Int.reduceAdd,Int.reduceSub,Int.reduceMul,Int.reduceNeg,Int.reduceLT,Int.reduceLE,Int.reduceEq,Int.reduceToNat,Int.cast_ofNat_Int,↓reduceIte, *, ht.L, g.I, g0.I]))) <;> first
        | (refine avb_f (hin fun hr => ?_); have := hr.1; have := hr.2.1; have := hr.2.2.1; omega)
        | skip
      refine Wp.for (gi t i).length (fun j a H'' => H'' = H' ∧ a 0 = v ∧ a 8 = v ∧ a 9 = .i t.length ∧ a 10 = .i i ∧ a 31 = v.get H' i ∧ a 32 = .i (gi t i).length ∧ a 33 = .i j ∧ a 3 = .i (((t.take i).map List.sum).sum + ((gi t i).take j).sum) ∧ OkN ((gi t i).take j)) ?_ ?_
      · clear h0 h16 h17 h18 h3
        rintro j a H' hj ⟨rfl, h0, h16, h17, h18, h44, h45, h46, h3, hb1⟩ ih2
        have hb2 := sum_bound hb1
        have hb3 : ((gi t i).take j).length ≤ 3 := by rw [List.length_take]; omega
        simp (disch := (first | assumption | omega | (simp only [List.length_append, List.length_cons, List.length_nil]; omega))) only [↓wD,wU,Nat.reduceBEq,zx150,zx151,zx159,zx160,zx161,zx162,Nat.reduceAdd,Nat.reduceSub,Nat.reduceMul,Nat.reduceLeDiff,Nat.reduceLT,Nat.reduceEqDiff,Int.reduceAdd,Int.reduceSub,Int.reduceMul,Int.reduceNeg,Int.reduceLT,Int.reduceLE,Int.reduceEq,Int.reduceToNat,Int.cast_ofNat_Int,↓reduceIte, *]
        refine condP_split (fun hlt => ?_) (fun hlt => ?_)
        · have hj' : j < (gi t i).length := by omega
          (repeat' (first | refine condP_split (fun _ => ?_) (fun _ => ?_) | refine guardP_split (fun _ => ?_) (fun _ => ?_) | refine guardP_splitF (fun _ => ?_) (fun _ => ?_) | (simp (disch := (first | assumption | omega | (simp only [List.length_append, List.length_cons, List.length_nil]; omega))) only [↓wD,wU,Nat.reduceBEq,zx150,zx151,zx159,zx160,zx161,zx162,Nat.reduceAdd,Nat.reduceSub,Nat.reduceMul,Nat.reduceLeDiff,Nat.reduceLT,Nat.reduceEqDiff,Int.reduceAdd,Int.reduceSub,Int.reduceMul,Int.reduceNeg,Int.reduceLT,Int.reduceLE,Int.reduceEq,Int.reduceToNat,Int.cast_ofNat_Int,↓reduceIte, *, g.I]))) <;> first
            | (refine avb_f (hin fun hr => ?_); have := hr.2.2.2 _ (mem_gi hj'); omega)
            | skip
          refine (ih2 hj').go ⟨rfl, ?_⟩
          rw [sum_take hj']
          have hg : 0 ≤ gi (gi t i) j ∧ gi (gi t i) j ≤ 16 := by omega
          simp (disch := (first | assumption | omega | (simp only [List.length_append, List.length_cons, List.length_nil]; omega))) only [↓wD,wU,Nat.reduceBEq,zx150,zx151,zx159,zx160,zx161,zx162,Nat.reduceAdd,Nat.reduceSub,Nat.reduceMul,Nat.reduceLeDiff,Nat.reduceLT,Nat.reduceEqDiff,Int.reduceAdd,Int.reduceSub,Int.reduceMul,Int.reduceNeg,Int.reduceLT,Int.reduceLE,Int.reduceEq,Int.reduceToNat,Int.cast_ofNat_Int,↓reduceIte, *]
          exact ⟨by rw [Int.add_assoc], mem_take_gi hb1 hj' hg⟩
        · simp (disch := (first | assumption | omega | (simp only [List.length_append, List.length_cons, List.length_nil]; omega))) only [↓wD,wU,Nat.reduceBEq,zx150,zx151,zx159,zx160,zx161,zx162,Nat.reduceAdd,Nat.reduceSub,Nat.reduceMul,Nat.reduceLeDiff,Nat.reduceLT,Nat.reduceEqDiff,Int.reduceAdd,Int.reduceSub,Int.reduceMul,Int.reduceNeg,Int.reduceLT,Int.reduceLE,Int.reduceEq,Int.reduceToNat,Int.cast_ofNat_Int,↓reduceIte, *]
          have e : (gi t i).take j = gi t i := List.take_of_length_le (by omega)
          rw [e] at hb1 hb2 hb3
          refine (ih hi').go ⟨rfl, ?_⟩
          have e2 : ((t.take (i + 1)).map List.sum).sum = ((t.take i).map List.sum).sum + (gi t i).sum := by rw [take_gi hi', List.map_append, List.sum_append]; simp
          rw [e2]
          simp (disch := (first | assumption | omega | (simp only [List.length_append, List.length_cons, List.length_nil]; omega))) only [↓wD,wU,Nat.reduceBEq,zx150,zx151,zx159,zx160,zx161,zx162,Nat.reduceAdd,Nat.reduceSub,Nat.reduceMul,Nat.reduceLeDiff,Nat.reduceLT,Nat.reduceEqDiff,Int.reduceAdd,Int.reduceSub,Int.reduceMul,Int.reduceNeg,Int.reduceLT,Int.reduceLE,Int.reduceEq,Int.reduceToNat,Int.cast_ofNat_Int,↓reduceIte, *]
          refine ⟨mem_take_gi hh hi' ⟨?_, ?_, ?_, hb1⟩, ?_, ?_⟩ <;> omega
      · (simp (disch := (first | assumption | omega | (simp only [List.length_append, List.length_cons, List.length_nil]; omega))) only [↓wD,wU,Nat.reduceBEq,zx150,zx151,zx159,zx160,zx161,zx162,Nat.reduceAdd,Nat.reduceSub,Nat.reduceMul,Nat.reduceLeDiff,Nat.reduceLT,Nat.reduceEqDiff,Int.reduceAdd,Int.reduceSub,Int.reduceMul,Int.reduceNeg,Int.reduceLT,Int.reduceLE,Int.reduceEq,Int.reduceToNat,Int.cast_ofNat_Int,↓reduceIte, *]) <;> simp [OkN]
    · have e : t.take i = t := List.take_of_length_le (by omega)
      rw [e] at hh hp hq
      (repeat' (first | refine condP_split (fun _ => ?_) (fun _ => ?_) | refine guardP_split (fun _ => ?_) (fun _ => ?_) | refine guardP_splitF (fun _ => ?_) (fun _ => ?_) | (simp (disch := (first | assumption | omega | (simp only [List.length_append, List.length_cons, List.length_nil]; omega))) only [↓wD,wU,Nat.reduceBEq,zx150,zx151,zx159,zx160,zx161,zx162,Nat.reduceAdd,Nat.reduceSub,Nat.reduceMul,Nat.reduceLeDiff,Nat.reduceLT,Nat.reduceEqDiff,Int.reduceAdd,Int.reduceSub,Int.reduceMul,Int.reduceNeg,Int.reduceLT,Int.reduceLE,Int.reduceEq,Int.reduceToNat,Int.cast_ofNat_Int,↓reduceIte, *, ht.L]))) <;> first
        | (refine avb_f fun h => ?_; have := h.1; have := h.2.1; omega)
        | skip
      congr 1
      exact decide_eq_decide.2 ⟨fun h => ⟨by omega, by omega, hh, h⟩, fun h => h.2.2.2⟩
  · (simp (disch := (first | assumption | omega | (simp only [List.length_append, List.length_cons, List.length_nil]; omega))) only [↓wD,wU,Nat.reduceBEq,zx150,zx151,zx159,zx160,zx161,zx162,Nat.reduceAdd,Nat.reduceSub,Nat.reduceMul,Nat.reduceLeDiff,Nat.reduceLT,Nat.reduceEqDiff,Int.reduceAdd,Int.reduceSub,Int.reduceMul,Int.reduceNeg,Int.reduceLT,Int.reduceLE,Int.reduceEq,Int.reduceToNat,Int.cast_ofNat_Int,↓reduceIte, *]) <;> simp
theorem same_ret {p q : Nat → Prop} {H : Heap} {r1 r2 : AV} {xs ys : List (List Int)} (k1 : Sl p H r1 xs) (k2 : Sl q H r2 ys) :
    RetP E 26 [r1, r2] H (.b (decide (xs = ys))) := by
  refine RetP.ro rfl fn26 rfl rfl ?_
  unfold f26A
  have hb1 := k1.bound
  have hb2 := k2.bound
  (repeat' (first | refine condP_split (fun _ => ?_) (fun _ => ?_) | refine guardP_split (fun _ => ?_) (fun _ => ?_) | refine guardP_splitF (fun _ => ?_) (fun _ => ?_) | (simp (disch := (first | assumption | omega | (simp only [List.length_append, List.length_cons, List.length_nil]; omega))) only [↓wD,wU,Nat.reduceBEq,zx150,zx151,zx159,zx160,zx161,zx162,Nat.reduceAdd,Nat.reduceSub,Nat.reduceMul,Nat.reduceLeDiff,Nat.reduceLT,Nat.reduceEqDiff,Int.reduceAdd,Int.reduceSub,Int.reduceMul,Int.reduceNeg,Int.reduceLT,Int.reduceLE,Int.reduceEq,Int.reduceToNat,Int.cast_ofNat_Int,↓reduceIte, *, k1.L, k2.L]))) <;> first
    | (rename_i hl; exact avb_f fun h => hl (by simp_all))
    | skip
  rename_i hl
  have hl : xs.length = ys.length := by omega
  refine Wp.for xs.length (fun i a H' => H' = H ∧ a 1 = r2 ∧ a 14 = r1 ∧ a 15 = .i xs.length ∧ a 16 = .i i ∧ xs.take i = ys.take i) ?_ ?_
  · rintro i a H' hi ⟨rfl, h3, h24, h25, h26, hh⟩ ih
    simp (disch := (first | assumption | omega | (simp only [List.length_append, List.length_cons, List.length_nil]; omega))) only [↓wD,wU,Nat.reduceBEq,zx150,zx151,zx159,zx160,zx161,zx162,Nat.reduceAdd,Nat.reduceSub,Nat.reduceMul,Nat.reduceLeDiff,Nat.reduceLT,Nat.reduceEqDiff,Int.reduceAdd,Int.reduceSub,Int.reduceMul,Int.reduceNeg,Int.reduceLT,Int.reduceLE,Int.reduceEq,Int.reduceToNat,Int.cast_ofNat_Int,↓reduceIte, *]
    refine condP_split (fun hlt => ?_) (fun hlt => ?_)
    · have hi1 : i < xs.length := by omega
      have g1 := k1.get (k := (i : Int)) (by omega) (by omega)
      have g2 := k2.get (k := (i : Int)) (by omega) (by omega)
      have gb1 := g1.bound
      (repeat' (first | refine condP_split (fun _ => ?_) (fun _ => ?_) | refine guardP_split (fun _ => ?_) (fun _ => ?_) | refine guardP_splitF (fun _ => ?_) (fun _ => ?_) | (simp (disch := (first | assumption | omega | (simp only [List.length_append, List.length_cons, List.length_nil]; omega))) only [↓wD,wU,Nat.reduceBEq,zx150,zx151,zx159,zx160,zx161,zx162,Nat.reduceAdd,Nat.reduceSub,Nat.reduceMul,Nat.reduceLeDiff,Nat.reduceLT,Nat.reduceEqDiff,Int.reduceAdd,Int.reduceSub,Int.reduceMul,Int.reduceNeg,Int.reduceLT,Int.reduceLE,Int.reduceEq,Int.reduceToNat,Int.cast_ofNat_Int,↓reduceIte, *, k1.L, k2.L, g1.I, g2.I]))) <;> first
        | (rename_i hne; exact avb_f fun h => hne (by simp_all))
        | skip
      rename_i hll
      have hll : (gi xs i).length = (gi ys i).length := by omega
      refine Wp.for (gi xs i).length (fun j a H'' => H'' = H' ∧ a 1 = r2 ∧ a 14 = r1 ∧ a 15 = .i xs.length ∧ a 16 = .i i ∧ a 5 = .i i ∧ a 29 = r1.get H' i ∧ a 30 = .i (gi xs i).length ∧ a 31 = .i j ∧ (gi xs i).take j = (gi ys i).take j) ?_ ?_
      · clear h3 h24 h25 h26
        rintro j a H' hj ⟨rfl, h3, h24, h25, h26, h5, h40, h41, h42, hh2⟩ ih2
        simp (disch := (first | assumption | omega | (simp only [List.length_append, List.length_cons, List.length_nil]; omega))) only [↓wD,wU,Nat.reduceBEq,zx150,zx151,zx159,zx160,zx161,zx162,Nat.reduceAdd,Nat.reduceSub,Nat.reduceMul,Nat.reduceLeDiff,Nat.reduceLT,Nat.reduceEqDiff,Int.reduceAdd,Int.reduceSub,Int.reduceMul,Int.reduceNeg,Int.reduceLT,Int.reduceLE,Int.reduceEq,Int.reduceToNat,Int.cast_ofNat_Int,↓reduceIte, *]
        refine condP_split (fun hlt2 => ?_) (fun hlt2 => ?_)
        · have hj1 : j < (gi xs i).length := by omega
          (repeat' (first | refine condP_split (fun _ => ?_) (fun _ => ?_) | refine guardP_split (fun _ => ?_) (fun _ => ?_) | refine guardP_splitF (fun _ => ?_) (fun _ => ?_) | (simp (disch := (first | assumption | omega | (simp only [List.length_append, List.length_cons, List.length_nil]; omega))) only [↓wD,wU,Nat.reduceBEq,zx150,zx151,zx159,zx160,zx161,zx162,Nat.reduceAdd,Nat.reduceSub,Nat.reduceMul,Nat.reduceLeDiff,Nat.reduceLT,Nat.reduceEqDiff,Int.reduceAdd,Int.reduceSub,Int.reduceMul,Int.reduceNeg,Int.reduceLT,Int.reduceLE,Int.reduceEq,Int.reduceToNat,Int.cast_ofNat_Int,↓reduceIte, *, k1.L, k2.L, g1.I, g2.I]))) <;> first
            | (rename_i hne; exact avb_f fun h => hne (by simp_all))
            | skip
          refine (ih2 hj1).go ⟨rfl, ?_⟩
          simp (disch := (first | assumption | omega | (simp only [List.length_append, List.length_cons, List.length_nil]; omega))) only [↓wD,wU,Nat.reduceBEq,zx150,zx151,zx159,zx160,zx161,zx162,Nat.reduceAdd,Nat.reduceSub,Nat.reduceMul,Nat.reduceLeDiff,Nat.reduceLT,Nat.reduceEqDiff,Int.reduceAdd,Int.reduceSub,Int.reduceMul,Int.reduceNeg,Int.reduceLT,Int.reduceLE,Int.reduceEq,Int.reduceToNat,Int.cast_ofNat_Int,↓reduceIte, *]
          exact take_eq_succ hh2 hj1 (by omega) (by omega)
        · simp (disch := (first | assumption | omega | (simp only [List.length_append, List.length_cons, List.length_nil]; omega))) only [↓wD,wU,Nat.reduceBEq,zx150,zx151,zx159,zx160,zx161,zx162,Nat.reduceAdd,Nat.reduceSub,Nat.reduceMul,Nat.reduceLeDiff,Nat.reduceLT,Nat.reduceEqDiff,Int.reduceAdd,Int.reduceSub,Int.reduceMul,Int.reduceNeg,Int.reduceLT,Int.reduceLE,Int.reduceEq,Int.reduceToNat,Int.cast_ofNat_Int,↓reduceIte, *]
          refine (ih hi1).go ⟨rfl, ?_⟩
          simp (disch := (first | assumption | omega | (simp only [List.length_append, List.length_cons, List.length_nil]; omega))) only [↓wD,wU,Nat.reduceBEq,zx150,zx151,zx159,zx160,zx161,zx162,Nat.reduceAdd,Nat.reduceSub,Nat.reduceMul,Nat.reduceLeDiff,Nat.reduceLT,Nat.reduceEqDiff,Int.reduceAdd,Int.reduceSub,Int.reduceMul,Int.reduceNeg,Int.reduceLT,Int.reduceLE,Int.reduceEq,Int.reduceToNat,Int.cast_ofNat_Int,↓reduceIte, *]
          exact take_eq_succ hh hi1 (by omega) (take_all hh2 hll (by omega))
      · (simp (disch := (first | assumption | omega | (simp only [List.length_append, List.length_cons, List.length_nil]; omega))) only [↓wD,wU,Nat.reduceBEq,zx150,zx151,zx159,zx160,zx161,zx162,Nat.reduceAdd,Nat.reduceSub,Nat.reduceMul,Nat.reduceLeDiff,Nat.reduceLT,Nat.reduceEqDiff,Int.reduceAdd,Int.reduceSub,Int.reduceMul,Int.reduceNeg,Int.reduceLT,Int.reduceLE,Int.reduceEq,Int.reduceToNat,Int.cast_ofNat_Int,↓reduceIte, *]) <;> simp
    · simp (disch := (first | assumption | omega | (simp only [List.length_append, List.length_cons, List.length_nil]; omega))) only [↓wD,wU,Nat.reduceBEq,zx150,zx151,zx159,zx160,zx161,zx162,Nat.reduceAdd,Nat.reduceSub,Nat.reduceMul,Nat.reduceLeDiff,Nat.reduceLT,Nat.reduceEqDiff,Int.reduceAdd,Int.reduceSub,Int.reduceMul,Int.reduceNeg,Int.reduceLT,Int.reduceLE,Int.reduceEq,Int.reduceToNat,Int.cast_ofNat_Int,↓reduceIte, *]
      exact avb_t (take_all hh hl (by omega))
  · (simp (disch := (first | assumption | omega | (simp only [List.length_append, List.length_cons, List.length_nil]; omega))) only [↓wD,wU,Nat.reduceBEq,zx150,zx151,zx159,zx160,zx161,zx162,Nat.reduceAdd,Nat.reduceSub,Nat.reduceMul,Nat.reduceLeDiff,Nat.reduceLT,Nat.reduceEqDiff,Int.reduceAdd,Int.reduceSub,Int.reduceMul,Int.reduceNeg,Int.reduceLT,Int.reduceLE,Int.reduceEq,Int.reduceToNat,Int.cast_ofNat_Int,↓reduceIte, *]) <;> simp
end Go.Proofs.Ytflekaacffdakaa
namespace Go.Proofs.Ytflekaacffdakaa
open Go Go.AM Go.Proofs
theorem list2 {xs : List Int} (h : xs.length = 2) : ∃ a b, xs = [a, b] := by
  match xs, h with
  | [a, b], _ => exact ⟨a, b, rfl⟩
theorem list3 {xs : List Int} (h : xs.length = 3) : ∃ a b c, xs = [a, b, c] := by
  match xs, h with
  | [a, b, c], _ => exact ⟨a, b, c, rfl⟩
theorem eq37 (w : World) (x0 x1 y0 y1 : Int) : (Op.equalIn 10000 37 (.agg #[.int .i64 x0, .int .i64 x1]) (.agg #[.int .i64 y0, .int .i64 y1])).run C.P w = .ok ([x0, x1] == [y0, y1]) w := by
  rw [run_equalIn_struct w 9999 37 _ _ (by kernel_rfl) (by kernel_rfl)]
  have hi : Try.prog.underlying 3 = some (.int .i64) := Try.underlying3
  have e : ∀ a b : Int, (Op.equalIn 9999 3 (.int .i64 a) (.int .i64 b)).run Try.prog w = .ok (a == b) w := fun a b => run_equalIn_int w 9998 3 .i64 .i64 a b hi
  have pt : ∀ (a b : Int) (k : Nat), k < 2 → (part 3 #[.int .i64 a, .int .i64 b] k).run Try.prog w = .ok (.int .i64 (if k = 0 then a else b)) w := by
    intro a b k hk
    have : k = 0 ∨ k = 1 := by omega
    rcases this with rfl | rfl <;> go_simp
  simp [Try.underlying37, Program.fieldsOf, C, Op.eqFields, pt, e]
  by_cases h1 : x0 = y0 <;> by_cases h2 : x1 = y1 <;> simp [h1, h2]
theorem eq88 (w : World) (x0 x1 x2 y0 y1 y2 : Int) : (Op.equalIn 10000 88 (.agg #[.int .i64 x0, .int .i64 x1, .int .i64 x2]) (.agg #[.int .i64 y0, .int .i64 y1, .int .i64 y2])).run C.P w = .ok ([x0, x1, x2] == [y0, y1, y2]) w := by
  have hi : Try.prog.underlying 3 = some (.int .i64) := Try.underlying3
  have ha : Try.prog.underlying 88 = some (.array 3 3) := Try.underlying88
  have e : ∀ a b : Int, (Op.equalIn 9999 3 (.int .i64 a) (.int .i64 b)).run Try.prog w = .ok (a == b) w := fun a b => run_equalIn_int w 9998 3 .i64 .i64 a b hi
  have pt : ∀ (a b c : Int) (k : Nat), k < 3 → (part 3 #[.int .i64 a, .int .i64 b, .int .i64 c] k).run Try.prog w = .ok (.int .i64 (if k = 0 then a else if k = 1 then b else c)) w := by
    intro a b c k hk
    have : k = 0 ∨ k = 1 ∨ k = 2 := by omega
    rcases this with rfl | rfl | rfl <;> go_simp
  have sz : (sizeOf 3).run Try.prog w = .ok 1 w := by go_simp
  change (Op.equalIn (9999 + 1) 88 _ _).run Try.prog w = _
  unfold Op.equalIn
  simp [run_underlying ha, sz, Std.Legacy.Range.forIn_eq_forIn_range', Std.Legacy.Range.size, List.range', pt, e]
  by_cases h1 : x0 = y0 <;> by_cases h2 : x1 = y1 <;> by_cases h3 : x2 = y2 <;> simp [h1, h2, h3]
theorem eqOk : EqOk C := by
  intro t n ht xs ys hx hy neg xo yo w
  have hc : t = 37 ∧ n = 2 ∨ t = 88 ∧ n = 3 := by
    simp only [C] at ht
    split at ht
    · rename_i h; cases ht; exact .inl ⟨by simpa using h, rfl⟩
    · split at ht
      · rename_i h; cases ht; exact .inr ⟨by simpa using h, rfl⟩
      · cases ht
  rcases hc with ⟨rfl, rfl⟩ | ⟨rfl, rfl⟩
  · obtain ⟨x0, x1, rfl⟩ := list2 hx
    obtain ⟨y0, y1, rfl⟩ := list2 hy
    have g : ∀ op, (eqGuard op 37 xo yo (.agg (ints [x0, x1])) (.agg (ints [y0, y1]))).run C.P w = .ok () w := fun op => run_eqGuard_agg w op 37 xo yo _ _ (by kernel_rfl)
    have e := eq37 w x0 x1 y0 y1
    cases neg
    · simp only [Bool.false_eq_true, if_false, Sem.run_bind, g, Result.andThen_ok, run_eql_struct]
      simp [ints] at e ⊢; rw [e]; rfl
    · simp only [if_true, Sem.run_bind, g, Result.andThen_ok, run_neq_struct]
      simp [ints] at e ⊢; rw [e]; simp [Result.andThen, Bool.not_and]
  · obtain ⟨x0, x1, x2, rfl⟩ := list3 hx
    obtain ⟨y0, y1, y2, rfl⟩ := list3 hy
    have g : ∀ op, (eqGuard op 88 xo yo (.agg (ints [x0, x1, x2])) (.agg (ints [y0, y1, y2]))).run C.P w = .ok () w := fun op => run_eqGuard_agg w op 88 xo yo _ _ (by kernel_rfl)
    have e := eq88 w x0 x1 x2 y0 y1 y2
    cases neg
    · simp only [Bool.false_eq_true, if_false, Sem.run_bind, g, Result.andThen_ok, run_eql_struct]
      simp [ints] at e ⊢; rw [e]; rfl
    · simp only [if_true, Sem.run_bind, g, Result.andThen_ok, run_neq_struct]
      simp [ints] at e ⊢; rw [e]; simp [Result.andThen, Bool.not_and]
theorem list9 {xs : List Int} (h : xs.length = 9) : ∃ a b c d e f g i j, xs = [a, b, c, d, e, f, g, i, j] := by
  match xs, h with
  | [a, b, c, d, e, f, g, i, j], _ => exact ⟨a, b, c, d, e, f, g, i, j, rfl⟩
theorem int9 (w : World) (xs : List Int) (hx : xs.length = 9) (k : Nat) (hk : k < 9) : (part 3 (ints xs) k).run Try.prog w = .ok (.int .i64 (xs.getD k 0)) w := by
  obtain ⟨a, b, c, d, e, f, g, i, j, rfl⟩ := list9 hx
  have : k = 0 ∨ k = 1 ∨ k = 2 ∨ k = 3 ∨ k = 4 ∨ k = 5 ∨ k = 6 ∨ k = 7 ∨ k = 8 := by omega
  simp only [ints]
  rcases this with rfl | rfl | rfl | rfl | rfl | rfl | rfl | rfl | rfl <;> go_simp
theorem eq92 (w : World) (xs ys : List Int) (hx : xs.length = 9) (hy : ys.length = 9) : (Op.equal 92 (.agg (ints xs)) (.agg (ints ys))).run C.P w = .ok (xs == ys) w := by
  have hi : Try.prog.underlying 3 = some (.int .i64) := Try.underlying3
  have ha : Try.prog.underlying 92 = some (.array 9 3) := Try.underlying92
  have e : ∀ a b : Int, (Op.equalIn 9999 3 (.int .i64 a) (.int .i64 b)).run Try.prog w = .ok (a == b) w := fun a b => run_equalIn_int w 9998 3 .i64 .i64 a b hi
  have sz : (sizeOf 3).run Try.prog w = .ok 1 w := by go_simp
  have px := int9 w xs hx
  have py := int9 w ys hy
  change (Op.equalIn (9999 + 1) 92 _ _).run Try.prog w = _
  unfold Op.equalIn
  simp [run_underlying ha, sz, Std.Legacy.Range.forIn_eq_forIn_range', Std.Legacy.Range.size, List.range', px, py, e]
  obtain ⟨x0, x1, x2, x3, x4, x5, x6, x7, x8, rfl⟩ := list9 hx
  obtain ⟨y0, y1, y2, y3, y4, y5, y6, y7, y8, rfl⟩ := list9 hy
  by_cases h0 : x0 = y0
  · by_cases h1 : x1 = y1
    · by_cases h2 : x2 = y2
      · by_cases h3 : x3 = y3
        · by_cases h4 : x4 = y4
          · by_cases h5 : x5 = y5
            · by_cases h6 : x6 = y6
              · by_cases h7 : x7 = y7
                · by_cases h8 : x8 = y8
                  · simp [h0, h1, h2, h3, h4, h5, h6, h7, h8]
                  · simp [h0, h1, h2, h3, h4, h5, h6, h7, h8]
                · simp [h0, h1, h2, h3, h4, h5, h6, h7]
              · simp [h0, h1, h2, h3, h4, h5, h6]
            · simp [h0, h1, h2, h3, h4, h5]
          · simp [h0, h1, h2, h3, h4]
        · simp [h0, h1, h2, h3]
      · simp [h0, h1, h2]
    · simp [h0, h1]
  · simp [h0]
theorem ck92 (w : World) (em : Bool) (xs : List Int) (hx : xs.length = 9) : (Instr.checkKey em 10000 92 (.agg (ints xs))).run C.P w = .ok () w := by
  have hi : Try.prog.underlying 3 = some (.int .i64) := Try.underlying3
  have ha : Try.prog.underlying 92 = some (.array 9 3) := Try.underlying92
  have e : ∀ a : Int, (Instr.checkKey em 9999 3 (.int .i64 a)).run Try.prog w = .ok () w := fun a => by
    change (Instr.checkKey em (9998 + 1) 3 _).run Try.prog w = _
    unfold Instr.checkKey
    simp [run_underlying hi]
  have sz : (sizeOf 3).run Try.prog w = .ok 1 w := by go_simp
  have px := int9 w xs hx
  change (Instr.checkKey em (9999 + 1) 92 _).run Try.prog w = _
  unfold Instr.checkKey
  simp [run_underlying ha, sz, Std.Legacy.Range.forIn_eq_forIn_range', Std.Legacy.Range.size, List.range', px, e]
theorem keyOk : KeyOk C := by
  intro t n ht
  simp only [C] at ht
  split at ht
  · rename_i h
    cases ht
    have : t = 94 := by simpa using h
    subst this
    exact ⟨92, 74, 9, 3, by kernel_rfl, Try.underlying92, fun xs hx em w => ck92 w em xs hx, fun xs ys hx hy w => eq92 w xs ys hx hy⟩
  · cases ht
theorem eOk : EOk C (fun _ => True) E where
  kd := rfl
  fn := fun f af h => tab_ok (f, af) (lookup_mem h)
  prim := fun f g h => by
    simp only [C, kd] at h
    split at h
    · cases h
    · split at h <;> cases h
  del := fun f h => by
    simp only [C, kd] at h
    split at h
    · cases h
    · split at h <;> cases h
  stable := fun _ _ _ _ => trivial
  eq := eqOk
  key := keyOk
  mixed := mixed
end Go.Proofs.Ytflekaacffdakaa
namespace Go.Proofs.Ytflekaacffdakaa
open Go Go.AM Go.Proofs
theorem awake_ret {H : Heap} : RetP E 23 [] H (.b true) :=
  RetP.closed (n := 300) rfl fn23 rfl rfl (by kernel_rfl)
theorem cutT_ok {t : List (List Int)} (h : TabOk t) : cutT t = t := by
  unfold cutT
  rw [List.take_of_length_le (by have := h.2.1; omega)]
  conv => rhs; rw [← List.map_id t]
  apply List.map_congr_left
  intro r hr
  exact List.take_of_length_le (by have := (h.2.2.1 r hr).2.1; omega)
theorem TabOk_cut {t : List (List Int)} : TabOk (cutT t) ↔ TabOk t := by
  constructor
  · intro h
    have e : cutT t = t := by
      have h1 : t.length ≤ 3 := by have := h.2.1; simp [cutT] at this; omega
      unfold cutT
      rw [List.take_of_length_le (by omega)]
      conv => rhs; rw [← List.map_id t]
      apply List.map_congr_left
      intro r hr
      have hm : r.take 6 ∈ cutT t := by
        unfold cutT
        rw [List.take_of_length_le (by omega)]
        exact List.mem_map_of_mem hr
      have := (h.2.2.1 _ hm).2.1
      rw [List.length_take] at this
      exact List.take_of_length_le (by omega)
    rwa [e] at h
  · intro h
    rw [cutT_ok h]; exact h
end Go.Proofs.Ytflekaacffdakaa
namespace Go.Proofs.Ytflekaacffdakaa
open Go Go.AM Go.Proofs
def fracN (m n : Nat) : Int × Int := ((m / Nat.gcd m n : Nat), (n / Nat.gcd m n : Nat))
end Go.Proofs.Ytflekaacffdakaa
namespace Go.Proofs.Ytflekaacffdakaa
open Go Go.AM Go.Proofs
def Four (t : List (List Int)) : Prop := TabOk t ∧ t.length = 2 ∧ (gi t 0).length = 2
instance (t : List (List Int)) : Decidable (Four t) := by unfold Four; infer_instance
theorem nat_of {x : Int} (h : 0 ≤ x) : ∃ n : Nat, x = n := ⟨x.toNat, by omega⟩
theorem Four.elim {t : List (List Int)} (h : Four t) : ∃ a b c d : Nat, t = [[(a : Int), b], [(c : Int), d]] ∧ a + b + c + d ≤ 16 := by
  obtain ⟨h, h1, h2⟩ := h
  match t, h1 with
  | [r, s], _ =>
    have hs := h.2.2.1 s (by simp)
    have hr := h.2.2.1 r (by simp)
    have e1 : (gi [r, s] 0) = r := rfl
    rw [e1] at h2 hs hr
    have h3 : s.length = 2 := by rw [hs.2.2.1, h2]
    match r, h2, s, h3 with
    | [a, b], _, [c, d], _ =>
      have ha := hr.2.2.2 a (by simp)
      have hb := hr.2.2.2 b (by simp)
      have hc := hs.2.2.2 c (by simp)
      have hd := hs.2.2.2 d (by simp)
      have hsum := h.2.2.2
      simp at hsum
      obtain ⟨a, rfl⟩ := nat_of ha.1
      obtain ⟨b, rfl⟩ := nat_of hb.1
      obtain ⟨c, rfl⟩ := nat_of hc.1
      obtain ⟨d, rfl⟩ := nat_of hd.1
      exact ⟨a, b, c, d, rfl, by omega⟩
theorem Four.mk {a b c d : Nat} (h : a + b + c + d ≤ 16) : Four [[(a : Int), b], [(c : Int), d]] := by
  refine ⟨⟨by simp, by simp, ?_, by simp; omega⟩, rfl, rfl⟩
  intro r hr
  simp at hr
  rcases hr with rfl | rfl
  · refine ⟨by simp, by simp, rfl, ?_⟩
    intro x hx; simp at hx; rcases hx with rfl | rfl <;> omega
  · refine ⟨by simp, by simp, rfl, ?_⟩
    intro x hx; simp at hx; rcases hx with rfl | rfl <;> omega
end Go.Proofs.Ytflekaacffdakaa
namespace Go.Proofs.Ytflekaacffdakaa
open Go Go.AM Go.Proofs
def NE (t : List (List Int)) : Prop := ∀ r ∈ t, r ≠ [] ∧ r.length ≤ 1000
theorem TabOk.ne {t : List (List Int)} (h : TabOk t) : NE t := fun r hr => ⟨fun e => by have := (h.2.2.1 r hr).1; rw [e] at this; simp at this, by have := (h.2.2.1 r hr).2.1; omega⟩
theorem tclone_ret {p : Nat → Prop} {H : Heap} {v : AV} {t : List (List Int)} (ht : Sl p H v t) (hne : NE t) (hl : t.length ≤ 1000) : Ret E 84 [v] (fun _ => False) H (OT.mk t) := by
  refine Ret.ro rfl fn84 rfl ?_
  unfold f84A
  simp (disch := (first | assumption | omega | (simp only [List.length_append, List.length_cons, List.length_nil]; omega))) only [↓wD,wU,Nat.reduceBEq,zx150,zx151,zx159,zx160,zx161,zx162,Nat.reduceAdd,Nat.reduceSub,Nat.reduceMul,Nat.reduceLeDiff,Nat.reduceLT,Nat.reduceEqDiff,Int.reduceAdd,Int.reduceSub,Int.reduceMul,Int.reduceNeg,Int.reduceLT,Int.reduceLE,Int.reduceEq,Int.reduceToNat,Int.cast_ofNat_Int,↓reduceIte, *, ht.L]
  replace ht : Sl (fun b => b < H.length) H v t := ht.low.weak fun _ h => h.2
  refine Wp.for t.length (fun i a H' => ∃ u, a 6 = v ∧ a 7 = .i t.length ∧ a 8 = .i i ∧ a 3 = u ∧ Gr H H' ∧ MT H.length H' u (t.take i)) ?_ ?_
  · rintro i a H1 hi ⟨u, h6, h7, h8, h3, hg, hu⟩ ih
    simp (disch := (first | assumption | omega | (simp only [List.length_append, List.length_cons, List.length_nil]; omega))) only [↓wD,wU,Nat.reduceBEq,zx150,zx151,zx159,zx160,zx161,zx162,Nat.reduceAdd,Nat.reduceSub,Nat.reduceMul,Nat.reduceLeDiff,Nat.reduceLT,Nat.reduceEqDiff,Int.reduceAdd,Int.reduceSub,Int.reduceMul,Int.reduceNeg,Int.reduceLT,Int.reduceLE,Int.reduceEq,Int.reduceToNat,Int.cast_ofNat_Int,↓reduceIte, *]
    refine condP_split (fun hlt => ?_) (fun hlt => ?_)
    · have hi' : i < t.length := by omega
      have ht1 := ht.gr hg
      have g := ht1.get (k := (i : Int)) (by omega) (by omega)
      have hn := hne _ (mem_gi hi')
      have hl1 := hg.1
      simp (disch := (first | assumption | omega | (simp only [List.length_append, List.length_cons, List.length_nil]; omega))) only [↓wD,wU,Nat.reduceBEq,zx150,zx151,zx159,zx160,zx161,zx162,Nat.reduceAdd,Nat.reduceSub,Nat.reduceMul,Nat.reduceLeDiff,Nat.reduceLT,Nat.reduceEqDiff,Int.reduceAdd,Int.reduceSub,Int.reduceMul,Int.reduceNeg,Int.reduceLT,Int.reduceLE,Int.reduceEq,Int.reduceToNat,Int.cast_ofNat_Int,↓reduceIte, *, ht1.L]
      refine (clone_ret g (by omega)).toF fun y H2 hg2 hy => ?_
      have hl2 := hg2.1
      simp (disch := (first | assumption | omega | (simp only [List.length_append, List.length_cons, List.length_nil]; omega))) only [↓wD,wU,Nat.reduceBEq,zx150,zx151,zx159,zx160,zx161,zx162,Nat.reduceAdd,Nat.reduceSub,Nat.reduceMul,Nat.reduceLeDiff,Nat.reduceLT,Nat.reduceEqDiff,Int.reduceAdd,Int.reduceSub,Int.reduceMul,Int.reduceNeg,Int.reduceLT,Int.reduceLE,Int.reduceEq,Int.reduceToNat,Int.cast_ofNat_Int,↓reduceIte, *, hy.cellsV]
      refine hu.push hg2 (Nat.le_refl _) hl1 hy hn.1 (by simp; omega) fun u' H3 hu' hk3 => ?_
      simp (disch := (first | assumption | omega | (simp only [List.length_append, List.length_cons, List.length_nil]; omega))) only [↓wD,wU,Nat.reduceBEq,zx150,zx151,zx159,zx160,zx161,zx162,Nat.reduceAdd,Nat.reduceSub,Nat.reduceMul,Nat.reduceLeDiff,Nat.reduceLT,Nat.reduceEqDiff,Int.reduceAdd,Int.reduceSub,Int.reduceMul,Int.reduceNeg,Int.reduceLT,Int.reduceLE,Int.reduceEq,Int.reduceToNat,Int.cast_ofNat_Int,↓reduceIte, *]
      refine (ih hi').go ⟨u', ?_⟩
      rw [take_gi hi']
      simp (disch := (first | assumption | omega | (simp only [List.length_append, List.length_cons, List.length_nil]; omega))) only [↓wD,wU,Nat.reduceBEq,zx150,zx151,zx159,zx160,zx161,zx162,Nat.reduceAdd,Nat.reduceSub,Nat.reduceMul,Nat.reduceLeDiff,Nat.reduceLT,Nat.reduceEqDiff,Int.reduceAdd,Int.reduceSub,Int.reduceMul,Int.reduceNeg,Int.reduceLT,Int.reduceLE,Int.reduceEq,Int.reduceToNat,Int.cast_ofNat_Int,↓reduceIte, *]
      exact (hg.trans hg2).trans' hk3 fun b hb e => by have := hu.blk_lt e; omega
    · have e : i = t.length := by omega
      subst e
      rw [List.take_length] at hu
      simp (disch := (first | assumption | omega | (simp only [List.length_append, List.length_cons, List.length_nil]; omega))) only [↓wD,wU,Nat.reduceBEq,zx150,zx151,zx159,zx160,zx161,zx162,Nat.reduceAdd,Nat.reduceSub,Nat.reduceMul,Nat.reduceLeDiff,Nat.reduceLT,Nat.reduceEqDiff,Int.reduceAdd,Int.reduceSub,Int.reduceMul,Int.reduceNeg,Int.reduceLT,Int.reduceLE,Int.reduceEq,Int.reduceToNat,Int.cast_ofNat_Int,↓reduceIte, *]
      exact hu.rv fun b h => .inr h
  · simp (disch := (first | assumption | omega | (simp only [List.length_append, List.length_cons, List.length_nil]; omega))) only [↓wD,wU,Nat.reduceBEq,zx150,zx151,zx159,zx160,zx161,zx162,Nat.reduceAdd,Nat.reduceSub,Nat.reduceMul,Nat.reduceLeDiff,Nat.reduceLT,Nat.reduceEqDiff,Int.reduceAdd,Int.reduceSub,Int.reduceMul,Int.reduceNeg,Int.reduceLT,Int.reduceLE,Int.reduceEq,Int.reduceToNat,Int.cast_ofNat_Int,↓reduceIte, *]
    exact ⟨.nils, rfl, Gr.refl _, MT.nil⟩
/-- entry k of row i, set -/
def setE (t : List (List Int)) (i k : Int) (x : Int) : List (List Int) := t.set i.toNat ((gi t i).set k.toNat x)
def getE (t : List (List Int)) (i k : Int) : Int := gi (gi t i) k
def PlaceOk (t : List (List Int)) (i j k l : Int) : Prop := 0 ≤ i ∧ i < t.length ∧ 0 ≤ j ∧ j < t.length ∧ i ≠ j ∧ 0 ≤ k ∧ k < (gi t 0).length ∧ 0 ≤ l ∧ l < (gi t 0).length ∧ k ≠ l
instance (t : List (List Int)) (i j k l : Int) : Decidable (PlaceOk t i j k l) := by unfold PlaceOk; infer_instance
def Dims (t : List (List Int)) (n m : Nat) : Prop := t.length = n ∧ ∀ i : Int, 0 ≤ i → i < n → (gi t i).length = m
theorem gi_set {α : Type} [Inhabited α] {xs : List α} {i j : Int} {x : α} (hi : 0 ≤ i) (hj : 0 ≤ j) (hl : i < xs.length) : gi (xs.set i.toNat x) j = if i = j then x else gi xs j := by
  unfold gi
  by_cases h : i = j
  · subst h
    rw [if_pos rfl]
    have : i.toNat < xs.length := by omega
    simp [this]
  · rw [if_neg h]
    have : i.toNat ≠ j.toNat := by omega
    simp [List.getD_eq_getElem?_getD, List.getElem?_set_ne this]
theorem Dims.setE {t : List (List Int)} {n m : Nat} (h : Dims t n m) {i k x : Int} (hi : 0 ≤ i) (hi2 : i < n) : Dims (setE t i k x) n m := by
  refine ⟨by simp [Go.Proofs.Ytflekaacffdakaa.setE, h.1], fun j hj hj2 => ?_⟩
  unfold Go.Proofs.Ytflekaacffdakaa.setE
  rw [gi_set hi hj (by rw [h.1]; exact hi2)]
  split
  · rw [List.length_set]; exact h.2 i hi hi2
  · exact h.2 j hj hj2
theorem getE_setE {t : List (List Int)} {n m : Nat} (h : Dims t n m) {i k x j l : Int} (hi : 0 ≤ i) (hi2 : i < n) (hk : 0 ≤ k) (hk2 : k < m) (hj : 0 ≤ j) (hl : 0 ≤ l) : getE (setE t i k x) j l = if i = j ∧ k = l then x else getE t j l := by
  unfold Go.Proofs.Ytflekaacffdakaa.setE getE
  rw [gi_set hi hj (by rw [h.1]; exact hi2)]
  by_cases e : i = j
  · subst e
    rw [if_pos rfl, gi_set hk hl (by rw [h.2 i hi hi2]; exact hk2)]
    by_cases e2 : k = l <;> simp [e2]
  · rw [if_neg e, if_neg (fun h => e h.1)]
end Go.Proofs.Ytflekaacffdakaa
namespace Go.Proofs.Ytflekaacffdakaa
open Go Go.AM Go.Proofs
theorem foldl_max_ge {xs : List Int} : ∀ {m : Int}, m ≤ xs.foldl max m ∧ ∀ x ∈ xs, x ≤ xs.foldl max m := by
  induction xs with
  | nil => simp
  | cons x xs ih =>
    intro m
    have := ih (m := max m x)
    simp only [List.foldl_cons, List.mem_cons, forall_eq_or_imp]
    exact ⟨by omega, by omega, this.2⟩
theorem foldl_max_mem {xs : List Int} : ∀ {m : Int}, xs.foldl max m = m ∨ xs.foldl max m ∈ xs := by
  induction xs with
  | nil => simp
  | cons x xs ih =>
    intro m
    simp only [List.foldl_cons, List.mem_cons]
    rcases ih (m := max m x) with h | h
    · rw [h]; rcases Int.le_total m x with h1 | h1
      · right; left; omega
      · left; omega
    · exact .inr (.inr h)
def maxL (xs : List Int) : Int := (xs.drop 1).foldl max (gi xs 0)
theorem maxL_spec {xs : List Int} (h : 1 ≤ xs.length) : maxL xs ∈ xs ∧ ∀ x ∈ xs, x ≤ maxL xs := by
  cases xs with
  | nil => simp at h
  | cons x xs =>
    simp only [maxL, zx181, List.drop_succ_cons, List.drop_zero]
    have h1 := foldl_max_ge (xs := xs) (m := x)
    refine ⟨?_, fun y hy => ?_⟩
    · rcases foldl_max_mem (xs := xs) (m := x) with h | h
      · rw [h]; simp
      · exact List.mem_cons_of_mem _ h
    · rcases List.mem_cons.1 hy with rfl | hy
      · exact h1.1
      · exact h1.2 y hy
theorem take_drop1 {xs : List Int} {i : Nat} (h1 : 1 ≤ i) (h : i < xs.length) : (xs.take (i + 1)).drop 1 = (xs.take i).drop 1 ++ [gi xs i] := by
  rw [take_gi h, List.drop_append_of_le_length (by rw [List.length_take]; omega)]
theorem maxL_take {xs : List Int} {i : Nat} (h1 : 1 ≤ i) (h : i < xs.length) : maxL (xs.take (i + 1)) = max (maxL (xs.take i)) (gi xs i) := by
  have e : ∀ j, 1 ≤ j → gi (xs.take j) 0 = gi xs 0 := fun j hj => by cases xs with | nil => simp at h | cons x r => cases j with | zero => omega | succ j => rfl
  unfold maxL
  rw [take_drop1 h1 h, List.foldl_append, e _ h1, e _ (by omega)]; rfl
theorem max_ret {p : Nat → Prop} {H : Heap} {v : AV} {xs : List Int} (hx : Sl p H v xs) (h : 1 ≤ xs.length) : RetP E 101 [v] H (.i (maxL xs)) := by
  refine RetP.ro rfl fn101 rfl rfl ?_
  unfold f101A
  have hb := hx.bound
  simp (disch := (first | assumption | omega | (simp only [List.length_append, List.length_cons, List.length_nil]; omega))) only [↓wD,wU,Nat.reduceBEq,zx150,zx151,zx159,zx160,zx161,zx162,Nat.reduceAdd,Nat.reduceSub,Nat.reduceMul,Nat.reduceLeDiff,Nat.reduceLT,Nat.reduceEqDiff,Int.reduceAdd,Int.reduceSub,Int.reduceMul,Int.reduceNeg,Int.reduceLT,Int.reduceLE,Int.reduceEq,Int.reduceToNat,Int.cast_ofNat_Int,↓reduceIte, *, hx.I]
  refine Wp.for (xs.length - 1) (fun i a H' => H' = H ∧ a 0 = v ∧ a 4 = .i (i + 1) ∧ a 3 = .i (maxL (xs.take (i + 1)))) ?_ ?_
  · rintro i a H' hi ⟨rfl, a0, a4, a3⟩ ih
    simp (disch := (first | assumption | omega | (simp only [List.length_append, List.length_cons, List.length_nil]; omega))) only [↓wD,wU,Nat.reduceBEq,zx150,zx151,zx159,zx160,zx161,zx162,Nat.reduceAdd,Nat.reduceSub,Nat.reduceMul,Nat.reduceLeDiff,Nat.reduceLT,Nat.reduceEqDiff,Int.reduceAdd,Int.reduceSub,Int.reduceMul,Int.reduceNeg,Int.reduceLT,Int.reduceLE,Int.reduceEq,Int.reduceToNat,Int.cast_ofNat_Int,↓reduceIte, *, hx.I]
    refine condP_split (fun hlt => ?_) (fun hlt => ?_)
    · have hi' : i < xs.length - 1 := by omega
      have e := maxL_take (xs := xs) (i := i + 1) (by omega) (by omega)
      simp only [Int.natCast_add, Int.natCast_one] at e
      simp (disch := (first | assumption | omega | (simp only [List.length_append, List.length_cons, List.length_nil]; omega))) only [↓wD,wU,Nat.reduceBEq,zx150,zx151,zx159,zx160,zx161,zx162,Nat.reduceAdd,Nat.reduceSub,Nat.reduceMul,Nat.reduceLeDiff,Nat.reduceLT,Nat.reduceEqDiff,Int.reduceAdd,Int.reduceSub,Int.reduceMul,Int.reduceNeg,Int.reduceLT,Int.reduceLE,Int.reduceEq,Int.reduceToNat,Int.cast_ofNat_Int,↓reduceIte, *, hx.I]
      refine (ih hi').go ⟨rfl, ?_⟩
      simp (disch := (first | assumption | omega | (simp only [List.length_append, List.length_cons, List.length_nil]; omega))) only [↓wD,wU,Nat.reduceBEq,zx150,zx151,zx159,zx160,zx161,zx162,Nat.reduceAdd,Nat.reduceSub,Nat.reduceMul,Nat.reduceLeDiff,Nat.reduceLT,Nat.reduceEqDiff,Int.reduceAdd,Int.reduceSub,Int.reduceMul,Int.reduceNeg,Int.reduceLT,Int.reduceLE,Int.reduceEq,Int.reduceToNat,Int.cast_ofNat_Int,↓reduceIte, *]
    · simp (disch := (first | assumption | omega | (simp only [List.length_append, List.length_cons, List.length_nil]; omega))) only [↓wD,wU,Nat.reduceBEq,zx150,zx151,zx159,zx160,zx161,zx162,Nat.reduceAdd,Nat.reduceSub,Nat.reduceMul,Nat.reduceLeDiff,Nat.reduceLT,Nat.reduceEqDiff,Int.reduceAdd,Int.reduceSub,Int.reduceMul,Int.reduceNeg,Int.reduceLT,Int.reduceLE,Int.reduceEq,Int.reduceToNat,Int.cast_ofNat_Int,↓reduceIte, *]
      rw [List.take_of_length_le (by omega)]
  · (simp (disch := (first | assumption | omega | (simp only [List.length_append, List.length_cons, List.length_nil]; omega))) only [↓wD,wU,Nat.reduceBEq,zx150,zx151,zx159,zx160,zx161,zx162,Nat.reduceAdd,Nat.reduceSub,Nat.reduceMul,Nat.reduceLeDiff,Nat.reduceLT,Nat.reduceEqDiff,Int.reduceAdd,Int.reduceSub,Int.reduceMul,Int.reduceNeg,Int.reduceLT,Int.reduceLE,Int.reduceEq,Int.reduceToNat,Int.cast_ofNat_Int,↓reduceIte, *]) <;> first | rfl | skip
    unfold maxL
    cases xs with
    | nil => simp at h
    | cons x r => simp [zx181]
end Go.Proofs.Ytflekaacffdakaa
namespace Go.Proofs.Ytflekaacffdakaa
open Go Go.AM Go.Proofs
def lines : List Int → Int → List (List Int)
  | [], need => if need > 0 then [] else [[]]
  | c :: cs, need => (List.range (min need c + 1).toNat).flatMap fun x : Nat => (lines cs (need - (x : Int))).map ((x : Int) :: ·)
def subL (xs ys : List Int) : List Int := List.zipWith (· - ·) xs ys
def tabsL : List Int → List Int → List (List (List Int))
  | [], L => if maxL L > 0 then [] else [[]]
  | r :: rs, L => (lines L r).flatMap fun l => (tabsL rs (subL L l)).map (l :: ·)
/-- the blocks that grow writes -/
def Wb (n R lb b : Nat) : Prop := b = lb ∨ (R ≤ b ∧ b < R + n)
/-- what grow reads and never writes -/
structure Fx (K : Nat → Prop) (H : Heap) (y rv cv lv : AV) (rows cols : List Int) (n m : Nat) (bm bl bY bt bg tb R lb : Nat) : Prop where
  mg : H[bm]? = some (.cells [rv, cv]) ∧ ¬ K bm ∧ ¬ Wb n R lb bm
  lg : H[bl]? = some (.cells [lv]) ∧ ¬ K bl ∧ ¬ Wb n R lb bl
  yg : H[bY]? = some (.cells [y]) ∧ ¬ K bY ∧ ¬ Wb n R lb bY
  tg : H[bt]? = some (.cells [.s 1 tb 0 n (some n)]) ∧ ¬ K bt ∧ ¬ Wb n R lb bt
  tbg : H[tb]? = some (.cells ((List.range n).map fun a : Nat => .s 1 (R + a) 0 m (some m))) ∧ ¬ K tb ∧ ¬ Wb n R lb tb
  gg : H[bg]? = some (.cells [.fn 100 [] [.p bm 0, .p bl 0, .p bY 0, .p bt 0, .p bg 0]]) ∧ ¬ K bg ∧ ¬ Wb n R lb bg
  rows : Sl (fun b => ¬ K b ∧ ¬ Wb n R lb b) H rv rows
  cols : Sl (fun b => ¬ K b ∧ ¬ Wb n R lb b) H cv cols
theorem Fx.mono {K K' : Nat → Prop} {H H' : Heap} {y rv cv lv : AV} {rows cols : List Int} {n m : Nat} {bm bl bY bt bg tb R lb : Nat} (h : Fx K H y rv cv lv rows cols n m bm bl bY bt bg tb R lb)
    (hk : Kx (fun b => ¬ K b ∧ ¬ Wb n R lb b) H H') (hK : ∀ b, b < H.length → K' b → K b) : Fx K' H' y rv cv lv rows cols n m bm bl bY bt bg tb R lb := by
  have go : ∀ {b : Nat} {k : Blk}, (H[b]? = some k ∧ ¬ K b ∧ ¬ Wb n R lb b) → (H'[b]? = some k ∧ ¬ K' b ∧ ¬ Wb n R lb b) := fun {b k} q =>
    ⟨hk.get q.2 q.1, fun e => q.2.1 (hK _ (List.getElem?_eq_some_iff.1 q.1).1 e), q.2.2⟩
  exact ⟨go h.mg, go h.lg, go h.yg, go h.tg, go h.tbg, go h.gg, (h.rows.low.mono (hk.weak fun _ _ h => h.1).kp fun b q => ⟨fun e => q.1.1 (hK b q.2 e), q.1.2⟩), (h.cols.low.mono (hk.weak fun _ _ h => h.1).kp fun b q => ⟨fun e => q.1.1 (hK b q.2 e), q.1.2⟩)⟩
/-- what grow writes -/
structure Wk (B : Nat) (K : Nat → Prop) (H : Heap) (lv : AV) (n m R lb : Nat) (T : List (List Int)) (L : List Int) : Prop where
  len : T.length = n
  row : ∀ a, a < n → H[R + a]? = some (.cells ((gi T (a : Int)).map AV.i)) ∧ (gi T (a : Int)).length = m ∧ ¬ K (R + a)
  left : Rep.rep (fun b => ¬ K b) H [lv] (⟨lb, L⟩ : OR)
  ll : L.length = m
  lo : B ≤ lb ∧ B ≤ R ∧ ¬ (R ≤ lb ∧ lb < R + n)
theorem Wk.left_lt {B : Nat} {K : Nat → Prop} {H : Heap} {lv : AV} {n m R lb : Nat} {T : List (List Int)} {L : List Int} (h : Wk B K H lv n m R lb T L) : lb < H.length ∧ ¬ K lb := by
  obtain ⟨o, c, k, e, h1, h2, _⟩ := h.left
  exact ⟨(List.getElem?_eq_some_iff.1 h2).1, h1⟩
theorem Wk.row_lt {B : Nat} {K : Nat → Prop} {H : Heap} {lv : AV} {n m R lb : Nat} {T : List (List Int)} {L : List Int} (h : Wk B K H lv n m R lb T L) {a : Nat} (ha : a < n) : R + a < H.length := (List.getElem?_eq_some_iff.1 (h.row a ha).1).1
theorem Wk.mono {B : Nat} {K K' : Nat → Prop} {H H' : Heap} {lv : AV} {n m R lb : Nat} {T : List (List Int)} {L : List Int} (h : Wk B K H lv n m R lb T L) (hk : Kx (fun b => ¬ K b) H H') (hK : ∀ b, b < H.length → K' b → K b) : Wk B K' H' lv n m R lb T L :=
  ⟨h.len, fun a ha => ⟨hk.get (h.row a ha).2.2 (h.row a ha).1, (h.row a ha).2.1, fun e => (h.row a ha).2.2 (hK _ (h.row_lt ha) e)⟩,
    Rep.mono (Rep.low h.left) (hk.weak fun _ _ h => h.1).kp fun b q e => q.1 (hK b q.2 e), h.ll, h.lo⟩
theorem Wk.leftSl {B : Nat} {K : Nat → Prop} {H : Heap} {lv : AV} {n m R lb : Nat} {T : List (List Int)} {L : List Int} (h : Wk B K H lv n m R lb T L) : Sl (fun b => ¬ K b) H lv L := by
  obtain ⟨v, e, hs⟩ := OR.sl h.left
  cases e
  exact hs
theorem zx178 {b m : Nat} {c : Option Nat} {k : Nat} (h : k < m) : iaddrV 1 (.s 1 b 0 m c) (.i (k : Int)) = some (.p b k) := by
  have h0 : (0 : Int) ≤ k ∧ (k : Int) < m := by omega
  show (if 0 ≤ (k : Int) ∧ (k : Int) < m ∧ 1 = 1 then some (AV.p b (0 + (k : Int).toNat * 1)) else none) = _
  rw [if_pos ⟨h0.1, h0.2, rfl⟩]
  simp
/-- a number of left, set -/
theorem Wk.setL {B lo : Nat} {K : Nat → Prop} {H : Heap} {lv : AV} {n m R lb : Nat} {T : List (List Int)} {L : List Int} (h : Wk B K H lv n m R lb T L) {j : Nat} (hj : j < m) (hlo : lo ≤ B) {x : Int} {Q : Heap → Prop}
    (go : ∀ H', Wk B K H' lv n m R lb T (L.set j x) → Kx (fun b => b ≠ lb) H H' → H'.length = H.length → Q H') : @optP _ (stA lo H 1 (lv.at 1 (j : Int)) (.i x)) ⟨Q⟩ := by
  obtain ⟨o, c, k, e, h1, h2, h3, h4, h5⟩ := h.left
  cases e
  have hll := h.ll
  change ¬ K lb at h1
  change H[lb]? = _ at h2
  change o + L.length ≤ _ at h3
  change L.length ≤ _ at h4
  change ∀ (i : Nat) (h : i < L.length), k[o + i]? = some (.i L[i]) at h5
  have hst : stA lo H 1 ((AV.s 1 lb o L.length c).at 1 (j : Int)) (.i x) = some (H.set lb (.cells (k.set (o + j) (.i x)))) := by
    simp only [stA, AV.at, zx130, List.length_singleton, List.all_cons, List.all_nil, zx140, Bool.and_self, and_self, if_true]
    change st lo H lb (o + j * 1) [.i x] = _
    rw [Nat.mul_one, st_of (lo := lo) (o := o + j) (vs := [.i x]) h2 (by have := h.lo; omega) (by simp; omega)]
    simp [wr]
  refine ⟨_, hst, go _ ⟨h.len, fun a ha => ?_, ?_, by rw [List.length_set]; exact h.ll, h.lo⟩ (Kx.set _ _ _) (by simp)⟩
  · rw [List.getElem?_set_ne (show lb ≠ R + a by have := h.lo; omega)]
    exact h.row a ha
  · refine ⟨o, c, k.set (o + j) (.i x), by simp, h1, get_set h2, by simpa using h3, by simpa using h4, fun i hi => ?_⟩
    have hi' : i < L.length := by simpa using hi
    by_cases e : j = i
    · subst e
      rw [List.getElem?_set_self (by omega)]; simp
    · rw [List.getElem?_set_ne (by omega), h5 i hi']
      simp only [List.getElem_set]
      rw [if_neg e]
/-- a number of the table, set -/
theorem Wk.setT {B lo : Nat} {K : Nat → Prop} {H : Heap} {lv : AV} {n m R lb : Nat} {T : List (List Int)} {L : List Int} (h : Wk B K H lv n m R lb T L) {i j : Nat} (hi : i < n) (hj : j < m) (hlo : lo ≤ B) {x : Int} :
    ∃ H', st lo H (R + i) j [.i x] = some H' ∧ Wk B K H' lv n m R lb (T.set i ((gi T (i : Int)).set j x)) L ∧ Kx (fun b => b ≠ R + i) H H' ∧ H'.length = H.length := by
  obtain ⟨h1, h2, h3⟩ := h.row i hi
  have hlen := h.len
  refine ⟨_, st_of h1 (by have := h.lo; omega) (by simp; omega), ⟨by rw [List.length_set]; exact h.len, fun a ha => ?_, ?_, h.ll, h.lo⟩, Kx.set _ _ _, by simp⟩
  · have eg : gi (T.set i ((gi T (i : Int)).set j x)) (a : Int) = if i = a then (gi T (i : Int)).set j x else gi T (a : Int) := by
      have := gi_set (xs := T) (i := (i : Int)) (j := (a : Int)) (x := (gi T (i : Int)).set j x) (by omega) (by omega) (by omega)
      rw [show ((i : Int)).toNat = i from rfl] at this
      rw [this]
      by_cases e : i = a
      · rw [if_pos e, if_pos (by omega)]
      · rw [if_neg e, if_neg (by omega)]
    rw [eg]
    by_cases e : i = a
    · subst e
      rw [if_pos rfl]
      refine ⟨?_, by rw [List.length_set]; exact h2, h3⟩
      rw [get_set h1]
      simp [wr, List.map_set]
    · rw [if_neg e, List.getElem?_set_ne (by omega)]
      exact h.row a ha
  · obtain ⟨o, c, k, e, q1, q2, q3⟩ := h.left
    exact ⟨o, c, k, e, q1, by rw [List.getElem?_set_ne (show R + i ≠ lb by have := h.lo; omega)]; exact q2, q3⟩
/-- the table, as a slice -/
theorem Wk.tabSl {B : Nat} {K : Nat → Prop} {H : Heap} {lv : AV} {n m R lb tb : Nat} {T : List (List Int)} {L : List Int} (h : Wk B K H lv n m R lb T L) (ht : H[tb]? = some (.cells ((List.range n).map fun a : Nat => .s 1 (R + a) 0 m (some m)))) (hn : n ≤ 3) (hm : m ≤ 3) : Sl (fun _ => True) H (.s 1 tb 0 n (some n)) T := by
  have hlen := h.len
  subst hlen
  refine .inr ⟨tb, 0, some T.length, _, rfl, trivial, ht, ?_, by omega, fun i hi => ?_⟩
  · change 0 + T.length * 1 ≤ _; simp
  · refine ⟨.s 1 (R + i) 0 m (some m), ?_, ?_⟩
    · change (((List.range T.length).map fun a : Nat => AV.s 1 (R + a) 0 m (some m)).drop (0 + i * 1)).take 1 = _
      rw [Nat.zero_add, Nat.mul_one, List.take_one, List.head?_drop]
      simp [hi]
    · obtain ⟨h1, h2, h3⟩ := h.row i hi
      rw [gi_nat hi] at h1 h2
      subst h2
      exact Sl.litI (p := fun _ => True) h1 trivial (by omega)
end Go.Proofs.Ytflekaacffdakaa
namespace Go.Proofs.Ytflekaacffdakaa
open Go Go.AM Go.Proofs
/-- an item: a table -/
def ArgT (Ki : Nat → Prop) (H : Heap) (args : List AV) (x : List (List Int)) : Prop := ∃ u, args = [u] ∧ Sl Ki H u x
/-- what is known of a table behind i rows and some numbers of the next one -/
def Pre (T D : List (List Int)) (i : Nat) (c : List Int) : Prop := (∀ a : Nat, a < i → gi T (a : Int) = gi D (a : Int)) ∧ (gi T (i : Int)).take c.length = c
def GPost (B n m R lb : Nat) (lv : AV) (D : List (List Int)) (c L : List Int) (Q : Bool → (Nat → Prop) → Heap → Prop) (K : Nat → Prop) (H : Heap) (u : AV) (H' : Heap) : Prop :=
  ∃ ok K', u = .b ok ∧ (∀ H2, Kx (fun b => b < B ∨ K' b) H' H2 → Q ok K' H2) ∧ Kx (fun b => ¬ K b ∧ ¬ Wb n R lb b) H H' ∧ (∀ b, K' b → b < H'.length ∧ (b < H.length → K b)) ∧ ∃ T', Wk B K' H' lv n m R lb T' L ∧ Pre T' D D.length c
section
variable {lo B n m bm bl bY bt bg tb R lb : Nat} {y rv cv lv : AV} {rows cols : List Int}
def GrowA (lo B n m bm bl bY bt bg tb R lb : Nat) (y rv cv lv : AV) (rows cols : List Int) (rs : List Int) : Prop :=
  ∀ (D : List (List Int)) (L : List Int) (T : List (List Int)) (K : Nat → Prop) (H : Heap) (Q : Bool → (Nat → Prop) → Heap → Prop), D.length + rs.length = n → rows.drop D.length = rs → (∀ x ∈ L, 0 ≤ x ∧ x ≤ 16) →
    Fx K H y rv cv lv rows cols n m bm bl bY bt bg tb R lb → Wk B K H lv n m R lb T L → Pre T D D.length [] → (∀ b, K b → b < H.length) → B ≤ H.length →
    Its E lo y B ArgT Q ((tabsL rs L).map (D ++ ·)) K H →
    WpF E lo 100 [.i D.length, .i 0, .i (gi rows (D.length : Int)), .p bm 0, .p bl 0, .p bY 0, .p bt 0, .p bg 0] H (GPost B n m R lb lv D [] L Q K H)
def GrowB (lo B n m bm bl bY bt bg tb R lb : Nat) (y rv cv lv : AV) (rows cols : List Int) (rs cs : List Int) : Prop :=
  ∀ (D : List (List Int)) (c : List Int) (need : Int) (L : List Int) (T : List (List Int)) (K : Nat → Prop) (H : Heap) (Q : Bool → (Nat → Prop) → Heap → Prop), D.length + 1 + rs.length = n → rows.drop (D.length + 1) = rs → L.drop c.length = cs → c.length + cs.length = m → 0 ≤ need ∧ need ≤ 16 → (∀ x ∈ L, 0 ≤ x ∧ x ≤ 16) →
    Fx K H y rv cv lv rows cols n m bm bl bY bt bg tb R lb → Wk B K H lv n m R lb T L → Pre T D D.length c → (∀ b, K b → b < H.length) → B ≤ H.length →
    Its E lo y B ArgT Q ((lines cs need).flatMap fun l => (tabsL rs (L.take c.length ++ subL cs l)).map (fun z => D ++ (c ++ l) :: z)) K H →
    WpF E lo 100 [.i D.length, .i c.length, .i need, .p bm 0, .p bl 0, .p bY 0, .p bt 0, .p bg 0] H (GPost B n m R lb lv D c L Q K H)
theorem Pre.full {T D : List (List Int)} (h : Pre T D D.length []) (hl : T.length = D.length) : T = D := by
  apply List.ext_getElem hl
  intro i h1 h2
  have := h.1 i h2
  rwa [gi_nat h1, gi_nat h2] at this
theorem growA_nil (hlo : lo ≤ B) (hn : n ≤ 3) (hm : m ≤ 3) (hm1 : 1 ≤ m) (hrl : rows.length = n) : GrowA lo B n m bm bl bY bt bg tb R lb y rv cv lv rows cols [] := by
  intro D L T K H Q hD hr hL fx wk pre hK hB hI
  refine WpF.wrt rfl fn100 rfl ?_
  unfold f100A
  simp only [List.length_nil, Nat.add_zero] at hD
  subst hD
  have rI := fx.rows.I
  rw [hrl] at rI
  have hls := wk.leftSl
  have hll := wk.ll
  have mx := max_ret hls (by omega)
  by_cases h0 : maxL L > 0
  · rw [tabsL, if_pos h0] at hI
    have h0' : decide (0 < maxL L) = true := decide_eq_true h0
    simp (disch := (first | assumption | omega | (simp only [List.length_append, List.length_cons, List.length_nil]; omega))) only [↓wD,wU,Nat.reduceBEq,zx150,zx151,zx159,zx160,zx161,zx162,Nat.reduceAdd,Nat.reduceSub,Nat.reduceMul,Nat.reduceLeDiff,Nat.reduceLT,Nat.reduceEqDiff,Int.reduceAdd,Int.reduceSub,Int.reduceMul,Int.reduceNeg,Int.reduceLT,Int.reduceLE,Int.reduceEq,Int.reduceToNat,Int.cast_ofNat_Int,↓reduceIte, ld_of fx.mg.1, ld_of fx.lg.1, fx.rows.lenV, hrl, mx.call, h0']
    exact ⟨true, K, rfl, hI, Kx.refl _ _, fun b q => ⟨hK b q, fun _ => q⟩, T, wk, pre⟩
  · rw [tabsL, if_neg h0] at hI
    have h0' : decide (0 < maxL L) = false := decide_eq_false h0
    have hT := pre.full (by rw [wk.len])
    subst hT
    have ts := wk.tabSl fx.tbg.1 hn hm
    have hne : NE T := by
      intro r hr
      obtain ⟨a, ha, rfl⟩ := List.mem_iff_getElem.1 hr
      have := (wk.row a (by rw [← wk.len]; exact ha)).2.1
      rw [gi_nat ha] at this
      exact ⟨fun e => by rw [e] at this; simp at this; omega, by omega⟩
    simp (disch := (first | assumption | omega | (simp only [List.length_append, List.length_cons, List.length_nil]; omega))) only [↓wD,wU,Nat.reduceBEq,zx150,zx151,zx159,zx160,zx161,zx162,Nat.reduceAdd,Nat.reduceSub,Nat.reduceMul,Nat.reduceLeDiff,Nat.reduceLT,Nat.reduceEqDiff,Int.reduceAdd,Int.reduceSub,Int.reduceMul,Int.reduceNeg,Int.reduceLT,Int.reduceLE,Int.reduceEq,Int.reduceToNat,Int.cast_ofNat_Int,↓reduceIte, ld_of fx.mg.1, ld_of fx.lg.1, ld_of fx.yg.1, ld_of fx.tg.1, fx.rows.lenV, hrl, mx.call, h0']
    refine (tclone_ret ts hne (by omega)).toX fun u H1 hx hu => ?_
    have hmt : MT H.length H1 u T := MT.of hu fun b hb => hb.elim (fun h => h.elim) id
    have hsl := hmt.sl.low
    have hl1 := hx.1
    simp (disch := (first | assumption | omega | (simp only [List.length_append, List.length_cons, List.length_nil]; omega))) only [↓wD,wU,Nat.reduceBEq,zx150,zx151,zx159,zx160,zx161,zx162,Nat.reduceAdd,Nat.reduceSub,Nat.reduceMul,Nat.reduceLeDiff,Nat.reduceLT,Nat.reduceEqDiff,Int.reduceAdd,Int.reduceSub,Int.reduceMul,Int.reduceNeg,Int.reduceLT,Int.reduceLE,Int.reduceEq,Int.reduceToNat,Int.cast_ofNat_Int,↓reduceIte]
    refine callvI ((hI H1 (fun b => H.length ≤ b ∧ b < H1.length) [u] (hx.all _) ⟨u, rfl, ?_⟩ ?_).mono ?_)
    · simp only [List.append_nil]; exact hsl
    · exact fun b e => ⟨by omega, e.2, fun q => by have := hK b q; omega⟩
    · rintro v H2 ⟨hx2, hc⟩
      have kb : ∀ b, Kn K (fun b => H.length ≤ b ∧ b < H1.length) H1 H2 b → b < H2.length ∧ (b < H.length → K b) := by
        have hl2 := hx2.1
        rintro b (h | h | h)
        · exact ⟨by have := hK b h; omega, fun _ => h⟩
        · exact ⟨by omega, fun q => by omega⟩
        · exact ⟨h.2, fun q => by omega⟩
      have x12 : Kx (fun b => ¬ K b) H H2 := (hx.all _).trans hx2 fun b hb h q => q.elim h fun q => by omega
      have wk2 := wk.mono x12 fun b hb q => (kb b q).2 hb
      rcases hc with ⟨rfl, hc⟩ | ⟨rfl, hc⟩
      · simp (disch := (first | assumption | omega | (simp only [List.length_append, List.length_cons, List.length_nil]; omega))) only [↓wD,wU,Nat.reduceBEq,zx150,zx151,zx159,zx160,zx161,zx162,Nat.reduceAdd,Nat.reduceSub,Nat.reduceMul,Nat.reduceLeDiff,Nat.reduceLT,Nat.reduceEqDiff,Int.reduceAdd,Int.reduceSub,Int.reduceMul,Int.reduceNeg,Int.reduceLT,Int.reduceLE,Int.reduceEq,Int.reduceToNat,Int.cast_ofNat_Int,↓reduceIte]
        exact ⟨true, _, rfl, hc, x12.weak fun _ _ h => h.1, kb, T, wk2, pre⟩
      · simp (disch := (first | assumption | omega | (simp only [List.length_append, List.length_cons, List.length_nil]; omega))) only [↓wD,wU,Nat.reduceBEq,zx150,zx151,zx159,zx160,zx161,zx162,Nat.reduceAdd,Nat.reduceSub,Nat.reduceMul,Nat.reduceLeDiff,Nat.reduceLT,Nat.reduceEqDiff,Int.reduceAdd,Int.reduceSub,Int.reduceMul,Int.reduceNeg,Int.reduceLT,Int.reduceLE,Int.reduceEq,Int.reduceToNat,Int.cast_ofNat_Int,↓reduceIte]
        exact ⟨false, _, rfl, hc, x12.weak fun _ _ h => h.1, kb, T, wk2, pre⟩
end
end Go.Proofs.Ytflekaacffdakaa
namespace Go.Proofs.Ytflekaacffdakaa
open Go Go.AM Go.Proofs
theorem gi_app {α : Type} [Inhabited α] {xs ys : List α} {a : Nat} (h : a < xs.length) : gi (xs ++ ys) (a : Int) = gi xs (a : Int) := by
  rw [gi_nat h, gi_nat (by simp; omega), List.getElem_append_left h]
theorem gi_end {α : Type} [Inhabited α] {xs : List α} {x : α} : gi (xs ++ [x]) (xs.length : Int) = x := by
  rw [gi_nat (by simp)]; simp
theorem gi_out {α : Type} [Inhabited α] {xs : List α} {a : Nat} (h : xs.length ≤ a) : gi xs (a : Int) = default := by
  unfold gi; simp [h]
theorem Pre.row {T D : List (List Int)} {c : List Int} (h : Pre T D D.length c) (hl : (gi T (D.length : Int)).length = c.length) : Pre T (D ++ [c]) (D ++ [c]).length [] := by
  refine ⟨fun a ha => ?_, by simp⟩
  simp only [List.length_append, List.length_singleton] at ha
  by_cases e : a = D.length
  · subst e
    rw [gi_end]
    have := h.2
    rwa [← hl, List.take_length] at this
  · rw [gi_app (by omega)]
    exact h.1 a (by omega)
theorem Pre.unrow {T D : List (List Int)} {c : List Int} (h : Pre T (D ++ [c]) (D ++ [c]).length []) : Pre T D D.length c := by
  have hl : (D ++ [c]).length = D.length + 1 := by simp
  refine ⟨fun a ha => ?_, ?_⟩
  · have := h.1 a (by omega)
    rwa [gi_app ha] at this
  · have := h.1 D.length (by omega)
    rw [this, gi_end, List.take_length]
section
variable {lo B n m bm bl bY bt bg tb R lb : Nat} {y rv cv lv : AV} {rows cols : List Int}
theorem growB_nil {rs : List Int} (hlo : lo ≤ B) (hn : n ≤ 3) (hm : m ≤ 3) (hrl : rows.length = n) (hcl : cols.length = m) (hA : GrowA lo B n m bm bl bY bt bg tb R lb y rv cv lv rows cols rs) : GrowB lo B n m bm bl bY bt bg tb R lb y rv cv lv rows cols rs [] := by
  intro D c need L T K H Q hD hr hd hc hneed hL fx wk pre hK hB hI
  refine WpF.wrt rfl fn100 rfl ?_
  unfold f100A
  simp only [List.length_nil, Nat.add_zero] at hc
  have hT := wk.row D.length (by omega)
  have hll := wk.ll
  have e1 : decide ((D.length : Int) = n) = false := decide_eq_false (by omega)
  have e2 : decide ((c.length : Int) = m) = true := decide_eq_true (by omega)
  have hrv := fx.rows.lenV
  have hcv := fx.cols.lenV
  rw [hrl] at hrv
  rw [hcl] at hcv
  by_cases h0 : need > 0
  · rw [lines, if_pos h0] at hI
    have h0' : decide (0 < need) = true := decide_eq_true h0
    simp (disch := (first | assumption | omega | (simp only [List.length_append, List.length_cons, List.length_nil]; omega))) only [↓wD,wU,Nat.reduceBEq,zx150,zx151,zx159,zx160,zx161,zx162,Nat.reduceAdd,Nat.reduceSub,Nat.reduceMul,Nat.reduceLeDiff,Nat.reduceLT,Nat.reduceEqDiff,Int.reduceAdd,Int.reduceSub,Int.reduceMul,Int.reduceNeg,Int.reduceLT,Int.reduceLE,Int.reduceEq,Int.reduceToNat,Int.cast_ofNat_Int,↓reduceIte, ld_of fx.mg.1, ldn_of fx.mg.1, hrv, hcv, e1, e2, h0']
    exact ⟨true, K, rfl, hI, Kx.refl _ _, fun b q => ⟨hK b q, fun _ => q⟩, T, wk, pre⟩
  · rw [lines, if_neg h0] at hI
    have h0' : decide (0 < need) = false := decide_eq_false h0
    have hI' : Its E lo y B ArgT Q ((tabsL rs L).map ((D ++ [c]) ++ ·)) K H := by
      have eL : L.take c.length ++ subL [] [] = L := by rw [List.take_of_length_le (by omega)]; simp [subL]
      simp only [List.flatMap_cons, List.flatMap_nil, List.append_nil, eL] at hI
      simpa using hI
    have hl : (D ++ [c]).length = D.length + 1 := by simp
    have go := hA (D ++ [c]) L T K H Q (by omega) (by rw [hl]; exact hr) hL fx wk (pre.row (by rw [hT.2.1, hc])) hK hB hI'
    rw [hl] at go
    have fin : ∀ u H', GPost B n m R lb lv (D ++ [c]) [] L Q K H u H' → GPost B n m R lb lv D c L Q K H u H' := by
      rintro u H' ⟨ok, K', e, q1, q2, q3, T', q4, q5⟩
      exact ⟨ok, K', e, q1, q2, q3, T', q4, q5.unrow⟩
    by_cases h1 : D.length + 1 = n
    · have h1' : decide ((D.length : Int) + 1 = n) = true := decide_eq_true (by omega)
      rw [gi_out (by omega)] at go
      change WpF E lo _ [.i ((D.length + 1 : Nat) : Int), .i 0, .i 0, _, _, _, _, _] H _ at go
      rw [show ((D.length + 1 : Nat) : Int) = (D.length : Int) + 1 from by omega] at go
      simp (disch := (first | assumption | omega | (simp only [List.length_append, List.length_cons, List.length_nil]; omega))) only [↓wD,wU,Nat.reduceBEq,zx150,zx151,zx159,zx160,zx161,zx162,Nat.reduceAdd,Nat.reduceSub,Nat.reduceMul,Nat.reduceLeDiff,Nat.reduceLT,Nat.reduceEqDiff,Int.reduceAdd,Int.reduceSub,Int.reduceMul,Int.reduceNeg,Int.reduceLT,Int.reduceLE,Int.reduceEq,Int.reduceToNat,Int.cast_ofNat_Int,↓reduceIte, ld_of fx.mg.1, ldn_of fx.mg.1, ld_of fx.gg.1, hrv, hcv, e1, e2, h0', h1']
      refine callvI (WpV.fn (us := []) (vs := [_, _, _]) (go.mono ?_))
      intro u H' hp
      obtain ⟨ok, K', rfl, hq⟩ := fin u H' hp
      simp (disch := (first | assumption | omega | (simp only [List.length_append, List.length_cons, List.length_nil]; omega))) only [↓wD,wU,Nat.reduceBEq,zx150,zx151,zx159,zx160,zx161,zx162,Nat.reduceAdd,Nat.reduceSub,Nat.reduceMul,Nat.reduceLeDiff,Nat.reduceLT,Nat.reduceEqDiff,Int.reduceAdd,Int.reduceSub,Int.reduceMul,Int.reduceNeg,Int.reduceLT,Int.reduceLE,Int.reduceEq,Int.reduceToNat,Int.cast_ofNat_Int,↓reduceIte]
      exact ⟨ok, K', rfl, hq⟩
    · have h1' : decide ((D.length : Int) + 1 = n) = false := decide_eq_false (by omega)
      rw [show ((D.length + 1 : Nat) : Int) = (D.length : Int) + 1 from by omega] at go
      have rI := fx.rows.I
      rw [hrl] at rI
      simp (disch := (first | assumption | omega | (simp only [List.length_append, List.length_cons, List.length_nil]; omega))) only [↓wD,wU,Nat.reduceBEq,zx150,zx151,zx159,zx160,zx161,zx162,Nat.reduceAdd,Nat.reduceSub,Nat.reduceMul,Nat.reduceLeDiff,Nat.reduceLT,Nat.reduceEqDiff,Int.reduceAdd,Int.reduceSub,Int.reduceMul,Int.reduceNeg,Int.reduceLT,Int.reduceLE,Int.reduceEq,Int.reduceToNat,Int.cast_ofNat_Int,↓reduceIte, ld_of fx.mg.1, ldn_of fx.mg.1, ld_of fx.gg.1, hrv, hcv, e1, e2, h0', h1', rI]
      refine callvI (WpV.fn (us := []) (vs := [_, _, _]) (go.mono ?_))
      intro u H' hp
      obtain ⟨ok, K', rfl, hq⟩ := fin u H' hp
      simp (disch := (first | assumption | omega | (simp only [List.length_append, List.length_cons, List.length_nil]; omega))) only [↓wD,wU,Nat.reduceBEq,zx150,zx151,zx159,zx160,zx161,zx162,Nat.reduceAdd,Nat.reduceSub,Nat.reduceMul,Nat.reduceLeDiff,Nat.reduceLT,Nat.reduceEqDiff,Int.reduceAdd,Int.reduceSub,Int.reduceMul,Int.reduceNeg,Int.reduceLT,Int.reduceLE,Int.reduceEq,Int.reduceToNat,Int.cast_ofNat_Int,↓reduceIte]
      exact ⟨ok, K', rfl, hq⟩
end
end Go.Proofs.Ytflekaacffdakaa
namespace Go.Proofs.Ytflekaacffdakaa
open Go Go.AM Go.Proofs
/-- the items of one number of a row -/
def numL (rs cs : List Int) (D : List (List Int)) (c P : List Int) (cap need : Int) (x : Nat) : List (List (List Int)) :=
  (lines cs (need - (x : Int))).flatMap fun l => (tabsL rs ((P ++ [cap - (x : Int)]) ++ subL cs l)).map (fun z => D ++ ((c ++ [(x : Int)]) ++ l) :: z)
theorem lines_num {rs cs : List Int} {D : List (List Int)} {c P : List Int} {cap need : Int} : ((lines (cap :: cs) need).flatMap fun l => (tabsL rs (P ++ subL (cap :: cs) l)).map (fun z => D ++ (c ++ l) :: z)) = (List.range (min need cap + 1).toNat).flatMap (numL rs cs D c P cap need) := by
  simp only [lines, List.flatMap_assoc]
  congr 1
  funext x
  unfold numL
  rw [List.flatMap_map]
  congr 1
  funext l
  simp [subL]
theorem range_drop {N x : Nat} (h : x < N) : (List.range N).drop x = x :: (List.range N).drop (x + 1) := by
  rw [List.drop_eq_getElem_cons (by simpa using h)]; simp
theorem Pre.setT {T D : List (List Int)} {c : List Int} {x : Int} (h : Pre T D D.length c) (hl : D.length < T.length) (hc : c.length < (gi T (D.length : Int)).length) : Pre (T.set D.length ((gi T (D.length : Int)).set c.length x)) D D.length (c ++ [x]) := by
  have eg : ∀ a : Nat, gi (T.set D.length ((gi T (D.length : Int)).set c.length x)) (a : Int) = if D.length = a then (gi T (D.length : Int)).set c.length x else gi T (a : Int) := by
    intro a
    have := gi_set (xs := T) (i := (D.length : Int)) (j := (a : Int)) (x := (gi T (D.length : Int)).set c.length x) (by omega) (by omega) (by omega)
    rw [show ((D.length : Int)).toNat = D.length from rfl] at this
    rw [this]
    by_cases e : D.length = a
    · rw [if_pos e, if_pos (by omega)]
    · rw [if_neg e, if_neg (by omega)]
  refine ⟨fun a ha => ?_, ?_⟩
  · rw [eg, if_neg (by omega)]
    exact h.1 a ha
  · rw [eg, if_pos rfl]
    have h2 := h.2
    apply List.ext_getElem
    · simp; omega
    · intro i h3 h4
      simp only [List.length_append, List.length_singleton] at h4
      rw [List.getElem_take, List.getElem_set]
      by_cases e : c.length = i
      · subst e
        rw [if_pos rfl, List.getElem_append_right (Nat.le_refl _)]; simp
      · rw [if_neg e, List.getElem_append_left (by omega)]
        have h5 : i < ((gi T (D.length : Int)).take c.length).length := by rw [h2]; omega
        have : ((gi T (D.length : Int)).take c.length)[i] = c[i]'(by omega) := by simp only [h2]
        rw [List.getElem_take] at this
        exact this
theorem Pre.cut {T D : List (List Int)} {c : List Int} {x : Int} (h : Pre T D D.length (c ++ [x])) : Pre T D D.length c := by
  refine ⟨h.1, ?_⟩
  have := congrArg (List.take c.length) h.2
  rw [List.take_take, List.take_append_of_le_length (Nat.le_refl _), List.take_length] at this
  rwa [show min c.length (c ++ [x]).length = c.length by simp] at this
theorem left_drop {L cs : List Int} {j : Nat} {cap : Int} (h : L.drop j = cap :: cs) : j < L.length ∧ gi L (j : Int) = cap ∧ L.drop (j + 1) = cs := by
  have hj : j < L.length := by
    rcases Nat.lt_or_ge j L.length with h1 | h1
    · exact h1
    · rw [List.drop_of_length_le h1] at h; cases h
  rw [List.drop_eq_getElem_cons hj] at h
  injection h with h1 h2
  exact ⟨hj, by rw [gi_nat hj]; exact h1, h2⟩
theorem left_set {L : List Int} {j : Nat} {x : Int} (hj : j < L.length) : (L.set j x).drop (j + 1) = L.drop (j + 1) ∧ (L.set j x).take (j + 1) = L.take j ++ [x] := by
  refine ⟨by rw [List.drop_set_of_lt (by omega)], ?_⟩
  rw [List.take_succ_eq_append_getElem (by simpa using hj), List.take_set_of_le (Nat.le_refl _)]
  simp
theorem left_back {L : List Int} {j : Nat} {x y : Int} (hj : j < L.length) (h : y = gi L (j : Int)) : (L.set j x).set j y = L := by
  rw [List.set_set, h, gi_nat hj]; simp
end Go.Proofs.Ytflekaacffdakaa
namespace Go.Proofs.Ytflekaacffdakaa
open Go Go.AM Go.Proofs
section
variable {lo B n m bm bl bY bt bg tb R lb : Nat} {y rv cv lv : AV} {rows cols : List Int}
theorem growB_cons {rs cs : List Int} {cap : Int} (hlo : lo ≤ B) (hn : n ≤ 3) (hm : m ≤ 3) (hrl : rows.length = n) (hcl : cols.length = m) (hB' : GrowB lo B n m bm bl bY bt bg tb R lb y rv cv lv rows cols rs cs) : GrowB lo B n m bm bl bY bt bg tb R lb y rv cv lv rows cols rs (cap :: cs) := by
  intro D c need L T K H Q hD hr hd hc hneed hL fx wk pre hK hB hI
  refine WpF.wrt rfl fn100 rfl ?_
  unfold f100A
  rw [lines_num] at hI
  simp only [List.length_cons] at hc
  obtain ⟨hjl, hcap, hcs⟩ := left_drop hd
  have hll := wk.ll
  have hcm := hL _ (mem_gi hjl)
  rw [hcap] at hcm
  have e1 : decide ((D.length : Int) = n) = false := decide_eq_false (by omega)
  have e2 : decide ((c.length : Int) = m) = false := decide_eq_false (by omega)
  have hrv := fx.rows.lenV
  have hcv := fx.cols.lenV
  rw [hrl] at hrv
  rw [hcl] at hcv
  have lI := wk.leftSl.I
  have hmn : 0 ≤ min need cap ∧ min need cap ≤ 16 := by omega
  obtain ⟨N, hN⟩ : ∃ N : Nat, (min need cap + 1).toNat = N := ⟨_, rfl⟩
  have hN' : min need cap + 1 = (N : Int) := by omega
  rw [hN] at hI
  have hNn : ∀ x : Nat, x < N → (x : Int) ≤ need ∧ (x : Int) ≤ cap := by omega
  simp (disch := (first | assumption | omega | (simp only [List.length_append, List.length_cons, List.length_nil]; omega))) only [↓wD,wU,Nat.reduceBEq,zx150,zx151,zx159,zx160,zx161,zx162,Nat.reduceAdd,Nat.reduceSub,Nat.reduceMul,Nat.reduceLeDiff,Nat.reduceLT,Nat.reduceEqDiff,Int.reduceAdd,Int.reduceSub,Int.reduceMul,Int.reduceNeg,Int.reduceLT,Int.reduceLE,Int.reduceEq,Int.reduceToNat,Int.cast_ofNat_Int,↓reduceIte, ld_of fx.mg.1, ldn_of fx.mg.1, ld_of fx.lg.1, hrv, hcv, e1, e2, lI, hcap, hN']
  refine Wp.for N (fun x a H1 => a 0 = .i D.length ∧ a 1 = .i c.length ∧ a 2 = .i need ∧ a 3 = .p bm 0 ∧ a 4 = .p bl 0 ∧ a 5 = .p bY 0 ∧ a 6 = .p bt 0 ∧ a 7 = .p bg 0 ∧ a 63 = .i N ∧ a 64 = .i x ∧ ∃ K1 T1, Its E lo y B ArgT Q (((List.range N).drop x).flatMap (numL rs cs D c (L.take c.length) cap need)) K1 H1 ∧ Kx (fun b => ¬ K b ∧ ¬ Wb n R lb b) H H1 ∧ (∀ b, K1 b → b < H1.length ∧ (b < H.length → K b)) ∧ Wk B K1 H1 lv n m R lb T1 L ∧ Pre T1 D D.length c) ?_ ?_
  · rintro x a H1 hx ⟨a0, a1, a2, a3, a4, a5, a6, a7, a63, a64, K1, T1, hI1, x1, hK1, wk1, pre1⟩ ih
    simp (disch := (first | assumption | omega | (simp only [List.length_append, List.length_cons, List.length_nil]; omega))) only [↓wD,wU,Nat.reduceBEq,zx150,zx151,zx159,zx160,zx161,zx162,Nat.reduceAdd,Nat.reduceSub,Nat.reduceMul,Nat.reduceLeDiff,Nat.reduceLT,Nat.reduceEqDiff,Int.reduceAdd,Int.reduceSub,Int.reduceMul,Int.reduceNeg,Int.reduceLT,Int.reduceLE,Int.reduceEq,Int.reduceToNat,Int.cast_ofNat_Int,↓reduceIte, a0, a1, a2, a3, a4, a5, a6, a7, a63, a64]
    refine condP_split (fun hlt => ?_) (fun hlt => ?_)
    · have hx' : x < N := by omega
      obtain ⟨xn, xc⟩ := hNn x hx'
      rw [range_drop hx', List.flatMap_cons] at hI1
      have hI2 := Its.append hI1
      have fx1 := fx.mono x1 fun b h q => (hK1 b q).2 h
      have hrow := wk1.row D.length (by omega)
      obtain ⟨H2, hst, wk2, x2, l2⟩ := wk1.setT (lo := lo) (i := D.length) (j := c.length) (x := (x : Int)) (by omega) (by omega) hlo
      have x12 : Kx (fun b => ¬ K1 b ∧ ¬ Wb n R lb b) H1 H2 := x2.weak fun b _ h e => h.2 (.inr (by omega))
      have fx2 := fx1.mono x12 fun b _ q => q
      have iT := zx178 (b := tb) (m := n) (c := some n) (k := D.length) (by omega)
      have iR := zx178 (b := R + D.length) (m := m) (c := some m) (k := c.length) (by omega)
      have tI := ld_of fx1.tbg.1 (o := D.length)
      rw [show (((List.range n).map fun a : Nat => AV.s 1 (R + a) 0 m (some m))[D.length]?) = some (.s 1 (R + D.length) 0 m (some m)) by rw [List.getElem?_map, List.getElem?_range (by omega)]; rfl] at tI
      have lI2 := wk2.leftSl.I
      simp (disch := (first | assumption | omega | (simp only [List.length_append, List.length_cons, List.length_nil]; omega))) only [↓wD,wU,Nat.reduceBEq,zx150,zx151,zx159,zx160,zx161,zx162,Nat.reduceAdd,Nat.reduceSub,Nat.reduceMul,Nat.reduceLeDiff,Nat.reduceLT,Nat.reduceEqDiff,Int.reduceAdd,Int.reduceSub,Int.reduceMul,Int.reduceNeg,Int.reduceLT,Int.reduceLE,Int.reduceEq,Int.reduceToNat,Int.cast_ofNat_Int,↓reduceIte, a0, a1, a2, a3, a4, a5, a6, a7, a63, a64, ld_of fx1.tg.1, iT, tI, iR, hst, ld_of fx2.lg.1, lI2, hcap]
      refine wk2.setL (j := c.length) (by omega) hlo fun H3 wk3 x3 l3 => ?_
      have x13 : Kx (fun b => ¬ K1 b ∧ ¬ Wb n R lb b) H1 H3 := x12.trans x3 fun b _ h e => h.2 (.inl e)
      have fx3 := fx1.mono x13 fun b _ q => q
      have hcl1 : (c ++ [(x : Int)]).length = c.length + 1 := by simp
      obtain ⟨ls1, ls2⟩ := left_set (L := L) (j := c.length) (x := cap - (x : Int)) hjl
      have hl1 := x1.1
      have pre3 := pre1.setT (x := (x : Int)) (by rw [wk1.len]; omega) (by rw [hrow.2.1]; omega)
      have x13' : Kx (fun b => b < B ∨ K1 b) H1 H3 := ((x2.weak (q := fun b => b ≠ R + D.length ∧ b ≠ lb) fun _ _ h => h.1).trans x3 fun b _ h => h.2) |>.weak fun b _ h => ⟨fun e => by
          have := wk1.lo
          rcases h with h | h
          · omega
          · exact hrow.2.2 (e ▸ h), fun e => by
          have := wk1.lo
          rcases h with h | h
          · omega
          · exact wk1.left_lt.2 (e ▸ h)⟩
      have go := hB' D (c ++ [(x : Int)]) (need - x) (L.set c.length (cap - x)) _ K1 H3 _ hD hr (by rw [hcl1, ls1]; exact hcs) (by rw [hcl1]; omega) (by omega) (by
        intro z hz
        rcases List.mem_or_eq_of_mem_set hz with h | h
        · exact hL z h
        · omega) fx3 wk3 pre3 (fun b q => by have := (hK1 b q).1; omega) (by omega) (by
          rw [hcl1, ls2]
          exact hI2.keep x13')
      rw [hcl1, show ((c.length + 1 : Nat) : Int) = (c.length : Int) + 1 from by omega] at go
      simp (disch := (first | assumption | omega | (simp only [List.length_append, List.length_cons, List.length_nil]; omega))) only [↓wD,wU,Nat.reduceBEq,zx150,zx151,zx159,zx160,zx161,zx162,Nat.reduceAdd,Nat.reduceSub,Nat.reduceMul,Nat.reduceLeDiff,Nat.reduceLT,Nat.reduceEqDiff,Int.reduceAdd,Int.reduceSub,Int.reduceMul,Int.reduceNeg,Int.reduceLT,Int.reduceLE,Int.reduceEq,Int.reduceToNat,Int.cast_ofNat_Int,↓reduceIte, a0, a1, a2, a3, a4, a5, a6, a7, a63, a64, ld_of fx3.gg.1]
      refine callvI (WpV.fn (us := []) (vs := [_, _, _]) (go.mono ?_))
      rintro u' H4 ⟨ok, K4, rfl, hq, x34, hK4, T4, wk4, pre4⟩
      have l34 := x34.1
      have fx4 := fx3.mono x34 fun b h q => (hK4 b q).2 h
      have lI4 := wk4.leftSl.I
      rw [List.length_set] at lI4
      have eg : gi (L.set c.length (cap - (x : Int))) (c.length : Int) = cap - x := by rw [gi_nat (by simpa using hjl)]; simp
      simp (disch := (first | assumption | omega | (simp only [List.length_append, List.length_cons, List.length_nil]; omega))) only [↓wD,wU,Nat.reduceBEq,zx150,zx151,zx159,zx160,zx161,zx162,Nat.reduceAdd,Nat.reduceSub,Nat.reduceMul,Nat.reduceLeDiff,Nat.reduceLT,Nat.reduceEqDiff,Int.reduceAdd,Int.reduceSub,Int.reduceMul,Int.reduceNeg,Int.reduceLT,Int.reduceLE,Int.reduceEq,Int.reduceToNat,Int.cast_ofNat_Int,↓reduceIte, a0, a1, a2, a3, a4, a5, a6, a7, a63, a64, ld_of fx4.lg.1, lI4, eg]
      refine wk4.setL (j := c.length) (by omega) hlo fun H5 wk5 x5 l5 => ?_
      rw [left_back hjl (by rw [hcap]; omega)] at wk5
      have x15 : Kx (fun b => ¬ K b ∧ ¬ Wb n R lb b) H H5 := ((x1.trans x13 fun b hb h => ⟨fun q => h.1 ((hK1 b q).2 hb), h.2⟩).trans x34 fun b hb h => ⟨fun q => h.1 ((hK1 b q).2 hb), h.2⟩).trans x5 fun b hb h e => h.2 (.inl e)
      have kb : ∀ b, K4 b → b < H5.length ∧ (b < H.length → K b) := fun b q => ⟨by have := (hK4 b q).1; omega, fun hb => (hK1 b ((hK4 b q).2 (by omega))).2 hb⟩
      have x45 : Kx (fun b => b < B ∨ K4 b) H4 H5 := x5.weak fun b _ h e => by
        have := wk4.lo
        rcases h with h | h
        · omega
        · exact wk4.left_lt.2 (e ▸ h)
      cases ok with
      | true =>
        have hI5 := (hq H5 x45).1 rfl
        clear hq go hI hI1 hI2
        simp (disch := (first | assumption | omega | (simp only [List.length_append, List.length_cons, List.length_nil]; omega))) only [↓wD,wU,Nat.reduceBEq,zx150,zx151,zx159,zx160,zx161,zx162,Nat.reduceAdd,Nat.reduceSub,Nat.reduceMul,Nat.reduceLeDiff,Nat.reduceLT,Nat.reduceEqDiff,Int.reduceAdd,Int.reduceSub,Int.reduceMul,Int.reduceNeg,Int.reduceLT,Int.reduceLE,Int.reduceEq,Int.reduceToNat,Int.cast_ofNat_Int,↓reduceIte, a0, a1, a2, a3, a4, a5, a6, a7, a63, a64]
        refine (ih hx').go ?_
        simp (disch := (first | assumption | omega | (simp only [List.length_append, List.length_cons, List.length_nil]; omega))) only [↓wD,wU,Nat.reduceBEq,zx150,zx151,zx159,zx160,zx161,zx162,Nat.reduceAdd,Nat.reduceSub,Nat.reduceMul,Nat.reduceLeDiff,Nat.reduceLT,Nat.reduceEqDiff,Int.reduceAdd,Int.reduceSub,Int.reduceMul,Int.reduceNeg,Int.reduceLT,Int.reduceLE,Int.reduceEq,Int.reduceToNat,Int.cast_ofNat_Int,↓reduceIte, a0, a1, a2, a3, a4, a5, a6, a7, a63, a64]
        exact ⟨K4, T4, hI5, x15, kb, wk5, pre4.cut⟩
      | false =>
        have hq5 : ∀ H6, Kx (fun b => b < B ∨ K4 b) H5 H6 → Q false K4 H6 := fun H6 h6 => (hq H6 (x45.trans h6 fun _ _ h => h)).2 rfl
        simp (disch := (first | assumption | omega | (simp only [List.length_append, List.length_cons, List.length_nil]; omega))) only [↓wD,wU,Nat.reduceBEq,zx150,zx151,zx159,zx160,zx161,zx162,Nat.reduceAdd,Nat.reduceSub,Nat.reduceMul,Nat.reduceLeDiff,Nat.reduceLT,Nat.reduceEqDiff,Int.reduceAdd,Int.reduceSub,Int.reduceMul,Int.reduceNeg,Int.reduceLT,Int.reduceLE,Int.reduceEq,Int.reduceToNat,Int.cast_ofNat_Int,↓reduceIte, a0, a1, a2, a3, a4, a5, a6, a7, a63, a64]
        exact ⟨false, K4, rfl, hq5, x15, kb, T4, wk5, pre4.cut⟩
    · simp (disch := (first | assumption | omega | (simp only [List.length_append, List.length_cons, List.length_nil]; omega))) only [↓wD,wU,Nat.reduceBEq,zx150,zx151,zx159,zx160,zx161,zx162,Nat.reduceAdd,Nat.reduceSub,Nat.reduceMul,Nat.reduceLeDiff,Nat.reduceLT,Nat.reduceEqDiff,Int.reduceAdd,Int.reduceSub,Int.reduceMul,Int.reduceNeg,Int.reduceLT,Int.reduceLE,Int.reduceEq,Int.reduceToNat,Int.cast_ofNat_Int,↓reduceIte]
      obtain rfl : x = N := by omega
      rw [List.drop_of_length_le (by simp)] at hI1
      exact ⟨true, K1, rfl, hI1, x1, hK1, T1, wk1, pre1⟩
  · simp (disch := (first | assumption | omega | (simp only [List.length_append, List.length_cons, List.length_nil]; omega))) only [↓wD,wU,Nat.reduceBEq,zx150,zx151,zx159,zx160,zx161,zx162,Nat.reduceAdd,Nat.reduceSub,Nat.reduceMul,Nat.reduceLeDiff,Nat.reduceLT,Nat.reduceEqDiff,Int.reduceAdd,Int.reduceSub,Int.reduceMul,Int.reduceNeg,Int.reduceLT,Int.reduceLE,Int.reduceEq,Int.reduceToNat,Int.cast_ofNat_Int,↓reduceIte]
    exact ⟨K, T, hI, Kx.refl _ _, fun b q => ⟨hK b q, fun _ => q⟩, wk, pre⟩
theorem grow_all (hlo : lo ≤ B) (hn : n ≤ 3) (hm : m ≤ 3) (hm1 : 1 ≤ m) (hrl : rows.length = n) (hcl : cols.length = m) (hrows : ∀ x ∈ rows, 0 ≤ x ∧ x ≤ 16) : ∀ rs, GrowA lo B n m bm bl bY bt bg tb R lb y rv cv lv rows cols rs := by
  intro rs
  induction rs with
  | nil => exact growA_nil hlo hn hm hm1 hrl
  | cons r rs ih =>
    have hB : ∀ cs, GrowB lo B n m bm bl bY bt bg tb R lb y rv cv lv rows cols rs cs := by
      intro cs
      induction cs with
      | nil => exact growB_nil hlo hn hm hrl hcl ih
      | cons cap cs ihc => exact growB_cons hlo hn hm hrl hcl ihc
    intro D L T K H Q hD hr hL fx wk pre hK hB' hI
    obtain ⟨q1, q2, q3⟩ := left_drop hr
    have h4 := hrows _ (mem_gi q1)
    have := hB L D [] (gi rows (D.length : Int)) L T K H Q (by simp at hD; omega) q3 (by simp) (by simp [wk.ll]) h4 hL fx wk pre hK hB' (by
      rw [q2]
      simp only [tabsL, List.map_flatMap, List.map_map] at hI
      simpa [Function.comp_def] using hI)
    exact this
end
end Go.Proofs.Ytflekaacffdakaa
namespace Go.Proofs.Ytflekaacffdakaa
open Go Go.AM Go.Proofs
/-- the rows that are laid already -/
def laidC (n m R i : Nat) : List AV := (List.range n).map fun a : Nat => if a < i then .s 1 (R + a) 0 m (some m) else .nils
theorem laidC_0 {n m R : Nat} : laidC n m R 0 = reps n [AV.nils] := by
  rw [reps_z]
  apply List.ext_getElem (by simp [laidC])
  intro i h1 h2
  simp [laidC]
theorem laidC_n {n m R : Nat} : laidC n m R n = (List.range n).map fun a : Nat => .s 1 (R + a) 0 m (some m) := by
  unfold laidC
  apply map_range_congr
  intro a ha
  rw [if_pos ha]
theorem laidC_set {n m R i : Nat} (hi : i < n) : (laidC n m R i).set i (.s 1 (R + i) 0 m (some m)) = laidC n m R (i + 1) := by
  unfold laidC
  rw [set_map_range]
  apply map_range_congr
  intro a ha
  by_cases e : a = i
  · subst e
    rw [if_pos rfl, if_pos (by omega)]
  · rw [if_neg e]
    by_cases h : a < i
    · rw [if_pos h, if_pos (by omega)]
    · rw [if_neg h, if_neg (by omega)]
theorem all_it {lo : Nat} {y rv cv : AV} {rows cols : List Int} {K : Nat → Prop} {H : Heap} {Q : Bool → (Nat → Prop) → Heap → Prop} (hlo : lo ≤ H.length) (hy : y.cells = [y] ∧ y.one = true)
    (hr : Sl (fun b => ¬ K b) H rv rows) (hc : Sl (fun b => ¬ K b) H cv cols) (hn1 : 1 ≤ rows.length) (hn : rows.length ≤ 3) (hm1 : 1 ≤ cols.length) (hm : cols.length ≤ 3) (hrows : ∀ x ∈ rows, 0 ≤ x ∧ x ≤ 16) (hcols : ∀ x ∈ cols, 0 ≤ x ∧ x ≤ 16) (hK : ∀ b, K b → b < H.length)
    (hI : Its E lo y H.length ArgT Q (tabsL rows cols) K H) : WpF E lo 80 [.ag [rv, cv], y] H fun _ H' => ∃ ok K', Q ok K' H' := by
  refine WpF.wrt rfl fn80 rfl ?_
  unfold f80A
  obtain ⟨n, en⟩ : ∃ n, rows.length = n := ⟨_, rfl⟩
  obtain ⟨m, em⟩ : ∃ m, cols.length = m := ⟨_, rfl⟩
  rw [en] at hn1 hn
  rw [em] at hm1 hm
  have hrv := hr.lenV
  rw [en] at hrv
  have hcv := hc.lenV
  rw [em] at hcv
  have k1 : mksliceV 1 24 [AV.nils] (.i (n : Int)) = some n := zx177 (by omega) (by omega)
  have k2 : mksliceV 1 8 [AV.int .i64 0] (.i (m : Int)) = some m := zx176 (by omega) (by omega)
  simp (disch := (first | assumption | omega | (simp only [List.length_append, List.length_cons, List.length_nil]; omega))) only [↓wD,wU,Nat.reduceBEq,zx150,zx151,zx159,zx160,zx161,zx162,Nat.reduceAdd,Nat.reduceSub,Nat.reduceMul,Nat.reduceLeDiff,Nat.reduceLT,Nat.reduceEqDiff,Int.reduceAdd,Int.reduceSub,Int.reduceMul,Int.reduceNeg,Int.reduceLT,Int.reduceLE,Int.reduceEq,Int.reduceToNat,Int.cast_ofNat_Int,↓reduceIte, hr.cellsV, hc.cellsV, hy.1, hy.2, hrv, k1]
  refine Wp.for n (fun i a H1 => a 2 = .p H.length 0 ∧ a 3 = .p (H.length + 1) 0 ∧ a 4 = .p (H.length + 3) 0 ∧ a 13 = .i n ∧ a 14 = .i i ∧ H1.length = H.length + 4 + i ∧ H1[H.length]? = some (.cells [rv, cv]) ∧ H1[H.length + 1]? = some (.cells [y]) ∧ H1[H.length + 2]? = some (.cells (laidC n m (H.length + 4) i)) ∧ H1[H.length + 3]? = some (.cells [.s 1 (H.length + 2) 0 n (some n)]) ∧ (∀ j, j < i → H1[H.length + 4 + j]? = some (.cells (reps m [AV.int .i64 0]))) ∧ Kx (fun b => b < H.length) H H1) ?_ ?_
  · rintro i a H1 hi ⟨a2, a3, a4, a13, a14, l1, g1, g2, g3, g4, g5, x1⟩ ih
    simp (disch := (first | assumption | omega | (simp only [List.length_append, List.length_cons, List.length_nil]; omega))) only [↓wD,wU,Nat.reduceBEq,zx150,zx151,zx159,zx160,zx161,zx162,Nat.reduceAdd,Nat.reduceSub,Nat.reduceMul,Nat.reduceLeDiff,Nat.reduceLT,Nat.reduceEqDiff,Int.reduceAdd,Int.reduceSub,Int.reduceMul,Int.reduceNeg,Int.reduceLT,Int.reduceLE,Int.reduceEq,Int.reduceToNat,Int.cast_ofNat_Int,↓reduceIte, a2, a3, a4, a13, a14]
    refine condP_split (fun hlt => ?_) (fun hlt => ?_)
    · have hi' : i < n := by omega
      have ia := zx178 (b := H.length + 2) (m := n) (c := some n) (k := i) hi'
      have hst : st lo (H1 ++ [Blk.cells (reps m [AV.int .i64 0])]) (H.length + 2) i [.s 1 H1.length 0 m (some m)] = some ((H1 ++ [Blk.cells (reps m [AV.int .i64 0])]).set (H.length + 2) (.cells (laidC n m (H.length + 4) (i + 1)))) := by
        rw [st_of (cs := laidC n m (H.length + 4) i) (by rw [List.getElem?_append_left (by omega)]; exact g3) (by omega) (by simp [laidC]; omega), ← laidC_set hi', l1]
        simp [wr]
      simp (disch := (first | assumption | omega | (simp only [List.length_append, List.length_cons, List.length_nil]; omega))) only [↓wD,wU,Nat.reduceBEq,zx150,zx151,zx159,zx160,zx161,zx162,Nat.reduceAdd,Nat.reduceSub,Nat.reduceMul,Nat.reduceLeDiff,Nat.reduceLT,Nat.reduceEqDiff,Int.reduceAdd,Int.reduceSub,Int.reduceMul,Int.reduceNeg,Int.reduceLT,Int.reduceLE,Int.reduceEq,Int.reduceToNat,Int.cast_ofNat_Int,↓reduceIte, a2, a3, a4, a13, a14, ld_of g4, ld_of g1, hcv, k2, ia, hst]
      refine (ih hi').go ?_
      simp (disch := (first | assumption | omega | (simp only [List.length_append, List.length_cons, List.length_nil]; omega))) only [↓wD,wU,Nat.reduceBEq,zx150,zx151,zx159,zx160,zx161,zx162,Nat.reduceAdd,Nat.reduceSub,Nat.reduceMul,Nat.reduceLeDiff,Nat.reduceLT,Nat.reduceEqDiff,Int.reduceAdd,Int.reduceSub,Int.reduceMul,Int.reduceNeg,Int.reduceLT,Int.reduceLE,Int.reduceEq,Int.reduceToNat,Int.cast_ofNat_Int,↓reduceIte, a2, a3, a4, a13, a14]
      have hge : ∀ b, b < H1.length → b ≠ H.length + 2 → ((H1 ++ [Blk.cells (reps m [AV.int .i64 0])]).set (H.length + 2) (Blk.cells (laidC n m (H.length + 4) (i + 1))))[b]? = H1[b]? := fun b hb hne => by rw [List.getElem?_set_ne (Ne.symm hne), List.getElem?_append_left hb]
      refine ⟨by simp; omega, by rw [hge _ (by omega) (by omega)]; exact g1, by rw [hge _ (by omega) (by omega)]; exact g2, by rw [List.getElem?_set_self (by simp; omega)], by rw [hge _ (by omega) (by omega)]; exact g4, fun j hj => ?_, (x1.app' _).set' (fun h => by omega) _⟩
      by_cases e : j = i
      · subst e
        rw [List.getElem?_set_ne (by omega), ← l1]
        simp
      · rw [hge _ (by omega) (by omega)]
        exact g5 j (by omega)
    · obtain rfl : n = i := by omega
      simp (disch := (first | assumption | omega | (simp only [List.length_append, List.length_cons, List.length_nil]; omega))) only [↓wD,wU,Nat.reduceBEq,zx150,zx151,zx159,zx160,zx161,zx162,Nat.reduceAdd,Nat.reduceSub,Nat.reduceMul,Nat.reduceLeDiff,Nat.reduceLT,Nat.reduceEqDiff,Int.reduceAdd,Int.reduceSub,Int.reduceMul,Int.reduceNeg,Int.reduceLT,Int.reduceLE,Int.reduceEq,Int.reduceToNat,Int.cast_ofNat_Int,↓reduceIte, a2, a3, a4, a13, a14, ld_of g1]
      refine (clone_ret ((hc.low.weak (q := fun b => b < H.length ∧ ¬ K b) fun b h => ⟨h.2, h.1⟩).kp (x1.weak fun b _ h => h.1).kp) (by omega)).toFX fun lv H2 x2 hlv => ?_
      have hne : cols ≠ [] := fun e => by rw [e] at em; simp at em; omega
      obtain ⟨lb, elb, hor⟩ := OR.of hlv hne
      have hlb := hlv.blkp elb
      have l2 := x2.1
      have rI := ((hr.low.weak (q := fun b => b < H.length ∧ ¬ K b) fun b h => ⟨h.2, h.1⟩).kp (x1.weak fun b _ h => h.1).kp).kp (x2.all _).kp
      clear ih
      obtain ⟨H3, eH3⟩ : ∃ H3, H2 ++ [Blk.cells [lv]] ++ [Blk.cells [AV.fn 100 [] [.p H.length 0, .p H2.length 0, .p (H.length + 1) 0, .p (H.length + 3) 0, .p (H2.length + 1) 0]]] = H3 := ⟨_, rfl⟩
      have x23 : Kx (fun _ => True) H2 H3 := by rw [← eH3]; exact (Kx.app _ _ _).app' _
      have x13 : Kx (fun _ => True) H1 H3 := x2.trans x23 fun _ _ _ => trivial
      have n3 : H3.length = H2.length + 2 := by rw [← eH3]; simp
      have f1 := x13.get trivial g1
      have f2 := x13.get trivial g2
      have f3 := x13.get trivial g3
      have f4 := x13.get trivial g4
      have f5 : H3[H2.length]? = some (.cells [lv]) := by rw [← eH3]; simp [List.getElem?_append]
      have f6 : H3[H2.length + 1]? = some (.cells [AV.fn 100 [] [.p H.length 0, .p H2.length 0, .p (H.length + 1) 0, .p (H.length + 3) 0, .p (H2.length + 1) 0]]) := by rw [← eH3]; simp [List.getElem?_append]
      rw [laidC_n] at f3
      have rI3 := (rI.kp (x23.all _).kp).I
      rw [en] at rI3
      simp (disch := (first | assumption | omega | (simp only [List.length_append, List.length_cons, List.length_nil]; omega))) only [↓wD,wU,Nat.reduceBEq,zx150,zx151,zx159,zx160,zx161,zx162,Nat.reduceAdd,Nat.reduceSub,Nat.reduceMul,Nat.reduceLeDiff,Nat.reduceLT,Nat.reduceEqDiff,Int.reduceAdd,Int.reduceSub,Int.reduceMul,Int.reduceNeg,Int.reduceLT,Int.reduceLE,Int.reduceEq,Int.reduceToNat,Int.cast_ofNat_Int,↓reduceIte, a2, a3, a4, hlv.cellsV, eH3, ld_of f1, ld_of f6, rI3]
      have hnw : ∀ b, b < H.length + 4 ∨ H1.length + 0 < b ∧ H2.length ≤ b → ¬ Wb n (H.length + 4) lb b := by
        rintro b h (e | e) <;> omega
      have hkH : ∀ b, H.length ≤ b → ¬ K b := fun b h q => by have := hK b q; omega
      have hlow : ∀ {v : AV} {xs : List Int}, Sl (fun b => ¬ K b) H v xs → Sl (fun b => ¬ K b ∧ ¬ Wb n (H.length + 4) lb b) H3 v xs := fun {v xs} h =>
        ((h.low.weak (q := fun b => b < H.length ∧ ¬ K b) fun b h => ⟨h.2, h.1⟩).kp ((x1.trans x13 fun _ _ _ => trivial).weak fun b _ h => h.1).kp).weak fun b h => ⟨h.2, hnw b (.inl (by omega))⟩
      have fx : Fx K H3 y rv cv lv rows cols n m H.length H2.length (H.length + 1) (H.length + 3) (H2.length + 1) (H.length + 2) (H.length + 4) lb :=
        ⟨⟨f1, hkH _ (by omega), hnw _ (by omega)⟩, ⟨f5, hkH _ (by omega), hnw _ (by omega)⟩, ⟨f2, hkH _ (by omega), hnw _ (by omega)⟩, ⟨f4, hkH _ (by omega), hnw _ (by omega)⟩, ⟨f3, hkH _ (by omega), hnw _ (by omega)⟩, ⟨f6, hkH _ (by omega), hnw _ (by omega)⟩, hlow hr, hlow hc⟩
      have hgr : ∀ a : Nat, a < n → gi (List.replicate n (List.replicate m (0 : Int))) (a : Int) = List.replicate m 0 := fun a ha => by rw [gi_nat (by simpa using ha)]; simp
      have wk : Wk H.length K H3 lv n m (H.length + 4) lb (List.replicate n (List.replicate m (0 : Int))) cols :=
        ⟨by simp, fun j hj => by rw [hgr j hj]; exact ⟨by rw [x13.get trivial (g5 j hj), reps_z]; simp, by simp, hkH _ (by omega)⟩, Rep.mono hor (x23.all _).kp fun b h => hkH b (by omega), em, by omega⟩
      have go := grow_all (y := y) hlo hn hm hm1 en em hrows rows [] cols _ K H3 Q (by simpa using en) (by simp) hcols fx wk ⟨fun a ha => by simp at ha, by simp⟩ (fun b q => by have := hK b q; omega) (by omega) (by
        have : (tabsL rows cols).map ([] ++ ·) = tabsL rows cols := by simp
        rw [this]
        exact hI.keep ((x1.trans x13 fun _ _ _ => trivial).weak fun b hb h => hb))
      change WpF E lo _ [.i 0, .i 0, .i (gi rows 0), _, _, _, _, _] H3 _ at go
      refine callvI (WpV.fn (us := []) (vs := [_, _, _]) (go.mono ?_))
      rintro u' H4 ⟨ok, K4, rfl, hq, _⟩
      simp (disch := (first | assumption | omega | (simp only [List.length_append, List.length_cons, List.length_nil]; omega))) only [↓wD,wU,Nat.reduceBEq,zx150,zx151,zx159,zx160,zx161,zx162,Nat.reduceAdd,Nat.reduceSub,Nat.reduceMul,Nat.reduceLeDiff,Nat.reduceLT,Nat.reduceEqDiff,Int.reduceAdd,Int.reduceSub,Int.reduceMul,Int.reduceNeg,Int.reduceLT,Int.reduceLE,Int.reduceEq,Int.reduceToNat,Int.cast_ofNat_Int,↓reduceIte]
      exact ⟨ok, K4, hq H4 (Kx.refl _ _)⟩
  · simp (disch := (first | assumption | omega | (simp only [List.length_append, List.length_cons, List.length_nil]; omega))) only [↓wD,wU,Nat.reduceBEq,zx150,zx151,zx159,zx160,zx161,zx162,Nat.reduceAdd,Nat.reduceSub,Nat.reduceMul,Nat.reduceLeDiff,Nat.reduceLT,Nat.reduceEqDiff,Int.reduceAdd,Int.reduceSub,Int.reduceMul,Int.reduceNeg,Int.reduceLT,Int.reduceLE,Int.reduceEq,Int.reduceToNat,Int.cast_ofNat_Int,↓reduceIte]
    refine ⟨by rw [laidC_0], fun j hj => by omega, (((Kx.app _ _ _).app' _).app' _).app' _⟩
end Go.Proofs.Ytflekaacffdakaa
namespace Go.Proofs.Ytflekaacffdakaa
open Go Go.AM Go.Proofs
def MgOk (xs : List Int) : Prop := 1 ≤ xs.length ∧ xs.length ≤ 3 ∧ OkN xs ∧ xs.sum ≤ 16
instance (xs : List Int) : Decidable (MgOk xs) := by unfold MgOk OkN; infer_instance
theorem flatMap_len {α β : Type} {b : Nat} {f : α → List β} : ∀ {l : List α}, (∀ x ∈ l, (f x).length ≤ b) → (l.flatMap f).length ≤ l.length * b
  | [], _ => by simp
  | x :: l, h => by
    rw [List.flatMap_cons, List.length_append, List.length_cons, Nat.add_mul, Nat.one_mul]
    have h1 := h x (by simp)
    have h2 := flatMap_len (l := l) fun y hy => h y (by simp [hy])
    omega
theorem lines_len : ∀ {cs : List Int} {need : Int}, need ≤ 16 → (lines cs need).length ≤ 17 ^ cs.length
  | [], need, _ => by
    unfold lines
    split <;> simp
  | c :: cs, need, h => by
    unfold lines
    refine Nat.le_trans (flatMap_len (b := 17 ^ cs.length) fun x hx => ?_) ?_
    · rw [List.length_map]
      exact lines_len (by omega)
    · rw [List.length_range, List.length_cons, Nat.pow_succ, Nat.mul_comm]
      exact Nat.mul_le_mul_left _ (by omega)
theorem tabsL_len : ∀ {rs L : List Int}, (∀ r ∈ rs, r ≤ 16) → L.length ≤ 3 → (tabsL rs L).length ≤ 4913 ^ rs.length
  | [], L, _, _ => by
    unfold tabsL
    split <;> simp
  | r :: rs, L, h, hl => by
    unfold tabsL
    refine Nat.le_trans (flatMap_len (b := 4913 ^ rs.length) fun x hx => ?_) ?_
    · rw [List.length_map]
      exact tabsL_len (fun r hr => h r (by simp [hr])) (by unfold subL; rw [List.length_zipWith]; omega)
    · rw [List.length_cons, Nat.pow_succ, Nat.mul_comm]
      refine Nat.mul_le_mul_left _ (Nat.le_trans (lines_len (h r (by simp))) ?_)
      have : 17 ^ L.length ≤ 17 ^ 3 := Nat.pow_le_pow_right (by omega) hl
      omega
theorem MgOk.el {xs : List Int} (h : MgOk xs) : ∀ x ∈ xs, 0 ≤ x ∧ x ≤ 16 := h.2.2.1
theorem MgOk.len {xs ys : List Int} (h : MgOk xs) (h' : MgOk ys) : (tabsL xs ys).length ≤ 118587876497 := by
  refine Nat.le_trans (tabsL_len (fun r hr => (h.el r hr).2) h'.2.1) ?_
  have : 4913 ^ xs.length ≤ 4913 ^ 3 := Nat.pow_le_pow_right (by omega) h.2.1
  omega
theorem gset {b : Nat} {H H2 : Heap} {k k' : Blk} (e : H.set b k = H2) (h : H[b]? = some k') : H2[b]? = some k := by rw [← e]; exact get_set h
theorem argT_len : ∀ (Ki : Nat → Prop) (H1 : Heap) (args : List AV) (x : List (List Int)), ArgT Ki H1 args x → args.length = 1 := by rintro _ _ _ _ ⟨u, rfl, _⟩; rfl
end Go.Proofs.Ytflekaacffdakaa
namespace Go.Proofs.Ytflekaacffdakaa
open Go Go.AM Go.Proofs
theorem cnt_no {β : Type} {f : Nat → List β} {N : Nat} (h : ∀ x, x < N → f x = []) : (List.range N).flatMap f = [] := by
  rw [List.flatMap_eq_nil_iff]
  intro x hx
  exact h x (List.mem_range.1 hx)
theorem lines1 {r d : Nat} : lines [(d : Int)] (r : Int) = if r ≤ d then [[(r : Int)]] else [] := by
  unfold lines
  unfold lines
  by_cases h : r ≤ d
  · rw [if_pos h, show (min (r : Int) d + 1).toNat = r + 1 by omega, List.range_succ, List.flatMap_append, cnt_no fun x hx => by rw [if_pos (by omega)]; rfl]
    simp
  · rw [if_neg h]
    exact cnt_no fun x hx => by rw [if_pos (by omega)]; rfl
end Go.Proofs.Ytflekaacffdakaa
namespace Go.Proofs.Ytflekaacffdakaa
open Go Go.AM Go.Proofs
theorem fracN_scale {k m n : Nat} (hk : 0 < k) : fracN (k * m) (k * n) = fracN m n := by
  unfold fracN
  rw [Nat.gcd_mul_left, Nat.mul_div_mul_left _ _ hk, Nat.mul_div_mul_left _ _ hk]
end Go.Proofs.Ytflekaacffdakaa
namespace Go.Proofs.Ytflekaacffdakaa
open Go Go.AM Go.Proofs
theorem lines_mem : ∀ {cs : List Int} {need : Int} {l : List Int}, l ∈ lines cs need → l.length = cs.length
  | [], need, l, h => by
    unfold lines at h
    split at h <;> simp at h
    subst h; rfl
  | c :: cs, need, l, h => by
    unfold lines at h
    rw [List.mem_flatMap] at h
    obtain ⟨x, _, h⟩ := h
    obtain ⟨l', h1, rfl⟩ := List.mem_map.1 h
    rw [List.length_cons, lines_mem h1, List.length_cons]
end Go.Proofs.Ytflekaacffdakaa
namespace Go.AM
open Go
def OAcc (p : Nat → Prop) (H : Heap) (u : AV) (xs : List (List Int)) : Prop :=
  (u = .nils ∧ xs = []) ∨ ∃ b o c k, u = .s 1 b o xs.length c ∧ p b ∧ H[b]? = some (.cells k) ∧ o + xs.length ≤ k.length ∧ xs.length ≤ 9223372036854775807 ∧ ∀ (i : Nat) (h : i < xs.length), Rep.rep (fun b' => p b' ∧ b' ≠ b) H ((k.drop (o + i)).take 1) xs[i]
theorem OAcc.of {L : Nat} {p q : Nat → Prop} {H : Heap} {u : AV} {xs : List (List Int)} (h : Acc L p H u xs) (hL : ∀ b, L ≤ b → q b) (hp : ∀ b, p b → q b) : OAcc q H u xs := by
  rcases h with h | ⟨b, o, c, k, rfl, hb, hk1, h1, h2, h3⟩
  · exact .inl h
  · refine .inr ⟨b, o, c, k, rfl, hL b hb, hk1, by change o + xs.length * 1 ≤ _ at h1; omega, h2, fun i hi => ?_⟩
    have := h3 i hi
    change Rep.rep _ H ((k.drop (o + i * 1)).take 1) _ at this
    rw [Nat.mul_one] at this
    exact Rep.mono this (Kp.refl _ _) fun b h => ⟨hp b h.1, h.2⟩
theorem OAcc.acc {L : Nat} {q : Nat → Prop} {H : Heap} {u : AV} {xs : List (List Int)} (h : OAcc q H u xs) (hL : ∀ b, q b → L ≤ b) : Acc L q H u xs := by
  rcases h with h | ⟨b, o, c, k, rfl, hb, hk1, h1, h2, h3⟩
  · exact .inl h
  · refine .inr ⟨b, o, c, k, rfl, hL b hb, hk1, by change o + xs.length * 1 ≤ _; omega, h2, fun i hi => ?_⟩
    change Rep.rep _ H ((k.drop (o + i * 1)).take 1) _
    rw [Nat.mul_one]
    exact h3 i hi
end Go.AM
namespace Go.Proofs.Ytflekaacffdakaa
open Go Go.AM Go.Proofs
theorem lines_len2 : ∀ {cs : List Int} {need : Int}, 0 ≤ need → need ≤ 16 → (∀ x ∈ cs, 0 ≤ x ∧ x ≤ 16) → (lines cs need).length ≤ 17 ^ (cs.length - 1)
  | [], need, _, _, _ => by
    unfold lines
    split <;> simp
  | [c], need, h0, h, hc => by
    have := hc c (by simp)
    obtain ⟨c, rfl⟩ := nat_of this.1
    obtain ⟨need, rfl⟩ := nat_of h0
    rw [lines1]
    split <;> simp
  | c :: d :: cs, need, h0, h, hc => by
    have hcc := hc c (by simp)
    rw [lines]
    refine Nat.le_trans (flatMap_len (b := 17 ^ cs.length) fun x hx => ?_) ?_
    · have := List.mem_range.1 hx
      rw [List.length_map]
      exact lines_len2 (cs := d :: cs) (by omega) (by omega) fun y hy => hc y (by simp only [List.mem_cons] at hy ⊢; exact .inr hy)
    · rw [List.length_range]
      simp only [List.length_cons, Nat.add_sub_cancel]
      rw [Nat.pow_succ, Nat.mul_comm]
      exact Nat.mul_le_mul_left _ (by omega)
theorem lines_el : ∀ {cs : List Int} {need : Int} {l : List Int}, 0 ≤ need → need ≤ 16 → (∀ x ∈ cs, 0 ≤ x ∧ x ≤ 16) → l ∈ lines cs need → (∀ x ∈ l, 0 ≤ x ∧ x ≤ 16) ∧ ∀ x ∈ subL cs l, 0 ≤ x ∧ x ≤ 16
  | [], need, l, _, _, _, h => by
    unfold lines at h
    split at h <;> simp at h
    subst h; simp [subL]
  | c :: cs, need, l, h0, h16, hc, h => by
    unfold lines at h
    rw [List.mem_flatMap] at h
    obtain ⟨x, hx, h⟩ := h
    have := List.mem_range.1 hx
    have hcc := hc c (by simp)
    obtain ⟨l', h1, rfl⟩ := List.mem_map.1 h
    obtain ⟨i1, i2⟩ := lines_el (by omega) (by omega) (fun y hy => hc y (by simp [hy])) h1
    refine ⟨fun y hy => ?_, fun y hy => ?_⟩
    · rcases List.mem_cons.1 hy with rfl | hy
      · omega
      · exact i1 y hy
    · have e : subL (c :: cs) ((x : Int) :: l') = (c - x) :: subL cs l' := rfl
      rw [e] at hy
      rcases List.mem_cons.1 hy with rfl | hy
      · omega
      · exact i2 y hy
theorem subL_len {cs l : List Int} (h : l.length = cs.length) : (subL cs l).length = cs.length := by unfold subL; rw [List.length_zipWith]; omega
theorem subL_gi {cs l : List Int} (h : l.length = cs.length) {j : Nat} (hj : j < cs.length) : gi (subL cs l) (j : Int) = gi cs (j : Int) - gi l (j : Int) := by
  rw [gi_nat (by rw [subL_len h]; exact hj), gi_nat hj, gi_nat (by omega)]
  simp [subL]
theorem tabsL_len2 : ∀ {rs L : List Int}, (∀ r ∈ rs, 0 ≤ r ∧ r ≤ 16) → (∀ x ∈ L, 0 ≤ x ∧ x ≤ 16) → L.length ≤ 3 → (tabsL rs L).length ≤ 289 ^ rs.length
  | [], L, _, _, _ => by
    unfold tabsL
    split <;> simp
  | r :: rs, L, h, h', hl => by
    have hr := h r (by simp)
    unfold tabsL
    refine Nat.le_trans (flatMap_len (b := 289 ^ rs.length) fun x hx => ?_) ?_
    · rw [List.length_map]
      exact tabsL_len2 (fun r hr => h r (by simp [hr])) (lines_el hr.1 hr.2 h' hx).2 (by rw [subL_len (lines_mem hx)]; exact hl)
    · rw [List.length_cons, Nat.pow_succ, Nat.mul_comm]
      refine Nat.mul_le_mul_left _ (Nat.le_trans (lines_len2 hr.1 hr.2 h') ?_)
      have : 17 ^ (L.length - 1) ≤ 17 ^ 2 := Nat.pow_le_pow_right (by omega) (by omega)
      omega
end Go.Proofs.Ytflekaacffdakaa
namespace Go.Proofs.Ytflekaacffdakaa
open Go Go.AM Go.Proofs
theorem tabsL_mem : ∀ {rs L : List Int} {t : List (List Int)}, t ∈ tabsL rs L → t.length = rs.length
  | [], L, t, h => by
    unfold tabsL at h
    split at h <;> simp at h
    subst h; rfl
  | r :: rs, L, t, h => by
    unfold tabsL at h
    rw [List.mem_flatMap] at h
    obtain ⟨l, _, h⟩ := h
    obtain ⟨t', h1, rfl⟩ := List.mem_map.1 h
    rw [List.length_cons, tabsL_mem h1, List.length_cons]
end Go.Proofs.Ytflekaacffdakaa
namespace Go.Proofs.Ytflekaacffdakaa
open Go Go.AM Go.Proofs
theorem _root_.Go.AM.RetP.callv {E : Tab} {f : Nat} {us caps vs : List AV} {H : Heap} {v : AV} (h : RetP E f (us ++ vs ++ caps) H v) {lo : Nat} {Q : AV → Heap → Prop} : @callvP E lo (.fn f us caps) vs H ⟨Q⟩ = Q v H := h.iff
theorem _root_.Go.AM.RetP.callv0 {E : Tab} {f : Nat} {vs : List AV} {H : Heap} {v : AV} (h : RetP E f vs H v) {lo : Nat} {Q : AV → Heap → Prop} : @callvP E lo (.fn f [] []) vs H ⟨Q⟩ = Q v H := RetP.callv (us := []) (caps := []) (by simpa using h)
theorem _root_.Go.AM.RetP.callv1 {E : Tab} {f : Nat} {caps vs : List AV} {H : Heap} {v : AV} (h : RetP E f (vs ++ caps) H v) {lo : Nat} {Q : AV → Heap → Prop} : @callvP E lo (.fn f [] caps) vs H ⟨Q⟩ = Q v H := RetP.callv (us := []) (by simpa using h)
def cmpI (x y : Int) : Int := if x < y then -1 else if y < x then 1 else 0
theorem isNaN_ret {H : Heap} {x : Int} : RetP E 102 [.i x] H (.b false) := by
  refine RetP.ro rfl fn102 rfl rfl ?_
  unfold f102A
  simp (disch := (first | assumption | omega | (simp only [List.length_append, List.length_cons, List.length_nil]; omega))) only [↓wD,wU,Nat.reduceBEq,zx150,zx151,zx159,zx160,zx161,zx162,Nat.reduceAdd,Nat.reduceSub,Nat.reduceMul,Nat.reduceLeDiff,Nat.reduceLT,Nat.reduceEqDiff,Int.reduceAdd,Int.reduceSub,Int.reduceMul,Int.reduceNeg,Int.reduceLT,Int.reduceLE,Int.reduceEq,Int.reduceToNat,Int.cast_ofNat_Int,↓reduceIte, *]
theorem cmp_ret {H : Heap} {x y : Int} : RetP E 85 [.i x, .i y] H (.i (cmpI x y)) := by
  refine RetP.ro rfl fn85 rfl rfl ?_
  unfold f85A
  (repeat' (first | refine condP_split (fun _ => ?_) (fun _ => ?_) | refine guardP_split (fun _ => ?_) (fun _ => ?_) | refine guardP_splitF (fun _ => ?_) (fun _ => ?_) | (simp (disch := (first | assumption | omega | (simp only [List.length_append, List.length_cons, List.length_nil]; omega))) only [↓wD,wU,Nat.reduceBEq,zx150,zx151,zx159,zx160,zx161,zx162,Nat.reduceAdd,Nat.reduceSub,Nat.reduceMul,Nat.reduceLeDiff,Nat.reduceLT,Nat.reduceEqDiff,Int.reduceAdd,Int.reduceSub,Int.reduceMul,Int.reduceNeg,Int.reduceLT,Int.reduceLE,Int.reduceEq,Int.reduceToNat,Int.cast_ofNat_Int,↓reduceIte, *, isNaN_ret.call]))) <;> (unfold cmpI; first | (rw [if_pos (by assumption)]) | (rw [if_neg (by assumption), if_pos (by assumption)]) | (rw [if_neg (by assumption), if_neg (by assumption)]))
/-- how two slices compare -/
def cmpL : List Int → List Int → Int
  | [], [] => 0
  | [], _ :: _ => -1
  | _ :: _, [] => 1
  | x :: xs, y :: ys => if cmpI x y ≠ 0 then cmpI x y else cmpL xs ys
theorem cmpL_refl : ∀ xs : List Int, cmpL xs xs = 0
  | [] => rfl
  | x :: xs => by simp [cmpL, cmpI, cmpL_refl xs]
theorem gi_cons0 {α : Type} [Inhabited α] {x : α} {xs : List α} : gi (x :: xs) ((0 : Nat) : Int) = x := rfl
theorem gi_consS {α : Type} [Inhabited α] {x : α} {xs : List α} {i : Nat} : gi (x :: xs) ((i + 1 : Nat) : Int) = gi xs (i : Int) := by simp [gi]
theorem cmpL_drop : ∀ {i : Nat} {xs ys : List Int}, xs.take i = ys.take i → i ≤ xs.length → i ≤ ys.length → cmpL xs ys = cmpL (xs.drop i) (ys.drop i)
  | 0, xs, ys, _, _, _ => by simp
  | i + 1, [], ys, _, h, _ => by simp at h
  | i + 1, x :: xs, [], _, _, h => by simp at h
  | i + 1, x :: xs, y :: ys, h, h1, h2 => by
    simp only [List.take_succ_cons, List.cons.injEq] at h
    obtain ⟨rfl, h⟩ := h
    have e : cmpL (x :: xs) (x :: ys) = cmpL xs ys := by simp [cmpL, cmpI]
    rw [e, List.drop_succ_cons, List.drop_succ_cons]
    exact cmpL_drop h (by simpa using h1) (by simpa using h2)
theorem compare_ret {p q : Nat → Prop} {H : Heap} {v u : AV} {xs ys : List Int} (hx : Sl p H v xs) (hy : Sl q H u ys) : RetP E 59 [v, u] H (.i (cmpL xs ys)) := by
  refine RetP.ro rfl fn59 rfl rfl ?_
  unfold f59A
  have hbx := hx.bound
  have hby := hy.bound
  simp (disch := (first | assumption | omega | (simp only [List.length_append, List.length_cons, List.length_nil]; omega))) only [↓wD,wU,Nat.reduceBEq,zx150,zx151,zx159,zx160,zx161,zx162,Nat.reduceAdd,Nat.reduceSub,Nat.reduceMul,Nat.reduceLeDiff,Nat.reduceLT,Nat.reduceEqDiff,Int.reduceAdd,Int.reduceSub,Int.reduceMul,Int.reduceNeg,Int.reduceLT,Int.reduceLE,Int.reduceEq,Int.reduceToNat,Int.cast_ofNat_Int,↓reduceIte, *, hx.I]
  refine Wp.for xs.length (fun i a H' => H' = H ∧ a 0 = v ∧ a 1 = u ∧ a 9 = v ∧ a 10 = .i xs.length ∧ a 11 = .i i ∧ xs.take i = ys.take i ∧ i ≤ ys.length) ?_ ?_
  · rintro i a H' hi ⟨rfl, h0, h1, h9, h10, h11, hh, hle⟩ ih
    simp (disch := (first | assumption | omega | (simp only [List.length_append, List.length_cons, List.length_nil]; omega))) only [↓wD,wU,Nat.reduceBEq,zx150,zx151,zx159,zx160,zx161,zx162,Nat.reduceAdd,Nat.reduceSub,Nat.reduceMul,Nat.reduceLeDiff,Nat.reduceLT,Nat.reduceEqDiff,Int.reduceAdd,Int.reduceSub,Int.reduceMul,Int.reduceNeg,Int.reduceLT,Int.reduceLE,Int.reduceEq,Int.reduceToNat,Int.cast_ofNat_Int,↓reduceIte, *]
    refine condP_split (fun hlt => ?_) (fun hlt => ?_)
    · have hi' : i < xs.length := by omega
      have ex : xs.drop i = gi xs (i : Int) :: xs.drop (i + 1) := by rw [gi_nat hi']; exact List.drop_eq_getElem_cons hi'
      have e := cmpL_drop hh (by omega) hle
      simp (disch := (first | assumption | omega | (simp only [List.length_append, List.length_cons, List.length_nil]; omega))) only [↓wD,wU,Nat.reduceBEq,zx150,zx151,zx159,zx160,zx161,zx162,Nat.reduceAdd,Nat.reduceSub,Nat.reduceMul,Nat.reduceLeDiff,Nat.reduceLT,Nat.reduceEqDiff,Int.reduceAdd,Int.reduceSub,Int.reduceMul,Int.reduceNeg,Int.reduceLT,Int.reduceLE,Int.reduceEq,Int.reduceToNat,Int.cast_ofNat_Int,↓reduceIte, *, hx.I, hy.I]
      refine condP_split (fun hge => ?_) (fun hge => ?_)
      · rw [e, ex, List.drop_of_length_le (show ys.length ≤ i by omega)]
        (simp (disch := (first | assumption | omega | (simp only [List.length_append, List.length_cons, List.length_nil]; omega))) only [↓wD,wU,Nat.reduceBEq,zx150,zx151,zx159,zx160,zx161,zx162,Nat.reduceAdd,Nat.reduceSub,Nat.reduceMul,Nat.reduceLeDiff,Nat.reduceLT,Nat.reduceEqDiff,Int.reduceAdd,Int.reduceSub,Int.reduceMul,Int.reduceNeg,Int.reduceLT,Int.reduceLE,Int.reduceEq,Int.reduceToNat,Int.cast_ofNat_Int,↓reduceIte]) <;> rfl
      · have hi2 : i < ys.length := by omega
        have ey : ys.drop i = gi ys (i : Int) :: ys.drop (i + 1) := by rw [gi_nat hi2]; exact List.drop_eq_getElem_cons hi2
        rw [ex, ey] at e
        have e2 : cmpL xs ys = if cmpI (gi xs (i : Int)) (gi ys (i : Int)) ≠ 0 then cmpI (gi xs (i : Int)) (gi ys (i : Int)) else cmpL (xs.drop (i + 1)) (ys.drop (i + 1)) := e
        clear e ex ey
        simp (disch := (first | assumption | omega | (simp only [List.length_append, List.length_cons, List.length_nil]; omega))) only [↓wD,wU,Nat.reduceBEq,zx150,zx151,zx159,zx160,zx161,zx162,Nat.reduceAdd,Nat.reduceSub,Nat.reduceMul,Nat.reduceLeDiff,Nat.reduceLT,Nat.reduceEqDiff,Int.reduceAdd,Int.reduceSub,Int.reduceMul,Int.reduceNeg,Int.reduceLT,Int.reduceLE,Int.reduceEq,Int.reduceToNat,Int.cast_ofNat_Int,↓reduceIte, *, hx.I, hy.I, cmp_ret.call]
        refine condP_split (fun hne => ?_) (fun hne => ?_)
        · rw [if_pos hne] at e2
          rw [e2]
          simp (disch := (first | assumption | omega | (simp only [List.length_append, List.length_cons, List.length_nil]; omega))) only [↓wD,wU,Nat.reduceBEq,zx150,zx151,zx159,zx160,zx161,zx162,Nat.reduceAdd,Nat.reduceSub,Nat.reduceMul,Nat.reduceLeDiff,Nat.reduceLT,Nat.reduceEqDiff,Int.reduceAdd,Int.reduceSub,Int.reduceMul,Int.reduceNeg,Int.reduceLT,Int.reduceLE,Int.reduceEq,Int.reduceToNat,Int.cast_ofNat_Int,↓reduceIte]
        · have h0' : gi xs (i : Int) = gi ys (i : Int) := by
            have : ¬ (¬ cmpI (gi xs (i : Int)) (gi ys (i : Int)) = 0) := hne
            unfold cmpI at this
            split at this
            · omega
            · split at this
              · omega
              · omega
          have hh2 := take_eq_succ hh hi' hi2 h0'
          clear e2 hne h0'
          simp (disch := (first | assumption | omega | (simp only [List.length_append, List.length_cons, List.length_nil]; omega))) only [↓wD,wU,Nat.reduceBEq,zx150,zx151,zx159,zx160,zx161,zx162,Nat.reduceAdd,Nat.reduceSub,Nat.reduceMul,Nat.reduceLeDiff,Nat.reduceLT,Nat.reduceEqDiff,Int.reduceAdd,Int.reduceSub,Int.reduceMul,Int.reduceNeg,Int.reduceLT,Int.reduceLE,Int.reduceEq,Int.reduceToNat,Int.cast_ofNat_Int,↓reduceIte, *]
          refine (ih hi').go ⟨rfl, ?_⟩
          simp (disch := (first | assumption | omega | (simp only [List.length_append, List.length_cons, List.length_nil]; omega))) only [↓wD,wU,Nat.reduceBEq,zx150,zx151,zx159,zx160,zx161,zx162,Nat.reduceAdd,Nat.reduceSub,Nat.reduceMul,Nat.reduceLeDiff,Nat.reduceLT,Nat.reduceEqDiff,Int.reduceAdd,Int.reduceSub,Int.reduceMul,Int.reduceNeg,Int.reduceLT,Int.reduceLE,Int.reduceEq,Int.reduceToNat,Int.cast_ofNat_Int,↓reduceIte, *]
          omega
    · obtain rfl : i = xs.length := by omega
      have e := cmpL_drop hh (by omega) hle
      rw [List.drop_length] at e
      simp (disch := (first | assumption | omega | (simp only [List.length_append, List.length_cons, List.length_nil]; omega))) only [↓wD,wU,Nat.reduceBEq,zx150,zx151,zx159,zx160,zx161,zx162,Nat.reduceAdd,Nat.reduceSub,Nat.reduceMul,Nat.reduceLeDiff,Nat.reduceLT,Nat.reduceEqDiff,Int.reduceAdd,Int.reduceSub,Int.reduceMul,Int.reduceNeg,Int.reduceLT,Int.reduceLE,Int.reduceEq,Int.reduceToNat,Int.cast_ofNat_Int,↓reduceIte, *, hx.I, hy.I]
      refine condP_split (fun h2 => ?_) (fun h2 => ?_)
      · have ey : ys.drop xs.length = gi ys (xs.length : Int) :: ys.drop (xs.length + 1) := by rw [gi_nat (by omega)]; exact List.drop_eq_getElem_cons (by omega)
        rw [e, ey]
        (simp (disch := (first | assumption | omega | (simp only [List.length_append, List.length_cons, List.length_nil]; omega))) only [↓wD,wU,Nat.reduceBEq,zx150,zx151,zx159,zx160,zx161,zx162,Nat.reduceAdd,Nat.reduceSub,Nat.reduceMul,Nat.reduceLeDiff,Nat.reduceLT,Nat.reduceEqDiff,Int.reduceAdd,Int.reduceSub,Int.reduceMul,Int.reduceNeg,Int.reduceLT,Int.reduceLE,Int.reduceEq,Int.reduceToNat,Int.cast_ofNat_Int,↓reduceIte]) <;> rfl
      · rw [e, List.drop_of_length_le (by omega)]
        (simp (disch := (first | assumption | omega | (simp only [List.length_append, List.length_cons, List.length_nil]; omega))) only [↓wD,wU,Nat.reduceBEq,zx150,zx151,zx159,zx160,zx161,zx162,Nat.reduceAdd,Nat.reduceSub,Nat.reduceMul,Nat.reduceLeDiff,Nat.reduceLT,Nat.reduceEqDiff,Int.reduceAdd,Int.reduceSub,Int.reduceMul,Int.reduceNeg,Int.reduceLT,Int.reduceLE,Int.reduceEq,Int.reduceToNat,Int.cast_ofNat_Int,↓reduceIte]) <;> rfl
  · (simp (disch := (first | assumption | omega | (simp only [List.length_append, List.length_cons, List.length_nil]; omega))) only [↓wD,wU,Nat.reduceBEq,zx150,zx151,zx159,zx160,zx161,zx162,Nat.reduceAdd,Nat.reduceSub,Nat.reduceMul,Nat.reduceLeDiff,Nat.reduceLT,Nat.reduceEqDiff,Int.reduceAdd,Int.reduceSub,Int.reduceMul,Int.reduceNeg,Int.reduceLT,Int.reduceLE,Int.reduceEq,Int.reduceToNat,Int.cast_ofNat_Int,↓reduceIte, *]) <;> simp
end Go.Proofs.Ytflekaacffdakaa
namespace Go.Proofs.Ytflekaacffdakaa
open Go Go.AM Go.Proofs
def prodN : List Int → Nat
  | [] => 1
  | x :: l => x.toNat * prodN l
theorem prodN_dvd {x : Int} : ∀ {l : List Int}, x ∈ l → x.toNat ∣ prodN l
  | y :: l, h => by
    rcases List.mem_cons.1 h with rfl | h
    · exact Nat.dvd_mul_right _ _
    · exact Nat.dvd_trans (prodN_dvd h) (Nat.dvd_mul_left _ _)
theorem prodN_le {m : Nat} (hm : 1 ≤ m) : ∀ {l : List Int}, (∀ x ∈ l, x ≤ m) → prodN l ≤ m ^ l.length
  | [], _ => by simp [prodN]
  | x :: l, h => by
    rw [prodN, List.length_cons, Nat.pow_succ, Nat.mul_comm]
    exact Nat.mul_le_mul (prodN_le hm fun y hy => h y (by simp [hy])) (by have := h x (by simp); omega)
theorem prodN_pos : ∀ {l : List Int}, (∀ x ∈ l, 0 < x) → 0 < prodN l
  | [], _ => by simp [prodN]
  | x :: l, h => Nat.mul_pos (by have := h x (by simp); omega) (prodN_pos fun y hy => h y (by simp [hy]))
section
variable (t : List (List Int))
def nN : Nat := (rowSums t).sum.toNat
def rN (i : Nat) : Nat := (gi (rowSums t) (i : Int)).toNat
def cN (j : Nat) : Nat := (gi (colSums t) (j : Int)).toNat
def allN : Nat := nN t * prodN (rowSums t) * prodN (colSums t)
def eN (i j : Nat) : Nat := rN t i * cN t j * nN t
def qN (i j : Nat) : Nat := allN t / eN t i j
def dd (i j : Nat) : Int := gi (gi t (i : Int)) (j : Int) * nN t - (rN t i * cN t j : Nat)
def sqN (i j : Nat) : Nat := (dd t i j * dd t i j).toNat
def rowOff (i j : Nat) : Nat := ((List.range j).map fun j => qN t i j * sqN t i j).sum
def offP (i : Nat) : Nat := ((List.range i).map fun i => rowOff t i (gi t 0).length).sum
end
theorem rowOff_succ {t : List (List Int)} {i j : Nat} : rowOff t i (j + 1) = rowOff t i j + qN t i j * sqN t i j := by
  unfold rowOff; rw [List.range_succ, List.map_append, List.sum_append]; simp
/-- all sums above 0 -/
def Full (t : List (List Int)) : Prop := TabOk t ∧ ¬ (0 : Int) ∈ rowSums t ∧ ¬ (0 : Int) ∈ colSums t
theorem rowSums_len {t : List (List Int)} : (rowSums t).length = t.length := by simp [rowSums]
theorem colSums_len {t : List (List Int)} : (colSums t).length = (gi t 0).length := by simp [colSums]
theorem rowSums_at {t : List (List Int)} {i : Nat} (h : i < t.length) : gi (rowSums t) (i : Int) = (gi t (i : Int)).sum := by
  rw [gi_nat (by rw [rowSums_len]; exact h), gi_nat h]; simp [rowSums]
theorem colSums_at {t : List (List Int)} {j : Nat} (h : j < (gi t 0).length) : gi (colSums t) (j : Int) = colPart t t.length j := gi_map_range h
theorem total_le {t : List (List Int)} (h : TabOk t) : (rowSums t).sum ≤ 16 := h.2.2.2
theorem rowSums_ge {t : List (List Int)} (h : TabOk t) : ∀ x ∈ rowSums t, 0 ≤ x := by
  intro x hx
  obtain ⟨r, hr, rfl⟩ := List.mem_map.1 hx
  exact sum_nonneg fun y hy => ((h.2.2.1 r hr).2.2.2 y hy).1
theorem rowSums_le {t : List (List Int)} (h : TabOk t) : ∀ x ∈ rowSums t, 0 ≤ x ∧ x ≤ 16 := fun x hx =>
  ⟨rowSums_ge h x hx, Int.le_trans (le_sum (rowSums_ge h) hx) (total_le h)⟩
/-- the sums of the columns sum to the same -/
theorem colPart_le {t : List (List Int)} (h : TabOk t) {j : Nat} (hj : j < (gi t 0).length) : ∀ i, i ≤ t.length → colPart t i j ≤ ((rowSums t).take i).sum
  | 0, _ => by simp [colPart]
  | i + 1, hi => by
    have h1 := colPart_le h hj i (by omega)
    have h2 : i < (rowSums t).length := by rw [rowSums_len]; omega
    rw [colPart_succ (by omega), sum_take h2, rowSums_at (by omega)]
    have hw := h.width (show i < t.length by omega)
    have : gi (gi t (i : Int)) (j : Int) ≤ (gi t (i : Int)).sum := le_sum (fun y hy => ((h.2.2.1 _ (mem_gi (show i < t.length by omega))).2.2.2 y hy).1) (mem_gi (by omega))
    omega
theorem colSums_le {t : List (List Int)} (h : TabOk t) : ∀ x ∈ colSums t, 0 ≤ x ∧ x ≤ 16 := fun x hx => by
  unfold colSums at hx
  obtain ⟨j, hj, rfl⟩ := List.mem_map.1 hx
  have hj' := List.mem_range.1 hj
  have h1 := (h.colPart (i := t.length) hj').1
  have h2 := colPart_le h hj' t.length (Nat.le_refl _)
  rw [List.take_of_length_le (by rw [rowSums_len]; exact Nat.le_refl _)] at h2
  have := total_le h
  exact ⟨h1, by omega⟩
/-- the numbers, and how great they are -/
theorem Full.nums {t : List (List Int)} (h : Full t) {i j : Nat} (hi : i < t.length) (hj : j < (gi t 0).length) :
    gi (rowSums t) (i : Int) = rN t i ∧ gi (colSums t) (j : Int) = cN t j ∧ 1 ≤ rN t i ∧ rN t i ≤ 16 ∧ 1 ≤ cN t j ∧ cN t j ≤ 16 ∧ 1 ≤ nN t ∧ nN t ≤ 16 ∧ (rowSums t).sum = nN t := by
  have r1 := mem_gi (xs := rowSums t) (i := i) (by rw [rowSums_len]; exact hi)
  have c1 := mem_gi (xs := colSums t) (i := j) (by rw [colSums_len]; exact hj)
  have r2 := rowSums_le h.1 _ r1
  have c2 := colSums_le h.1 _ c1
  have r3 : gi (rowSums t) (i : Int) ≠ 0 := fun e => h.2.1 (e ▸ r1)
  have c3 : gi (colSums t) (j : Int) ≠ 0 := fun e => h.2.2 (e ▸ c1)
  have n1 := le_sum (rowSums_ge h.1) r1
  have n2 := total_le h.1
  unfold rN cN nN
  omega
theorem Full.all {t : List (List Int)} (h : Full t) : 1 ≤ allN t ∧ allN t ≤ 268435456 := by
  have hl := h.1.1
  have hc := h.1.cols
  have hn := h.nums (i := 0) (j := 0) (by omega) (by omega)
  have pr : ∀ x ∈ rowSums t, 0 < x := fun x hx => by
    have := rowSums_le h.1 x hx
    have : x ≠ 0 := fun e => h.2.1 (e ▸ hx)
    omega
  have pc : ∀ x ∈ colSums t, 0 < x := fun x hx => by
    have := colSums_le h.1 x hx
    have : x ≠ 0 := fun e => h.2.2 (e ▸ hx)
    omega
  have a1 : prodN (rowSums t) ≤ 16 ^ 3 := Nat.le_trans (prodN_le (m := 16) (by omega) fun x hx => (rowSums_le h.1 x hx).2) (Nat.pow_le_pow_right (by omega) (by rw [rowSums_len]; exact h.1.2.1))
  have a2 : prodN (colSums t) ≤ 16 ^ 3 := Nat.le_trans (prodN_le (m := 16) (by omega) fun x hx => (colSums_le h.1 x hx).2) (Nat.pow_le_pow_right (by omega) (by rw [colSums_len]; exact hc.2))
  have b1 := prodN_pos pr
  have b2 := prodN_pos pc
  unfold allN
  refine ⟨Nat.mul_pos (Nat.mul_pos (by omega) b1) b2, ?_⟩
  have := Nat.mul_le_mul (Nat.mul_le_mul hn.2.2.2.2.2.2.2.1 a1) a2
  omega
theorem Full.dvd {t : List (List Int)} (h : Full t) {i j : Nat} (hi : i < t.length) (hj : j < (gi t 0).length) : allN t = eN t i j * qN t i j ∧ 1 ≤ eN t i j ∧ eN t i j ≤ 4096 := by
  have hn := h.nums hi hj
  have r1 : rN t i ∣ prodN (rowSums t) := prodN_dvd (mem_gi (by rw [rowSums_len]; exact hi))
  have c1 : cN t j ∣ prodN (colSums t) := prodN_dvd (mem_gi (by rw [colSums_len]; exact hj))
  have d : eN t i j ∣ allN t := by
    unfold eN allN
    rw [Nat.mul_comm (rN t i * cN t j), Nat.mul_assoc (nN t)]
    exact Nat.mul_dvd_mul_left _ (Nat.mul_dvd_mul r1 c1)
  refine ⟨(Nat.mul_div_cancel' d).symm, Nat.mul_pos (Nat.mul_pos (by omega) (by omega)) (by omega), ?_⟩
  unfold eN
  exact Nat.mul_le_mul (Nat.mul_le_mul hn.2.2.2.1 hn.2.2.2.2.2.1) hn.2.2.2.2.2.2.2.1
theorem sq_nonneg (x : Int) : 0 ≤ x * x := by
  rcases Int.le_total 0 x with h | h
  · exact Int.mul_nonneg h h
  · exact Int.mul_nonneg_of_nonpos_of_nonpos h h
theorem Full.dd {t : List (List Int)} (h : Full t) {i j : Nat} (hi : i < t.length) (hj : j < (gi t 0).length) : -256 ≤ dd t i j ∧ dd t i j ≤ 256 ∧ 0 ≤ gi (gi t (i : Int)) (j : Int) * nN t ∧ gi (gi t (i : Int)) (j : Int) * nN t ≤ 256 ∧ ((sqN t i j : Nat) : Int) = Go.Proofs.Ytflekaacffdakaa.dd t i j * Go.Proofs.Ytflekaacffdakaa.dd t i j ∧ sqN t i j ≤ 65536 := by
  have hn := h.nums hi hj
  have he := h.1.entry hi hj
  have m1 := mul_small (m := 16) (n := 16) he.1 he.2 (show (0 : Int) ≤ nN t by omega) (by omega) (by omega)
  have m2 : rN t i * cN t j ≤ 16 * 16 := Nat.mul_le_mul hn.2.2.2.1 hn.2.2.2.2.2.1
  have b1 : -256 ≤ Go.Proofs.Ytflekaacffdakaa.dd t i j ∧ Go.Proofs.Ytflekaacffdakaa.dd t i j ≤ 256 := by
    unfold Go.Proofs.Ytflekaacffdakaa.dd; omega
  have b2 := sq_nonneg (Go.Proofs.Ytflekaacffdakaa.dd t i j)
  have b3 : Go.Proofs.Ytflekaacffdakaa.dd t i j * Go.Proofs.Ytflekaacffdakaa.dd t i j ≤ 65536 := by
    rcases Int.le_total 0 (Go.Proofs.Ytflekaacffdakaa.dd t i j) with h | h
    · have := mul_small h b1.2 h b1.2 (by omega); omega
    · have := mul_small (show 0 ≤ - Go.Proofs.Ytflekaacffdakaa.dd t i j by omega) (show - Go.Proofs.Ytflekaacffdakaa.dd t i j ≤ 256 by omega) (show 0 ≤ - Go.Proofs.Ytflekaacffdakaa.dd t i j by omega) (show - Go.Proofs.Ytflekaacffdakaa.dd t i j ≤ 256 by omega) (by omega)
      rw [Int.neg_mul_neg] at this; omega
  unfold sqN
  refine ⟨b1.1, b1.2, m1.1, by omega, by omega, by omega⟩
/-- how great the sum is -/
theorem Full.part {t : List (List Int)} (h : Full t) {i : Nat} (hi : i < t.length) : ∀ {j : Nat}, j ≤ (gi t 0).length → rowOff t i j ≤ j * 17592186044416
  | 0, _ => by simp [rowOff]
  | j + 1, hj => by
    have h1 := h.part hi (j := j) (by omega)
    have h2 := h.dvd hi (j := j) (by omega)
    have h3 := h.dd hi (j := j) (by omega)
    have h4 := h.all
    have h5 : qN t i j ≤ 268435456 := by
      have : qN t i j ≤ allN t := Nat.div_le_self _ _
      omega
    have h6 := Nat.mul_le_mul h5 h3.2.2.2.2.2
    rw [rowOff_succ]; omega
end Go.Proofs.Ytflekaacffdakaa
namespace Go.Proofs.Ytflekaacffdakaa
open Go Go.AM Go.Proofs
theorem mg_rows {t : List (List Int)} (h : TabOk t) : MgOk (rowSums t) := by
  refine ⟨by rw [rowSums_len]; exact h.1, by rw [rowSums_len]; exact h.2.1, fun x hx => rowSums_le h x hx, ?_⟩
  have := total_le h
  exact this
theorem family_ret {p : Nat → Prop} {H : Heap} {v : AV} {t : List (List Int)} (ht : Sl p H v t) (h : TabOk t) : Ret E 82 [v] (fun _ => False) H (rowSums t, colSums t) := by
  refine Ret.ro rfl fn82 rfl ?_
  unfold f82A
  simp (disch := (first | assumption | omega | (simp only [List.length_append, List.length_cons, List.length_nil]; omega))) only [↓wD,wU,Nat.reduceBEq,zx150,zx151,zx159,zx160,zx161,zx162,Nat.reduceAdd,Nat.reduceSub,Nat.reduceMul,Nat.reduceLeDiff,Nat.reduceLT,Nat.reduceEqDiff,Int.reduceAdd,Int.reduceSub,Int.reduceMul,Int.reduceNeg,Int.reduceLT,Int.reduceLE,Int.reduceEq,Int.reduceToNat,Int.cast_ofNat_Int,↓reduceIte]
  refine (sums_ret (ht.app [.cells [.nils, .nils]]) h).toX fun w H2 x2 hw => ?_
  obtain ⟨v1, v2, rfl, h1, h2⟩ := rv2 hw
  have c2 : H2[H.length]? = some (.cells [.nils, .nils]) := x2.get trivial get_last
  have s1 := rvs h1
  have s2 := rvs h2
  have hst : st H.length H2 H.length 0 [v1, v2] = some (H2.set H.length (.cells [v1, v2])) := by rw [st_of c2 (Nat.le_refl _) (by simp)]; simp [wr]
  have k1 : Sl (fun b => H.length + 1 ≤ b) (H2.set H.length (.cells [v1, v2])) v1 (rowSums t) := (s1.weak (q := fun b => H.length + 1 ≤ b) fun b h => h.elim (fun h => h.elim) fun h => by simpa using h).kp ((Kp.set _ _ _).weak fun b h => by omega)
  have k2 : Sl (fun b => H.length + 1 ≤ b) (H2.set H.length (.cells [v1, v2])) v2 (colSums t) := (s2.weak (q := fun b => H.length + 1 ≤ b) fun b h => h.elim (fun h => h.elim) fun h => by simpa using h).kp ((Kp.set _ _ _).weak fun b h => by omega)
  simp (disch := (first | assumption | omega | (simp only [List.length_append, List.length_cons, List.length_nil]; omega))) only [↓wD,wU,Nat.reduceBEq,zx150,zx151,zx159,zx160,zx161,zx162,Nat.reduceAdd,Nat.reduceSub,Nat.reduceMul,Nat.reduceLeDiff,Nat.reduceLT,Nat.reduceEqDiff,Int.reduceAdd,Int.reduceSub,Int.reduceMul,Int.reduceNeg,Int.reduceLT,Int.reduceLE,Int.reduceEq,Int.reduceToNat,Int.cast_ofNat_Int,↓reduceIte, s1.cellsV, s2.cellsV, hst, ldn_of (get_set c2)]
  exact ⟨_, rfl, [v1], [v2], rfl, ⟨v1, rfl, k1.weak fun b h => .inr (by omega)⟩, ⟨v2, rfl, k2.weak fun b h => .inr (by omega)⟩⟩
end Go.Proofs.Ytflekaacffdakaa
namespace Go.Proofs.Ytflekaacffdakaa
open Go Go.AM Go.Proofs
/-- a sum -/
def is (m : Nat) (f : Nat → Int) : Int := ((List.range m).map f).sum
theorem is_0 {f : Nat → Int} : is 0 f = 0 := by simp [is]
theorem is_succ {m : Nat} {f : Nat → Int} : is (m + 1) f = is m f + f m := by
  unfold is; rw [List.range_succ, List.map_append, List.sum_append]; simp
theorem is_congr {m : Nat} {f g : Nat → Int} (h : ∀ k, k < m → f k = g k) : is m f = is m g := by
  induction m with
  | zero => rfl
  | succ m ih => rw [is_succ, is_succ, ih fun k hk => h k (by omega), h m (by omega)]
theorem is_le {m : Nat} {f g : Nat → Int} (h : ∀ k, k < m → f k ≤ g k) : is m f ≤ is m g := by
  induction m with
  | zero => rw [is_0, is_0]; exact Int.le_refl _
  | succ m ih =>
    have := ih fun k hk => h k (by omega)
    have := h m (by omega)
    rw [is_succ, is_succ]; omega
theorem is_add {m : Nat} {f g : Nat → Int} : is m (fun k => f k + g k) = is m f + is m g := by
  induction m with
  | zero => rfl
  | succ m ih => rw [is_succ, is_succ, is_succ, ih]; omega
theorem is_const {m : Nat} {c : Int} : is m (fun _ => c) = m * c := by
  induction m with
  | zero => simp [is_0]
  | succ m ih => rw [is_succ, ih]; push_cast; rw [Int.add_mul]; omega
theorem sum_is : ∀ {xs : List Int} {m : Nat}, m ≤ xs.length → (xs.take m).sum = is m fun k => gi xs (k : Int)
  | xs, 0, _ => by simp [is_0]
  | xs, m + 1, h => by rw [sum_take (by omega), is_succ, sum_is (by omega)]
theorem Full.cell {t : List (List Int)} (h : Full t) {i j : Nat} (hi : i < t.length) (hj : j < (gi t 0).length) :
    (allN t : Int) = rN t i * cN t j * nN t * qN t i j ∧ ((qN t i j * sqN t i j : Nat) : Int) = qN t i j * ((gi (gi t (i : Int)) (j : Int) * nN t - rN t i * cN t j) * (gi (gi t (i : Int)) (j : Int) * nN t - rN t i * cN t j)) ∧ 0 ≤ gi (gi t (i : Int)) (j : Int) ∧ gi (gi t (i : Int)) (j : Int) ≤ rN t i ∧ gi (gi t (i : Int)) (j : Int) ≤ cN t j := by
  have hn := h.nums hi hj
  have hd := h.dd hi hj
  have he := h.1.entry hi hj
  refine ⟨?_, ?_, he.1, ?_, ?_⟩
  · conv => lhs; rw [(h.dvd hi hj).1]
    unfold eN; push_cast; rfl
  · rw [Int.natCast_mul, hd.2.2.2.2.1]
    unfold Go.Proofs.Ytflekaacffdakaa.dd; push_cast; rfl
  · rw [← hn.1, rowSums_at hi]
    exact le_sum (fun y hy => ((h.1.2.2.1 _ (mem_gi hi)).2.2.2 y hy).1) (mem_gi (by rw [h.1.width hi]; exact hj))
  · rw [← hn.2.1, colSums_at hj]
    have key : ∀ m, m ≤ t.length → i < m → gi (gi t (i : Int)) (j : Int) ≤ colPart t m j := by
      intro m
      induction m with
      | zero => omega
      | succ m ih =>
        intro hm him
        rw [colPart_succ (by omega)]
        have e := h.1.entry (show m < t.length by omega) hj
        by_cases hh : i = m
        · subst hh
          have := (h.1.colPart (i := i) hj).1
          omega
        · have := ih (by omega) (by omega)
          omega
    exact key t.length (Nat.le_refl _) hi
theorem cols_sum {t : List (List Int)} (h : TabOk t) : is (gi t 0).length (fun j => colPart t t.length j) = (rowSums t).sum := by
  have key : ∀ m, m ≤ t.length → is (gi t 0).length (fun j => colPart t m j) = ((rowSums t).take m).sum := by
    intro m
    induction m with
    | zero =>
      intro _
      simp only [colPart_0]
      rw [is_const]; simp
    | succ m ih =>
      intro hm
      rw [sum_take (by rw [rowSums_len]; omega), ← ih (by omega), rowSums_at (by omega)]
      rw [is_congr fun k hk => colPart_succ (t := t) (i := m) (j := k) (by omega), is_add]
      congr 1
      rw [← sum_is (by rw [h.width (by omega)]; exact Nat.le_refl _), List.take_of_length_le (by rw [h.width (by omega)]; exact Nat.le_refl _)]
  have := key t.length (Nat.le_refl _)
  rwa [List.take_of_length_le (by rw [rowSums_len]; exact Nat.le_refl _)] at this
end Go.Proofs.Ytflekaacffdakaa
namespace Go.Proofs.Ytflekaacffdakaa
open Go Go.AM Go.Proofs
theorem family_range {lo : Nat} {v w : AV} {xs ys : List Int} {Hr H1 : Heap} {K0 K : Nat → Prop} {Q : Bool → (Nat → Prop) → Heap → Prop} (hlo : lo ≤ Hr.length) (hx : Sl (fun b => ¬ K0 b) Hr v xs) (hy : Sl (fun b => ¬ K0 b) Hr w ys) (h1 : MgOk xs) (h2 : MgOk ys) (hK0 : ∀ b, K0 b → b < Hr.length)
    (e : H1.length = Hr.length + 1) (hx' : Kx (fun _ => True) Hr H1) (hK : ∀ b, K b ↔ K0 b ∨ b = Hr.length) (hI : Its E lo (.yl Hr.length) (Hr.length + 1) ArgT Q (tabsL xs ys) K H1) :
    WpF E lo 80 [.ag [v, w], .yl Hr.length] H1 fun _ H' => ∃ ok K', Q ok K' H' := by
  rw [← e] at hI
  have hn : ∀ b, ¬ K0 b ∧ b < Hr.length → ¬ K b := fun b h q => by
    rcases (hK b).1 q with q | q
    · exact h.1 q
    · omega
  exact all_it (by omega) ⟨rfl, rfl⟩ ((hx.low.kp (hx'.all _).kp).weak hn) ((hy.low.kp (hx'.all _).kp).weak hn) h1.1 h1.2.1 h2.1 h2.2.1 h1.el h2.el (fun b q => by
    rcases (hK b).1 q with q | q
    · have := hK0 b q; omega
    · omega) hI
/-- what holds between rounds: c the cell of the slice -/
def FamI (c : Nat) (ts : List (List (List Int))) (i : Nat) (K : Nat → Prop) (H1 : Heap) : Prop := ∃ u, H1[c]? = some (.cells [u]) ∧ K c ∧ Acc (c + 1) (fun b => K b ∧ c < b) H1 u (ts.take i) ∧ ∀ b, u.blk = some b → K b
theorem FamI.st {c : Nat} {ts : List (List (List Int))} {i : Nat} {K : Nat → Prop} {H1 H2 : Heap} {P : Nat → Prop} (h : FamI c ts i K H1) (hx : Kx (fun b => P b ∨ K b) H1 H2) : FamI c ts i K H2 := by
  obtain ⟨u, h1, h2, h3, h4⟩ := h
  exact ⟨u, hx.get (.inr h2) h1, h2, h3.kp hx.kp (fun b e => .inr (h4 b e)) (fun b h => .inr h.1), h4⟩
theorem mg_cols {t : List (List Int)} (h : TabOk t) (hs : (colSums t).sum ≤ 16) : MgOk (colSums t) := by
  have hc := h.cols
  refine ⟨by rw [colSums_len]; omega, by rw [colSums_len]; omega, colSums_le h, hs⟩
theorem fam_ret {p : Nat → Prop} {H : Heap} {v : AV} {t : List (List Int)} (ht : Sl p H v t) (h : TabOk t) (hs : (colSums t).sum ≤ 16) : Ret E 42 [v] (fun _ => False) H (T2.mk (tabsL (rowSums t) (colSums t)) (0 : Int)) := by
  refine Ret.ro rfl fn42 rfl ?_
  unfold f42A
  have k := ht.app [.cells [.nils]]
  have h1 := mg_rows h
  have h2 := mg_cols h hs
  have hts : (tabsL (rowSums t) (colSums t)).length ≤ 24137569 := by
    refine Nat.le_trans (tabsL_len2 h1.el h2.el h2.2.1) ?_
    have : 289 ^ (rowSums t).length ≤ 289 ^ 3 := Nat.pow_le_pow_right (by omega) h1.2.1
    omega
  have hv := valid_ret ht
  rw [decide_eq_true h] at hv
  obtain ⟨ts, ets⟩ : ∃ ts, tabsL (rowSums t) (colSums t) = ts := ⟨_, rfl⟩
  rw [ets] at hts ⊢
  simp (disch := (first | assumption | omega | (simp only [List.length_append, List.length_cons, List.length_nil]; omega))) only [↓wD,wU,Nat.reduceBEq,zx150,zx151,zx159,zx160,zx161,zx162,Nat.reduceAdd,Nat.reduceSub,Nat.reduceMul,Nat.reduceLeDiff,Nat.reduceLT,Nat.reduceEqDiff,Int.reduceAdd,Int.reduceSub,Int.reduceMul,Int.reduceNeg,Int.reduceLT,Int.reduceLE,Int.reduceEq,Int.reduceToNat,Int.cast_ofNat_Int,↓reduceIte, hv.call]
  refine (family_ret k h).toX fun w Hr x1 hw => ?_
  obtain ⟨cs, rfl, c1, c2, rfl, ⟨v1, rfl, q1⟩, ⟨v2, rfl, q2⟩⟩ := hw
  have c0 : Hr[H.length]? = some (.cells [.nils]) := x1.get trivial get_last
  have hrl := (List.getElem?_eq_some_iff.1 c0).1
  have q1' : Sl (fun b => ¬ b = H.length) Hr v1 (rowSums t) := q1.weak fun b h => h.elim (fun h => h.elim) fun h => by simp at h; omega
  have q2' : Sl (fun b => ¬ b = H.length) Hr v2 (colSums t) := q2.weak fun b h => h.elim (fun h => h.elim) fun h => by simp at h; omega
  simp only [List.singleton_append, List.cons_append, List.nil_append]
  simp (disch := (first | assumption | omega | (simp only [List.length_append, List.length_cons, List.length_nil]; omega))) only [↓wD,wU,Nat.reduceBEq,zx150,zx151,zx159,zx160,zx161,zx162,Nat.reduceAdd,Nat.reduceSub,Nat.reduceMul,Nat.reduceLeDiff,Nat.reduceLT,Nat.reduceEqDiff,Int.reduceAdd,Int.reduceSub,Int.reduceMul,Int.reduceNeg,Int.reduceLT,Int.reduceLE,Int.reduceEq,Int.reduceToNat,Int.cast_ofNat_Int,↓reduceIte, q1'.cellsV, q2'.cellsV]
  refine Wp.range (A := ArgT) ts (fun b => b = H.length) (fun i K H1 => FamI H.length ts i K H1) (fun j K H1 => False) (by (simp (disch := (first | assumption | omega | (simp only [List.length_append, List.length_cons, List.length_nil]; omega))) only [↓wD,wU,Nat.reduceBEq,zx150,zx151,zx159,zx160,zx161,zx162,Nat.reduceAdd,Nat.reduceSub,Nat.reduceMul,Nat.reduceLeDiff,Nat.reduceLT,Nat.reduceEqDiff,Int.reduceAdd,Int.reduceSub,Int.reduceMul,Int.reduceNeg,Int.reduceLT,Int.reduceLE,Int.reduceEq,Int.reduceToNat,Int.cast_ofNat_Int,↓reduceIte]) <;> rfl) rfl (by omega) (fun b h => by omega) argT_len ?_ ?_ ?_ ?_ ?_ ?_ ?_
  · intro K' H1 Q' e hx' hK' hI
    rw [← ets] at hI
    exact family_range (by omega) q1' q2' h1 h2 (fun b h => by omega) e hx' hK' hI
  · exact fun i K H1 H2 h hx => h.st hx
  · exact fun j K H1 H2 h hx => h.elim
  · exact ⟨.nils, c0, rfl, Acc.nil, fun b e => by cases e⟩
  · rintro i hi K Ki args H1 ⟨u, d1, d2, d3, d4⟩ ⟨x, rfl, hu⟩ hKi hK hx hl1 hlr hKK
    simp (disch := (first | assumption | omega | (simp only [List.length_append, List.length_cons, List.length_nil]; omega))) only [↓wD,wU,Nat.reduceBEq,zx150,zx151,zx159,zx160,zx161,zx162,Nat.reduceAdd,Nat.reduceSub,Nat.reduceMul,Nat.reduceLeDiff,Nat.reduceLT,Nat.reduceEqDiff,Int.reduceAdd,Int.reduceSub,Int.reduceMul,Int.reduceNeg,Int.reduceLT,Int.reduceLE,Int.reduceEq,Int.reduceToNat,Int.cast_ofNat_Int,↓reduceIte, zx188 (lo := H.length) hlr (by omega), zx189, zx190]
    generalize e2 : H1.set Hr.length _ = H2
    have x12 : Kx (fun b => b ≠ Hr.length) H1 H2 := by rw [← e2]; exact Kx.set _ _ _
    have l12 : H2.length ≤ H1.length ∧ H1.length ≤ H2.length := by rw [← e2]; simp
    have gl := gset e2 hlr
    have r1 := x12.get (b := H.length) (by omega) d1
    have hu2 : Sl Ki H2 x ts[i] := hu.low.kp (x12.weak (q := fun b => Ki b ∧ b < H1.length) fun b _ h => by have := (hKi b h.1).1; omega).kp |>.weak fun b h => h.1
    have ha2 : Acc (H.length + 1) (fun b => (K b ∨ Ki b) ∧ H.length < b) H2 u (ts.take i) := (d3.kp (x12.weak (q := fun b => K b) fun b _ h => (hK b h).2).kp d4 fun b h => h.1).mono (Kp.refl _ _) fun b h => ⟨.inl h.1, h.2⟩
    have hbc : ∀ b, u.blk = some b → H.length < b ∧ b < H2.length ∧ b ≠ Hr.length := fun b e => ⟨by have := (ha2.blk_lt e).1; omega, (ha2.blk_lt e).2, (hK b (d4 b e)).2⟩
    clear e2
    simp (disch := (first | assumption | omega | (simp only [List.length_append, List.length_cons, List.length_nil]; omega))) only [↓wD,wU,Nat.reduceBEq,zx150,zx151,zx159,zx160,zx161,zx162,Nat.reduceAdd,Nat.reduceSub,Nat.reduceMul,Nat.reduceLeDiff,Nat.reduceLT,Nat.reduceEqDiff,Int.reduceAdd,Int.reduceSub,Int.reduceMul,Int.reduceNeg,Int.reduceLT,Int.reduceLE,Int.reduceEq,Int.reduceToNat,Int.cast_ofNat_Int,↓reduceIte, ld_of r1, hu2.cellsV]
    refine appX (ha2.pushL (by omega) (by omega) hu2 (fun b hb => ⟨⟨.inr hb, by have := (hKi b hb).1; omega⟩, fun e => (hKi b hb).2.2 (d4 b e)⟩) (by rw [List.length_take]; omega) fun u5 H5 hu5 hk5 hl5 hb5 x5 => ?_)
    have x25 : Kx (fun b => u.blk ≠ some b) H2 H5 := (Kx.app (fun b => u.blk ≠ some b) H2 _).trans x5 fun _ _ h => h
    have r5 := x25.get (b := H.length) (fun e => by have := hbc _ e; omega) r1
    have g5 := x25.get (b := Hr.length) (fun e => by have := hbc _ e; omega) gl
    have hst : st H.length H5 H.length 0 [u5] = some (H5.set H.length (.cells [u5])) := by rw [st_of r5 (Nat.le_refl _) (by simp)]; simp [wr]
    have hc5 := hu5.cellsV
    have l5 : H1.length < H5.length := by omega
    simp (disch := (first | assumption | omega | (simp only [List.length_append, List.length_cons, List.length_nil]; omega))) only [↓wD,wU,Nat.reduceBEq,zx150,zx151,zx159,zx160,zx161,zx162,Nat.reduceAdd,Nat.reduceSub,Nat.reduceMul,Nat.reduceLeDiff,Nat.reduceLT,Nat.reduceEqDiff,Int.reduceAdd,Int.reduceSub,Int.reduceMul,Int.reduceNeg,Int.reduceLT,Int.reduceLE,Int.reduceEq,Int.reduceToNat,Int.cast_ofNat_Int,↓reduceIte, hc5, hst]
    rw [show ts.take i ++ [ts[i]] = ts.take (i + 1) by rw [List.take_succ_eq_append_getElem hi]] at hu5
    refine ⟨?_, ?_, u5, get_set r5, .inl d2, ?_, ?_⟩
    · rw [List.getElem?_set_ne (by omega)]; exact g5
    · exact ((x12.weak fun b _ h => h.2).trans x25 fun b _ h e => h.1 (.inl (d4 b e))).set' (fun _ h => h.1 (.inl d2)) _
    · exact (hu5.kp (Kp.set _ _ _) (fun b e => by have := (hu5.blk_lt e).1; omega) fun b h => by omega).mono (Kp.refl _ _) fun b h => ⟨h.1.elim .inl fun h => .inr (.inl h), h.2⟩
    · intro b e
      rw [hb5] at e
      simp only [Option.some.injEq] at e
      exact .inr (.inr ⟨by omega, by rw [List.length_set]; omega⟩)
  · rintro K H1 ⟨u, d1, d2, d3, d4⟩ hx hl1
    rw [List.take_length] at d3
    simp (disch := (first | assumption | omega | (simp only [List.length_append, List.length_cons, List.length_nil]; omega))) only [↓wD,wU,Nat.reduceBEq,zx150,zx151,zx159,zx160,zx161,zx162,Nat.reduceAdd,Nat.reduceSub,Nat.reduceMul,Nat.reduceLeDiff,Nat.reduceLT,Nat.reduceEqDiff,Int.reduceAdd,Int.reduceSub,Int.reduceMul,Int.reduceNeg,Int.reduceLT,Int.reduceLE,Int.reduceEq,Int.reduceToNat,Int.cast_ofNat_Int,↓reduceIte, ld_of d1]
    exact rv_2 (d3.sl.weak fun b h => .inr (by omega)) rv_i
  · exact fun j K H' h _ _ => h.elim
theorem cols_le {t : List (List Int)} (h : TabOk t) : (colSums t).sum ≤ 16 := by
  have := cols_sum h
  have h2 := total_le h
  unfold is at this
  show ((List.range (gi t 0).length).map fun j => colPart t t.length j).sum ≤ 16
  omega
theorem fam_err {p : Nat → Prop} {H : Heap} {v : AV} {t : List (List Int)} (ht : Sl p H v t) (h : ¬ TabOk t) : RetP E 42 [v] H (.tp [.nils, .i 2]) := by
  refine RetP.ro rfl fn42 rfl rfl ?_
  unfold f42A
  have hv := valid_ret ht
  rw [decide_eq_false h] at hv
  simp (disch := (first | assumption | omega | (simp only [List.length_append, List.length_cons, List.length_nil]; omega))) only [↓wD,wU,Nat.reduceBEq,zx150,zx151,zx159,zx160,zx161,zx162,Nat.reduceAdd,Nat.reduceSub,Nat.reduceMul,Nat.reduceLeDiff,Nat.reduceLT,Nat.reduceEqDiff,Int.reduceAdd,Int.reduceSub,Int.reduceMul,Int.reduceNeg,Int.reduceLT,Int.reduceLE,Int.reduceEq,Int.reduceToNat,Int.cast_ofNat_Int,↓reduceIte, hv.call]
end Go.Proofs.Ytflekaacffdakaa
namespace Go.Proofs.Ytflekaacffdakaa
open Go Go.AM Go.Proofs
theorem lines_sum : ∀ {cs : List Int} {need : Int} {l : List Int}, 0 ≤ need → l ∈ lines cs need → l.sum = need
  | [], need, l, h0, h => by
    unfold lines at h
    split at h <;> simp at h
    subst h; simp; omega
  | c :: cs, need, l, h0, h => by
    unfold lines at h
    rw [List.mem_flatMap] at h
    obtain ⟨x, hx, h⟩ := h
    have := List.mem_range.1 hx
    obtain ⟨l', h1, rfl⟩ := List.mem_map.1 h
    rw [List.sum_cons, lines_sum (by omega) h1]
    omega
theorem lines_all : ∀ {cs l : List Int}, l.length = cs.length → (∀ x ∈ l, 0 ≤ x) → (∀ x ∈ subL cs l, 0 ≤ x) → l ∈ lines cs l.sum
  | [], [], _, _, _ => by simp [lines]
  | [], _ :: _, h, _, _ => by simp at h
  | _ :: _, [], h, _, _ => by simp at h
  | c :: cs, x :: l, h, h1, h2 => by
    have e : subL (c :: cs) (x :: l) = (c - x) :: subL cs l := rfl
    rw [e] at h2
    have hx := h1 x (by simp)
    have hc := h2 (c - x) (by simp)
    have hs := sum_nonneg fun y hy => h1 y (List.mem_cons_of_mem x hy)
    obtain ⟨x, rfl⟩ := nat_of hx
    unfold lines
    rw [List.mem_flatMap]
    refine ⟨x, List.mem_range.2 (by rw [List.sum_cons]; omega), List.mem_map.2 ⟨l, ?_, rfl⟩⟩
    rw [List.sum_cons, show (x : Int) + l.sum - x = l.sum by omega]
    exact lines_all (by simpa using h) (fun y hy => h1 y (by simp [hy])) (fun y hy => h2 y (by simp [hy]))
theorem tabsL_sums : ∀ {rs L : List Int} {t : List (List Int)}, (∀ r ∈ rs, 0 ≤ r) → t ∈ tabsL rs L → rowSums t = rs ∧ ∀ r ∈ t, r.length = L.length
  | [], L, t, _, h => by
    unfold tabsL at h
    split at h <;> simp at h
    subst h; simp [rowSums]
  | r :: rs, L, t, hr, h => by
    unfold tabsL at h
    rw [List.mem_flatMap] at h
    obtain ⟨l, hl, h⟩ := h
    obtain ⟨t', h1, rfl⟩ := List.mem_map.1 h
    obtain ⟨i1, i2⟩ := tabsL_sums (fun x hx => hr x (by simp [hx])) h1
    have hll := lines_mem hl
    rw [subL_len hll] at i2
    refine ⟨?_, fun q hq => ?_⟩
    · unfold rowSums at i1 ⊢
      rw [List.map_cons, i1, lines_sum (hr r (by simp)) hl]
    · rcases List.mem_cons.1 hq with rfl | hq
      · exact hll
      · exact i2 q hq
theorem colPart_cons {l : List Int} {t : List (List Int)} {j : Nat} : colPart (l :: t) (l :: t).length j = gi l (j : Int) + colPart t t.length j := by
  simp [colPart]
theorem tabsL_cols : ∀ {rs L : List Int} {t : List (List Int)}, (∀ r ∈ rs, 0 ≤ r ∧ r ≤ 16) → (∀ x ∈ L, 0 ≤ x ∧ x ≤ 16) → t ∈ tabsL rs L → ∀ j : Nat, j < L.length → colPart t t.length j = gi L (j : Int)
  | [], L, t, _, hL, h, j, hj => by
    unfold tabsL at h
    split at h <;> simp at h
    rename_i hm
    subst h
    have h1 := (maxL_spec (xs := L) (by omega)).2 _ (mem_gi hj)
    have h2 := hL _ (mem_gi hj)
    simp [colPart]
    omega
  | r :: rs, L, t, hr, hL, h, j, hj => by
    unfold tabsL at h
    rw [List.mem_flatMap] at h
    obtain ⟨l, hl, h⟩ := h
    obtain ⟨t', h1, rfl⟩ := List.mem_map.1 h
    have hr0 := hr r (by simp)
    have hll := lines_mem hl
    rw [colPart_cons, tabsL_cols (fun x hx => hr x (by simp [hx])) (lines_el hr0.1 hr0.2 hL hl).2 h1 j (by rw [subL_len hll]; exact hj), subL_gi hll hj]
    omega
theorem mem_idx {xs : List Int} {x : Int} (h : x ∈ xs) : ∃ j : Nat, j < xs.length ∧ gi xs (j : Int) = x := by
  obtain ⟨j, hj, rfl⟩ := List.mem_iff_getElem.1 h
  exact ⟨j, hj, gi_nat hj⟩
theorem colPart_ge : ∀ {t : List (List Int)} {m j : Nat}, (∀ r ∈ t, r.length = m ∧ ∀ x ∈ r, 0 ≤ x) → j < m → 0 ≤ colPart t t.length j
  | [], m, j, _, _ => by simp [colPart]
  | l :: t, m, j, h, hj => by
    rw [colPart_cons]
    have h1 := h l (by simp)
    have h2 := h1.2 _ (mem_gi (xs := l) (i := j) (by omega))
    have h3 := colPart_ge (t := t) (fun r hr => h r (by simp [hr])) hj
    omega
theorem tabsL_has : ∀ {t : List (List Int)} {L : List Int}, 1 ≤ L.length → (∀ r ∈ t, r.length = L.length ∧ ∀ x ∈ r, 0 ≤ x) → (∀ j : Nat, j < L.length → colPart t t.length j = gi L (j : Int)) → t ∈ tabsL (rowSums t) L
  | [], L, h1, _, hc => by
    have : ¬ maxL L > 0 := fun hm => by
      obtain ⟨j, hj, e⟩ := mem_idx (maxL_spec h1).1
      have := hc j hj
      simp [colPart] at this
      omega
    simp [rowSums, tabsL, this]
  | l :: t, L, h1, hr, hc => by
    have hl := hr l (by simp)
    have hs : ∀ j : Nat, j < L.length → gi (subL L l) (j : Int) = colPart t t.length j := fun j hj => by
      have := hc j hj
      rw [colPart_cons] at this
      rw [subL_gi hl.1 hj]; omega
    have hsl := subL_len hl.1
    have e : rowSums (l :: t) = l.sum :: rowSums t := rfl
    rw [e, tabsL, List.mem_flatMap]
    refine ⟨l, lines_all hl.1 hl.2 fun x hx => ?_, List.mem_map.2 ⟨t, tabsL_has (by omega) (fun r hr' => by rw [hsl]; exact hr r (by simp [hr'])) (fun j hj => by rw [hs j (by omega)]), rfl⟩⟩
    obtain ⟨j, hj, rfl⟩ := mem_idx hx
    rw [hs j (by omega)]
    exact colPart_ge (fun r hr' => hr r (by simp [hr'])) (by omega)
theorem family_has {t : List (List Int)} (h : TabOk t) : t ∈ tabsL (rowSums t) (colSums t) := by
  have hc := h.cols
  refine tabsL_has (by rw [colSums_len]; omega) (fun r hr => ?_) fun j hj => ?_
  · have := h.2.2.1 r hr
    exact ⟨by rw [colSums_len]; exact this.2.2.1, fun x hx => (this.2.2.2 x hx).1⟩
  · rw [colSums_len] at hj
    rw [colSums_at hj]
end Go.Proofs.Ytflekaacffdakaa
namespace Go.Proofs.Ytflekaacffdakaa
open Go Go.AM Go.Proofs
/-- how two tables compare -/
def cmpT : List (List Int) → List (List Int) → Int
  | [], [] => 0
  | [], _ :: _ => -1
  | _ :: _, [] => 1
  | x :: xs, y :: ys => if cmpL x y ≠ 0 then cmpL x y else cmpT xs ys
theorem cmpT_drop : ∀ {i : Nat} {xs ys : List (List Int)}, (∀ j, j < i → cmpL (gi xs (j : Int)) (gi ys (j : Int)) = 0) → i ≤ xs.length → i ≤ ys.length → cmpT xs ys = cmpT (xs.drop i) (ys.drop i)
  | 0, xs, ys, _, _, _ => by simp
  | i + 1, [], ys, _, h, _ => by simp at h
  | i + 1, x :: xs, [], _, _, h => by simp at h
  | i + 1, x :: xs, y :: ys, h, h1, h2 => by
    have h0 := h 0 (by omega)
    rw [gi_cons0, gi_cons0] at h0
    have e : cmpT (x :: xs) (y :: ys) = cmpT xs ys := by simp [cmpT, h0]
    rw [e, List.drop_succ_cons, List.drop_succ_cons]
    exact cmpT_drop (fun j hj => by have := h (j + 1) (by omega); rwa [gi_consS, gi_consS] at this) (by simpa using h1) (by simpa using h2)
end Go.Proofs.Ytflekaacffdakaa
namespace Go.Proofs.Ytflekaacffdakaa
open Go Go.AM Go.Proofs
theorem tabsL_el : ∀ {rs L : List Int} {t : List (List Int)}, (∀ r ∈ rs, 0 ≤ r ∧ r ≤ 16) → (∀ x ∈ L, 0 ≤ x ∧ x ≤ 16) → t ∈ tabsL rs L → ∀ r ∈ t, ∀ x ∈ r, 0 ≤ x ∧ x ≤ 16
  | [], L, t, _, _, h => by
    unfold tabsL at h
    split at h <;> simp at h
    subst h; simp
  | r :: rs, L, t, hr, hL, h => by
    unfold tabsL at h
    rw [List.mem_flatMap] at h
    obtain ⟨l, hl, h⟩ := h
    obtain ⟨t', h1, rfl⟩ := List.mem_map.1 h
    have hr0 := hr r (by simp)
    obtain ⟨e1, e2⟩ := lines_el hr0.1 hr0.2 hL hl
    intro q hq
    rcases List.mem_cons.1 hq with rfl | hq
    · exact e1
    · exact tabsL_el (fun x hx => hr x (by simp [hx])) e2 h1 q hq
theorem family_ok {t t' : List (List Int)} (h : TabOk t) (h' : t' ∈ tabsL (rowSums t) (colSums t)) : TabOk t' ∧ rowSums t' = rowSums t ∧ colSums t' = colSums t := by
  have hc := h.cols
  have m1 := mg_rows h
  have m2 := mg_cols h (cols_le h)
  obtain ⟨s1, s2⟩ := tabsL_sums (fun r hr => (m1.el r hr).1) h'
  have s3 := tabsL_el m1.el m2.el h'
  have s4 := tabsL_cols m1.el m2.el h'
  have s5 := tabsL_mem h'
  rw [rowSums_len] at s5
  have l1 := h.1
  have l2 := h.2.1
  have g0 : (gi t' 0).length = (gi t 0).length := by
    have := s2 _ (mem_gi (xs := t') (i := 0) (by omega))
    rwa [colSums_len] at this
  refine ⟨⟨by omega, by omega, fun r hr => ⟨?_, ?_, ?_, s3 r hr⟩, ?_⟩, s1, ?_⟩
  · rw [s2 r hr, colSums_len]; omega
  · rw [s2 r hr, colSums_len]; omega
  · rw [s2 r hr, colSums_len, g0]
  · have := total_le h
    rw [← s1] at this
    exact this
  · apply List.ext_getElem (by rw [colSums_len, colSums_len, g0])
    intro j j1 j2
    have e := s4 j j2
    rw [colSums_len] at j1 j2
    rw [← gi_nat, ← gi_nat, colSums_at j1, e]
end Go.Proofs.Ytflekaacffdakaa
namespace Go.Proofs.Ytflekaacffdakaa
open Go Go.AM Go.Proofs
theorem cmpL_lt {x y : Int} {xs ys : List Int} (h : x < y) : cmpL (x :: xs) (y :: ys) < 0 := by
  have : cmpI x y = -1 := by unfold cmpI; rw [if_pos h]
  simp [cmpL, this]
theorem cmpL_eq {x : Int} {xs ys : List Int} (h : cmpL xs ys < 0) : cmpL (x :: xs) (x :: ys) < 0 := by
  simpa [cmpL, cmpI] using h
theorem lines_order : ∀ {cs : List Int} {need : Int}, (lines cs need).Pairwise fun a b => cmpL a b < 0
  | [], need => by
    unfold lines
    split <;> simp
  | c :: cs, need => by
    unfold lines
    rw [List.pairwise_flatMap]
    refine ⟨fun x _ => ?_, List.pairwise_lt_range.imp fun {x y} hxy a ha b hb => ?_⟩
    · rw [List.pairwise_map]
      exact lines_order.imp fun h => cmpL_eq h
    · obtain ⟨a, _, rfl⟩ := List.mem_map.1 ha
      obtain ⟨b, _, rfl⟩ := List.mem_map.1 hb
      exact cmpL_lt (by omega)
theorem tabsL_order : ∀ {rs L : List Int}, (tabsL rs L).Pairwise fun a b => cmpT a b < 0
  | [], L => by
    unfold tabsL
    split <;> simp
  | r :: rs, L => by
    unfold tabsL
    rw [List.pairwise_flatMap]
    refine ⟨fun x _ => ?_, lines_order.imp fun {x y} hxy a ha b hb => ?_⟩
    · rw [List.pairwise_map]
      exact tabsL_order.imp fun h => by simpa [cmpT, cmpL_refl] using h
    · obtain ⟨a, _, rfl⟩ := List.mem_map.1 ha
      obtain ⟨b, _, rfl⟩ := List.mem_map.1 hb
      have : cmpL x y ≠ 0 := by omega
      simp only [cmpT, this, ne_eq, not_false_eq_true, if_true]
      exact hxy
end Go.Proofs.Ytflekaacffdakaa
namespace Go.Proofs.Ytflekaacffdakaa
open Go Go.AM Go.Proofs
theorem u64_idx {k : Int} {n : Nat} (h : 0 < n) (h1 : n ≤ 1000000000) : ∃ r : Nat, r < n ∧ IntKind.wrap .u64 (n : Int) = n ∧ (IntKind.wrap .u64 k).tmod n = r ∧ IntKind.wrap .i64 (r : Int) = r := by
  have h2 : 0 ≤ IntKind.wrap .u64 k := by
    have e1 : IntKind.u64.bits = 64 := rfl
    have e2 : IntKind.u64.signed = false := rfl
    simp only [IntKind.wrap, e1, e2, Bool.false_and, Bool.false_eq_true, if_false]
    exact Int.emod_nonneg _ (by decide)
  have h3 := Int.tmod_nonneg (n : Int) h2
  have h4 := Int.tmod_lt_of_pos (IntKind.wrap .u64 k) (show (0 : Int) < n by omega)
  obtain ⟨r, hr⟩ := Int.eq_ofNat_of_zero_le h3
  exact ⟨r, by omega, wrapU (by omega) (by omega), hr, zx172 (by omega) (by omega)⟩
theorem fam_few {t : List (List Int)} (h : TabOk t) : (tabsL (rowSums t) (colSums t)).length ≤ 24137569 := by
  have h1 := mg_rows h
  have h2 := mg_cols h (cols_le h)
  refine Nat.le_trans (tabsL_len2 h1.el h2.el h2.2.1) ?_
  have : 289 ^ (rowSums t).length ≤ 289 ^ 3 := Nat.pow_le_pow_right (by omega) h1.2.1
  omega
end Go.Proofs.Ytflekaacffdakaa
namespace Go.Proofs.Ytflekaacffdakaa
open Go Go.AM Go.Proofs
def bin : Nat → Nat → Nat
  | _, 0 => 1
  | 0, _ + 1 => 0
  | n + 1, k + 1 => bin n k + bin n (k + 1)
theorem bin_0 {n : Nat} : bin n 0 = 1 := by cases n <;> rfl
theorem bin_mul : ∀ {n k : Nat}, bin (n + 1) (k + 1) * (k + 1) = bin n k * (n + 1)
  | 0, 0 => rfl
  | 0, k + 1 => by simp [bin]
  | n + 1, 0 => by
    have h := bin_mul (n := n) (k := 0)
    rw [bin_0] at h ⊢
    have e : bin (n + 1 + 1) (0 + 1) = bin (n + 1) 0 + bin (n + 1) (0 + 1) := rfl
    rw [e, bin_0]
    omega
  | n + 1, k + 1 => by
    have h1 := bin_mul (n := n) (k := k)
    have h2 := bin_mul (n := n) (k := k + 1)
    have e : bin (n + 1 + 1) (k + 1 + 1) = bin (n + 1) (k + 1) + bin (n + 1) (k + 1 + 1) := rfl
    have e2 : bin (n + 1) (k + 1) = bin n k + bin n (k + 1) := rfl
    rw [e, Nat.add_mul, h2, Nat.mul_add (bin (n + 1) (k + 1)) (k + 1) 1, h1]
    conv => lhs; rw [e2]
    conv => rhs; rw [e2]
    grind
/-- in how many orders things come of which n stand before -/
def ordN : Nat → List Nat → Nat
  | _, [] => 1
  | n, k :: ks => bin (n + k) k * ordN (n + k) ks
def toN (xs : List Int) : List Nat := xs.map Int.toNat
def ordL (xs : List Int) : Nat := ordN 0 (toN xs)
theorem toN_sum : ∀ {xs : List Int}, (∀ x ∈ xs, 0 ≤ x) → ((toN xs).sum : Int) = xs.sum
  | [], _ => rfl
  | x :: xs, h => by
    have := toN_sum (xs := xs) fun y hy => h y (by simp [hy])
    have h0 := h x (by simp)
    unfold toN at this ⊢
    simp only [List.map_cons, List.sum_cons]
    omega
end Go.Proofs.Ytflekaacffdakaa
namespace Go.Proofs.Ytflekaacffdakaa
open Go Go.AM Go.Proofs
/-- in how many ways a table comes -/
def wayN : List (List Int) → Nat
  | [] => 1
  | r :: t => wayN t * ordL r
end Go.Proofs.Ytflekaacffdakaa
namespace Go.Proofs.Ytflekaacffdakaa
open Go Go.AM Go.Proofs
def chF (t : List (List Int)) : Int × Int := fracN (wayN t) (ordL (colSums t))
def tailN : List (List (List Int)) → Nat → Nat
  | [], _ => 0
  | u :: ts, w => tailN ts w + if wayN u ≤ w then wayN u else 0
def taF (t : List (List Int)) : Int × Int := fracN (tailN (tabsL (rowSums t) (colSums t)) (wayN t)) (ordL (colSums t))
end Go.Proofs.Ytflekaacffdakaa
namespace Go.Proofs.Ytflekaacffdakaa
open Go Go.AM Go.Proofs
def fac : Nat → Nat
  | 0 => 1
  | n + 1 => (n + 1) * fac n
theorem fac_pos : ∀ n, 0 < fac n
  | 0 => by simp [fac]
  | n + 1 => Nat.mul_pos (by omega) (fac_pos n)
theorem bin_fac : ∀ {a b : Nat}, bin (a + b) b * (fac a * fac b) = fac (a + b)
  | a, 0 => by rw [bin_0]; simp [fac]
  | a, b + 1 => by
    have h := bin_fac (a := a) (b := b)
    have m := bin_mul (n := a + b) (k := b)
    have e : fac (b + 1) = (b + 1) * fac b := rfl
    have e2 : fac (a + (b + 1)) = (a + b + 1) * fac (a + b) := rfl
    rw [e, e2, ← h, ← Nat.add_assoc]
    calc bin (a + b + 1) (b + 1) * (fac a * ((b + 1) * fac b)) = (bin (a + b + 1) (b + 1) * (b + 1)) * (fac a * fac b) := by grind
      _ = _ := by rw [m]; grind
def pfacN : List Nat → Nat
  | [] => 1
  | k :: ks => fac k * pfacN ks
theorem ordN_fac : ∀ {ks : List Nat} {n : Nat}, ordN n ks * (fac n * pfacN ks) = fac (n + ks.sum)
  | [], n => by simp [ordN, pfacN]
  | k :: ks, n => by
    have h := ordN_fac (ks := ks) (n := n + k)
    have b := bin_fac (a := n) (b := k)
    rw [List.sum_cons, ← Nat.add_assoc, ← h, ← b]
    show bin (n + k) k * ordN (n + k) ks * (fac n * (fac k * pfacN ks)) = _
    grind
theorem pfacN_pos : ∀ {ks : List Nat}, 0 < pfacN ks
  | [] => by simp [pfacN]
  | k :: ks => Nat.mul_pos (fac_pos k) pfacN_pos
theorem ordL_fac (xs : List Int) : ordL xs * pfacN (toN xs) = fac (toN xs).sum := by
  have := ordN_fac (ks := toN xs) (n := 0)
  rw [Nat.zero_add] at this
  rw [← this]
  show ordN 0 (toN xs) * _ = ordN 0 (toN xs) * (fac 0 * _)
  rw [show fac 0 = 1 from rfl, Nat.one_mul]
/-! ### Vandermonde -/
def lsum {α : Type} (f : α → Nat) : List α → Nat
  | [] => 0
  | x :: l => f x + lsum f l
theorem lsum_map {α β : Type} {f : β → Nat} {g : α → β} : ∀ {l : List α}, lsum f (l.map g) = lsum (fun x => f (g x)) l
  | [] => rfl
  | x :: l => by
    rw [List.map_cons]
    show f (g x) + lsum f (l.map g) = _
    rw [lsum_map]; rfl
theorem lsum_congr {α : Type} {f g : α → Nat} : ∀ {l : List α}, (∀ x ∈ l, f x = g x) → lsum f l = lsum g l
  | [], _ => rfl
  | x :: l, h => by
    show f x + lsum f l = g x + lsum g l
    rw [h x (by simp), lsum_congr fun y hy => h y (by simp [hy])]
theorem lsum_mul {α : Type} {f : α → Nat} {c : Nat} : ∀ {l : List α}, lsum (fun x => c * f x) l = c * lsum f l
  | [] => rfl
  | x :: l => by
    show c * f x + lsum (fun x => c * f x) l = c * (f x + lsum f l)
    rw [lsum_mul, Nat.mul_add]
end Go.Proofs.Ytflekaacffdakaa
namespace Go.Proofs.Ytflekaacffdakaa
open Go Go.AM Go.Proofs
theorem cmpT_refl : ∀ t : List (List Int), cmpT t t = 0
  | [] => rfl
  | r :: t => by simp [cmpT, cmpL_refl, cmpT_refl t]
theorem tabsL_one {r : Int} {L : List Int} (hr : 0 ≤ r ∧ r ≤ 16) (hL : ∀ x ∈ L, 0 ≤ x ∧ x ≤ 16) : (tabsL [r] L).length ≤ 1 := by
  rcases Nat.lt_or_ge 1 (tabsL [r] L).length with h | h
  · exfalso
    have hx : ∀ u ∈ tabsL [r] L, u = [L] := fun u hu => by
      have hc := tabsL_cols (by simpa using hr) hL hu
      obtain ⟨s1, s2⟩ := tabsL_sums (by simpa using hr.1) hu
      have hl := tabsL_mem hu
      simp at hl
      obtain ⟨l, rfl⟩ : ∃ l, u = [l] := by
        match u, hl with
        | [l], _ => exact ⟨l, rfl⟩
      congr 1
      have hll := s2 l (by simp)
      apply gi_ext hll
      intro j hj
      have := hc j (by omega)
      rw [← this]
      simp [colPart]
    have h1 := hx _ (List.getElem_mem (show 0 < (tabsL [r] L).length by omega))
    have h2 := hx _ (List.getElem_mem h)
    have := List.pairwise_iff_getElem.1 (tabsL_order (rs := [r]) (L := L)) 0 1 (by omega) h (by omega)
    rw [h1, h2, cmpT_refl] at this
    omega
  · exact h
theorem tabsL_len3 : ∀ {rs : List Int} {r : Int} {L : List Int}, (∀ x ∈ r :: rs, 0 ≤ x ∧ x ≤ 16) → (∀ x ∈ L, 0 ≤ x ∧ x ≤ 16) → L.length ≤ 3 → (tabsL (r :: rs) L).length ≤ 289 ^ rs.length
  | [], r, L, h, h', hl => tabsL_one (h r (by simp)) h'
  | r' :: rs, r, L, h, h', hl => by
    have hr := h r (by simp)
    have e : tabsL (r :: r' :: rs) L = (lines L r).flatMap fun l => (tabsL (r' :: rs) (subL L l)).map (l :: ·) := rfl
    rw [e]
    refine Nat.le_trans (flatMap_len (b := 289 ^ rs.length) fun x hx => ?_) ?_
    · rw [List.length_map]
      exact tabsL_len3 (fun r hr => h r (by simp only [List.mem_cons] at hr ⊢; exact .inr hr)) (lines_el hr.1 hr.2 h' hx).2 (by rw [subL_len (lines_mem hx)]; exact hl)
    · rw [List.length_cons, Nat.pow_succ, Nat.mul_comm]
      refine Nat.mul_le_mul_left _ (Nat.le_trans (lines_len2 hr.1 hr.2 h') ?_)
      have : 17 ^ (L.length - 1) ≤ 17 ^ 2 := Nat.pow_le_pow_right (by omega) (by omega)
      omega
theorem fam_100k {t : List (List Int)} (h : TabOk t) : (tabsL (rowSums t) (colSums t)).length ≤ 83521 := by
  have h1 := mg_rows h
  have h2 := mg_cols h (cols_le h)
  have hl := h1.1
  have hl3 := h1.2.1
  have he := h1.el
  generalize rowSums t = rs at *
  match rs, hl with
  | r :: rs, _ =>
    refine Nat.le_trans (tabsL_len3 he h2.el h2.2.1) ?_
    have : 289 ^ rs.length ≤ 289 ^ 2 := Nat.pow_le_pow_right (by omega) (by simpa using hl3)
    omega
end Go.Proofs.Ytflekaacffdakaa
namespace Go.Proofs.Ytflekaacffdakaa
open Go Go.AM Go.Proofs
abbrev Tab := List (List Int)
abbrev famT (t : Tab) : List Tab := tabsL (rowSums t) (colSums t)
theorem frac_prop {A D A' D' R R' : Nat} (hR : 0 < R) (hR' : 0 < R') (h1 : A * R' = A' * R) (h2 : D * R' = D' * R) : fracN A D = fracN A' D' := by
  rw [← fracN_scale (m := A) (n := D) hR', ← fracN_scale (m := A') (n := D') hR, Nat.mul_comm R' A, Nat.mul_comm R' D, h1, h2, Nat.mul_comm A' R, Nat.mul_comm D' R]
def ceT : Tab → Nat
  | [] => 1
  | r :: t => pfacN (toN r) * ceT t
theorem toN_sum' {xs : List Int} (h : ∀ x ∈ xs, 0 ≤ x) : (toN xs).sum = xs.sum.toNat := by
  have := toN_sum h
  omega
theorem way_ce : ∀ {t : Tab}, (∀ r ∈ t, ∀ x ∈ r, 0 ≤ x) → wayN t * ceT t = pfacN (toN (rowSums t))
  | [], _ => rfl
  | r :: t, h => by
    have ih := way_ce (t := t) fun r hr => h r (by simp [hr])
    have hr := ordL_fac r
    rw [toN_sum' (h r (by simp))] at hr
    have e : pfacN (toN (rowSums (r :: t))) = fac r.sum.toNat * pfacN (toN (rowSums t)) := rfl
    rw [e, ← ih, ← hr]
    simp only [wayN, ceT]
    grind
def rP (t : Tab) : Nat := pfacN (toN (rowSums t))
def cP (t : Tab) : Nat := pfacN (toN (colSums t))
/-- a symmetry of t's family -/
structure Sym (t u : Tab) (φ ψ : Tab → Tab) : Prop where
  ok : TabOk t
  ok' : TabOk u
  it : φ t = u
  fam : ∀ s, s ∈ famT t → φ s ∈ famT u
  fam' : ∀ s, s ∈ famT u → ψ s ∈ famT t
  inv : ∀ s, s ∈ famT t → ψ (φ s) = s
  inv' : ∀ s, s ∈ famT u → φ (ψ s) = s
  ce : ∀ s, s ∈ famT t → ceT (φ s) = ceT s
  rc : rP u * cP u = rP t * cP t
  nn : (toN (colSums u)).sum = (toN (colSums t)).sum
theorem fam_way {t s : Tab} (h : TabOk t) (hs : s ∈ famT t) : wayN s * ceT s = rP t := by
  obtain ⟨h1, h2, h3⟩ := family_ok h hs
  unfold rP
  rw [← h2]
  exact way_ce fun r hr x hx => ((h1.2.2.1 r hr).2.2.2 x hx).1
theorem lsum_erase {α : Type} [BEq α] [LawfulBEq α] {f : α → Nat} {x : α} : ∀ {l : List α}, x ∈ l → lsum f l = f x + lsum f (l.erase x)
  | y :: l, h => by
    by_cases e : y = x
    · subst e; simp [lsum]
    · rcases List.mem_cons.1 h with rfl | h
      · exact absurd rfl e
      · have ih := lsum_erase (f := f) h
        rw [List.erase_cons_tail (by simpa using e)]
        simp only [lsum, ih]
        omega
theorem lsum_sub {α : Type} [BEq α] [LawfulBEq α] {f : α → Nat} : ∀ {l l' : List α}, l.Nodup → (∀ x ∈ l, x ∈ l') → lsum f l ≤ lsum f l'
  | [], _, _, _ => Nat.zero_le _
  | x :: l, l', hn, hs => by
    have hx := hs x (by simp)
    have h1 := lsum_sub (f := f) (l' := l'.erase x) (List.nodup_cons.1 hn).2 fun y hy => by
      have hne : y ≠ x := fun e => (List.nodup_cons.1 hn).1 (e ▸ hy)
      exact (List.mem_erase_of_ne hne).2 (hs y (by simp [hy]))
    rw [lsum_erase hx]
    simp only [lsum]
    omega
theorem fam_nodup {t : Tab} : (famT t).Nodup := (tabsL_order (rs := rowSums t) (L := colSums t)).imp fun {a b} h e => by
  rw [e, cmpT_refl] at h
  omega
theorem tailN_lsum {w : Nat} : ∀ {ts : List Tab}, tailN ts w = lsum (fun s => if wayN s ≤ w then wayN s else 0) ts
  | [] => rfl
  | s :: ts => by
    have := tailN_lsum (w := w) (ts := ts)
    simp only [tailN, lsum, this]
    omega
theorem lsum_mul' {α : Type} {f : α → Nat} {c : Nat} {l : List α} : lsum f l * c = lsum (fun x => f x * c) l := by
  rw [Nat.mul_comm, ← lsum_mul]
  exact lsum_congr fun x _ => Nat.mul_comm _ _
section
variable {t u : Tab} {φ ψ : Tab → Tab}
theorem Sym.bij (h : Sym t u φ ψ) (f : Tab → Nat) : lsum f (famT u) = lsum (fun s => f (φ s)) (famT t) := by
  have e := lsum_map (f := f) (g := φ) (l := famT t)
  rw [← e]
  apply Nat.le_antisymm
  · refine lsum_sub fam_nodup fun s hs => List.mem_map.2 ⟨ψ s, h.fam' s hs, h.inv' s hs⟩
  · refine lsum_sub ?_ fun s hs => ?_
    · rw [List.nodup_iff_pairwise_ne, List.pairwise_map]
      refine (List.nodup_iff_pairwise_ne.1 fam_nodup).imp_of_mem fun {a b} ha hb hne e => hne ?_
      rw [← h.inv a ha, e, h.inv b hb]
    · obtain ⟨a, ha, rfl⟩ := List.mem_map.1 hs
      exact h.fam a ha
theorem Sym.way (h : Sym t u φ ψ) {s : Tab} (hs : s ∈ famT t) : wayN (φ s) * rP t = wayN s * rP u := by
  have h1 := fam_way h.ok hs
  have h2 := fam_way h.ok' (h.fam s hs)
  rw [h.ce s hs] at h2
  rw [← h1, ← h2]
  grind
theorem rP_pos {t : Tab} : 0 < rP t := pfacN_pos
theorem Sym.den (h : Sym t u φ ψ) : ordL (colSums u) * rP t = ordL (colSums t) * rP u := by
  have h1 := ordL_fac (colSums u)
  have h2 := ordL_fac (colSums t)
  rw [h.nn, ← h2] at h1
  change ordL (colSums u) * cP u = ordL (colSums t) * cP t at h1
  have h3 := h.rc
  have hp : 0 < cP t := pfacN_pos
  have hp' : 0 < cP u := pfacN_pos
  apply Nat.eq_of_mul_eq_mul_right hp
  calc ordL (colSums u) * rP t * cP t = ordL (colSums u) * (rP t * cP t) := Nat.mul_assoc _ _ _
    _ = ordL (colSums u) * (rP u * cP u) := by rw [h3]
    _ = ordL (colSums u) * cP u * rP u := by rw [Nat.mul_comm (rP u), ← Nat.mul_assoc]
    _ = ordL (colSums t) * cP t * rP u := by rw [h1]
    _ = ordL (colSums t) * rP u * cP t := by rw [Nat.mul_assoc, Nat.mul_comm (cP t), ← Nat.mul_assoc]
theorem Sym.chance (h : Sym t u φ ψ) : chF u = chF t := by
  unfold chF
  have := h.way (family_has h.ok)
  rw [h.it] at this
  exact frac_prop rP_pos rP_pos this h.den
theorem Sym.tail (h : Sym t u φ ψ) : taF u = taF t := by
  unfold taF
  refine frac_prop (R := rP u) (R' := rP t) rP_pos rP_pos ?_ h.den
  have ht := h.way (family_has h.ok)
  rw [h.it] at ht
  rw [tailN_lsum, tailN_lsum]
  change lsum _ (famT u) * rP t = lsum _ (famT t) * rP u
  rw [h.bij, lsum_mul', lsum_mul']
  refine lsum_congr fun s hs => ?_
  have hw := h.way hs
  have hiff : wayN (φ s) ≤ wayN u ↔ wayN s ≤ wayN t := by
    constructor
    · intro q
      have := Nat.mul_le_mul_right (rP t) q
      rw [hw, ht] at this
      exact Nat.le_of_mul_le_mul_right this rP_pos
    · intro q
      have := Nat.mul_le_mul_right (rP u) q
      rw [← hw, ← ht] at this
      exact Nat.le_of_mul_le_mul_right this rP_pos
  by_cases q : wayN s ≤ wayN t
  · simp only [if_pos q, if_pos (hiff.2 q)]; exact hw
  · simp only [if_neg q, if_neg fun z => q (hiff.1 z), Nat.zero_mul]
end
end Go.Proofs.Ytflekaacffdakaa
namespace Go.Proofs.Ytflekaacffdakaa
open Go Go.AM Go.Proofs
theorem fam_of {s u : Tab} (h : TabOk s) (h1 : rowSums s = rowSums u) (h2 : colSums s = colSums u) : s ∈ famT u := by
  have := family_has h
  rwa [h1, h2] at this
/-- of the same chance, tail, distance -/
structure Tw6 (t u : Tab) : Prop where
  ok : TabOk u
  ch : chF u = chF t
  ta : taF u = taF t
  fu : Full u ↔ Full t
  of : fracN (offP u u.length) (allN u) = fracN (offP t t.length) (allN t)
theorem Tw6.trans {t u v : Tab} (h : Tw6 t u) (h' : Tw6 u v) : Tw6 t v := ⟨h'.ok, h'.ch.trans h.ch, h'.ta.trans h.ta, h'.fu.trans h.fu, h'.of.trans h.of⟩
end Go.Proofs.Ytflekaacffdakaa
namespace Go.Proofs.Ytflekaacffdakaa
open Go Go.AM Go.Proofs
def swapS (t : List (List Int)) (i j k l : Int) : List (List Int) :=
  setE (setE (setE (setE t i k (getE t i k + 1)) j l (getE t j l + 1)) i l (getE t i l - 1)) j k (getE t j k - 1)
theorem TabOk.dims {t : List (List Int)} (h : TabOk t) : Dims t t.length (gi t 0).length :=
  ⟨rfl, fun i h0 h1 => by obtain ⟨n, rfl⟩ := nat_of h0; exact h.width (by omega)⟩
theorem TabOk.getE {t : List (List Int)} (h : TabOk t) {i k : Int} (h0 : 0 ≤ i) (h1 : i < t.length) (h2 : 0 ≤ k) (h3 : k < (gi t 0).length) : 0 ≤ getE t i k ∧ getE t i k ≤ 16 := by
  obtain ⟨n, rfl⟩ := nat_of h0
  obtain ⟨m, rfl⟩ := nat_of h2
  exact h.entry (by omega) (by omega)
/-- the four stores of a swap -/
theorem swap_loads {t : List (List Int)} {i j k l : Int} (h : TabOk t) (hp : PlaceOk t i j k l) :
    getE (setE t i k (getE t i k + 1)) j l = getE t j l ∧ getE (setE (setE t i k (getE t i k + 1)) j l (getE t j l + 1)) i l = getE t i l ∧
    getE (setE (setE (setE t i k (getE t i k + 1)) j l (getE t j l + 1)) i l (getE t i l - 1)) j k = getE t j k := by
  obtain ⟨a1, a2, a3, a4, a5, a6, a7, a8, a9, a10⟩ := hp
  have d0 := h.dims
  have d1 := d0.setE (i := i) (k := k) (x := getE t i k + 1) a1 a2
  have d2 := d1.setE (i := j) (k := l) (x := getE t j l + 1) a3 a4
  refine ⟨?_, ?_, ?_⟩
  · rw [getE_setE d0 a1 a2 a6 a7 a3 a8, if_neg (fun h => a5 h.1)]
  · rw [getE_setE d1 a3 a4 a8 a9 a1 a8, if_neg (fun h => a5 h.1.symm), getE_setE d0 a1 a2 a6 a7 a1 a8, if_neg (fun h => a10 h.2)]
  · rw [getE_setE d2 a1 a2 a8 a9 a3 a6, if_neg (fun h => a5 h.1), getE_setE d1 a3 a4 a8 a9 a3 a6, if_neg (fun h => a10 h.2.symm), getE_setE d0 a1 a2 a6 a7 a3 a6, if_neg (fun h => a5 h.1)]
theorem swapped_no {p : Nat → Prop} {H : Heap} {v : AV} {t : List (List Int)} {i j k l : Int} (ht : Sl p H v t) (h : TabOk t) (hp : PlaceOk t i j k l) (hz : getE t i l = 0 ∨ getE t j k = 0) :
    RetP E 74 [v, .i i, .i j, .i k, .i l] H (.tp [.nils, .b false]) := by
  refine RetP.ro rfl fn74 rfl rfl ?_
  unfold f74A
  have d0 := h.dims
  obtain ⟨a1, a2, a3, a4, a5, a6, a7, a8, a9, a10⟩ := hp
  have gA := ht.get (k := i) a1 a2
  have gB := ht.get (k := j) a3 a4
  have wA := d0.2 i a1 a2
  have wB := d0.2 j a3 a4
  unfold getE at hz
  (repeat' (first | refine condP_split (fun _ => ?_) (fun _ => ?_) | refine guardP_split (fun _ => ?_) (fun _ => ?_) | refine guardP_splitF (fun _ => ?_) (fun _ => ?_) | (simp (disch := (first | assumption | omega | (simp only [List.length_append, List.length_cons, List.length_nil]; omega))) only [↓wD,wU,Nat.reduceBEq,zx150,zx151,zx159,zx160,zx161,zx162,Nat.reduceAdd,Nat.reduceSub,Nat.reduceMul,Nat.reduceLeDiff,Nat.reduceLT,Nat.reduceEqDiff,Int.reduceAdd,Int.reduceSub,Int.reduceMul,Int.reduceNeg,Int.reduceLT,Int.reduceLE,Int.reduceEq,Int.reduceToNat,Int.cast_ofNat_Int,↓reduceIte, *, ht.L, gA.I, gB.I]))) <;> omega
theorem swapped_ret {p : Nat → Prop} {H : Heap} {v : AV} {t : List (List Int)} {i j k l : Int} (ht : Sl p H v t) (h : TabOk t) (hp : PlaceOk t i j k l) (hz : ¬ (getE t i l = 0 ∨ getE t j k = 0)) :
    Ret E 74 [v, .i i, .i j, .i k, .i l] (fun _ => False) H (T2.mk (OT.mk (swapS t i j k l)) true) := by
  refine Ret.ro rfl fn74 rfl ?_
  unfold f74A
  have d0 := h.dims
  obtain ⟨l1, l2, l3⟩ := swap_loads h hp
  have hp' := hp
  obtain ⟨a1, a2, a3, a4, a5, a6, a7, a8, a9, a10⟩ := hp
  have gA := ht.get (k := i) a1 a2
  have gB := ht.get (k := j) a3 a4
  have wA := d0.2 i a1 a2
  have wB := d0.2 j a3 a4
  have b1 := h.getE a1 a2 a6 a7
  have b2 := h.getE a3 a4 a8 a9
  have b3 := h.getE a1 a2 a8 a9
  have b4 := h.getE a3 a4 a6 a7
  have hl3 := h.2.1
  have z1 : ¬ gi (gi t i) l = 0 := fun e => hz (.inl e)
  have z2 : ¬ gi (gi t j) k = 0 := fun e => hz (.inr e)
  simp (disch := (first | assumption | omega | (simp only [List.length_append, List.length_cons, List.length_nil]; omega))) only [↓wD,wU,Nat.reduceBEq,zx150,zx151,zx159,zx160,zx161,zx162,Nat.reduceAdd,Nat.reduceSub,Nat.reduceMul,Nat.reduceLeDiff,Nat.reduceLT,Nat.reduceEqDiff,Int.reduceAdd,Int.reduceSub,Int.reduceMul,Int.reduceNeg,Int.reduceLT,Int.reduceLE,Int.reduceEq,Int.reduceToNat,Int.cast_ofNat_Int,↓reduceIte, *, ht.L, gA.I, gB.I]
  refine (tclone_ret ht h.ne (by omega)).to fun u H1 hg1 hu => ?_
  have m0 : MT H.length H1 u t := MT.of hu fun b hb => hb.elim (fun h => h.elim) id
  have hl1 := hg1.1
  clear hu
  have r0 := m0.sl.get (k := i) a1 a2
  have e0 : gi (gi t i) k = getE t i k := rfl
  simp (disch := (first | assumption | omega | (simp only [List.length_append, List.length_cons, List.length_nil]; omega))) only [↓wD,wU,Nat.reduceBEq,zx150,zx151,zx159,zx160,zx161,zx162,Nat.reduceAdd,Nat.reduceSub,Nat.reduceMul,Nat.reduceLeDiff,Nat.reduceLT,Nat.reduceEqDiff,Int.reduceAdd,Int.reduceSub,Int.reduceMul,Int.reduceNeg,Int.reduceLT,Int.reduceLE,Int.reduceEq,Int.reduceToNat,Int.cast_ofNat_Int,↓reduceIte, *, m0.sl.L, r0.I]
  refine m0.store (Nat.le_refl _) a1 a2 a6 (by omega) fun H2 m1 hk1 hl2 => ?_
  change MT H.length H2 u (setE t i k (getE t i k + 1)) at m1
  have d1 := d0.setE (i := i) (k := k) (x := getE t i k + 1) a1 a2
  have t1 := d1.1
  have w1 := d1.2 j a3 a4
  have r1 := m1.sl.get (k := j) a3 (by omega)
  have e1 : gi (gi (setE t i k (getE t i k + 1)) j) l = getE t j l := l1
  simp (disch := (first | assumption | omega | (simp only [List.length_append, List.length_cons, List.length_nil]; omega))) only [↓wD,wU,Nat.reduceBEq,zx150,zx151,zx159,zx160,zx161,zx162,Nat.reduceAdd,Nat.reduceSub,Nat.reduceMul,Nat.reduceLeDiff,Nat.reduceLT,Nat.reduceEqDiff,Int.reduceAdd,Int.reduceSub,Int.reduceMul,Int.reduceNeg,Int.reduceLT,Int.reduceLE,Int.reduceEq,Int.reduceToNat,Int.cast_ofNat_Int,↓reduceIte, *, m1.sl.L, r1.I]
  refine m1.store (Nat.le_refl _) a3 (by omega) a8 (by omega) fun H3 m2 hk2 hl3' => ?_
  change MT H.length H3 u (setE (setE t i k (getE t i k + 1)) j l (getE t j l + 1)) at m2
  have d2 := d1.setE (i := j) (k := l) (x := getE t j l + 1) a3 a4
  have t2 := d2.1
  have w2 := d2.2 i a1 a2
  have r2 := m2.sl.get (k := i) a1 (by omega)
  have e2 : gi (gi (setE (setE t i k (getE t i k + 1)) j l (getE t j l + 1)) i) l = getE t i l := l2
  simp (disch := (first | assumption | omega | (simp only [List.length_append, List.length_cons, List.length_nil]; omega))) only [↓wD,wU,Nat.reduceBEq,zx150,zx151,zx159,zx160,zx161,zx162,Nat.reduceAdd,Nat.reduceSub,Nat.reduceMul,Nat.reduceLeDiff,Nat.reduceLT,Nat.reduceEqDiff,Int.reduceAdd,Int.reduceSub,Int.reduceMul,Int.reduceNeg,Int.reduceLT,Int.reduceLE,Int.reduceEq,Int.reduceToNat,Int.cast_ofNat_Int,↓reduceIte, *, m2.sl.L, r2.I]
  refine m2.store (Nat.le_refl _) a1 (by omega) a8 (by omega) fun H4 m3 hk3 hl4 => ?_
  change MT H.length H4 u (setE (setE (setE t i k (getE t i k + 1)) j l (getE t j l + 1)) i l (getE t i l - 1)) at m3
  have d3 := d2.setE (i := i) (k := l) (x := getE t i l - 1) a1 a2
  have t3 := d3.1
  have w3 := d3.2 j a3 a4
  have r3 := m3.sl.get (k := j) a3 (by omega)
  have e3 : gi (gi (setE (setE (setE t i k (getE t i k + 1)) j l (getE t j l + 1)) i l (getE t i l - 1)) j) k = getE t j k := l3
  simp (disch := (first | assumption | omega | (simp only [List.length_append, List.length_cons, List.length_nil]; omega))) only [↓wD,wU,Nat.reduceBEq,zx150,zx151,zx159,zx160,zx161,zx162,Nat.reduceAdd,Nat.reduceSub,Nat.reduceMul,Nat.reduceLeDiff,Nat.reduceLT,Nat.reduceEqDiff,Int.reduceAdd,Int.reduceSub,Int.reduceMul,Int.reduceNeg,Int.reduceLT,Int.reduceLE,Int.reduceEq,Int.reduceToNat,Int.cast_ofNat_Int,↓reduceIte, *, m3.sl.L, r3.I]
  refine m3.store (Nat.le_refl _) a3 (by omega) a6 (by omega) fun H5 m4 hk4 hl5 => ?_
  simp (disch := (first | assumption | omega | (simp only [List.length_append, List.length_cons, List.length_nil]; omega))) only [↓wD,wU,Nat.reduceBEq,zx150,zx151,zx159,zx160,zx161,zx162,Nat.reduceAdd,Nat.reduceSub,Nat.reduceMul,Nat.reduceLeDiff,Nat.reduceLT,Nat.reduceEqDiff,Int.reduceAdd,Int.reduceSub,Int.reduceMul,Int.reduceNeg,Int.reduceLT,Int.reduceLE,Int.reduceEq,Int.reduceToNat,Int.cast_ofNat_Int,↓reduceIte, *]
  exact rv_2 (m4.rv fun b hb => .inr hb) rfl
end Go.Proofs.Ytflekaacffdakaa
namespace Go.Proofs.Ytflekaacffdakaa
open Go Go.AM Go.Proofs
theorem swap_err {p : Nat → Prop} {H : Heap} {v : AV} {t : List (List Int)} {i j k l : Int} (ht : Sl p H v t) (h : ¬ (TabOk t ∧ PlaceOk t i j k l)) :
    RetP E 32 [v, .i i, .i j, .i k, .i l] H (.tp [.nils, .i 2]) := by
  refine RetP.ro rfl fn32 rfl rfl ?_
  unfold f32A
  by_cases h1 : TabOk t
  · have h2 : ¬ PlaceOk t i j k l := fun h2 => h ⟨h1, h2⟩
    clear h
    unfold PlaceOk at h2
    have g0 := ht.get (k := (0 : Int)) (by omega) (by have := h1.1; omega)
    (repeat' (first | refine condP_split (fun _ => ?_) (fun _ => ?_) | refine guardP_split (fun _ => ?_) (fun _ => ?_) | refine guardP_splitF (fun _ => ?_) (fun _ => ?_) | (simp (disch := (first | assumption | omega | (simp only [List.length_append, List.length_cons, List.length_nil]; omega))) only [↓wD,wU,Nat.reduceBEq,zx150,zx151,zx159,zx160,zx161,zx162,Nat.reduceAdd,Nat.reduceSub,Nat.reduceMul,Nat.reduceLeDiff,Nat.reduceLT,Nat.reduceEqDiff,Int.reduceAdd,Int.reduceSub,Int.reduceMul,Int.reduceNeg,Int.reduceLT,Int.reduceLE,Int.reduceEq,Int.reduceToNat,Int.cast_ofNat_Int,↓reduceIte, *, (valid_ret ht).call, ht.L, g0.I]))) <;> omega
  · clear h
    simp (disch := (first | assumption | omega | (simp only [List.length_append, List.length_cons, List.length_nil]; omega))) only [↓wD,wU,Nat.reduceBEq,zx150,zx151,zx159,zx160,zx161,zx162,Nat.reduceAdd,Nat.reduceSub,Nat.reduceMul,Nat.reduceLeDiff,Nat.reduceLT,Nat.reduceEqDiff,Int.reduceAdd,Int.reduceSub,Int.reduceMul,Int.reduceNeg,Int.reduceLT,Int.reduceLE,Int.reduceEq,Int.reduceToNat,Int.cast_ofNat_Int,↓reduceIte, *, (valid_ret ht).call]
theorem swap_none {p : Nat → Prop} {H : Heap} {v : AV} {t : List (List Int)} {i j k l : Int} (ht : Sl p H v t) (h : TabOk t) (hp : PlaceOk t i j k l) (hz : getE t i l = 0 ∨ getE t j k = 0) :
    RetP E 32 [v, .i i, .i j, .i k, .i l] H (.tp [.nils, .i 4]) := by
  refine RetP.ro rfl fn32 rfl rfl ?_
  unfold f32A
  have hp' := hp
  obtain ⟨a1, a2, a3, a4, a5, a6, a7, a8, a9, a10⟩ := hp
  have g0 := ht.get (k := (0 : Int)) (by omega) (by have := h.1; omega)
  have s := swapped_no ht h hp' hz
  clear hz hp'
  simp (disch := (first | assumption | omega | (simp only [List.length_append, List.length_cons, List.length_nil]; omega))) only [↓wD,wU,Nat.reduceBEq,zx150,zx151,zx159,zx160,zx161,zx162,Nat.reduceAdd,Nat.reduceSub,Nat.reduceMul,Nat.reduceLeDiff,Nat.reduceLT,Nat.reduceEqDiff,Int.reduceAdd,Int.reduceSub,Int.reduceMul,Int.reduceNeg,Int.reduceLT,Int.reduceLE,Int.reduceEq,Int.reduceToNat,Int.cast_ofNat_Int,↓reduceIte, *, (valid_ret ht).call, ht.L, g0.I, s.call]
theorem swap_ret {p : Nat → Prop} {H : Heap} {v : AV} {t : List (List Int)} {i j k l : Int} (ht : Sl p H v t) (h : TabOk t) (hp : PlaceOk t i j k l) (hz : ¬ (getE t i l = 0 ∨ getE t j k = 0)) :
    Ret E 32 [v, .i i, .i j, .i k, .i l] (fun _ => False) H (T2.mk (swapS t i j k l) (0 : Int)) := by
  refine Ret.ro rfl fn32 rfl ?_
  unfold f32A
  have hp' := hp
  obtain ⟨a1, a2, a3, a4, a5, a6, a7, a8, a9, a10⟩ := hp
  have g0 := ht.get (k := (0 : Int)) (by omega) (by have := h.1; omega)
  have s := swapped_ret ht h hp' hz
  clear hz hp'
  simp (disch := (first | assumption | omega | (simp only [List.length_append, List.length_cons, List.length_nil]; omega))) only [↓wD,wU,Nat.reduceBEq,zx150,zx151,zx159,zx160,zx161,zx162,Nat.reduceAdd,Nat.reduceSub,Nat.reduceMul,Nat.reduceLeDiff,Nat.reduceLT,Nat.reduceEqDiff,Int.reduceAdd,Int.reduceSub,Int.reduceMul,Int.reduceNeg,Int.reduceLT,Int.reduceLE,Int.reduceEq,Int.reduceToNat,Int.cast_ofNat_Int,↓reduceIte, *, (valid_ret ht).call, ht.L, g0.I]
  refine s.to fun w H1 hg1 hw => ?_
  obtain ⟨v1, v2, rfl, h1, rfl⟩ := rv2 hw
  have m : MT H.length H1 v1 (swapS t i j k l) := MT.of h1 fun b hb => hb.elim (fun h => h.elim) id
  clear h1 hw s
  simp (disch := (first | assumption | omega | (simp only [List.length_append, List.length_cons, List.length_nil]; omega))) only [↓wD,wU,Nat.reduceBEq,zx150,zx151,zx159,zx160,zx161,zx162,Nat.reduceAdd,Nat.reduceSub,Nat.reduceMul,Nat.reduceLeDiff,Nat.reduceLT,Nat.reduceEqDiff,Int.reduceAdd,Int.reduceSub,Int.reduceMul,Int.reduceNeg,Int.reduceLT,Int.reduceLE,Int.reduceEq,Int.reduceToNat,Int.cast_ofNat_Int,↓reduceIte, *]
  exact rv_2 (m.sl.weak fun b hb => .inr hb) rv_i
end Go.Proofs.Ytflekaacffdakaa
namespace Go.Proofs.Ytflekaacffdakaa
open Go Go.AM Go.Proofs
/-- the table behind a swap, if there is one -/
def oneS (t : Tab) (i j k l : Nat) : List Tab := if i ≠ j ∧ k ≠ l ∧ getE t i l ≠ 0 ∧ getE t j k ≠ 0 then [swapS t i j k l] else []
def nlD (t : Tab) (i j k n : Nat) : List Tab := (List.range n).flatMap fun l => oneS t i j k l
def nlC (t : Tab) (i j m n : Nat) : List Tab := (List.range n).flatMap fun k => nlD t i j k m
def nlB (t : Tab) (i m n : Nat) : List Tab := (List.range n).flatMap fun j => nlC t i j m m
def nlA (t : Tab) (r m n : Nat) : List Tab := (List.range n).flatMap fun i => nlB t i m r
/-- all tables that are a swap away -/
def nearL (t : Tab) : List Tab := nlA t t.length (gi t 0).length t.length
theorem nlD_s {t : Tab} {i j k n : Nat} : nlD t i j k (n + 1) = nlD t i j k n ++ oneS t i j k n := by simp [nlD, List.range_succ]
theorem nlC_s {t : Tab} {i j m n : Nat} : nlC t i j m (n + 1) = nlC t i j m n ++ nlD t i j n m := by simp [nlC, List.range_succ]
theorem nlB_s {t : Tab} {i m n : Nat} : nlB t i m (n + 1) = nlB t i m n ++ nlC t i n m m := by simp [nlB, List.range_succ]
theorem nlA_s {t : Tab} {r m n : Nat} : nlA t r m (n + 1) = nlA t r m n ++ nlB t n m r := by simp [nlA, List.range_succ]
theorem flat_len {α : Type} {f : Nat → List α} {c : Nat} (h : ∀ i, (f i).length ≤ c) : ∀ n, ((List.range n).flatMap f).length ≤ n * c
  | 0 => by simp
  | n + 1 => by
    have h1 := flat_len h n
    have h2 := h n
    rw [List.range_succ, List.flatMap_append, List.length_append, Nat.succ_mul]
    exact Nat.add_le_add h1 (by simpa using h2)
theorem oneS_len {t : Tab} {i j k l : Nat} : (oneS t i j k l).length ≤ 1 := by unfold oneS; split <;> simp
theorem nlD_len {t : Tab} {i j k n : Nat} : (nlD t i j k n).length ≤ n := by have := flat_len (f := fun l => oneS t i j k l) (c := 1) (fun _ => oneS_len) n; rw [Nat.mul_one] at this; exact this
theorem nlC_len {t : Tab} {i j m n : Nat} : (nlC t i j m n).length ≤ n * m := flat_len (fun _ => nlD_len) n
theorem nlB_len {t : Tab} {i m n : Nat} : (nlB t i m n).length ≤ n * (m * m) := flat_len (fun _ => nlC_len) n
theorem nlA_len {t : Tab} {r m n : Nat} : (nlA t r m n).length ≤ n * (r * (m * m)) := flat_len (fun _ => nlB_len) n
/-- a swap that may be done -/
structure SwOk (t : Tab) (i j k l : Nat) : Prop where
  hi : i < t.length
  hj : j < t.length
  ij : i ≠ j
  hk : k < (gi t 0).length
  hl : l < (gi t 0).length
  kl : k ≠ l
  zi : getE t i l ≠ 0
  zj : getE t j k ≠ 0
theorem mem_near {t y : Tab} : y ∈ nearL t ↔ ∃ i j k l : Nat, SwOk t i j k l ∧ y = swapS t i j k l := by
  unfold nearL nlA nlB nlC nlD oneS
  simp only [List.mem_flatMap, List.mem_range]
  constructor
  · rintro ⟨i, hi, j, hj, k, hk, l, hl, h⟩
    split at h
    · rename_i hc
      simp at h
      exact ⟨i, j, k, l, ⟨hi, hj, hc.1, hk, hl, hc.2.1, hc.2.2.1, hc.2.2.2⟩, h⟩
    · cases h
  · rintro ⟨i, j, k, l, h, rfl⟩
    exact ⟨i, h.hi, j, h.hj, k, h.hk, l, h.hl, by rw [if_pos ⟨h.ij, h.kl, h.zi, h.zj⟩]; simp⟩
theorem SwOk.place {t : Tab} {i j k l : Nat} (h : SwOk t i j k l) : PlaceOk t i j k l := by
  obtain ⟨h1, h2, h3, h4, h5, h6, _, _⟩ := h
  unfold PlaceOk
  omega
def dl (p : Prop) [Decidable p] : Int := if p then 1 else 0
theorem is_sub {m : Nat} {f g : Nat → Int} : is m (fun b => f b - g b) = is m f - is m g := by
  induction m with
  | zero => simp [is_0]
  | succ m ih => rw [is_succ, is_succ, is_succ, ih]; omega
theorem is_dl {m k : Nat} (p : Prop) [Decidable p] (h : k < m) : is m (fun b => dl (p ∧ k = b)) = dl p := by
  have key : ∀ n, is n (fun b => dl (p ∧ k = b)) = if k < n then dl p else 0 := by
    intro n
    induction n with
    | zero => simp [is_0]
    | succ n ih =>
      rw [is_succ, ih]
      by_cases e : k = n
      · subst e; simp [dl]
      · by_cases e2 : k < n
        · rw [if_pos e2, if_pos (by omega)]; simp [dl, e]
        · rw [if_neg e2, if_neg (by omega)]; simp [dl, e]
  rw [key, if_pos h]
theorem is_dl' {m k : Nat} (p : Prop) [Decidable p] (h : k < m) : is m (fun a => dl (k = a ∧ p)) = dl p := by
  rw [← is_dl p h]
  refine is_congr fun a _ => ?_
  unfold dl
  by_cases h1 : p <;> by_cases h2 : k = a <;> simp [h1, h2]
theorem swap_at {t : Tab} {i j k l : Nat} (ht : TabOk t) (h : SwOk t i j k l) (a b : Nat) : getE (swapS t i j k l) a b = getE t a b + dl (i = a ∧ k = b) + dl (j = a ∧ l = b) - dl (i = a ∧ l = b) - dl (j = a ∧ k = b) := by
  have hp := h.place
  obtain ⟨l1, l2, l3⟩ := swap_loads ht hp
  obtain ⟨a1, a2, a3, a4, a5, a6, a7, a8, a9, a10⟩ := hp
  have d0 := ht.dims
  have d1 := d0.setE (i := i) (k := k) (x := getE t i k + 1) a1 a2
  have d2 := d1.setE (i := j) (k := l) (x := getE t j l + 1) a3 a4
  have d3 := d2.setE (i := i) (k := l) (x := getE t i l - 1) a1 a2
  unfold swapS
  rw [getE_setE d3 a3 a4 a6 a7 (by omega) (by omega), getE_setE d2 a1 a2 a8 a9 (by omega) (by omega), getE_setE d1 a3 a4 a8 a9 (by omega) (by omega), getE_setE d0 a1 a2 a6 a7 (by omega) (by omega)]
  have hij := h.ij
  have hkl := h.kl
  have n1 : ∀ x y : Nat, ((x : Int) = (y : Int)) = (x = y) := fun x y => propext ⟨fun h => by omega, fun h => by omega⟩
  simp only [n1, dl]
  by_cases e1 : i = a <;> by_cases e2 : j = a <;> by_cases e3 : k = b <;> by_cases e4 : l = b <;> simp [e1, e2, e3, e4] <;> first
    | omega
    | (subst e1; subst e3; omega)
    | (subst e1; subst e4; omega)
    | (subst e2; subst e3; omega)
    | (subst e2; subst e4; omega)
theorem swap_dims {t : Tab} {i j k l : Nat} (ht : TabOk t) (h : SwOk t i j k l) : Dims (swapS t i j k l) t.length (gi t 0).length := by
  obtain ⟨a1, a2, a3, a4, a5, a6, a7, a8, a9, a10⟩ := h.place
  have d0 := ht.dims
  have d1 := d0.setE (i := i) (k := k) (x := getE t i k + 1) a1 a2
  have d2 := d1.setE (i := j) (k := l) (x := getE t j l + 1) a3 a4
  have d3 := d2.setE (i := i) (k := l) (x := getE t i l - 1) a1 a2
  exact d3.setE a3 a4
theorem lsum_is : ∀ {xs : List Int}, xs.sum = is xs.length (fun b => gi xs (b : Int)) := by
  intro xs
  have key : ∀ n, n ≤ xs.length → (xs.take n).sum = is n (fun b => gi xs (b : Int)) := by
    intro n
    induction n with
    | zero => intro _; simp [is_0]
    | succ n ih =>
      intro h
      rw [take_gi (by omega), List.sum_append, ih (by omega), is_succ]
      simp
  have := key xs.length (Nat.le_refl _)
  rwa [List.take_length] at this
theorem row_is {t : Tab} {n m : Nat} (d : Dims t n m) {a : Nat} (ha : a < n) : gi (rowSums t) (a : Int) = is m (fun b => getE t a b) := by
  rw [rowSums_at (by rw [d.1]; exact ha), lsum_is, d.2 a (by omega) (by omega)]
  rfl
theorem colP_is {t : Tab} {b : Nat} : ∀ {n : Nat}, n ≤ t.length → colPart t n b = is n (fun a => getE t a b)
  | 0, _ => by simp [colPart_0, is_0]
  | n + 1, h => by rw [colPart_succ (by omega), is_succ, colP_is (by omega)]; rfl
theorem col_is {t : Tab} {n m : Nat} (d : Dims t n m) (hn : 0 < n) {b : Nat} (hb : b < m) : gi (colSums t) (b : Int) = is n (fun a => getE t a b) := by
  have h0 := d.2 0 (by omega) (by omega)
  rw [colSums_at (by rw [h0]; exact hb), colP_is (Nat.le_refl _), d.1]
theorem sums_of {t y : Tab} {n m : Nat} (d : Dims t n m) (d' : Dims y n m) (hn : 0 < n) : (rowSums y = rowSums t ↔ ∀ a, a < n → is m (fun b => getE y a b) = is m (fun b => getE t a b)) ∧
    (colSums y = colSums t ↔ ∀ b, b < m → is n (fun a => getE y a b) = is n (fun a => getE t a b)) := by
  have e1 := d.2 0 (by omega) (by omega)
  have e2 := d'.2 0 (by omega) (by omega)
  refine ⟨⟨fun h a ha => by rw [← row_is d ha, ← row_is d' ha, h], fun h => ?_⟩, ⟨fun h b hb => by rw [← col_is d hn hb, ← col_is d' hn hb, h], fun h => ?_⟩⟩
  · apply List.ext_getElem (by rw [rowSums_len, rowSums_len, d.1, d'.1])
    intro a h1 h2
    rw [rowSums_len, d'.1] at h1
    rw [← gi_nat, ← gi_nat, row_is d h1, row_is d' h1, h a h1]
  · apply List.ext_getElem (by rw [colSums_len, colSums_len, e1, e2])
    intro b h1 h2
    rw [colSums_len, e2] at h1
    rw [← gi_nat, ← gi_nat, col_is d hn h1, col_is d' hn h1, h b h1]
theorem tab_eq {t y : Tab} {n m : Nat} (d : Dims t n m) (d' : Dims y n m) (h : ∀ a b : Nat, a < n → b < m → getE y a b = getE t a b) : y = t := by
  apply List.ext_getElem (by rw [d.1, d'.1])
  intro a h1 h2
  rw [d'.1] at h1
  have e1 := d.2 a (by omega) (by omega)
  have e2 := d'.2 a (by omega) (by omega)
  rw [← gi_nat, ← gi_nat]
  apply List.ext_getElem (by rw [e1, e2])
  intro b h3 h4
  rw [e2] at h3
  rw [← gi_nat, ← gi_nat]
  exact h a b h1 h3
theorem is_nonneg {m : Nat} {f : Nat → Int} (h : ∀ b, b < m → 0 ≤ f b) : 0 ≤ is m f := by
  induction m with
  | zero => simp [is_0]
  | succ m ih => rw [is_succ]; have := ih fun b hb => h b (by omega); have := h m (by omega); omega
theorem is_ge {m : Nat} {f : Nat → Int} (h : ∀ b, b < m → 0 ≤ f b) {k : Nat} (hk : k < m) : f k ≤ is m f := by
  induction m with
  | zero => omega
  | succ m ih =>
    rw [is_succ]
    have := is_nonneg fun b hb => h b (Nat.lt_succ_of_lt hb)
    have := h m (by omega)
    by_cases e : k = m
    · subst e; omega
    · have := ih (fun b hb => h b (by omega)) (by omega); omega
/-- a table of the same sums -/
theorem tab_of {t y : Tab} (ht : TabOk t) (d : Dims y t.length (gi t 0).length) (h0 : ∀ a b : Nat, a < t.length → b < (gi t 0).length → 0 ≤ getE y a b) (hr : rowSums y = rowSums t) : TabOk y := by
  have h1 := ht.1
  have h2 := ht.2.1
  have h3 := ht.cols
  have w0 := d.2 0 (by omega) (by omega)
  refine ⟨by rw [d.1]; exact h1, by rw [d.1]; exact h2, fun r hr' => ?_, by have := total_le ht; rw [← hr] at this; exact this⟩
  obtain ⟨a, ha, rfl⟩ := List.mem_iff_getElem.1 hr'
  rw [d.1] at ha
  have wa := d.2 a (by omega) (by omega)
  rw [← gi_nat]
  refine ⟨by omega, by omega, by omega, fun x hx => ?_⟩
  obtain ⟨b, hb, rfl⟩ := List.mem_iff_getElem.1 hx
  rw [wa] at hb
  rw [← gi_nat]
  have e : gi (gi y (a : Int)) (b : Int) = getE y a b := rfl
  rw [e]
  refine ⟨h0 a b ha hb, ?_⟩
  have g1 := is_ge (f := fun b => getE y a b) (fun b hb => h0 a b ha hb) hb
  rw [← row_is d ha, hr] at g1
  have g2 := rowSums_le ht (gi (rowSums t) (a : Int)) (mem_gi (by rw [rowSums_len]; exact ha))
  omega
/-- of the same family -/
structure Kin (s x : Tab) : Prop where
  ok : TabOk x
  row : rowSums x = rowSums s
  col : colSums x = colSums s
theorem Kin.len {s x : Tab} (h : Kin s x) : x.length = s.length ∧ (gi x 0).length = (gi s 0).length := by
  have h1 := congrArg List.length h.row
  have h2 := congrArg List.length h.col
  rw [rowSums_len, rowSums_len] at h1
  rw [colSums_len, colSums_len] at h2
  exact ⟨h1, h2⟩
theorem Kin.dims {s x : Tab} (h : Kin s x) : Dims x s.length (gi s 0).length := by
  have := h.ok.dims
  rwa [h.len.1, h.len.2] at this
theorem Kin.refl {s : Tab} (h : TabOk s) : Kin s s := ⟨h, rfl, rfl⟩
theorem Kin.fam {s x : Tab} (h : Kin s x) : x ∈ famT s := fam_of h.ok h.row h.col
theorem kin_of {s x : Tab} (hs : TabOk s) (h : x ∈ famT s) : Kin s x := by
  obtain ⟨a, b, c⟩ := family_ok hs h
  exact ⟨a, b, c⟩
theorem swap_kin {t : Tab} {i j k l : Nat} (ht : TabOk t) (h : SwOk t i j k l) : Kin t (swapS t i j k l) := by
  have d := swap_dims ht h
  have h1 := ht.1
  have hA := swap_at ht h
  have hs := sums_of ht.dims d (by omega)
  have r : rowSums (swapS t i j k l) = rowSums t := hs.1.2 fun a ha => by
    rw [is_congr fun b hb => hA a b, is_sub, is_sub, is_add, is_add, is_dl _ h.hk, is_dl _ h.hl, is_dl _ h.hl, is_dl _ h.hk]
    omega
  have c : colSums (swapS t i j k l) = colSums t := hs.2.2 fun b hb => by
    rw [is_congr fun a ha => hA a b, is_sub, is_sub, is_add, is_add, is_dl' _ h.hi, is_dl' _ h.hj, is_dl' _ h.hi, is_dl' _ h.hj]
    omega
  refine ⟨tab_of ht d (fun a b ha hb => ?_) r, r, c⟩
  rw [hA a b]
  have g := ht.getE (i := (a : Int)) (k := (b : Int)) (by omega) (by omega) (by omega) (by omega)
  have g1 := h.zi
  have g2 := h.zj
  have hij := h.ij
  have hkl := h.kl
  unfold dl
  by_cases e1 : i = a <;> by_cases e2 : j = a <;> by_cases e3 : k = b <;> by_cases e4 : l = b <;> simp [e1, e2, e3, e4] <;> first
    | omega
    | (subst e1; subst e4; omega)
    | (subst e2; subst e3; omega)
theorem near_kin {t y : Tab} (ht : TabOk t) (h : y ∈ nearL t) : Kin t y := by
  obtain ⟨i, j, k, l, h1, rfl⟩ := mem_near.1 h
  exact swap_kin ht h1
theorem Kin.trans {s t u : Tab} (h : Kin s t) (h' : Kin t u) : Kin s u := ⟨h'.ok, h'.row.trans h.row, h'.col.trans h.col⟩
theorem Kin.symm {s t : Tab} (hs : TabOk s) (h : Kin s t) : Kin t s := ⟨hs, h.row.symm, h.col.symm⟩
/-- the contrary swap -/
theorem swap_back {t : Tab} {i j k l : Nat} (ht : TabOk t) (h : SwOk t i j k l) : SwOk (swapS t i j k l) i j l k ∧ swapS (swapS t i j k l) i j l k = t := by
  have hk := swap_kin ht h
  have hA := swap_at ht h
  have l1 := hk.len
  have g1 := ht.getE (i := (i : Int)) (k := (k : Int)) (by omega) (by have := h.hi; omega) (by omega) (by have := h.hk; omega)
  have g2 := ht.getE (i := (j : Int)) (k := (l : Int)) (by omega) (by have := h.hj; omega) (by omega) (by have := h.hl; omega)
  have hij := h.ij
  have hkl := h.kl
  have z1 : getE (swapS t i j k l) i k ≠ 0 := by
    rw [hA i k]; simp [dl, hij, hij.symm, hkl, hkl.symm]; omega
  have z2 : getE (swapS t i j k l) j l ≠ 0 := by
    rw [hA j l]; simp [dl, hij, hij.symm, hkl, hkl.symm]; omega
  have hb : SwOk (swapS t i j k l) i j l k := ⟨by rw [l1.1]; exact h.hi, by rw [l1.1]; exact h.hj, h.ij, by rw [l1.2]; exact h.hl, by rw [l1.2]; exact h.hk, h.kl.symm, z1, z2⟩
  refine ⟨hb, tab_eq (n := t.length) (m := (gi t 0).length) ht.dims (by have := swap_dims hk.ok hb; rwa [l1.1, l1.2] at this) fun a b ha hb' => ?_⟩
  rw [swap_at hk.ok hb, hA]
  omega
theorem near_symm {t y : Tab} (ht : TabOk t) (h : y ∈ nearL t) : t ∈ nearL y := by
  obtain ⟨i, j, k, l, h1, rfl⟩ := mem_near.1 h
  obtain ⟨h2, h3⟩ := swap_back ht h1
  exact mem_near.2 ⟨i, j, l, k, h2, h3.symm⟩
end Go.Proofs.Ytflekaacffdakaa
namespace Go.Proofs.Ytflekaacffdakaa
open Go Go.AM Go.Proofs
theorem is_one {n i : Nat} (h : i < n) : is n (fun a => dl (i = a)) = 1 := by
  have := is_dl (m := n) (k := i) True h
  simpa [dl] using this
theorem ex_gt {m : Nat} {f g : Nat → Int} (hs : is m f = is m g) {b : Nat} (hb : b < m) (h : f b < g b) : ∃ c, c < m ∧ g c < f c := by
  refine Classical.byContradiction fun hn => ?_
  have ha : ∀ c, c < m → 0 ≤ g c - f c := fun c hc => by
    have : ¬ g c < f c := fun h => hn ⟨c, hc, h⟩
    omega
  have h1 := is_ge (f := fun c => g c - f c) ha hb
  rw [is_sub] at h1
  omega
/-- how much two tables differ -/
def dfT (n m : Nat) (x t : Tab) : Int := is n fun a => is m fun b => ((getE x a b - getE t a b).natAbs : Int)
theorem nearer {s x t : Tab} (hx : Kin s x) (ht : Kin s t) (hne : x ≠ t) : ∃ y, y ∈ nearL x ∧ dfT s.length (gi s 0).length y t ≤ dfT s.length (gi s 0).length x t - 2 := by
  have dx := hx.dims
  have dt := ht.dims
  have h1 := hx.ok.1
  rw [hx.len.1] at h1
  have rs := (sums_of dt dx (by omega)).1.1 (hx.row.trans ht.row.symm)
  have cs := (sums_of dt dx (by omega)).2.1 (hx.col.trans ht.col.symm)
  have e1 : ∃ i k : Nat, i < s.length ∧ k < (gi s 0).length ∧ getE x i k < getE t i k := by
    refine Classical.byContradiction fun hn => hne (tab_eq dt dx fun a b ha hb => ?_)
    refine Classical.byContradiction fun he => ?_
    by_cases hlt : getE x a b < getE t a b
    · exact hn ⟨a, b, ha, hb, hlt⟩
    · obtain ⟨c, hc, hlt2⟩ := ex_gt (f := fun b => getE t a b) (g := fun b => getE x a b) (rs a ha).symm hb (by show getE t a b < getE x a b; omega)
      exact hn ⟨a, c, ha, hc, hlt2⟩
  obtain ⟨i, k, hi, hk, hik⟩ := e1
  obtain ⟨l, hl, hil⟩ : ∃ c, c < (gi s 0).length ∧ getE t i c < getE x i c := ex_gt (f := fun b => getE x i b) (g := fun b => getE t i b) (rs i hi) hk hik
  obtain ⟨j, hj, hjk⟩ : ∃ c, c < s.length ∧ getE t c k < getE x c k := ex_gt (f := fun a => getE x a k) (g := fun a => getE t a k) (cs k hk) hi hik
  have g1 := ht.ok.getE (i := (i : Int)) (k := (l : Int)) (by omega) (by have := ht.len.1; omega) (by omega) (by have := ht.len.2; omega)
  have g2 := ht.ok.getE (i := (j : Int)) (k := (k : Int)) (by omega) (by have := ht.len.1; omega) (by omega) (by have := ht.len.2; omega)
  have hij : i ≠ j := fun e => by subst e; omega
  have hkl : k ≠ l := fun e => by subst e; omega
  have hs : SwOk x i j k l := ⟨by rw [hx.len.1]; exact hi, by rw [hx.len.1]; exact hj, hij, by rw [hx.len.2]; exact hk, by rw [hx.len.2]; exact hl, hkl, by omega, by omega⟩
  refine ⟨_, mem_near.2 ⟨i, j, k, l, hs, rfl⟩, ?_⟩
  have hA := swap_at hx.ok hs
  have le : dfT s.length (gi s 0).length (swapS x i j k l) t ≤ is s.length fun a => is (gi s 0).length fun b => ((getE x a b - getE t a b).natAbs : Int) + dl (j = a ∧ l = b) - dl (i = a ∧ k = b) - dl (i = a ∧ l = b) - dl (j = a ∧ k = b) := by
    refine is_le fun a ha => is_le fun b hb => ?_
    rw [hA a b]
    unfold dl
    by_cases e1 : i = a <;> by_cases e2 : j = a <;> by_cases e3 : k = b <;> by_cases e4 : l = b <;> simp [e1, e2, e3, e4] <;> first
      | omega
      | (subst e1; subst e3; omega)
      | (subst e1; subst e4; omega)
      | (subst e2; subst e3; omega)
      | (subst e2; subst e4; omega)
  refine Int.le_trans le ?_
  have e : ∀ a : Nat, (is (gi s 0).length fun b : Nat => ((getE x a b - getE t a b).natAbs : Int) + dl (j = a ∧ l = b) - dl (i = a ∧ k = b) - dl (i = a ∧ l = b) - dl (j = a ∧ k = b)) =
      is (gi s 0).length (fun b => ((getE x a b - getE t a b).natAbs : Int)) + dl (j = a) - dl (i = a) - dl (i = a) - dl (j = a) := fun a => by
    rw [is_sub, is_sub, is_sub, is_add, is_dl _ hl, is_dl _ hk, is_dl _ hl, is_dl _ hk]
  rw [is_congr fun a _ => e a, is_sub, is_sub, is_sub, is_add, is_one hj, is_one hi]
  unfold dfT
  omega
theorem df_nonneg {n m : Nat} {x t : Tab} : 0 ≤ dfT n m x t := is_nonneg fun a _ => is_nonneg fun b _ => by omega
theorem tot_is {t : Tab} {n m : Nat} (d : Dims t n m) : (rowSums t).sum = is n fun a => is m fun b => getE t a b := by
  rw [lsum_is, rowSums_len, d.1]
  exact is_congr fun a ha => row_is d ha
theorem df_le {s x t : Tab} (hx : Kin s x) (ht : Kin s t) : dfT s.length (gi s 0).length x t ≤ 32 := by
  have h1 := total_le hx.ok
  have h2 := total_le ht.ok
  rw [tot_is hx.dims] at h1
  rw [tot_is ht.dims] at h2
  have : dfT s.length (gi s 0).length x t ≤ is s.length fun a => is (gi s 0).length fun b => getE x a b + getE t a b := by
    refine is_le fun a ha => is_le fun b hb => ?_
    have g1 := hx.ok.getE (i := (a : Int)) (k := (b : Int)) (by omega) (by have := hx.len.1; omega) (by omega) (by have := hx.len.2; omega)
    have g2 := ht.ok.getE (i := (a : Int)) (k := (b : Int)) (by omega) (by have := ht.len.1; omega) (by omega) (by have := ht.len.2; omega)
    omega
  refine Int.le_trans this ?_
  rw [is_congr fun a _ => is_add (f := fun b => getE x a b) (g := fun b => getE t a b), is_add]
  omega
/-- n swaps lead to a table -/
def Rch (s : Tab) : Nat → Tab → Prop
  | 0, x => x = s
  | n + 1, x => ∃ y, Rch s n y ∧ x ∈ nearL y
theorem Rch.kin {s : Tab} (hs : TabOk s) : ∀ {n : Nat} {x : Tab}, Rch s n x → Kin s x
  | 0, _, h => by cases h; exact Kin.refl hs
  | n + 1, _, ⟨y, h1, h2⟩ => (Rch.kin hs h1).trans (near_kin (Rch.kin hs h1).ok h2)
theorem reach_d {s t : Tab} (hs : TabOk s) (ht : Kin s t) : ∀ (d : Nat) (n : Nat) (x : Tab), Rch s n x → dfT s.length (gi s 0).length x t ≤ 2 * d → ∃ q, q ≤ n + d ∧ Rch s q t
  | 0, n, x, h, hd => by
    by_cases e : x = t
    · subst e; exact ⟨n, by omega, h⟩
    · obtain ⟨y, _, h2⟩ := nearer (h.kin hs) ht e
      have := df_nonneg (n := s.length) (m := (gi s 0).length) (x := y) (t := t)
      omega
  | d + 1, n, x, h, hd => by
    by_cases e : x = t
    · subst e; exact ⟨n, by omega, h⟩
    · obtain ⟨y, h1, h2⟩ := nearer (h.kin hs) ht e
      obtain ⟨q, h3, h4⟩ := reach_d hs ht d (n + 1) y ⟨x, h, h1⟩ (by omega)
      exact ⟨q, by omega, h4⟩
/-- so far it is, at least -/
def Dst (s : Tab) (n : Nat) (x : Tab) : Prop := Rch s n x ∧ ∀ m, m < n → ¬ Rch s m x
theorem Dst.uniq {s x : Tab} {n m : Nat} (h : Dst s n x) (h' : Dst s m x) : n = m := by
  rcases Nat.lt_trichotomy n m with e | e | e
  · exact absurd h.1 (h'.2 n e)
  · exact e
  · exact absurd h'.1 (h.2 m e)
theorem dst_of {s x : Tab} : ∀ {n : Nat}, Rch s n x → ∃ m, m ≤ n ∧ Dst s m x := by
  intro n
  induction n using Nat.strongRecOn with
  | ind n ih =>
    intro h
    by_cases hm : ∃ m, m < n ∧ Rch s m x
    · obtain ⟨m, h1, h2⟩ := hm
      obtain ⟨q, h3, h4⟩ := ih m h1 h2
      exact ⟨q, by omega, h4⟩
    · exact ⟨n, Nat.le_refl _, h, fun m h1 h2 => hm ⟨m, h1, h2⟩⟩
theorem reach {s t : Tab} (hs : TabOk s) (ht : Kin s t) : ∃ n, n ≤ 16 ∧ Dst s n t := by
  obtain ⟨q, h1, h2⟩ := reach_d hs ht 16 0 s rfl (by have := df_le (Kin.refl hs) ht; omega)
  obtain ⟨m, h3, h4⟩ := dst_of h2
  exact ⟨m, by omega, h4⟩
theorem Rch.cons {s y : Tab} (hy : y ∈ nearL s) : ∀ {n : Nat} {x : Tab}, Rch y n x → Rch s (n + 1) x
  | 0, _, h => by cases h; exact ⟨s, rfl, hy⟩
  | n + 1, _, ⟨z, h1, h2⟩ => ⟨z, Rch.cons hy h1, h2⟩
theorem Rch.symm {s : Tab} (hs : TabOk s) : ∀ {n : Nat} {x : Tab}, Rch s n x → Rch x n s
  | 0, _, h => by cases h; rfl
  | n + 1, _, ⟨y, h1, h2⟩ => Rch.cons (near_symm (h1.kin hs).ok h2) (Rch.symm hs h1)
theorem Dst.symm {s x : Tab} {n : Nat} (hs : TabOk s) (h : Dst s n x) : Dst x n s :=
  ⟨h.1.symm hs, fun m hm h' => h.2 m hm (h'.symm (h.1.kin hs).ok)⟩
/-- a table at n+1 has one at n beside it -/
theorem Dst.pred {s x : Tab} {n : Nat} (h : Dst s (n + 1) x) : ∃ y, Dst s n y ∧ x ∈ nearL y := by
  obtain ⟨⟨y, h1, h2⟩, h3⟩ := h
  exact ⟨y, ⟨h1, fun m hm h4 => h3 (m + 1) (by omega) ⟨y, h4, h2⟩⟩, h2⟩
/-- each table leads to the next one by a swap -/
def Ch (l : List Tab) : Prop := ∀ i : Nat, i + 1 < l.length → gi l ((i + 1 : Nat) : Int) ∈ nearL (gi l (i : Int))
instance {l : List Tab} : Decidable (Ch l) := decidable_of_iff (∀ i, i < l.length - 1 → gi l ((i + 1 : Nat) : Int) ∈ nearL (gi l (i : Int))) ⟨fun h i hi => h i (by omega), fun h i hi => h i (by omega)⟩
def PathP (s t : Tab) (l : List Tab) : Prop := 0 < l.length ∧ gi l 0 = s ∧ gi l ((l.length : Int) - 1) = t ∧ Ch l
instance {s t : Tab} {l : List Tab} : Decidable (PathP s t l) := by unfold PathP; infer_instance
theorem PathP.rch {s t : Tab} {l : List Tab} (h : PathP s t l) : ∀ i : Nat, i < l.length → Rch s i (gi l (i : Int))
  | 0, _ => h.2.1
  | i + 1, hi => ⟨_, PathP.rch h i (by omega), h.2.2.2 i hi⟩
theorem PathP.kin {s t : Tab} {l : List Tab} (hs : TabOk s) (h : PathP s t l) : ∀ x ∈ l, Kin s x := fun x hx => by
  obtain ⟨i, hi, rfl⟩ := List.mem_iff_getElem.1 hx
  rw [← gi_nat]
  exact (h.rch i hi).kin hs
theorem gi_rev {α : Type} [Inhabited α] {l : List α} {i : Nat} (h : i < l.length) : gi l.reverse (i : Int) = gi l ((l.length - 1 - i : Nat) : Int) := by
  rw [gi_nat (by simpa using h), gi_nat (by omega)]
  simp
theorem PathP.rev {s t : Tab} {l : List Tab} (hs : TabOk s) (h : PathP s t l) : PathP t s l.reverse := by
  have hp := h.1
  refine ⟨by simpa using hp, ?_, ?_, fun i hi => ?_⟩
  · have := gi_rev (l := l) (i := 0) hp
    rw [show ((0 : Nat) : Int) = 0 from rfl] at this
    rw [this, ← h.2.2.1]
    congr 1; omega
  · rw [List.length_reverse, show ((l.length : Int) - 1) = ((l.length - 1 : Nat) : Int) by omega, gi_rev (by omega), show l.length - 1 - (l.length - 1) = 0 by omega]
    exact h.2.1
  · rw [List.length_reverse] at hi
    rw [gi_rev (by omega), gi_rev (by omega)]
    have h1 := h.2.2.2 (l.length - 1 - (i + 1)) (by omega)
    rw [show l.length - 1 - (i + 1) + 1 = l.length - 1 - i by omega] at h1
    exact near_symm ((h.rch _ (by omega)).kin hs).ok h1
end Go.Proofs.Ytflekaacffdakaa
namespace Go.Proofs.Ytflekaacffdakaa
open Go Go.AM Go.Proofs
theorem wr_eq : ∀ {us cs : List AV} {o : Nat}, o + us.length ≤ cs.length → wr cs o us = cs.take o ++ us ++ cs.drop (o + us.length)
  | [], cs, o, _ => by simp [wr]
  | u :: us, cs, o, h => by
    simp only [List.length_cons] at h
    rw [wr, wr_eq (by rw [List.length_set]; omega)]
    have e1 : (cs.set o u).take (o + 1) = cs.take o ++ [u] := by
      rw [List.take_add_one, List.take_set_of_le (Nat.le_refl _)]
      simp [show o < cs.length by omega]
    have e2 : (cs.set o u).drop (o + 1 + us.length) = cs.drop (o + 1 + us.length) := List.drop_set_of_lt (by omega)
    rw [e1, e2]
    simp [Nat.add_assoc, Nat.add_comm 1]
/-- whole numbers written over others -/
def ovr (cs : List Int) (o : Nat) (xs : List Int) : List Int := cs.take o ++ xs ++ cs.drop (o + xs.length)
theorem wr_ovr {cs xs : List Int} {o : Nat} (h : o + xs.length ≤ cs.length) : wr (cs.map AV.i) o (xs.map AV.i) = (ovr cs o xs).map AV.i := by
  rw [wr_eq (by simpa using h)]
  simp [ovr, List.map_take, List.map_drop]
theorem ovr_len {cs xs : List Int} {o : Nat} (h : o + xs.length ≤ cs.length) : (ovr cs o xs).length = cs.length := by
  simp [ovr]; omega
theorem ovr_get {cs xs : List Int} {o q : Nat} (h : o + xs.length ≤ cs.length) : gi (ovr cs o xs) (q : Int) = if o ≤ q ∧ q < o + xs.length then gi xs ((q - o : Nat) : Int) else gi cs (q : Int) := by
  unfold ovr gi
  simp only [Int.toNat_natCast]
  rw [List.getD_eq_getElem?_getD, List.append_assoc]
  have lt : (cs.take o).length = o := by rw [List.length_take]; omega
  by_cases h1 : q < o
  · rw [if_neg (by omega), List.getElem?_append_left (by omega), List.getElem?_take, if_pos h1, ← List.getD_eq_getElem?_getD]
  · rw [List.getElem?_append_right (by omega), lt]
    by_cases h2 : q < o + xs.length
    · rw [if_pos ⟨by omega, h2⟩, List.getElem?_append_left (by omega), ← List.getD_eq_getElem?_getD]
    · rw [if_neg (by omega), List.getElem?_append_right (by omega), List.getElem?_drop, ← List.getD_eq_getElem?_getD]
      congr 1; omega
/-- the first n rows of a table as a key -/
def keyN (t : Tab) : Nat → List Int
  | 0 => List.replicate 9 0
  | n + 1 => ovr (keyN t n) (3 * n) (gi t (n : Int))
def keyL (t : Tab) : List Int := keyN t t.length
theorem keyN_len {t : Tab} (h : TabOk t) : ∀ {n : Nat}, n ≤ t.length → (keyN t n).length = 9
  | 0, _ => rfl
  | n + 1, hn => by
    have h1 := keyN_len h (n := n) (by omega)
    have h2 := h.width (i := n) (by omega)
    have h3 := h.cols.2
    have h4 := h.2.1
    unfold keyN
    rw [ovr_len (by omega), h1]
theorem keyN_get {t : Tab} (h : TabOk t) : ∀ {n : Nat}, n ≤ t.length → ∀ a b : Nat, a < n → b < (gi t 0).length → gi (keyN t n) ((3 * a + b : Nat) : Int) = getE t a b
  | 0, _, a, b, ha, _ => by omega
  | n + 1, hn, a, b, ha, hb => by
    have h1 := keyN_len h (n := n) (by omega)
    have h2 := h.width (i := n) (by omega)
    have h3 := h.cols.2
    have h4 := h.2.1
    unfold keyN
    rw [ovr_get (by omega)]
    by_cases e : a = n
    · subst e
      rw [if_pos (by omega), show 3 * a + b - 3 * a = b by omega]
      rfl
    · rw [if_neg (by omega)]
      exact keyN_get h (by omega) a b (by omega) hb
theorem keyL_len {t : Tab} (h : TabOk t) : (keyL t).length = 9 := keyN_len h (Nat.le_refl _)
theorem keyL_inj {s x y : Tab} (hx : Kin s x) (hy : Kin s y) (h : keyL x = keyL y) : x = y := by
  refine tab_eq hy.dims hx.dims fun a b ha hb => ?_
  rw [← keyN_get hx.ok (Nat.le_refl _) a b (by rw [hx.len.1]; exact ha) (by rw [hx.len.2]; exact hb), ← keyN_get hy.ok (Nat.le_refl _) a b (by rw [hy.len.1]; exact ha) (by rw [hy.len.2]; exact hb)]
  exact congrArg (fun l => gi l ((3 * a + b : Nat) : Int)) h
theorem pureAll_ints : ∀ xs : List Int, AV.pureAll (xs.map AV.i) = true
  | [] => rfl
  | x :: xs => by simp [AV.pureAll, AV.pure, pureAll_ints xs]
theorem copy_row {lo b o n : Nat} {c : Option Nat} {p : Nat → Prop} {H : Heap} {y : AV} {xs : List Int} {cs : List AV} (hy : Sl p H y xs) (hb : H[b]? = some (.cells cs)) (hlo : lo ≤ b) (h0 : xs ≠ []) (hn : xs.length ≤ n) (ho : o + xs.length ≤ cs.length) :
    copyV lo 1 (.s 1 b o n c) y H = some (.i (xs.length : Int), H.set b (.cells (wr cs o (xs.map AV.i)))) := by
  have hl : lenA y = some xs.length := by rcases hy with ⟨rfl, rfl⟩ | ⟨_, _, _, _, rfl, _⟩ <;> rfl
  have hc := hy.ints
  have h1 : (xs.map AV.i).all AV.one = true := by simp [AV.one]
  have h2 : xs.map AV.i ≠ [] := by simpa using h0
  simp only [copyV, hl, ne_eq, not_true_eq_false, if_false, Nat.min_eq_left hn, hc, if_neg h2, h1, if_true]
  rw [st_of hb hlo (by simpa using ho)]
  rfl
theorem key_ret {p : Nat → Prop} {H : Heap} {v : AV} {t : Tab} (ht : Sl p H v t) (h : TabOk t) : RetP E 91 [v] H (.ag ((keyL t).map AV.i)) := by
  refine RetP.ro rfl fn91 rfl (by simp [AV.pure, pureAll_ints]) ?_
  unfold f91A
  have hl3 := h.2.1
  have hc3 := h.cols
  have e0 : ([.i 0, .i 0, .i 0, .i 0, .i 0, .i 0, .i 0, .i 0, .i 0] : List AV) = (keyN t 0).map AV.i := rfl
  simp (disch := (first | assumption | omega | (simp only [List.length_append, List.length_cons, List.length_nil]; omega))) only [↓wD,wU,Nat.reduceBEq,zx150,zx151,zx159,zx160,zx161,zx162,Nat.reduceAdd,Nat.reduceSub,Nat.reduceMul,Nat.reduceLeDiff,Nat.reduceLT,Nat.reduceEqDiff,Int.reduceAdd,Int.reduceSub,Int.reduceMul,Int.reduceNeg,Int.reduceLT,Int.reduceLE,Int.reduceEq,Int.reduceToNat,Int.cast_ofNat_Int,↓reduceIte, ht.L]
  refine Wp.for t.length (fun i a H' => H' = H ++ [.cells ((keyN t 0).map AV.i)] ++ [.cells ((keyN t i).map AV.i)] ∧ a 2 = .p H.length 0 ∧ a 3 = .p (H.length + 1) 0 ∧ a 6 = v ∧ a 7 = .i t.length ∧ a 8 = .i i) ?_ ?_
  · rintro i a H' hi ⟨rfl, h2, h3, h6, h7, h8⟩ ih
    simp (disch := (first | assumption | omega | (simp only [List.length_append, List.length_cons, List.length_nil]; omega))) only [↓wD,wU,Nat.reduceBEq,zx150,zx151,zx159,zx160,zx161,zx162,Nat.reduceAdd,Nat.reduceSub,Nat.reduceMul,Nat.reduceLeDiff,Nat.reduceLT,Nat.reduceEqDiff,Int.reduceAdd,Int.reduceSub,Int.reduceMul,Int.reduceNeg,Int.reduceLT,Int.reduceLE,Int.reduceEq,Int.reduceToNat,Int.cast_ofNat_Int,↓reduceIte, h2, h3, h6, h7, h8]
    refine condP_split (fun hlt => ?_) (fun hlt => ?_)
    · have hi' : i < t.length := by omega
      have hw := h.width hi'
      have kl := keyN_len h (n := i) (by omega)
      have ht1 := (ht.app [.cells ((keyN t 0).map AV.i)]).app [.cells ((keyN t i).map AV.i)]
      have g := ht1.get (k := (i : Int)) (by omega) (by omega)
      have hb1 : (H ++ [Blk.cells ((keyN t 0).map AV.i)] ++ [.cells ((keyN t i).map AV.i)])[H.length + 1]? = some (.cells ((keyN t i).map AV.i)) := by
        rw [List.getElem?_append_right (by simp)]; simp
      have s1 : slarrV H.length (H ++ [Blk.cells ((keyN t 0).map AV.i)] ++ [.cells ((keyN t i).map AV.i)]) 9 1 (.p (H.length + 1) 0) (some (.i (3 * (i : Int)))) none = some (.s 1 (H.length + 1) (3 * i) (9 - 3 * i) (some (9 - 3 * i))) := by
        have b1 : boundV none 9 9 = some 9 := rfl
        have b2 : boundV (some (.i (3 * (i : Int)))) 0 9 = some (3 * i) := by
          rw [bound_some (by omega) (by omega)]; congr 1
        have c0 : True ∧ H.length ≤ H.length + 1 ∧ 9 ≤ ((keyN t i).map AV.i).length ∧ 9 ≤ 1048576 := ⟨trivial, by omega, by simp [kl], by omega⟩
        simp only [slarrV, b1, b2, hb1, Nat.zero_add, if_pos c0]
      have c1 := copy_row (lo := H.length) (o := 3 * i) (n := 9 - 3 * i) (c := some (9 - 3 * i)) g hb1 (by omega) (fun e => by rw [e] at hw; simp at hw; omega) (by omega) (by simp; omega)
      rw [wr_ovr (by omega)] at c1
      simp (disch := (first | assumption | omega | (simp only [List.length_append, List.length_cons, List.length_nil]; omega))) only [↓wD,wU,Nat.reduceBEq,zx150,zx151,zx159,zx160,zx161,zx162,Nat.reduceAdd,Nat.reduceSub,Nat.reduceMul,Nat.reduceLeDiff,Nat.reduceLT,Nat.reduceEqDiff,Int.reduceAdd,Int.reduceSub,Int.reduceMul,Int.reduceNeg,Int.reduceLT,Int.reduceLE,Int.reduceEq,Int.reduceToNat,Int.cast_ofNat_Int,↓reduceIte, h2, h3, h6, h7, h8, ht1.L, s1, c1]
      refine (ih hi').go ⟨?_, ?_⟩
      · rw [List.set_append_right _ _ (by simp)]
        simp [keyN]
      · simp (disch := (first | assumption | omega | (simp only [List.length_append, List.length_cons, List.length_nil]; omega))) only [↓wD,wU,Nat.reduceBEq,zx150,zx151,zx159,zx160,zx161,zx162,Nat.reduceAdd,Nat.reduceSub,Nat.reduceMul,Nat.reduceLeDiff,Nat.reduceLT,Nat.reduceEqDiff,Int.reduceAdd,Int.reduceSub,Int.reduceMul,Int.reduceNeg,Int.reduceLT,Int.reduceLE,Int.reduceEq,Int.reduceToNat,Int.cast_ofNat_Int,↓reduceIte, h2, h3, h6, h7, h8]
    · obtain rfl : i = t.length := by omega
      have kl := keyN_len h (Nat.le_refl _)
      have hb1 : (H ++ [Blk.cells ((keyN t 0).map AV.i)] ++ [Blk.cells ((keyN t t.length).map AV.i)] : Heap)[H.length + 1]? = some (.cells ((keyN t t.length).map AV.i)) := by
        rw [List.getElem?_append_right (by simp)]; simp
      have hb0 : (H ++ [Blk.cells ((keyN t 0).map AV.i)] ++ [Blk.cells ((keyN t t.length).map AV.i)] : Heap)[H.length]? = some (.cells ((keyN t 0).map AV.i)) := by
        rw [List.getElem?_append_left (by simp)]; simp
      have l1 : ldn (H ++ [Blk.cells ((keyN t 0).map AV.i)] ++ [Blk.cells ((keyN t t.length).map AV.i)] : Heap) (H.length + 1) 0 9 = some ((keyN t t.length).map AV.i) := by
        simp only [ldn, hb1]
        rw [if_pos (by simp [kl])]
        simp [kl, List.take_of_length_le]
      have sA : Go.AM.stA H.length (H ++ [Blk.cells ((keyN t 0).map AV.i)] ++ [Blk.cells ((keyN t t.length).map AV.i)] : Heap) 9 (.p H.length 0) (.ag ((keyN t t.length).map AV.i)) = some ((H ++ [Blk.cells ((keyN t 0).map AV.i)] ++ [Blk.cells ((keyN t t.length).map AV.i)] : Heap).set H.length (Blk.cells ((keyN t t.length).map AV.i))) := by
        have q : (AV.ag ((keyN t t.length).map AV.i)).cells.length = 9 ∧ (AV.ag ((keyN t t.length).map AV.i)).cells.all AV.one = true := ⟨by simp [AV.cells, kl], by simp [AV.cells, AV.one]⟩
        have e1 : wr ((keyN t 0).map AV.i) 0 (AV.ag ((keyN t t.length).map AV.i)).cells = (keyN t t.length).map AV.i := by
          show wr ((keyN t 0).map AV.i) 0 ((keyN t t.length).map AV.i) = _
          rw [wr_ovr (by simp [kl, keyN])]
          congr 1
          unfold ovr
          simp [keyN, kl]
        rw [zx123, if_pos q, st_of hb0 (Nat.le_refl _) (by rw [q.1]; simp [keyN]), e1]
      simp (disch := (first | assumption | omega | (simp only [List.length_append, List.length_cons, List.length_nil]; omega))) only [↓wD,wU,Nat.reduceBEq,zx150,zx151,zx159,zx160,zx161,zx162,Nat.reduceAdd,Nat.reduceSub,Nat.reduceMul,Nat.reduceLeDiff,Nat.reduceLT,Nat.reduceEqDiff,Int.reduceAdd,Int.reduceSub,Int.reduceMul,Int.reduceNeg,Int.reduceLT,Int.reduceLE,Int.reduceEq,Int.reduceToNat,Int.cast_ofNat_Int,↓reduceIte, h2, h3, h6, h7, h8, l1, sA]
      have l2 : ldn ((H ++ [Blk.cells ((keyN t 0).map AV.i)] ++ [Blk.cells ((keyN t t.length).map AV.i)] : Heap).set H.length (Blk.cells ((keyN t t.length).map AV.i))) H.length 0 9 = some ((keyN t t.length).map AV.i) := by
        simp only [ldn, get_set hb0]
        rw [if_pos (by simp [kl])]
        simp [kl, List.take_of_length_le]
      simp (disch := (first | assumption | omega | (simp only [List.length_append, List.length_cons, List.length_nil]; omega))) only [↓wD,wU,Nat.reduceBEq,zx150,zx151,zx159,zx160,zx161,zx162,Nat.reduceAdd,Nat.reduceSub,Nat.reduceMul,Nat.reduceLeDiff,Nat.reduceLT,Nat.reduceEqDiff,Int.reduceAdd,Int.reduceSub,Int.reduceMul,Int.reduceNeg,Int.reduceLT,Int.reduceLE,Int.reduceEq,Int.reduceToNat,Int.cast_ofNat_Int,↓reduceIte, l2]
      rfl
  · refine ⟨?_, ?_⟩
    · simp [keyN, List.replicate]
    · simp (disch := (first | assumption | omega | (simp only [List.length_append, List.length_cons, List.length_nil]; omega))) only [↓wD,wU,Nat.reduceBEq,zx150,zx151,zx159,zx160,zx161,zx162,Nat.reduceAdd,Nat.reduceSub,Nat.reduceMul,Nat.reduceLeDiff,Nat.reduceLT,Nat.reduceEqDiff,Int.reduceAdd,Int.reduceSub,Int.reduceMul,Int.reduceNeg,Int.reduceLT,Int.reduceLE,Int.reduceEq,Int.reduceToNat,Int.cast_ofNat_Int,↓reduceIte]
end Go.Proofs.Ytflekaacffdakaa
namespace Go.Proofs.Ytflekaacffdakaa
open Go Go.AM Go.Proofs
theorem compareS_ret {p q : Nat → Prop} {H : Heap} {v u : AV} {xs ys : List (List Int)} (hx : Sl p H v xs) (hy : Sl q H u ys) : RetP E 57 [v, u, .fn 59 [] []] H (.i (cmpT xs ys)) := by
  refine RetP.ro rfl fn57 rfl rfl ?_
  unfold f57A
  have hbx := hx.bound
  have hby := hy.bound
  simp (disch := (first | assumption | omega | (simp only [List.length_append, List.length_cons, List.length_nil]; omega))) only [↓wD,wU,Nat.reduceBEq,zx150,zx151,zx159,zx160,zx161,zx162,Nat.reduceAdd,Nat.reduceSub,Nat.reduceMul,Nat.reduceLeDiff,Nat.reduceLT,Nat.reduceEqDiff,Int.reduceAdd,Int.reduceSub,Int.reduceMul,Int.reduceNeg,Int.reduceLT,Int.reduceLE,Int.reduceEq,Int.reduceToNat,Int.cast_ofNat_Int,↓reduceIte, hx.L]
  refine Wp.for xs.length (fun i a H' => H' = H ∧ a 0 = v ∧ a 1 = u ∧ a 2 = .fn 59 [] [] ∧ a 11 = v ∧ a 12 = .i xs.length ∧ a 13 = .i i ∧ i ≤ ys.length ∧ ∀ j, j < i → cmpL (gi xs (j : Int)) (gi ys (j : Int)) = 0) ?_ ?_
  · rintro i a H' hi ⟨rfl, a0, a1, a2, a11, a12, a13, hle, hh⟩ ih
    simp (disch := (first | assumption | omega | (simp only [List.length_append, List.length_cons, List.length_nil]; omega))) only [↓wD,wU,Nat.reduceBEq,zx150,zx151,zx159,zx160,zx161,zx162,Nat.reduceAdd,Nat.reduceSub,Nat.reduceMul,Nat.reduceLeDiff,Nat.reduceLT,Nat.reduceEqDiff,Int.reduceAdd,Int.reduceSub,Int.reduceMul,Int.reduceNeg,Int.reduceLT,Int.reduceLE,Int.reduceEq,Int.reduceToNat,Int.cast_ofNat_Int,↓reduceIte, a0, a1, a2, a11, a12, a13]
    have e := cmpT_drop hh hi hle
    refine condP_split (fun hlt => ?_) (fun hlt => ?_)
    · have hi' : i < xs.length := by omega
      have ex : xs.drop i = gi xs (i : Int) :: xs.drop (i + 1) := by rw [gi_nat hi']; exact List.drop_eq_getElem_cons hi'
      by_cases h2 : ys.length ≤ i
      · rw [ex, List.drop_of_length_le h2] at e
        have e' : cmpT xs ys = 1 := e
        have h2' : decide ((ys.length : Int) ≤ i) = true := decide_eq_true (by omega)
        simp (disch := (first | assumption | omega | (simp only [List.length_append, List.length_cons, List.length_nil]; omega))) only [↓wD,wU,Nat.reduceBEq,zx150,zx151,zx159,zx160,zx161,zx162,Nat.reduceAdd,Nat.reduceSub,Nat.reduceMul,Nat.reduceLeDiff,Nat.reduceLT,Nat.reduceEqDiff,Int.reduceAdd,Int.reduceSub,Int.reduceMul,Int.reduceNeg,Int.reduceLT,Int.reduceLE,Int.reduceEq,Int.reduceToNat,Int.cast_ofNat_Int,↓reduceIte, a0, a1, a2, a11, a12, a13, hx.L, hy.L, h2', e']
      · have h2' : decide ((ys.length : Int) ≤ i) = false := decide_eq_false (by omega)
        have ey : ys.drop i = gi ys (i : Int) :: ys.drop (i + 1) := by rw [gi_nat (by omega)]; exact List.drop_eq_getElem_cons (by omega)
        rw [ex, ey] at e
        have e2 : cmpT xs ys = if cmpL (gi xs (i : Int)) (gi ys (i : Int)) ≠ 0 then cmpL (gi xs (i : Int)) (gi ys (i : Int)) else cmpT (xs.drop (i + 1)) (ys.drop (i + 1)) := e
        have gx := hx.get (k := (i : Int)) (by omega) (by omega)
        have gy := hy.get (k := (i : Int)) (by omega) (by omega)
        obtain ⟨c, ec⟩ : ∃ c, cmpL (gi xs (i : Int)) (gi ys (i : Int)) = c := ⟨_, rfl⟩
        clear e ex ey
        by_cases h0 : c = 0
        · have h0' : decide (¬ cmpL (gi xs (i : Int)) (gi ys (i : Int)) = 0) = false := decide_eq_false fun q => q (by omega)
          simp (disch := (first | assumption | omega | (simp only [List.length_append, List.length_cons, List.length_nil]; omega))) only [↓wD,wU,Nat.reduceBEq,zx150,zx151,zx159,zx160,zx161,zx162,Nat.reduceAdd,Nat.reduceSub,Nat.reduceMul,Nat.reduceLeDiff,Nat.reduceLT,Nat.reduceEqDiff,Int.reduceAdd,Int.reduceSub,Int.reduceMul,Int.reduceNeg,Int.reduceLT,Int.reduceLE,Int.reduceEq,Int.reduceToNat,Int.cast_ofNat_Int,↓reduceIte, a0, a1, a2, a11, a12, a13, hx.L, hy.L, h2', (compare_ret gx gy).callv0, h0']
          refine (ih hi').go ⟨rfl, ?_⟩
          simp (disch := (first | assumption | omega | (simp only [List.length_append, List.length_cons, List.length_nil]; omega))) only [↓wD,wU,Nat.reduceBEq,zx150,zx151,zx159,zx160,zx161,zx162,Nat.reduceAdd,Nat.reduceSub,Nat.reduceMul,Nat.reduceLeDiff,Nat.reduceLT,Nat.reduceEqDiff,Int.reduceAdd,Int.reduceSub,Int.reduceMul,Int.reduceNeg,Int.reduceLT,Int.reduceLE,Int.reduceEq,Int.reduceToNat,Int.cast_ofNat_Int,↓reduceIte, a0, a1, a2, a11, a12, a13]
          refine ⟨by omega, fun j hj => ?_⟩
          by_cases ej : j = i
          · subst ej; omega
          · exact hh j (by omega)
        · have h0' : decide (¬ cmpL (gi xs (i : Int)) (gi ys (i : Int)) = 0) = true := decide_eq_true (by omega)
          rw [if_pos (by omega)] at e2
          simp (disch := (first | assumption | omega | (simp only [List.length_append, List.length_cons, List.length_nil]; omega))) only [↓wD,wU,Nat.reduceBEq,zx150,zx151,zx159,zx160,zx161,zx162,Nat.reduceAdd,Nat.reduceSub,Nat.reduceMul,Nat.reduceLeDiff,Nat.reduceLT,Nat.reduceEqDiff,Int.reduceAdd,Int.reduceSub,Int.reduceMul,Int.reduceNeg,Int.reduceLT,Int.reduceLE,Int.reduceEq,Int.reduceToNat,Int.cast_ofNat_Int,↓reduceIte, a0, a1, a2, a11, a12, a13, hx.L, hy.L, h2', (compare_ret gx gy).callv0, h0', e2]
    · obtain rfl : i = xs.length := by omega
      rw [List.drop_length] at e
      by_cases h2 : xs.length < ys.length
      · have ey : ys.drop xs.length = gi ys (xs.length : Int) :: ys.drop (xs.length + 1) := by rw [gi_nat h2]; exact List.drop_eq_getElem_cons h2
        rw [ey] at e
        have e' : cmpT xs ys = -1 := e
        have h2' : decide ((xs.length : Int) < ys.length) = true := decide_eq_true (by omega)
        simp (disch := (first | assumption | omega | (simp only [List.length_append, List.length_cons, List.length_nil]; omega))) only [↓wD,wU,Nat.reduceBEq,zx150,zx151,zx159,zx160,zx161,zx162,Nat.reduceAdd,Nat.reduceSub,Nat.reduceMul,Nat.reduceLeDiff,Nat.reduceLT,Nat.reduceEqDiff,Int.reduceAdd,Int.reduceSub,Int.reduceMul,Int.reduceNeg,Int.reduceLT,Int.reduceLE,Int.reduceEq,Int.reduceToNat,Int.cast_ofNat_Int,↓reduceIte, a0, a1, a2, a11, a12, a13, hx.L, hy.L, h2', e']
      · rw [List.drop_of_length_le (by omega)] at e
        have e' : cmpT xs ys = 0 := e
        have h2' : decide ((xs.length : Int) < ys.length) = false := decide_eq_false (by omega)
        simp (disch := (first | assumption | omega | (simp only [List.length_append, List.length_cons, List.length_nil]; omega))) only [↓wD,wU,Nat.reduceBEq,zx150,zx151,zx159,zx160,zx161,zx162,Nat.reduceAdd,Nat.reduceSub,Nat.reduceMul,Nat.reduceLeDiff,Nat.reduceLT,Nat.reduceEqDiff,Int.reduceAdd,Int.reduceSub,Int.reduceMul,Int.reduceNeg,Int.reduceLT,Int.reduceLE,Int.reduceEq,Int.reduceToNat,Int.cast_ofNat_Int,↓reduceIte, a0, a1, a2, a11, a12, a13, hx.L, hy.L, h2', e']
  · (simp (disch := (first | assumption | omega | (simp only [List.length_append, List.length_cons, List.length_nil]; omega))) only [↓wD,wU,Nat.reduceBEq,zx150,zx151,zx159,zx160,zx161,zx162,Nat.reduceAdd,Nat.reduceSub,Nat.reduceMul,Nat.reduceLeDiff,Nat.reduceLT,Nat.reduceEqDiff,Int.reduceAdd,Int.reduceSub,Int.reduceMul,Int.reduceNeg,Int.reduceLT,Int.reduceLE,Int.reduceEq,Int.reduceToNat,Int.cast_ofNat_Int,↓reduceIte]) <;> simp
theorem cmpL_zero : ∀ {xs ys : List Int}, cmpL xs ys = 0 ↔ xs = ys
  | [], [] => by simp [cmpL]
  | [], _ :: _ => by simp [cmpL]
  | _ :: _, [] => by simp [cmpL]
  | x :: xs, y :: ys => by
    have ih := cmpL_zero (xs := xs) (ys := ys)
    by_cases h1 : x < y
    · have : x ≠ y := by omega
      simp [cmpL, cmpI, h1, this]
    · by_cases h2 : y < x
      · have : x ≠ y := by omega
        simp [cmpL, cmpI, h1, h2, this]
      · have : x = y := by omega
        simp [cmpL, cmpI, h1, h2, this, ih]
theorem cmpT_eq : ∀ {xs ys : Tab}, cmpT xs ys = 0 ↔ xs = ys
  | [], [] => by simp [cmpT]
  | [], _ :: _ => by simp [cmpT]
  | _ :: _, [] => by simp [cmpT]
  | x :: xs, y :: ys => by
    have ih := cmpT_eq (xs := xs) (ys := ys)
    by_cases h : cmpL x y = 0
    · obtain rfl := cmpL_zero.1 h
      simp [cmpT, cmpL_refl, ih]
    · have : x ≠ y := fun e => h (cmpL_zero.2 e)
      simp [cmpT, h, this]
theorem cmp_tab {p q : Nat → Prop} {H : Heap} {v u : AV} {xs ys : Tab} (hx : Sl p H v xs) (hy : Sl q H u ys) : RetP E 92 [v, u] H (.i (cmpT xs ys)) := by
  refine RetP.ro rfl fn92 rfl rfl ?_
  unfold f92A
  simp (disch := (first | assumption | omega | (simp only [List.length_append, List.length_cons, List.length_nil]; omega))) only [↓wD,wU,Nat.reduceBEq,zx150,zx151,zx159,zx160,zx161,zx162,Nat.reduceAdd,Nat.reduceSub,Nat.reduceMul,Nat.reduceLeDiff,Nat.reduceLT,Nat.reduceEqDiff,Int.reduceAdd,Int.reduceSub,Int.reduceMul,Int.reduceNeg,Int.reduceLT,Int.reduceLE,Int.reduceEq,Int.reduceToNat,Int.cast_ofNat_Int,↓reduceIte, (compareS_ret hx hy).call]
def akin (s t : Tab) : Prop := rowSums s = rowSums t ∧ colSums s = colSums t
instance {s t : Tab} : Decidable (akin s t) := by unfold akin; infer_instance
theorem both_ret {p q : Nat → Prop} {H : Heap} {v u : AV} {s t : Tab} (hs : Sl p H v s) (ht : Sl q H u t) (h1 : TabOk s) (h2 : TabOk t) : RetP E 90 [v, u] H (.b (decide (akin s t))) := by
  refine RetP.ro rfl fn90 rfl rfl ?_
  unfold f90A
  simp (disch := (first | assumption | omega | (simp only [List.length_append, List.length_cons, List.length_nil]; omega))) only [↓wD,wU,Nat.reduceBEq,zx150,zx151,zx159,zx160,zx161,zx162,Nat.reduceAdd,Nat.reduceSub,Nat.reduceMul,Nat.reduceLeDiff,Nat.reduceLT,Nat.reduceEqDiff,Int.reduceAdd,Int.reduceSub,Int.reduceMul,Int.reduceNeg,Int.reduceLT,Int.reduceLE,Int.reduceEq,Int.reduceToNat,Int.cast_ofNat_Int,↓reduceIte]
  refine (family_ret hs h1).toX fun w Hr x1 hw => ?_
  obtain ⟨cs, rfl, c1, c2, rfl, ⟨v1, rfl, q1⟩, ⟨v2, rfl, q2⟩⟩ := hw
  simp only [List.singleton_append, List.cons_append, List.nil_append]
  have hl1 := x1.1
  simp (disch := (first | assumption | omega | (simp only [List.length_append, List.length_cons, List.length_nil]; omega))) only [↓wD,wU,Nat.reduceBEq,zx150,zx151,zx159,zx160,zx161,zx162,Nat.reduceAdd,Nat.reduceSub,Nat.reduceMul,Nat.reduceLeDiff,Nat.reduceLT,Nat.reduceEqDiff,Int.reduceAdd,Int.reduceSub,Int.reduceMul,Int.reduceNeg,Int.reduceLT,Int.reduceLE,Int.reduceEq,Int.reduceToNat,Int.cast_ofNat_Int,↓reduceIte]
  refine (family_ret (ht.kp (x1.all _).kp) h2).toX fun w H2 x2 hw => ?_
  obtain ⟨cs, rfl, c1, c2, rfl, ⟨v3, rfl, q3⟩, ⟨v4, rfl, q4⟩⟩ := hw
  simp only [List.singleton_append, List.cons_append, List.nil_append]
  have hl2 := x2.1
  replace q1 : Sl (fun _ => True) H2 v1 (rowSums s) := (q1.weak fun _ _ => trivial).kp (x2.all _).kp
  replace q2 : Sl (fun _ => True) H2 v2 (colSums s) := (q2.weak fun _ _ => trivial).kp (x2.all _).kp
  replace q3 : Sl (fun _ => True) H2 v3 (rowSums t) := q3.weak fun _ _ => trivial
  replace q4 : Sl (fun _ => True) H2 v4 (colSums t) := q4.weak fun _ _ => trivial
  have k1 := (q1.app [.cells [v1, v2]]).app [.cells [v3, v4]]
  have k2 := (q2.app [.cells [v1, v2]]).app [.cells [v3, v4]]
  have k3 := (q3.app [.cells [v1, v2]]).app [.cells [v3, v4]]
  have k4 := (q4.app [.cells [v1, v2]]).app [.cells [v3, v4]]
  have e1 := equal_ret k1 k3
  have e2 := equal_ret k2 k4
  have sA : Go.AM.st H.length (H2 ++ [Blk.cells [.nils, .nils]] ++ [Blk.cells [.nils, .nils]]) H2.length 0 [v1, v2] = some (H2 ++ [Blk.cells [v1, v2]] ++ [Blk.cells [.nils, .nils]]) := by
    rw [st_of (by rw [List.getElem?_append_left (by simp)]; exact get_last) (by omega) (by simp)]
    rw [List.set_append_left _ _ (by simp)]
    simp [wr]
  have sB : Go.AM.st H.length (H2 ++ [Blk.cells [v1, v2]] ++ [Blk.cells [.nils, .nils]]) (H2.length + 1) 0 [v3, v4] = some (H2 ++ [Blk.cells [v1, v2]] ++ [Blk.cells [v3, v4]]) := by
    rw [st_of (cs := [.nils, .nils]) (by rw [List.getElem?_append_right (by simp)]; simp) (by omega) (by simp)]
    rw [List.set_append_right _ _ (by simp)]
    simp [wr]
  have d1 : decide (akin s t) = (decide (rowSums s = rowSums t) && decide (colSums s = colSums t)) := by by_cases a : rowSums s = rowSums t <;> by_cases b : colSums s = colSums t <;> simp [akin, a, b]
  rw [d1]
  by_cases g1 : rowSums s = rowSums t
  · rw [decide_eq_true g1] at e1 ⊢
    simp (disch := (first | assumption | omega | (simp only [List.length_append, List.length_cons, List.length_nil]; omega))) only [↓wD,wU,Nat.reduceBEq,zx150,zx151,zx159,zx160,zx161,zx162,Nat.reduceAdd,Nat.reduceSub,Nat.reduceMul,Nat.reduceLeDiff,Nat.reduceLT,Nat.reduceEqDiff,Int.reduceAdd,Int.reduceSub,Int.reduceMul,Int.reduceNeg,Int.reduceLT,Int.reduceLE,Int.reduceEq,Int.reduceToNat,Int.cast_ofNat_Int,↓reduceIte, q1.cellsV, q2.cellsV, q3.cellsV, q4.cellsV, sA, sB, e1.call, e2.call]
  · rw [decide_eq_false g1] at e1 ⊢
    simp (disch := (first | assumption | omega | (simp only [List.length_append, List.length_cons, List.length_nil]; omega))) only [↓wD,wU,Nat.reduceBEq,zx150,zx151,zx159,zx160,zx161,zx162,Nat.reduceAdd,Nat.reduceSub,Nat.reduceMul,Nat.reduceLeDiff,Nat.reduceLT,Nat.reduceEqDiff,Int.reduceAdd,Int.reduceSub,Int.reduceMul,Int.reduceNeg,Int.reduceLT,Int.reduceLE,Int.reduceEq,Int.reduceToNat,Int.cast_ofNat_Int,↓reduceIte, q1.cellsV, q2.cellsV, q3.cellsV, q4.cellsV, sA, sB, e1.call]
theorem akin_kin {s t : Tab} (ht : TabOk t) : akin s t ↔ Kin s t := ⟨fun h => ⟨ht, h.1.symm, h.2.symm⟩, fun h => ⟨h.row.symm, h.col.symm⟩⟩
end Go.Proofs.Ytflekaacffdakaa
