/- What the law needs: what its functions do, and the laws on lists behind it. No condition. -/
import Derived.Test.YtmmbakggmlfffaaPi
import Derived.Test.YtmmbakggmlfffaaBo
import Derived.Laws.StructEq
import Derived.KernelRfl
import Derived.WalkKit
import Derived.ProofKit
import Derived.OpenShut
import Derived.ShutString
import Derived.ChangeOld
import Derived.Below
import Derived.SizedLaws
import Derived.Carry
set_option linter.unusedSimpArgs false
set_option linter.unusedVariables false
namespace Go.Proofs.Ytmmbakggmlfffaa
open Go Go.AM Go.Proofs
theorem clone_ret {p : Nat → Prop} {H : Heap} {v : AV} {xs : List Int} (hx : Sl p H v xs) (hs : xs.length * 8 ≤ 1099511627776) : Ret E 18 [v] (fun _ => False) H xs := by
  refine Ret.ro rfl fn18 rfl ?_
  unfold f18A
  have main : ∀ {Q : AV × Heap → Prop}, (∀ v' H', Sl (fun b => H.length ≤ b) H' v' xs → Q (v', H')) → @optP _ (appendV H.length 1 8 (.s 1 H.length 0 0 (some 0)) v (H ++ [.cells []])) ⟨Q⟩ := fun {Q} go => by
    have ha : Acc H.length (fun _ => True) (H ++ [.cells []]) (.s 1 H.length 0 0 (some 0)) ([] : List Int) := Acc.fresh0 (Nat.le_refl _)
    refine ha.extend (q := fun b => b < H.length) (Nat.le_refl _) (by simp) ((hx.low.app [.cells []]).weak fun b h => h.2) (fun b hb => ⟨trivial, ?_⟩) (by simpa using hs) (by omega) fun v' H' h' _ => go _ _ ?_
    · intro e; simp only [AV.blk, Option.some.injEq] at e; omega
    · rw [List.nil_append] at h'
      rcases h' with h' | ⟨b, o, c, k, e, hb, hk, h1, h2, h3⟩
      · exact .inl h'
      · exact .inr ⟨b, o, c, k, e, hb, hk, h1, h2, h3⟩
  rcases hx with ⟨rfl, rfl⟩ | ⟨b, o, c, k, e, hb, hk, h1, h2, h3⟩
  · simp (disch := (first | assumption | omega | (simp only [List.length_append, List.length_cons, List.length_nil]; omega))) only [↓wD,wU,Nat.reduceBEq,zx150,zx151,zx159,zx160,zx161,zx162,Nat.reduceAdd,Nat.reduceSub,Nat.reduceMul,Nat.reduceLeDiff,Nat.reduceLT,Nat.reduceEqDiff,Int.reduceAdd,Int.reduceSub,Int.reduceMul,Int.reduceNeg,Int.reduceLT,Int.reduceLE,Int.reduceEq,Int.reduceToNat,Int.cast_ofNat_Int,↓reduceIte, *]
    exact Sl.nil
  · subst e
    simp (disch := (first | assumption | omega | (simp only [List.length_append, List.length_cons, List.length_nil]; omega))) only [↓wD,wU,Nat.reduceBEq,zx150,zx151,zx159,zx160,zx161,zx162,Nat.reduceAdd,Nat.reduceSub,Nat.reduceMul,Nat.reduceLeDiff,Nat.reduceLT,Nat.reduceEqDiff,Int.reduceAdd,Int.reduceSub,Int.reduceMul,Int.reduceNeg,Int.reduceLT,Int.reduceLE,Int.reduceEq,Int.reduceToNat,Int.cast_ofNat_Int,↓reduceIte, *]
    refine main fun v' H' h' => ?_
    simp (disch := (first | assumption | omega | (simp only [List.length_append, List.length_cons, List.length_nil]; omega))) only [↓wD,wU,Nat.reduceBEq,zx150,zx151,zx159,zx160,zx161,zx162,Nat.reduceAdd,Nat.reduceSub,Nat.reduceMul,Nat.reduceLeDiff,Nat.reduceLT,Nat.reduceEqDiff,Int.reduceAdd,Int.reduceSub,Int.reduceMul,Int.reduceNeg,Int.reduceLT,Int.reduceLE,Int.reduceEq,Int.reduceToNat,Int.cast_ofNat_Int,↓reduceIte, *]
    exact h'.weak fun _ h => .inr h
end Go.Proofs.Ytmmbakggmlfffaa
namespace Go.Proofs.Ytmmbakggmlfffaa
open Go Go.AM Go.Proofs
def OkN (xs : List Int) : Prop := ∀ x ∈ xs, 0 ≤ x ∧ x ≤ 16
instance (xs : List Int) : Decidable (OkN xs) := by unfold OkN; infer_instance
def RowOk (n : Nat) (r : List Int) : Prop := 1 ≤ r.length ∧ r.length ≤ 3 ∧ r.length = n ∧ OkN r
def TabOk (t : List (List Int)) : Prop := 1 ≤ t.length ∧ t.length ≤ 3 ∧ (∀ r ∈ t, RowOk (gi t 0).length r) ∧ (t.map List.sum).sum ≤ 16
instance (n : Nat) (r : List Int) : Decidable (RowOk n r) := by unfold RowOk; infer_instance
instance (t : List (List Int)) : Decidable (TabOk t) := by unfold TabOk; infer_instance
theorem isSums_ret {p : Nat → Prop} {H : Heap} {v : AV} {xs : List Int} (hx : Sl p H v xs) (hl : xs.length ≤ 100) : RetP E 39 [v] H (.b (decide (OkN xs ∧ xs.sum ≤ 16))) := by
  refine RetP.ro rfl fn39 rfl rfl ?_
  unfold f39A
  simp (disch := (first | assumption | omega | (simp only [List.length_append, List.length_cons, List.length_nil]; omega))) only [↓wD,wU,Nat.reduceBEq,zx150,zx151,zx159,zx160,zx161,zx162,Nat.reduceAdd,Nat.reduceSub,Nat.reduceMul,Nat.reduceLeDiff,Nat.reduceLT,Nat.reduceEqDiff,Int.reduceAdd,Int.reduceSub,Int.reduceMul,Int.reduceNeg,Int.reduceLT,Int.reduceLE,Int.reduceEq,Int.reduceToNat,Int.cast_ofNat_Int,↓reduceIte, *, hx.I]
  refine Wp.for xs.length (fun i a H' => H' = H ∧ a 6 = v ∧ a 7 = .i xs.length ∧ a 8 = .i i ∧ a 3 = .i (xs.take i).sum ∧ OkN (xs.take i)) ?_ ?_
  · rintro i a H' hi ⟨rfl, h6, h7, h8, h3, hh⟩ ih
    have hb := sum_bound hh
    have hb2 : (xs.take i).length ≤ 100 := by rw [List.length_take]; omega
    simp (disch := (first | assumption | omega | (simp only [List.length_append, List.length_cons, List.length_nil]; omega))) only [↓wD,wU,Nat.reduceBEq,zx150,zx151,zx159,zx160,zx161,zx162,Nat.reduceAdd,Nat.reduceSub,Nat.reduceMul,Nat.reduceLeDiff,Nat.reduceLT,Nat.reduceEqDiff,Int.reduceAdd,Int.reduceSub,Int.reduceMul,Int.reduceNeg,Int.reduceLT,Int.reduceLE,Int.reduceEq,Int.reduceToNat,Int.cast_ofNat_Int,↓reduceIte, *]
    refine condP_split (fun hlt => ?_) (fun hlt => ?_)
    · have hi' : i < xs.length := by omega
      (repeat' (first | refine condP_split (fun _ => ?_) (fun _ => ?_) | refine guardP_split (fun _ => ?_) (fun _ => ?_) | refine guardP_splitF (fun _ => ?_) (fun _ => ?_) | (simp (disch := (first | assumption | omega | (simp only [List.length_append, List.length_cons, List.length_nil]; omega))) only [↓wD,wU,Nat.reduceBEq,zx150,zx151,zx159,zx160,zx161,zx162,Nat.reduceAdd,Nat.reduceSub,Nat.reduceMul,Nat.reduceLeDiff,Nat.reduceLT,Nat.reduceEqDiff,Int.reduceAdd,Int.reduceSub,Int.reduceMul,Int.reduceNeg,Int.reduceLT,Int.reduceLE,Int.reduceEq,Int.reduceToNat,Int.cast_ofNat_Int,↓reduceIte, *, hx.I]))) <;> first
        | exact avb_f fun h => by have := h.1 _ (mem_gi hi'); omega
        | skip
      refine (ih hi').go ⟨rfl, ?_⟩
      have hg : 0 ≤ gi xs i ∧ gi xs i ≤ 16 := by omega
      rw [sum_take hi']
      simp (disch := (first | assumption | omega | (simp only [List.length_append, List.length_cons, List.length_nil]; omega))) only [↓wD,wU,Nat.reduceBEq,zx150,zx151,zx159,zx160,zx161,zx162,Nat.reduceAdd,Nat.reduceSub,Nat.reduceMul,Nat.reduceLeDiff,Nat.reduceLT,Nat.reduceEqDiff,Int.reduceAdd,Int.reduceSub,Int.reduceMul,Int.reduceNeg,Int.reduceLT,Int.reduceLE,Int.reduceEq,Int.reduceToNat,Int.cast_ofNat_Int,↓reduceIte, *]
      exact mem_take_gi hh hi' hg
    · simp (disch := (first | assumption | omega | (simp only [List.length_append, List.length_cons, List.length_nil]; omega))) only [↓wD,wU,Nat.reduceBEq,zx150,zx151,zx159,zx160,zx161,zx162,Nat.reduceAdd,Nat.reduceSub,Nat.reduceMul,Nat.reduceLeDiff,Nat.reduceLT,Nat.reduceEqDiff,Int.reduceAdd,Int.reduceSub,Int.reduceMul,Int.reduceNeg,Int.reduceLT,Int.reduceLE,Int.reduceEq,Int.reduceToNat,Int.cast_ofNat_Int,↓reduceIte, *]
      have e : xs.take i = xs := List.take_of_length_le (by omega)
      rw [e] at hh ⊢
      simp [hh]
  · (simp (disch := (first | assumption | omega | (simp only [List.length_append, List.length_cons, List.length_nil]; omega))) only [↓wD,wU,Nat.reduceBEq,zx150,zx151,zx159,zx160,zx161,zx162,Nat.reduceAdd,Nat.reduceSub,Nat.reduceMul,Nat.reduceLeDiff,Nat.reduceLT,Nat.reduceEqDiff,Int.reduceAdd,Int.reduceSub,Int.reduceMul,Int.reduceNeg,Int.reduceLT,Int.reduceLE,Int.reduceEq,Int.reduceToNat,Int.cast_ofNat_Int,↓reduceIte, *]) <;> simp [OkN]
theorem sum_nonneg {xs : List Int} (h : ∀ x ∈ xs, 0 ≤ x) : 0 ≤ xs.sum := by
  induction xs with
  | nil => simp
  | cons x xs ih => have := h x (by simp); have := ih fun y hy => h y (by simp [hy]); simp only [List.sum_cons]; omega
theorem le_sum {xs : List Int} (h : ∀ x ∈ xs, 0 ≤ x) {x : Int} (hx : x ∈ xs) : x ≤ xs.sum := by
  induction xs with
  | nil => cases hx
  | cons y xs ih =>
    have h0 := h y (by simp)
    have h1 := sum_nonneg fun z hz => h z (List.mem_cons_of_mem _ hz)
    simp only [List.sum_cons]
    rcases List.mem_cons.1 hx with rfl | hx
    · omega
    · have := ih (fun z hz => h z (List.mem_cons_of_mem _ hz)) hx; omega
theorem row_le_total {t : List (List Int)} (h : TabOk t) {r : List Int} (hr : r ∈ t) : r.sum ≤ 16 := by
  have h1 : ∀ x ∈ t.map List.sum, 0 ≤ x := by
    intro x hx
    obtain ⟨s, hs, rfl⟩ := List.mem_map.1 hx
    exact sum_nonneg fun y hy => ((h.2.2.1 s hs).2.2.2 y hy).1
  have := le_sum h1 (List.mem_map_of_mem hr)
  have := h.2.2.2
  omega
theorem valid_ret {p : Nat → Prop} {H : Heap} {v : AV} {t : List (List Int)} (ht : Sl p H v t) : RetP E 21 [v] H (.b (decide (TabOk t))) := by
  refine RetP.ro rfl fn21 rfl rfl ?_
  unfold f21A
  (repeat' (first | refine condP_split (fun _ => ?_) (fun _ => ?_) | refine guardP_split (fun _ => ?_) (fun _ => ?_) | refine guardP_splitF (fun _ => ?_) (fun _ => ?_) | (simp (disch := (first | assumption | omega | (simp only [List.length_append, List.length_cons, List.length_nil]; omega))) only [↓wD,wU,Nat.reduceBEq,zx150,zx151,zx159,zx160,zx161,zx162,Nat.reduceAdd,Nat.reduceSub,Nat.reduceMul,Nat.reduceLeDiff,Nat.reduceLT,Nat.reduceEqDiff,Int.reduceAdd,Int.reduceSub,Int.reduceMul,Int.reduceNeg,Int.reduceLT,Int.reduceLE,Int.reduceEq,Int.reduceToNat,Int.cast_ofNat_Int,↓reduceIte, *, ht.L]))) <;> first
    | exact avb_f fun h => by have := h.1; have := h.2.1; omega
    | skip
  refine Wp.for t.length (fun i a H' => H' = H ∧ a 0 = v ∧ a 16 = v ∧ a 17 = .i t.length ∧ a 18 = .i i ∧ a 3 = .i ((t.take i).map List.sum).sum ∧ (∀ r ∈ t.take i, RowOk (gi t 0).length r) ∧ 0 ≤ ((t.take i).map List.sum).sum ∧ ((t.take i).map List.sum).sum ≤ i * 48) ?_ ?_
  · rintro i a H' hi ⟨rfl, h0, h16, h17, h18, h3, hh, hp, hq⟩ ih
    simp (disch := (first | assumption | omega | (simp only [List.length_append, List.length_cons, List.length_nil]; omega))) only [↓wD,wU,Nat.reduceBEq,zx150,zx151,zx159,zx160,zx161,zx162,Nat.reduceAdd,Nat.reduceSub,Nat.reduceMul,Nat.reduceLeDiff,Nat.reduceLT,Nat.reduceEqDiff,Int.reduceAdd,Int.reduceSub,Int.reduceMul,Int.reduceNeg,Int.reduceLT,Int.reduceLE,Int.reduceEq,Int.reduceToNat,Int.cast_ofNat_Int,↓reduceIte, *]
    refine condP_split (fun hlt => ?_) (fun hlt => ?_)
    · have hi' : i < t.length := by omega
      have g := ht.get (k := (i : Int)) (by omega) (by omega)
      have g0 := ht.get (k := (0 : Int)) (by omega) (by omega)
      by_cases hr : RowOk (gi t 0).length (gi t i)
      · obtain ⟨hr1, hr2, hr3, hr4⟩ := hr
        have hgb := sum_bound hr4
        (repeat' (first | refine condP_split (fun _ => ?_) (fun _ => ?_) | refine guardP_split (fun _ => ?_) (fun _ => ?_) | refine guardP_splitF (fun _ => ?_) (fun _ => ?_) | (simp (disch := (first | assumption | omega | (simp only [List.length_append, List.length_cons, List.length_nil]; omega))) only [↓wD,wU,Nat.reduceBEq,zx150,zx151,zx159,zx160,zx161,zx162,Nat.reduceAdd,Nat.reduceSub,Nat.reduceMul,Nat.reduceLeDiff,Nat.reduceLT,Nat.reduceEqDiff,Int.reduceAdd,Int.reduceSub,Int.reduceMul,Int.reduceNeg,Int.reduceLT,Int.reduceLE,Int.reduceEq,Int.reduceToNat,Int.cast_ofNat_Int,↓reduceIte, *, ht.L, g.I, g0.I, (isSums_ret g (by omega)).call])))
        · exact avb_f fun h => by have := row_le_total h (mem_gi hi'); simp_all
        refine Wp.for (gi t i).length (fun j a H'' => H'' = H' ∧ a 0 = v ∧ a 16 = v ∧ a 17 = .i t.length ∧ a 18 = .i i ∧ a 44 = v.get H' i ∧ a 45 = .i (gi t i).length ∧ a 46 = .i j ∧ a 3 = .i (((t.take i).map List.sum).sum + ((gi t i).take j).sum)) ?_ ?_
        · clear h0 h16 h17 h18 h3
          rintro j a H' hj ⟨rfl, h0, h16, h17, h18, h44, h45, h46, h3⟩ ih2
          have hb1 : OkN ((gi t i).take j) := fun x hx => hr4 x (List.mem_of_mem_take hx)
          have hb2 := sum_bound hb1
          have hb3 : ((gi t i).take j).length ≤ 3 := by rw [List.length_take]; omega
          simp (disch := (first | assumption | omega | (simp only [List.length_append, List.length_cons, List.length_nil]; omega))) only [↓wD,wU,Nat.reduceBEq,zx150,zx151,zx159,zx160,zx161,zx162,Nat.reduceAdd,Nat.reduceSub,Nat.reduceMul,Nat.reduceLeDiff,Nat.reduceLT,Nat.reduceEqDiff,Int.reduceAdd,Int.reduceSub,Int.reduceMul,Int.reduceNeg,Int.reduceLT,Int.reduceLE,Int.reduceEq,Int.reduceToNat,Int.cast_ofNat_Int,↓reduceIte, *]
          refine condP_split (fun hlt => ?_) (fun hlt => ?_)
          · have hj' : j < (gi t i).length := by omega
            have hg := hr4 _ (mem_gi hj')
            simp (disch := (first | assumption | omega | (simp only [List.length_append, List.length_cons, List.length_nil]; omega))) only [↓wD,wU,Nat.reduceBEq,zx150,zx151,zx159,zx160,zx161,zx162,Nat.reduceAdd,Nat.reduceSub,Nat.reduceMul,Nat.reduceLeDiff,Nat.reduceLT,Nat.reduceEqDiff,Int.reduceAdd,Int.reduceSub,Int.reduceMul,Int.reduceNeg,Int.reduceLT,Int.reduceLE,Int.reduceEq,Int.reduceToNat,Int.cast_ofNat_Int,↓reduceIte, *, g.I]
            refine (ih2 hj').go ⟨rfl, ?_⟩
            rw [sum_take hj']
            simp (disch := (first | assumption | omega | (simp only [List.length_append, List.length_cons, List.length_nil]; omega))) only [↓wD,wU,Nat.reduceBEq,zx150,zx151,zx159,zx160,zx161,zx162,Nat.reduceAdd,Nat.reduceSub,Nat.reduceMul,Nat.reduceLeDiff,Nat.reduceLT,Nat.reduceEqDiff,Int.reduceAdd,Int.reduceSub,Int.reduceMul,Int.reduceNeg,Int.reduceLT,Int.reduceLE,Int.reduceEq,Int.reduceToNat,Int.cast_ofNat_Int,↓reduceIte, *]
            rw [Int.add_assoc]
          · simp (disch := (first | assumption | omega | (simp only [List.length_append, List.length_cons, List.length_nil]; omega))) only [↓wD,wU,Nat.reduceBEq,zx150,zx151,zx159,zx160,zx161,zx162,Nat.reduceAdd,Nat.reduceSub,Nat.reduceMul,Nat.reduceLeDiff,Nat.reduceLT,Nat.reduceEqDiff,Int.reduceAdd,Int.reduceSub,Int.reduceMul,Int.reduceNeg,Int.reduceLT,Int.reduceLE,Int.reduceEq,Int.reduceToNat,Int.cast_ofNat_Int,↓reduceIte, *]
            have e : ((gi t i).take j).sum = (gi t i).sum := sum_take_all (by omega)
            refine (ih hi').go ⟨rfl, ?_⟩
            have e2 : ((t.take (i + 1)).map List.sum).sum = ((t.take i).map List.sum).sum + (gi t i).sum := by rw [take_gi hi', List.map_append, List.sum_append]; simp
            rw [e2, ← e]
            simp (disch := (first | assumption | omega | (simp only [List.length_append, List.length_cons, List.length_nil]; omega))) only [↓wD,wU,Nat.reduceBEq,zx150,zx151,zx159,zx160,zx161,zx162,Nat.reduceAdd,Nat.reduceSub,Nat.reduceMul,Nat.reduceLeDiff,Nat.reduceLT,Nat.reduceEqDiff,Int.reduceAdd,Int.reduceSub,Int.reduceMul,Int.reduceNeg,Int.reduceLT,Int.reduceLE,Int.reduceEq,Int.reduceToNat,Int.cast_ofNat_Int,↓reduceIte, *]
            exact ⟨mem_take_gi hh hi' ⟨hr1, hr2, hr3, hr4⟩, by omega, by omega⟩
        · (simp (disch := (first | assumption | omega | (simp only [List.length_append, List.length_cons, List.length_nil]; omega))) only [↓wD,wU,Nat.reduceBEq,zx150,zx151,zx159,zx160,zx161,zx162,Nat.reduceAdd,Nat.reduceSub,Nat.reduceMul,Nat.reduceLeDiff,Nat.reduceLT,Nat.reduceEqDiff,Int.reduceAdd,Int.reduceSub,Int.reduceMul,Int.reduceNeg,Int.reduceLT,Int.reduceLE,Int.reduceEq,Int.reduceToNat,Int.cast_ofNat_Int,↓reduceIte, *]) <;> simp
      · have hr' : ¬ TabOk t := fun h => hr (h.2.2.1 _ (mem_gi hi'))
        (repeat' (first | refine condP_split (fun _ => ?_) (fun _ => ?_) | refine guardP_split (fun _ => ?_) (fun _ => ?_) | refine guardP_splitF (fun _ => ?_) (fun _ => ?_) | (simp (disch := (first | assumption | omega | (simp only [List.length_append, List.length_cons, List.length_nil]; omega))) only [↓wD,wU,Nat.reduceBEq,zx150,zx151,zx159,zx160,zx161,zx162,Nat.reduceAdd,Nat.reduceSub,Nat.reduceMul,Nat.reduceLeDiff,Nat.reduceLT,Nat.reduceEqDiff,Int.reduceAdd,Int.reduceSub,Int.reduceMul,Int.reduceNeg,Int.reduceLT,Int.reduceLE,Int.reduceEq,Int.reduceToNat,Int.cast_ofNat_Int,↓reduceIte, *, ht.L, g.I, g0.I]))) <;> first
          | exact avb_f hr'
          | skip
        (repeat' (first | refine condP_split (fun _ => ?_) (fun _ => ?_) | refine guardP_split (fun _ => ?_) (fun _ => ?_) | refine guardP_splitF (fun _ => ?_) (fun _ => ?_) | (simp (disch := (first | assumption | omega | (simp only [List.length_append, List.length_cons, List.length_nil]; omega))) only [↓wD,wU,Nat.reduceBEq,zx150,zx151,zx159,zx160,zx161,zx162,Nat.reduceAdd,Nat.reduceSub,Nat.reduceMul,Nat.reduceLeDiff,Nat.reduceLT,Nat.reduceEqDiff,Int.reduceAdd,Int.reduceSub,Int.reduceMul,Int.reduceNeg,Int.reduceLT,Int.reduceLE,Int.reduceEq,Int.reduceToNat,Int.cast_ofNat_Int,↓reduceIte, *, (isSums_ret g (by omega)).call]))) <;> first
          | exact avb_f hr'
          | skip
        rename_i q
        exact absurd ⟨by omega, by omega, by omega, (Decidable.not_not.1 q).1⟩ hr
    · simp (disch := (first | assumption | omega | (simp only [List.length_append, List.length_cons, List.length_nil]; omega))) only [↓wD,wU,Nat.reduceBEq,zx150,zx151,zx159,zx160,zx161,zx162,Nat.reduceAdd,Nat.reduceSub,Nat.reduceMul,Nat.reduceLeDiff,Nat.reduceLT,Nat.reduceEqDiff,Int.reduceAdd,Int.reduceSub,Int.reduceMul,Int.reduceNeg,Int.reduceLT,Int.reduceLE,Int.reduceEq,Int.reduceToNat,Int.cast_ofNat_Int,↓reduceIte, *]
      have e : t.take i = t := List.take_of_length_le (by omega)
      rw [e] at hh ⊢
      congr 1
      exact decide_eq_decide.2 ⟨fun h => ⟨by omega, by omega, hh, h⟩, fun h => h.2.2.2⟩
  · (simp (disch := (first | assumption | omega | (simp only [List.length_append, List.length_cons, List.length_nil]; omega))) only [↓wD,wU,Nat.reduceBEq,zx150,zx151,zx159,zx160,zx161,zx162,Nat.reduceAdd,Nat.reduceSub,Nat.reduceMul,Nat.reduceLeDiff,Nat.reduceLT,Nat.reduceEqDiff,Int.reduceAdd,Int.reduceSub,Int.reduceMul,Int.reduceNeg,Int.reduceLT,Int.reduceLE,Int.reduceEq,Int.reduceToNat,Int.cast_ofNat_Int,↓reduceIte, *]) <;> simp
end Go.Proofs.Ytmmbakggmlfffaa
namespace Go.Proofs.Ytmmbakggmlfffaa
open Go Go.AM Go.Proofs
theorem gi_map_range {α : Type} [Inhabited α] {n j : Nat} {f : Nat → α} (h : j < n) : gi ((List.range n).map f) (j : Int) = f j := by
  rw [gi_nat (by simpa using h)]; simp
theorem set_map_range {α : Type} {n j : Nat} {f : Nat → α} {y : α} : ((List.range n).map f).set j y = (List.range n).map fun c => if c = j then y else f c := by
  apply List.ext_getElem (by simp)
  intro i h1 h2
  simp only [List.getElem_set, List.getElem_map, List.getElem_range]
  by_cases h : j = i
  · subst h; simp
  · rw [if_neg h, if_neg (fun e => h e.symm)]
theorem map_range_congr {α : Type} {n : Nat} {f g : Nat → α} (h : ∀ c, c < n → f c = g c) : (List.range n).map f = (List.range n).map g :=
  List.map_congr_left fun c hc => h c (List.mem_range.1 hc)
def colPart (t : List (List Int)) (i j : Nat) : Int := ((t.take i).map fun r => gi r (j : Int)).sum
def colSums (t : List (List Int)) : List Int := (List.range (gi t 0).length).map fun j => colPart t t.length j
def rowSums (t : List (List Int)) : List Int := t.map List.sum
theorem colPart_succ {t : List (List Int)} {i j : Nat} (h : i < t.length) : colPart t (i + 1) j = colPart t i j + gi (gi t i) j := by
  simp [colPart, take_gi h, List.map_append, List.sum_append]
theorem colPart_0 {t : List (List Int)} {j : Nat} : colPart t 0 j = 0 := by simp [colPart]
theorem TabOk.entry {t : List (List Int)} (h : TabOk t) {i j : Nat} (hi : i < t.length) (hj : j < (gi t 0).length) : 0 ≤ gi (gi t i) j ∧ gi (gi t i) j ≤ 16 := by
  have h1 := h.2.2.1 _ (mem_gi hi)
  exact h1.2.2.2 _ (mem_gi (by rw [h1.2.2.1]; exact hj))
theorem TabOk.width {t : List (List Int)} (h : TabOk t) {i : Nat} (hi : i < t.length) : (gi t i).length = (gi t 0).length := (h.2.2.1 _ (mem_gi hi)).2.2.1
theorem TabOk.cols {t : List (List Int)} (h : TabOk t) : 1 ≤ (gi t 0).length ∧ (gi t 0).length ≤ 3 := by
  have h1 := h.2.2.1 _ (mem_gi (i := 0) h.1)
  exact ⟨h1.1, h1.2.1⟩
theorem TabOk.colPart {t : List (List Int)} (h : TabOk t) {i j : Nat} (hj : j < (gi t 0).length) : 0 ≤ colPart t i j ∧ colPart t i j ≤ 48 := by
  have h1 : ∀ x ∈ (t.take i).map fun r => gi r (j : Int), 0 ≤ x ∧ x ≤ 16 := by
    intro x hx
    obtain ⟨r, hr, rfl⟩ := List.mem_map.1 hx
    have hr' := h.2.2.1 r (List.mem_of_mem_take hr)
    exact hr'.2.2.2 _ (mem_gi (by rw [hr'.2.2.1]; exact hj))
  have h2 := sum_bound h1
  have h3 : ((t.take i).map fun r => gi r (j : Int)).length ≤ 3 := by have := h.2.1; simp; omega
  unfold Go.Proofs.Ytmmbakggmlfffaa.colPart
  omega
theorem sums_ret {p : Nat → Prop} {H : Heap} {v : AV} {t : List (List Int)} (ht : Sl p H v t) (h : TabOk t) : Ret E 22 [v] (fun _ => False) H (T2.mk (rowSums t) (colSums t)) := by
  refine Ret.ro rfl fn22 rfl ?_
  unfold f22A
  have hc := h.cols
  have hl := h.1
  have hl3 := h.2.1
  replace ht : Sl (fun b => b < H.length) H v t := ht.low.weak fun _ h => h.2
  have g0 := ht.get (k := (0 : Int)) (by omega) (by omega)
  simp (disch := (first | assumption | omega | (simp only [List.length_append, List.length_cons, List.length_nil]; omega))) only [↓wD,wU,Nat.reduceBEq,zx150,zx151,zx159,zx160,zx161,zx162,Nat.reduceAdd,Nat.reduceSub,Nat.reduceMul,Nat.reduceLeDiff,Nat.reduceLT,Nat.reduceEqDiff,Int.reduceAdd,Int.reduceSub,Int.reduceMul,Int.reduceNeg,Int.reduceLT,Int.reduceLE,Int.reduceEq,Int.reduceToNat,Int.cast_ofNat_Int,↓reduceIte, *, ht.L, g0.I]
  refine Wp.for t.length (fun i a H' => ∃ u w, a 14 = v ∧ a 15 = .i t.length ∧ a 16 = .i i ∧ a 2 = u ∧ a 3 = w ∧ Gr H H' ∧ Acc H.length (fun _ => False) H' u ((t.take i).map List.sum) ∧ MI H.length H' w ((List.range (gi t 0).length).map fun j => colPart t i j) ∧ (∀ b, u.blk = some b → w.blk ≠ some b)) ?_ ?_
  · rintro i a H1 hi ⟨u, w, h14, h15, h16, h2, h3, hg, hu, hw, hne⟩ ih
    simp (disch := (first | assumption | omega | (simp only [List.length_append, List.length_cons, List.length_nil]; omega))) only [↓wD,wU,Nat.reduceBEq,zx150,zx151,zx159,zx160,zx161,zx162,Nat.reduceAdd,Nat.reduceSub,Nat.reduceMul,Nat.reduceLeDiff,Nat.reduceLT,Nat.reduceEqDiff,Int.reduceAdd,Int.reduceSub,Int.reduceMul,Int.reduceNeg,Int.reduceLT,Int.reduceLE,Int.reduceEq,Int.reduceToNat,Int.cast_ofNat_Int,↓reduceIte, *]
    refine condP_split (fun hlt => ?_) (fun hlt => ?_)
    · have hi' : i < t.length := by omega
      have ht1 := ht.gr hg
      have g := ht1.get (k := (i : Int)) (by omega) (by omega)
      have hwd := h.width hi'
      simp (disch := (first | assumption | omega | (simp only [List.length_append, List.length_cons, List.length_nil]; omega))) only [↓wD,wU,Nat.reduceBEq,zx150,zx151,zx159,zx160,zx161,zx162,Nat.reduceAdd,Nat.reduceSub,Nat.reduceMul,Nat.reduceLeDiff,Nat.reduceLT,Nat.reduceEqDiff,Int.reduceAdd,Int.reduceSub,Int.reduceMul,Int.reduceNeg,Int.reduceLT,Int.reduceLE,Int.reduceEq,Int.reduceToNat,Int.cast_ofNat_Int,↓reduceIte, *, ht1.L, g.I]
      refine Wp.for (gi t i).length (fun j a H2 => a 14 = v ∧ a 15 = .i t.length ∧ a 16 = .i i ∧ a 2 = u ∧ a 3 = w ∧ a 20 = v.get H1 i ∧ a 21 = .i (gi t i).length ∧ a 22 = .i j ∧ a 6 = .i ((gi t i).take j).sum ∧ Kp (fun b => w.blk ≠ some b) H1 H2 ∧ H2.length ≤ H1.length ∧ MI H.length H2 w ((List.range (gi t 0).length).map fun c => colPart t i c + if c < j then gi (gi t i) c else 0)) ?_ ?_
      · clear h14 h15 h16 h2 h3
        rintro j a H2 hj ⟨h14, h15, h16, h2, h3, h20, h21, h22, h6, hk, hl2, hw2⟩ ih2
        simp (disch := (first | assumption | omega | (simp only [List.length_append, List.length_cons, List.length_nil]; omega))) only [↓wD,wU,Nat.reduceBEq,zx150,zx151,zx159,zx160,zx161,zx162,Nat.reduceAdd,Nat.reduceSub,Nat.reduceMul,Nat.reduceLeDiff,Nat.reduceLT,Nat.reduceEqDiff,Int.reduceAdd,Int.reduceSub,Int.reduceMul,Int.reduceNeg,Int.reduceLT,Int.reduceLE,Int.reduceEq,Int.reduceToNat,Int.cast_ofNat_Int,↓reduceIte, *]
        refine condP_split (fun hlt => ?_) (fun hlt => ?_)
        · have hj' : j < (gi t i).length := by omega
          have he := h.entry hi' (j := j) (by omega)
          have hcp := h.colPart (i := i) (j := j) (by omega)
          have hrs := sum_bound (xs := (gi t i).take j) (m := 16) fun x hx => (h.2.2.1 _ (mem_gi hi')).2.2.2 x (List.mem_of_mem_take hx)
          have hrl : ((gi t i).take j).length ≤ 3 := by rw [List.length_take]; omega
          have g2 : Sl (fun b => b < H.length) H2 (v.get H1 i) (gi t i) := g.mono (hk.weak fun b hb e => by have := hw.blk_lt e; omega) fun _ h => h
          have hgv : gi ((List.range (gi t 0).length).map fun c => colPart t i c + if c < j then gi (gi t i) c else 0) (j : Int) = colPart t i j := by
            rw [gi_map_range (by omega)]; simp
          have hml : ((List.range (gi t 0).length).map fun c => colPart t i c + if c < j then gi (gi t i) c else 0).length = (gi t 0).length := by simp
          simp (disch := (first | assumption | omega | (simp only [List.length_append, List.length_cons, List.length_nil]; omega))) only [↓wD,wU,Nat.reduceBEq,zx150,zx151,zx159,zx160,zx161,zx162,Nat.reduceAdd,Nat.reduceSub,Nat.reduceMul,Nat.reduceLeDiff,Nat.reduceLT,Nat.reduceEqDiff,Int.reduceAdd,Int.reduceSub,Int.reduceMul,Int.reduceNeg,Int.reduceLT,Int.reduceLE,Int.reduceEq,Int.reduceToNat,Int.cast_ofNat_Int,↓reduceIte, *, g2.I, hw2.sl.I, hgv]
          refine hw2.store (Nat.le_refl _) (by omega) (by omega) fun H3 hw3 hk3 hl3' => ?_
          simp (disch := (first | assumption | omega | (simp only [List.length_append, List.length_cons, List.length_nil]; omega))) only [↓wD,wU,Nat.reduceBEq,zx150,zx151,zx159,zx160,zx161,zx162,Nat.reduceAdd,Nat.reduceSub,Nat.reduceMul,Nat.reduceLeDiff,Nat.reduceLT,Nat.reduceEqDiff,Int.reduceAdd,Int.reduceSub,Int.reduceMul,Int.reduceNeg,Int.reduceLT,Int.reduceLE,Int.reduceEq,Int.reduceToNat,Int.cast_ofNat_Int,↓reduceIte, *]
          refine (ih2 hj').go ?_
          rw [sum_take hj']
          simp (disch := (first | assumption | omega | (simp only [List.length_append, List.length_cons, List.length_nil]; omega))) only [↓wD,wU,Nat.reduceBEq,zx150,zx151,zx159,zx160,zx161,zx162,Nat.reduceAdd,Nat.reduceSub,Nat.reduceMul,Nat.reduceLeDiff,Nat.reduceLT,Nat.reduceEqDiff,Int.reduceAdd,Int.reduceSub,Int.reduceMul,Int.reduceNeg,Int.reduceLT,Int.reduceLE,Int.reduceEq,Int.reduceToNat,Int.cast_ofNat_Int,↓reduceIte, *]
          refine ⟨hk.trans hk3 fun b hb => hb, ?_⟩
          rw [set_map_range] at hw3
          have e : ((List.range (gi t 0).length).map fun c => colPart t i c + if c < j + 1 then gi (gi t i) c else 0) = (List.range (gi t 0).length).map fun c => if c = (j : Int).toNat then colPart t i j + gi (gi t i) j else colPart t i c + if c < j then gi (gi t i) c else 0 := by
            apply map_range_congr
            intro c _
            by_cases hcj : c = j
            · subst hcj; simp
            · have : (c < j + 1) = (c < j) := by simp only [eq_iff_iff]; omega
              simp [hcj, this]
          rw [e]; exact hw3
        · have hj2 : j = (gi t i).length := by omega
          subst hj2
          simp (disch := (first | assumption | omega | (simp only [List.length_append, List.length_cons, List.length_nil]; omega))) only [↓wD,wU,Nat.reduceBEq,zx150,zx151,zx159,zx160,zx161,zx162,Nat.reduceAdd,Nat.reduceSub,Nat.reduceMul,Nat.reduceLeDiff,Nat.reduceLT,Nat.reduceEqDiff,Int.reduceAdd,Int.reduceSub,Int.reduceMul,Int.reduceNeg,Int.reduceLT,Int.reduceLE,Int.reduceEq,Int.reduceToNat,Int.cast_ofNat_Int,↓reduceIte, *]
          have hu2 : Acc H.length (fun _ => False) H2 u ((t.take i).map List.sum) := hu.kp hk (fun b e e2 => hne b e e2) fun _ h => h.elim
          refine hu2.pushI (Nat.le_refl _) (by have := hg.1; have := hk.1; omega) ?_ fun u' H3 hu' hk3 hl3' hub => ?_
          · simp; omega
          · simp (disch := (first | assumption | omega | (simp only [List.length_append, List.length_cons, List.length_nil]; omega))) only [↓wD,wU,Nat.reduceBEq,zx150,zx151,zx159,zx160,zx161,zx162,Nat.reduceAdd,Nat.reduceSub,Nat.reduceMul,Nat.reduceLeDiff,Nat.reduceLT,Nat.reduceEqDiff,Int.reduceAdd,Int.reduceSub,Int.reduceMul,Int.reduceNeg,Int.reduceLT,Int.reduceLE,Int.reduceEq,Int.reduceToNat,Int.cast_ofNat_Int,↓reduceIte, *]
            refine (ih hi').go ⟨u', w, ?_⟩
            simp (disch := (first | assumption | omega | (simp only [List.length_append, List.length_cons, List.length_nil]; omega))) only [↓wD,wU,Nat.reduceBEq,zx150,zx151,zx159,zx160,zx161,zx162,Nat.reduceAdd,Nat.reduceSub,Nat.reduceMul,Nat.reduceLeDiff,Nat.reduceLT,Nat.reduceEqDiff,Int.reduceAdd,Int.reduceSub,Int.reduceMul,Int.reduceNeg,Int.reduceLT,Int.reduceLE,Int.reduceEq,Int.reduceToNat,Int.cast_ofNat_Int,↓reduceIte, *]
            have hgk : Gr H H2 := hg.trans' hk fun b hb e => by have := hw.blk_lt e; omega
            refine ⟨hgk.push hu2 (Nat.le_refl _) hk3, ?_, ?_, ?_⟩
            · rw [take_gi hi', List.map_append]
              simpa [List.take_of_length_le (show (gi t (i : Int)).length ≤ (gi t 0).length by omega)] using hu'
            · have e : ((List.range (gi t 0).length).map fun c => colPart t (i + 1) c) = (List.range (gi t 0).length).map fun c => colPart t i c + if c < (gi t i).length then gi (gi t i) c else 0 := by
                apply map_range_congr
                intro c hc
                rw [colPart_succ hi', if_pos (by omega)]
              rw [e]
              exact hw2.kp hk3 fun b e => fun e2 => hne b e2 e
            · intro b hb e
              have := hw2.blk_lt e
              simp at hb; omega
      · simp (disch := (first | assumption | omega | (simp only [List.length_append, List.length_cons, List.length_nil]; omega))) only [↓wD,wU,Nat.reduceBEq,zx150,zx151,zx159,zx160,zx161,zx162,Nat.reduceAdd,Nat.reduceSub,Nat.reduceMul,Nat.reduceLeDiff,Nat.reduceLT,Nat.reduceEqDiff,Int.reduceAdd,Int.reduceSub,Int.reduceMul,Int.reduceNeg,Int.reduceLT,Int.reduceLE,Int.reduceEq,Int.reduceToNat,Int.cast_ofNat_Int,↓reduceIte, *]
        refine ⟨rfl, Kp.refl _ _, ?_⟩
        simpa using hw
    · have e : i = t.length := by omega
      subst e
      simp (disch := (first | assumption | omega | (simp only [List.length_append, List.length_cons, List.length_nil]; omega))) only [↓wD,wU,Nat.reduceBEq,zx150,zx151,zx159,zx160,zx161,zx162,Nat.reduceAdd,Nat.reduceSub,Nat.reduceMul,Nat.reduceLeDiff,Nat.reduceLT,Nat.reduceEqDiff,Int.reduceAdd,Int.reduceSub,Int.reduceMul,Int.reduceNeg,Int.reduceLT,Int.reduceLE,Int.reduceEq,Int.reduceToNat,Int.cast_ofNat_Int,↓reduceIte, *]
      refine rv_2 ?_ ?_
      · have h1 := hu.sl.weak (q := fun b => False ∨ H.length ≤ b) fun b h => h
        rwa [List.take_length] at h1
      · exact hw.sl.weak fun b h => .inr h
  · simp (disch := (first | assumption | omega | (simp only [List.length_append, List.length_cons, List.length_nil]; omega))) only [↓wD,wU,Nat.reduceBEq,zx150,zx151,zx159,zx160,zx161,zx162,Nat.reduceAdd,Nat.reduceSub,Nat.reduceMul,Nat.reduceLeDiff,Nat.reduceLT,Nat.reduceEqDiff,Int.reduceAdd,Int.reduceSub,Int.reduceMul,Int.reduceNeg,Int.reduceLT,Int.reduceLE,Int.reduceEq,Int.reduceToNat,Int.cast_ofNat_Int,↓reduceIte, *]
    refine ⟨.nils, _, rfl, rfl, Kp.app _ _ _, Acc.nil, ?_, fun b e => by cases e⟩
    have h1 := MI.mk (H := H) (n := (gi t 0).length) (Nat.le_refl _) (by omega)
    have e : ((List.range (gi t 0).length).map fun j => colPart t 0 j) = List.replicate (gi t 0).length 0 := by
      apply List.ext_getElem (by simp)
      intro i h1 h2
      simp [colPart_0]
    rw [e]; exact h1
end Go.Proofs.Ytmmbakggmlfffaa
namespace Go.Proofs.Ytmmbakggmlfffaa
open Go Go.AM Go.Proofs
theorem sumsX_ret {p : Nat → Prop} {H : Heap} {v : AV} {t : List (List Int)} (ht : Sl p H v t) (h : TabOk t) : Ret E 5 [v] (fun _ => False) H (T3.mk (rowSums t) (colSums t) (0 : Int)) := by
  refine Ret.ro rfl fn5 rfl ?_
  unfold f5A
  simp (disch := (first | assumption | omega | (simp only [List.length_append, List.length_cons, List.length_nil]; omega))) only [↓wD,wU,Nat.reduceBEq,zx150,zx151,zx159,zx160,zx161,zx162,Nat.reduceAdd,Nat.reduceSub,Nat.reduceMul,Nat.reduceLeDiff,Nat.reduceLT,Nat.reduceEqDiff,Int.reduceAdd,Int.reduceSub,Int.reduceMul,Int.reduceNeg,Int.reduceLT,Int.reduceLE,Int.reduceEq,Int.reduceToNat,Int.cast_ofNat_Int,↓reduceIte, *, (valid_ret ht).call]
  refine (sums_ret ht h).go fun u N hu => ?_
  obtain ⟨u1, u2, rfl, h1, h2⟩ := hu
  simp (disch := (first | assumption | omega | (simp only [List.length_append, List.length_cons, List.length_nil]; omega))) only [↓wD,wU,Nat.reduceBEq,zx150,zx151,zx159,zx160,zx161,zx162,Nat.reduceAdd,Nat.reduceSub,Nat.reduceMul,Nat.reduceLeDiff,Nat.reduceLT,Nat.reduceEqDiff,Int.reduceAdd,Int.reduceSub,Int.reduceMul,Int.reduceNeg,Int.reduceLT,Int.reduceLE,Int.reduceEq,Int.reduceToNat,Int.cast_ofNat_Int,↓reduceIte, *]
  exact rv_3 h1 h2 rv_i
theorem sumsX_err {p q : Nat → Prop} {H : Heap} {v : AV} {t : List (List Int)} (ht : Sl p H v t) (h : ¬ TabOk t) : Ret E 5 [v] q H (T3.mk ([] : List Int) ([] : List Int) (2 : Int)) := by
  refine Ret.ro rfl fn5 rfl ?_
  unfold f5A
  simp (disch := (first | assumption | omega | (simp only [List.length_append, List.length_cons, List.length_nil]; omega))) only [↓wD,wU,Nat.reduceBEq,zx150,zx151,zx159,zx160,zx161,zx162,Nat.reduceAdd,Nat.reduceSub,Nat.reduceMul,Nat.reduceLeDiff,Nat.reduceLT,Nat.reduceEqDiff,Int.reduceAdd,Int.reduceSub,Int.reduceMul,Int.reduceNeg,Int.reduceLT,Int.reduceLE,Int.reduceEq,Int.reduceToNat,Int.cast_ofNat_Int,↓reduceIte, *, (valid_ret ht).call]
  exact rv_3 Sl.nil Sl.nil rv_i
def cutT (t : List (List Int)) : List (List Int) := (t.take 6).map fun r => r.take 6
end Go.Proofs.Ytmmbakggmlfffaa
namespace Go.Proofs.Ytmmbakggmlfffaa
open Go Go.AM Go.Proofs
theorem rtable_ret {p : Nat → Prop} {H : Heap} {v : AV} {t : List (List Int)} (ht : Sl p H v t) (hsz : t.length * 24 ≤ 140737488351232) : RetP E 7 [v] H (.b (decide (TabOk t))) := by
  refine RetP.ro rfl fn7 rfl rfl ?_
  unfold f7A
  simp (disch := (first | assumption | omega | (simp only [List.length_append, List.length_cons, List.length_nil]; omega))) only [↓wD,wU,Nat.reduceBEq,zx150,zx151,zx159,zx160,zx161,zx162,Nat.reduceAdd,Nat.reduceSub,Nat.reduceMul,Nat.reduceLeDiff,Nat.reduceLT,Nat.reduceEqDiff,Int.reduceAdd,Int.reduceSub,Int.reduceMul,Int.reduceNeg,Int.reduceLT,Int.reduceLE,Int.reduceEq,Int.reduceToNat,Int.cast_ofNat_Int,↓reduceIte, *, ht.L]
  refine Wp.for t.length (fun i a H' => H' = H ∧ a 0 = v ∧ a 8 = v ∧ a 9 = .i t.length ∧ a 10 = .i i ∧ a 3 = .i ((t.take i).map List.sum).sum ∧ (∀ r ∈ t.take i, RowOk (gi t 0).length r) ∧ 0 ≤ ((t.take i).map List.sum).sum ∧ ((t.take i).map List.sum).sum ≤ i * 48) ?_ ?_
  · rintro i a H' hi ⟨rfl, h0, h16, h17, h18, h3, hh, hp, hq⟩ ih
    simp (disch := (first | assumption | omega | (simp only [List.length_append, List.length_cons, List.length_nil]; omega))) only [↓wD,wU,Nat.reduceBEq,zx150,zx151,zx159,zx160,zx161,zx162,Nat.reduceAdd,Nat.reduceSub,Nat.reduceMul,Nat.reduceLeDiff,Nat.reduceLT,Nat.reduceEqDiff,Int.reduceAdd,Int.reduceSub,Int.reduceMul,Int.reduceNeg,Int.reduceLT,Int.reduceLE,Int.reduceEq,Int.reduceToNat,Int.cast_ofNat_Int,↓reduceIte, *]
    refine condP_split (fun hlt => ?_) (fun hlt => ?_)
    · have hi' : i < t.length := by omega
      have g := ht.get (k := (i : Int)) (by omega) (by omega)
      have g0 := ht.get (k := (0 : Int)) (by omega) (by omega)
      have hin : ¬ RowOk (gi t 0).length (gi t i) → ¬ TabOk t := fun hr h => hr (h.2.2.1 _ (mem_gi hi'))
      (repeat' (first | refine condP_split (fun _ => ?_) (fun _ => ?_) | refine guardP_split (fun _ => ?_) (fun _ => ?_) | refine guardP_splitF (fun _ => ?_) (fun _ => ?_) | (simp (disch := (first | assumption | omega | (simp only [List.length_append, List.length_cons, List.length_nil]; omega))) only [↓wD,wU,Nat.reduceBEq,zx150,zx151,zx159,zx160,zx161,zx162,Nat.reduceAdd,Nat.reduceSub,Nat.reduceMul,Nat.reduceLeDiff,Nat.reduceLT,Nat.reduceEqDiff,Int.reduceAdd,Int.reduceSub,Int.reduceMul,Int.reduceNeg,Int.reduceLT,Int.reduceLE,Int.reduceEq,Int.reduceToNat,Int.cast_ofNat_Int,↓reduceIte, *, ht.L, g.I, g0.I]))) <;> first
        | (refine avb_f (hin fun hr => ?_); have := hr.1; have := hr.2.1; have := hr.2.2.1; omega)
        | skip
      refine Wp.for (gi t i).length (fun j a H'' => H'' = H' ∧ a 0 = v ∧ a 8 = v ∧ a 9 = .i t.length ∧ a 10 = .i i ∧ a 31 = v.get H' i ∧ a 32 = .i (gi t i).length ∧ a 33 = .i j ∧ a 3 = .i (((t.take i).map List.sum).sum + ((gi t i).take j).sum) ∧ OkN ((gi t i).take j)) ?_ ?_
      · clear h0 h16 h17 h18 h3
        rintro j a H' hj ⟨rfl, h0, h16, h17, h18, h44, h45, h46, h3, hb1⟩ ih2
        have hb2 := sum_bound hb1
        have hb3 : ((gi t i).take j).length ≤ 3 := by rw [List.length_take]; omega
        simp (disch := (first | assumption | omega | (simp only [List.length_append, List.length_cons, List.length_nil]; omega))) only [↓wD,wU,Nat.reduceBEq,zx150,zx151,zx159,zx160,zx161,zx162,Nat.reduceAdd,Nat.reduceSub,Nat.reduceMul,Nat.reduceLeDiff,Nat.reduceLT,Nat.reduceEqDiff,Int.reduceAdd,Int.reduceSub,Int.reduceMul,Int.reduceNeg,Int.reduceLT,Int.reduceLE,Int.reduceEq,Int.reduceToNat,Int.cast_ofNat_Int,↓reduceIte, *]
        refine condP_split (fun hlt => ?_) (fun hlt => ?_)
        · have hj' : j < (gi t i).length := by omega
          (repeat' (first | refine condP_split (fun _ => ?_) (fun _ => ?_) | refine guardP_split (fun _ => ?_) (fun _ => ?_) | refine guardP_splitF (fun _ => ?_) (fun _ => ?_) | (simp (disch := (first | assumption | omega | (simp only [List.length_append, List.length_cons, List.length_nil]; omega))) only [↓wD,wU,Nat.reduceBEq,zx150,zx151,zx159,zx160,zx161,zx162,Nat.reduceAdd,Nat.reduceSub,Nat.reduceMul,Nat.reduceLeDiff,Nat.reduceLT,Nat.reduceEqDiff,Int.reduceAdd,Int.reduceSub,Int.reduceMul,Int.reduceNeg,Int.reduceLT,Int.reduceLE,Int.reduceEq,Int.reduceToNat,Int.cast_ofNat_Int,↓reduceIte, *, g.I]))) <;> first
            | (refine avb_f (hin fun hr => ?_); have := hr.2.2.2 _ (mem_gi hj'); omega)
            | skip
          refine (ih2 hj').go ⟨rfl, ?_⟩
          rw [sum_take hj']
          have hg : 0 ≤ gi (gi t i) j ∧ gi (gi t i) j ≤ 16 := by omega
          simp (disch := (first | assumption | omega | (simp only [List.length_append, List.length_cons, List.length_nil]; omega))) only [↓wD,wU,Nat.reduceBEq,zx150,zx151,zx159,zx160,zx161,zx162,Nat.reduceAdd,Nat.reduceSub,Nat.reduceMul,Nat.reduceLeDiff,Nat.reduceLT,Nat.reduceEqDiff,Int.reduceAdd,Int.reduceSub,Int.reduceMul,Int.reduceNeg,Int.reduceLT,Int.reduceLE,Int.reduceEq,Int.reduceToNat,Int.cast_ofNat_Int,↓reduceIte, *]
          exact ⟨by rw [Int.add_assoc], mem_take_gi hb1 hj' hg⟩
        · simp (disch := (first | assumption | omega | (simp only [List.length_append, List.length_cons, List.length_nil]; omega))) only [↓wD,wU,Nat.reduceBEq,zx150,zx151,zx159,zx160,zx161,zx162,Nat.reduceAdd,Nat.reduceSub,Nat.reduceMul,Nat.reduceLeDiff,Nat.reduceLT,Nat.reduceEqDiff,Int.reduceAdd,Int.reduceSub,Int.reduceMul,Int.reduceNeg,Int.reduceLT,Int.reduceLE,Int.reduceEq,Int.reduceToNat,Int.cast_ofNat_Int,↓reduceIte, *]
          have e : (gi t i).take j = gi t i := List.take_of_length_le (by omega)
          rw [e] at hb1 hb2 hb3
          refine (ih hi').go ⟨rfl, ?_⟩
          have e2 : ((t.take (i + 1)).map List.sum).sum = ((t.take i).map List.sum).sum + (gi t i).sum := by rw [take_gi hi', List.map_append, List.sum_append]; simp
          rw [e2]
          simp (disch := (first | assumption | omega | (simp only [List.length_append, List.length_cons, List.length_nil]; omega))) only [↓wD,wU,Nat.reduceBEq,zx150,zx151,zx159,zx160,zx161,zx162,Nat.reduceAdd,Nat.reduceSub,Nat.reduceMul,Nat.reduceLeDiff,Nat.reduceLT,Nat.reduceEqDiff,Int.reduceAdd,Int.reduceSub,Int.reduceMul,Int.reduceNeg,Int.reduceLT,Int.reduceLE,Int.reduceEq,Int.reduceToNat,Int.cast_ofNat_Int,↓reduceIte, *]
          refine ⟨mem_take_gi hh hi' ⟨?_, ?_, ?_, hb1⟩, ?_, ?_⟩ <;> omega
      · (simp (disch := (first | assumption | omega | (simp only [List.length_append, List.length_cons, List.length_nil]; omega))) only [↓wD,wU,Nat.reduceBEq,zx150,zx151,zx159,zx160,zx161,zx162,Nat.reduceAdd,Nat.reduceSub,Nat.reduceMul,Nat.reduceLeDiff,Nat.reduceLT,Nat.reduceEqDiff,Int.reduceAdd,Int.reduceSub,Int.reduceMul,Int.reduceNeg,Int.reduceLT,Int.reduceLE,Int.reduceEq,Int.reduceToNat,Int.cast_ofNat_Int,↓reduceIte, *]) <;> simp [OkN]
    · have e : t.take i = t := List.take_of_length_le (by omega)
      rw [e] at hh hp hq
      (repeat' (first | refine condP_split (fun _ => ?_) (fun _ => ?_) | refine guardP_split (fun _ => ?_) (fun _ => ?_) | refine guardP_splitF (fun _ => ?_) (fun _ => ?_) | (simp (disch := (first | assumption | omega | (simp only [List.length_append, List.length_cons, List.length_nil]; omega))) only [↓wD,wU,Nat.reduceBEq,zx150,zx151,zx159,zx160,zx161,zx162,Nat.reduceAdd,Nat.reduceSub,Nat.reduceMul,Nat.reduceLeDiff,Nat.reduceLT,Nat.reduceEqDiff,Int.reduceAdd,Int.reduceSub,Int.reduceMul,Int.reduceNeg,Int.reduceLT,Int.reduceLE,Int.reduceEq,Int.reduceToNat,Int.cast_ofNat_Int,↓reduceIte, *, ht.L]))) <;> first
        | (refine avb_f fun h => ?_; have := h.1; have := h.2.1; omega)
        | skip
      congr 1
      exact decide_eq_decide.2 ⟨fun h => ⟨by omega, by omega, hh, h⟩, fun h => h.2.2.2⟩
  · (simp (disch := (first | assumption | omega | (simp only [List.length_append, List.length_cons, List.length_nil]; omega))) only [↓wD,wU,Nat.reduceBEq,zx150,zx151,zx159,zx160,zx161,zx162,Nat.reduceAdd,Nat.reduceSub,Nat.reduceMul,Nat.reduceLeDiff,Nat.reduceLT,Nat.reduceEqDiff,Int.reduceAdd,Int.reduceSub,Int.reduceMul,Int.reduceNeg,Int.reduceLT,Int.reduceLE,Int.reduceEq,Int.reduceToNat,Int.cast_ofNat_Int,↓reduceIte, *]) <;> simp
end Go.Proofs.Ytmmbakggmlfffaa
namespace Go.Proofs.Ytmmbakggmlfffaa
open Go Go.AM Go.Proofs
theorem list2 {xs : List Int} (h : xs.length = 2) : ∃ a b, xs = [a, b] := by
  match xs, h with
  | [a, b], _ => exact ⟨a, b, rfl⟩
theorem eq33 (w : World) (x0 x1 y0 y1 : Int) : (Op.equalIn 10000 33 (.agg #[.int .i64 x0, .int .i64 x1]) (.agg #[.int .i64 y0, .int .i64 y1])).run C.P w = .ok ([x0, x1] == [y0, y1]) w := by
  rw [run_equalIn_struct w 9999 33 _ _ (by kernel_rfl) (by kernel_rfl)]
  have hi : Try.prog.underlying 3 = some (.int .i64) := Try.underlying3
  have e : ∀ a b : Int, (Op.equalIn 9999 3 (.int .i64 a) (.int .i64 b)).run Try.prog w = .ok (a == b) w := fun a b => run_equalIn_int w 9998 3 .i64 .i64 a b hi
  have pt : ∀ (a b : Int) (k : Nat), k < 2 → (part 3 #[.int .i64 a, .int .i64 b] k).run Try.prog w = .ok (.int .i64 (if k = 0 then a else b)) w := by
    intro a b k hk
    have : k = 0 ∨ k = 1 := by omega
    rcases this with rfl | rfl <;> go_simp
  simp [Try.underlying33, Program.fieldsOf, C, Op.eqFields, pt, e]
  by_cases h1 : x0 = y0 <;> by_cases h2 : x1 = y1 <;> simp [h1, h2]
theorem eqOk : EqOk C := by
  intro t n ht xs ys hx hy neg xo yo w
  obtain ⟨rfl, rfl⟩ : t = 33 ∧ n = 2 := by
    simp only [C] at ht
    split at ht
    · rename_i h; cases ht; exact ⟨by simpa using h, rfl⟩
    · cases ht
  obtain ⟨x0, x1, rfl⟩ := list2 hx
  obtain ⟨y0, y1, rfl⟩ := list2 hy
  have g : ∀ op, (eqGuard op 33 xo yo (.agg (ints [x0, x1])) (.agg (ints [y0, y1]))).run C.P w = .ok () w := fun op => run_eqGuard_agg w op 33 xo yo _ _ (by kernel_rfl)
  have e := eq33 w x0 x1 y0 y1
  cases neg
  · simp only [Bool.false_eq_true, if_false, Sem.run_bind, g, Result.andThen_ok, run_eql_struct]
    simp [ints] at e ⊢; rw [e]; rfl
  · simp only [if_true, Sem.run_bind, g, Result.andThen_ok, run_neq_struct]
    simp [ints] at e ⊢; rw [e]; simp [Result.andThen, Bool.not_and]
theorem eOk : EOk C (fun _ => True) E where
  kd := rfl
  fn := fun f af h => tab_ok (f, af) (lookup_mem h)
  prim := fun f g h => by
    simp only [C, kd] at h
    split at h
    · cases h
    · split at h <;> cases h
  del := fun f h => by
    simp only [C, kd] at h
    split at h
    · cases h
    · split at h <;> cases h
  stable := fun _ _ _ _ => trivial
  eq := eqOk
  mixed := mixed
end Go.Proofs.Ytmmbakggmlfffaa
namespace Go.Proofs.Ytmmbakggmlfffaa
open Go Go.AM Go.Proofs
theorem cutT_ok {t : List (List Int)} (h : TabOk t) : cutT t = t := by
  unfold cutT
  rw [List.take_of_length_le (by have := h.2.1; omega)]
  conv => rhs; rw [← List.map_id t]
  apply List.map_congr_left
  intro r hr
  exact List.take_of_length_le (by have := (h.2.2.1 r hr).2.1; omega)
theorem TabOk_cut {t : List (List Int)} : TabOk (cutT t) ↔ TabOk t := by
  constructor
  · intro h
    have e : cutT t = t := by
      have h1 : t.length ≤ 3 := by have := h.2.1; simp [cutT] at this; omega
      unfold cutT
      rw [List.take_of_length_le (by omega)]
      conv => rhs; rw [← List.map_id t]
      apply List.map_congr_left
      intro r hr
      have hm : r.take 6 ∈ cutT t := by
        unfold cutT
        rw [List.take_of_length_le (by omega)]
        exact List.mem_map_of_mem hr
      have := (h.2.2.1 _ hm).2.1
      rw [List.length_take] at this
      exact List.take_of_length_le (by omega)
    rwa [e] at h
  · intro h
    rw [cutT_ok h]; exact h
end Go.Proofs.Ytmmbakggmlfffaa
namespace Go.Proofs.Ytmmbakggmlfffaa
open Go Go.AM Go.Proofs
theorem tmodN (m n : Nat) : (m : Int).tmod (n : Int) = ((m % n : Nat) : Int) := by
  rw [Int.tmod_eq_emod_of_nonneg (by omega)]; rfl
theorem tdivN (m n : Nat) : (m : Int).tdiv (n : Int) = ((m / n : Nat) : Int) := by
  rw [Int.tdiv_eq_ediv_of_nonneg (by omega)]; rfl
theorem gcd_step (x k : Nat) : Nat.gcd k (x % k) = Nat.gcd x k := by
  rw [Nat.gcd_comm k, ← Nat.gcd_rec, Nat.gcd_comm]
def fracN (m n : Nat) : Int × Int := ((m / Nat.gcd m n : Nat), (n / Nat.gcd m n : Nat))
theorem rfrac_ret {H : Heap} (m n : Nat) (hm : m ≤ 4611686018427387904) (hn : n ≤ 4611686018427387904) (h0 : 0 < n) : RetP E 9 [.i m, .i n] H (.ag [.i (fracN m n).1, .i (fracN m n).2]) := by
  refine RetP.ro rfl fn9 rfl rfl ?_
  unfold f9A
  simp (disch := (first | assumption | omega | (simp only [List.length_append, List.length_cons, List.length_nil]; omega))) only [↓wD,wU,Nat.reduceBEq,zx150,zx151,zx159,zx160,zx161,zx162,Nat.reduceAdd,Nat.reduceSub,Nat.reduceMul,Nat.reduceLeDiff,Nat.reduceLT,Nat.reduceEqDiff,Int.reduceAdd,Int.reduceSub,Int.reduceMul,Int.reduceNeg,Int.reduceLT,Int.reduceLE,Int.reduceEq,Int.reduceToNat,Int.cast_ofNat_Int,↓reduceIte, *]
  refine Wp.dec (fun k a H' => H' = H ++ [.cells [.i 0, .i 0]] ∧ a 0 = .i m ∧ a 1 = .i n ∧ a 4 = .p H.length 0 ∧ ∃ x : Nat, a 5 = .i x ∧ a 6 = .i k ∧ x ≤ 4611686018427387904 ∧ k ≤ 4611686018427387904 ∧ Nat.gcd x k = Nat.gcd m n) n ?_ ?_
  · rintro k a H' ⟨rfl, h0, h1, h4, x, h5, h6, hx, hkb, hg⟩ ih
    by_cases hk : k = 0
    · subst hk
      rw [Nat.gcd_zero_right] at hg
      subst hg
      have hg : 0 < Nat.gcd m n := Nat.gcd_pos_of_pos_right _ (by assumption)
      have h1' : m / Nat.gcd m n ≤ m := Nat.div_le_self _ _
      have h2' : n / Nat.gcd m n ≤ n := Nat.div_le_self _ _
      unfold fracN
      obtain ⟨q1, hq1⟩ : ∃ q, m / Nat.gcd m n = q := ⟨_, rfl⟩
      obtain ⟨q2, hq2⟩ : ∃ q, n / Nat.gcd m n = q := ⟨_, rfl⟩
      rw [hq1] at h1'
      rw [hq2] at h2'
      simp (disch := (first | assumption | omega | (simp only [List.length_append, List.length_cons, List.length_nil]; omega))) only [↓wD,wU,Nat.reduceBEq,zx150,zx151,zx159,zx160,zx161,zx162,Nat.reduceAdd,Nat.reduceSub,Nat.reduceMul,Nat.reduceLeDiff,Nat.reduceLT,Nat.reduceEqDiff,Int.reduceAdd,Int.reduceSub,Int.reduceMul,Int.reduceNeg,Int.reduceLT,Int.reduceLE,Int.reduceEq,Int.reduceToNat,Int.cast_ofNat_Int,↓reduceIte, *, tdivN]
    · simp (disch := (first | assumption | omega | (simp only [List.length_append, List.length_cons, List.length_nil]; omega))) only [↓wD,wU,Nat.reduceBEq,zx150,zx151,zx159,zx160,zx161,zx162,Nat.reduceAdd,Nat.reduceSub,Nat.reduceMul,Nat.reduceLeDiff,Nat.reduceLT,Nat.reduceEqDiff,Int.reduceAdd,Int.reduceSub,Int.reduceMul,Int.reduceNeg,Int.reduceLT,Int.reduceLE,Int.reduceEq,Int.reduceToNat,Int.cast_ofNat_Int,↓reduceIte, *, tmodN]
      have hlt : x % k < k := Nat.mod_lt _ (by omega)
      refine ih.go ⟨x % k, hlt, rfl, ?_⟩
      rw [← hg, ← gcd_step x k]
      simp (disch := (first | assumption | omega | (simp only [List.length_append, List.length_cons, List.length_nil]; omega))) only [↓wD,wU,Nat.reduceBEq,zx150,zx151,zx159,zx160,zx161,zx162,Nat.reduceAdd,Nat.reduceSub,Nat.reduceMul,Nat.reduceLeDiff,Nat.reduceLT,Nat.reduceEqDiff,Int.reduceAdd,Int.reduceSub,Int.reduceMul,Int.reduceNeg,Int.reduceLT,Int.reduceLE,Int.reduceEq,Int.reduceToNat,Int.cast_ofNat_Int,↓reduceIte, *]
      exact ⟨k, rfl, hkb, by omega, rfl⟩
  · simp (disch := (first | assumption | omega | (simp only [List.length_append, List.length_cons, List.length_nil]; omega))) only [↓wD,wU,Nat.reduceBEq,zx150,zx151,zx159,zx160,zx161,zx162,Nat.reduceAdd,Nat.reduceSub,Nat.reduceMul,Nat.reduceLeDiff,Nat.reduceLT,Nat.reduceEqDiff,Int.reduceAdd,Int.reduceSub,Int.reduceMul,Int.reduceNeg,Int.reduceLT,Int.reduceLE,Int.reduceEq,Int.reduceToNat,Int.cast_ofNat_Int,↓reduceIte, *]
    have e : max (m : Int) (0 - (m : Int)) = (m : Int) := by omega
    exact ⟨m, by simp_all⟩
end Go.Proofs.Ytmmbakggmlfffaa
namespace Go.Proofs.Ytmmbakggmlfffaa
open Go Go.AM Go.Proofs
def Four (t : List (List Int)) : Prop := TabOk t ∧ t.length = 2 ∧ (gi t 0).length = 2
instance (t : List (List Int)) : Decidable (Four t) := by unfold Four; infer_instance
theorem nat_of {x : Int} (h : 0 ≤ x) : ∃ n : Nat, x = n := ⟨x.toNat, by omega⟩
theorem Four.elim {t : List (List Int)} (h : Four t) : ∃ a b c d : Nat, t = [[(a : Int), b], [(c : Int), d]] ∧ a + b + c + d ≤ 16 := by
  obtain ⟨h, h1, h2⟩ := h
  match t, h1 with
  | [r, s], _ =>
    have hs := h.2.2.1 s (by simp)
    have hr := h.2.2.1 r (by simp)
    have e1 : (gi [r, s] 0) = r := rfl
    rw [e1] at h2 hs hr
    have h3 : s.length = 2 := by rw [hs.2.2.1, h2]
    match r, h2, s, h3 with
    | [a, b], _, [c, d], _ =>
      have ha := hr.2.2.2 a (by simp)
      have hb := hr.2.2.2 b (by simp)
      have hc := hs.2.2.2 c (by simp)
      have hd := hs.2.2.2 d (by simp)
      have hsum := h.2.2.2
      simp at hsum
      obtain ⟨a, rfl⟩ := nat_of ha.1
      obtain ⟨b, rfl⟩ := nat_of hb.1
      obtain ⟨c, rfl⟩ := nat_of hc.1
      obtain ⟨d, rfl⟩ := nat_of hd.1
      exact ⟨a, b, c, d, rfl, by omega⟩
theorem Four.mk {a b c d : Nat} (h : a + b + c + d ≤ 16) : Four [[(a : Int), b], [(c : Int), d]] := by
  refine ⟨⟨by simp, by simp, ?_, by simp; omega⟩, rfl, rfl⟩
  intro r hr
  simp at hr
  rcases hr with rfl | rfl
  · refine ⟨by simp, by simp, rfl, ?_⟩
    intro x hx; simp at hx; rcases hx with rfl | rfl <;> omega
  · refine ⟨by simp, by simp, rfl, ?_⟩
    intro x hx; simp at hx; rcases hx with rfl | rfl <;> omega
end Go.Proofs.Ytmmbakggmlfffaa
namespace Go.Proofs.Ytmmbakggmlfffaa
open Go Go.AM Go.Proofs
def maxL (xs : List Int) : Int := (xs.drop 1).foldl max (gi xs 0)
end Go.Proofs.Ytmmbakggmlfffaa
namespace Go.Proofs.Ytmmbakggmlfffaa
open Go Go.AM Go.Proofs
def lines : List Int → Int → List (List Int)
  | [], need => if need > 0 then [] else [[]]
  | c :: cs, need => (List.range (min need c + 1).toNat).flatMap fun x : Nat => (lines cs (need - (x : Int))).map ((x : Int) :: ·)
def subL (xs ys : List Int) : List Int := List.zipWith (· - ·) xs ys
def tabsL : List Int → List Int → List (List (List Int))
  | [], L => if maxL L > 0 then [] else [[]]
  | r :: rs, L => (lines L r).flatMap fun l => (tabsL rs (subL L l)).map (l :: ·)
/-- the blocks that grow writes -/
def Wb (n R lb b : Nat) : Prop := b = lb ∨ (R ≤ b ∧ b < R + n)
/-- what grow reads and never writes -/
structure Fx (K : Nat → Prop) (H : Heap) (y rv cv lv : AV) (rows cols : List Int) (n m : Nat) (bm bl bY bt bg tb R lb : Nat) : Prop where
  mg : H[bm]? = some (.cells [rv, cv]) ∧ ¬ K bm ∧ ¬ Wb n R lb bm
  lg : H[bl]? = some (.cells [lv]) ∧ ¬ K bl ∧ ¬ Wb n R lb bl
  yg : H[bY]? = some (.cells [y]) ∧ ¬ K bY ∧ ¬ Wb n R lb bY
  tg : H[bt]? = some (.cells [.s 1 tb 0 n (some n)]) ∧ ¬ K bt ∧ ¬ Wb n R lb bt
  tbg : H[tb]? = some (.cells ((List.range n).map fun a : Nat => .s 1 (R + a) 0 m (some m))) ∧ ¬ K tb ∧ ¬ Wb n R lb tb
  gg : H[bg]? = some (.cells [.fn 49 [] [.p bm 0, .p bl 0, .p bY 0, .p bt 0, .p bg 0]]) ∧ ¬ K bg ∧ ¬ Wb n R lb bg
  rows : Sl (fun b => ¬ K b ∧ ¬ Wb n R lb b) H rv rows
  cols : Sl (fun b => ¬ K b ∧ ¬ Wb n R lb b) H cv cols
theorem Fx.mono {K K' : Nat → Prop} {H H' : Heap} {y rv cv lv : AV} {rows cols : List Int} {n m : Nat} {bm bl bY bt bg tb R lb : Nat} (h : Fx K H y rv cv lv rows cols n m bm bl bY bt bg tb R lb)
    (hk : Kx (fun b => ¬ K b ∧ ¬ Wb n R lb b) H H') (hK : ∀ b, b < H.length → K' b → K b) : Fx K' H' y rv cv lv rows cols n m bm bl bY bt bg tb R lb := by
  have go : ∀ {b : Nat} {k : Blk}, (H[b]? = some k ∧ ¬ K b ∧ ¬ Wb n R lb b) → (H'[b]? = some k ∧ ¬ K' b ∧ ¬ Wb n R lb b) := fun {b k} q =>
    ⟨hk.get q.2 q.1, fun e => q.2.1 (hK _ (List.getElem?_eq_some_iff.1 q.1).1 e), q.2.2⟩
  exact ⟨go h.mg, go h.lg, go h.yg, go h.tg, go h.tbg, go h.gg, (h.rows.low.mono (hk.weak fun _ _ h => h.1).kp fun b q => ⟨fun e => q.1.1 (hK b q.2 e), q.1.2⟩), (h.cols.low.mono (hk.weak fun _ _ h => h.1).kp fun b q => ⟨fun e => q.1.1 (hK b q.2 e), q.1.2⟩)⟩
/-- what grow writes -/
structure Wk (B : Nat) (K : Nat → Prop) (H : Heap) (lv : AV) (n m R lb : Nat) (T : List (List Int)) (L : List Int) : Prop where
  len : T.length = n
  row : ∀ a, a < n → H[R + a]? = some (.cells ((gi T (a : Int)).map AV.i)) ∧ (gi T (a : Int)).length = m ∧ ¬ K (R + a)
  left : Rep.rep (fun b => ¬ K b) H [lv] (⟨lb, L⟩ : OR)
  ll : L.length = m
  lo : B ≤ lb ∧ B ≤ R ∧ ¬ (R ≤ lb ∧ lb < R + n)
theorem Wk.row_lt {B : Nat} {K : Nat → Prop} {H : Heap} {lv : AV} {n m R lb : Nat} {T : List (List Int)} {L : List Int} (h : Wk B K H lv n m R lb T L) {a : Nat} (ha : a < n) : R + a < H.length := (List.getElem?_eq_some_iff.1 (h.row a ha).1).1
theorem Wk.mono {B : Nat} {K K' : Nat → Prop} {H H' : Heap} {lv : AV} {n m R lb : Nat} {T : List (List Int)} {L : List Int} (h : Wk B K H lv n m R lb T L) (hk : Kx (fun b => ¬ K b) H H') (hK : ∀ b, b < H.length → K' b → K b) : Wk B K' H' lv n m R lb T L :=
  ⟨h.len, fun a ha => ⟨hk.get (h.row a ha).2.2 (h.row a ha).1, (h.row a ha).2.1, fun e => (h.row a ha).2.2 (hK _ (h.row_lt ha) e)⟩,
    Rep.mono (Rep.low h.left) (hk.weak fun _ _ h => h.1).kp fun b q e => q.1 (hK b q.2 e), h.ll, h.lo⟩
theorem zx178 {b m : Nat} {c : Option Nat} {k : Nat} (h : k < m) : iaddrV 1 (.s 1 b 0 m c) (.i (k : Int)) = some (.p b k) := by
  have h0 : (0 : Int) ≤ k ∧ (k : Int) < m := by omega
  show (if 0 ≤ (k : Int) ∧ (k : Int) < m ∧ 1 = 1 then some (AV.p b (0 + (k : Int).toNat * 1)) else none) = _
  rw [if_pos ⟨h0.1, h0.2, rfl⟩]
  simp
end Go.Proofs.Ytmmbakggmlfffaa
namespace Go.Proofs.Ytmmbakggmlfffaa
open Go Go.AM Go.Proofs
/-- what is known of a table behind i rows and some numbers of the next one -/
def Pre (T D : List (List Int)) (i : Nat) (c : List Int) : Prop := (∀ a : Nat, a < i → gi T (a : Int) = gi D (a : Int)) ∧ (gi T (i : Int)).take c.length = c
section
variable {lo B n m bm bl bY bt bg tb R lb : Nat} {y rv cv lv : AV} {rows cols : List Int}
end
end Go.Proofs.Ytmmbakggmlfffaa
namespace Go.Proofs.Ytmmbakggmlfffaa
open Go Go.AM Go.Proofs
theorem gi_app {α : Type} [Inhabited α] {xs ys : List α} {a : Nat} (h : a < xs.length) : gi (xs ++ ys) (a : Int) = gi xs (a : Int) := by
  rw [gi_nat h, gi_nat (by simp; omega), List.getElem_append_left h]
theorem gi_end {α : Type} [Inhabited α] {xs : List α} {x : α} : gi (xs ++ [x]) (xs.length : Int) = x := by
  rw [gi_nat (by simp)]; simp
theorem Pre.row {T D : List (List Int)} {c : List Int} (h : Pre T D D.length c) (hl : (gi T (D.length : Int)).length = c.length) : Pre T (D ++ [c]) (D ++ [c]).length [] := by
  refine ⟨fun a ha => ?_, by simp⟩
  simp only [List.length_append, List.length_singleton] at ha
  by_cases e : a = D.length
  · subst e
    rw [gi_end]
    have := h.2
    rwa [← hl, List.take_length] at this
  · rw [gi_app (by omega)]
    exact h.1 a (by omega)
section
variable {lo B n m bm bl bY bt bg tb R lb : Nat} {y rv cv lv : AV} {rows cols : List Int}
end
end Go.Proofs.Ytmmbakggmlfffaa
namespace Go.Proofs.Ytmmbakggmlfffaa
open Go Go.AM Go.Proofs
theorem Pre.cut {T D : List (List Int)} {c : List Int} {x : Int} (h : Pre T D D.length (c ++ [x])) : Pre T D D.length c := by
  refine ⟨h.1, ?_⟩
  have := congrArg (List.take c.length) h.2
  rw [List.take_take, List.take_append_of_le_length (Nat.le_refl _), List.take_length] at this
  rwa [show min c.length (c ++ [x]).length = c.length by simp] at this
end Go.Proofs.Ytmmbakggmlfffaa
namespace Go.Proofs.Ytmmbakggmlfffaa
open Go Go.AM Go.Proofs
def MgOk (xs : List Int) : Prop := 1 ≤ xs.length ∧ xs.length ≤ 3 ∧ OkN xs ∧ xs.sum ≤ 16
instance (xs : List Int) : Decidable (MgOk xs) := by unfold MgOk OkN; infer_instance
theorem flatMap_len {α β : Type} {b : Nat} {f : α → List β} : ∀ {l : List α}, (∀ x ∈ l, (f x).length ≤ b) → (l.flatMap f).length ≤ l.length * b
  | [], _ => by simp
  | x :: l, h => by
    rw [List.flatMap_cons, List.length_append, List.length_cons, Nat.add_mul, Nat.one_mul]
    have h1 := h x (by simp)
    have h2 := flatMap_len (l := l) fun y hy => h y (by simp [hy])
    omega
theorem lines_len : ∀ {cs : List Int} {need : Int}, need ≤ 16 → (lines cs need).length ≤ 17 ^ cs.length
  | [], need, _ => by
    unfold lines
    split <;> simp
  | c :: cs, need, h => by
    unfold lines
    refine Nat.le_trans (flatMap_len (b := 17 ^ cs.length) fun x hx => ?_) ?_
    · rw [List.length_map]
      exact lines_len (by omega)
    · rw [List.length_range, List.length_cons, Nat.pow_succ, Nat.mul_comm]
      exact Nat.mul_le_mul_left _ (by omega)
theorem tabsL_len : ∀ {rs L : List Int}, (∀ r ∈ rs, r ≤ 16) → L.length ≤ 3 → (tabsL rs L).length ≤ 4913 ^ rs.length
  | [], L, _, _ => by
    unfold tabsL
    split <;> simp
  | r :: rs, L, h, hl => by
    unfold tabsL
    refine Nat.le_trans (flatMap_len (b := 4913 ^ rs.length) fun x hx => ?_) ?_
    · rw [List.length_map]
      exact tabsL_len (fun r hr => h r (by simp [hr])) (by unfold subL; rw [List.length_zipWith]; omega)
    · rw [List.length_cons, Nat.pow_succ, Nat.mul_comm]
      refine Nat.mul_le_mul_left _ (Nat.le_trans (lines_len (h r (by simp))) ?_)
      have : 17 ^ L.length ≤ 17 ^ 3 := Nat.pow_le_pow_right (by omega) hl
      omega
theorem MgOk.el {xs : List Int} (h : MgOk xs) : ∀ x ∈ xs, 0 ≤ x ∧ x ≤ 16 := h.2.2.1
theorem MgOk.len {xs ys : List Int} (h : MgOk xs) (h' : MgOk ys) : (tabsL xs ys).length ≤ 118587876497 := by
  refine Nat.le_trans (tabsL_len (fun r hr => (h.el r hr).2) h'.2.1) ?_
  have : 4913 ^ xs.length ≤ 4913 ^ 3 := Nat.pow_le_pow_right (by omega) h.2.1
  omega
end Go.Proofs.Ytmmbakggmlfffaa
namespace Go.AM
open Go
theorem Sl.storeI {p : Nat → Prop} {lo : Nat} {H : Heap} {v : AV} {xs : List Int} {k x : Int} {Q : Heap → Prop} (h : Sl p H v xs) (hlo : ∀ b, p b → lo ≤ b) (h0 : 0 ≤ k) (h1 : k < xs.length)
    (go : ∀ H', Sl p H' v (xs.set k.toNat x) → Kx (fun b => v.blk ≠ some b) H H' → H'.length = H.length → Q H') : @optP _ (stA lo H 1 (v.at 1 k) (.i x)) ⟨Q⟩ := by
  rcases h with ⟨rfl, rfl⟩ | ⟨b, o, c, ks, rfl, hb, hk, h2, h3, h4⟩
  · simp at h1; omega
  · change o + xs.length * 1 ≤ ks.length at h2
    have hkl : k.toNat < xs.length := by omega
    have hst : stA lo H 1 (AV.at 1 (.s (Rep.sz Int) b o xs.length c) k) (.i x) = some (H.set b (.cells (ks.set (o + k.toNat) (.i x)))) := by
      simp only [stA, AV.at, Nat.mul_one, zx130, List.length_singleton, List.all_cons, List.all_nil, zx140, Bool.and_self, and_self, if_true]
      rw [st_of hk (hlo b hb) (by simp; omega)]
      simp [wr]
    refine ⟨_, hst, go _ (.inr ⟨b, o, c, ks.set (o + k.toNat) (.i x), by simp, hb, get_set hk, by simp; change o + xs.length * 1 ≤ _; omega, by simpa using h3, fun i hi => ?_⟩) ?_ (by simp)⟩
    · have hi' : i < xs.length := by simpa using hi
      have h5 := h4 i hi'
      change (ks.drop (o + i * 1)).take 1 = [.i xs[i]] at h5
      change ((ks.set (o + k.toNat) (.i x)).drop (o + i * 1)).take 1 = [.i _]
      rw [Nat.mul_one] at h5 ⊢
      have h6 := take1 h5
      have hlt : o + i < ks.length := by omega
      rw [List.drop_eq_getElem_cons (by simp; omega)]
      by_cases e : k.toNat = i
      · subst e; simp
      · have : ks[o + i]'hlt = .i xs[i] := by
          rw [List.getElem?_eq_getElem hlt] at h6; simpa using h6
        rw [List.getElem_set_ne (by omega), this, List.getElem_set_ne e]
        simp
    · exact (Kx.set _ _ _).weak fun b' _ hb' e => hb' (by simp [AV.blk, e])
def OAcc (p : Nat → Prop) (H : Heap) (u : AV) (xs : List (List Int)) : Prop :=
  (u = .nils ∧ xs = []) ∨ ∃ b o c k, u = .s 1 b o xs.length c ∧ p b ∧ H[b]? = some (.cells k) ∧ o + xs.length ≤ k.length ∧ xs.length ≤ 9223372036854775807 ∧ ∀ (i : Nat) (h : i < xs.length), Rep.rep (fun b' => p b' ∧ b' ≠ b) H ((k.drop (o + i)).take 1) xs[i]
theorem OAcc.of {L : Nat} {p q : Nat → Prop} {H : Heap} {u : AV} {xs : List (List Int)} (h : Acc L p H u xs) (hL : ∀ b, L ≤ b → q b) (hp : ∀ b, p b → q b) : OAcc q H u xs := by
  rcases h with h | ⟨b, o, c, k, rfl, hb, hk1, h1, h2, h3⟩
  · exact .inl h
  · refine .inr ⟨b, o, c, k, rfl, hL b hb, hk1, by change o + xs.length * 1 ≤ _ at h1; omega, h2, fun i hi => ?_⟩
    have := h3 i hi
    change Rep.rep _ H ((k.drop (o + i * 1)).take 1) _ at this
    rw [Nat.mul_one] at this
    exact Rep.mono this (Kp.refl _ _) fun b h => ⟨hp b h.1, h.2⟩
end Go.AM
namespace Go.Proofs.Ytmmbakggmlfffaa
open Go Go.AM Go.Proofs
theorem _root_.Go.AM.RetP.callv {E : Tab} {f : Nat} {us caps vs : List AV} {H : Heap} {v : AV} (h : RetP E f (us ++ vs ++ caps) H v) {lo : Nat} {Q : AV → Heap → Prop} : @callvP E lo (.fn f us caps) vs H ⟨Q⟩ = Q v H := h.iff
end Go.Proofs.Ytmmbakggmlfffaa
namespace Go.Proofs.Ytmmbakggmlfffaa
open Go Go.AM Go.Proofs
def prodN : List Int → Nat
  | [] => 1
  | x :: l => x.toNat * prodN l
theorem prodN_dvd {x : Int} : ∀ {l : List Int}, x ∈ l → x.toNat ∣ prodN l
  | y :: l, h => by
    rcases List.mem_cons.1 h with rfl | h
    · exact Nat.dvd_mul_right _ _
    · exact Nat.dvd_trans (prodN_dvd h) (Nat.dvd_mul_left _ _)
theorem prodN_le {m : Nat} (hm : 1 ≤ m) : ∀ {l : List Int}, (∀ x ∈ l, x ≤ m) → prodN l ≤ m ^ l.length
  | [], _ => by simp [prodN]
  | x :: l, h => by
    rw [prodN, List.length_cons, Nat.pow_succ, Nat.mul_comm]
    exact Nat.mul_le_mul (prodN_le hm fun y hy => h y (by simp [hy])) (by have := h x (by simp); omega)
theorem prodN_pos : ∀ {l : List Int}, (∀ x ∈ l, 0 < x) → 0 < prodN l
  | [], _ => by simp [prodN]
  | x :: l, h => Nat.mul_pos (by have := h x (by simp); omega) (prodN_pos fun y hy => h y (by simp [hy]))
section
variable (t : List (List Int))
def nN : Nat := (rowSums t).sum.toNat
def rN (i : Nat) : Nat := (gi (rowSums t) (i : Int)).toNat
def cN (j : Nat) : Nat := (gi (colSums t) (j : Int)).toNat
def allN : Nat := nN t * prodN (rowSums t) * prodN (colSums t)
def eN (i j : Nat) : Nat := rN t i * cN t j * nN t
def qN (i j : Nat) : Nat := allN t / eN t i j
def dd (i j : Nat) : Int := gi (gi t (i : Int)) (j : Int) * nN t - (rN t i * cN t j : Nat)
def sqN (i j : Nat) : Nat := (dd t i j * dd t i j).toNat
def rowOff (i j : Nat) : Nat := ((List.range j).map fun j => qN t i j * sqN t i j).sum
end
theorem rowOff_succ {t : List (List Int)} {i j : Nat} : rowOff t i (j + 1) = rowOff t i j + qN t i j * sqN t i j := by
  unfold rowOff; rw [List.range_succ, List.map_append, List.sum_append]; simp
/-- all sums above 0 -/
def Full (t : List (List Int)) : Prop := TabOk t ∧ ¬ (0 : Int) ∈ rowSums t ∧ ¬ (0 : Int) ∈ colSums t
theorem rowSums_len {t : List (List Int)} : (rowSums t).length = t.length := by simp [rowSums]
theorem colSums_len {t : List (List Int)} : (colSums t).length = (gi t 0).length := by simp [colSums]
theorem rowSums_at {t : List (List Int)} {i : Nat} (h : i < t.length) : gi (rowSums t) (i : Int) = (gi t (i : Int)).sum := by
  rw [gi_nat (by rw [rowSums_len]; exact h), gi_nat h]; simp [rowSums]
theorem colSums_at {t : List (List Int)} {j : Nat} (h : j < (gi t 0).length) : gi (colSums t) (j : Int) = colPart t t.length j := gi_map_range h
theorem total_le {t : List (List Int)} (h : TabOk t) : (rowSums t).sum ≤ 16 := h.2.2.2
theorem rowSums_ge {t : List (List Int)} (h : TabOk t) : ∀ x ∈ rowSums t, 0 ≤ x := by
  intro x hx
  obtain ⟨r, hr, rfl⟩ := List.mem_map.1 hx
  exact sum_nonneg fun y hy => ((h.2.2.1 r hr).2.2.2 y hy).1
theorem rowSums_le {t : List (List Int)} (h : TabOk t) : ∀ x ∈ rowSums t, 0 ≤ x ∧ x ≤ 16 := fun x hx =>
  ⟨rowSums_ge h x hx, Int.le_trans (le_sum (rowSums_ge h) hx) (total_le h)⟩
/-- the sums of the columns sum to the same -/
theorem colPart_le {t : List (List Int)} (h : TabOk t) {j : Nat} (hj : j < (gi t 0).length) : ∀ i, i ≤ t.length → colPart t i j ≤ ((rowSums t).take i).sum
  | 0, _ => by simp [colPart]
  | i + 1, hi => by
    have h1 := colPart_le h hj i (by omega)
    have h2 : i < (rowSums t).length := by rw [rowSums_len]; omega
    rw [colPart_succ (by omega), sum_take h2, rowSums_at (by omega)]
    have hw := h.width (show i < t.length by omega)
    have : gi (gi t (i : Int)) (j : Int) ≤ (gi t (i : Int)).sum := le_sum (fun y hy => ((h.2.2.1 _ (mem_gi (show i < t.length by omega))).2.2.2 y hy).1) (mem_gi (by omega))
    omega
theorem colSums_le {t : List (List Int)} (h : TabOk t) : ∀ x ∈ colSums t, 0 ≤ x ∧ x ≤ 16 := fun x hx => by
  unfold colSums at hx
  obtain ⟨j, hj, rfl⟩ := List.mem_map.1 hx
  have hj' := List.mem_range.1 hj
  have h1 := (h.colPart (i := t.length) hj').1
  have h2 := colPart_le h hj' t.length (Nat.le_refl _)
  rw [List.take_of_length_le (by rw [rowSums_len]; exact Nat.le_refl _)] at h2
  have := total_le h
  exact ⟨h1, by omega⟩
/-- the numbers, and how great they are -/
theorem Full.nums {t : List (List Int)} (h : Full t) {i j : Nat} (hi : i < t.length) (hj : j < (gi t 0).length) :
    gi (rowSums t) (i : Int) = rN t i ∧ gi (colSums t) (j : Int) = cN t j ∧ 1 ≤ rN t i ∧ rN t i ≤ 16 ∧ 1 ≤ cN t j ∧ cN t j ≤ 16 ∧ 1 ≤ nN t ∧ nN t ≤ 16 ∧ (rowSums t).sum = nN t := by
  have r1 := mem_gi (xs := rowSums t) (i := i) (by rw [rowSums_len]; exact hi)
  have c1 := mem_gi (xs := colSums t) (i := j) (by rw [colSums_len]; exact hj)
  have r2 := rowSums_le h.1 _ r1
  have c2 := colSums_le h.1 _ c1
  have r3 : gi (rowSums t) (i : Int) ≠ 0 := fun e => h.2.1 (e ▸ r1)
  have c3 : gi (colSums t) (j : Int) ≠ 0 := fun e => h.2.2 (e ▸ c1)
  have n1 := le_sum (rowSums_ge h.1) r1
  have n2 := total_le h.1
  unfold rN cN nN
  omega
theorem Full.all {t : List (List Int)} (h : Full t) : 1 ≤ allN t ∧ allN t ≤ 268435456 := by
  have hl := h.1.1
  have hc := h.1.cols
  have hn := h.nums (i := 0) (j := 0) (by omega) (by omega)
  have pr : ∀ x ∈ rowSums t, 0 < x := fun x hx => by
    have := rowSums_le h.1 x hx
    have : x ≠ 0 := fun e => h.2.1 (e ▸ hx)
    omega
  have pc : ∀ x ∈ colSums t, 0 < x := fun x hx => by
    have := colSums_le h.1 x hx
    have : x ≠ 0 := fun e => h.2.2 (e ▸ hx)
    omega
  have a1 : prodN (rowSums t) ≤ 16 ^ 3 := Nat.le_trans (prodN_le (m := 16) (by omega) fun x hx => (rowSums_le h.1 x hx).2) (Nat.pow_le_pow_right (by omega) (by rw [rowSums_len]; exact h.1.2.1))
  have a2 : prodN (colSums t) ≤ 16 ^ 3 := Nat.le_trans (prodN_le (m := 16) (by omega) fun x hx => (colSums_le h.1 x hx).2) (Nat.pow_le_pow_right (by omega) (by rw [colSums_len]; exact hc.2))
  have b1 := prodN_pos pr
  have b2 := prodN_pos pc
  unfold allN
  refine ⟨Nat.mul_pos (Nat.mul_pos (by omega) b1) b2, ?_⟩
  have := Nat.mul_le_mul (Nat.mul_le_mul hn.2.2.2.2.2.2.2.1 a1) a2
  omega
theorem Full.dvd {t : List (List Int)} (h : Full t) {i j : Nat} (hi : i < t.length) (hj : j < (gi t 0).length) : allN t = eN t i j * qN t i j ∧ 1 ≤ eN t i j ∧ eN t i j ≤ 4096 := by
  have hn := h.nums hi hj
  have r1 : rN t i ∣ prodN (rowSums t) := prodN_dvd (mem_gi (by rw [rowSums_len]; exact hi))
  have c1 : cN t j ∣ prodN (colSums t) := prodN_dvd (mem_gi (by rw [colSums_len]; exact hj))
  have d : eN t i j ∣ allN t := by
    unfold eN allN
    rw [Nat.mul_comm (rN t i * cN t j), Nat.mul_assoc (nN t)]
    exact Nat.mul_dvd_mul_left _ (Nat.mul_dvd_mul r1 c1)
  refine ⟨(Nat.mul_div_cancel' d).symm, Nat.mul_pos (Nat.mul_pos (by omega) (by omega)) (by omega), ?_⟩
  unfold eN
  exact Nat.mul_le_mul (Nat.mul_le_mul hn.2.2.2.1 hn.2.2.2.2.2.1) hn.2.2.2.2.2.2.2.1
theorem sq_nonneg (x : Int) : 0 ≤ x * x := by
  rcases Int.le_total 0 x with h | h
  · exact Int.mul_nonneg h h
  · exact Int.mul_nonneg_of_nonpos_of_nonpos h h
theorem Full.dd {t : List (List Int)} (h : Full t) {i j : Nat} (hi : i < t.length) (hj : j < (gi t 0).length) : -256 ≤ dd t i j ∧ dd t i j ≤ 256 ∧ 0 ≤ gi (gi t (i : Int)) (j : Int) * nN t ∧ gi (gi t (i : Int)) (j : Int) * nN t ≤ 256 ∧ ((sqN t i j : Nat) : Int) = Go.Proofs.Ytmmbakggmlfffaa.dd t i j * Go.Proofs.Ytmmbakggmlfffaa.dd t i j ∧ sqN t i j ≤ 65536 := by
  have hn := h.nums hi hj
  have he := h.1.entry hi hj
  have m1 := mul_small (m := 16) (n := 16) he.1 he.2 (show (0 : Int) ≤ nN t by omega) (by omega) (by omega)
  have m2 : rN t i * cN t j ≤ 16 * 16 := Nat.mul_le_mul hn.2.2.2.1 hn.2.2.2.2.2.1
  have b1 : -256 ≤ Go.Proofs.Ytmmbakggmlfffaa.dd t i j ∧ Go.Proofs.Ytmmbakggmlfffaa.dd t i j ≤ 256 := by
    unfold Go.Proofs.Ytmmbakggmlfffaa.dd; omega
  have b2 := sq_nonneg (Go.Proofs.Ytmmbakggmlfffaa.dd t i j)
  have b3 : Go.Proofs.Ytmmbakggmlfffaa.dd t i j * Go.Proofs.Ytmmbakggmlfffaa.dd t i j ≤ 65536 := by
    rcases Int.le_total 0 (Go.Proofs.Ytmmbakggmlfffaa.dd t i j) with h | h
    · have := mul_small h b1.2 h b1.2 (by omega); omega
    · have := mul_small (show 0 ≤ - Go.Proofs.Ytmmbakggmlfffaa.dd t i j by omega) (show - Go.Proofs.Ytmmbakggmlfffaa.dd t i j ≤ 256 by omega) (show 0 ≤ - Go.Proofs.Ytmmbakggmlfffaa.dd t i j by omega) (show - Go.Proofs.Ytmmbakggmlfffaa.dd t i j ≤ 256 by omega) (by omega)
      rw [Int.neg_mul_neg] at this; omega
  unfold sqN
  refine ⟨b1.1, b1.2, m1.1, by omega, by omega, by omega⟩
/-- how great the sum is -/
theorem Full.part {t : List (List Int)} (h : Full t) {i : Nat} (hi : i < t.length) : ∀ {j : Nat}, j ≤ (gi t 0).length → rowOff t i j ≤ j * 17592186044416
  | 0, _ => by simp [rowOff]
  | j + 1, hj => by
    have h1 := h.part hi (j := j) (by omega)
    have h2 := h.dvd hi (j := j) (by omega)
    have h3 := h.dd hi (j := j) (by omega)
    have h4 := h.all
    have h5 : qN t i j ≤ 268435456 := by
      have : qN t i j ≤ allN t := Nat.div_le_self _ _
      omega
    have h6 := Nat.mul_le_mul h5 h3.2.2.2.2.2
    rw [rowOff_succ]; omega
end Go.Proofs.Ytmmbakggmlfffaa
namespace Go.Proofs.Ytmmbakggmlfffaa
open Go Go.AM Go.Proofs
/-- a sum -/
def is (m : Nat) (f : Nat → Int) : Int := ((List.range m).map f).sum
theorem Full.cell {t : List (List Int)} (h : Full t) {i j : Nat} (hi : i < t.length) (hj : j < (gi t 0).length) :
    (allN t : Int) = rN t i * cN t j * nN t * qN t i j ∧ ((qN t i j * sqN t i j : Nat) : Int) = qN t i j * ((gi (gi t (i : Int)) (j : Int) * nN t - rN t i * cN t j) * (gi (gi t (i : Int)) (j : Int) * nN t - rN t i * cN t j)) ∧ 0 ≤ gi (gi t (i : Int)) (j : Int) ∧ gi (gi t (i : Int)) (j : Int) ≤ rN t i ∧ gi (gi t (i : Int)) (j : Int) ≤ cN t j := by
  have hn := h.nums hi hj
  have hd := h.dd hi hj
  have he := h.1.entry hi hj
  refine ⟨?_, ?_, he.1, ?_, ?_⟩
  · conv => lhs; rw [(h.dvd hi hj).1]
    unfold eN; push_cast; rfl
  · rw [Int.natCast_mul, hd.2.2.2.2.1]
    unfold Go.Proofs.Ytmmbakggmlfffaa.dd; push_cast; rfl
  · rw [← hn.1, rowSums_at hi]
    exact le_sum (fun y hy => ((h.1.2.2.1 _ (mem_gi hi)).2.2.2 y hy).1) (mem_gi (by rw [h.1.width hi]; exact hj))
  · rw [← hn.2.1, colSums_at hj]
    have key : ∀ m, m ≤ t.length → i < m → gi (gi t (i : Int)) (j : Int) ≤ colPart t m j := by
      intro m
      induction m with
      | zero => omega
      | succ m ih =>
        intro hm him
        rw [colPart_succ (by omega)]
        have e := h.1.entry (show m < t.length by omega) hj
        by_cases hh : i = m
        · subst hh
          have := (h.1.colPart (i := i) hj).1
          omega
        · have := ih (by omega) (by omega)
          omega
    exact key t.length (Nat.le_refl _) hi
end Go.Proofs.Ytmmbakggmlfffaa
namespace Go.Proofs.Ytmmbakggmlfffaa
open Go Go.AM Go.Proofs
/-- what holds between rounds: c the cell of the slice -/
def FamI (c : Nat) (ts : List (List (List Int))) (i : Nat) (K : Nat → Prop) (H1 : Heap) : Prop := ∃ u, H1[c]? = some (.cells [u]) ∧ K c ∧ Acc (c + 1) (fun b => K b ∧ c < b) H1 u (ts.take i) ∧ ∀ b, u.blk = some b → K b
theorem FamI.st {c : Nat} {ts : List (List (List Int))} {i : Nat} {K : Nat → Prop} {H1 H2 : Heap} {P : Nat → Prop} (h : FamI c ts i K H1) (hx : Kx (fun b => P b ∨ K b) H1 H2) : FamI c ts i K H2 := by
  obtain ⟨u, h1, h2, h3, h4⟩ := h
  exact ⟨u, hx.get (.inr h2) h1, h2, h3.kp hx.kp (fun b e => .inr (h4 b e)) (fun b h => .inr h.1), h4⟩
end Go.Proofs.Ytmmbakggmlfffaa
namespace Go.Proofs.Ytmmbakggmlfffaa
open Go Go.AM Go.Proofs
abbrev FM := List (List (Int × Int))
/-- the common multiple of the dens, as the code has it -/
def lcmF (fs : List (Int × Int)) : Nat := fs.foldl (fun d f => d / Nat.gcd d f.2.toNat * f.2.toNat) 1
/-- a fraction of which a den divides D -/
def frB (D : Nat) (f : Int × Int) : Bool := decide (0 ≤ f.1) && decide (f.1 ≤ f.2) && decide (1 ≤ f.2) && Nat.beq (Nat.gcd f.1.toNat f.2.toNat) 1 && Nat.beq (D % f.2.toNat) 0
def mixF (t : List (List Int)) (s : Nat) : FM := t.map fun r => r.map fun x => fracN x.toNat s
def partR (d : Nat) (r : List (Int × Int)) : List Int := r.map fun f => ((f.1.toNat * (d / f.2.toNat) : Nat) : Int)
def partsF (m : FM) (d : Nat) : List (List Int) := m.map (partR d)
def free (used j : Nat) : Bool := Nat.beq ((used >>> j) &&& 1) 0
/-- the first permutation whose numbers are above 0 -/
def matchF : List (List Int) → Nat → Option (List Int)
  | [], _ => some []
  | r :: rs, used => (List.range r.length).findSome? fun j : Nat => if decide (0 < gi r (j : Int)) && free used j then (matchF rs (used ||| 1 <<< j)).map ((j : Int) :: ·) else none
def leastF : List (List Int) → List Int → Int → Int
  | r :: rs, j :: p, w => leastF rs p (min w (gi r j))
  | _, _, w => w
def subF : List (List Int) → List Int → Int → List (List Int)
  | r :: rs, j :: p, w => r.set j.toNat (gi r j - w) :: subF rs p w
  | rs, _, _ => rs
def splF : Nat → List (List Int) → Int → List (List Int × Int)
  | 0, _, _ => []
  | k + 1, l, left => if 0 < left then (match matchF l 0 with
    | some p => (p, leastF l p left) :: splF k (subF l p (leastF l p left)) (left - leastF l p left)
    | none => []) else []
/-- a table of n rows and columns, of numbers up to 16 -/
def tabB (n : Nat) (l : List (List Int)) : Bool := Nat.beq l.length n && l.all fun r => Nat.beq r.length n && r.all fun x => decide (0 ≤ x) && decide (x ≤ 16)
def setF (p : List Int) : Nat := p.foldl (fun s x => s ||| 1 <<< x.toNat) 0
def permB (n : Nat) (p : List Int) : Bool := Nat.beq p.length n && (p.all fun x => decide (0 ≤ x) && decide (x < n)) && Nat.beq (setF p) (1 <<< n - 1)
/-- all goes well while it is split -/
def splB (n : Nat) : Nat → List (List Int) → Int → Bool
  | 0, _, left => decide (left = 0)
  | k + 1, l, left => tabB n l && decide (0 ≤ left) && decide (left ≤ 16) && (if 0 < left then (match matchF l 0 with
    | some p => permB n p && decide (1 ≤ leastF l p left) && decide (leastF l p left ≤ 16) && splB n k (subF l p (leastF l p left)) (left - leastF l p left)
    | none => false) else true)
def weiF (d : Nat) (qs : List (List Int × Int)) : List (Int × Int) := qs.map fun q => fracN q.2.toNat d
/-- what CheckSplit sums up, for one cell -/
def gotF (all : Nat) : List (List Int) → List (Int × Int) → Nat → Nat → Nat
  | p :: ps, w :: ws, i, j => (if gi p (i : Int) = (j : Int) then w.1.toNat * (all / w.2.toNat) else 0) + gotF all ps ws i j
  | _, _, _, _ => 0
def sumF (all : Nat) (ws : List (Int × Int)) : Nat := (ws.map fun w => w.1.toNat * (all / w.2.toNat)).sum
def chkB (n s : Nat) (t : List (List Int)) : Bool :=
  let m := mixF t s
  let d := lcmF m.flatten
  let l := partsF m d
  let qs := splF 16 l d
  let ps := qs.map (·.1)
  let ws := weiF d qs
  let al := lcmF ws
  tabB n t && (m.flatten.all (frB s)) && Nat.ble 1 d && Nat.ble d 16 && tabB n l && (l.all fun r => decide (r.sum = d)) && ((List.range n).all fun j : Nat => decide ((l.map fun r => gi r (j : Int)).sum = d)) &&
  splB n 16 l d && Nat.ble 1 qs.length && Nat.ble qs.length 16 && (ws.all (frB d)) && (ws.all fun w => decide (1 ≤ w.1)) && Nat.ble 1 al && Nat.ble al 16 && (ps.all (permB n)) &&
  ((List.range n).all fun i : Nat => (List.range n).all fun j : Nat => decide ((gotF al ps ws i j : Int) * d = gi (gi l (i : Int)) (j : Int) * al)) && Nat.beq (sumF al ws) al
theorem chk_1 : ∀ s : Nat, s < 17 → 0 < s → chkB 1 s [[(s : Int)]] = true := by decide +kernel
theorem chk_2 : ∀ s : Nat, s < 9 → ∀ a : Nat, a < 9 → 0 < s → a ≤ s → chkB 2 s [[(a : Int), ((s - a : Nat) : Int)], [((s - a : Nat) : Int), (a : Int)]] = true := by decide +kernel
def tab3 (s a b d e : Nat) : List (List Int) := [[(a : Int), (b : Int), ((s - a - b : Nat) : Int)], [(d : Int), (e : Int), ((s - d - e : Nat) : Int)], [((s - a - d : Nat) : Int), ((s - b - e : Nat) : Int), ((a + b + d + e - s : Nat) : Int)]]
def ok3 (s a b d e : Nat) : Bool := Nat.ble 1 s && Nat.ble (a + b) s && Nat.ble (d + e) s && Nat.ble (a + d) s && Nat.ble (b + e) s && Nat.ble s (a + b + d + e)
def all3 (n : Nat) (s : Nat) : Bool := (List.range n).all fun a => (List.range n).all fun b => (List.range n).all fun d => (List.range n).all fun e => !ok3 s a b d e || chkB 3 s (tab3 s a b d e)
theorem chk_3a : all3 6 1 = true := by decide +kernel
theorem chk_3b : all3 6 2 = true := by decide +kernel
theorem chk_3c : all3 6 3 = true := by decide +kernel
theorem chk_3d : all3 6 4 = true := by decide +kernel
theorem chk_3e : all3 6 5 = true := by decide +kernel
theorem chk_3 (s : Nat) (hs : s < 6) (a : Nat) (ha : a < 6) (b : Nat) (hb : b < 6) (d : Nat) (hd : d < 6) (e : Nat) (he : e < 6) (h0 : 0 < s) (h1 : a + b ≤ s) (h2 : d + e ≤ s) (h3 : a + d ≤ s) (h4 : b + e ≤ s) (h5 : s ≤ a + b + d + e) : chkB 3 s (tab3 s a b d e) = true := by
  have key : all3 6 s = true := by
    have : s = 1 ∨ s = 2 ∨ s = 3 ∨ s = 4 ∨ s = 5 := by omega
    rcases this with rfl | rfl | rfl | rfl | rfl
    · exact chk_3a
    · exact chk_3b
    · exact chk_3c
    · exact chk_3d
    · exact chk_3e
  unfold all3 at key
  rw [List.all_eq_true] at key
  have k1 := key a (List.mem_range.2 ha)
  rw [List.all_eq_true] at k1
  have k2 := k1 b (List.mem_range.2 hb)
  rw [List.all_eq_true] at k2
  have k3 := k2 d (List.mem_range.2 hd)
  rw [List.all_eq_true] at k3
  have k4 := k3 e (List.mem_range.2 he)
  have ho : ok3 s a b d e = true := by
    simp only [ok3, Bool.and_eq_true, Nat.ble_eq]
    omega
  rw [ho] at k4
  simpa using k4
end Go.Proofs.Ytmmbakggmlfffaa
namespace Go.Proofs.Ytmmbakggmlfffaa
open Go Go.AM Go.Proofs
theorem gcd_retS {H : Heap} (m n : Nat) (hm : m ≤ 4611686018427387904) (hn : n ≤ 4611686018427387904) : RetP E 43 [.i m, .i n] H (.i (Nat.gcd m n : Nat)) := by
  refine RetP.ro rfl fn43 rfl rfl ?_
  unfold f43A
  simp (disch := (first | assumption | omega | (simp only [List.length_append, List.length_cons, List.length_nil]; omega))) only [↓wD,wU,Nat.reduceBEq,zx150,zx151,zx159,zx160,zx161,zx162,Nat.reduceAdd,Nat.reduceSub,Nat.reduceMul,Nat.reduceLeDiff,Nat.reduceLT,Nat.reduceEqDiff,Int.reduceAdd,Int.reduceSub,Int.reduceMul,Int.reduceNeg,Int.reduceLT,Int.reduceLE,Int.reduceEq,Int.reduceToNat,Int.cast_ofNat_Int,↓reduceIte, *]
  refine Wp.dec (fun k a H' => H' = H ∧ ∃ x : Nat, a 0 = .i x ∧ a 1 = .i k ∧ x ≤ 4611686018427387904 ∧ k ≤ 4611686018427387904 ∧ Nat.gcd x k = Nat.gcd m n) n ?_ ?_
  · rintro k a H' ⟨rfl, x, h0, h1, hx, hkb, hg⟩ ih
    by_cases hk : k = 0
    · subst hk
      simp (disch := (first | assumption | omega | (simp only [List.length_append, List.length_cons, List.length_nil]; omega))) only [↓wD,wU,Nat.reduceBEq,zx150,zx151,zx159,zx160,zx161,zx162,Nat.reduceAdd,Nat.reduceSub,Nat.reduceMul,Nat.reduceLeDiff,Nat.reduceLT,Nat.reduceEqDiff,Int.reduceAdd,Int.reduceSub,Int.reduceMul,Int.reduceNeg,Int.reduceLT,Int.reduceLE,Int.reduceEq,Int.reduceToNat,Int.cast_ofNat_Int,↓reduceIte, *]
      rw [Nat.gcd_zero_right] at hg
      rw [← hg]
      congr 1
      omega
    · simp (disch := (first | assumption | omega | (simp only [List.length_append, List.length_cons, List.length_nil]; omega))) only [↓wD,wU,Nat.reduceBEq,zx150,zx151,zx159,zx160,zx161,zx162,Nat.reduceAdd,Nat.reduceSub,Nat.reduceMul,Nat.reduceLeDiff,Nat.reduceLT,Nat.reduceEqDiff,Int.reduceAdd,Int.reduceSub,Int.reduceMul,Int.reduceNeg,Int.reduceLT,Int.reduceLE,Int.reduceEq,Int.reduceToNat,Int.cast_ofNat_Int,↓reduceIte, *, tmodN]
      have hlt : x % k < k := Nat.mod_lt _ (by omega)
      refine ih.go ⟨x % k, hlt, rfl, k, ?_⟩
      rw [← hg, ← gcd_step x k]
      simp (disch := (first | assumption | omega | (simp only [List.length_append, List.length_cons, List.length_nil]; omega))) only [↓wD,wU,Nat.reduceBEq,zx150,zx151,zx159,zx160,zx161,zx162,Nat.reduceAdd,Nat.reduceSub,Nat.reduceMul,Nat.reduceLeDiff,Nat.reduceLT,Nat.reduceEqDiff,Int.reduceAdd,Int.reduceSub,Int.reduceMul,Int.reduceNeg,Int.reduceLT,Int.reduceLE,Int.reduceEq,Int.reduceToNat,Int.cast_ofNat_Int,↓reduceIte, *]
      omega
  · simp (disch := (first | assumption | omega | (simp only [List.length_append, List.length_cons, List.length_nil]; omega))) only [↓wD,wU,Nat.reduceBEq,zx150,zx151,zx159,zx160,zx161,zx162,Nat.reduceAdd,Nat.reduceSub,Nat.reduceMul,Nat.reduceLeDiff,Nat.reduceLT,Nat.reduceEqDiff,Int.reduceAdd,Int.reduceSub,Int.reduceMul,Int.reduceNeg,Int.reduceLT,Int.reduceLE,Int.reduceEq,Int.reduceToNat,Int.cast_ofNat_Int,↓reduceIte, *]
    exact ⟨m, by simp_all⟩
theorem frac_retS {H : Heap} (m n : Nat) (hm : m ≤ 4611686018427387904) (hn : n ≤ 4611686018427387904) (h0 : 0 < n) : RetP E 26 [.i m, .i n] H (.ag [.i (fracN m n).1, .i (fracN m n).2]) := by
  refine RetP.ro rfl fn26 rfl rfl ?_
  unfold f26A
  have hg : 0 < Nat.gcd m n := Nat.gcd_pos_of_pos_right _ h0
  have h1 : m / Nat.gcd m n ≤ m := Nat.div_le_self _ _
  have h2 : n / Nat.gcd m n ≤ n := Nat.div_le_self _ _
  unfold fracN
  obtain ⟨q1, hq1⟩ : ∃ q, m / Nat.gcd m n = q := ⟨_, rfl⟩
  obtain ⟨q2, hq2⟩ : ∃ q, n / Nat.gcd m n = q := ⟨_, rfl⟩
  rw [hq1] at h1
  rw [hq2] at h2
  simp (disch := (first | assumption | omega | (simp only [List.length_append, List.length_cons, List.length_nil]; omega))) only [↓wD,wU,Nat.reduceBEq,zx150,zx151,zx159,zx160,zx161,zx162,Nat.reduceAdd,Nat.reduceSub,Nat.reduceMul,Nat.reduceLeDiff,Nat.reduceLT,Nat.reduceEqDiff,Int.reduceAdd,Int.reduceSub,Int.reduceMul,Int.reduceNeg,Int.reduceLT,Int.reduceLE,Int.reduceEq,Int.reduceToNat,Int.cast_ofNat_Int,↓reduceIte, *, (gcd_retS m n hm hn).call, tdivN]
/-- a fraction that is one -/
structure FrP (D : Nat) (f : Int × Int) (N K : Nat) : Prop where
  eq : f = ((N : Int), (K : Int))
  le : N ≤ K
  pos : 1 ≤ K
  gcd : Nat.gcd N K = 1
  dvd : K ∣ D
theorem frB_elim {D : Nat} {f : Int × Int} (h : frB D f = true) : ∃ N K, FrP D f N K := by
  simp only [frB, Bool.and_eq_true, decide_eq_true_eq] at h
  obtain ⟨⟨⟨⟨h1, h2⟩, h3⟩, h4⟩, h5⟩ := h
  obtain ⟨x, y⟩ := f
  obtain ⟨N, rfl⟩ := Int.eq_ofNat_of_zero_le h1
  obtain ⟨K, rfl⟩ := Int.eq_ofNat_of_zero_le (show 0 ≤ y by simp only at h3; omega)
  simp only [Int.toNat_natCast] at h4 h5
  replace h4 := Nat.eq_of_beq_eq_true h4
  replace h5 := Nat.eq_of_beq_eq_true h5
  exact ⟨N, K, rfl, by simp only at h2; omega, by simp only at h3; omega, h4, Nat.dvd_of_mod_eq_zero h5⟩
theorem isFrac_ret {H : Heap} {N K : Nat} (h1 : N ≤ K) (h2 : 1 ≤ K) (h3 : Nat.gcd N K = 1) (h4 : K ≤ 16) : RetP E 44 [.ag [.i N, .i K]] H (.b true) := by
  refine RetP.ro rfl fn44 rfl rfl ?_
  unfold f44A
  have g := gcd_retS (H := H ++ [.cells [.i N, .i K]]) N K (by omega) (by omega)
  rw [h3] at g
  have c0 : (H ++ [Blk.cells [.i N, .i K]])[H.length]? = some (.cells [.i N, .i K]) := get_last
  have l0 := ld_of (o := 0) c0
  have l1 := ld_of (o := 1) c0
  have d1 : decide ((1 : Int) ≤ (K : Int)) = true := decide_eq_true (by omega)
  have d2 : decide ((0 : Int) ≤ (N : Int)) = true := decide_eq_true (by omega)
  have d3 : decide ((N : Int) ≤ (K : Int)) = true := decide_eq_true (by omega)
  simp (disch := (first | assumption | omega | (simp only [List.length_append, List.length_cons, List.length_nil]; omega))) only [↓wD,wU,Nat.reduceBEq,zx150,zx151,zx159,zx160,zx161,zx162,Nat.reduceAdd,Nat.reduceSub,Nat.reduceMul,Nat.reduceLeDiff,Nat.reduceLT,Nat.reduceEqDiff,Int.reduceAdd,Int.reduceSub,Int.reduceMul,Int.reduceNeg,Int.reduceLT,Int.reduceLE,Int.reduceEq,Int.reduceToNat,Int.cast_ofNat_Int,↓reduceIte, l0, l1, g.call, d1, d2, d3]
theorem lcmF_snoc {fs : List (Int × Int)} {f : Int × Int} : lcmF (fs ++ [f]) = lcmF fs / Nat.gcd (lcmF fs) f.2.toNat * f.2.toNat := by
  simp [lcmF, List.foldl_append]
theorem lcm_dvd' {D d k : Nat} (h : d ∣ D) (hk : k ∣ D) (hd : 0 < d) (hk0 : 0 < k) : d / Nat.gcd d k * k ∣ D ∧ 0 < d / Nat.gcd d k * k := by
  have e : d / Nat.gcd d k * k = Nat.lcm d k := by
    unfold Nat.lcm
    rw [Nat.div_mul_right_comm (Nat.gcd_dvd_left d k)]
  rw [e]
  exact ⟨Nat.lcm_dvd h hk, Nat.lcm_pos hd hk0⟩
theorem lcmF_dvd {D : Nat} {fs : List (Int × Int)} (h : ∀ f ∈ fs, f.2.toNat ∣ D ∧ 0 < f.2.toNat) : lcmF fs ∣ D ∧ 0 < lcmF fs := by
  have key : ∀ (fs : List (Int × Int)) (d : Nat), (∀ f ∈ fs, f.2.toNat ∣ D ∧ 0 < f.2.toNat) → d ∣ D → 0 < d → fs.foldl (fun d f => d / Nat.gcd d f.2.toNat * f.2.toNat) d ∣ D ∧ 0 < fs.foldl (fun d f => d / Nat.gcd d f.2.toNat * f.2.toNat) d := by
    intro fs
    induction fs with
    | nil => exact fun d _ h1 h2 => ⟨h1, h2⟩
    | cons f fs ih =>
      intro d h h1 h2
      have hf := h f (by simp)
      have := lcm_dvd' h1 hf.1 h2 hf.2
      exact ih _ (fun g hg => h g (by simp [hg])) this.1 this.2
  exact key fs 1 h (Nat.one_dvd _) (by omega)
theorem frB_dvd {D : Nat} {fs : List (Int × Int)} (h : ∀ f ∈ fs, frB D f = true) : lcmF fs ∣ D ∧ 0 < lcmF fs := lcmF_dvd fun f hf => by
  obtain ⟨N, K, q⟩ := frB_elim (h f hf)
  rw [q.eq]
  exact ⟨by simpa using q.dvd, by have := q.pos; simp; omega⟩
end Go.Proofs.Ytmmbakggmlfffaa
namespace Go.Proofs.Ytmmbakggmlfffaa
open Go Go.AM Go.Proofs
theorem flat_take {α : Type} [Inhabited α] {m : List (List α)} {i : Nat} (h : i < m.length) : (m.take (i + 1)).flatten = (m.take i).flatten ++ gi m (i : Int) := by
  rw [take_gi h, List.flatten_append]; simp
theorem mem_flat_take {α : Type} [Inhabited α] {m : List (List α)} {i j : Nat} {f : α} (hi : i < m.length) (hf : f ∈ (m.take i).flatten ++ (gi m (i : Int)).take j) : f ∈ m.flatten := by
  rcases List.mem_append.1 hf with h | h
  · obtain ⟨r, hr, hf⟩ := List.mem_flatten.1 h
    exact List.mem_flatten.2 ⟨r, List.mem_of_mem_take hr, hf⟩
  · exact List.mem_flatten.2 ⟨_, mem_gi hi, List.mem_of_mem_take h⟩
theorem multiple_ret {p : Nat → Prop} {H : Heap} {v : AV} {m : FM} {D most : Nat} (hm : Sl p H v m) (hD0 : 0 < D) (hD : D ≤ 16) (h16 : 16 ≤ most) (hmm : most ≤ 1000000000) (hf : ∀ f ∈ m.flatten, frB D f = true) :
    RetP E 27 [v, .i most] H (.tp [.i (lcmF m.flatten : Nat), .b true]) := by
  refine RetP.ro rfl fn27 rfl rfl ?_
  unfold f27A
  have hb := hm.bound
  simp (disch := (first | assumption | omega | (simp only [List.length_append, List.length_cons, List.length_nil]; omega))) only [↓wD,wU,Nat.reduceBEq,zx150,zx151,zx159,zx160,zx161,zx162,Nat.reduceAdd,Nat.reduceSub,Nat.reduceMul,Nat.reduceLeDiff,Nat.reduceLT,Nat.reduceEqDiff,Int.reduceAdd,Int.reduceSub,Int.reduceMul,Int.reduceNeg,Int.reduceLT,Int.reduceLE,Int.reduceEq,Int.reduceToNat,Int.cast_ofNat_Int,↓reduceIte, hm.L]
  refine Wp.for m.length (fun i a H' => a 1 = .i most ∧ a 10 = v ∧ a 11 = .i m.length ∧ a 12 = .i i ∧ a 4 = .i (lcmF (m.take i).flatten : Nat) ∧ Gr H H') ?_ ?_
  · rintro i a G hi ⟨a1, a10, a11, a12, a4, hg⟩ ih
    simp (disch := (first | assumption | omega | (simp only [List.length_append, List.length_cons, List.length_nil]; omega))) only [↓wD,wU,Nat.reduceBEq,zx150,zx151,zx159,zx160,zx161,zx162,Nat.reduceAdd,Nat.reduceSub,Nat.reduceMul,Nat.reduceLeDiff,Nat.reduceLT,Nat.reduceEqDiff,Int.reduceAdd,Int.reduceSub,Int.reduceMul,Int.reduceNeg,Int.reduceLT,Int.reduceLE,Int.reduceEq,Int.reduceToNat,Int.cast_ofNat_Int,↓reduceIte, a1, a10, a11, a12, a4]
    refine condP_split (fun hlt => ?_) (fun hlt => ?_)
    · have hi' : i < m.length := by omega
      have hmG := hm.gr hg
      have g := hmG.get (k := (i : Int)) (by omega) (by omega)
      have gb := g.bound
      have hgl := hg.1
      obtain ⟨y, ey⟩ : ∃ y, v.get G (i : Int) = y := ⟨_, rfl⟩
      have mL := hmG.L
      rw [ey] at g
      have gT := g.T
      simp (disch := (first | assumption | omega | (simp only [List.length_append, List.length_cons, List.length_nil]; omega))) only [↓wD,wU,Nat.reduceBEq,zx150,zx151,zx159,zx160,zx161,zx162,Nat.reduceAdd,Nat.reduceSub,Nat.reduceMul,Nat.reduceLeDiff,Nat.reduceLT,Nat.reduceEqDiff,Int.reduceAdd,Int.reduceSub,Int.reduceMul,Int.reduceNeg,Int.reduceLT,Int.reduceLE,Int.reduceEq,Int.reduceToNat,Int.cast_ofNat_Int,↓reduceIte, a1, a10, a11, a12, a4, mL, ey, gT]
      refine Wp.for (gi m (i : Int)).length (fun j a H' => a 1 = .i most ∧ a 10 = v ∧ a 11 = .i m.length ∧ a 12 = .i i ∧ a 16 = y ∧ a 17 = .i (gi m (i : Int)).length ∧ a 18 = .i j ∧ a 4 = .i (lcmF ((m.take i).flatten ++ (gi m (i : Int)).take j) : Nat) ∧ Gr G H') ?_ ?_
      · clear a1 a10 a11 a12 a4 hlt a mL gT
        rintro j a G2 hj ⟨a1, a10, a11, a12, a16, a17, a18, a4, hg2⟩ ih2
        have hgl2 := hg2.1
        simp (disch := (first | assumption | omega | (simp only [List.length_append, List.length_cons, List.length_nil]; omega))) only [↓wD,wU,Nat.reduceBEq,zx150,zx151,zx159,zx160,zx161,zx162,Nat.reduceAdd,Nat.reduceSub,Nat.reduceMul,Nat.reduceLeDiff,Nat.reduceLT,Nat.reduceEqDiff,Int.reduceAdd,Int.reduceSub,Int.reduceMul,Int.reduceNeg,Int.reduceLT,Int.reduceLE,Int.reduceEq,Int.reduceToNat,Int.cast_ofNat_Int,↓reduceIte, a1, a10, a11, a12, a16, a17, a18, a4]
        refine condP_split (fun hlt => ?_) (fun hlt => ?_)
        · have hj' : j < (gi m (i : Int)).length := by omega
          have gT := (g.gr hg2).T
          have hmem : gi (gi m (i : Int)) (j : Int) ∈ m.flatten := List.mem_flatten.2 ⟨_, mem_gi hi', mem_gi hj'⟩
          obtain ⟨N, K, hNK⟩ := frB_elim (hf _ hmem)
          have hKD := Nat.le_of_dvd hD0 hNK.dvd
          have hNl := hNK.le
          have hKp := hNK.pos
          have pre := frB_dvd (D := D) (fs := (m.take i).flatten ++ (gi m (i : Int)).take j) fun f h => hf f (mem_flat_take hi' h)
          have suc := frB_dvd (D := D) (fs := (m.take i).flatten ++ (gi m (i : Int)).take (j + 1)) fun f h => hf f (mem_flat_take hi' h)
          have e1 : (m.take i).flatten ++ (gi m (i : Int)).take (j + 1) = ((m.take i).flatten ++ (gi m (i : Int)).take j) ++ [gi (gi m (i : Int)) (j : Int)] := by
            rw [take_gi hj', List.append_assoc]
          have hin : (gi (gi m (i : Int)) (j : Int)).1 = N := by rw [hNK.eq]
          have hik : (gi (gi m (i : Int)) (j : Int)).2 = K := by rw [hNK.eq]
          have e2 : lcmF ((m.take i).flatten ++ (gi m (i : Int)).take (j + 1)) = lcmF ((m.take i).flatten ++ (gi m (i : Int)).take j) / Nat.gcd (lcmF ((m.take i).flatten ++ (gi m (i : Int)).take j)) K * K := by
            rw [e1, lcmF_snoc, hNK.eq]; simp
          have ds := Nat.le_of_dvd hD0 suc.1
          have dp := Nat.le_of_dvd hD0 pre.1
          have dp0 := pre.2
          rw [e2] at ds
          obtain ⟨d, ed⟩ : ∃ d, lcmF ((m.take i).flatten ++ (gi m (i : Int)).take j) = d := ⟨_, rfl⟩
          rw [ed] at e2 ds dp dp0 a4
          have hgp : 0 < Nat.gcd d K := Nat.gcd_pos_of_pos_left _ dp0
          have hql : d / Nat.gcd d K ≤ d := Nat.div_le_self _ _
          obtain ⟨G0, eG0⟩ : ∃ G0, Nat.gcd d K = G0 := ⟨_, rfl⟩
          rw [eG0] at hgp hql e2 ds
          obtain ⟨q, eq⟩ : ∃ q, d / G0 = q := ⟨_, rfl⟩
          rw [eq] at hql e2 ds
          have gc := fun G3 => gcd_retS (H := G3) d K (by omega) (by omega)
          rw [eG0] at gc
          have fr := fun G3 => isFrac_ret (H := G3) hNl hKp hNK.gcd (by omega)
          have s1 : st H.length (G2 ++ [Blk.cells [.i 0, .i 0]]) G2.length 0 [.i N, .i K] = some (G2 ++ [Blk.cells [.i N, .i K]]) := by
            rw [st_of get_last (by omega) (by simp)]
            congr 1
            simp [wr]
          have c0 : (G2 ++ [Blk.cells [.i N, .i K]])[G2.length]? = some (.cells [.i N, .i K]) := get_last
          have d1 : decide ((most : Int) < (K : Int)) = false := decide_eq_false (by omega)
          obtain ⟨M, eM⟩ : ∃ M, q * K = M := ⟨_, rfl⟩
          rw [eM] at e2 ds
          have eMi : (q : Int) * (K : Int) = (M : Int) := by rw [← eM]; simp
          have d2 : decide ((most : Int) < (M : Int)) = false := decide_eq_false (by omega)
          have x0 : ¬ (G0 : Int) = 0 := by omega
          simp (disch := (first | assumption | omega | (simp only [List.length_append, List.length_cons, List.length_nil]; omega))) only [↓wD,wU,Nat.reduceBEq,zx150,zx151,zx159,zx160,zx161,zx162,Nat.reduceAdd,Nat.reduceSub,Nat.reduceMul,Nat.reduceLeDiff,Nat.reduceLT,Nat.reduceEqDiff,Int.reduceAdd,Int.reduceSub,Int.reduceMul,Int.reduceNeg,Int.reduceLT,Int.reduceLE,Int.reduceEq,Int.reduceToNat,Int.cast_ofNat_Int,↓reduceIte, a1, a10, a11, a12, a16, a17, a18, a4, gT, hin, hik, s1, ldn_of c0, ld_of c0, (fr _).call, (gc _).call, d1, x0, tdivN, eq, eMi, d2]
          refine (ih2 hj').go ?_
          simp (disch := (first | assumption | omega | (simp only [List.length_append, List.length_cons, List.length_nil]; omega))) only [↓wD,wU,Nat.reduceBEq,zx150,zx151,zx159,zx160,zx161,zx162,Nat.reduceAdd,Nat.reduceSub,Nat.reduceMul,Nat.reduceLeDiff,Nat.reduceLT,Nat.reduceEqDiff,Int.reduceAdd,Int.reduceSub,Int.reduceMul,Int.reduceNeg,Int.reduceLT,Int.reduceLE,Int.reduceEq,Int.reduceToNat,Int.cast_ofNat_Int,↓reduceIte, a1, a10, a11, a12, a16, a17, a18, e2]
          exact hg2.app _
        · obtain rfl : j = (gi m (i : Int)).length := by omega
          simp (disch := (first | assumption | omega | (simp only [List.length_append, List.length_cons, List.length_nil]; omega))) only [↓wD,wU,Nat.reduceBEq,zx150,zx151,zx159,zx160,zx161,zx162,Nat.reduceAdd,Nat.reduceSub,Nat.reduceMul,Nat.reduceLeDiff,Nat.reduceLT,Nat.reduceEqDiff,Int.reduceAdd,Int.reduceSub,Int.reduceMul,Int.reduceNeg,Int.reduceLT,Int.reduceLE,Int.reduceEq,Int.reduceToNat,Int.cast_ofNat_Int,↓reduceIte, a1, a10, a11, a12, a16, a17, a18, a4]
          refine (ih hi').go ?_
          have e : (gi m (i : Int)).take (gi m (i : Int)).length = gi m (i : Int) := List.take_length
          rw [e, ← flat_take hi'] at a4
          simp (disch := (first | assumption | omega | (simp only [List.length_append, List.length_cons, List.length_nil]; omega))) only [↓wD,wU,Nat.reduceBEq,zx150,zx151,zx159,zx160,zx161,zx162,Nat.reduceAdd,Nat.reduceSub,Nat.reduceMul,Nat.reduceLeDiff,Nat.reduceLT,Nat.reduceEqDiff,Int.reduceAdd,Int.reduceSub,Int.reduceMul,Int.reduceNeg,Int.reduceLT,Int.reduceLE,Int.reduceEq,Int.reduceToNat,Int.cast_ofNat_Int,↓reduceIte, a1, a10, a11, a12, a4]
          exact hg.trans hg2
      · simp (disch := (first | assumption | omega | (simp only [List.length_append, List.length_cons, List.length_nil]; omega))) only [↓wD,wU,Nat.reduceBEq,zx150,zx151,zx159,zx160,zx161,zx162,Nat.reduceAdd,Nat.reduceSub,Nat.reduceMul,Nat.reduceLeDiff,Nat.reduceLT,Nat.reduceEqDiff,Int.reduceAdd,Int.reduceSub,Int.reduceMul,Int.reduceNeg,Int.reduceLT,Int.reduceLE,Int.reduceEq,Int.reduceToNat,Int.cast_ofNat_Int,↓reduceIte, a1, a10, a11, a12]
        exact ⟨a4, Gr.refl _⟩
    · obtain rfl : i = m.length := by omega
      rw [List.take_length] at a4
      simp (disch := (first | assumption | omega | (simp only [List.length_append, List.length_cons, List.length_nil]; omega))) only [↓wD,wU,Nat.reduceBEq,zx150,zx151,zx159,zx160,zx161,zx162,Nat.reduceAdd,Nat.reduceSub,Nat.reduceMul,Nat.reduceLeDiff,Nat.reduceLT,Nat.reduceEqDiff,Int.reduceAdd,Int.reduceSub,Int.reduceMul,Int.reduceNeg,Int.reduceLT,Int.reduceLE,Int.reduceEq,Int.reduceToNat,Int.cast_ofNat_Int,↓reduceIte, a1, a10, a11, a12, a4]
  · simp (disch := (first | assumption | omega | (simp only [List.length_append, List.length_cons, List.length_nil]; omega))) only [↓wD,wU,Nat.reduceBEq,zx150,zx151,zx159,zx160,zx161,zx162,Nat.reduceAdd,Nat.reduceSub,Nat.reduceMul,Nat.reduceLeDiff,Nat.reduceLT,Nat.reduceEqDiff,Int.reduceAdd,Int.reduceSub,Int.reduceMul,Int.reduceNeg,Int.reduceLT,Int.reduceLE,Int.reduceEq,Int.reduceToNat,Int.cast_ofNat_Int,↓reduceIte]
    exact ⟨rfl, Gr.refl _⟩
end Go.Proofs.Ytmmbakggmlfffaa
namespace Go.Proofs.Ytmmbakggmlfffaa.A9
open Go Go.AM Go.Proofs
def findP {α : Type} (P : α → Bool) : List α → Nat → Int
  | [], _ => -1
  | y :: ys, i => if P y = true then i else findP P ys (i + 1)
theorem findP_ge {α : Type} {P : α → Bool} : ∀ {xs : List α} {i : Nat}, 0 ≤ findP P xs i ↔ xs.any P = true
  | [], i => by simp [findP]
  | y :: ys, i => by
    unfold findP
    by_cases h : P y = true
    · simp [h]
    · rw [if_neg h, findP_ge]; simp [h]
theorem indexFI_ret {p : Nat → Prop} {H : Heap} {v : AV} {xs : List Int} {f : Nat} {us caps : List AV} {P : Int → Bool} (hx : Sl p H v xs) (hP : ∀ x ∈ xs, RetP E f (us ++ [.i x] ++ caps) H (.b (P x))) :
    RetP E 61 [v, .fn f us caps] H (.i (findP P xs 0)) := by
  refine RetP.ro rfl fn61 rfl rfl ?_
  unfold f61A
  have hb := hx.bound
  obtain ⟨r, er⟩ : ∃ r, findP P xs 0 = r := ⟨_, rfl⟩
  rw [er]
  simp (disch := (first | assumption | omega | (simp only [List.length_append, List.length_cons, List.length_nil]; omega))) only [↓wD,wU,Nat.reduceBEq,zx150,zx151,zx159,zx160,zx161,zx162,Nat.reduceAdd,Nat.reduceSub,Nat.reduceMul,Nat.reduceLeDiff,Nat.reduceLT,Nat.reduceEqDiff,Int.reduceAdd,Int.reduceSub,Int.reduceMul,Int.reduceNeg,Int.reduceLT,Int.reduceLE,Int.reduceEq,Int.reduceToNat,Int.cast_ofNat_Int,↓reduceIte, *, hx.I]
  refine Wp.for xs.length (fun i a H' => H' = H ∧ a 0 = v ∧ a 1 = .fn f us caps ∧ a 7 = .i xs.length ∧ a 8 = .i i ∧ findP P (xs.drop i) i = r) ?_ ?_
  · clear er
    rintro i a H' hi ⟨rfl, h0, h1, h7, h8, hh⟩ ih
    simp (disch := (first | assumption | omega | (simp only [List.length_append, List.length_cons, List.length_nil]; omega))) only [↓wD,wU,Nat.reduceBEq,zx150,zx151,zx159,zx160,zx161,zx162,Nat.reduceAdd,Nat.reduceSub,Nat.reduceMul,Nat.reduceLeDiff,Nat.reduceLT,Nat.reduceEqDiff,Int.reduceAdd,Int.reduceSub,Int.reduceMul,Int.reduceNeg,Int.reduceLT,Int.reduceLE,Int.reduceEq,Int.reduceToNat,Int.cast_ofNat_Int,↓reduceIte, *]
    refine condP_split (fun hlt => ?_) (fun hlt => ?_)
    · have hi' : i < xs.length := by omega
      have e : xs.drop i = gi xs (i : Int) :: xs.drop (i + 1) := by rw [gi_nat hi']; exact List.drop_eq_getElem_cons hi'
      have hp := hP _ (mem_gi hi')
      rw [e, findP] at hh
      clear e
      cases hc : P (gi xs (i : Int)) with
      | true =>
        rw [hc] at hp hh
        simp only [if_true] at hh
        simp (disch := (first | assumption | omega | (simp only [List.length_append, List.length_cons, List.length_nil]; omega))) only [↓wD,wU,Nat.reduceBEq,zx150,zx151,zx159,zx160,zx161,zx162,Nat.reduceAdd,Nat.reduceSub,Nat.reduceMul,Nat.reduceLeDiff,Nat.reduceLT,Nat.reduceEqDiff,Int.reduceAdd,Int.reduceSub,Int.reduceMul,Int.reduceNeg,Int.reduceLT,Int.reduceLE,Int.reduceEq,Int.reduceToNat,Int.cast_ofNat_Int,↓reduceIte, h0, h1, h7, h8, hx.I, hp.callv]
        rw [hh]
      | false =>
        rw [hc] at hp hh
        simp only [Bool.false_eq_true, if_false] at hh
        simp (disch := (first | assumption | omega | (simp only [List.length_append, List.length_cons, List.length_nil]; omega))) only [↓wD,wU,Nat.reduceBEq,zx150,zx151,zx159,zx160,zx161,zx162,Nat.reduceAdd,Nat.reduceSub,Nat.reduceMul,Nat.reduceLeDiff,Nat.reduceLT,Nat.reduceEqDiff,Int.reduceAdd,Int.reduceSub,Int.reduceMul,Int.reduceNeg,Int.reduceLT,Int.reduceLE,Int.reduceEq,Int.reduceToNat,Int.cast_ofNat_Int,↓reduceIte, h0, h1, h7, h8, hx.I, hp.callv]
        refine (ih hi').go ⟨rfl, ?_⟩
        simp (disch := (first | assumption | omega | (simp only [List.length_append, List.length_cons, List.length_nil]; omega))) only [↓wD,wU,Nat.reduceBEq,zx150,zx151,zx159,zx160,zx161,zx162,Nat.reduceAdd,Nat.reduceSub,Nat.reduceMul,Nat.reduceLeDiff,Nat.reduceLT,Nat.reduceEqDiff,Int.reduceAdd,Int.reduceSub,Int.reduceMul,Int.reduceNeg,Int.reduceLT,Int.reduceLE,Int.reduceEq,Int.reduceToNat,Int.cast_ofNat_Int,↓reduceIte, h0, h1, h7, h8]
        exact hh
    · rw [List.drop_of_length_le (by omega), findP] at hh
      subst hh
      clear hP
      simp (disch := (first | assumption | omega | (simp only [List.length_append, List.length_cons, List.length_nil]; omega))) only [↓wD,wU,Nat.reduceBEq,zx150,zx151,zx159,zx160,zx161,zx162,Nat.reduceAdd,Nat.reduceSub,Nat.reduceMul,Nat.reduceLeDiff,Nat.reduceLT,Nat.reduceEqDiff,Int.reduceAdd,Int.reduceSub,Int.reduceMul,Int.reduceNeg,Int.reduceLT,Int.reduceLE,Int.reduceEq,Int.reduceToNat,Int.cast_ofNat_Int,↓reduceIte, *]
  · clear hP
    simp (disch := (first | assumption | omega | (simp only [List.length_append, List.length_cons, List.length_nil]; omega))) only [↓wD,wU,Nat.reduceBEq,zx150,zx151,zx159,zx160,zx161,zx162,Nat.reduceAdd,Nat.reduceSub,Nat.reduceMul,Nat.reduceLeDiff,Nat.reduceLT,Nat.reduceEqDiff,Int.reduceAdd,Int.reduceSub,Int.reduceMul,Int.reduceNeg,Int.reduceLT,Int.reduceLE,Int.reduceEq,Int.reduceToNat,Int.cast_ofNat_Int,↓reduceIte, *]
theorem containsFI_ret {p : Nat → Prop} {H : Heap} {v : AV} {xs : List Int} {f : Nat} {us caps : List AV} {P : Int → Bool} (hx : Sl p H v xs) (hP : ∀ x ∈ xs, RetP E f (us ++ [.i x] ++ caps) H (.b (P x))) :
    RetP E 54 [v, .fn f us caps] H (.b (xs.any P)) := by
  refine RetP.ro rfl fn54 rfl rfl ?_
  unfold f54A
  have hr := indexFI_ret hx hP
  have hg := findP_ge (P := P) (xs := xs) (i := 0)
  cases h : xs.any P with
  | true =>
    have h1 := hg.2 h
    clear hg h hP
    simp (disch := (first | assumption | omega | (simp only [List.length_append, List.length_cons, List.length_nil]; omega))) only [↓wD,wU,Nat.reduceBEq,zx150,zx151,zx159,zx160,zx161,zx162,Nat.reduceAdd,Nat.reduceSub,Nat.reduceMul,Nat.reduceLeDiff,Nat.reduceLT,Nat.reduceEqDiff,Int.reduceAdd,Int.reduceSub,Int.reduceMul,Int.reduceNeg,Int.reduceLT,Int.reduceLE,Int.reduceEq,Int.reduceToNat,Int.cast_ofNat_Int,↓reduceIte, *, hr.call]
  | false =>
    have h1 : ¬ 0 ≤ findP P xs 0 := fun hh => by rw [hg.1 hh] at h; cases h
    clear hg h hP
    simp (disch := (first | assumption | omega | (simp only [List.length_append, List.length_cons, List.length_nil]; omega))) only [↓wD,wU,Nat.reduceBEq,zx150,zx151,zx159,zx160,zx161,zx162,Nat.reduceAdd,Nat.reduceSub,Nat.reduceMul,Nat.reduceLeDiff,Nat.reduceLT,Nat.reduceEqDiff,Int.reduceAdd,Int.reduceSub,Int.reduceMul,Int.reduceNeg,Int.reduceLT,Int.reduceLE,Int.reduceEq,Int.reduceToNat,Int.cast_ofNat_Int,↓reduceIte, *, hr.call]
end Go.Proofs.Ytmmbakggmlfffaa.A9
namespace Go.Proofs.Ytmmbakggmlfffaa
open Go Go.AM Go.Proofs
open A9 (findP findP_ge containsFI_ret)
theorem indexFM_ret {p : Nat → Prop} {H : Heap} {v : AV} {xs : FM} {f : Nat} {us caps : List AV} {P : List (Int × Int) → Bool} (hx : Sl p H v xs) (hP : ∀ x ∈ xs, ∀ u, Sl p H u x → RetP E f (us ++ [u] ++ caps) H (.b (P x))) :
    RetP E 60 [v, .fn f us caps] H (.i (findP P xs 0)) := by
  refine RetP.ro rfl fn60 rfl rfl ?_
  unfold f60A
  have hb := hx.bound
  obtain ⟨r, er⟩ : ∃ r, findP P xs 0 = r := ⟨_, rfl⟩
  rw [er]
  simp (disch := (first | assumption | omega | (simp only [List.length_append, List.length_cons, List.length_nil]; omega))) only [↓wD,wU,Nat.reduceBEq,zx150,zx151,zx159,zx160,zx161,zx162,Nat.reduceAdd,Nat.reduceSub,Nat.reduceMul,Nat.reduceLeDiff,Nat.reduceLT,Nat.reduceEqDiff,Int.reduceAdd,Int.reduceSub,Int.reduceMul,Int.reduceNeg,Int.reduceLT,Int.reduceLE,Int.reduceEq,Int.reduceToNat,Int.cast_ofNat_Int,↓reduceIte, *, hx.L]
  refine Wp.for xs.length (fun i a H' => H' = H ∧ a 0 = v ∧ a 1 = .fn f us caps ∧ a 7 = .i xs.length ∧ a 8 = .i i ∧ findP P (xs.drop i) i = r) ?_ ?_
  · clear er
    rintro i a H' hi ⟨rfl, h0, h1, h7, h8, hh⟩ ih
    simp (disch := (first | assumption | omega | (simp only [List.length_append, List.length_cons, List.length_nil]; omega))) only [↓wD,wU,Nat.reduceBEq,zx150,zx151,zx159,zx160,zx161,zx162,Nat.reduceAdd,Nat.reduceSub,Nat.reduceMul,Nat.reduceLeDiff,Nat.reduceLT,Nat.reduceEqDiff,Int.reduceAdd,Int.reduceSub,Int.reduceMul,Int.reduceNeg,Int.reduceLT,Int.reduceLE,Int.reduceEq,Int.reduceToNat,Int.cast_ofNat_Int,↓reduceIte, *]
    refine condP_split (fun hlt => ?_) (fun hlt => ?_)
    · have hi' : i < xs.length := by omega
      have e : xs.drop i = gi xs (i : Int) :: xs.drop (i + 1) := by rw [gi_nat hi']; exact List.drop_eq_getElem_cons hi'
      have hp := hP _ (mem_gi hi') _ (hx.get (k := (i : Int)) (by omega) (by omega))
      rw [e, findP] at hh
      clear e
      cases hc : P (gi xs (i : Int)) with
      | true =>
        rw [hc] at hp hh
        simp only [if_true] at hh
        simp (disch := (first | assumption | omega | (simp only [List.length_append, List.length_cons, List.length_nil]; omega))) only [↓wD,wU,Nat.reduceBEq,zx150,zx151,zx159,zx160,zx161,zx162,Nat.reduceAdd,Nat.reduceSub,Nat.reduceMul,Nat.reduceLeDiff,Nat.reduceLT,Nat.reduceEqDiff,Int.reduceAdd,Int.reduceSub,Int.reduceMul,Int.reduceNeg,Int.reduceLT,Int.reduceLE,Int.reduceEq,Int.reduceToNat,Int.cast_ofNat_Int,↓reduceIte, h0, h1, h7, h8, hx.L, hp.callv]
        rw [hh]
      | false =>
        rw [hc] at hp hh
        simp only [Bool.false_eq_true, if_false] at hh
        simp (disch := (first | assumption | omega | (simp only [List.length_append, List.length_cons, List.length_nil]; omega))) only [↓wD,wU,Nat.reduceBEq,zx150,zx151,zx159,zx160,zx161,zx162,Nat.reduceAdd,Nat.reduceSub,Nat.reduceMul,Nat.reduceLeDiff,Nat.reduceLT,Nat.reduceEqDiff,Int.reduceAdd,Int.reduceSub,Int.reduceMul,Int.reduceNeg,Int.reduceLT,Int.reduceLE,Int.reduceEq,Int.reduceToNat,Int.cast_ofNat_Int,↓reduceIte, h0, h1, h7, h8, hx.L, hp.callv]
        refine (ih hi').go ⟨rfl, ?_⟩
        simp (disch := (first | assumption | omega | (simp only [List.length_append, List.length_cons, List.length_nil]; omega))) only [↓wD,wU,Nat.reduceBEq,zx150,zx151,zx159,zx160,zx161,zx162,Nat.reduceAdd,Nat.reduceSub,Nat.reduceMul,Nat.reduceLeDiff,Nat.reduceLT,Nat.reduceEqDiff,Int.reduceAdd,Int.reduceSub,Int.reduceMul,Int.reduceNeg,Int.reduceLT,Int.reduceLE,Int.reduceEq,Int.reduceToNat,Int.cast_ofNat_Int,↓reduceIte, h0, h1, h7, h8]
        exact hh
    · rw [List.drop_of_length_le (by omega), findP] at hh
      subst hh
      clear hP
      simp (disch := (first | assumption | omega | (simp only [List.length_append, List.length_cons, List.length_nil]; omega))) only [↓wD,wU,Nat.reduceBEq,zx150,zx151,zx159,zx160,zx161,zx162,Nat.reduceAdd,Nat.reduceSub,Nat.reduceMul,Nat.reduceLeDiff,Nat.reduceLT,Nat.reduceEqDiff,Int.reduceAdd,Int.reduceSub,Int.reduceMul,Int.reduceNeg,Int.reduceLT,Int.reduceLE,Int.reduceEq,Int.reduceToNat,Int.cast_ofNat_Int,↓reduceIte, *]
  · clear hP
    simp (disch := (first | assumption | omega | (simp only [List.length_append, List.length_cons, List.length_nil]; omega))) only [↓wD,wU,Nat.reduceBEq,zx150,zx151,zx159,zx160,zx161,zx162,Nat.reduceAdd,Nat.reduceSub,Nat.reduceMul,Nat.reduceLeDiff,Nat.reduceLT,Nat.reduceEqDiff,Int.reduceAdd,Int.reduceSub,Int.reduceMul,Int.reduceNeg,Int.reduceLT,Int.reduceLE,Int.reduceEq,Int.reduceToNat,Int.cast_ofNat_Int,↓reduceIte, *]
theorem containsFM_ret {p : Nat → Prop} {H : Heap} {v : AV} {xs : FM} {f : Nat} {us caps : List AV} {P : List (Int × Int) → Bool} (hx : Sl p H v xs) (hP : ∀ x ∈ xs, ∀ u, Sl p H u x → RetP E f (us ++ [u] ++ caps) H (.b (P x))) :
    RetP E 52 [v, .fn f us caps] H (.b (xs.any P)) := by
  refine RetP.ro rfl fn52 rfl rfl ?_
  unfold f52A
  have hr := indexFM_ret hx hP
  have hg := findP_ge (P := P) (xs := xs) (i := 0)
  cases h : xs.any P with
  | true =>
    have h1 := hg.2 h
    clear hg h hP
    simp (disch := (first | assumption | omega | (simp only [List.length_append, List.length_cons, List.length_nil]; omega))) only [↓wD,wU,Nat.reduceBEq,zx150,zx151,zx159,zx160,zx161,zx162,Nat.reduceAdd,Nat.reduceSub,Nat.reduceMul,Nat.reduceLeDiff,Nat.reduceLT,Nat.reduceEqDiff,Int.reduceAdd,Int.reduceSub,Int.reduceMul,Int.reduceNeg,Int.reduceLT,Int.reduceLE,Int.reduceEq,Int.reduceToNat,Int.cast_ofNat_Int,↓reduceIte, *, hr.call]
  | false =>
    have h1 : ¬ 0 ≤ findP P xs 0 := fun hh => by rw [hg.1 hh] at h; cases h
    clear hg h hP
    simp (disch := (first | assumption | omega | (simp only [List.length_append, List.length_cons, List.length_nil]; omega))) only [↓wD,wU,Nat.reduceBEq,zx150,zx151,zx159,zx160,zx161,zx162,Nat.reduceAdd,Nat.reduceSub,Nat.reduceMul,Nat.reduceLeDiff,Nat.reduceLT,Nat.reduceEqDiff,Int.reduceAdd,Int.reduceSub,Int.reduceMul,Int.reduceNeg,Int.reduceLT,Int.reduceLE,Int.reduceEq,Int.reduceToNat,Int.cast_ofNat_Int,↓reduceIte, *, hr.call]
theorem com1_ret {p : Nat → Prop} {H : Heap} {u : AV} {r : List (Int × Int)} {b n : Nat} (hu : Sl p H u r) (hc : H[b]? = some (.cells [.i n])) : RetP E 53 [u, .p b 0] H (.b (decide (¬ (r.length : Int) = n))) := by
  refine RetP.ro rfl fn53 rfl rfl ?_
  unfold f53A
  simp (disch := (first | assumption | omega | (simp only [List.length_append, List.length_cons, List.length_nil]; omega))) only [↓wD,wU,Nat.reduceBEq,zx150,zx151,zx159,zx160,zx161,zx162,Nat.reduceAdd,Nat.reduceSub,Nat.reduceMul,Nat.reduceLeDiff,Nat.reduceLT,Nat.reduceEqDiff,Int.reduceAdd,Int.reduceSub,Int.reduceMul,Int.reduceNeg,Int.reduceLT,Int.reduceLE,Int.reduceEq,Int.reduceToNat,Int.cast_ofNat_Int,↓reduceIte, hu.T, ld_of hc]
theorem parts1_ret {H : Heap} {x : Int} {b d : Nat} (hc : H[b]? = some (.cells [.i d])) : RetP E 55 [.i x, .p b 0] H (.b (decide (¬ x = d))) := by
  refine RetP.ro rfl fn55 rfl rfl ?_
  unfold f55A
  simp (disch := (first | assumption | omega | (simp only [List.length_append, List.length_cons, List.length_nil]; omega))) only [↓wD,wU,Nat.reduceBEq,zx150,zx151,zx159,zx160,zx161,zx162,Nat.reduceAdd,Nat.reduceSub,Nat.reduceMul,Nat.reduceLeDiff,Nat.reduceLT,Nat.reduceEqDiff,Int.reduceAdd,Int.reduceSub,Int.reduceMul,Int.reduceNeg,Int.reduceLT,Int.reduceLE,Int.reduceEq,Int.reduceToNat,Int.cast_ofNat_Int,↓reduceIte, ld_of hc]
theorem common_ret {p : Nat → Prop} {H : Heap} {v : AV} {m : FM} {D most n : Nat} (hm : Sl p H v m) (hn : m.length = n) (hr : ∀ r ∈ m, r.length = n) (hD0 : 0 < D) (hD : D ≤ 16) (h16 : 16 ≤ most) (hmm : most ≤ 1000000000) (hf : ∀ f ∈ m.flatten, frB D f = true) :
    RetP E 40 [v, .i n, .i most] H (.tp [.i (lcmF m.flatten : Nat), .b true]) := by
  refine RetP.ro rfl fn40 rfl rfl ?_
  unfold f40A
  have c0 : (H ++ [Blk.cells [.i n]])[H.length]? = some (.cells [.i n]) := get_last
  have hm1 := hm.app [.cells [.i n]]
  have cf := containsFM_ret (f := 53) (us := []) (caps := [.p H.length 0]) (P := fun r => decide (¬ (r.length : Int) = n)) hm1 fun x _ u hu => com1_ret hu c0
  have mu := multiple_ret (most := most) hm1 hD0 hD h16 hmm hf
  have ea : (m.any fun r => decide (¬ (r.length : Int) = n)) = false := by
    rw [List.any_eq_false]
    intro r hr'
    rw [hr r hr']
    simp
  rw [ea] at cf
  have d0 : decide (¬ (n : Int) = (n : Int)) = false := decide_eq_false fun q => q rfl
  have mL := hm1.L.1
  rw [hn] at mL
  simp (disch := (first | assumption | omega | (simp only [List.length_append, List.length_cons, List.length_nil]; omega))) only [↓wD,wU,Nat.reduceBEq,zx150,zx151,zx159,zx160,zx161,zx162,Nat.reduceAdd,Nat.reduceSub,Nat.reduceMul,Nat.reduceLeDiff,Nat.reduceLT,Nat.reduceEqDiff,Int.reduceAdd,Int.reduceSub,Int.reduceMul,Int.reduceNeg,Int.reduceLT,Int.reduceLE,Int.reduceEq,Int.reduceToNat,Int.cast_ofNat_Int,↓reduceIte, mL, ld_of c0, cf.call, mu.call, d0]
end Go.Proofs.Ytmmbakggmlfffaa
namespace Go.AM
open Go
/-- a row, and the value that stands for it -/
structure RW where
  v : AV
  xs : List Int
instance : Inhabited RW := ⟨⟨.nils, []⟩⟩
instance : Rep RW where
  sz := 1
  pos := Nat.one_pos
  rep p H cs r := cs = [r.v] ∧ Sl p H r.v r.xs
  len := by rintro p H cs x ⟨rfl, _⟩; rfl
  one := by rintro p H cs x ⟨rfl, h⟩; simp [h.one]
  mono := by rintro p q H H' cs x ⟨rfl, h⟩ hk hq; exact ⟨rfl, h.mono hk hq⟩
  pure := by rintro p q H H' cs x ⟨rfl, h⟩ hp; exact ⟨rfl, h.pure (by simpa [AV.pureAll] using hp)⟩
  low := by rintro p H cs x ⟨rfl, h⟩; exact ⟨rfl, h.low⟩
/-- in no block of the other one's -/
def Apart (a b : AV) : Prop := ∀ c, a.blk = some c → b.blk ≠ some c
/-- a table of the call's own, from L on; its rows apart -/
def TB (L : Nat) (H : Heap) (v : AV) (t : List (List Int)) : Prop :=
  ∃ rs : List RW, rs.map (·.xs) = t ∧ rs.Pairwise (fun a b => Apart a.v b.v) ∧ Acc L (fun b => L ≤ b) H v rs
section
variable {L lo : Nat} {p : Nat → Prop} {H H' : Heap} {v : AV} {t : List (List Int)}
theorem TB.nil : TB L H .nils [] := ⟨[], rfl, List.Pairwise.nil, Acc.nil⟩
theorem TB.accL (h : TB L H v t) : Acc L (fun b => L ≤ b) H v t := by
  obtain ⟨rs, rfl, _, h⟩ := h
  rcases h with ⟨rfl, rfl⟩ | ⟨b, o, c, k, rfl, hb, hk, h1, h2, h3⟩
  · exact .inl ⟨rfl, rfl⟩
  · refine .inr ⟨b, o, c, k, by rw [List.length_map]; rfl, hb, hk, by rw [List.length_map]; exact h1, by rwa [List.length_map], fun i hi => ?_⟩
    have hi' : i < rs.length := by simpa using hi
    obtain ⟨e, hs⟩ := h3 i hi'
    refine ⟨_, e, ?_⟩
    have e2 : (rs.map (·.xs))[i]'hi = rs[i].xs := by simp
    rw [e2]; exact hs
theorem TB.sl (h : TB L H v t) : Sl (fun b => L ≤ b) H v t := h.accL.sl.weak fun b h => h.elim id id
theorem TB.kp (h : TB L H v t) (hk : Kp (fun b => L ≤ b) H H') : TB L H' v t := by
  obtain ⟨rs, e, hn, h⟩ := h
  exact ⟨rs, e, hn, h.mono (hk.weak fun b hb => hb.elim id id) fun _ h => h⟩
theorem TB.gr (h : TB L H v t) (hg : Gr H H') : TB L H' v t := h.kp hg.all.weakT
theorem TB.blk_lt (h : TB L H v t) {b : Nat} (e : v.blk = some b) : L ≤ b ∧ b < H.length := h.accL.blk_lt e
theorem RW.lt {rs : List RW} (h : Acc L p H v rs) : ∀ r ∈ rs, ∀ c, r.v.blk = some c → c < H.length := by
  intro r hr c hc
  rcases h with ⟨rfl, rfl⟩ | ⟨b, o, c', k, rfl, hb, hk, h1, h2, h3⟩
  · cases hr
  · obtain ⟨i, hi, rfl⟩ := List.mem_iff_getElem.1 hr
    obtain ⟨_, h4⟩ := h3 i hi
    exact (h4.blkp hc).2
theorem TB.push {n : Nat} {y : AV} {x : List Int} {Q : AV × Heap → Prop} {H0 : Heap} (h : TB L H0 v t) (hg : Gr H0 H) (hlo : lo ≤ L) (hL : L ≤ H0.length) (hy : Sl (fun b => H0.length ≤ b) H y x) (hb : (t.length + 1) * 24 ≤ 1099511627776)
    (go : ∀ v' H', TB L H' v' (t ++ [x]) → Kp (fun b => v.blk ≠ some b) H H' → Q (v', H')) (hn : n = H.length := by first | rfl | simp) :
    @optP _ (appendV lo 1 24 v (.s 1 n 0 1 (some 1)) (H ++ [.cells [y]])) ⟨Q⟩ := by
  subst hn
  obtain ⟨rs, rfl, hn, ha⟩ := h
  have hrl := RW.lt ha
  refine Acc.push1 (α := RW) (q := fun b => H0.length ≤ b) (cs := [y]) (x := ⟨y, x⟩) (bytes := 24) (ha.gr hg) hlo (Nat.le_trans hL hg.1) ⟨rfl, hy⟩ (fun b hb => ⟨by omega, fun e => ?_⟩) (by simpa using hb) (by omega) fun v' H' h1 h2 _ _ => go v' H' ⟨rs ++ [⟨y, x⟩], by simp, ?_, h1⟩ h2
  · have := (ha.blk_lt e).2; omega
  · rw [List.pairwise_append]
    refine ⟨hn, List.pairwise_singleton _ _, ?_⟩
    intro a ha' b hb c hc e
    simp at hb
    subst hb
    have h1 := hrl a ha' c hc
    have h2 := (hy.blkp e).1
    omega
/-- row i, written in place -/
theorem TB.row (h : TB L H v t) {i : Nat} (hi : i < t.length) : ∃ y, v.get H (i : Int) = y ∧ ldA H none (v.at 1 (i : Int)) = some y ∧ Sl (fun b => L ≤ b) H y (gi t (i : Int)) ∧ (∀ b, v.blk = some b → y.blk ≠ some b) ∧
    ∀ H' x', Kx (fun b => y.blk ≠ some b) H H' → Sl (fun b => L ≤ b) H' y x' → TB L H' v (t.set i x') := by
  have g := h.sl.get (k := (i : Int)) (by omega) (by omega)
  have gl := (h.sl.ld_get (k := (i : Int)) (by omega) (by omega)).1
  refine ⟨_, rfl, gl, g, ?_, ?_⟩
  · intro b hb
    obtain ⟨rs, rfl, hn, ha⟩ := h
    rcases ha with ⟨rfl, rfl⟩ | ⟨b1, o, c, k, rfl, hb1, hk, h1, h2, h3⟩
    · simp at hi
    · have hi' : i < rs.length := by simpa using hi
      obtain ⟨e, h4⟩ := h3 i hi'
      change (k.drop (o + i * 1)).take 1 = _ at e
      have e2 := take1 e
      have eg : AV.get H (.s (Rep.sz RW) b1 o rs.length c) (i : Int) = rs[i].v := by
        change (ld H b1 (o + i * 1)).getD .un = _
        simp only [ld, hk, e2]; rfl
      rw [eg]
      cases hb
      intro q
      exact (h4.blkp q).1.2 rfl
  · intro H' x' hx hs
    obtain ⟨rs, rfl, hn, ha⟩ := h
    rcases ha with ⟨rfl, rfl⟩ | ⟨b1, o, c, k, rfl, hb1, hk, h1, h2, h3⟩
    · simp at hi
    · have hi' : i < rs.length := by simpa using hi
      obtain ⟨e, h4⟩ := h3 i hi'
      change (k.drop (o + i * 1)).take 1 = _ at e
      have e2 := take1 e
      have eg : AV.get H (.s (Rep.sz RW) b1 o rs.length c) (i : Int) = rs[i].v := by
        change (ld H b1 (o + i * 1)).getD .un = _
        simp only [ld, hk, e2]; rfl
      rw [eg] at hx hs
      have hne : ∀ q, rs[i].v.blk = some q → q ≠ b1 := fun q hq => (h4.blkp hq).1.2
      refine ⟨rs.set i ⟨rs[i].v, x'⟩, by simp [List.map_set], ?_, .inr ⟨b1, o, c, k, by rw [List.length_set], hb1, hx.get (fun q => hne _ q rfl) hk, by rw [List.length_set]; exact h1, by rw [List.length_set]; exact h2, fun j hj => ?_⟩⟩
      · rw [List.pairwise_iff_getElem] at hn ⊢
        intro a b ha hb hab
        have e1 : ∀ m (hm : m < (rs.set i ⟨rs[i].v, x'⟩).length), (rs.set i ⟨rs[i].v, x'⟩)[m].v = (rs[m]'(by simpa using hm)).v := by
          intro m hm
          simp only [List.getElem_set]
          split
          · rename_i q; subst q; rfl
          · rfl
        rw [e1 a ha, e1 b hb]
        exact hn a b _ _ hab
      · have hj' : j < rs.length := by simpa using hj
        by_cases q : i = j
        · subst q
          simp only [List.getElem_set_self]
          exact ⟨e, hs.own.weak (q := fun b => rs[i].v.blk = some b) (fun _ h => h) |>.weak fun b hb => ⟨(hs.blkp hb).1, hne b hb⟩⟩
        · rw [List.getElem_set_ne q]
          obtain ⟨ej, hj4⟩ := h3 j hj'
          refine ⟨ej, (hj4.own.kp (hx.weak (q := fun b => rs[j].v.blk = some b) fun b _ hb => ?_).kp).weak fun b hb => (hj4.blkp hb).1⟩
          rw [List.pairwise_iff_getElem] at hn
          rcases Nat.lt_or_gt_of_ne q with ql | ql
          · exact fun e => hn i j hi' hj' ql b e hb
          · exact fun e => hn j i hj' hi' ql b hb e
/-- a table of the call's own, as a result -/
structure TW where
  t : List (List Int)
instance : RV TW where
  rv p H v x := ∃ rs : List RW, rs.map (·.xs) = x.t ∧ rs.Pairwise (fun a b => Apart a.v b.v) ∧ ((v = .nils ∧ rs = []) ∨ ∃ b o c k, v = .s 1 b o rs.length c ∧ p b ∧ H[b]? = some (.cells k) ∧ o + rs.length ≤ k.length ∧ rs.length ≤ 9223372036854775807 ∧ ∀ (i : Nat) (h : i < rs.length), Rep.rep (fun b' => p b' ∧ b' ≠ b) H ((k.drop (o + i)).take 1) rs[i])
  mono := by
    rintro p q H H' v x ⟨rs, e, hn, h⟩ hk hq
    refine ⟨rs, e, hn, ?_⟩
    rcases h with h | ⟨b, o, c, k, rfl, hb, hk1, h1, h2, h3⟩
    · exact .inl h
    · exact .inr ⟨b, o, c, k, rfl, hq b hb, hk.2 b k hb hk1, h1, h2, fun i hi => Rep.mono (h3 i hi) (hk.weak fun _ h => h.1) fun b h => ⟨hq b h.1, h.2⟩⟩
  pure := by
    rintro p q H H' v x ⟨rs, e, hn, h⟩ hp
    rcases h with h | ⟨b, o, c, k, rfl, _⟩
    · exact ⟨rs, e, hn, .inl h⟩
    · simp [AV.pure] at hp
theorem TB.rv (h : TB L H v t) (hp : ∀ b, L ≤ b → p b) : RV.rv p H v (TW.mk t) := by
  obtain ⟨rs, e, hn, h⟩ := h
  refine ⟨rs, e, hn, ?_⟩
  rcases h with h | ⟨b, o, c, k, rfl, hb, hk1, h1, h2, h3⟩
  · exact .inl h
  · refine .inr ⟨b, o, c, k, rfl, hp b hb, hk1, by change o + rs.length * 1 ≤ _ at h1; simpa using h1, h2, fun i hi => ?_⟩
    have := h3 i hi
    change Rep.rep _ H ((k.drop (o + i * 1)).take 1) _ at this
    rw [Nat.mul_one] at this
    exact Rep.mono this (Kp.refl _ _) fun b h => ⟨hp b h.1, h.2⟩
theorem TB.of (h : RV.rv p H v (TW.mk t)) (hp : ∀ b, p b → L ≤ b) : TB L H v t := by
  obtain ⟨rs, e, hn, h⟩ := h
  refine ⟨rs, e, hn, ?_⟩
  rcases h with h | ⟨b, o, c, k, rfl, hb, hk1, h1, h2, h3⟩
  · exact .inl h
  · refine .inr ⟨b, o, c, k, rfl, hp b hb, hk1, by change o + rs.length * 1 ≤ _; simpa using h1, h2, fun i hi => ?_⟩
    change Rep.rep _ H ((k.drop (o + i * 1)).take 1) _
    rw [Nat.mul_one]
    exact Rep.mono (h3 i hi) (Kp.refl _ _) fun b h => ⟨hp b h.1, h.2⟩
end
section
variable {k : List AV} {o n i j : Nat}
end
end Go.AM
namespace Go.Proofs.Ytmmbakggmlfffaa
open Go Go.AM Go.Proofs
end Go.Proofs.Ytmmbakggmlfffaa
namespace Go.AM
open Go
theorem TB.push2 {L lo n M : Nat} {v y : AV} {t : List (List Int)} {x : List Int} {Q : AV × Heap → Prop} {H0 H : Heap} (h : TB L H0 v t) (hM : H0.length ≤ M) (hk : Kp (fun b => L ≤ b) H0 H) (hlo : lo ≤ L) (hL : L ≤ H0.length) (hy : Sl (fun b => M ≤ b) H y x) (hb : (t.length + 1) * 24 ≤ 1099511627776)
    (go : ∀ v' H', TB L H' v' (t ++ [x]) → Kp (fun b => v.blk ≠ some b) H H' → Q (v', H')) (hn : n = H.length := by first | rfl | simp) :
    @optP _ (appendV lo 1 24 v (.s 1 n 0 1 (some 1)) (H ++ [.cells [y]])) ⟨Q⟩ := by
  subst hn
  obtain ⟨rs, rfl, hn, ha⟩ := h
  have hrl := RW.lt ha
  have ha' : Acc L (fun b => L ≤ b) H v rs := ha.mono (hk.weak fun b h => h.elim id id) fun _ h => h
  refine Acc.push1 (α := RW) (q := fun b => M ≤ b) (cs := [y]) (x := ⟨y, x⟩) (bytes := 24) ha' hlo (Nat.le_trans hL hk.1) ⟨rfl, hy⟩ (fun b hb => ⟨by omega, fun e => ?_⟩) (by simpa using hb) (by omega) fun v' H' h1 h2 _ _ => go v' H' ⟨rs ++ [⟨y, x⟩], by simp, ?_, h1⟩ h2
  · have := (ha.blk_lt e).2; omega
  · rw [List.pairwise_append]
    refine ⟨hn, List.pairwise_singleton _ _, ?_⟩
    intro a ha' b hb c hc e
    simp at hb
    subst hb
    have h1 := hrl a ha' c hc
    have h2 := (hy.blkp e).1
    omega
end Go.AM
namespace Go.Proofs.Ytmmbakggmlfffaa
open Go Go.AM Go.Proofs
open A9 (findP findP_ge containsFI_ret)
/-- a table of n rows and columns, of numbers up to 16 -/
structure TabP (n : Nat) (t : List (List Int)) : Prop where
  len : t.length = n
  row : ∀ i : Nat, i < n → (gi t (i : Int)).length = n
  ent : ∀ i j : Nat, i < n → j < n → 0 ≤ gi (gi t (i : Int)) (j : Int) ∧ gi (gi t (i : Int)) (j : Int) ≤ 16
theorem tabB_elim {n : Nat} {t : List (List Int)} (h : tabB n t = true) : TabP n t := by
  simp only [tabB, Bool.and_eq_true, List.all_eq_true, decide_eq_true_eq] at h
  obtain ⟨h1, h2⟩ := h
  have h1 := Nat.eq_of_beq_eq_true h1
  have hl : ∀ i : Nat, i < n → (gi t (i : Int)).length = n := fun i hi => Nat.eq_of_beq_eq_true (h2 _ (mem_gi (by omega))).1
  refine ⟨h1, hl, fun i j hi hj => ?_⟩
  exact (h2 _ (mem_gi (by omega))).2 _ (mem_gi (by rw [hl i hi]; exact hj))
theorem parts_len {m : FM} {d : Nat} : (partsF m d).length = m.length := by simp [partsF]
theorem parts_row {m : FM} {d i : Nat} (h : i < m.length) : gi (partsF m d) (i : Int) = partR d (gi m (i : Int)) := by
  rw [gi_nat (by rw [parts_len]; exact h), gi_nat h]; simp [partsF]
theorem parts_ent {m : FM} {d i j N K : Nat} (h : i < m.length) (hj : j < (gi m (i : Int)).length) (he : gi (gi m (i : Int)) (j : Int) = ((N : Int), (K : Int))) : gi (gi (partsF m d) (i : Int)) (j : Int) = ((N * (d / K) : Nat) : Int) := by
  rw [parts_row h, gi_nat (by simpa [partR] using hj)]
  rw [gi_nat hj] at he
  simp [partR, he]
theorem colPart_bound {n : Nat} {t : List (List Int)} (h : TabP n t) {i j : Nat} (hj : j < n) (hi : i ≤ n) : 0 ≤ colPart t i j ∧ colPart t i j ≤ n * 16 := by
  have h1 : ∀ x ∈ (t.take i).map fun r => gi r (j : Int), 0 ≤ x ∧ x ≤ 16 := by
    intro x hx
    obtain ⟨r, hr, rfl⟩ := List.mem_map.1 hx
    obtain ⟨k, hk, rfl⟩ := List.mem_iff_getElem.1 (List.mem_of_mem_take hr)
    have := h.ent k j (by rw [← h.len]; exact hk) hj
    rwa [gi_nat hk] at this
  have h2 := sum_bound h1
  have h3 : ((t.take i).map fun r => gi r (j : Int)).length ≤ n := by have := h.len; simp; omega
  unfold Go.Proofs.Ytmmbakggmlfffaa.colPart
  omega
theorem rowPart_bound {n : Nat} {t : List (List Int)} (h : TabP n t) {i j : Nat} (hi : i < n) : 0 ≤ ((gi t (i : Int)).take j).sum ∧ ((gi t (i : Int)).take j).sum ≤ n * 16 := by
  have h1 : ∀ x ∈ (gi t (i : Int)).take j, 0 ≤ x ∧ x ≤ 16 := by
    intro x hx
    obtain ⟨k, hk, rfl⟩ := List.mem_iff_getElem.1 (List.mem_of_mem_take hx)
    have := h.ent i k hi (by rw [← h.row i hi]; exact hk)
    rwa [gi_nat hk] at this
  have h2 := sum_bound h1
  have h3 : ((gi t (i : Int)).take j).length ≤ n := by have := h.row i hi; rw [List.length_take]; omega
  omega
end Go.Proofs.Ytmmbakggmlfffaa
namespace Go.Proofs.Ytmmbakggmlfffaa
open Go Go.AM Go.Proofs
open A9 (findP findP_ge containsFI_ret)
theorem parts_ret {p : Nat → Prop} {H : Heap} {v : AV} {m : FM} {D d n : Nat} (hm : Sl p H v m) (hn : m.length = n) (hn5 : n ≤ 5) (hr : ∀ r ∈ m, r.length = n) (hD0 : 0 < D) (hD : D ≤ 16) (hd : d ≤ 16) (hf : ∀ f ∈ m.flatten, frB D f = true)
    (ht : TabP n (partsF m d)) (hrow : ∀ i : Nat, i < n → (gi (partsF m d) (i : Int)).sum = d) (hcol : ∀ j : Nat, j < n → colPart (partsF m d) n j = d) :
    Ret E 41 [v, .i d] (fun _ => False) H (T2.mk (TW.mk (partsF m d)) true) := by
  refine Ret.ro rfl fn41 rfl ?_
  unfold f41A
  replace hm : Sl (fun b => b < H.length) H v m := hm.low.weak fun _ h => h.2
  have m0 := (hm.app [.cells [.i d]]).L.1
  rw [hn] at m0
  have mk0 := zx176 (z := .i 0) (n := (n : Int)) (by omega) (by omega)
  rw [Int.toNat_natCast] at mk0
  have n1 : (H ++ [Blk.cells [.i d]]).length = H.length + 1 := by simp
  have mi0 := MI.mk (L := H.length + 1) (H := H ++ [Blk.cells [.i d]]) (n := n) (by omega) (by omega)
  have b0 : ((H ++ [Blk.cells [.i d]]) ++ [Blk.cells (reps n [.i 0])])[H.length]? = some (.cells [.i d]) := by
    rw [List.getElem?_append_left (by simp)]; exact get_last
  have gr0 : Gr H ((H ++ [Blk.cells [.i d]]) ++ [Blk.cells (reps n [.i 0])]) := ((Gr.refl H).app _).app _
  have n2 : ((H ++ [Blk.cells [.i d]]) ++ [Blk.cells (reps n [.i 0])]).length = H.length + 2 := by simp
  obtain ⟨w, ew⟩ : ∃ w, AV.s 1 (H.length + 1) 0 n (some n) = w := ⟨_, rfl⟩
  have wb : ∀ b, w.blk = some b ↔ b = H.length + 1 := fun b => by rw [← ew]; simp [AV.blk, eq_comm]
  rw [n1, ew] at mi0
  have e0 : ((List.range n).map fun j => colPart (partsF m d) 0 j) = List.replicate n 0 := by
    apply List.ext_getElem (by simp)
    intro i h1 h2
    simp [colPart_0]
  simp (disch := (first | assumption | omega | (simp only [List.length_append, List.length_cons, List.length_nil]; omega))) only [↓wD,wU,Nat.reduceBEq,zx150,zx151,zx159,zx160,zx161,zx162,Nat.reduceAdd,Nat.reduceSub,Nat.reduceMul,Nat.reduceLeDiff,Nat.reduceLT,Nat.reduceEqDiff,Int.reduceAdd,Int.reduceSub,Int.reduceMul,Int.reduceNeg,Int.reduceLT,Int.reduceLE,Int.reduceEq,Int.reduceToNat,Int.cast_ofNat_Int,↓reduceIte, m0, mk0, n1, ew, hm.L.1, hn]
  generalize (H ++ [Blk.cells [.i d]]) ++ [Blk.cells (reps n [.i 0])] = H2 at *
  refine Wp.for n (fun i a G => ∃ o, a 3 = .p H.length 0 ∧ a 4 = o ∧ a 6 = w ∧ a 17 = v ∧ a 18 = .i n ∧ a 19 = .i i ∧ TB (H.length + 2) G o ((partsF m d).take i) ∧ MI (H.length + 1) G w ((List.range n).map fun j => colPart (partsF m d) i j) ∧ Kp (fun b => b < H2.length ∧ b ≠ H.length + 1) H2 G) ?_ ?_
  · rintro i a G hi ⟨o, a3, a4, a6, a17, a18, a19, ho, hw, hk⟩ ih
    simp (disch := (first | assumption | omega | (simp only [List.length_append, List.length_cons, List.length_nil]; omega))) only [↓wD,wU,Nat.reduceBEq,zx150,zx151,zx159,zx160,zx161,zx162,Nat.reduceAdd,Nat.reduceSub,Nat.reduceMul,Nat.reduceLeDiff,Nat.reduceLT,Nat.reduceEqDiff,Int.reduceAdd,Int.reduceSub,Int.reduceMul,Int.reduceNeg,Int.reduceLT,Int.reduceLE,Int.reduceEq,Int.reduceToNat,Int.cast_ofNat_Int,↓reduceIte, a3, a4, a6, a17, a18, a19]
    have hgl := hk.1
    have bG : G[H.length]? = some (.cells [.i d]) := hk.2 _ _ ⟨by omega, by omega⟩ b0
    have hmG : Sl (fun b => b < H.length) G v m := (hm.gr gr0).mono (hk.weak fun b hb => ⟨by omega, by omega⟩) fun _ h => h
    refine condP_split (fun hlt => ?_) (fun hlt => ?_)
    · have hi' : i < n := by omega
      have g := hmG.get (k := (i : Int)) (by omega) (by omega)
      have rl : (gi m (i : Int)).length = n := hr _ (mem_gi (by omega))
      obtain ⟨y, ey⟩ : ∃ y, v.get G (i : Int) = y := ⟨_, rfl⟩
      have mL := hmG.L
      rw [ey] at g
      rw [hn] at mL
      have gT := g.T
      rw [rl] at gT
      simp (disch := (first | assumption | omega | (simp only [List.length_append, List.length_cons, List.length_nil]; omega))) only [↓wD,wU,Nat.reduceBEq,zx150,zx151,zx159,zx160,zx161,zx162,Nat.reduceAdd,Nat.reduceSub,Nat.reduceMul,Nat.reduceLeDiff,Nat.reduceLT,Nat.reduceEqDiff,Int.reduceAdd,Int.reduceSub,Int.reduceMul,Int.reduceNeg,Int.reduceLT,Int.reduceLE,Int.reduceEq,Int.reduceToNat,Int.cast_ofNat_Int,↓reduceIte, a3, a4, a6, a17, a18, a19, mL, ey, gT]
      refine Wp.for n (fun j a G2 => ∃ u, a 3 = .p H.length 0 ∧ a 4 = o ∧ a 6 = w ∧ a 17 = v ∧ a 18 = .i n ∧ a 19 = .i i ∧ a 23 = y ∧ a 24 = .i n ∧ a 25 = .i j ∧ a 9 = u ∧ a 10 = .i ((gi (partsF m d) (i : Int)).take j).sum ∧
        Acc G.length (fun _ => False) G2 u ((gi (partsF m d) (i : Int)).take j) ∧ MI (H.length + 1) G2 w ((List.range n).map fun c => colPart (partsF m d) i c + if c < j then gi (gi (partsF m d) (i : Int)) (c : Int) else 0) ∧ Kp (fun b => b < G.length ∧ b ≠ H.length + 1) G G2) ?_ ?_
      · clear a3 a4 a6 a17 a18 a19 hlt mL gT a
        rintro j a G2 hj ⟨u, a3, a4, a6, a17, a18, a19, a23, a24, a25, a9, a10, hu, hw2, hk2⟩ ih2
        have hgl2 := hk2.1
        simp (disch := (first | assumption | omega | (simp only [List.length_append, List.length_cons, List.length_nil]; omega))) only [↓wD,wU,Nat.reduceBEq,zx150,zx151,zx159,zx160,zx161,zx162,Nat.reduceAdd,Nat.reduceSub,Nat.reduceMul,Nat.reduceLeDiff,Nat.reduceLT,Nat.reduceEqDiff,Int.reduceAdd,Int.reduceSub,Int.reduceMul,Int.reduceNeg,Int.reduceLT,Int.reduceLE,Int.reduceEq,Int.reduceToNat,Int.cast_ofNat_Int,↓reduceIte, a3, a4, a6, a17, a18, a19, a23, a24, a25, a9, a10]
        refine condP_split (fun hlt => ?_) (fun hlt => ?_)
        · have hj' : j < n := by omega
          have gG : Sl (fun b => b < H.length) G2 y (gi m (i : Int)) := g.mono (hk2.weak fun b hb => ⟨by omega, by omega⟩) fun _ h => h
          have gT := gG.T
          rw [rl] at gT
          have bG2 : G2[H.length]? = some (.cells [.i d]) := hk2.2 _ _ ⟨by omega, by omega⟩ bG
          obtain ⟨N, K, hNK⟩ := frB_elim (hf _ (List.mem_flatten.2 ⟨_, mem_gi (show i < m.length by omega), mem_gi (show j < (gi m (i : Int)).length by omega)⟩))
          have hKp := hNK.pos
          have hNl := hNK.le
          have hKD := Nat.le_of_dvd hD0 hNK.dvd
          have hin : (gi (gi m (i : Int)) (j : Int)).1 = N := by rw [hNK.eq]
          have hik : (gi (gi m (i : Int)) (j : Int)).2 = K := by rw [hNK.eq]
          have en := parts_ent (d := d) (show i < m.length by omega) (show j < (gi m (i : Int)).length by omega) hNK.eq
          have hen := ht.ent i j hi' hj'
          have hdk : d / K ≤ d := Nat.div_le_self _ _
          obtain ⟨q, eq⟩ : ∃ q, d / K = q := ⟨_, rfl⟩
          rw [eq] at en hdk
          obtain ⟨M, eM⟩ : ∃ M, N * q = M := ⟨_, rfl⟩
          have eMi : (N : Int) * (q : Int) = (M : Int) := by rw [← eM]; simp
          rw [eM] at en
          rw [en] at hen
          have hrp := rowPart_bound ht hi' (j := j)
          have hcp := colPart_bound ht (i := i) (j := j) hj' (by omega)
          have tl := ht.row i hi'
          have esum : ((gi (partsF m d) (i : Int)).take (j + 1)).sum = ((gi (partsF m d) (i : Int)).take j).sum + M := by rw [sum_take (by omega), en]
          have etake : (gi (partsF m d) (i : Int)).take (j + 1) = (gi (partsF m d) (i : Int)).take j ++ [(M : Int)] := by rw [take_gi (by omega), en]
          have s1 : st H.length (G2 ++ [Blk.cells [.i 0, .i 0]]) G2.length 0 [.i N, .i K] = some (G2 ++ [Blk.cells [.i N, .i K]]) := by
            rw [st_of get_last (by omega) (by simp)]
            congr 1
            simp [wr]
          have c0 : (G2 ++ [Blk.cells [.i N, .i K]])[G2.length]? = some (.cells [.i N, .i K]) := get_last
          have b3 : (G2 ++ [Blk.cells [.i N, .i K]])[H.length]? = some (.cells [.i d]) := by
            rw [List.getElem?_append_left (by omega)]; exact bG2
          have x0 : ¬ (K : Int) = 0 := by omega
          have hu3 := hu.app [.cells [.i N, .i K]]
          have hw3 := hw2.app [.cells [.i N, .i K]]
          have hk3 : Kp (fun b => b < G.length ∧ b ≠ H.length + 1) G (G2 ++ [Blk.cells [.i N, .i K]]) := hk2.app' _
          have n3 : (G2 ++ [Blk.cells [.i N, .i K]]).length = G2.length + 1 := by simp
          simp (disch := (first | assumption | omega | (simp only [List.length_append, List.length_cons, List.length_nil]; omega))) only [↓wD,wU,Nat.reduceBEq,zx150,zx151,zx159,zx160,zx161,zx162,Nat.reduceAdd,Nat.reduceSub,Nat.reduceMul,Nat.reduceLeDiff,Nat.reduceLT,Nat.reduceEqDiff,Int.reduceAdd,Int.reduceSub,Int.reduceMul,Int.reduceNeg,Int.reduceLT,Int.reduceLE,Int.reduceEq,Int.reduceToNat,Int.cast_ofNat_Int,↓reduceIte, a3, a4, a6, a17, a18, a19, a23, a24, a25, a9, a10, gT, hin, hik, s1, ldn_of c0, ld_of c0, ld_of b3, x0, tdivN, eq, eMi]
          generalize G2 ++ [Blk.cells [.i N, .i K]] = G3 at *
          refine hu3.pushI (by omega) (by omega) (by rw [List.length_take]; omega) (fun u' G4 hu' hk4 hl4 hub => ?_) (by omega)
          have hw4 : MI (H.length + 1) G4 w ((List.range n).map fun c => colPart (partsF m d) i c + if c < j then gi (gi (partsF m d) (i : Int)) (c : Int) else 0) := hw3.kp hk4 fun b hb e => by
            have h1 := (wb b).1 hb
            have h2 := (hu3.blk_lt e).1
            omega
          have hk5 : Kp (fun b => b < G.length ∧ b ≠ H.length + 1) G G4 := hk3.trans hk4 fun b hb e => by
            have := (hu3.blk_lt e).1; omega
          have hgv : gi ((List.range n).map fun c => colPart (partsF m d) i c + if c < j then gi (gi (partsF m d) (i : Int)) (c : Int) else 0) (j : Int) = colPart (partsF m d) i j := by
            rw [gi_map_range hj']; simp
          have wI := hw4.sl.I
          rw [List.length_map, List.length_range] at wI
          have hl5 := hk5.1
          simp (disch := (first | assumption | omega | (simp only [List.length_append, List.length_cons, List.length_nil]; omega))) only [↓wD,wU,Nat.reduceBEq,zx150,zx151,zx159,zx160,zx161,zx162,Nat.reduceAdd,Nat.reduceSub,Nat.reduceMul,Nat.reduceLeDiff,Nat.reduceLT,Nat.reduceEqDiff,Int.reduceAdd,Int.reduceSub,Int.reduceMul,Int.reduceNeg,Int.reduceLT,Int.reduceLE,Int.reduceEq,Int.reduceToNat,Int.cast_ofNat_Int,↓reduceIte, a3, a4, a6, a17, a18, a19, a23, a24, a25, a9, a10, wI, hgv]
          refine hw4.store (by omega) (by omega) (by simp; omega) fun G5 hw5 hk6 hl6 => ?_
          simp (disch := (first | assumption | omega | (simp only [List.length_append, List.length_cons, List.length_nil]; omega))) only [↓wD,wU,Nat.reduceBEq,zx150,zx151,zx159,zx160,zx161,zx162,Nat.reduceAdd,Nat.reduceSub,Nat.reduceMul,Nat.reduceLeDiff,Nat.reduceLT,Nat.reduceEqDiff,Int.reduceAdd,Int.reduceSub,Int.reduceMul,Int.reduceNeg,Int.reduceLT,Int.reduceLE,Int.reduceEq,Int.reduceToNat,Int.cast_ofNat_Int,↓reduceIte, a3, a4, a6, a17, a18, a19, a23, a24, a25, a9, a10]
          refine (ih2 hj').go ⟨u', ?_⟩
          rw [esum, etake]
          simp (disch := (first | assumption | omega | (simp only [List.length_append, List.length_cons, List.length_nil]; omega))) only [↓wD,wU,Nat.reduceBEq,zx150,zx151,zx159,zx160,zx161,zx162,Nat.reduceAdd,Nat.reduceSub,Nat.reduceMul,Nat.reduceLeDiff,Nat.reduceLT,Nat.reduceEqDiff,Int.reduceAdd,Int.reduceSub,Int.reduceMul,Int.reduceNeg,Int.reduceLT,Int.reduceLE,Int.reduceEq,Int.reduceToNat,Int.cast_ofNat_Int,↓reduceIte, a3, a4, a6, a17, a18, a19, a23, a24, a25, a9, a10]
          refine ⟨hu'.kp hk6 (fun b hb e => ?_) fun _ h => h.elim, ?_, hk5.trans hk6 fun b hb e => hb.2 ((wb b).1 e)⟩
          · have h1 := (wb b).1 e
            rw [hub] at hb
            cases hb
            omega
          · rw [set_map_range] at hw5
            have e : ((List.range n).map fun c => colPart (partsF m d) i c + if c < j + 1 then gi (gi (partsF m d) (i : Int)) (c : Int) else 0) = (List.range n).map fun c => if c = (j : Int).toNat then colPart (partsF m d) i j + (M : Int) else colPart (partsF m d) i c + if c < j then gi (gi (partsF m d) (i : Int)) (c : Int) else 0 := by
              apply map_range_congr
              intro c _
              by_cases hcj : c = j
              · subst hcj; simp [en]
              · have : (c < j + 1) = (c < j) := by simp only [eq_iff_iff]; omega
                simp [hcj, this]
            rw [e]; exact hw5
        · obtain rfl : j = n := by omega
          have tl := ht.row i hi'
          have etk : (gi (partsF m d) (i : Int)).take j = gi (partsF m d) (i : Int) := List.take_of_length_le (by omega)
          rw [etk] at a10 hu
          rw [hrow i hi'] at a10
          have bG2 : G2[H.length]? = some (.cells [.i d]) := hk2.2 _ _ ⟨by omega, by omega⟩ bG
          have d0 : decide (¬ (d : Int) = (d : Int)) = false := decide_eq_false fun q => q rfl
          have tl2 := parts_len (m := m) (d := d)
          simp (disch := (first | assumption | omega | (simp only [List.length_append, List.length_cons, List.length_nil]; omega))) only [↓wD,wU,Nat.reduceBEq,zx150,zx151,zx159,zx160,zx161,zx162,Nat.reduceAdd,Nat.reduceSub,Nat.reduceMul,Nat.reduceLeDiff,Nat.reduceLT,Nat.reduceEqDiff,Int.reduceAdd,Int.reduceSub,Int.reduceMul,Int.reduceNeg,Int.reduceLT,Int.reduceLE,Int.reduceEq,Int.reduceToNat,Int.cast_ofNat_Int,↓reduceIte, a3, a4, a6, a17, a18, a19, a23, a24, a25, a9, a10, ld_of bG2, d0, hu.cellsV]
          have hus : Sl (fun b => G.length ≤ b) G2 u (gi (partsF m d) (i : Int)) := hu.sl.weak fun b h => h.elim (fun h => h.elim) id
          have hk2' : Kp (fun b => H.length + 2 ≤ b) G G2 := ⟨hk2.1, fun b k hb hk => hk2.2 b k ⟨(List.getElem?_eq_some_iff.1 hk).1, by omega⟩ hk⟩
          have ho2 := ho.kp hk2'
          have e1 : (partsF m d).take (i + 1) = (partsF m d).take i ++ [gi (partsF m d) (i : Int)] := take_gi (by omega)
          have e2 : ((List.range j).map fun c => colPart (partsF m d) i c + if c < j then gi (gi (partsF m d) (i : Int)) (c : Int) else 0) = (List.range j).map fun c => colPart (partsF m d) (i + 1) c := by
            apply map_range_congr
            intro c hc
            rw [colPart_succ (by omega), if_pos hc]
          rw [e2] at hw2
          refine ho.push2 (Nat.le_refl _) hk2' (by omega) (by omega) hus (by rw [List.length_take]; omega) fun o' G3 ho' hk3 => ?_
          simp (disch := (first | assumption | omega | (simp only [List.length_append, List.length_cons, List.length_nil]; omega))) only [↓wD,wU,Nat.reduceBEq,zx150,zx151,zx159,zx160,zx161,zx162,Nat.reduceAdd,Nat.reduceSub,Nat.reduceMul,Nat.reduceLeDiff,Nat.reduceLT,Nat.reduceEqDiff,Int.reduceAdd,Int.reduceSub,Int.reduceMul,Int.reduceNeg,Int.reduceLT,Int.reduceLE,Int.reduceEq,Int.reduceToNat,Int.cast_ofNat_Int,↓reduceIte, a3, a4, a6, a17, a18, a19]
          refine (ih hi').go ⟨o', ?_⟩
          simp (disch := (first | assumption | omega | (simp only [List.length_append, List.length_cons, List.length_nil]; omega))) only [↓wD,wU,Nat.reduceBEq,zx150,zx151,zx159,zx160,zx161,zx162,Nat.reduceAdd,Nat.reduceSub,Nat.reduceMul,Nat.reduceLeDiff,Nat.reduceLT,Nat.reduceEqDiff,Int.reduceAdd,Int.reduceSub,Int.reduceMul,Int.reduceNeg,Int.reduceLT,Int.reduceLE,Int.reduceEq,Int.reduceToNat,Int.cast_ofNat_Int,↓reduceIte, a3, a4, a6, a17, a18, a19]
          rw [e1]
          refine ⟨ho', hw2.kp hk3 fun b hb e => ?_, (hk.trans hk2 fun b hb => ⟨by omega, hb.2⟩).trans hk3 fun b hb e => ?_⟩
          · have h1 := (wb b).1 hb
            have h2 := (ho2.blk_lt e).1
            omega
          · have h2 := (ho2.blk_lt e).1
            omega
      · simp (disch := (first | assumption | omega | (simp only [List.length_append, List.length_cons, List.length_nil]; omega))) only [↓wD,wU,Nat.reduceBEq,zx150,zx151,zx159,zx160,zx161,zx162,Nat.reduceAdd,Nat.reduceSub,Nat.reduceMul,Nat.reduceLeDiff,Nat.reduceLT,Nat.reduceEqDiff,Int.reduceAdd,Int.reduceSub,Int.reduceMul,Int.reduceNeg,Int.reduceLT,Int.reduceLE,Int.reduceEq,Int.reduceToNat,Int.cast_ofNat_Int,↓reduceIte, a3, a4, a6, a17, a18, a19]
        refine ⟨.nils, rfl, rfl, Acc.nil, ?_, Kp.refl _ _⟩
        simpa using hw
    · obtain rfl : i = n := by omega
      have e1 : (partsF m d).take i = partsF m d := List.take_of_length_le (by rw [parts_len]; omega)
      rw [e1] at ho
      have e2 : ((List.range i).map fun j => colPart (partsF m d) i j) = List.replicate i (d : Int) := by
        apply List.ext_getElem (by simp)
        intro c h1 h2
        simp only [List.getElem_map, List.getElem_range, List.getElem_replicate]
        exact hcol c (by simpa using h1)
      rw [e2] at hw
      have cf := containsFI_ret (f := 55) (us := []) (caps := [.p H.length 0]) (P := fun x => decide (¬ x = (d : Int))) hw.sl fun x _ => parts1_ret bG
      have ea : ((List.replicate i (d : Int)).any fun x => decide (¬ x = (d : Int))) = false := by
        rw [List.any_eq_false]
        intro x hx
        rw [List.eq_of_mem_replicate hx]
        simp
      rw [ea] at cf
      simp (disch := (first | assumption | omega | (simp only [List.length_append, List.length_cons, List.length_nil]; omega))) only [↓wD,wU,Nat.reduceBEq,zx150,zx151,zx159,zx160,zx161,zx162,Nat.reduceAdd,Nat.reduceSub,Nat.reduceMul,Nat.reduceLeDiff,Nat.reduceLT,Nat.reduceEqDiff,Int.reduceAdd,Int.reduceSub,Int.reduceMul,Int.reduceNeg,Int.reduceLT,Int.reduceLE,Int.reduceEq,Int.reduceToNat,Int.cast_ofNat_Int,↓reduceIte, a3, a4, a6, a17, a18, a19, cf.call]
      exact rv_2 (ho.rv fun b hb => .inr (by omega)) rfl
  · simp (disch := (first | assumption | omega | (simp only [List.length_append, List.length_cons, List.length_nil]; omega))) only [↓wD,wU,Nat.reduceBEq,zx150,zx151,zx159,zx160,zx161,zx162,Nat.reduceAdd,Nat.reduceSub,Nat.reduceMul,Nat.reduceLeDiff,Nat.reduceLT,Nat.reduceEqDiff,Int.reduceAdd,Int.reduceSub,Int.reduceMul,Int.reduceNeg,Int.reduceLT,Int.reduceLE,Int.reduceEq,Int.reduceToNat,Int.cast_ofNat_Int,↓reduceIte]
    refine ⟨.nils, rfl, TB.nil, ?_, Kp.refl _ _⟩
    rw [e0]; exact mi0
end Go.Proofs.Ytmmbakggmlfffaa
namespace Go.Proofs.Ytmmbakggmlfffaa
open Go Go.AM Go.Proofs
/-- a mixture that can be read -/
structure MixP (n D : Nat) (m : FM) : Prop where
  len : m.length = n
  n1 : 1 ≤ n
  n5 : n ≤ 5
  row : ∀ r ∈ m, r.length = n
  D0 : 0 < D
  D16 : D ≤ 16
  fr : ∀ f ∈ m.flatten, frB D f = true
  tab : TabP n (partsF m (lcmF m.flatten))
  rows : ∀ i : Nat, i < n → (gi (partsF m (lcmF m.flatten)) (i : Int)).sum = (lcmF m.flatten : Nat)
  cols : ∀ j : Nat, j < n → colPart (partsF m (lcmF m.flatten)) n j = (lcmF m.flatten : Nat)
theorem MixP.d {n D : Nat} {m : FM} (h : MixP n D m) : 0 < lcmF m.flatten ∧ lcmF m.flatten ≤ 16 := by
  have h1 := frB_dvd h.fr
  exact ⟨h1.2, Nat.le_trans (Nat.le_of_dvd h.D0 h1.1) h.D16⟩
theorem read_ret {p : Nat → Prop} {H : Heap} {v : AV} {m : FM} {D n : Nat} (hm : Sl p H v m) (h : MixP n D m) :
    Ret E 24 [v] (fun _ => False) H (T3.mk (TW.mk (partsF m (lcmF m.flatten))) (lcmF m.flatten : Int) true) := by
  refine Ret.ro rfl fn24 rfl ?_
  unfold f24A
  have mL := hm.L.1
  rw [h.len] at mL
  have n1 := h.n1
  have n5 := h.n5
  have cr := common_ret (most := 10000) hm h.len h.row h.D0 h.D16 (by omega) (by omega) h.fr
  have hd := h.d
  have e10 : ((10000 : Nat) : Int) = 10000 := rfl
  rw [e10] at cr
  have pr := parts_ret hm h.len h.n5 h.row h.D0 h.D16 hd.2 h.fr h.tab h.rows h.cols
  have d1 : decide ((n : Int) < 1) = false := decide_eq_false (by omega)
  have d2 : decide ((5 : Int) < (n : Int)) = false := decide_eq_false (by omega)
  simp (disch := (first | assumption | omega | (simp only [List.length_append, List.length_cons, List.length_nil]; omega))) only [↓wD,wU,Nat.reduceBEq,zx150,zx151,zx159,zx160,zx161,zx162,Nat.reduceAdd,Nat.reduceSub,Nat.reduceMul,Nat.reduceLeDiff,Nat.reduceLT,Nat.reduceEqDiff,Int.reduceAdd,Int.reduceSub,Int.reduceMul,Int.reduceNeg,Int.reduceLT,Int.reduceLE,Int.reduceEq,Int.reduceToNat,Int.cast_ofNat_Int,↓reduceIte, mL, d1, d2, cr.call]
  refine pr.to fun u H' hg hv => ?_
  obtain ⟨v1, v2, rfl, h1, h2⟩ := rv2 hv
  rw [rvb h2]
  simp (disch := (first | assumption | omega | (simp only [List.length_append, List.length_cons, List.length_nil]; omega))) only [↓wD,wU,Nat.reduceBEq,zx150,zx151,zx159,zx160,zx161,zx162,Nat.reduceAdd,Nat.reduceSub,Nat.reduceMul,Nat.reduceLeDiff,Nat.reduceLT,Nat.reduceEqDiff,Int.reduceAdd,Int.reduceSub,Int.reduceMul,Int.reduceNeg,Int.reduceLT,Int.reduceLE,Int.reduceEq,Int.reduceToNat,Int.cast_ofNat_Int,↓reduceIte]
  exact rv_3 h1 rfl rfl
end Go.Proofs.Ytmmbakggmlfffaa
namespace Go.Proofs.Ytmmbakggmlfffaa
open Go Go.AM Go.Proofs
theorem _root_.Go.AM.RetP.prim {E : Tab} {f : Nat} {g : List AV → Option AV} {vs : List AV} {v : AV} {H : Heap} (hk : E.kd f = .prim g) (h : g vs = some v) (hv : v.pure = true) (ha : AV.pureAll vs = true) : RetP E f vs H v := fun lo => by
  refine ⟨0, v, H, ?_, rfl, rfl⟩
  unfold callF
  simp [hk, h, hv, ha]
/-! ### Bits -/
theorem ofI {a : Nat} (h : a ≤ 9223372036854775807) : (BitVec.ofInt 64 (a : Int)).toNat = a := by
  rw [BitVec.ofInt_natCast, BitVec.toNat_ofNat]; exact Nat.mod_eq_of_lt (by omega)
theorem and_le {a b : Nat} (h : a ≤ 9223372036854775807) : a &&& b ≤ 9223372036854775807 := Nat.le_trans Nat.and_le_left h
theorem or_le {a b : Nat} (h : a ≤ 9223372036854775807) (h' : b ≤ 9223372036854775807) : a ||| b ≤ 9223372036854775807 := by
  have : a ||| b < 2 ^ 63 := Nat.or_lt_two_pow (by omega) (by omega)
  omega
theorem b_and {a b : Nat} (h : a ≤ 9223372036854775807) (h' : b ≤ 9223372036854775807) : binA .and (.i (a : Int)) (.i (b : Int)) = some (.i ((a &&& b : Nat) : Int)) := by
  have e : (BitVec.ofInt 64 (a : Int) &&& BitVec.ofInt 64 (b : Int)).toNat = a &&& b := by rw [BitVec.toNat_and, ofI h, ofI h']
  show some (AV.int .i64 (IntKind.wrap .i64 ((BitVec.ofInt 64 (a : Int) &&& BitVec.ofInt 64 (b : Int)).toNat : Int))) = _
  have := and_le (b := b) h
  rw [e, zx172 (by omega) (by omega)]
theorem b_or {a b : Nat} (h : a ≤ 9223372036854775807) (h' : b ≤ 9223372036854775807) : binA .or (.i (a : Int)) (.i (b : Int)) = some (.i ((a ||| b : Nat) : Int)) := by
  have e : (BitVec.ofInt 64 (a : Int) ||| BitVec.ofInt 64 (b : Int)).toNat = a ||| b := by rw [BitVec.toNat_or, ofI h, ofI h']
  show some (AV.int .i64 (IntKind.wrap .i64 ((BitVec.ofInt 64 (a : Int) ||| BitVec.ofInt 64 (b : Int)).toNat : Int))) = _
  have := or_le h h'
  rw [e, zx172 (by omega) (by omega)]
theorem b_shr {a b : Nat} (h' : b ≤ 63) : binA .shr (.i (a : Int)) (.i (b : Int)) = some (.i ((a >>> b : Nat) : Int)) := by
  show (if (b : Int) < 0 then none else some (AV.int .i64 ((a : Int).fdiv (2 ^ (min (b : Int).toNat 64))))) = _
  rw [if_neg (by omega), show min (b : Int).toNat 64 = b by omega, Nat.shiftRight_eq_div_pow]
  congr 2
  rw [Int.fdiv_eq_ediv_of_nonneg _ (by exact_mod_cast Nat.zero_le (2 ^ b))]
  simp
theorem b_shl {a b : Nat} (h' : b ≤ 63) (h : a <<< b ≤ 9223372036854775807) : binA .shl (.i (a : Int)) (.i (b : Int)) = some (.i ((a <<< b : Nat) : Int)) := by
  show (if (b : Int) < 0 then none else some (AV.int .i64 (IntKind.wrap .i64 ((a : Int) * 2 ^ (min (b : Int).toNat 64))))) = _
  have e : (a : Int) * 2 ^ b = ((a <<< b : Nat) : Int) := by rw [Nat.shiftLeft_eq]; simp
  rw [if_neg (by omega), show min (b : Int).toNat 64 = b by omega, e]
  generalize a <<< b = c at h
  rw [zx172 (by omega) (by omega)]
end Go.Proofs.Ytmmbakggmlfffaa
namespace Go.AM
open Go
/-- a slice that is not nil, or nil -/
structure MO where
  o : Option (List Int)
instance : RV MO where
  rv p H v x := match x.o with
    | none => v = .nils
    | some xs => 1 ≤ xs.length ∧ Sl p H v xs
  mono := by
    rintro p q H H' v ⟨o⟩ h a b
    cases o with
    | none => exact h
    | some xs => exact ⟨h.1, h.2.mono a b⟩
  pure := by
    rintro p q H H' v ⟨o⟩ h a
    cases o with
    | none => exact h
    | some xs => exact ⟨h.1, h.2.pure a⟩
end Go.AM
namespace Go.Proofs.Ytmmbakggmlfffaa
open Go Go.AM Go.Proofs
theorem range_hit {β : Type} {F : Nat → Option β} {x : β} : ∀ {n j : Nat}, j < n → (∀ i, i < j → F i = none) → F j = some x → (List.range n).findSome? F = some x
  | 0, j, h, _, _ => by omega
  | n + 1, j, h, h1, h2 => by
    rw [List.range_succ, List.findSome?_append]
    by_cases e : j = n
    · subst e
      have : (List.range j).findSome? F = none := List.findSome?_eq_none_iff.2 fun i hi => h1 i (List.mem_range.1 hi)
      rw [this]; simp [h2]
    · rw [range_hit (by omega) h1 h2]; rfl
theorem range_miss {β : Type} {F : Nat → Option β} {n : Nat} (h : ∀ i, i < n → F i = none) : (List.range n).findSome? F = none := List.findSome?_eq_none_iff.2 fun i hi => h i (List.mem_range.1 hi)
/-- what a row offers -/
def matC (r : List Int) (rs : List (List Int)) (used j : Nat) : Option (List Int) := if decide (0 < gi r (j : Int)) && free used j then (matchF rs (used ||| 1 <<< j)).map ((j : Int) :: ·) else none
theorem matchF_cons {r : List Int} {rs : List (List Int)} {used : Nat} : matchF (r :: rs) used = (List.range r.length).findSome? (matC r rs used) := by
  rw [matchF]; rfl
theorem shl_le {j : Nat} (h : j < 5) : 1 <<< j ≤ 16 := by
  have : j = 0 ∨ j = 1 ∨ j = 2 ∨ j = 3 ∨ j = 4 := by omega
  rcases this with rfl | rfl | rfl | rfl | rfl <;> decide
theorem or_lt32 {a b : Nat} (h : a < 32) (h' : b < 32) : a ||| b < 32 := Nat.or_lt_two_pow (n := 5) h h'
section
variable {n b2 b3 b4 : Nat} {v : AV} {l : List (List Int)}
/-- what the recursion reads -/
structure GrE (H : Heap) (n b2 b3 b4 : Nat) (v : AV) (l : List (List Int)) : Prop where
  nn : H[b2]? = some (.cells [.i n])
  ll : H[b3]? = some (.cells [v])
  ff : H[b4]? = some (.cells [.fn 42 [] [.p b2 0, .p b3 0, .p b4 0]])
  sl : Sl (fun b => b < H.length) H v l
theorem GrE.gr {H H' : Heap} (h : GrE H n b2 b3 b4 v l) (hg : Gr H H') : GrE H' n b2 b3 b4 v l :=
  ⟨hg.get h.nn, hg.get h.ll, hg.get h.ff, (h.sl.gr hg).weak fun b hb => by have := hg.1; omega⟩
theorem grow_ret (hn : 1 ≤ n) (hn5 : n ≤ 5) (ht : TabP n l) : ∀ (k : Nat) (ps : List Int) (used : Nat) (pv : AV) (H : Heap) (q : Nat → Prop), ps.length + k = n → used < 32 → GrE H n b2 b3 b4 v l → Sl q H pv ps →
    Ret E 42 [pv, .i used, .p b2 0, .p b3 0, .p b4 0] q H (MO.mk ((matchF (l.drop ps.length) used).map (ps ++ ·))) := by
  intro k
  induction k with
  | zero =>
    intro ps used pv H q hk hu he hp
    refine Ret.ro rfl fn42 rfl ?_
    unfold f42A
    have pL := hp.lenV
    have epn : (ps.length : Int) = (n : Int) := by omega
    rw [epn] at pL
    have ed : l.drop ps.length = [] := List.drop_of_length_le (by rw [ht.len]; omega)
    rw [ed]
    have d1 : decide ((n : Int) = (n : Int)) = true := decide_eq_true rfl
    simp (disch := (first | assumption | omega | (simp only [List.length_append, List.length_cons, List.length_nil]; omega))) only [↓wD,wU,Nat.reduceBEq,zx150,zx151,zx159,zx160,zx161,zx162,Nat.reduceAdd,Nat.reduceSub,Nat.reduceMul,Nat.reduceLeDiff,Nat.reduceLT,Nat.reduceEqDiff,Int.reduceAdd,Int.reduceSub,Int.reduceMul,Int.reduceNeg,Int.reduceLT,Int.reduceLE,Int.reduceEq,Int.reduceToNat,Int.cast_ofNat_Int,↓reduceIte, pL, ld_of he.nn, d1]
    refine ⟨by simp; omega, ?_⟩
    simp only [List.append_nil]
    exact hp.weak fun b h => .inl h
  | succ k ihk =>
    intro ps used pv H q hk hu he hp
    refine Ret.ro rfl fn42 rfl ?_
    unfold f42A
    have pL := hp.lenV
    have hpl : ps.length < n := by omega
    have d1 : decide ((ps.length : Int) = (n : Int)) = false := decide_eq_false (by omega)
    have lL := he.sl.L
    rw [ht.len] at lL
    have g := he.sl.get (k := (ps.length : Int)) (by omega) (by rw [ht.len]; omega)
    have rl := ht.row ps.length hpl
    obtain ⟨y, ey⟩ : ∃ y, v.get H (ps.length : Int) = y := ⟨_, rfl⟩
    rw [ey] at g
    have gI := g.I
    rw [rl] at gI
    have ed : l.drop ps.length = gi l (ps.length : Int) :: l.drop (ps.length + 1) := by
      rw [gi_nat (by rw [ht.len]; exact hpl)]; exact List.drop_eq_getElem_cons (by rw [ht.len]; exact hpl)
    rw [ed, matchF_cons, rl]
    simp (disch := (first | assumption | omega | (simp only [List.length_append, List.length_cons, List.length_nil]; omega))) only [↓wD,wU,Nat.reduceBEq,zx150,zx151,zx159,zx160,zx161,zx162,Nat.reduceAdd,Nat.reduceSub,Nat.reduceMul,Nat.reduceLeDiff,Nat.reduceLT,Nat.reduceEqDiff,Int.reduceAdd,Int.reduceSub,Int.reduceMul,Int.reduceNeg,Int.reduceLT,Int.reduceLE,Int.reduceEq,Int.reduceToNat,Int.cast_ofNat_Int,↓reduceIte, pL, ld_of he.nn, ld_of he.ll, d1, lL, ey, gI]
    refine Wp.for n (fun j a H' => a 0 = pv ∧ a 1 = .i used ∧ a 4 = .p b4 0 ∧ a 20 = y ∧ a 21 = .i n ∧ a 22 = .i j ∧ Gr H H' ∧ ∀ i, i < j → matC (gi l (ps.length : Int)) (l.drop (ps.length + 1)) used i = none) ?_ ?_
    · rintro j a G hj ⟨a0, a1, a4, a20, a21, a22, hg, hh⟩ ih
      have hgl := hg.1
      simp (disch := (first | assumption | omega | (simp only [List.length_append, List.length_cons, List.length_nil]; omega))) only [↓wD,wU,Nat.reduceBEq,zx150,zx151,zx159,zx160,zx161,zx162,Nat.reduceAdd,Nat.reduceSub,Nat.reduceMul,Nat.reduceLeDiff,Nat.reduceLT,Nat.reduceEqDiff,Int.reduceAdd,Int.reduceSub,Int.reduceMul,Int.reduceNeg,Int.reduceLT,Int.reduceLE,Int.reduceEq,Int.reduceToNat,Int.cast_ofNat_Int,↓reduceIte, a0, a1, a4, a20, a21, a22]
      refine condP_split (fun hlt => ?_) (fun hlt => ?_)
      · have hj' : j < n := by omega
        have heG := he.gr hg
        have gI := (g.gr hg).I
        rw [rl] at gI
        have hpG := hp.gr hg
        have bsr := b_shr (a := used) (b := j) (by omega)
        have hsh : used >>> j ≤ used := by rw [Nat.shiftRight_eq_div_pow]; exact Nat.div_le_self _ _
        have ban := b_and (a := used >>> j) (b := 1) (by omega) (by omega)
        have e1 : ((1 : Nat) : Int) = 1 := rfl
        rw [e1] at ban
        by_cases hfr : decide (0 < gi (gi l (ps.length : Int)) (j : Int)) && free used j
        case neg =>
          have hm : matC (gi l (ps.length : Int)) (l.drop (ps.length + 1)) used j = none := by unfold matC; rw [if_neg hfr]
          have hnext : ∀ i, i < j + 1 → matC (gi l (ps.length : Int)) (l.drop (ps.length + 1)) used i = none := fun i hi => by
            by_cases e : i = j
            · subst e; exact hm
            · exact hh i (by omega)
          by_cases hp0 : 0 < gi (gi l (ps.length : Int)) (j : Int)
          · have d2 : decide (0 < gi (gi l (ps.length : Int)) (j : Int)) = true := decide_eq_true hp0
            have d3 : decide (((used >>> j &&& 1 : Nat) : Int) = 0) = false := by
              refine decide_eq_false fun e => hfr ?_
              rw [d2]
              unfold free
              have : used >>> j &&& 1 = 0 := by omega
              rw [this]; rfl
            simp (disch := (first | assumption | omega | (simp only [List.length_append, List.length_cons, List.length_nil]; omega))) only [↓wD,wU,Nat.reduceBEq,zx150,zx151,zx159,zx160,zx161,zx162,Nat.reduceAdd,Nat.reduceSub,Nat.reduceMul,Nat.reduceLeDiff,Nat.reduceLT,Nat.reduceEqDiff,Int.reduceAdd,Int.reduceSub,Int.reduceMul,Int.reduceNeg,Int.reduceLT,Int.reduceLE,Int.reduceEq,Int.reduceToNat,Int.cast_ofNat_Int,↓reduceIte, a0, a1, a4, a20, a21, a22, gI, d2, bsr, ban, d3]
            refine (ih hj').go ?_
            simp (disch := (first | assumption | omega | (simp only [List.length_append, List.length_cons, List.length_nil]; omega))) only [↓wD,wU,Nat.reduceBEq,zx150,zx151,zx159,zx160,zx161,zx162,Nat.reduceAdd,Nat.reduceSub,Nat.reduceMul,Nat.reduceLeDiff,Nat.reduceLT,Nat.reduceEqDiff,Int.reduceAdd,Int.reduceSub,Int.reduceMul,Int.reduceNeg,Int.reduceLT,Int.reduceLE,Int.reduceEq,Int.reduceToNat,Int.cast_ofNat_Int,↓reduceIte, a0, a1, a4, a20, a21, a22]
            exact ⟨hg, hnext⟩
          · have d2 : decide (0 < gi (gi l (ps.length : Int)) (j : Int)) = false := decide_eq_false hp0
            simp (disch := (first | assumption | omega | (simp only [List.length_append, List.length_cons, List.length_nil]; omega))) only [↓wD,wU,Nat.reduceBEq,zx150,zx151,zx159,zx160,zx161,zx162,Nat.reduceAdd,Nat.reduceSub,Nat.reduceMul,Nat.reduceLeDiff,Nat.reduceLT,Nat.reduceEqDiff,Int.reduceAdd,Int.reduceSub,Int.reduceMul,Int.reduceNeg,Int.reduceLT,Int.reduceLE,Int.reduceEq,Int.reduceToNat,Int.cast_ofNat_Int,↓reduceIte, a0, a1, a4, a20, a21, a22, gI, d2]
            refine (ih hj').go ?_
            simp (disch := (first | assumption | omega | (simp only [List.length_append, List.length_cons, List.length_nil]; omega))) only [↓wD,wU,Nat.reduceBEq,zx150,zx151,zx159,zx160,zx161,zx162,Nat.reduceAdd,Nat.reduceSub,Nat.reduceMul,Nat.reduceLeDiff,Nat.reduceLT,Nat.reduceEqDiff,Int.reduceAdd,Int.reduceSub,Int.reduceMul,Int.reduceNeg,Int.reduceLT,Int.reduceLE,Int.reduceEq,Int.reduceToNat,Int.cast_ofNat_Int,↓reduceIte, a0, a1, a4, a20, a21, a22]
            exact ⟨hg, hnext⟩
        case pos =>
          have hm : matC (gi l (ps.length : Int)) (l.drop (ps.length + 1)) used j = (matchF (l.drop (ps.length + 1)) (used ||| 1 <<< j)).map ((j : Int) :: ·) := by unfold matC; rw [if_pos hfr]
          rw [Bool.and_eq_true] at hfr
          have d2 := hfr.1
          have d3 : decide (((used >>> j &&& 1 : Nat) : Int) = 0) = true := by
            refine decide_eq_true ?_
            have := Nat.eq_of_beq_eq_true hfr.2
            omega
          have sl5 := shl_le (j := j) (by omega)
          have bsl := b_shl (a := 1) (b := j) (by omega) (by omega)
          rw [e1] at bsl
          have bor := b_or (a := used) (b := 1 <<< j) (by omega) (by omega)
          have pLG := hpG.lenV
          obtain ⟨u0, hu1, hu2⟩ := hpG.clip (by omega)
          have sv := hu1 none (.inl rfl)
          have av := hu2 H.length G.length (j : Int) rfl
          have ee : ∀ o : Option (List Int), (o.map ((j : Int) :: ·)).map (ps ++ ·) = o.map ((ps ++ [(j : Int)]) ++ ·) := fun o => by cases o <;> simp
          have g4 := ld_of (o := 0) heG.ff
          have g5 := ld_of (o := 0) ((Kx.app (fun _ => True) G [Blk.cells [AV.i (j : Int)]]).get trivial heG.ff)
          have g6 := ld_of (o := 0) ((Kx.app (fun _ => True) G [Blk.cells [AV.i (j : Int)], Blk.cells ((ps ++ [(j : Int)]).map AV.i)]).get trivial heG.ff)
          have g7 := g6
          rw [List.map_append] at g7
          simp only [List.map_cons, List.map_nil] at g7
          have hgx : Gr H (G ++ [Blk.cells [AV.i (j : Int)], Blk.cells ((ps ++ [(j : Int)]).map AV.i)]) := hg.app _
          have heX := he.gr hgx
          have hsl : Sl (fun b => G.length ≤ b) (G ++ [Blk.cells [AV.i (j : Int)], Blk.cells ((ps ++ [(j : Int)]).map AV.i)]) (.s 1 (G.length + 1) 0 (ps.length + 1) none) (ps ++ [(j : Int)]) := by
            have := Sl.litI (p := fun b => G.length ≤ b) (c := none) (xs := ps ++ [(j : Int)]) (H := G ++ [Blk.cells [AV.i (j : Int)], Blk.cells ((ps ++ [(j : Int)]).map AV.i)]) (b := G.length + 1) (by rw [List.getElem?_append_right (by omega)]; simp) (by omega) (by simp; omega)
            simpa using this
          have hlx : (G ++ [Blk.cells [AV.i (j : Int)], Blk.cells ((ps ++ [(j : Int)]).map AV.i)]).length = G.length + 2 := by simp
          simp (disch := (first | assumption | omega | (simp only [List.length_append, List.length_cons, List.length_nil]; omega))) only [↓wD,wU,Nat.reduceBEq,zx150,zx151,zx159,zx160,zx161,zx162,Nat.reduceAdd,Nat.reduceSub,Nat.reduceMul,Nat.reduceLeDiff,Nat.reduceLT,Nat.reduceEqDiff,Int.reduceAdd,Int.reduceSub,Int.reduceMul,Int.reduceNeg,Int.reduceLT,Int.reduceLE,Int.reduceEq,Int.reduceToNat,Int.cast_ofNat_Int,↓reduceIte, a0, a1, a4, a20, a21, a22, gI, d2, d3, bsr, ban]
          refine lpI (wpC ?_)
          simp (disch := (first | assumption | omega | (simp only [List.length_append, List.length_cons, List.length_nil]; omega))) only [↓wD,wU,Nat.reduceBEq,zx150,zx151,zx159,zx160,zx161,zx162,Nat.reduceAdd,Nat.reduceSub,Nat.reduceMul,Nat.reduceLeDiff,Nat.reduceLT,Nat.reduceEqDiff,Int.reduceAdd,Int.reduceSub,Int.reduceMul,Int.reduceNeg,Int.reduceLT,Int.reduceLE,Int.reduceEq,Int.reduceToNat,Int.cast_ofNat_Int,↓reduceIte, a0, a1, a4, a20, a21, a22, g4, pLG, sv, av, bsl, bor]
          have hrec := ihk (ps ++ [(j : Int)]) (used ||| 1 <<< j) (.s 1 (G.length + 1) 0 (ps.length + 1) none) (G ++ [Blk.cells [AV.i (j : Int)], Blk.cells ((ps ++ [(j : Int)]).map AV.i)]) (fun b => G.length ≤ b) (by simp; omega) (or_lt32 hu (by omega)) heX hsl
          rw [List.length_append, List.length_singleton, ← ee, ← hm] at hrec
          refine callvI (WpV.fn (us := []) (vs := [_, _]) (hrec.use fun u N hv => ?_))
          have hgN : Gr H (G ++ [Blk.cells [AV.i (j : Int)], Blk.cells ((ps ++ [(j : Int)]).map AV.i)] ++ N) := hgx.app N
          generalize G ++ [Blk.cells [AV.i (j : Int)], Blk.cells ((ps ++ [(j : Int)]).map AV.i)] ++ N = G2 at *
          simp (disch := (first | assumption | omega | (simp only [List.length_append, List.length_cons, List.length_nil]; omega))) only [↓wD,wU,Nat.reduceBEq,zx150,zx151,zx159,zx160,zx161,zx162,Nat.reduceAdd,Nat.reduceSub,Nat.reduceMul,Nat.reduceLeDiff,Nat.reduceLT,Nat.reduceEqDiff,Int.reduceAdd,Int.reduceSub,Int.reduceMul,Int.reduceNeg,Int.reduceLT,Int.reduceLE,Int.reduceEq,Int.reduceToNat,Int.cast_ofNat_Int,↓reduceIte, a0, a1, a4, a20, a21, a22]
          refine chkI ?_ ?_
          · simp [chk1, ev, Fr.upd, a4, g5, g7, sameO, AV.same_refl]
          cases hmm : matC (gi l (ps.length : Int)) (l.drop (ps.length + 1)) used j with
          | none =>
            rw [hmm] at hv
            change u = .nils at hv
            subst hv
            have hnext : ∀ i, i < j + 1 → matC (gi l (ps.length : Int)) (l.drop (ps.length + 1)) used i = none := fun i hi => by
              by_cases e : i = j
              · subst e; exact hmm
              · exact hh i (by omega)
            simp (disch := (first | assumption | omega | (simp only [List.length_append, List.length_cons, List.length_nil]; omega))) only [↓wD,wU,Nat.reduceBEq,zx150,zx151,zx159,zx160,zx161,zx162,Nat.reduceAdd,Nat.reduceSub,Nat.reduceMul,Nat.reduceLeDiff,Nat.reduceLT,Nat.reduceEqDiff,Int.reduceAdd,Int.reduceSub,Int.reduceMul,Int.reduceNeg,Int.reduceLT,Int.reduceLE,Int.reduceEq,Int.reduceToNat,Int.cast_ofNat_Int,↓reduceIte, a0, a1, a4, a20, a21, a22]
            refine (ih hj').go ?_
            simp (disch := (first | assumption | omega | (simp only [List.length_append, List.length_cons, List.length_nil]; omega))) only [↓wD,wU,Nat.reduceBEq,zx150,zx151,zx159,zx160,zx161,zx162,Nat.reduceAdd,Nat.reduceSub,Nat.reduceMul,Nat.reduceLeDiff,Nat.reduceLT,Nat.reduceEqDiff,Int.reduceAdd,Int.reduceSub,Int.reduceMul,Int.reduceNeg,Int.reduceLT,Int.reduceLE,Int.reduceEq,Int.reduceToNat,Int.cast_ofNat_Int,↓reduceIte, a0, a1, a4, a20, a21, a22]
            exact ⟨hgN, hnext⟩
          | some r =>
            rw [hmm] at hv
            obtain ⟨hv1, hv2⟩ := hv
            have hres := range_hit hj' hh hmm
            rw [hres]
            have hsq : seqV true u .nils = some (.b true) := by
              rcases hv2 with ⟨_, e⟩ | ⟨b, o, c, k, rfl, _⟩
              · rw [e] at hv1; simp at hv1
              · rfl
            simp (disch := (first | assumption | omega | (simp only [List.length_append, List.length_cons, List.length_nil]; omega))) only [↓wD,wU,Nat.reduceBEq,zx150,zx151,zx159,zx160,zx161,zx162,Nat.reduceAdd,Nat.reduceSub,Nat.reduceMul,Nat.reduceLeDiff,Nat.reduceLT,Nat.reduceEqDiff,Int.reduceAdd,Int.reduceSub,Int.reduceMul,Int.reduceNeg,Int.reduceLT,Int.reduceLE,Int.reduceEq,Int.reduceToNat,Int.cast_ofNat_Int,↓reduceIte, a0, a1, a4, a20, a21, a22, hsq]
            exact ⟨hv1, hv2.weak fun b hb => .inr (by omega)⟩
      · obtain rfl : j = n := by omega
        rw [range_miss hh]
        simp (disch := (first | assumption | omega | (simp only [List.length_append, List.length_cons, List.length_nil]; omega))) only [↓wD,wU,Nat.reduceBEq,zx150,zx151,zx159,zx160,zx161,zx162,Nat.reduceAdd,Nat.reduceSub,Nat.reduceMul,Nat.reduceLeDiff,Nat.reduceLT,Nat.reduceEqDiff,Int.reduceAdd,Int.reduceSub,Int.reduceMul,Int.reduceNeg,Int.reduceLT,Int.reduceLE,Int.reduceEq,Int.reduceToNat,Int.cast_ofNat_Int,↓reduceIte, a0, a1, a4, a20, a21, a22]
        rfl
    · simp (disch := (first | assumption | omega | (simp only [List.length_append, List.length_cons, List.length_nil]; omega))) only [↓wD,wU,Nat.reduceBEq,zx150,zx151,zx159,zx160,zx161,zx162,Nat.reduceAdd,Nat.reduceSub,Nat.reduceMul,Nat.reduceLeDiff,Nat.reduceLT,Nat.reduceEqDiff,Int.reduceAdd,Int.reduceSub,Int.reduceMul,Int.reduceNeg,Int.reduceLT,Int.reduceLE,Int.reduceEq,Int.reduceToNat,Int.cast_ofNat_Int,↓reduceIte]
      exact ⟨Gr.refl _, fun i hi => by omega⟩
end
end Go.Proofs.Ytmmbakggmlfffaa
namespace Go.AM
open Go
/-- a table of the call's own, from L on and below M; its rows apart -/
def TBm (L M : Nat) (H : Heap) (v : AV) (t : List (List Int)) : Prop :=
  ∃ rs : List RW, rs.map (·.xs) = t ∧ rs.Pairwise (fun a b => Apart a.v b.v) ∧ Acc L (fun b => L ≤ b ∧ b < M) H v rs ∧ ∀ b, v.blk = some b → b < M
section
variable {L M lo : Nat} {p : Nat → Prop} {H H' : Heap} {v : AV} {t : List (List Int)}
theorem TBm.tb (h : TBm L M H v t) : TB L H v t := by
  obtain ⟨rs, e, hn, h, _⟩ := h
  exact ⟨rs, e, hn, h.mono (Kp.refl _ _) fun _ h => h.1⟩
theorem TB.tbm (h : TB L H v t) : TBm L H.length H v t := by
  have hb := fun b e => (h.blk_lt (b := b) e).2
  obtain ⟨rs, e, hn, h⟩ := h
  refine ⟨rs, e, hn, ?_, hb⟩
  rcases h with h | ⟨b, o, c, k, rfl, hb, hk, h1, h2, h3⟩
  · exact .inl h
  · exact .inr ⟨b, o, c, k, rfl, hb, hk, h1, h2, fun i hi => Rep.mono (Rep.low (h3 i hi)) (Kp.refl _ _) fun b h => ⟨⟨h.1.1, h.2⟩, h.1.2⟩⟩
theorem TBm.kp (h : TBm L M H v t) (hk : Kp (fun b => L ≤ b ∧ b < M) H H') : TBm L M H' v t := by
  obtain ⟨rs, e, hn, h, hb⟩ := h
  exact ⟨rs, e, hn, Acc.kp h hk (fun b e => ⟨(h.blk_lt e).1, hb b e⟩) fun _ h => h, hb⟩
theorem TBm.sl (h : TBm L M H v t) : Sl (fun b => L ≤ b ∧ b < M) H v t := by
  obtain ⟨rs, rfl, hn, h, hb⟩ := h
  rcases h with ⟨rfl, rfl⟩ | ⟨b, o, c, k, rfl, hb0, hk, h1, h2, h3⟩
  · exact .inl ⟨rfl, rfl⟩
  · refine .inr ⟨b, o, c, k, by rw [List.length_map]; rfl, ⟨hb0, hb b rfl⟩, hk, by rw [List.length_map]; exact h1, by rwa [List.length_map], fun i hi => ?_⟩
    have hi' : i < rs.length := by simpa using hi
    obtain ⟨e, hs⟩ := h3 i hi'
    refine ⟨_, e, ?_⟩
    have e2 : (rs.map (·.xs))[i]'hi = rs[i].xs := by simp
    rw [e2]; exact hs.weak fun _ h => h.1
theorem TBm.set (h : TBm L M H v t) {i : Nat} (hi : i < t.length) {x' : List Int} (hx : Kx (fun b => (v.get H (i : Int)).blk ≠ some b) H H') (hs : Sl (fun b => L ≤ b ∧ b < M) H' (v.get H (i : Int)) x') : TBm L M H' v (t.set i x') := by
  obtain ⟨rs, rfl, hn, ha, hbM⟩ := h
  rcases ha with ⟨rfl, rfl⟩ | ⟨b1, o, c, k, rfl, hb1, hk, h1, h2, h3⟩
  · simp at hi
  · have hi' : i < rs.length := by simpa using hi
    obtain ⟨e, h4⟩ := h3 i hi'
    change (k.drop (o + i * 1)).take 1 = _ at e
    have e2 := take1 e
    have eg : AV.get H (.s (Rep.sz RW) b1 o rs.length c) (i : Int) = rs[i].v := by
      change (ld H b1 (o + i * 1)).getD .un = _
      simp only [ld, hk, e2]; rfl
    rw [eg] at hx hs
    have hne : ∀ q, rs[i].v.blk = some q → q ≠ b1 := fun q hq => (h4.blkp hq).1.2
    refine ⟨rs.set i ⟨rs[i].v, x'⟩, by simp [List.map_set], ?_, .inr ⟨b1, o, c, k, by rw [List.length_set], hb1, hx.get (fun q => hne _ q rfl) hk, by rw [List.length_set]; exact h1, by rw [List.length_set]; exact h2, fun j hj => ?_⟩, hbM⟩
    · rw [List.pairwise_iff_getElem] at hn ⊢
      intro a b ha hb hab
      have e1 : ∀ m (hm : m < (rs.set i ⟨rs[i].v, x'⟩).length), (rs.set i ⟨rs[i].v, x'⟩)[m].v = (rs[m]'(by simpa using hm)).v := by
        intro m hm
        simp only [List.getElem_set]
        split
        · rename_i q; subst q; rfl
        · rfl
      rw [e1 a ha, e1 b hb]
      exact hn a b _ _ hab
    · have hj' : j < rs.length := by simpa using hj
      by_cases q : i = j
      · subst q
        simp only [List.getElem_set_self]
        exact ⟨e, hs.own.weak (q := fun b => rs[i].v.blk = some b) (fun _ h => h) |>.weak fun b hb => ⟨(hs.blkp hb).1, hne b hb⟩⟩
      · rw [List.getElem_set_ne q]
        obtain ⟨ej, hj4⟩ := h3 j hj'
        refine ⟨ej, (hj4.own.kp (hx.weak (q := fun b => rs[j].v.blk = some b) fun b _ hb => ?_).kp).weak fun b hb => (hj4.blkp hb).1⟩
        rw [List.pairwise_iff_getElem] at hn
        rcases Nat.lt_or_gt_of_ne q with ql | ql
        · exact fun e => hn i j hi' hj' ql b e hb
        · exact fun e => hn j i hj' hi' ql b hb e
/-- a number of a row is written -/
theorem TBm.store {Q : Heap → Prop} {i k : Nat} {x : Int} (h : TBm L M H v t) (hlo : lo ≤ L) (hi : i < t.length) (hk : k < (gi t (i : Int)).length)
    (go : ∀ H', TBm L M H' v (t.set i ((gi t (i : Int)).set k x)) → Kx (fun b => M ≤ b) H H' → H'.length = H.length → Q H') : @optP _ (stA lo H 1 ((v.get H (i : Int)).at 1 (k : Int)) (.i x)) ⟨Q⟩ := by
  have g := h.sl.get (k := (i : Int)) (by omega) (by omega)
  refine g.storeI (k := (k : Int)) (fun b hb => by omega) (by omega) (by omega) fun H' hs hx hl => ?_
  rw [Int.toNat_natCast] at hs
  exact go H' (h.set hi hx hs) (hx.weak fun b _ hb e => by have := (g.blkp e).1; omega) hl
end
end Go.AM
namespace Go.Proofs.Ytmmbakggmlfffaa
open Go Go.AM Go.Proofs
theorem match_ret {p : Nat → Prop} {H : Heap} {v : AV} {l : List (List Int)} {n : Nat} (hv : Sl p H v l) (hn : 1 ≤ n) (hn5 : n ≤ 5) (ht : TabP n l) : Ret E 25 [v] (fun _ => False) H (MO.mk (matchF l 0)) := by
  refine Ret.ro rfl fn25 rfl ?_
  unfold f25A
  have vc := hv.cellsV
  have vL := (hv.app [.cells [v]]).lenV
  rw [ht.len] at vL
  replace hv : Sl (fun b => b < H.length) H v l := hv.low.weak fun _ h => h.2
  have c0 : (H ++ [Blk.cells [v]])[H.length]? = some (.cells [v]) := get_last
  simp (disch := (first | assumption | omega | (simp only [List.length_append, List.length_cons, List.length_nil]; omega))) only [↓wD,wU,Nat.reduceBEq,zx150,zx151,zx159,zx160,zx161,zx162,Nat.reduceAdd,Nat.reduceSub,Nat.reduceMul,Nat.reduceLeDiff,Nat.reduceLT,Nat.reduceEqDiff,Int.reduceAdd,Int.reduceSub,Int.reduceMul,Int.reduceNeg,Int.reduceLT,Int.reduceLE,Int.reduceEq,Int.reduceToNat,Int.cast_ofNat_Int,↓reduceIte, vc, ld_of c0, vL]
  have e0 : (matchF (l.drop ([] : List Int).length) 0).map (([] : List Int) ++ ·) = matchF l 0 := by
    cases h : matchF l 0 <;> simp [h]
  have he : GrE (H ++ [Blk.cells [v]] ++ [Blk.cells [AV.i n]] ++ [Blk.cells [AV.fn 42 [] [.p (H.length + 1) 0, .p H.length 0, .p (H.length + 1 + 1) 0]]]) n (H.length + 1) H.length (H.length + 1 + 1) v l := by
    refine ⟨by simp, by simp, by rw [List.getElem?_append_right (by simp)]; simp, ((((hv.app _).app _).app _)).weak fun b hb => by simp; omega⟩
  have hr := grow_ret hn hn5 ht n [] 0 .nils _ (fun _ => False) (by simp) (by omega) he Sl.nil
  rw [e0] at hr
  refine callvI (WpV.fn (us := []) (vs := [_, _]) (hr.use fun u N hv2 => ?_))
  simp (disch := (first | assumption | omega | (simp only [List.length_append, List.length_cons, List.length_nil]; omega))) only [↓wD,wU,Nat.reduceBEq,zx150,zx151,zx159,zx160,zx161,zx162,Nat.reduceAdd,Nat.reduceSub,Nat.reduceMul,Nat.reduceLeDiff,Nat.reduceLT,Nat.reduceEqDiff,Int.reduceAdd,Int.reduceSub,Int.reduceMul,Int.reduceNeg,Int.reduceLT,Int.reduceLE,Int.reduceEq,Int.reduceToNat,Int.cast_ofNat_Int,↓reduceIte]
  exact RV.mono hv2 (Kp.refl _ _) fun b hb => hb.elim (fun h => h.elim) fun h => .inr (by simp at h; omega)
end Go.Proofs.Ytmmbakggmlfffaa
namespace Go.AM
open Go
theorem Acc.low {α : Type} [Rep α] {L : Nat} {p : Nat → Prop} {H : Heap} {v : AV} {xs : List α} (h : Acc L p H v xs) : Acc L (fun b => p b ∧ b < H.length) H v xs := by
  rcases h with h | ⟨b, o, c, k, rfl, hb, hk, h1, h2, h3⟩
  · exact .inl h
  · exact .inr ⟨b, o, c, k, rfl, hb, hk, h1, h2, fun i hi => Rep.mono (Rep.low (h3 i hi)) (Kp.refl _ _) fun b h => ⟨⟨h.1.1, h.2⟩, h.1.2⟩⟩
theorem Acc.weak {α : Type} [Rep α] {L : Nat} {p q : Nat → Prop} {H : Heap} {v : AV} {xs : List α} (h : Acc L p H v xs) (hq : ∀ b, p b → q b) : Acc L q H v xs := h.mono (Kp.refl _ _) hq
end Go.AM
namespace Go.Proofs.Ytmmbakggmlfffaa
open Go Go.AM Go.Proofs
theorem leastF_snoc {r : List Int} {j : Int} : ∀ {l : List (List Int)} {p : List Int} {w : Int}, l.length = p.length → leastF (l ++ [r]) (p ++ [j]) w = min (leastF l p w) (gi r j)
  | [], [], w, _ => rfl
  | [], _ :: _, _, h => by simp at h
  | _ :: _, [], _, h => by simp at h
  | x :: l, y :: p, w, h => by
    simp only [List.cons_append, leastF]
    exact leastF_snoc (by simpa using h)
theorem subF_snoc {r : List Int} {j w : Int} : ∀ {l : List (List Int)} {p : List Int}, l.length = p.length → subF (l ++ [r]) (p ++ [j]) w = subF l p w ++ [r.set j.toNat (gi r j - w)]
  | [], [], _ => rfl
  | [], _ :: _, h => by simp at h
  | _ :: _, [], h => by simp at h
  | x :: l, y :: p, h => by
    simp only [List.cons_append, subF]
    rw [subF_snoc (by simpa using h)]
theorem subF_len {w : Int} : ∀ {l : List (List Int)} {p : List Int}, (subF l p w).length = l.length
  | [], p => by cases p <;> rfl
  | _ :: _, [] => rfl
  | x :: l, y :: p => by simp only [subF, List.length_cons, subF_len]
theorem leastF_take {l : List (List Int)} {p : List Int} {w : Int} {n i : Nat} (hl : l.length = n) (hp : p.length = n) (hi : i < n) : leastF (l.take (i + 1)) (p.take (i + 1)) w = min (leastF (l.take i) (p.take i) w) (gi (gi l (i : Int)) (gi p (i : Int))) := by
  rw [take_gi (by omega), take_gi (by omega)]
  exact leastF_snoc (w := w) (by simp; omega)
/-- behind i rows -/
def subI (l : List (List Int)) (p : List Int) (w : Int) (i : Nat) : List (List Int) := subF (l.take i) (p.take i) w ++ l.drop i
section
variable {l : List (List Int)} {p : List Int} {w : Int} {n i : Nat}
theorem subI_0 : subI l p w 0 = l := by simp [subI, subF]
theorem subI_n (hl : l.length = n) (hp : p.length = n) : subI l p w n = subF l p w := by
  unfold subI
  rw [List.take_of_length_le (by omega), List.take_of_length_le (by omega), List.drop_of_length_le (by omega), List.append_nil]
theorem subI_len (hi : i ≤ l.length) : (subI l p w i).length = l.length := by
  unfold subI
  rw [List.length_append, subF_len, List.length_take, List.length_drop]; omega
theorem subI_gi (hi : i < l.length) : gi (subI l p w i) (i : Int) = gi l (i : Int) := by
  rw [gi_nat (by rw [subI_len (by omega)]; exact hi), gi_nat hi]
  unfold subI
  have e : (subF (l.take i) (p.take i) w).length = i := by rw [subF_len, List.length_take]; omega
  rw [List.getElem_append_right (by omega)]
  simp [e]
theorem subI_s (hl : l.length = n) (hp : p.length = n) (hi : i < n) : (subI l p w i).set i ((gi l (i : Int)).set (gi p (i : Int)).toNat (gi (gi l (i : Int)) (gi p (i : Int)) - w)) = subI l p w (i + 1) := by
  unfold subI
  have e : (subF (l.take i) (p.take i) w).length = i := by rw [subF_len, List.length_take]; omega
  rw [take_gi (show i < l.length by omega), take_gi (show i < p.length by omega), subF_snoc (by simp; omega)]
  rw [List.set_append_right _ _ (by omega), e, Nat.sub_self, List.append_assoc]
  congr 1
  rw [List.drop_eq_getElem_cons (show i < l.length by omega)]
  rfl
end
theorem permB_elim {n : Nat} {p : List Int} (h : permB n p = true) : p.length = n ∧ (∀ i : Nat, i < n → 0 ≤ gi p (i : Int) ∧ gi p (i : Int) < n) ∧ setF p = 1 <<< n - 1 := by
  simp only [permB, Bool.and_eq_true, List.all_eq_true, decide_eq_true_eq] at h
  obtain ⟨⟨h1, h2⟩, h3⟩ := h
  have h1 := Nat.eq_of_beq_eq_true h1
  exact ⟨h1, fun i hi => h2 _ (mem_gi (by omega)), Nat.eq_of_beq_eq_true h3⟩
theorem splF_go {k : Nat} {l : List (List Int)} {left : Int} {p : List Int} (h : 0 < left) (hm : matchF l 0 = some p) : splF (k + 1) l left = (p, leastF l p left) :: splF k (subF l p (leastF l p left)) (left - leastF l p left) := by
  rw [splF, if_pos h, hm]
theorem splF_end {k : Nat} {l : List (List Int)} {left : Int} (h : ¬ 0 < left) : splF k l left = [] := by
  cases k with
  | zero => rfl
  | succ k => rw [splF, if_neg h]
structure SplP (n k : Nat) (l : List (List Int)) (left : Int) (p : List Int) : Prop where
  tab : TabP n l
  left16 : left ≤ 16
  mat : matchF l 0 = some p
  plen : p.length = n
  pin : ∀ i : Nat, i < n → 0 ≤ gi p (i : Int) ∧ gi p (i : Int) < n
  w1 : 1 ≤ leastF l p left
  w16 : leastF l p left ≤ 16
  next : splB n k (subF l p (leastF l p left)) (left - leastF l p left) = true
theorem splB_go {n k : Nat} {l : List (List Int)} {left : Int} (h : splB n (k + 1) l left = true) (h0 : 0 < left) : ∃ p, SplP n k l left p := by
  rw [splB, if_pos h0] at h
  simp only [Bool.and_eq_true, decide_eq_true_eq] at h
  obtain ⟨⟨⟨h1, h2⟩, h3⟩, h4⟩ := h
  cases hm : matchF l 0 with
  | none => rw [hm] at h4; cases h4
  | some p =>
    rw [hm] at h4
    simp only [Bool.and_eq_true, decide_eq_true_eq] at h4
    obtain ⟨⟨⟨h5, h6⟩, h7⟩, h8⟩ := h4
    obtain ⟨q1, q2, _⟩ := permB_elim h5
    exact ⟨p, tabB_elim h1, h3, hm, q1, q2, h6, h7, h8⟩
theorem leastF_bound {n : Nat} {l : List (List Int)} {p : List Int} {left : Int} (ht : TabP n l) (hp : ∀ i : Nat, i < n → 0 ≤ gi p (i : Int) ∧ gi p (i : Int) < n) (hpl : p.length = n) (h0 : 0 ≤ left) (h1 : left ≤ 16) : ∀ i, i ≤ n → 0 ≤ leastF (l.take i) (p.take i) left ∧ leastF (l.take i) (p.take i) left ≤ 16 := by
  intro i
  induction i with
  | zero => intro _; simp [leastF]; omega
  | succ i ih =>
    intro hi
    have := ih (by omega)
    rw [leastF_take ht.len hpl (by omega)]
    have q := hp i (by omega)
    obtain ⟨J, eJ⟩ := Int.eq_ofNat_of_zero_le q.1
    have e := ht.ent i J (by omega) (by omega)
    rw [eJ]
    omega
end Go.Proofs.Ytmmbakggmlfffaa
namespace Go.Proofs.Ytmmbakggmlfffaa
open Go Go.AM Go.Proofs
def SplO (m : FM) : List (List Int × Int) := splF 16 (partsF m (lcmF m.flatten)) (lcmF m.flatten : Nat)
theorem split_ret {p : Nat → Prop} {H : Heap} {v : AV} {m : FM} {D n : Nat} (hm : Sl p H v m) (h : MixP n D m) (hs : splB n 16 (partsF m (lcmF m.flatten)) (lcmF m.flatten : Nat) = true) (hlen : (SplO m).length ≤ 16) :
    Ret E 11 [v] (fun _ => False) H (T3.mk ((SplO m).map (·.1)) (weiF (lcmF m.flatten) (SplO m)) (0 : Int)) := by
  refine Ret.ro rfl fn11 rfl ?_
  unfold f11A
  have hd := h.d
  have n1 := h.n1
  have n5 := h.n5
  have rr := read_ret hm h
  unfold SplO at hlen ⊢
  obtain ⟨d, ed⟩ : ∃ d, lcmF m.flatten = d := ⟨_, rfl⟩
  rw [ed] at hs hlen hd rr ⊢
  simp (disch := (first | assumption | omega | (simp only [List.length_append, List.length_cons, List.length_nil]; omega))) only [↓wD,wU,Nat.reduceBEq,zx150,zx151,zx159,zx160,zx161,zx162,Nat.reduceAdd,Nat.reduceSub,Nat.reduceMul,Nat.reduceLeDiff,Nat.reduceLT,Nat.reduceEqDiff,Int.reduceAdd,Int.reduceSub,Int.reduceMul,Int.reduceNeg,Int.reduceLT,Int.reduceLE,Int.reduceEq,Int.reduceToNat,Int.cast_ofNat_Int,↓reduceIte]
  refine rr.to fun v0 G1 hg1 hv0 => ?_
  obtain ⟨u, v2, v3, rfl, h1, h2, h3⟩ := rv3 hv0
  rw [rvi h2, rvb h3]
  have tb := (TB.of (L := H.length) h1 fun b hb => hb.elim (fun h => h.elim) id).tbm
  clear hv0 h1 h2 h3 rr
  have gl1 := hg1.1
  obtain ⟨l0, el0⟩ : ∃ l0, partsF m d = l0 := ⟨_, rfl⟩
  rw [el0] at hs hlen tb ⊢
  obtain ⟨qs, eqs⟩ : ∃ qs, splF 16 l0 (d : Int) = qs := ⟨_, rfl⟩
  rw [eqs] at hlen ⊢
  obtain ⟨M, eM⟩ : ∃ M, G1.length = M := ⟨_, rfl⟩
  rw [eM] at tb gl1
  simp (disch := (first | assumption | omega | (simp only [List.length_append, List.length_cons, List.length_nil]; omega))) only [↓wD,wU,Nat.reduceBEq,zx150,zx151,zx159,zx160,zx161,zx162,Nat.reduceAdd,Nat.reduceSub,Nat.reduceMul,Nat.reduceLeDiff,Nat.reduceLT,Nat.reduceEqDiff,Int.reduceAdd,Int.reduceSub,Int.reduceMul,Int.reduceNeg,Int.reduceLT,Int.reduceLE,Int.reduceEq,Int.reduceToNat,Int.cast_ofNat_Int,↓reduceIte]
  refine Wp.dec (fun k a G => ∃ lc left dn o8 o9, a 5 = u ∧ a 6 = .i d ∧ a 8 = o8 ∧ a 9 = o9 ∧ a 10 = .i left ∧ M ≤ G.length ∧ TBm H.length M G u lc ∧ Acc M (fun b => M ≤ b ∧ o9.blk ≠ some b) G o8 (dn.map (·.1)) ∧ Acc M (fun _ => False) G o9 (weiF d dn) ∧ (∀ b, o8.blk = some b → o9.blk ≠ some b) ∧ splB n k lc left = true ∧ qs = dn ++ splF k lc left) 16 ?_ ?_
  · rintro k a G ⟨lc, left, dn, o8, o9, a5, a6, a8, a9, a10, hGM, tb, A8, A9, D89, hB, hq⟩ ih
    simp (disch := (first | assumption | omega | (simp only [List.length_append, List.length_cons, List.length_nil]; omega))) only [↓wD,wU,Nat.reduceBEq,zx150,zx151,zx159,zx160,zx161,zx162,Nat.reduceAdd,Nat.reduceSub,Nat.reduceMul,Nat.reduceLeDiff,Nat.reduceLT,Nat.reduceEqDiff,Int.reduceAdd,Int.reduceSub,Int.reduceMul,Int.reduceNeg,Int.reduceLT,Int.reduceLE,Int.reduceEq,Int.reduceToNat,Int.cast_ofNat_Int,↓reduceIte, a5, a6, a8, a9, a10]
    refine condP_split (fun hlt => ?_) (fun hlt => ?_)
    · cases k with
      | zero =>
        simp only [splB, decide_eq_true_eq] at hB
        omega
      | succ k =>
        obtain ⟨pm, sp⟩ := splB_go hB hlt
        have hts := tb.sl
        have ht := sp.tab
        have hpl := sp.plen
        have lb := leastF_bound ht sp.pin hpl (by omega) sp.left16
        have l16 := sp.left16
        rw [splF_go hlt sp.mat] at hq
        have mr := match_ret hts n1 n5 ht
        rw [sp.mat] at mr
        simp (disch := (first | assumption | omega | (simp only [List.length_append, List.length_cons, List.length_nil]; omega))) only [↓wD,wU,Nat.reduceBEq,zx150,zx151,zx159,zx160,zx161,zx162,Nat.reduceAdd,Nat.reduceSub,Nat.reduceMul,Nat.reduceLeDiff,Nat.reduceLT,Nat.reduceEqDiff,Int.reduceAdd,Int.reduceSub,Int.reduceMul,Int.reduceNeg,Int.reduceLT,Int.reduceLE,Int.reduceEq,Int.reduceToNat,Int.cast_ofNat_Int,↓reduceIte, a5, a6, a8, a9, a10]
        refine mr.to fun pv G2 hg2 hv => ?_
        obtain ⟨_, hpv⟩ := hv
        replace hpv : Sl (fun b => G.length ≤ b) G2 pv pm := hpv.weak fun b hb => hb.elim (fun h => h.elim) id
        have gl2 := hg2.1
        have tb2 := tb.kp hg2.all.weakT
        have ts2 := tb2.sl
        have pL := hpv.I
        rw [hpl] at pL
        have uL := ts2.L
        rw [ht.len] at uL
        simp (disch := (first | assumption | omega | (simp only [List.length_append, List.length_cons, List.length_nil]; omega))) only [↓wD,wU,Nat.reduceBEq,zx150,zx151,zx159,zx160,zx161,zx162,Nat.reduceAdd,Nat.reduceSub,Nat.reduceMul,Nat.reduceLeDiff,Nat.reduceLT,Nat.reduceEqDiff,Int.reduceAdd,Int.reduceSub,Int.reduceMul,Int.reduceNeg,Int.reduceLT,Int.reduceLE,Int.reduceEq,Int.reduceToNat,Int.cast_ofNat_Int,↓reduceIte, a5, a6, a8, a9, a10, pL.1]
        refine Wp.for n (fun i a G' => G' = G2 ∧ a 5 = u ∧ a 6 = .i d ∧ a 8 = o8 ∧ a 9 = o9 ∧ a 10 = .i left ∧ a 11 = pv ∧ a 31 = pv ∧ a 32 = .i n ∧ a 33 = .i i ∧ a 12 = .i (leastF (lc.take i) (pm.take i) left)) ?_ ?_
        · clear a5 a6 a8 a9 a10
          rintro i a G' hi ⟨rfl, a5, a6, a8, a9, a10, a11, a31, a32, a33, a12⟩ ih2
          simp (disch := (first | assumption | omega | (simp only [List.length_append, List.length_cons, List.length_nil]; omega))) only [↓wD,wU,Nat.reduceBEq,zx150,zx151,zx159,zx160,zx161,zx162,Nat.reduceAdd,Nat.reduceSub,Nat.reduceMul,Nat.reduceLeDiff,Nat.reduceLT,Nat.reduceEqDiff,Int.reduceAdd,Int.reduceSub,Int.reduceMul,Int.reduceNeg,Int.reduceLT,Int.reduceLE,Int.reduceEq,Int.reduceToNat,Int.cast_ofNat_Int,↓reduceIte, a5, a6, a8, a9, a10, a11, a31, a32, a33, a12]
          refine condP_split (fun hlt2 => ?_) (fun hlt2 => ?_)
          · have hi' : i < n := by omega
            obtain ⟨q1, q2⟩ := sp.pin i hi'
            have el := leastF_take (w := left) ht.len hpl hi'
            obtain ⟨J, eJ⟩ := Int.eq_ofNat_of_zero_le q1
            have g := ts2.get (k := (i : Int)) (by omega) (by rw [ht.len]; omega)
            have gI := g.I
            rw [ht.row i hi'] at gI
            rw [eJ] at el
            have hJ : (J : Int) < n := by omega
            simp (disch := (first | assumption | omega | (simp only [List.length_append, List.length_cons, List.length_nil]; omega))) only [↓wD,wU,Nat.reduceBEq,zx150,zx151,zx159,zx160,zx161,zx162,Nat.reduceAdd,Nat.reduceSub,Nat.reduceMul,Nat.reduceLeDiff,Nat.reduceLT,Nat.reduceEqDiff,Int.reduceAdd,Int.reduceSub,Int.reduceMul,Int.reduceNeg,Int.reduceLT,Int.reduceLE,Int.reduceEq,Int.reduceToNat,Int.cast_ofNat_Int,↓reduceIte, a5, a6, a8, a9, a10, a11, a31, a32, a33, a12, pL, eJ, uL, gI, el]
            refine (ih2 hi').go ⟨rfl, ?_⟩
            simp (disch := (first | assumption | omega | (simp only [List.length_append, List.length_cons, List.length_nil]; omega))) only [↓wD,wU,Nat.reduceBEq,zx150,zx151,zx159,zx160,zx161,zx162,Nat.reduceAdd,Nat.reduceSub,Nat.reduceMul,Nat.reduceLeDiff,Nat.reduceLT,Nat.reduceEqDiff,Int.reduceAdd,Int.reduceSub,Int.reduceMul,Int.reduceNeg,Int.reduceLT,Int.reduceLE,Int.reduceEq,Int.reduceToNat,Int.cast_ofNat_Int,↓reduceIte, a5, a6, a8, a9, a10, a11, a31, a32, a33, a12, el]
          · obtain rfl : i = n := by omega
            have et1 : lc.take i = lc := List.take_of_length_le (by have := ht.len; omega)
            have et2 : pm.take i = pm := List.take_of_length_le (by omega)
            rw [et1, et2] at a12
            obtain ⟨w, ew⟩ : ∃ w, leastF lc pm left = w := ⟨_, rfl⟩
            have w1 := sp.w1
            have w16 := sp.w16
            have hnx := sp.next
            rw [ew] at a12 w1 w16 hnx hq
            clear el0 eqs
            simp (disch := (first | assumption | omega | (simp only [List.length_append, List.length_cons, List.length_nil]; omega))) only [↓wD,wU,Nat.reduceBEq,zx150,zx151,zx159,zx160,zx161,zx162,Nat.reduceAdd,Nat.reduceSub,Nat.reduceMul,Nat.reduceLeDiff,Nat.reduceLT,Nat.reduceEqDiff,Int.reduceAdd,Int.reduceSub,Int.reduceMul,Int.reduceNeg,Int.reduceLT,Int.reduceLE,Int.reduceEq,Int.reduceToNat,Int.cast_ofNat_Int,↓reduceIte, a5, a6, a8, a9, a10, a11, a31, a32, a33, a12, pL.1]
            refine Wp.for i (fun c a K => a 5 = u ∧ a 6 = .i d ∧ a 8 = o8 ∧ a 9 = o9 ∧ a 10 = .i left ∧ a 11 = pv ∧ a 12 = .i w ∧ a 48 = pv ∧ a 49 = .i i ∧ a 50 = .i c ∧ TBm H.length M K u (subI lc pm w c) ∧ Kx (fun b => M ≤ b) G' K ∧ K.length = G'.length) ?_ ?_
            · clear a5 a6 a8 a9 a10 a11 a31 a32 a33 a12 hlt2
              rintro c a K hc ⟨a5, a6, a8, a9, a10, a11, a12, a48, a49, a50, tb3, hk3, hl3⟩ ih3
              simp (disch := (first | assumption | omega | (simp only [List.length_append, List.length_cons, List.length_nil]; omega))) only [↓wD,wU,Nat.reduceBEq,zx150,zx151,zx159,zx160,zx161,zx162,Nat.reduceAdd,Nat.reduceSub,Nat.reduceMul,Nat.reduceLeDiff,Nat.reduceLT,Nat.reduceEqDiff,Int.reduceAdd,Int.reduceSub,Int.reduceMul,Int.reduceNeg,Int.reduceLT,Int.reduceLE,Int.reduceEq,Int.reduceToNat,Int.cast_ofNat_Int,↓reduceIte, a5, a6, a8, a9, a10, a11, a12, a48, a49, a50]
              refine condP_split (fun hlt2 => ?_) (fun hlt2 => ?_)
              · have hc' : c < i := by omega
                obtain ⟨q1, q2⟩ := sp.pin c hc'
                obtain ⟨J, eJ⟩ := Int.eq_ofNat_of_zero_le q1
                have pL3 := (hpv.kp (hk3.weak (q := fun b => G.length ≤ b) fun b _ hb => by omega).kp).I
                rw [hpl] at pL3
                have ts3 := tb3.sl
                have sl3 : (subI lc pm w c).length = i := by rw [subI_len (by rw [ht.len]; omega), ht.len]
                have uL3 := ts3.L
                rw [sl3] at uL3
                have g := ts3.get (k := (c : Int)) (by omega) (by rw [sl3]; omega)
                have egi := subI_gi (w := w) (p := pm) (show c < lc.length by rw [ht.len]; omega)
                rw [egi] at g
                have gI := g.I
                rw [ht.row c hc'] at gI
                have hJ : J < i := by omega
                have he := ht.ent c J hc' hJ
                have es := subI_s (w := w) ht.len hpl hc'
                rw [eJ, Int.toNat_natCast] at es
                simp (disch := (first | assumption | omega | (simp only [List.length_append, List.length_cons, List.length_nil]; omega))) only [↓wD,wU,Nat.reduceBEq,zx150,zx151,zx159,zx160,zx161,zx162,Nat.reduceAdd,Nat.reduceSub,Nat.reduceMul,Nat.reduceLeDiff,Nat.reduceLT,Nat.reduceEqDiff,Int.reduceAdd,Int.reduceSub,Int.reduceMul,Int.reduceNeg,Int.reduceLT,Int.reduceLE,Int.reduceEq,Int.reduceToNat,Int.cast_ofNat_Int,↓reduceIte, a5, a6, a8, a9, a10, a11, a12, a48, a49, a50, pL3, eJ, uL3, gI]
                refine tb3.store (by omega) (by omega) (by rw [egi, ht.row c hc']; exact hJ) fun K2 tb4 hk4 hl4 => ?_
                rw [egi, es] at tb4
                simp (disch := (first | assumption | omega | (simp only [List.length_append, List.length_cons, List.length_nil]; omega))) only [↓wD,wU,Nat.reduceBEq,zx150,zx151,zx159,zx160,zx161,zx162,Nat.reduceAdd,Nat.reduceSub,Nat.reduceMul,Nat.reduceLeDiff,Nat.reduceLT,Nat.reduceEqDiff,Int.reduceAdd,Int.reduceSub,Int.reduceMul,Int.reduceNeg,Int.reduceLT,Int.reduceLE,Int.reduceEq,Int.reduceToNat,Int.cast_ofNat_Int,↓reduceIte, a5, a6, a8, a9, a10, a11, a12, a48, a49, a50]
                refine (ih3 hc').go ?_
                simp (disch := (first | assumption | omega | (simp only [List.length_append, List.length_cons, List.length_nil]; omega))) only [↓wD,wU,Nat.reduceBEq,zx150,zx151,zx159,zx160,zx161,zx162,Nat.reduceAdd,Nat.reduceSub,Nat.reduceMul,Nat.reduceLeDiff,Nat.reduceLT,Nat.reduceEqDiff,Int.reduceAdd,Int.reduceSub,Int.reduceMul,Int.reduceNeg,Int.reduceLT,Int.reduceLE,Int.reduceEq,Int.reduceToNat,Int.cast_ofNat_Int,↓reduceIte, a5, a6, a8, a9, a10, a11, a12, a48, a49, a50]
                exact ⟨tb4, hk3.trans hk4 fun _ _ h => h, by omega⟩
              · obtain rfl : c = i := by omega
                rw [subI_n ht.len hpl] at tb3
                have hpK : Sl (fun b => G.length ≤ b) K pv pm := hpv.kp (hk3.weak (q := fun b => G.length ≤ b) fun b _ hb => by omega).kp
                have A8K := (A8.gr hg2).mono (hk3.weak (q := fun b => M ≤ b ∨ M ≤ b ∧ o9.blk ≠ some b) fun b _ hb => hb.elim id fun h => h.1).kp fun _ h => h
                have A9K := (A9.gr hg2).mono (hk3.weak (q := fun b => M ≤ b ∨ False) fun b _ hb => hb.elim id fun h => h.elim).kp fun _ h => h
                have b8 := fun b e => A8.blk_lt (b := b) e
                have b9 := fun b e => A9.blk_lt (b := b) e
                have hql : dn.length ≤ 16 := by rw [hq] at hlen; simp at hlen; omega
                obtain ⟨W, eW⟩ := Int.eq_ofNat_of_zero_le (show 0 ≤ w by omega)
                have fr := fun K' => frac_retS (H := K') W d (by omega) (by omega) hd.1
                have ewe : weiF d (dn ++ [(pm, w)]) = weiF d dn ++ [fracN W d] := by simp [weiF, eW]
                simp (disch := (first | assumption | omega | (simp only [List.length_append, List.length_cons, List.length_nil]; omega))) only [↓wD,wU,Nat.reduceBEq,zx150,zx151,zx159,zx160,zx161,zx162,Nat.reduceAdd,Nat.reduceSub,Nat.reduceMul,Nat.reduceLeDiff,Nat.reduceLT,Nat.reduceEqDiff,Int.reduceAdd,Int.reduceSub,Int.reduceMul,Int.reduceNeg,Int.reduceLT,Int.reduceLE,Int.reduceEq,Int.reduceToNat,Int.cast_ofNat_Int,↓reduceIte, a5, a6, a8, a9, a10, a11, a12, hpv.cellsV]
                refine A8K.pushL (q := fun b => G.length ≤ b) (by omega) (by omega) hpK (fun b hb => ⟨⟨by omega, fun e => by have := (b9 b e).2; omega⟩, fun e => by have := (b8 b e).2; omega⟩) (by simp; omega) fun o8' K1 A8' hk5 hl5 hb5 => ?_
                rw [eW] at a12
                simp (disch := (first | assumption | omega | (simp only [List.length_append, List.length_cons, List.length_nil]; omega))) only [↓wD,wU,Nat.reduceBEq,zx150,zx151,zx159,zx160,zx161,zx162,Nat.reduceAdd,Nat.reduceSub,Nat.reduceMul,Nat.reduceLeDiff,Nat.reduceLT,Nat.reduceEqDiff,Int.reduceAdd,Int.reduceSub,Int.reduceMul,Int.reduceNeg,Int.reduceLT,Int.reduceLE,Int.reduceEq,Int.reduceToNat,Int.cast_ofNat_Int,↓reduceIte, a5, a6, a8, a9, a10, a11, a12, (fr _).call]
                have A9' := A9K.kp hk5 (fun b e e2 => D89 b e2 e) fun _ h => h.elim
                refine A9'.push2 (by omega) (by omega) (by simp [weiF]; omega) fun o9' K2 A9'' hk6 hl6 hb6 => ?_
                simp (disch := (first | assumption | omega | (simp only [List.length_append, List.length_cons, List.length_nil]; omega))) only [↓wD,wU,Nat.reduceBEq,zx150,zx151,zx159,zx160,zx161,zx162,Nat.reduceAdd,Nat.reduceSub,Nat.reduceMul,Nat.reduceLeDiff,Nat.reduceLT,Nat.reduceEqDiff,Int.reduceAdd,Int.reduceSub,Int.reduceMul,Int.reduceNeg,Int.reduceLT,Int.reduceLE,Int.reduceEq,Int.reduceToNat,Int.cast_ofNat_Int,↓reduceIte, a5, a6, a8, a9, a10, a11, a12]
                have b8' : ∀ b, o8'.blk = some b → b = K1.length - 1 := fun b e => by rw [hb5] at e; cases e; rfl
                have b9' : ∀ b, o9'.blk = some b → b = K2.length - 1 := fun b e => by rw [hb6] at e; cases e; rfl
                refine ih.go ⟨k, by omega, subF lc pm w, left - w, dn ++ [(pm, w)], o8', o9', ?_⟩
                rw [← eW] at a12
                simp (disch := (first | assumption | omega | (simp only [List.length_append, List.length_cons, List.length_nil]; omega))) only [↓wD,wU,Nat.reduceBEq,zx150,zx151,zx159,zx160,zx161,zx162,Nat.reduceAdd,Nat.reduceSub,Nat.reduceMul,Nat.reduceLeDiff,Nat.reduceLT,Nat.reduceEqDiff,Int.reduceAdd,Int.reduceSub,Int.reduceMul,Int.reduceNeg,Int.reduceLT,Int.reduceLE,Int.reduceEq,Int.reduceToNat,Int.cast_ofNat_Int,↓reduceIte, a5, a6, a8, a9, a10, a11, a12]
                rw [ewe, List.map_append]
                refine ⟨by rw [eW], by omega, ?_, ?_, A9'', ?_, hnx, by rw [hq]; simp⟩
                · exact (tb3.kp (hk5.weak fun b hb e => by have := (b8 b e).1; omega)).kp (hk6.weak fun b hb e => by have := (b9 b e).1; omega)
                · refine (A8'.low.kp hk6 (fun b e e2 => ?_) fun b hb => hb.1.2).weak fun b hb => ⟨hb.1.1, fun e => ?_⟩
                  · have h1 := b8' b e
                    have h2 := (b9 b e2).2
                    omega
                  · have h1 := b9' b e
                    have h2 := hb.2
                    omega
                · intro b e e2
                  have h1 := b8' b e
                  have h2 := b9' b e2
                  omega
            · simp (disch := (first | assumption | omega | (simp only [List.length_append, List.length_cons, List.length_nil]; omega))) only [↓wD,wU,Nat.reduceBEq,zx150,zx151,zx159,zx160,zx161,zx162,Nat.reduceAdd,Nat.reduceSub,Nat.reduceMul,Nat.reduceLeDiff,Nat.reduceLT,Nat.reduceEqDiff,Int.reduceAdd,Int.reduceSub,Int.reduceMul,Int.reduceNeg,Int.reduceLT,Int.reduceLE,Int.reduceEq,Int.reduceToNat,Int.cast_ofNat_Int,↓reduceIte, a5, a6, a8, a9, a10, a11, a12]
              rw [subI_0]
              exact ⟨tb2, Kx.refl _ _⟩
        · simp (disch := (first | assumption | omega | (simp only [List.length_append, List.length_cons, List.length_nil]; omega))) only [↓wD,wU,Nat.reduceBEq,zx150,zx151,zx159,zx160,zx161,zx162,Nat.reduceAdd,Nat.reduceSub,Nat.reduceMul,Nat.reduceLeDiff,Nat.reduceLT,Nat.reduceEqDiff,Int.reduceAdd,Int.reduceSub,Int.reduceMul,Int.reduceNeg,Int.reduceLT,Int.reduceLE,Int.reduceEq,Int.reduceToNat,Int.cast_ofNat_Int,↓reduceIte, a5, a6, a8, a9, a10]
          rfl
    · rw [splF_end hlt, List.append_nil] at hq
      subst hq
      simp (disch := (first | assumption | omega | (simp only [List.length_append, List.length_cons, List.length_nil]; omega))) only [↓wD,wU,Nat.reduceBEq,zx150,zx151,zx159,zx160,zx161,zx162,Nat.reduceAdd,Nat.reduceSub,Nat.reduceMul,Nat.reduceLeDiff,Nat.reduceLT,Nat.reduceEqDiff,Int.reduceAdd,Int.reduceSub,Int.reduceMul,Int.reduceNeg,Int.reduceLT,Int.reduceLE,Int.reduceEq,Int.reduceToNat,Int.cast_ofNat_Int,↓reduceIte, a5, a6, a8, a9, a10]
      exact rv_3 (A8.sl.weak fun b hb => .inr (hb.elim (fun h => by omega) fun h => by omega)) (A9.sl.weak fun b hb => .inr (hb.elim (fun h => h.elim) fun h => by omega)) rfl
  · simp (disch := (first | assumption | omega | (simp only [List.length_append, List.length_cons, List.length_nil]; omega))) only [↓wD,wU,Nat.reduceBEq,zx150,zx151,zx159,zx160,zx161,zx162,Nat.reduceAdd,Nat.reduceSub,Nat.reduceMul,Nat.reduceLeDiff,Nat.reduceLT,Nat.reduceEqDiff,Int.reduceAdd,Int.reduceSub,Int.reduceMul,Int.reduceNeg,Int.reduceLT,Int.reduceLE,Int.reduceEq,Int.reduceToNat,Int.cast_ofNat_Int,↓reduceIte]
    exact ⟨l0, d, [], .nils, .nils, rfl, rfl, rfl, by omega, tb, Acc.nil, Acc.nil, (fun b e => nomatch e), hs, eqs.symm⟩
end Go.Proofs.Ytmmbakggmlfffaa
namespace Go.AM
open Go
/-- the fields of an element of two numbers -/
theorem Sl.T2 {p : Nat → Prop} {H : Heap} {v : AV} {xs : List (Int × Int)} (h : Sl p H v xs) {k : Nat} (hk : k < xs.length) : ∃ b o, p b ∧ iaddrV 2 v (.i (k : Int)) = some (.p b o) ∧ ld H b o = some (.i (gi xs (k : Int)).1) ∧ ld H b (o + 1) = some (.i (gi xs (k : Int)).2) := by
  rcases h with ⟨rfl, rfl⟩ | ⟨b, o, c, ks, rfl, hb, hk1, h1, h2, h3⟩
  · simp at hk
  · have h4 := h3 k hk
    obtain ⟨c1, c2, e, r1, r2⟩ := h4
    change c1 = _ at r1; change c2 = _ at r2
    rw [r1, r2] at e
    change (ks.drop (o + k * 2)).take 2 = [_, _] at e
    have e0 : ks[o + k * 2]? = some (.i xs[k].1) := by
      have : ((ks.drop (o + k * 2)).take 2)[0]? = some (.i xs[k].1) := by rw [e]; rfl
      simpa using this
    have e1 : ks[o + k * 2 + 1]? = some (.i xs[k].2) := by
      have : ((ks.drop (o + k * 2)).take 2)[1]? = some (.i xs[k].2) := by rw [e]; rfl
      simpa using this
    refine ⟨b, o + k * 2, hb, ?_, ?_, ?_⟩
    · change iaddrV 2 (.s 2 b o xs.length c) _ = _
      rw [zx178 (by omega) (by omega), Int.toNat_natCast]
    · simp only [ld, hk1, gi_nat hk]; exact e0
    · simp only [ld, hk1, gi_nat hk]; exact e1
theorem iaA5 {b o j : Nat} (h : j < 5) : iaddrAV 5 1 (.p b o) (.i (j : Int)) = some (.p b (o + j)) := by
  simp only [iaddrAV]
  rw [if_pos ⟨by omega, by omega⟩]
  simp
theorem fad {b o n : Nat} : zx160 n (.p b o) = some (.p b (o + n)) := (rfl)
/-- cells of a table of n rows of five -/
def GC (n : Nat) (F : Nat → Nat → Int) : List AV := (List.range (n * 5)).map fun t => AV.i (F (t / 5) (t % 5))
section
variable {n i j : Nat} {F : Nat → Nat → Int}
theorem GC_len : (GC n F).length = n * 5 := by simp [GC]
theorem GC_get (hi : i < n) (hj : j < 5) : (GC n F)[i * 5 + j]? = some (.i (F i j)) := by
  unfold GC
  rw [List.getElem?_map, List.getElem?_range (by omega)]
  simp only [Option.map_some]
  rw [show (i * 5 + j) / 5 = i by omega, show (i * 5 + j) % 5 = j by omega]
theorem GC_set (hi : i < n) (hj : j < 5) {x : Int} : (GC n F).set (i * 5 + j) (.i x) = GC n fun a b => if a = i ∧ b = j then x else F a b := by
  apply List.ext_getElem (by simp [GC])
  intro t h1 h2
  have ht : t < n * 5 := by simpa [GC] using h2
  simp only [List.getElem_set, GC, List.getElem_map, List.getElem_range]
  by_cases e : i * 5 + j = t
  · subst e
    rw [if_pos rfl, if_pos ⟨by omega, by omega⟩]
  · rw [if_neg e, if_neg (by omega)]
theorem GC_congr {G : Nat → Nat → Int} (h : ∀ a b, a < n → b < 5 → F a b = G a b) : GC n F = GC n G := by
  unfold GC
  refine List.map_congr_left fun t ht => ?_
  have := List.mem_range.1 ht
  rw [h (t / 5) (t % 5) (by omega) (by omega)]
theorem GC_0 : reps n [.i 0, .i 0, .i 0, .i 0, .i 0] = GC n fun _ _ => 0 := by
  induction n with
  | zero => rfl
  | succ n ih =>
    simp only [reps, ih]
    apply List.ext_getElem (by simp [GC]; omega)
    intro t h1 h2
    by_cases e : t < 5
    · rw [List.getElem_append_left (by simpa using e)]
      have : t = 0 ∨ t = 1 ∨ t = 2 ∨ t = 3 ∨ t = 4 := by omega
      rcases this with rfl | rfl | rfl | rfl | rfl <;> simp [GC]
    · rw [List.getElem_append_right (by simpa using e)]
      simp [GC]
end
end Go.AM
namespace Go.Proofs.Ytmmbakggmlfffaa
open Go Go.AM Go.Proofs
theorem setF_snoc {p : List Int} {x : Int} : setF (p ++ [x]) = setF p ||| 1 <<< x.toNat := by simp [setF, List.foldl_append]
theorem setF_lt {p : List Int} (h : ∀ x ∈ p, 0 ≤ x ∧ x < 5) : setF p < 32 := by
  have key : ∀ (p : List Int) (s : Nat), (∀ x ∈ p, 0 ≤ x ∧ x < 5) → s < 32 → p.foldl (fun s x => s ||| 1 <<< x.toNat) s < 32 := by
    intro p
    induction p with
    | nil => exact fun s _ h => h
    | cons x p ih =>
      intro s h hs
      have hx := h x (by simp)
      have := shl_le (j := x.toNat) (by omega)
      exact ih _ (fun y hy => h y (by simp [hy])) (or_lt32 hs (by omega))
  exact key p 0 h (by omega)
theorem perm_ret {p : Nat → Prop} {H : Heap} {v : AV} {q : List Int} {n : Nat} (hq : Sl p H v q) (h : permB n q = true) (hn : n ≤ 5) : RetP E 28 [v, .i n] H (.b true) := by
  obtain ⟨hl, hin, hset⟩ := permB_elim h
  refine RetP.ro rfl fn28 rfl rfl ?_
  unfold f28A
  have qI := hq.I
  rw [hl] at qI
  have hmem : ∀ x ∈ q, 0 ≤ x ∧ x < 5 := by
    intro x hx
    obtain ⟨k, hk, rfl⟩ := List.mem_iff_getElem.1 hx
    have := hin k (by omega)
    rw [gi_nat hk] at this
    omega
  simp (disch := (first | assumption | omega | (simp only [List.length_append, List.length_cons, List.length_nil]; omega))) only [↓wD,wU,Nat.reduceBEq,zx150,zx151,zx159,zx160,zx161,zx162,Nat.reduceAdd,Nat.reduceSub,Nat.reduceMul,Nat.reduceLeDiff,Nat.reduceLT,Nat.reduceEqDiff,Int.reduceAdd,Int.reduceSub,Int.reduceMul,Int.reduceNeg,Int.reduceLT,Int.reduceLE,Int.reduceEq,Int.reduceToNat,Int.cast_ofNat_Int,↓reduceIte, qI]
  refine Wp.for n (fun i a H' => H' = H ∧ a 0 = v ∧ a 1 = .i n ∧ a 8 = v ∧ a 9 = .i n ∧ a 10 = .i i ∧ a 5 = .i (setF (q.take i) : Nat)) ?_ ?_
  · rintro i a H' hi ⟨rfl, a0, a1, a8, a9, a10, a5⟩ ih
    simp (disch := (first | assumption | omega | (simp only [List.length_append, List.length_cons, List.length_nil]; omega))) only [↓wD,wU,Nat.reduceBEq,zx150,zx151,zx159,zx160,zx161,zx162,Nat.reduceAdd,Nat.reduceSub,Nat.reduceMul,Nat.reduceLeDiff,Nat.reduceLT,Nat.reduceEqDiff,Int.reduceAdd,Int.reduceSub,Int.reduceMul,Int.reduceNeg,Int.reduceLT,Int.reduceLE,Int.reduceEq,Int.reduceToNat,Int.cast_ofNat_Int,↓reduceIte, a0, a1, a8, a9, a10, a5]
    refine condP_split (fun hlt => ?_) (fun hlt => ?_)
    · have hi' : i < n := by omega
      obtain ⟨q1, q2⟩ := hin i hi'
      obtain ⟨J, eJ⟩ := Int.eq_ofNat_of_zero_le q1
      have hJ : J < n := by omega
      have d1 : decide ((J : Int) < 0) = false := decide_eq_false (by omega)
      have d2 : decide ((n : Int) ≤ (J : Int)) = false := decide_eq_false (by omega)
      have sl5 := shl_le (j := J) (by omega)
      have bsl := b_shl (a := 1) (b := J) (by omega) (by omega)
      have e1 : ((1 : Nat) : Int) = 1 := rfl
      rw [e1] at bsl
      have s32 := setF_lt (p := q.take i) fun x hx => hmem x (List.mem_of_mem_take hx)
      have bor := b_or (a := setF (q.take i)) (b := 1 <<< J) (by omega) (by omega)
      have es : setF (q.take (i + 1)) = setF (q.take i) ||| 1 <<< J := by rw [take_gi (by omega), setF_snoc, eJ, Int.toNat_natCast]
      simp (disch := (first | assumption | omega | (simp only [List.length_append, List.length_cons, List.length_nil]; omega))) only [↓wD,wU,Nat.reduceBEq,zx150,zx151,zx159,zx160,zx161,zx162,Nat.reduceAdd,Nat.reduceSub,Nat.reduceMul,Nat.reduceLeDiff,Nat.reduceLT,Nat.reduceEqDiff,Int.reduceAdd,Int.reduceSub,Int.reduceMul,Int.reduceNeg,Int.reduceLT,Int.reduceLE,Int.reduceEq,Int.reduceToNat,Int.cast_ofNat_Int,↓reduceIte, a0, a1, a8, a9, a10, a5, qI, eJ, d1, d2, bsl, bor]
      refine (ih hi').go ⟨rfl, ?_⟩
      simp (disch := (first | assumption | omega | (simp only [List.length_append, List.length_cons, List.length_nil]; omega))) only [↓wD,wU,Nat.reduceBEq,zx150,zx151,zx159,zx160,zx161,zx162,Nat.reduceAdd,Nat.reduceSub,Nat.reduceMul,Nat.reduceLeDiff,Nat.reduceLT,Nat.reduceEqDiff,Int.reduceAdd,Int.reduceSub,Int.reduceMul,Int.reduceNeg,Int.reduceLT,Int.reduceLE,Int.reduceEq,Int.reduceToNat,Int.cast_ofNat_Int,↓reduceIte, a0, a1, a8, a9, a10, a5, es]
    · obtain rfl : i = n := by omega
      have et : q.take i = q := List.take_of_length_le (by omega)
      rw [et, hset] at a5
      have sl5 : 1 <<< i ≤ 32 := by
        have : i = 0 ∨ i = 1 ∨ i = 2 ∨ i = 3 ∨ i = 4 ∨ i = 5 := by omega
        rcases this with rfl | rfl | rfl | rfl | rfl | rfl <;> decide
      have sl1 : 1 ≤ 1 <<< i := by
        have : i = 0 ∨ i = 1 ∨ i = 2 ∨ i = 3 ∨ i = 4 ∨ i = 5 := by omega
        rcases this with rfl | rfl | rfl | rfl | rfl | rfl <;> decide
      have bsl := b_shl (a := 1) (b := i) (by omega) (by omega)
      have e1 : ((1 : Nat) : Int) = 1 := rfl
      rw [e1] at bsl
      obtain ⟨S, eS⟩ : ∃ S, 1 <<< i = S := ⟨_, rfl⟩
      rw [eS] at a5 bsl sl5 sl1
      have d1 : decide ((i : Int) = (i : Int)) = true := decide_eq_true rfl
      have d2 : decide (((S - 1 : Nat) : Int) = (S : Int) - 1) = true := decide_eq_true (by omega)
      simp (disch := (first | assumption | omega | (simp only [List.length_append, List.length_cons, List.length_nil]; omega))) only [↓wD,wU,Nat.reduceBEq,zx150,zx151,zx159,zx160,zx161,zx162,Nat.reduceAdd,Nat.reduceSub,Nat.reduceMul,Nat.reduceLeDiff,Nat.reduceLT,Nat.reduceEqDiff,Int.reduceAdd,Int.reduceSub,Int.reduceMul,Int.reduceNeg,Int.reduceLT,Int.reduceLE,Int.reduceEq,Int.reduceToNat,Int.cast_ofNat_Int,↓reduceIte, a0, a1, a8, a9, a10, a5, qI.1, d1, bsl, d2]
  · simp (disch := (first | assumption | omega | (simp only [List.length_append, List.length_cons, List.length_nil]; omega))) only [↓wD,wU,Nat.reduceBEq,zx150,zx151,zx159,zx160,zx161,zx162,Nat.reduceAdd,Nat.reduceSub,Nat.reduceMul,Nat.reduceLeDiff,Nat.reduceLT,Nat.reduceEqDiff,Int.reduceAdd,Int.reduceSub,Int.reduceMul,Int.reduceNeg,Int.reduceLT,Int.reduceLE,Int.reduceEq,Int.reduceToNat,Int.cast_ofNat_Int,↓reduceIte]
    rfl
end Go.Proofs.Ytmmbakggmlfffaa
namespace Go.AM
open Go
theorem mks40 {a b c d e : AV} {n : Int} (h0 : 0 ≤ n) (h1 : n ≤ 100) : mksliceV 5 40 [a, b, c, d, e] (.int .i64 n) = some n.toNat := by
  have : mostBytes = 1099511627776 := by decide
  simp only [mksliceV, this]
  rw [if_pos ⟨h0, by omega, by omega, rfl⟩]
end Go.AM
namespace Go.Proofs.Ytmmbakggmlfffaa
open Go Go.AM Go.Proofs
/-- what CheckSplit accepts -/
structure CkP (n D D2 : Nat) (m : FM) (ps : List (List Int)) (ws : List (Int × Int)) : Prop where
  mix : MixP n D m
  len : ps.length = ws.length
  l16 : ws.length ≤ 16
  D0 : 0 < D2
  D16 : D2 ≤ 16
  fr : ∀ w ∈ ws, frB D2 w = true
  num : ∀ w ∈ ws, 1 ≤ w.1
  perm : ∀ p ∈ ps, permB n p = true
  got : ∀ i j : Nat, i < n → j < n → (gotF (lcmF ws) ps ws i j : Int) * (lcmF m.flatten : Nat) = gi (gi (partsF m (lcmF m.flatten)) (i : Int)) (j : Int) * (lcmF ws : Nat)
  sum : sumF (lcmF ws) ws = lcmF ws
def wN (al : Nat) (w : Int × Int) : Nat := w.1.toNat * (al / w.2.toNat)
theorem wN_le {D al : Nat} {w : Int × Int} (h : frB D w = true) (ha : al ≤ 16) : wN al w ≤ 16 := by
  obtain ⟨N, K, q⟩ := frB_elim h
  unfold wN
  rw [q.eq]
  simp only [Int.toNat_natCast]
  have h1 : N * (al / K) ≤ K * (al / K) := Nat.mul_le_mul_right _ q.le
  have h2 : K * (al / K) ≤ al := Nat.mul_div_le al K
  omega
theorem gotF_snoc {al i j : Nat} {p : List Int} {w : Int × Int} : ∀ {ps : List (List Int)} {ws : List (Int × Int)}, ps.length = ws.length → gotF al (ps ++ [p]) (ws ++ [w]) i j = gotF al ps ws i j + if gi p (i : Int) = (j : Int) then wN al w else 0
  | [], [], _ => by simp [gotF, wN]
  | [], _ :: _, h => by simp at h
  | _ :: _, [], h => by simp at h
  | x :: ps, y :: ws, h => by
    simp only [List.cons_append, gotF]
    rw [gotF_snoc (by simpa using h), Nat.add_assoc]
theorem gotF_le {al i j : Nat} : ∀ {ps : List (List Int)} {ws : List (Int × Int)}, (∀ w ∈ ws, wN al w ≤ 16) → gotF al ps ws i j ≤ 16 * ws.length
  | [], _, _ => by simp [gotF]
  | _ :: _, [], _ => by simp [gotF]
  | x :: ps, y :: ws, h => by
    have h1 := gotF_le (ps := ps) (ws := ws) (al := al) (i := i) (j := j) fun w hw => h w (by simp [hw])
    have h2 := h y (by simp)
    unfold wN at h2
    simp only [gotF, List.length_cons]
    split <;> omega
theorem sumF_snoc {al : Nat} {ws : List (Int × Int)} {w : Int × Int} : sumF al (ws ++ [w]) = sumF al ws + wN al w := by simp [sumF, wN, List.sum_append]
theorem sumF_le {al : Nat} {ws : List (Int × Int)} (h : ∀ w ∈ ws, wN al w ≤ 16) : sumF al ws ≤ 16 * ws.length := by
  induction ws with
  | nil => simp [sumF]
  | cons y ws ih =>
    have h1 := ih fun w hw => h w (by simp [hw])
    have h2 := h y (by simp)
    unfold wN at h2
    unfold sumF at h1 ⊢
    simp only [List.map_cons, List.sum_cons, List.length_cons]
    omega
/-- the sums behind k permutations and i rows of the next one -/
def gotS (al : Nat) (ps : List (List Int)) (ws : List (Int × Int)) (k i : Nat) (a b : Nat) : Int := (gotF al (ps.take k) (ws.take k) a b : Nat) + if a < i ∧ gi (gi ps (k : Int)) (a : Int) = (b : Int) then (wN al (gi ws (k : Int)) : Int) else 0
theorem checkSplit_ret {p p1 p2 : Nat → Prop} {H : Heap} {v pv wv : AV} {m : FM} {ps : List (List Int)} {ws : List (Int × Int)} {n D D2 : Nat} (hm : Sl p H v m) (hp : Sl p1 H pv ps) (hw : Sl p2 H wv ws) (h : CkP n D D2 m ps ws) :
    RetP E 12 [v, pv, wv] H (.tp [.b true, .i 0]) := by
  refine RetP.ro rfl fn12 rfl rfl ?_
  unfold f12A
  have hd := h.mix.d
  have n1 := h.mix.n1
  have n5 := h.mix.n5
  have ht := h.mix.tab
  have hlw := h.l16
  have hlp := h.len
  have rr := read_ret hm h.mix
  have hal := frB_dvd h.fr
  have hal16 := Nat.le_trans (Nat.le_of_dvd h.D0 hal.1) h.D16
  have hgot := h.got
  have hsum := h.sum
  obtain ⟨d, ed⟩ : ∃ d, lcmF m.flatten = d := ⟨_, rfl⟩
  obtain ⟨al, eal⟩ : ∃ al, lcmF ws = al := ⟨_, rfl⟩
  rw [ed] at hd rr ht hgot
  rw [eal] at hal16 hgot hsum
  have hwn : ∀ w ∈ ws, wN al w ≤ 16 := fun w hw => wN_le (h.fr w hw) hal16
  have pL0 := hp.lenV
  have wL0 := hw.lenV
  have mL0 := hm.lenV
  rw [h.mix.len] at mL0
  rw [hlp] at pL0
  have d1 : decide (¬ (ws.length : Int) = (ws.length : Int)) = false := decide_eq_false fun q => q rfl
  have d2 : decide ((100 : Int) < (ws.length : Int)) = false := decide_eq_false (by omega)
  simp (disch := (first | assumption | omega | (simp only [List.length_append, List.length_cons, List.length_nil]; omega))) only [↓wD,wU,Nat.reduceBEq,zx150,zx151,zx159,zx160,zx161,zx162,Nat.reduceAdd,Nat.reduceSub,Nat.reduceMul,Nat.reduceLeDiff,Nat.reduceLT,Nat.reduceEqDiff,Int.reduceAdd,Int.reduceSub,Int.reduceMul,Int.reduceNeg,Int.reduceLT,Int.reduceLE,Int.reduceEq,Int.reduceToNat,Int.cast_ofNat_Int,↓reduceIte]
  refine rr.to fun v0 G1 hg1 hv0 => ?_
  obtain ⟨u, v2, v3, rfl, h1, h2, h3⟩ := rv3 hv0
  rw [rvi h2, rvb h3]
  have tb := (TB.of (L := H.length) h1 fun b hb => hb.elim (fun h => h.elim) id).sl
  clear hv0 h1 h2 h3 rr
  have gl1 := hg1.1
  obtain ⟨l, el⟩ : ∃ l, partsF m d = l := ⟨_, rfl⟩
  rw [el] at tb ht hgot
  have wc := hw.cellsV
  have hws1 : Sl (fun _ => True) (G1 ++ [Blk.cells [wv]]) (.s 1 G1.length 0 1 (some 1)) [ws] := by
    have := Sl.litL (p := fun _ => True) (H := G1 ++ [Blk.cells [wv]]) (b := G1.length) (c := some 1) (us := [wv]) (xs := [ws]) get_last trivial (by simp) rfl fun i h1 h2 => by
      have : i = 0 := by simpa using h1
      subst this
      exact ((hw.gr hg1).app _).weak fun _ _ => trivial
    exact this
  have mu := multiple_ret (m := [ws]) (D := D2) (most := 10000000) hws1 h.D0 h.D16 (by omega) (by omega) (by simpa using h.fr)
  have efl : ([ws] : FM).flatten = ws := by simp
  rw [efl, eal] at mu
  have e10 : ((10000000 : Nat) : Int) = 10000000 := rfl
  rw [e10] at mu
  have mk := mks40 (a := .i 0) (b := .i 0) (c := .i 0) (d := .i 0) (e := .i 0) (n := (n : Int)) (by omega) (by omega)
  rw [Int.toNat_natCast] at mk
  have n1' : (G1 ++ [Blk.cells [wv]]).length = G1.length + 1 := by simp
  have c0 : (G1 ++ [Blk.cells [wv]] ++ [Blk.cells (reps n [.i 0, .i 0, .i 0, .i 0, .i 0])])[G1.length + 1]? = some (.cells (GC n fun _ _ => 0)) := by
    rw [GC_0, List.getElem?_append_right (by simp)]; simp
  have g12 : Gr G1 (G1 ++ [Blk.cells [wv]] ++ [Blk.cells (reps n [.i 0, .i 0, .i 0, .i 0, .i 0])]) := ((Gr.refl G1).app _).app _
  have n2' : (G1 ++ [Blk.cells [wv]] ++ [Blk.cells (reps n [.i 0, .i 0, .i 0, .i 0, .i 0])]).length = G1.length + 2 := by simp
  simp (disch := (first | assumption | omega | (simp only [List.length_append, List.length_cons, List.length_nil]; omega))) only [↓wD,wU,Nat.reduceBEq,zx150,zx151,zx159,zx160,zx161,zx162,Nat.reduceAdd,Nat.reduceSub,Nat.reduceMul,Nat.reduceLeDiff,Nat.reduceLT,Nat.reduceEqDiff,Int.reduceAdd,Int.reduceSub,Int.reduceMul,Int.reduceNeg,Int.reduceLT,Int.reduceLE,Int.reduceEq,Int.reduceToNat,Int.cast_ofNat_Int,↓reduceIte, pL0, wL0, d1, d2, wc, mu.call, mL0, mk, n1']
  generalize G1 ++ [Blk.cells [wv]] ++ [Blk.cells (reps n [.i 0, .i 0, .i 0, .i 0, .i 0])] = G2 at *
  obtain ⟨bG, ebG⟩ : ∃ bG, G1.length + 1 = bG := ⟨_, rfl⟩
  rw [ebG] at c0
  have hp2 : Sl (fun b => b ≠ bG) G2 pv ps := (((hp.low.weak (q := fun b => b < H.length) fun _ h => h.2).gr hg1).gr g12).weak fun b hb => by omega
  have hw2 : Sl (fun b => b ≠ bG) G2 wv ws := (((hw.low.weak (q := fun b => b < H.length) fun _ h => h.2).gr hg1).gr g12).weak fun b hb => by omega
  have hl2 : Sl (fun b => b ≠ bG) G2 u l := ((tb.low.weak (q := fun b => b < G1.length) fun _ h => h.2).gr g12).weak fun b hb => by omega
  obtain ⟨gv, egv⟩ : ∃ gv, AV.s 5 bG 0 n (some n) = gv := ⟨_, rfl⟩
  have iG : ∀ i : Nat, i < n → iaddrV 5 gv (.i (i : Int)) = some (.p bG (i * 5)) := fun i hi => by
    rw [← egv]
    simp [iaddrV, hi]
  have iA : ∀ i j : Nat, j < 5 → iaddrAV 5 1 (.p bG (i * 5)) (.i (j : Int)) = some (.p bG (i * 5 + j)) := fun i j hj => iaA5 hj
  refine Wp.for ws.length (fun k a G => a 0 = v ∧ a 2 = wv ∧ a 8 = u ∧ a 9 = .i d ∧ a 11 = .i al ∧ a 12 = .i (sumF al (ws.take k) : Nat) ∧ a 13 = gv ∧ a 52 = pv ∧ a 53 = .i ws.length ∧ a 54 = .i k ∧ G[bG]? = some (.cells (GC n (gotS al ps ws k 0))) ∧ Kx (fun b => b ≠ bG) G2 G ∧ G.length = G2.length) ?_ ?_
  · rintro k a G hk ⟨a0, a2, a8, a9, a11, a12, a13, a52, a53, a54, hc, hx, hlG⟩ ih
    simp (disch := (first | assumption | omega | (simp only [List.length_append, List.length_cons, List.length_nil]; omega))) only [↓wD,wU,Nat.reduceBEq,zx150,zx151,zx159,zx160,zx161,zx162,Nat.reduceAdd,Nat.reduceSub,Nat.reduceMul,Nat.reduceLeDiff,Nat.reduceLT,Nat.reduceEqDiff,Int.reduceAdd,Int.reduceSub,Int.reduceMul,Int.reduceNeg,Int.reduceLT,Int.reduceLE,Int.reduceEq,Int.reduceToNat,Int.cast_ofNat_Int,↓reduceIte, a0, a2, a8, a9, a11, a12, a13, a52, a53, a54]
    refine condP_split (fun hlt => ?_) (fun hlt => ?_)
    · have hk' : k < ws.length := by omega
      have hpG := hp2.kp hx.kp
      have hwG := hw2.kp hx.kp
      have pL := hpG.L
      rw [hlp] at pL
      have g := hpG.get (k := (k : Int)) (by omega) (by omega)
      obtain ⟨qv, eqv⟩ : ∃ qv, pv.get G (k : Int) = qv := ⟨_, rfl⟩
      rw [eqv] at g
      have hpb := h.perm _ (mem_gi (show k < ps.length by omega))
      obtain ⟨ql, qin, _⟩ := permB_elim hpb
      have pr := perm_ret g hpb n5
      obtain ⟨wb, wo, _, i1, f0, f1⟩ := hwG.T2 hk'
      have hwm := mem_gi (xs := ws) hk'
      obtain ⟨N, K, hNK⟩ := frB_elim (h.fr _ hwm)
      have hN1 := h.num _ hwm
      have hin : (gi ws (k : Int)).1 = N := by rw [hNK.eq]
      have hik : (gi ws (k : Int)).2 = K := by rw [hNK.eq]
      rw [hin] at f0 hN1
      rw [hik] at f1
      have hKp := hNK.pos
      have hKD := Nat.le_of_dvd h.D0 hNK.dvd
      have hD16 := h.D16
      have hNl := hNK.le
      have hwk := hwn _ hwm
      have ewn : wN al (gi ws (k : Int)) = N * (al / K) := by unfold wN; rw [hNK.eq]; simp
      have hak : al / K ≤ al := Nat.div_le_self _ _
      have esum : sumF al (ws.take (k + 1)) = sumF al (ws.take k) + wN al (gi ws (k : Int)) := by rw [take_gi hk', sumF_snoc]
      have hsl := sumF_le (al := al) (ws := ws.take k) fun w hw => hwn w (List.mem_of_mem_take hw)
      have htl : (ws.take k).length ≤ 16 := by rw [List.length_take]; omega
      obtain ⟨Q, eQ⟩ : ∃ Q, al / K = Q := ⟨_, rfl⟩
      rw [eQ] at ewn hak
      obtain ⟨W, eW⟩ : ∃ W, wN al (gi ws (k : Int)) = W := ⟨_, rfl⟩
      rw [eW] at ewn hwk esum
      have eWi : (N : Int) * (Q : Int) = (W : Int) := by rw [ewn]; simp
      have x0 : ¬ (K : Int) = 0 := by omega
      have d3 : decide ((N : Int) = 0) = false := decide_eq_false (by omega)
      have qI := g.I
      rw [ql] at qI
      simp (disch := (first | assumption | omega | (simp only [List.length_append, List.length_cons, List.length_nil]; omega))) only [↓wD,wU,Nat.reduceBEq,zx150,zx151,zx159,zx160,zx161,zx162,Nat.reduceAdd,Nat.reduceSub,Nat.reduceMul,Nat.reduceLeDiff,Nat.reduceLT,Nat.reduceEqDiff,Int.reduceAdd,Int.reduceSub,Int.reduceMul,Int.reduceNeg,Int.reduceLT,Int.reduceLE,Int.reduceEq,Int.reduceToNat,Int.cast_ofNat_Int,↓reduceIte, a0, a2, a8, a9, a11, a12, a13, a52, a53, a54, pL, eqv, mL0, pr.call, i1, fad, f0, f1, d3, x0, tdivN, eQ, eWi, qI.1]
      refine Wp.for n (fun i a G' => a 0 = v ∧ a 2 = wv ∧ a 8 = u ∧ a 9 = .i d ∧ a 11 = .i al ∧ a 12 = .i (sumF al (ws.take (k + 1)) : Nat) ∧ a 13 = gv ∧ a 52 = pv ∧ a 53 = .i ws.length ∧ a 54 = .i k ∧ a 16 = .i W ∧ a 88 = qv ∧ a 89 = .i n ∧ a 90 = .i i ∧ G'[bG]? = some (.cells (GC n (gotS al ps ws k i))) ∧ Kx (fun b => b ≠ bG) G2 G' ∧ G'.length = G2.length) ?_ ?_
      · clear a0 a2 a8 a9 a11 a12 a13 a52 a53 a54 hlt
        rintro i a G' hi ⟨a0, a2, a8, a9, a11, a12, a13, a52, a53, a54, a16, a88, a89, a90, hc2, hx2, hlG2⟩ ih2
        simp (disch := (first | assumption | omega | (simp only [List.length_append, List.length_cons, List.length_nil]; omega))) only [↓wD,wU,Nat.reduceBEq,zx150,zx151,zx159,zx160,zx161,zx162,Nat.reduceAdd,Nat.reduceSub,Nat.reduceMul,Nat.reduceLeDiff,Nat.reduceLT,Nat.reduceEqDiff,Int.reduceAdd,Int.reduceSub,Int.reduceMul,Int.reduceNeg,Int.reduceLT,Int.reduceLE,Int.reduceEq,Int.reduceToNat,Int.cast_ofNat_Int,↓reduceIte, a0, a2, a8, a9, a11, a12, a13, a52, a53, a54, a16, a88, a89, a90]
        refine condP_split (fun hlt => ?_) (fun hlt => ?_)
        · have hi' : i < n := by omega
          obtain ⟨q1, q2⟩ := qin i hi'
          obtain ⟨J, eJ⟩ := Int.eq_ofNat_of_zero_le q1
          have hJ : J < n := by omega
          have gG := hp2.kp hx2.kp
          have g2 := gG.get (k := (k : Int)) (by omega) (by omega)
          have eqv2 : pv.get G' (k : Int) = qv := by
            have e1 := (hp2.ld_get (k := (k : Int)) (by omega) (by omega)).1
            have e2 := (hpG.ld_get (k := (k : Int)) (by omega) (by omega)).1
            have e3 := (gG.ld_get (k := (k : Int)) (by omega) (by omega)).1
            rw [eqv] at e2
            rcases hp2 with ⟨_, e⟩ | ⟨b, o, c, ks, rfl, hb, hk1, _⟩
            · rw [e] at hlp; simp at hlp; omega
            · have k1 := hx.get hb hk1
              have k2 := hx2.get hb hk1
              rw [← eqv]
              simp only [AV.get, ld, k1, k2]
          rw [eqv2] at g2
          have qI2 := g2.I
          rw [ql] at qI2
          have cg := GC_get (F := gotS al ps ws k i) hi' (show J < 5 by omega)
          have gle := gotF_le (ps := ps.take k) (ws := ws.take k) (al := al) (i := i) (j := J) fun w hw => hwn w (List.mem_of_mem_take hw)
          have egs : gotS al ps ws k i i J = (gotF al (ps.take k) (ws.take k) i J : Nat) := by unfold gotS; rw [if_neg (by omega), Int.add_zero]
          rw [egs] at cg
          have s1 : st H.length G' bG (i * 5 + J) [.i ((gotF al (ps.take k) (ws.take k) i J : Nat) + (W : Int))] = some (G'.set bG (.cells (GC n (gotS al ps ws k (i + 1))))) := by
            rw [st_of hc2 (by omega) (by rw [GC_len]; simp; omega)]
            simp only [wr]
            rw [GC_set hi' (by omega)]
            congr 3
            refine GC_congr fun a b ha hb => ?_
            unfold gotS
            by_cases e : a = i
            · subst e
              by_cases e2 : b = J
              · subst e2
                rw [if_pos ⟨rfl, rfl⟩, if_pos ⟨by omega, eJ⟩, eW]
              · rw [if_neg (fun q => e2 q.2), if_neg (by omega), if_neg (fun q => e2 (by have := q.2; rw [eJ] at this; omega))]
            · rw [if_neg (fun q => e q.1)]
              by_cases e3 : a < i
              · by_cases e4 : gi (gi ps (k : Int)) (a : Int) = (b : Int)
                · rw [if_pos ⟨e3, e4⟩, if_pos ⟨by omega, e4⟩]
                · rw [if_neg (fun q => e4 q.2), if_neg (fun q => e4 q.2)]
              · rw [if_neg (by omega), if_neg (by omega)]
          simp (disch := (first | assumption | omega | (simp only [List.length_append, List.length_cons, List.length_nil]; omega))) only [↓wD,wU,Nat.reduceBEq,zx150,zx151,zx159,zx160,zx161,zx162,Nat.reduceAdd,Nat.reduceSub,Nat.reduceMul,Nat.reduceLeDiff,Nat.reduceLT,Nat.reduceEqDiff,Int.reduceAdd,Int.reduceSub,Int.reduceMul,Int.reduceNeg,Int.reduceLT,Int.reduceLE,Int.reduceEq,Int.reduceToNat,Int.cast_ofNat_Int,↓reduceIte, a0, a2, a8, a9, a11, a12, a13, a52, a53, a54, a16, a88, a89, a90, qI2, eJ, iG, iA, ld_of hc2, cg, s1]
          refine (ih2 hi').go ?_
          simp (disch := (first | assumption | omega | (simp only [List.length_append, List.length_cons, List.length_nil]; omega))) only [↓wD,wU,Nat.reduceBEq,zx150,zx151,zx159,zx160,zx161,zx162,Nat.reduceAdd,Nat.reduceSub,Nat.reduceMul,Nat.reduceLeDiff,Nat.reduceLT,Nat.reduceEqDiff,Int.reduceAdd,Int.reduceSub,Int.reduceMul,Int.reduceNeg,Int.reduceLT,Int.reduceLE,Int.reduceEq,Int.reduceToNat,Int.cast_ofNat_Int,↓reduceIte, a0, a2, a8, a9, a11, a12, a13, a52, a53, a54, a16, a88, a89, a90]
          exact ⟨get_set hc2, hx2.set' (fun _ q => q rfl) _, by simpa using hlG2⟩
        · obtain rfl : i = n := by omega
          have ecg : GC i (gotS al ps ws k i) = GC i (gotS al ps ws (k + 1) 0) := GC_congr fun a b ha hb => by
            unfold gotS
            rw [take_gi hk', take_gi (show k < ps.length by omega), gotF_snoc (by simp; omega)]
            by_cases e4 : gi (gi ps (k : Int)) (a : Int) = (b : Int)
            · rw [if_pos ⟨ha, e4⟩, if_pos e4, if_neg (by omega)]; omega
            · rw [if_neg (fun q => e4 q.2), if_neg e4, if_neg (by omega)]; omega
          rw [ecg] at hc2
          simp (disch := (first | assumption | omega | (simp only [List.length_append, List.length_cons, List.length_nil]; omega))) only [↓wD,wU,Nat.reduceBEq,zx150,zx151,zx159,zx160,zx161,zx162,Nat.reduceAdd,Nat.reduceSub,Nat.reduceMul,Nat.reduceLeDiff,Nat.reduceLT,Nat.reduceEqDiff,Int.reduceAdd,Int.reduceSub,Int.reduceMul,Int.reduceNeg,Int.reduceLT,Int.reduceLE,Int.reduceEq,Int.reduceToNat,Int.cast_ofNat_Int,↓reduceIte, a0, a2, a8, a9, a11, a12, a13, a52, a53, a54, a16, a88, a89, a90]
          refine (ih hk').go ?_
          simp (disch := (first | assumption | omega | (simp only [List.length_append, List.length_cons, List.length_nil]; omega))) only [↓wD,wU,Nat.reduceBEq,zx150,zx151,zx159,zx160,zx161,zx162,Nat.reduceAdd,Nat.reduceSub,Nat.reduceMul,Nat.reduceLeDiff,Nat.reduceLT,Nat.reduceEqDiff,Int.reduceAdd,Int.reduceSub,Int.reduceMul,Int.reduceNeg,Int.reduceLT,Int.reduceLE,Int.reduceEq,Int.reduceToNat,Int.cast_ofNat_Int,↓reduceIte, a0, a2, a8, a9, a11, a12, a13, a52, a53, a54]
          exact ⟨hc2, hx2, hlG2⟩
      · simp (disch := (first | assumption | omega | (simp only [List.length_append, List.length_cons, List.length_nil]; omega))) only [↓wD,wU,Nat.reduceBEq,zx150,zx151,zx159,zx160,zx161,zx162,Nat.reduceAdd,Nat.reduceSub,Nat.reduceMul,Nat.reduceLeDiff,Nat.reduceLT,Nat.reduceEqDiff,Int.reduceAdd,Int.reduceSub,Int.reduceMul,Int.reduceNeg,Int.reduceLT,Int.reduceLE,Int.reduceEq,Int.reduceToNat,Int.cast_ofNat_Int,↓reduceIte, a0, a2, a8, a9, a11, a12, a13, a52, a53, a54]
        rw [esum]
        exact ⟨by congr 1, hc, hx, hlG⟩
    · obtain rfl : k = ws.length := by omega
      rw [List.take_length, hsum] at a12
      have lL0 := hl2.lenV
      rw [ht.len] at lL0
      have ecg : GC n (gotS al ps ws ws.length 0) = GC n fun a b => (gotF al ps ws a b : Nat) := GC_congr fun a b ha hb => by
        unfold gotS
        rw [List.take_length, List.take_of_length_le (by omega), if_neg (by omega), Int.add_zero]
      rw [ecg] at hc
      have hlK := hl2.kp hx.kp
      simp (disch := (first | assumption | omega | (simp only [List.length_append, List.length_cons, List.length_nil]; omega))) only [↓wD,wU,Nat.reduceBEq,zx150,zx151,zx159,zx160,zx161,zx162,Nat.reduceAdd,Nat.reduceSub,Nat.reduceMul,Nat.reduceLeDiff,Nat.reduceLT,Nat.reduceEqDiff,Int.reduceAdd,Int.reduceSub,Int.reduceMul,Int.reduceNeg,Int.reduceLT,Int.reduceLE,Int.reduceEq,Int.reduceToNat,Int.cast_ofNat_Int,↓reduceIte, a0, a2, a8, a9, a11, a12, a13, a52, a53, a54, lL0]
      refine Wp.for n (fun i a G' => G' = G ∧ a 9 = .i d ∧ a 11 = .i al ∧ a 12 = .i al ∧ a 13 = gv ∧ a 107 = u ∧ a 108 = .i n ∧ a 109 = .i i) ?_ ?_
      · clear a0 a2 a8 a9 a11 a12 a13 a52 a53 a54 hlt
        rintro i a G' hi ⟨rfl, a9, a11, a12, a13, a107, a108, a109⟩ ih2
        simp (disch := (first | assumption | omega | (simp only [List.length_append, List.length_cons, List.length_nil]; omega))) only [↓wD,wU,Nat.reduceBEq,zx150,zx151,zx159,zx160,zx161,zx162,Nat.reduceAdd,Nat.reduceSub,Nat.reduceMul,Nat.reduceLeDiff,Nat.reduceLT,Nat.reduceEqDiff,Int.reduceAdd,Int.reduceSub,Int.reduceMul,Int.reduceNeg,Int.reduceLT,Int.reduceLE,Int.reduceEq,Int.reduceToNat,Int.cast_ofNat_Int,↓reduceIte, a9, a11, a12, a13, a107, a108, a109]
        refine condP_split (fun hlt => ?_) (fun hlt => ?_)
        · have hi' : i < n := by omega
          have lL := hlK.L
          rw [ht.len] at lL
          have g := hlK.get (k := (i : Int)) (by omega) (by rw [ht.len]; omega)
          obtain ⟨y, ey⟩ : ∃ y, u.get G' (i : Int) = y := ⟨_, rfl⟩
          rw [ey] at g
          have gI := g.I
          rw [ht.row i hi'] at gI
          simp (disch := (first | assumption | omega | (simp only [List.length_append, List.length_cons, List.length_nil]; omega))) only [↓wD,wU,Nat.reduceBEq,zx150,zx151,zx159,zx160,zx161,zx162,Nat.reduceAdd,Nat.reduceSub,Nat.reduceMul,Nat.reduceLeDiff,Nat.reduceLT,Nat.reduceEqDiff,Int.reduceAdd,Int.reduceSub,Int.reduceMul,Int.reduceNeg,Int.reduceLT,Int.reduceLE,Int.reduceEq,Int.reduceToNat,Int.cast_ofNat_Int,↓reduceIte, a9, a11, a12, a13, a107, a108, a109, lL, ey, gI]
          refine Wp.for n (fun j a G2' => G2' = G' ∧ a 9 = .i d ∧ a 11 = .i al ∧ a 12 = .i al ∧ a 13 = gv ∧ a 107 = u ∧ a 108 = .i n ∧ a 109 = .i i ∧ a 19 = .i i ∧ a 114 = y ∧ a 115 = .i n ∧ a 116 = .i j) ?_ ?_
          · clear a9 a11 a12 a13 a107 a108 a109 hlt a
            rintro j a G2' hj ⟨rfl, a9, a11, a12, a13, a107, a108, a109, a19, a114, a115, a116⟩ ih3
            simp (disch := (first | assumption | omega | (simp only [List.length_append, List.length_cons, List.length_nil]; omega))) only [↓wD,wU,Nat.reduceBEq,zx150,zx151,zx159,zx160,zx161,zx162,Nat.reduceAdd,Nat.reduceSub,Nat.reduceMul,Nat.reduceLeDiff,Nat.reduceLT,Nat.reduceEqDiff,Int.reduceAdd,Int.reduceSub,Int.reduceMul,Int.reduceNeg,Int.reduceLT,Int.reduceLE,Int.reduceEq,Int.reduceToNat,Int.cast_ofNat_Int,↓reduceIte, a9, a11, a12, a13, a107, a108, a109, a19, a114, a115, a116]
            refine condP_split (fun hlt => ?_) (fun hlt => ?_)
            · have hj' : j < n := by omega
              have cg := GC_get (F := fun a b => (gotF al ps ws a b : Nat)) hi' (show j < 5 by omega)
              have gle := gotF_le (ps := ps) (ws := ws) (al := al) (i := i) (j := j) hwn
              have heq := hgot i j hi' hj'
              have hen := ht.ent i j hi' hj'
              obtain ⟨x, ex⟩ : ∃ x, gi (gi l (i : Int)) (j : Int) = x := ⟨_, rfl⟩
              obtain ⟨g0, eg0⟩ : ∃ g0, gotF al ps ws i j = g0 := ⟨_, rfl⟩
              rw [ex] at heq hen
              rw [eg0] at heq gle cg
              have m1 := mul_small (x := (g0 : Int)) (y := (d : Int)) (m := 256) (n := 16) (by omega) (by omega) (by omega) (by omega) (by omega)
              have d5 : decide (¬ (g0 : Int) * (d : Int) = x * (al : Int)) = false := decide_eq_false fun q => q heq
              have m2 : 0 ≤ x * (al : Int) ∧ x * (al : Int) ≤ 4096 := by rw [← heq]; omega
              simp (disch := (first | assumption | omega | (simp only [List.length_append, List.length_cons, List.length_nil]; omega))) only [↓wD,wU,Nat.reduceBEq,zx150,zx151,zx159,zx160,zx161,zx162,Nat.reduceAdd,Nat.reduceSub,Nat.reduceMul,Nat.reduceLeDiff,Nat.reduceLT,Nat.reduceEqDiff,Int.reduceAdd,Int.reduceSub,Int.reduceMul,Int.reduceNeg,Int.reduceLT,Int.reduceLE,Int.reduceEq,Int.reduceToNat,Int.cast_ofNat_Int,↓reduceIte, a9, a11, a12, a13, a107, a108, a109, a19, a114, a115, a116, gI, ex, iG, iA, ld_of hc, cg, d5]
              refine (ih3 hj').go ⟨rfl, ?_⟩
              simp (disch := (first | assumption | omega | (simp only [List.length_append, List.length_cons, List.length_nil]; omega))) only [↓wD,wU,Nat.reduceBEq,zx150,zx151,zx159,zx160,zx161,zx162,Nat.reduceAdd,Nat.reduceSub,Nat.reduceMul,Nat.reduceLeDiff,Nat.reduceLT,Nat.reduceEqDiff,Int.reduceAdd,Int.reduceSub,Int.reduceMul,Int.reduceNeg,Int.reduceLT,Int.reduceLE,Int.reduceEq,Int.reduceToNat,Int.cast_ofNat_Int,↓reduceIte, a9, a11, a12, a13, a107, a108, a109, a19, a114, a115, a116]
            · simp (disch := (first | assumption | omega | (simp only [List.length_append, List.length_cons, List.length_nil]; omega))) only [↓wD,wU,Nat.reduceBEq,zx150,zx151,zx159,zx160,zx161,zx162,Nat.reduceAdd,Nat.reduceSub,Nat.reduceMul,Nat.reduceLeDiff,Nat.reduceLT,Nat.reduceEqDiff,Int.reduceAdd,Int.reduceSub,Int.reduceMul,Int.reduceNeg,Int.reduceLT,Int.reduceLE,Int.reduceEq,Int.reduceToNat,Int.cast_ofNat_Int,↓reduceIte, a9, a11, a12, a13, a107, a108, a109, a19, a114, a115, a116]
              refine (ih2 hi').go ⟨rfl, ?_⟩
              simp (disch := (first | assumption | omega | (simp only [List.length_append, List.length_cons, List.length_nil]; omega))) only [↓wD,wU,Nat.reduceBEq,zx150,zx151,zx159,zx160,zx161,zx162,Nat.reduceAdd,Nat.reduceSub,Nat.reduceMul,Nat.reduceLeDiff,Nat.reduceLT,Nat.reduceEqDiff,Int.reduceAdd,Int.reduceSub,Int.reduceMul,Int.reduceNeg,Int.reduceLT,Int.reduceLE,Int.reduceEq,Int.reduceToNat,Int.cast_ofNat_Int,↓reduceIte, a9, a11, a12, a13, a107, a108, a109]
          · simp (disch := (first | assumption | omega | (simp only [List.length_append, List.length_cons, List.length_nil]; omega))) only [↓wD,wU,Nat.reduceBEq,zx150,zx151,zx159,zx160,zx161,zx162,Nat.reduceAdd,Nat.reduceSub,Nat.reduceMul,Nat.reduceLeDiff,Nat.reduceLT,Nat.reduceEqDiff,Int.reduceAdd,Int.reduceSub,Int.reduceMul,Int.reduceNeg,Int.reduceLT,Int.reduceLE,Int.reduceEq,Int.reduceToNat,Int.cast_ofNat_Int,↓reduceIte, a9, a11, a12, a13, a107, a108, a109]
        · have d6 : decide ((al : Int) = (al : Int)) = true := decide_eq_true rfl
          simp (disch := (first | assumption | omega | (simp only [List.length_append, List.length_cons, List.length_nil]; omega))) only [↓wD,wU,Nat.reduceBEq,zx150,zx151,zx159,zx160,zx161,zx162,Nat.reduceAdd,Nat.reduceSub,Nat.reduceMul,Nat.reduceLeDiff,Nat.reduceLT,Nat.reduceEqDiff,Int.reduceAdd,Int.reduceSub,Int.reduceMul,Int.reduceNeg,Int.reduceLT,Int.reduceLE,Int.reduceEq,Int.reduceToNat,Int.cast_ofNat_Int,↓reduceIte, a9, a11, a12, a13, a107, a108, a109, d6]
      · simp (disch := (first | assumption | omega | (simp only [List.length_append, List.length_cons, List.length_nil]; omega))) only [↓wD,wU,Nat.reduceBEq,zx150,zx151,zx159,zx160,zx161,zx162,Nat.reduceAdd,Nat.reduceSub,Nat.reduceMul,Nat.reduceLeDiff,Nat.reduceLT,Nat.reduceEqDiff,Int.reduceAdd,Int.reduceSub,Int.reduceMul,Int.reduceNeg,Int.reduceLT,Int.reduceLE,Int.reduceEq,Int.reduceToNat,Int.cast_ofNat_Int,↓reduceIte, a9, a11, a12, a13]
  · simp (disch := (first | assumption | omega | (simp only [List.length_append, List.length_cons, List.length_nil]; omega))) only [↓wD,wU,Nat.reduceBEq,zx150,zx151,zx159,zx160,zx161,zx162,Nat.reduceAdd,Nat.reduceSub,Nat.reduceMul,Nat.reduceLeDiff,Nat.reduceLT,Nat.reduceEqDiff,Int.reduceAdd,Int.reduceSub,Int.reduceMul,Int.reduceNeg,Int.reduceLT,Int.reduceLE,Int.reduceEq,Int.reduceToNat,Int.cast_ofNat_Int,↓reduceIte, ebG, egv]
    refine ⟨rfl, ?_, Kx.refl _ _⟩
    rw [c0]
    congr 2
end Go.Proofs.Ytmmbakggmlfffaa
namespace Go.Proofs.Ytmmbakggmlfffaa
open Go Go.AM Go.Proofs
theorem chk_all {t : List (List Int)} (h : TabOk t) {s : Nat} (hs : 0 < s) (hn : t.length = (gi t 0).length) (hr : ∀ i : Nat, i < t.length → (gi t (i : Int)).sum = s) (hc : ∀ j : Nat, j < t.length → colPart t t.length j = s) : chkB t.length s t = true := by
  obtain ⟨h1, h3, hrow, htot⟩ := h
  rcases t with _ | ⟨r0, _ | ⟨r1, _ | ⟨r2, _ | ⟨r3, t⟩⟩⟩⟩
  · simp at h1
  · have q0 := hrow r0 (by simp)
    simp only [zx181, List.length_cons, List.length_nil, Nat.zero_add] at hn q0
    rcases r0 with _ | ⟨a, _ | ⟨b, r⟩⟩
    · simp at hn
    · have ha := q0.2.2.2 a (by simp)
      have e := hr 0 (by simp)
      simp [gi] at e htot
      have hs17 : s < 17 := by omega
      have := chk_1 s hs17 hs
      subst e
      exact this
    · simp at hn
  · have q0 := hrow r0 (by simp)
    have q1 := hrow r1 (by simp)
    have e0 := hr 0 (by simp)
    have e1 := hr 1 (by simp)
    have f0 := hc 0 (by simp)
    have f1 := hc 1 (by simp)
    simp only [zx181, List.length_cons, List.length_nil, Nat.zero_add, Nat.reduceAdd] at hn q0 q1
    rcases r0 with _ | ⟨a, _ | ⟨b, _ | ⟨c, r⟩⟩⟩
    · simp at hn
    · simp at hn
    · have l1 := q1.2.2.1
      rcases r1 with _ | ⟨c, _ | ⟨d, _ | ⟨e, r⟩⟩⟩
      · simp at l1
      · simp at l1
      · have ha := q0.2.2.2 a (by simp)
        have hb := q0.2.2.2 b (by simp)
        have hcc := q1.2.2.2 c (by simp)
        have hd := q1.2.2.2 d (by simp)
        simp [gi, colPart] at e0 e1 f0 f1 htot
        obtain ⟨A, rfl⟩ := Int.eq_ofNat_of_zero_le ha.1
        have := chk_2 s (by omega) A (by omega) hs (by omega)
        have eb : b = ((s - A : Nat) : Int) := by omega
        have ec : c = ((s - A : Nat) : Int) := by omega
        have ed : d = (A : Int) := by omega
        subst eb ec ed
        exact this
      · simp at l1
    · simp at hn
  · have q0 := hrow r0 (by simp)
    have q1 := hrow r1 (by simp)
    have q2 := hrow r2 (by simp)
    have e0 := hr 0 (by simp)
    have e1 := hr 1 (by simp)
    have e2 := hr 2 (by simp)
    have f0 := hc 0 (by simp)
    have f1 := hc 1 (by simp)
    have f2 := hc 2 (by simp)
    simp only [zx181, List.length_cons, List.length_nil, Nat.zero_add, Nat.reduceAdd] at hn q0 q1 q2
    have l1 := q1.2.2.1
    have l2 := q2.2.2.1
    rcases r0 with _ | ⟨a, _ | ⟨b, _ | ⟨c, _ | ⟨w, r⟩⟩⟩⟩
    · simp at hn
    · simp at hn
    · simp at hn
    · rcases r1 with _ | ⟨d, _ | ⟨e, _ | ⟨f, _ | ⟨w, r⟩⟩⟩⟩
      · simp at l1
      · simp at l1
      · simp at l1
      · rcases r2 with _ | ⟨g, _ | ⟨h, _ | ⟨i, _ | ⟨w, r⟩⟩⟩⟩
        · simp at l2
        · simp at l2
        · simp at l2
        · have ha := q0.2.2.2 a (by simp)
          have hb := q0.2.2.2 b (by simp)
          have hcc := q0.2.2.2 c (by simp)
          have hd := q1.2.2.2 d (by simp)
          have he := q1.2.2.2 e (by simp)
          have hf := q1.2.2.2 f (by simp)
          have hg := q2.2.2.2 g (by simp)
          have hh := q2.2.2.2 h (by simp)
          have hi := q2.2.2.2 i (by simp)
          simp [gi, colPart] at e0 e1 e2 f0 f1 f2 htot
          obtain ⟨A, rfl⟩ := Int.eq_ofNat_of_zero_le ha.1
          obtain ⟨B, rfl⟩ := Int.eq_ofNat_of_zero_le hb.1
          obtain ⟨D, rfl⟩ := Int.eq_ofNat_of_zero_le hd.1
          obtain ⟨E, rfl⟩ := Int.eq_ofNat_of_zero_le he.1
          have := chk_3 s (by omega) A (by omega) B (by omega) D (by omega) E (by omega) hs (by omega) (by omega) (by omega) (by omega) (by omega)
          have ec : c = ((s - A - B : Nat) : Int) := by omega
          have ef : f = ((s - D - E : Nat) : Int) := by omega
          have eg : g = ((s - A - D : Nat) : Int) := by omega
          have eh : h = ((s - B - E : Nat) : Int) := by omega
          have ei : i = ((A + B + D + E - s : Nat) : Int) := by omega
          subst ec ef eg eh ei
          exact this
        · simp at l2
      · simp at l1
    · simp at hn
  · simp at h3
end Go.Proofs.Ytmmbakggmlfffaa
namespace Go.AM
open Go
/-- numbers behind numbers -/
theorem Sl.extI {lo : Nat} {p q : Nat → Prop} {H : Heap} {v y : AV} {xs ys : List Int} {Q : AV × Heap → Prop} (hx : Sl p H v xs) (hlo : ∀ b, p b → lo ≤ b) (hy : Sl q H y ys) (hb : (xs.length + ys.length) * 8 ≤ 1099511627776)
    (go : ∀ v' H', Sl (fun _ => True) H' v' (xs ++ ys) → Kp (fun b => v.blk ≠ some b) H H' → Q (v', H')) : @optP _ (appendV lo 1 8 v y H) ⟨Q⟩ := by
  have hc := hy.ints
  have hxc := hx.ints
  have hmb : mostBytes = 1099511627776 := by decide
  simp only [appendV, hy.lenA, hc, optP]
  by_cases h0 : ys.length = 0
  · have hy0 : ys = [] := List.length_eq_zero_iff.1 h0
    subst hy0
    refine ⟨(v, H), ?_, go v H (by rw [List.append_nil]; exact hx.weak fun _ _ => trivial) (Kp.refl _ _)⟩
    rcases hx with ⟨rfl, rfl⟩ | ⟨b, o, c, k, rfl, hbl, hk, h1, h2, h3⟩
    · simp [appendA]
    · change appendA lo 1 8 (.s 1 b o xs.length c) [] 0 H = some (.s 1 b o xs.length c, H)
      simp [appendA]
  rcases hx with ⟨rfl, rfl⟩ | ⟨b, o, c, k, rfl, hbl, hk, h1, h2, h3⟩
  · simp only [appendA]
    rw [if_neg h0, if_pos (by rw [hmb]; simpa using hb)]
    refine ⟨_, rfl, go _ _ ?_ (Kp.app _ _ _)⟩
    rw [List.nil_append]
    exact Sl.litI get_last trivial (by omega)
  · change o + xs.length * 1 ≤ k.length at h1
    have e3 : (k.drop o).take (xs.length * 1) = xs.map AV.i := by
      change (if xs.length ≤ xs.length ∧ 1 = 1 then (if xs.length = 0 then some [] else ldn H b o (xs.length * 1)) else none) = _ at hxc
      rw [if_pos ⟨Nat.le_refl _, rfl⟩] at hxc
      by_cases hz : xs.length = 0
      · rw [List.length_eq_zero_iff] at hz; subst hz; simp
      · rw [if_neg hz, ldn_of hk, if_pos h1] at hxc
        exact Option.some.inj hxc
    change ∃ r, appendA lo 1 8 (.s 1 b o xs.length c) _ _ _ = some r ∧ _
    simp only [appendA, ne_eq, not_true_eq_false, if_false]
    rw [if_neg h0, hk]
    simp only []
    rw [if_pos ⟨h1, by rw [hmb]; exact hb⟩, e3]
    have fin : ∀ G : Heap, G.length = H.length → Kp (fun b' => b' ≠ b) H G → Q (.s 1 H.length 0 (xs.length + ys.length) none, G ++ [.cells (xs.map AV.i ++ ys.map AV.i)]) := fun G hl hk2 => by
      refine go _ _ ?_ ((hk2.weak fun b' h e => h (by simp [AV.blk, e])).app' _)
      have := Sl.litI (p := fun _ => True) (c := none) (xs := xs ++ ys) (H := G ++ [.cells (xs.map AV.i ++ ys.map AV.i)]) (b := H.length) (by rw [← hl, List.map_append]; exact get_last) trivial (by simp; omega)
      rwa [List.length_append] at this
    by_cases hcap : c = some xs.length
    · rw [if_pos hcap]
      exact ⟨_, rfl, fin H rfl (Kp.refl _ _)⟩
    · rw [if_neg hcap, if_pos (hlo b hbl)]
      exact ⟨_, rfl, fin _ (by simp) (Kp.set _ _ _)⟩
end Go.AM
namespace Go.Proofs.Ytmmbakggmlfffaa
open Go Go.AM Go.Proofs
theorem adds_ret {H : Heap} : RetP E 8 [] H (.b true) :=
  RetP.closed (n := 300) rfl fn8 rfl rfl (by kernel_rfl)
theorem chk_elim {n s : Nat} {t : List (List Int)} (h : chkB n s t = true) (h1 : 1 ≤ n) (h5 : n ≤ 5) (hs : 0 < s) (hs16 : s ≤ 16) :
    MixP n s (mixF t s) ∧ splB n 16 (partsF (mixF t s) (lcmF (mixF t s).flatten)) (lcmF (mixF t s).flatten : Nat) = true ∧ 1 ≤ (SplO (mixF t s)).length ∧ (SplO (mixF t s)).length ≤ 16 ∧
    CkP n s (lcmF (mixF t s).flatten) (mixF t s) ((SplO (mixF t s)).map (·.1)) (weiF (lcmF (mixF t s).flatten) (SplO (mixF t s))) := by
  unfold chkB at h
  unfold SplO
  simp only [Bool.and_eq_true, List.all_eq_true, decide_eq_true_eq, Nat.ble_eq] at h
  obtain ⟨⟨⟨⟨⟨⟨⟨⟨⟨⟨⟨⟨⟨⟨⟨⟨q1, q2⟩, q3⟩, q4⟩, q5⟩, q6⟩, q7⟩, q8⟩, q9⟩, q10⟩, q11⟩, q12⟩, q13⟩, q14⟩, q15⟩, q16⟩, q17⟩ := h
  have ht := tabB_elim q1
  have htab := tabB_elim q5
  have hrow : ∀ r ∈ mixF t s, r.length = n := by
    intro r hr
    obtain ⟨x, hx, rfl⟩ := List.mem_map.1 hr
    obtain ⟨k, hk, rfl⟩ := List.mem_iff_getElem.1 hx
    have := ht.row k (by rw [← ht.len]; exact hk)
    rw [gi_nat hk] at this
    simpa using this
  have mix : MixP n s (mixF t s) := by
    refine ⟨by have := ht.len; simpa [mixF] using this, h1, h5, hrow, hs, hs16, q2, htab, fun i hi => ?_, fun j hj => ?_⟩
    · exact q6 _ (mem_gi (by rw [htab.len]; exact hi))
    · have := q7 j (List.mem_range.2 hj)
      unfold Go.Proofs.Ytmmbakggmlfffaa.colPart
      rw [List.take_of_length_le (by rw [htab.len]; omega)]
      exact this
  refine ⟨mix, q8, q9, q10, mix, by simp [weiF], by simpa [weiF] using q10, by omega, q4, q11, q12, q15, fun i j hi hj => q16 i (List.mem_range.2 hi) j (List.mem_range.2 hj), Nat.eq_of_beq_eq_true q17⟩
theorem copied_ret {p : Nat → Prop} {H : Heap} {v : AV} {t : List (List Int)} (ht : Sl p H v t) : Ret E 6 [v] (fun _ => False) H (cutT t) := by
  refine Ret.ro rfl fn6 rfl ?_
  unfold f6A
  have hb := ht.bound
  simp (disch := (first | assumption | omega | (simp only [List.length_append, List.length_cons, List.length_nil]; omega))) only [↓wD,wU,Nat.reduceBEq,zx150,zx151,zx159,zx160,zx161,zx162,Nat.reduceAdd,Nat.reduceSub,Nat.reduceMul,Nat.reduceLeDiff,Nat.reduceLT,Nat.reduceEqDiff,Int.reduceAdd,Int.reduceSub,Int.reduceMul,Int.reduceNeg,Int.reduceLT,Int.reduceLE,Int.reduceEq,Int.reduceToNat,Int.cast_ofNat_Int,↓reduceIte, *, ht.L]
  replace ht : Sl (fun b => b < H.length) H v t := ht.low.weak fun _ h => h.2
  refine Wp.for t.length (fun i a H' => ∃ u, a 6 = v ∧ a 7 = .i t.length ∧ a 8 = .i i ∧ a 3 = u ∧ Gr H H' ∧ Acc H.length (fun b => H.length ≤ b) H' u (((t.take i).take 6).map fun r => r.take 6)) ?_ ?_
  · rintro i a H1 hi ⟨u, h6, h7, h8, h3, hg, hu⟩ ih
    simp (disch := (first | assumption | omega | (simp only [List.length_append, List.length_cons, List.length_nil]; omega))) only [↓wD,wU,Nat.reduceBEq,zx150,zx151,zx159,zx160,zx161,zx162,Nat.reduceAdd,Nat.reduceSub,Nat.reduceMul,Nat.reduceLeDiff,Nat.reduceLT,Nat.reduceEqDiff,Int.reduceAdd,Int.reduceSub,Int.reduceMul,Int.reduceNeg,Int.reduceLT,Int.reduceLE,Int.reduceEq,Int.reduceToNat,Int.cast_ofNat_Int,↓reduceIte, *]
    refine condP_split (fun hlt => ?_) (fun hlt => ?_)
    · have hi' : i < t.length := by omega
      have ht1 := ht.gr hg
      have g := ht1.get (k := (i : Int)) (by omega) (by omega)
      have gb := g.bound
      simp (disch := (first | assumption | omega | (simp only [List.length_append, List.length_cons, List.length_nil]; omega))) only [↓wD,wU,Nat.reduceBEq,zx150,zx151,zx159,zx160,zx161,zx162,Nat.reduceAdd,Nat.reduceSub,Nat.reduceMul,Nat.reduceLeDiff,Nat.reduceLT,Nat.reduceEqDiff,Int.reduceAdd,Int.reduceSub,Int.reduceMul,Int.reduceNeg,Int.reduceLT,Int.reduceLE,Int.reduceEq,Int.reduceToNat,Int.cast_ofNat_Int,↓reduceIte, *, ht1.L]
      refine condP_split (fun h6 => ?_) (fun h6 => ?_)
      · obtain ⟨xs, exs⟩ : ∃ xs, gi t (i : Int) = xs := ⟨_, rfl⟩
        rw [exs] at g gb
        have hs : slV 1 (v.get H1 (i : Int)) none (some (.i (min (xs.length : Int) 6))) none = some ((v.get H1 (i : Int)).cut 0 (min xs.length 6)) := by
          refine g.slV_lh none _ (b := min xs.length 6) ?_ (bound_none (by omega)) (by omega) (by omega)
          rw [bound_some (by omega) (by omega)]
          congr 1
          omega
        have hc := g.cut (a := 0) (b := min xs.length 6) (by omega) (by omega)
        have e : (xs.drop 0).take (min xs.length 6 - 0) = xs.take 6 := by
          rw [List.drop_zero, Nat.sub_zero]
          by_cases hl : xs.length ≤ 6
          · rw [List.take_of_length_le (by omega), List.take_of_length_le hl]
          · congr 1; omega
        rw [e] at hc
        have gl := g.I.1
        simp (disch := (first | assumption | omega | (simp only [List.length_append, List.length_cons, List.length_nil]; omega))) only [↓wD,wU,Nat.reduceBEq,zx150,zx151,zx159,zx160,zx161,zx162,Nat.reduceAdd,Nat.reduceSub,Nat.reduceMul,Nat.reduceLeDiff,Nat.reduceLT,Nat.reduceEqDiff,Int.reduceAdd,Int.reduceSub,Int.reduceMul,Int.reduceNeg,Int.reduceLT,Int.reduceLE,Int.reduceEq,Int.reduceToNat,Int.cast_ofNat_Int,↓reduceIte, *, hs, gl]
        refine (clone_ret hc (by rw [List.length_take]; omega)).toF fun y H2 hg2 hy => ?_
        have hl2 := hg2.1
        simp (disch := (first | assumption | omega | (simp only [List.length_append, List.length_cons, List.length_nil]; omega))) only [↓wD,wU,Nat.reduceBEq,zx150,zx151,zx159,zx160,zx161,zx162,Nat.reduceAdd,Nat.reduceSub,Nat.reduceMul,Nat.reduceLeDiff,Nat.reduceLT,Nat.reduceEqDiff,Int.reduceAdd,Int.reduceSub,Int.reduceMul,Int.reduceNeg,Int.reduceLT,Int.reduceLE,Int.reduceEq,Int.reduceToNat,Int.cast_ofNat_Int,↓reduceIte, *, hy.cellsV]
        refine (hu.gr hg2).pushL (Nat.le_refl _) (by have := hg.1; omega) hy (fun b hb => ⟨by have := hg.1; omega, fun e => by have := hu.blk_lt e; omega⟩) ?_ fun u' H3 hu' hk3 hl3' _ => ?_
        · simp; omega
        · simp (disch := (first | assumption | omega | (simp only [List.length_append, List.length_cons, List.length_nil]; omega))) only [↓wD,wU,Nat.reduceBEq,zx150,zx151,zx159,zx160,zx161,zx162,Nat.reduceAdd,Nat.reduceSub,Nat.reduceMul,Nat.reduceLeDiff,Nat.reduceLT,Nat.reduceEqDiff,Int.reduceAdd,Int.reduceSub,Int.reduceMul,Int.reduceNeg,Int.reduceLT,Int.reduceLE,Int.reduceEq,Int.reduceToNat,Int.cast_ofNat_Int,↓reduceIte, *]
          refine (ih hi').go ⟨u', ?_⟩
          simp (disch := (first | assumption | omega | (simp only [List.length_append, List.length_cons, List.length_nil]; omega))) only [↓wD,wU,Nat.reduceBEq,zx150,zx151,zx159,zx160,zx161,zx162,Nat.reduceAdd,Nat.reduceSub,Nat.reduceMul,Nat.reduceLeDiff,Nat.reduceLT,Nat.reduceEqDiff,Int.reduceAdd,Int.reduceSub,Int.reduceMul,Int.reduceNeg,Int.reduceLT,Int.reduceLE,Int.reduceEq,Int.reduceToNat,Int.cast_ofNat_Int,↓reduceIte, *]
          refine ⟨((hg.trans hg2).push (hu.gr hg2) (Nat.le_refl _) hk3), ?_⟩
          have e : ((t.take (i + 1)).take 6) = (t.take i).take 6 ++ [gi t i] := by
            rw [List.take_take, List.take_take, show min 6 (i + 1) = i + 1 by omega, show min 6 i = i by omega, take_gi hi']
          rw [e, List.map_append, exs]; exact hu'
      · simp (disch := (first | assumption | omega | (simp only [List.length_append, List.length_cons, List.length_nil]; omega))) only [↓wD,wU,Nat.reduceBEq,zx150,zx151,zx159,zx160,zx161,zx162,Nat.reduceAdd,Nat.reduceSub,Nat.reduceMul,Nat.reduceLeDiff,Nat.reduceLT,Nat.reduceEqDiff,Int.reduceAdd,Int.reduceSub,Int.reduceMul,Int.reduceNeg,Int.reduceLT,Int.reduceLE,Int.reduceEq,Int.reduceToNat,Int.cast_ofNat_Int,↓reduceIte, *]
        refine (ih hi').go ⟨u, ?_⟩
        simp (disch := (first | assumption | omega | (simp only [List.length_append, List.length_cons, List.length_nil]; omega))) only [↓wD,wU,Nat.reduceBEq,zx150,zx151,zx159,zx160,zx161,zx162,Nat.reduceAdd,Nat.reduceSub,Nat.reduceMul,Nat.reduceLeDiff,Nat.reduceLT,Nat.reduceEqDiff,Int.reduceAdd,Int.reduceSub,Int.reduceMul,Int.reduceNeg,Int.reduceLT,Int.reduceLE,Int.reduceEq,Int.reduceToNat,Int.cast_ofNat_Int,↓reduceIte, *]
        have e : ((t.take (i + 1)).take 6) = (t.take i).take 6 := by
          rw [List.take_take, List.take_take]; congr 1; omega
        rw [e]; first | exact hu | exact ⟨hg, hu⟩
    · have e : i = t.length := by omega
      subst e
      simp (disch := (first | assumption | omega | (simp only [List.length_append, List.length_cons, List.length_nil]; omega))) only [↓wD,wU,Nat.reduceBEq,zx150,zx151,zx159,zx160,zx161,zx162,Nat.reduceAdd,Nat.reduceSub,Nat.reduceMul,Nat.reduceLeDiff,Nat.reduceLT,Nat.reduceEqDiff,Int.reduceAdd,Int.reduceSub,Int.reduceMul,Int.reduceNeg,Int.reduceLT,Int.reduceLE,Int.reduceEq,Int.reduceToNat,Int.cast_ofNat_Int,↓reduceIte, *]
      rw [List.take_length] at hu
      exact hu.sl.weak fun b h => .inr (by omega)
  · simp (disch := (first | assumption | omega | (simp only [List.length_append, List.length_cons, List.length_nil]; omega))) only [↓wD,wU,Nat.reduceBEq,zx150,zx151,zx159,zx160,zx161,zx162,Nat.reduceAdd,Nat.reduceSub,Nat.reduceMul,Nat.reduceLeDiff,Nat.reduceLT,Nat.reduceEqDiff,Int.reduceAdd,Int.reduceSub,Int.reduceMul,Int.reduceNeg,Int.reduceLT,Int.reduceLE,Int.reduceEq,Int.reduceToNat,Int.cast_ofNat_Int,↓reduceIte, *]
    exact ⟨.nils, rfl, Gr.refl _, Acc.nil⟩
theorem cloneF_ret {p : Nat → Prop} {H : Heap} {v : AV} {xs : List (Int × Int)} (hx : Sl p H v xs) (hs : xs.length * 16 ≤ 1099511627776) : Ret E 10 [v] (fun _ => False) H xs := by
  refine Ret.ro rfl fn10 rfl ?_
  unfold f10A
  have main : ∀ {Q : AV × Heap → Prop}, (∀ v' H', Sl (fun b => H.length ≤ b) H' v' xs → Q (v', H')) → @optP _ (appendV H.length 2 16 (.s 2 H.length 0 0 (some 0)) v (H ++ [.cells []])) ⟨Q⟩ := fun {Q} go => by
    have ha : Acc H.length (fun _ => True) (H ++ [.cells []]) (.s 2 H.length 0 0 (some 0)) ([] : List (Int × Int)) := Acc.fresh0 (α := Int × Int) (Nat.le_refl _)
    refine ha.extend (q := fun b => b < H.length) (Nat.le_refl _) (by simp) ((hx.low.app [.cells []]).weak fun b h => h.2) (fun b hb => ⟨trivial, ?_⟩) (by simpa using hs) (by omega) fun v' H' h' _ => go _ _ ?_
    · intro e; simp only [AV.blk, Option.some.injEq] at e; omega
    · rw [List.nil_append] at h'
      rcases h' with h' | ⟨b, o, c, k, e, hb, hk, h1, h2, h3⟩
      · exact .inl h'
      · exact .inr ⟨b, o, c, k, e, hb, hk, h1, h2, fun i hi => by obtain ⟨c1, c2, e1, r1, r2⟩ := h3 i hi; exact ⟨c1, c2, e1, r1, r2⟩⟩
  rcases hx with ⟨rfl, rfl⟩ | ⟨b, o, c, k, e, hb, hk, h1, h2, h3⟩
  · simp (disch := (first | assumption | omega | (simp only [List.length_append, List.length_cons, List.length_nil]; omega))) only [↓wD,wU,Nat.reduceBEq,zx150,zx151,zx159,zx160,zx161,zx162,Nat.reduceAdd,Nat.reduceSub,Nat.reduceMul,Nat.reduceLeDiff,Nat.reduceLT,Nat.reduceEqDiff,Int.reduceAdd,Int.reduceSub,Int.reduceMul,Int.reduceNeg,Int.reduceLT,Int.reduceLE,Int.reduceEq,Int.reduceToNat,Int.cast_ofNat_Int,↓reduceIte, *]
    exact Sl.nil
  · subst e
    simp (disch := (first | assumption | omega | (simp only [List.length_append, List.length_cons, List.length_nil]; omega))) only [↓wD,wU,Nat.reduceBEq,zx150,zx151,zx159,zx160,zx161,zx162,Nat.reduceAdd,Nat.reduceSub,Nat.reduceMul,Nat.reduceLeDiff,Nat.reduceLT,Nat.reduceEqDiff,Int.reduceAdd,Int.reduceSub,Int.reduceMul,Int.reduceNeg,Int.reduceLT,Int.reduceLE,Int.reduceEq,Int.reduceToNat,Int.cast_ofNat_Int,↓reduceIte, *]
    refine main fun v' H' h' => ?_
    simp (disch := (first | assumption | omega | (simp only [List.length_append, List.length_cons, List.length_nil]; omega))) only [↓wD,wU,Nat.reduceBEq,zx150,zx151,zx159,zx160,zx161,zx162,Nat.reduceAdd,Nat.reduceSub,Nat.reduceMul,Nat.reduceLeDiff,Nat.reduceLT,Nat.reduceEqDiff,Int.reduceAdd,Int.reduceSub,Int.reduceMul,Int.reduceNeg,Int.reduceLT,Int.reduceLE,Int.reduceEq,Int.reduceToNat,Int.cast_ofNat_Int,↓reduceIte, *]
    exact h'.weak fun _ h => .inr h
end Go.Proofs.Ytmmbakggmlfffaa
