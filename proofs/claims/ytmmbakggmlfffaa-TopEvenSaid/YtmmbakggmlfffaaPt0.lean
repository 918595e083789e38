/- What the law needs: what its functions do, and the laws on lists behind it. No condition. -/
import Derived.Test.YtmmbakggmlfffaaPi
import Derived.Test.YtmmbakggmlfffaaBo
import Derived.Laws.StructEq
import Derived.KernelRfl
import Derived.WalkKit
import Derived.ProofKit
import Derived.OpenShut
import Derived.ShutString
import Derived.ChangeOld
import Derived.Below
import Derived.SizedLaws
import Derived.Carry
set_option linter.unusedSimpArgs false
set_option linter.unusedVariables false
namespace Go.Proofs.Ytmmbakggmlfffaa
open Go Go.AM Go.Proofs
theorem clone_ret {p : Nat → Prop} {H : Heap} {v : AV} {xs : List Int} (hx : Sl p H v xs) (hs : xs.length * 8 ≤ 1099511627776) : Ret E 18 [v] (fun _ => False) H xs := by
  refine Ret.ro rfl fn18 rfl ?_
  unfold f18A
  have main : ∀ {Q : AV × Heap → Prop}, (∀ v' H', Sl (fun b => H.length ≤ b) H' v' xs → Q (v', H')) → @optP _ (appendV H.length 1 8 (.s 1 H.length 0 0 (some 0)) v (H ++ [.cells []])) ⟨Q⟩ := fun {Q} go => by
    have ha : Acc H.length (fun _ => True) (H ++ [.cells []]) (.s 1 H.length 0 0 (some 0)) ([] : List Int) := Acc.fresh0 (Nat.le_refl _)
    refine ha.extend (q := fun b => b < H.length) (Nat.le_refl _) (by simp) ((hx.low.app [.cells []]).weak fun b h => h.2) (fun b hb => ⟨trivial, ?_⟩) (by simpa using hs) (by omega) fun v' H' h' _ => go _ _ ?_
    · intro e; simp only [AV.blk, Option.some.injEq] at e; omega
    · rw [List.nil_append] at h'
      rcases h' with h' | ⟨b, o, c, k, e, hb, hk, h1, h2, h3⟩
      · exact .inl h'
      · exact .inr ⟨b, o, c, k, e, hb, hk, h1, h2, h3⟩
  rcases hx with ⟨rfl, rfl⟩ | ⟨b, o, c, k, e, hb, hk, h1, h2, h3⟩
  · simp (disch := (first | assumption | omega | (simp only [List.length_append, List.length_cons, List.length_nil]; omega))) only [↓wD,wU,Nat.reduceBEq,zx150,zx151,zx159,zx160,zx161,zx162,Nat.reduceAdd,Nat.reduceSub,Nat.reduceMul,Nat.reduceLeDiff,Nat.reduceLT,Nat.reduceEqDiff,Int.reduceAdd,Int.reduceSub,Int.reduceMul,Int.reduceNeg,Int.reduceLT,Int.reduceLE,Int.reduceEq,Int.reduceToNat,Int.cast_ofNat_Int,↓reduceIte, *]
    exact Sl.nil
  · subst e
    simp (disch := (first | assumption | omega | (simp only [List.length_append, List.length_cons, List.length_nil]; omega))) only [↓wD,wU,Nat.reduceBEq,zx150,zx151,zx159,zx160,zx161,zx162,Nat.reduceAdd,Nat.reduceSub,Nat.reduceMul,Nat.reduceLeDiff,Nat.reduceLT,Nat.reduceEqDiff,Int.reduceAdd,Int.reduceSub,Int.reduceMul,Int.reduceNeg,Int.reduceLT,Int.reduceLE,Int.reduceEq,Int.reduceToNat,Int.cast_ofNat_Int,↓reduceIte, *]
    refine main fun v' H' h' => ?_
    simp (disch := (first | assumption | omega | (simp only [List.length_append, List.length_cons, List.length_nil]; omega))) only [↓wD,wU,Nat.reduceBEq,zx150,zx151,zx159,zx160,zx161,zx162,Nat.reduceAdd,Nat.reduceSub,Nat.reduceMul,Nat.reduceLeDiff,Nat.reduceLT,Nat.reduceEqDiff,Int.reduceAdd,Int.reduceSub,Int.reduceMul,Int.reduceNeg,Int.reduceLT,Int.reduceLE,Int.reduceEq,Int.reduceToNat,Int.cast_ofNat_Int,↓reduceIte, *]
    exact h'.weak fun _ h => .inr h
end Go.Proofs.Ytmmbakggmlfffaa
namespace Go.Proofs.Ytmmbakggmlfffaa
open Go Go.AM Go.Proofs
def OkN (xs : List Int) : Prop := ∀ x ∈ xs, 0 ≤ x ∧ x ≤ 16
instance (xs : List Int) : Decidable (OkN xs) := by unfold OkN; infer_instance
def RowOk (n : Nat) (r : List Int) : Prop := 1 ≤ r.length ∧ r.length ≤ 3 ∧ r.length = n ∧ OkN r
def TabOk (t : List (List Int)) : Prop := 1 ≤ t.length ∧ t.length ≤ 3 ∧ (∀ r ∈ t, RowOk (gi t 0).length r) ∧ (t.map List.sum).sum ≤ 16
instance (n : Nat) (r : List Int) : Decidable (RowOk n r) := by unfold RowOk; infer_instance
instance (t : List (List Int)) : Decidable (TabOk t) := by unfold TabOk; infer_instance
theorem isSums_ret {p : Nat → Prop} {H : Heap} {v : AV} {xs : List Int} (hx : Sl p H v xs) (hl : xs.length ≤ 100) : RetP E 39 [v] H (.b (decide (OkN xs ∧ xs.sum ≤ 16))) := by
  refine RetP.ro rfl fn39 rfl rfl ?_
  unfold f39A
  simp (disch := (first | assumption | omega | (simp only [List.length_append, List.length_cons, List.length_nil]; omega))) only [↓wD,wU,Nat.reduceBEq,zx150,zx151,zx159,zx160,zx161,zx162,Nat.reduceAdd,Nat.reduceSub,Nat.reduceMul,Nat.reduceLeDiff,Nat.reduceLT,Nat.reduceEqDiff,Int.reduceAdd,Int.reduceSub,Int.reduceMul,Int.reduceNeg,Int.reduceLT,Int.reduceLE,Int.reduceEq,Int.reduceToNat,Int.cast_ofNat_Int,↓reduceIte, *, hx.I]
  refine Wp.for xs.length (fun i a H' => H' = H ∧ a 6 = v ∧ a 7 = .i xs.length ∧ a 8 = .i i ∧ a 3 = .i (xs.take i).sum ∧ OkN (xs.take i)) ?_ ?_
  · rintro i a H' hi ⟨rfl, h6, h7, h8, h3, hh⟩ ih
    have hb := sum_bound hh
    have hb2 : (xs.take i).length ≤ 100 := by rw [List.length_take]; omega
    simp (disch := (first | assumption | omega | (simp only [List.length_append, List.length_cons, List.length_nil]; omega))) only [↓wD,wU,Nat.reduceBEq,zx150,zx151,zx159,zx160,zx161,zx162,Nat.reduceAdd,Nat.reduceSub,Nat.reduceMul,Nat.reduceLeDiff,Nat.reduceLT,Nat.reduceEqDiff,Int.reduceAdd,Int.reduceSub,Int.reduceMul,Int.reduceNeg,Int.reduceLT,Int.reduceLE,Int.reduceEq,Int.reduceToNat,Int.cast_ofNat_Int,↓reduceIte, *]
    refine condP_split (fun hlt => ?_) (fun hlt => ?_)
    · have hi' : i < xs.length := by omega
      (repeat' (first | refine condP_split (fun _ => ?_) (fun _ => ?_) | refine guardP_split (fun _ => ?_) (fun _ => ?_) | refine guardP_splitF (fun _ => ?_) (fun _ => ?_) | (simp (disch := (first | assumption | omega | (simp only [List.length_append, List.length_cons, List.length_nil]; omega))) only [↓wD,wU,Nat.reduceBEq,zx150,zx151,zx159,zx160,zx161,zx162,Nat.reduceAdd,Nat.reduceSub,Nat.reduceMul,Nat.reduceLeDiff,Nat.reduceLT,Nat.reduceEqDiff,Int.reduceAdd,Int.reduceSub,Int.reduceMul,Int.reduceNeg,Int.reduceLT,Int.reduceLE,Int.reduceEq,Int.reduceToNat,Int.cast_ofNat_Int,↓reduceIte, *, hx.I]))) <;> first
        | exact avb_f fun h => by have := h.1 _ (mem_gi hi'); omega
        | skip
      refine (ih hi').go ⟨rfl, ?_⟩
      have hg : 0 ≤ gi xs i ∧ gi xs i ≤ 16 := by omega
      rw [sum_take hi']
      simp (disch := (first | assumption | omega | (simp only [List.length_append, List.length_cons, List.length_nil]; omega))) only [↓wD,wU,Nat.reduceBEq,zx150,zx151,zx159,zx160,zx161,zx162,Nat.reduceAdd,Nat.reduceSub,Nat.reduceMul,Nat.reduceLeDiff,Nat.reduceLT,Nat.reduceEqDiff,Int.reduceAdd,Int.reduceSub,Int.reduceMul,Int.reduceNeg,Int.reduceLT,Int.reduceLE,Int.reduceEq,Int.reduceToNat,Int.cast_ofNat_Int,↓reduceIte, *]
      exact mem_take_gi hh hi' hg
    · simp (disch := (first | assumption | omega | (simp only [List.length_append, List.length_cons, List.length_nil]; omega))) only [↓wD,wU,Nat.reduceBEq,zx150,zx151,zx159,zx160,zx161,zx162,Nat.reduceAdd,Nat.reduceSub,Nat.reduceMul,Nat.reduceLeDiff,Nat.reduceLT,Nat.reduceEqDiff,Int.reduceAdd,Int.reduceSub,Int.reduceMul,Int.reduceNeg,Int.reduceLT,Int.reduceLE,Int.reduceEq,Int.reduceToNat,Int.cast_ofNat_Int,↓reduceIte, *]
      have e : xs.take i = xs := List.take_of_length_le (by omega)
      rw [e] at hh ⊢
      simp [hh]
  · (simp (disch := (first | assumption | omega | (simp only [List.length_append, List.length_cons, List.length_nil]; omega))) only [↓wD,wU,Nat.reduceBEq,zx150,zx151,zx159,zx160,zx161,zx162,Nat.reduceAdd,Nat.reduceSub,Nat.reduceMul,Nat.reduceLeDiff,Nat.reduceLT,Nat.reduceEqDiff,Int.reduceAdd,Int.reduceSub,Int.reduceMul,Int.reduceNeg,Int.reduceLT,Int.reduceLE,Int.reduceEq,Int.reduceToNat,Int.cast_ofNat_Int,↓reduceIte, *]) <;> simp [OkN]
theorem sum_nonneg {xs : List Int} (h : ∀ x ∈ xs, 0 ≤ x) : 0 ≤ xs.sum := by
  induction xs with
  | nil => simp
  | cons x xs ih => have := h x (by simp); have := ih fun y hy => h y (by simp [hy]); simp only [List.sum_cons]; omega
theorem le_sum {xs : List Int} (h : ∀ x ∈ xs, 0 ≤ x) {x : Int} (hx : x ∈ xs) : x ≤ xs.sum := by
  induction xs with
  | nil => cases hx
  | cons y xs ih =>
    have h0 := h y (by simp)
    have h1 := sum_nonneg fun z hz => h z (List.mem_cons_of_mem _ hz)
    simp only [List.sum_cons]
    rcases List.mem_cons.1 hx with rfl | hx
    · omega
    · have := ih (fun z hz => h z (List.mem_cons_of_mem _ hz)) hx; omega
theorem row_le_total {t : List (List Int)} (h : TabOk t) {r : List Int} (hr : r ∈ t) : r.sum ≤ 16 := by
  have h1 : ∀ x ∈ t.map List.sum, 0 ≤ x := by
    intro x hx
    obtain ⟨s, hs, rfl⟩ := List.mem_map.1 hx
    exact sum_nonneg fun y hy => ((h.2.2.1 s hs).2.2.2 y hy).1
  have := le_sum h1 (List.mem_map_of_mem hr)
  have := h.2.2.2
  omega
theorem valid_ret {p : Nat → Prop} {H : Heap} {v : AV} {t : List (List Int)} (ht : Sl p H v t) : RetP E 21 [v] H (.b (decide (TabOk t))) := by
  refine RetP.ro rfl fn21 rfl rfl ?_
  unfold f21A
  (repeat' (first | refine condP_split (fun _ => ?_) (fun _ => ?_) | refine guardP_split (fun _ => ?_) (fun _ => ?_) | refine guardP_splitF (fun _ => ?_) (fun _ => ?_) | (simp (disch := (first | assumption | omega | (simp only [List.length_append, List.length_cons, List.length_nil]; omega))) only [↓wD,wU,Nat.reduceBEq,zx150,zx151,zx159,zx160,zx161,zx162,Nat.reduceAdd,Nat.reduceSub,Nat.reduceMul,Nat.reduceLeDiff,Nat.reduceLT,Nat.reduceEqDiff,Int.reduceAdd,Int.reduceSub,Int.reduceMul,Int.reduceNeg,Int.reduceLT,Int.reduceLE,Int.reduceEq,Int.reduceToNat,Int.cast_ofNat_Int,↓reduceIte, *, ht.L]))) <;> first
    | exact avb_f fun h => by have := h.1; have := h.2.1; omega
    | skip
  refine Wp.for t.length (fun i a H' => H' = H ∧ a 0 = v ∧ a 16 = v ∧ a 17 = .i t.length ∧ a 18 = .i i ∧ a 3 = .i ((t.take i).map List.sum).sum ∧ (∀ r ∈ t.take i, RowOk (gi t 0).length r) ∧ 0 ≤ ((t.take i).map List.sum).sum ∧ ((t.take i).map List.sum).sum ≤ i * 48) ?_ ?_
  · rintro i a H' hi ⟨rfl, h0, h16, h17, h18, h3, hh, hp, hq⟩ ih
    simp (disch := (first | assumption | omega | (simp only [List.length_append, List.length_cons, List.length_nil]; omega))) only [↓wD,wU,Nat.reduceBEq,zx150,zx151,zx159,zx160,zx161,zx162,Nat.reduceAdd,Nat.reduceSub,Nat.reduceMul,Nat.reduceLeDiff,Nat.reduceLT,Nat.reduceEqDiff,Int.reduceAdd,Int.reduceSub,Int.reduceMul,Int.reduceNeg,Int.reduceLT,Int.reduceLE,Int.reduceEq,Int.reduceToNat,Int.cast_ofNat_Int,↓reduceIte, *]
    refine condP_split (fun hlt => ?_) (fun hlt => ?_)
    · have hi' : i < t.length := by omega
      have g := ht.get (k := (i : Int)) (by omega) (by omega)
      have g0 := ht.get (k := (0 : Int)) (by omega) (by omega)
      by_cases hr : RowOk (gi t 0).length (gi t i)
      · obtain ⟨hr1, hr2, hr3, hr4⟩ := hr
        have hgb := sum_bound hr4
        (repeat' (first | refine condP_split (fun _ => ?_) (fun _ => ?_) | refine guardP_split (fun _ => ?_) (fun _ => ?_) | refine guardP_splitF (fun _ => ?_) (fun _ => ?_) | (simp (disch := (first | assumption | omega | (simp only [List.length_append, List.length_cons, List.length_nil]; omega))) only [↓wD,wU,Nat.reduceBEq,zx150,zx151,zx159,zx160,zx161,zx162,Nat.reduceAdd,Nat.reduceSub,Nat.reduceMul,Nat.reduceLeDiff,Nat.reduceLT,Nat.reduceEqDiff,Int.reduceAdd,Int.reduceSub,Int.reduceMul,Int.reduceNeg,Int.reduceLT,Int.reduceLE,Int.reduceEq,Int.reduceToNat,Int.cast_ofNat_Int,↓reduceIte, *, ht.L, g.I, g0.I, (isSums_ret g (by omega)).call])))
        · exact avb_f fun h => by have := row_le_total h (mem_gi hi'); simp_all
        refine Wp.for (gi t i).length (fun j a H'' => H'' = H' ∧ a 0 = v ∧ a 16 = v ∧ a 17 = .i t.length ∧ a 18 = .i i ∧ a 44 = v.get H' i ∧ a 45 = .i (gi t i).length ∧ a 46 = .i j ∧ a 3 = .i (((t.take i).map List.sum).sum + ((gi t i).take j).sum)) ?_ ?_
        · clear h0 h16 h17 h18 h3
          rintro j a H' hj ⟨rfl, h0, h16, h17, h18, h44, h45, h46, h3⟩ ih2
          have hb1 : OkN ((gi t i).take j) := fun x hx => hr4 x (List.mem_of_mem_take hx)
          have hb2 := sum_bound hb1
          have hb3 : ((gi t i).take j).length ≤ 3 := by rw [List.length_take]; omega
          simp (disch := (first | assumption | omega | (simp only [List.length_append, List.length_cons, List.length_nil]; omega))) only [↓wD,wU,Nat.reduceBEq,zx150,zx151,zx159,zx160,zx161,zx162,Nat.reduceAdd,Nat.reduceSub,Nat.reduceMul,Nat.reduceLeDiff,Nat.reduceLT,Nat.reduceEqDiff,Int.reduceAdd,Int.reduceSub,Int.reduceMul,Int.reduceNeg,Int.reduceLT,Int.reduceLE,Int.reduceEq,Int.reduceToNat,Int.cast_ofNat_Int,↓reduceIte, *]
          refine condP_split (fun hlt => ?_) (fun hlt => ?_)
          · have hj' : j < (gi t i).length := by omega
            have hg := hr4 _ (mem_gi hj')
            simp (disch := (first | assumption | omega | (simp only [List.length_append, List.length_cons, List.length_nil]; omega))) only [↓wD,wU,Nat.reduceBEq,zx150,zx151,zx159,zx160,zx161,zx162,Nat.reduceAdd,Nat.reduceSub,Nat.reduceMul,Nat.reduceLeDiff,Nat.reduceLT,Nat.reduceEqDiff,Int.reduceAdd,Int.reduceSub,Int.reduceMul,Int.reduceNeg,Int.reduceLT,Int.reduceLE,Int.reduceEq,Int.reduceToNat,Int.cast_ofNat_Int,↓reduceIte, *, g.I]
            refine (ih2 hj').go ⟨rfl, ?_⟩
            rw [sum_take hj']
            simp (disch := (first | assumption | omega | (simp only [List.length_append, List.length_cons, List.length_nil]; omega))) only [↓wD,wU,Nat.reduceBEq,zx150,zx151,zx159,zx160,zx161,zx162,Nat.reduceAdd,Nat.reduceSub,Nat.reduceMul,Nat.reduceLeDiff,Nat.reduceLT,Nat.reduceEqDiff,Int.reduceAdd,Int.reduceSub,Int.reduceMul,Int.reduceNeg,Int.reduceLT,Int.reduceLE,Int.reduceEq,Int.reduceToNat,Int.cast_ofNat_Int,↓reduceIte, *]
            rw [Int.add_assoc]
          · simp (disch := (first | assumption | omega | (simp only [List.length_append, List.length_cons, List.length_nil]; omega))) only [↓wD,wU,Nat.reduceBEq,zx150,zx151,zx159,zx160,zx161,zx162,Nat.reduceAdd,Nat.reduceSub,Nat.reduceMul,Nat.reduceLeDiff,Nat.reduceLT,Nat.reduceEqDiff,Int.reduceAdd,Int.reduceSub,Int.reduceMul,Int.reduceNeg,Int.reduceLT,Int.reduceLE,Int.reduceEq,Int.reduceToNat,Int.cast_ofNat_Int,↓reduceIte, *]
            have e : ((gi t i).take j).sum = (gi t i).sum := sum_take_all (by omega)
            refine (ih hi').go ⟨rfl, ?_⟩
            have e2 : ((t.take (i + 1)).map List.sum).sum = ((t.take i).map List.sum).sum + (gi t i).sum := by rw [take_gi hi', List.map_append, List.sum_append]; simp
            rw [e2, ← e]
            simp (disch := (first | assumption | omega | (simp only [List.length_append, List.length_cons, List.length_nil]; omega))) only [↓wD,wU,Nat.reduceBEq,zx150,zx151,zx159,zx160,zx161,zx162,Nat.reduceAdd,Nat.reduceSub,Nat.reduceMul,Nat.reduceLeDiff,Nat.reduceLT,Nat.reduceEqDiff,Int.reduceAdd,Int.reduceSub,Int.reduceMul,Int.reduceNeg,Int.reduceLT,Int.reduceLE,Int.reduceEq,Int.reduceToNat,Int.cast_ofNat_Int,↓reduceIte, *]
            exact ⟨mem_take_gi hh hi' ⟨hr1, hr2, hr3, hr4⟩, by omega, by omega⟩
        · (simp (disch := (first | assumption | omega | (simp only [List.length_append, List.length_cons, List.length_nil]; omega))) only [↓wD,wU,Nat.reduceBEq,zx150,zx151,zx159,zx160,zx161,zx162,Nat.reduceAdd,Nat.reduceSub,Nat.reduceMul,Nat.reduceLeDiff,Nat.reduceLT,Nat.reduceEqDiff,Int.reduceAdd,Int.reduceSub,Int.reduceMul,Int.reduceNeg,Int.reduceLT,Int.reduceLE,Int.reduceEq,Int.reduceToNat,Int.cast_ofNat_Int,↓reduceIte, *]) <;> simp
      · have hr' : ¬ TabOk t := fun h => hr (h.2.2.1 _ (mem_gi hi'))
        (repeat' (first | refine condP_split (fun _ => ?_) (fun _ => ?_) | refine guardP_split (fun _ => ?_) (fun _ => ?_) | refine guardP_splitF (fun _ => ?_) (fun _ => ?_) | (simp (disch := (first | assumption | omega | (simp only [List.length_append, List.length_cons, List.length_nil]; omega))) only [↓wD,wU,Nat.reduceBEq,zx150,zx151,zx159,zx160,zx161,zx162,Nat.reduceAdd,Nat.reduceSub,Nat.reduceMul,Nat.reduceLeDiff,Nat.reduceLT,Nat.reduceEqDiff,Int.reduceAdd,Int.reduceSub,Int.reduceMul,Int.reduceNeg,Int.reduceLT,Int.reduceLE,Int.reduceEq,Int.reduceToNat,Int.cast_ofNat_Int,↓reduceIte, *, ht.L, g.I, g0.I]))) <;> first
          | exact avb_f hr'
          | skip
        (repeat' (first | refine condP_split (fun _ => ?_) (fun _ => ?_) | refine guardP_split (fun _ => ?_) (fun _ => ?_) | refine guardP_splitF (fun _ => ?_) (fun _ => ?_) | (simp (disch := (first | assumption | omega | (simp only [List.length_append, List.length_cons, List.length_nil]; omega))) only [↓wD,wU,Nat.reduceBEq,zx150,zx151,zx159,zx160,zx161,zx162,Nat.reduceAdd,Nat.reduceSub,Nat.reduceMul,Nat.reduceLeDiff,Nat.reduceLT,Nat.reduceEqDiff,Int.reduceAdd,Int.reduceSub,Int.reduceMul,Int.reduceNeg,Int.reduceLT,Int.reduceLE,Int.reduceEq,Int.reduceToNat,Int.cast_ofNat_Int,↓reduceIte, *, (isSums_ret g (by omega)).call]))) <;> first
          | exact avb_f hr'
          | skip
        rename_i q
        exact absurd ⟨by omega, by omega, by omega, (Decidable.not_not.1 q).1⟩ hr
    · simp (disch := (first | assumption | omega | (simp only [List.length_append, List.length_cons, List.length_nil]; omega))) only [↓wD,wU,Nat.reduceBEq,zx150,zx151,zx159,zx160,zx161,zx162,Nat.reduceAdd,Nat.reduceSub,Nat.reduceMul,Nat.reduceLeDiff,Nat.reduceLT,Nat.reduceEqDiff,Int.reduceAdd,Int.reduceSub,Int.reduceMul,Int.reduceNeg,Int.reduceLT,Int.reduceLE,Int.reduceEq,Int.reduceToNat,Int.cast_ofNat_Int,↓reduceIte, *]
      have e : t.take i = t := List.take_of_length_le (by omega)
      rw [e] at hh ⊢
      congr 1
      exact decide_eq_decide.2 ⟨fun h => ⟨by omega, by omega, hh, h⟩, fun h => h.2.2.2⟩
  · (simp (disch := (first | assumption | omega | (simp only [List.length_append, List.length_cons, List.length_nil]; omega))) only [↓wD,wU,Nat.reduceBEq,zx150,zx151,zx159,zx160,zx161,zx162,Nat.reduceAdd,Nat.reduceSub,Nat.reduceMul,Nat.reduceLeDiff,Nat.reduceLT,Nat.reduceEqDiff,Int.reduceAdd,Int.reduceSub,Int.reduceMul,Int.reduceNeg,Int.reduceLT,Int.reduceLE,Int.reduceEq,Int.reduceToNat,Int.cast_ofNat_Int,↓reduceIte, *]) <;> simp
end Go.Proofs.Ytmmbakggmlfffaa
namespace Go.Proofs.Ytmmbakggmlfffaa
open Go Go.AM Go.Proofs
theorem gi_map_range {α : Type} [Inhabited α] {n j : Nat} {f : Nat → α} (h : j < n) : gi ((List.range n).map f) (j : Int) = f j := by
  rw [gi_nat (by simpa using h)]; simp
theorem set_map_range {α : Type} {n j : Nat} {f : Nat → α} {y : α} : ((List.range n).map f).set j y = (List.range n).map fun c => if c = j then y else f c := by
  apply List.ext_getElem (by simp)
  intro i h1 h2
  simp only [List.getElem_set, List.getElem_map, List.getElem_range]
  by_cases h : j = i
  · subst h; simp
  · rw [if_neg h, if_neg (fun e => h e.symm)]
theorem map_range_congr {α : Type} {n : Nat} {f g : Nat → α} (h : ∀ c, c < n → f c = g c) : (List.range n).map f = (List.range n).map g :=
  List.map_congr_left fun c hc => h c (List.mem_range.1 hc)
def colPart (t : List (List Int)) (i j : Nat) : Int := ((t.take i).map fun r => gi r (j : Int)).sum
def colSums (t : List (List Int)) : List Int := (List.range (gi t 0).length).map fun j => colPart t t.length j
def rowSums (t : List (List Int)) : List Int := t.map List.sum
theorem colPart_succ {t : List (List Int)} {i j : Nat} (h : i < t.length) : colPart t (i + 1) j = colPart t i j + gi (gi t i) j := by
  simp [colPart, take_gi h, List.map_append, List.sum_append]
theorem colPart_0 {t : List (List Int)} {j : Nat} : colPart t 0 j = 0 := by simp [colPart]
theorem TabOk.entry {t : List (List Int)} (h : TabOk t) {i j : Nat} (hi : i < t.length) (hj : j < (gi t 0).length) : 0 ≤ gi (gi t i) j ∧ gi (gi t i) j ≤ 16 := by
  have h1 := h.2.2.1 _ (mem_gi hi)
  exact h1.2.2.2 _ (mem_gi (by rw [h1.2.2.1]; exact hj))
theorem TabOk.width {t : List (List Int)} (h : TabOk t) {i : Nat} (hi : i < t.length) : (gi t i).length = (gi t 0).length := (h.2.2.1 _ (mem_gi hi)).2.2.1
theorem TabOk.cols {t : List (List Int)} (h : TabOk t) : 1 ≤ (gi t 0).length ∧ (gi t 0).length ≤ 3 := by
  have h1 := h.2.2.1 _ (mem_gi (i := 0) h.1)
  exact ⟨h1.1, h1.2.1⟩
theorem TabOk.colPart {t : List (List Int)} (h : TabOk t) {i j : Nat} (hj : j < (gi t 0).length) : 0 ≤ colPart t i j ∧ colPart t i j ≤ 48 := by
  have h1 : ∀ x ∈ (t.take i).map fun r => gi r (j : Int), 0 ≤ x ∧ x ≤ 16 := by
    intro x hx
    obtain ⟨r, hr, rfl⟩ := List.mem_map.1 hx
    have hr' := h.2.2.1 r (List.mem_of_mem_take hr)
    exact hr'.2.2.2 _ (mem_gi (by rw [hr'.2.2.1]; exact hj))
  have h2 := sum_bound h1
  have h3 : ((t.take i).map fun r => gi r (j : Int)).length ≤ 3 := by have := h.2.1; simp; omega
  unfold Go.Proofs.Ytmmbakggmlfffaa.colPart
  omega
theorem sums_ret {p : Nat → Prop} {H : Heap} {v : AV} {t : List (List Int)} (ht : Sl p H v t) (h : TabOk t) : Ret E 22 [v] (fun _ => False) H (T2.mk (rowSums t) (colSums t)) := by
  refine Ret.ro rfl fn22 rfl ?_
  unfold f22A
  have hc := h.cols
  have hl := h.1
  have hl3 := h.2.1
  replace ht : Sl (fun b => b < H.length) H v t := ht.low.weak fun _ h => h.2
  have g0 := ht.get (k := (0 : Int)) (by omega) (by omega)
  simp (disch := (first | assumption | omega | (simp only [List.length_append, List.length_cons, List.length_nil]; omega))) only [↓wD,wU,Nat.reduceBEq,zx150,zx151,zx159,zx160,zx161,zx162,Nat.reduceAdd,Nat.reduceSub,Nat.reduceMul,Nat.reduceLeDiff,Nat.reduceLT,Nat.reduceEqDiff,Int.reduceAdd,Int.reduceSub,Int.reduceMul,Int.reduceNeg,Int.reduceLT,Int.reduceLE,Int.reduceEq,Int.reduceToNat,Int.cast_ofNat_Int,↓reduceIte, *, ht.L, g0.I]
  refine Wp.for t.length (fun i a H' => ∃ u w, a 14 = v ∧ a 15 = .i t.length ∧ a 16 = .i i ∧ a 2 = u ∧ a 3 = w ∧ Gr H H' ∧ Acc H.length (fun _ => False) H' u ((t.take i).map List.sum) ∧ MI H.length H' w ((List.range (gi t 0).length).map fun j => colPart t i j) ∧ (∀ b, u.blk = some b → w.blk ≠ some b)) ?_ ?_
  · rintro i a H1 hi ⟨u, w, h14, h15, h16, h2, h3, hg, hu, hw, hne⟩ ih
    simp (disch := (first | assumption | omega | (simp only [List.length_append, List.length_cons, List.length_nil]; omega))) only [↓wD,wU,Nat.reduceBEq,zx150,zx151,zx159,zx160,zx161,zx162,Nat.reduceAdd,Nat.reduceSub,Nat.reduceMul,Nat.reduceLeDiff,Nat.reduceLT,Nat.reduceEqDiff,Int.reduceAdd,Int.reduceSub,Int.reduceMul,Int.reduceNeg,Int.reduceLT,Int.reduceLE,Int.reduceEq,Int.reduceToNat,Int.cast_ofNat_Int,↓reduceIte, *]
    refine condP_split (fun hlt => ?_) (fun hlt => ?_)
    · have hi' : i < t.length := by omega
      have ht1 := ht.gr hg
      have g := ht1.get (k := (i : Int)) (by omega) (by omega)
      have hwd := h.width hi'
      simp (disch := (first | assumption | omega | (simp only [List.length_append, List.length_cons, List.length_nil]; omega))) only [↓wD,wU,Nat.reduceBEq,zx150,zx151,zx159,zx160,zx161,zx162,Nat.reduceAdd,Nat.reduceSub,Nat.reduceMul,Nat.reduceLeDiff,Nat.reduceLT,Nat.reduceEqDiff,Int.reduceAdd,Int.reduceSub,Int.reduceMul,Int.reduceNeg,Int.reduceLT,Int.reduceLE,Int.reduceEq,Int.reduceToNat,Int.cast_ofNat_Int,↓reduceIte, *, ht1.L, g.I]
      refine Wp.for (gi t i).length (fun j a H2 => a 14 = v ∧ a 15 = .i t.length ∧ a 16 = .i i ∧ a 2 = u ∧ a 3 = w ∧ a 20 = v.get H1 i ∧ a 21 = .i (gi t i).length ∧ a 22 = .i j ∧ a 6 = .i ((gi t i).take j).sum ∧ Kp (fun b => w.blk ≠ some b) H1 H2 ∧ H2.length ≤ H1.length ∧ MI H.length H2 w ((List.range (gi t 0).length).map fun c => colPart t i c + if c < j then gi (gi t i) c else 0)) ?_ ?_
      · clear h14 h15 h16 h2 h3
        rintro j a H2 hj ⟨h14, h15, h16, h2, h3, h20, h21, h22, h6, hk, hl2, hw2⟩ ih2
        simp (disch := (first | assumption | omega | (simp only [List.length_append, List.length_cons, List.length_nil]; omega))) only [↓wD,wU,Nat.reduceBEq,zx150,zx151,zx159,zx160,zx161,zx162,Nat.reduceAdd,Nat.reduceSub,Nat.reduceMul,Nat.reduceLeDiff,Nat.reduceLT,Nat.reduceEqDiff,Int.reduceAdd,Int.reduceSub,Int.reduceMul,Int.reduceNeg,Int.reduceLT,Int.reduceLE,Int.reduceEq,Int.reduceToNat,Int.cast_ofNat_Int,↓reduceIte, *]
        refine condP_split (fun hlt => ?_) (fun hlt => ?_)
        · have hj' : j < (gi t i).length := by omega
          have he := h.entry hi' (j := j) (by omega)
          have hcp := h.colPart (i := i) (j := j) (by omega)
          have hrs := sum_bound (xs := (gi t i).take j) (m := 16) fun x hx => (h.2.2.1 _ (mem_gi hi')).2.2.2 x (List.mem_of_mem_take hx)
          have hrl : ((gi t i).take j).length ≤ 3 := by rw [List.length_take]; omega
          have g2 : Sl (fun b => b < H.length) H2 (v.get H1 i) (gi t i) := g.mono (hk.weak fun b hb e => by have := hw.blk_lt e; omega) fun _ h => h
          have hgv : gi ((List.range (gi t 0).length).map fun c => colPart t i c + if c < j then gi (gi t i) c else 0) (j : Int) = colPart t i j := by
            rw [gi_map_range (by omega)]; simp
          have hml : ((List.range (gi t 0).length).map fun c => colPart t i c + if c < j then gi (gi t i) c else 0).length = (gi t 0).length := by simp
          simp (disch := (first | assumption | omega | (simp only [List.length_append, List.length_cons, List.length_nil]; omega))) only [↓wD,wU,Nat.reduceBEq,zx150,zx151,zx159,zx160,zx161,zx162,Nat.reduceAdd,Nat.reduceSub,Nat.reduceMul,Nat.reduceLeDiff,Nat.reduceLT,Nat.reduceEqDiff,Int.reduceAdd,Int.reduceSub,Int.reduceMul,Int.reduceNeg,Int.reduceLT,Int.reduceLE,Int.reduceEq,Int.reduceToNat,Int.cast_ofNat_Int,↓reduceIte, *, g2.I, hw2.sl.I, hgv]
          refine hw2.store (Nat.le_refl _) (by omega) (by omega) fun H3 hw3 hk3 hl3' => ?_
          simp (disch := (first | assumption | omega | (simp only [List.length_append, List.length_cons, List.length_nil]; omega))) only [↓wD,wU,Nat.reduceBEq,zx150,zx151,zx159,zx160,zx161,zx162,Nat.reduceAdd,Nat.reduceSub,Nat.reduceMul,Nat.reduceLeDiff,Nat.reduceLT,Nat.reduceEqDiff,Int.reduceAdd,Int.reduceSub,Int.reduceMul,Int.reduceNeg,Int.reduceLT,Int.reduceLE,Int.reduceEq,Int.reduceToNat,Int.cast_ofNat_Int,↓reduceIte, *]
          refine (ih2 hj').go ?_
          rw [sum_take hj']
          simp (disch := (first | assumption | omega | (simp only [List.length_append, List.length_cons, List.length_nil]; omega))) only [↓wD,wU,Nat.reduceBEq,zx150,zx151,zx159,zx160,zx161,zx162,Nat.reduceAdd,Nat.reduceSub,Nat.reduceMul,Nat.reduceLeDiff,Nat.reduceLT,Nat.reduceEqDiff,Int.reduceAdd,Int.reduceSub,Int.reduceMul,Int.reduceNeg,Int.reduceLT,Int.reduceLE,Int.reduceEq,Int.reduceToNat,Int.cast_ofNat_Int,↓reduceIte, *]
          refine ⟨hk.trans hk3 fun b hb => hb, ?_⟩
          rw [set_map_range] at hw3
          have e : ((List.range (gi t 0).length).map fun c => colPart t i c + if c < j + 1 then gi (gi t i) c else 0) = (List.range (gi t 0).length).map fun c => if c = (j : Int).toNat then colPart t i j + gi (gi t i) j else colPart t i c + if c < j then gi (gi t i) c else 0 := by
            apply map_range_congr
            intro c _
            by_cases hcj : c = j
            · subst hcj; simp
            · have : (c < j + 1) = (c < j) := by simp only [eq_iff_iff]; omega
              simp [hcj, this]
          rw [e]; exact hw3
        · have hj2 : j = (gi t i).length := by omega
          subst hj2
          simp (disch := (first | assumption | omega | (simp only [List.length_append, List.length_cons, List.length_nil]; omega))) only [↓wD,wU,Nat.reduceBEq,zx150,zx151,zx159,zx160,zx161,zx162,Nat.reduceAdd,Nat.reduceSub,Nat.reduceMul,Nat.reduceLeDiff,Nat.reduceLT,Nat.reduceEqDiff,Int.reduceAdd,Int.reduceSub,Int.reduceMul,Int.reduceNeg,Int.reduceLT,Int.reduceLE,Int.reduceEq,Int.reduceToNat,Int.cast_ofNat_Int,↓reduceIte, *]
          have hu2 : Acc H.length (fun _ => False) H2 u ((t.take i).map List.sum) := hu.kp hk (fun b e e2 => hne b e e2) fun _ h => h.elim
          refine hu2.pushI (Nat.le_refl _) (by have := hg.1; have := hk.1; omega) ?_ fun u' H3 hu' hk3 hl3' hub => ?_
          · simp; omega
          · simp (disch := (first | assumption | omega | (simp only [List.length_append, List.length_cons, List.length_nil]; omega))) only [↓wD,wU,Nat.reduceBEq,zx150,zx151,zx159,zx160,zx161,zx162,Nat.reduceAdd,Nat.reduceSub,Nat.reduceMul,Nat.reduceLeDiff,Nat.reduceLT,Nat.reduceEqDiff,Int.reduceAdd,Int.reduceSub,Int.reduceMul,Int.reduceNeg,Int.reduceLT,Int.reduceLE,Int.reduceEq,Int.reduceToNat,Int.cast_ofNat_Int,↓reduceIte, *]
            refine (ih hi').go ⟨u', w, ?_⟩
            simp (disch := (first | assumption | omega | (simp only [List.length_append, List.length_cons, List.length_nil]; omega))) only [↓wD,wU,Nat.reduceBEq,zx150,zx151,zx159,zx160,zx161,zx162,Nat.reduceAdd,Nat.reduceSub,Nat.reduceMul,Nat.reduceLeDiff,Nat.reduceLT,Nat.reduceEqDiff,Int.reduceAdd,Int.reduceSub,Int.reduceMul,Int.reduceNeg,Int.reduceLT,Int.reduceLE,Int.reduceEq,Int.reduceToNat,Int.cast_ofNat_Int,↓reduceIte, *]
            have hgk : Gr H H2 := hg.trans' hk fun b hb e => by have := hw.blk_lt e; omega
            refine ⟨hgk.push hu2 (Nat.le_refl _) hk3, ?_, ?_, ?_⟩
            · rw [take_gi hi', List.map_append]
              simpa [List.take_of_length_le (show (gi t (i : Int)).length ≤ (gi t 0).length by omega)] using hu'
            · have e : ((List.range (gi t 0).length).map fun c => colPart t (i + 1) c) = (List.range (gi t 0).length).map fun c => colPart t i c + if c < (gi t i).length then gi (gi t i) c else 0 := by
                apply map_range_congr
                intro c hc
                rw [colPart_succ hi', if_pos (by omega)]
              rw [e]
              exact hw2.kp hk3 fun b e => fun e2 => hne b e2 e
            · intro b hb e
              have := hw2.blk_lt e
              simp at hb; omega
      · simp (disch := (first | assumption | omega | (simp only [List.length_append, List.length_cons, List.length_nil]; omega))) only [↓wD,wU,Nat.reduceBEq,zx150,zx151,zx159,zx160,zx161,zx162,Nat.reduceAdd,Nat.reduceSub,Nat.reduceMul,Nat.reduceLeDiff,Nat.reduceLT,Nat.reduceEqDiff,Int.reduceAdd,Int.reduceSub,Int.reduceMul,Int.reduceNeg,Int.reduceLT,Int.reduceLE,Int.reduceEq,Int.reduceToNat,Int.cast_ofNat_Int,↓reduceIte, *]
        refine ⟨rfl, Kp.refl _ _, ?_⟩
        simpa using hw
    · have e : i = t.length := by omega
      subst e
      simp (disch := (first | assumption | omega | (simp only [List.length_append, List.length_cons, List.length_nil]; omega))) only [↓wD,wU,Nat.reduceBEq,zx150,zx151,zx159,zx160,zx161,zx162,Nat.reduceAdd,Nat.reduceSub,Nat.reduceMul,Nat.reduceLeDiff,Nat.reduceLT,Nat.reduceEqDiff,Int.reduceAdd,Int.reduceSub,Int.reduceMul,Int.reduceNeg,Int.reduceLT,Int.reduceLE,Int.reduceEq,Int.reduceToNat,Int.cast_ofNat_Int,↓reduceIte, *]
      refine rv_2 ?_ ?_
      · have h1 := hu.sl.weak (q := fun b => False ∨ H.length ≤ b) fun b h => h
        rwa [List.take_length] at h1
      · exact hw.sl.weak fun b h => .inr h
  · simp (disch := (first | assumption | omega | (simp only [List.length_append, List.length_cons, List.length_nil]; omega))) only [↓wD,wU,Nat.reduceBEq,zx150,zx151,zx159,zx160,zx161,zx162,Nat.reduceAdd,Nat.reduceSub,Nat.reduceMul,Nat.reduceLeDiff,Nat.reduceLT,Nat.reduceEqDiff,Int.reduceAdd,Int.reduceSub,Int.reduceMul,Int.reduceNeg,Int.reduceLT,Int.reduceLE,Int.reduceEq,Int.reduceToNat,Int.cast_ofNat_Int,↓reduceIte, *]
    refine ⟨.nils, _, rfl, rfl, Kp.app _ _ _, Acc.nil, ?_, fun b e => by cases e⟩
    have h1 := MI.mk (H := H) (n := (gi t 0).length) (Nat.le_refl _) (by omega)
    have e : ((List.range (gi t 0).length).map fun j => colPart t 0 j) = List.replicate (gi t 0).length 0 := by
      apply List.ext_getElem (by simp)
      intro i h1 h2
      simp [colPart_0]
    rw [e]; exact h1
end Go.Proofs.Ytmmbakggmlfffaa
namespace Go.Proofs.Ytmmbakggmlfffaa
open Go Go.AM Go.Proofs
theorem list2 {xs : List Int} (h : xs.length = 2) : ∃ a b, xs = [a, b] := by
  match xs, h with
  | [a, b], _ => exact ⟨a, b, rfl⟩
theorem eq33 (w : World) (x0 x1 y0 y1 : Int) : (Op.equalIn 10000 33 (.agg #[.int .i64 x0, .int .i64 x1]) (.agg #[.int .i64 y0, .int .i64 y1])).run C.P w = .ok ([x0, x1] == [y0, y1]) w := by
  rw [run_equalIn_struct w 9999 33 _ _ (by kernel_rfl) (by kernel_rfl)]
  have hi : Try.prog.underlying 3 = some (.int .i64) := Try.underlying3
  have e : ∀ a b : Int, (Op.equalIn 9999 3 (.int .i64 a) (.int .i64 b)).run Try.prog w = .ok (a == b) w := fun a b => run_equalIn_int w 9998 3 .i64 .i64 a b hi
  have pt : ∀ (a b : Int) (k : Nat), k < 2 → (part 3 #[.int .i64 a, .int .i64 b] k).run Try.prog w = .ok (.int .i64 (if k = 0 then a else b)) w := by
    intro a b k hk
    have : k = 0 ∨ k = 1 := by omega
    rcases this with rfl | rfl <;> go_simp
  simp [Try.underlying33, Program.fieldsOf, C, Op.eqFields, pt, e]
  by_cases h1 : x0 = y0 <;> by_cases h2 : x1 = y1 <;> simp [h1, h2]
theorem eqOk : EqOk C := by
  intro t n ht xs ys hx hy neg xo yo w
  obtain ⟨rfl, rfl⟩ : t = 33 ∧ n = 2 := by
    simp only [C] at ht
    split at ht
    · rename_i h; cases ht; exact ⟨by simpa using h, rfl⟩
    · cases ht
  obtain ⟨x0, x1, rfl⟩ := list2 hx
  obtain ⟨y0, y1, rfl⟩ := list2 hy
  have g : ∀ op, (eqGuard op 33 xo yo (.agg (ints [x0, x1])) (.agg (ints [y0, y1]))).run C.P w = .ok () w := fun op => run_eqGuard_agg w op 33 xo yo _ _ (by kernel_rfl)
  have e := eq33 w x0 x1 y0 y1
  cases neg
  · simp only [Bool.false_eq_true, if_false, Sem.run_bind, g, Result.andThen_ok, run_eql_struct]
    simp [ints] at e ⊢; rw [e]; rfl
  · simp only [if_true, Sem.run_bind, g, Result.andThen_ok, run_neq_struct]
    simp [ints] at e ⊢; rw [e]; simp [Result.andThen, Bool.not_and]
theorem eOk : EOk C (fun _ => True) E where
  kd := rfl
  fn := fun f af h => tab_ok (f, af) (lookup_mem h)
  prim := fun f g h => by
    simp only [C, kd] at h
    split at h
    · cases h
    · split at h <;> cases h
  stable := fun _ _ _ _ => trivial
  eq := eqOk
  mixed := mixed
end Go.Proofs.Ytmmbakggmlfffaa
namespace Go.Proofs.Ytmmbakggmlfffaa
open Go Go.AM Go.Proofs
theorem tmodN (m n : Nat) : (m : Int).tmod (n : Int) = ((m % n : Nat) : Int) := by
  rw [Int.tmod_eq_emod_of_nonneg (by omega)]; rfl
theorem tdivN (m n : Nat) : (m : Int).tdiv (n : Int) = ((m / n : Nat) : Int) := by
  rw [Int.tdiv_eq_ediv_of_nonneg (by omega)]; rfl
theorem gcd_step (x k : Nat) : Nat.gcd k (x % k) = Nat.gcd x k := by
  rw [Nat.gcd_comm k, ← Nat.gcd_rec, Nat.gcd_comm]
theorem gcd_ret {H : Heap} (m n : Nat) (hm : m ≤ 4611686018427387904) (hn : n ≤ 4611686018427387904) : RetP E 48 [.i m, .i n] H (.i (Nat.gcd m n : Nat)) := by
  refine RetP.ro rfl fn48 rfl rfl ?_
  unfold f48A
  simp (disch := (first | assumption | omega | (simp only [List.length_append, List.length_cons, List.length_nil]; omega))) only [↓wD,wU,Nat.reduceBEq,zx150,zx151,zx159,zx160,zx161,zx162,Nat.reduceAdd,Nat.reduceSub,Nat.reduceMul,Nat.reduceLeDiff,Nat.reduceLT,Nat.reduceEqDiff,Int.reduceAdd,Int.reduceSub,Int.reduceMul,Int.reduceNeg,Int.reduceLT,Int.reduceLE,Int.reduceEq,Int.reduceToNat,Int.cast_ofNat_Int,↓reduceIte, *]
  refine Wp.dec (fun k a H' => H' = H ∧ ∃ x : Nat, a 0 = .i x ∧ a 1 = .i k ∧ x ≤ 4611686018427387904 ∧ k ≤ 4611686018427387904 ∧ Nat.gcd x k = Nat.gcd m n) n ?_ ?_
  · rintro k a H' ⟨rfl, x, h0, h1, hx, hkb, hg⟩ ih
    by_cases hk : k = 0
    · subst hk
      simp (disch := (first | assumption | omega | (simp only [List.length_append, List.length_cons, List.length_nil]; omega))) only [↓wD,wU,Nat.reduceBEq,zx150,zx151,zx159,zx160,zx161,zx162,Nat.reduceAdd,Nat.reduceSub,Nat.reduceMul,Nat.reduceLeDiff,Nat.reduceLT,Nat.reduceEqDiff,Int.reduceAdd,Int.reduceSub,Int.reduceMul,Int.reduceNeg,Int.reduceLT,Int.reduceLE,Int.reduceEq,Int.reduceToNat,Int.cast_ofNat_Int,↓reduceIte, *]
      rw [Nat.gcd_zero_right] at hg
      rw [← hg]
      congr 1
      omega
    · simp (disch := (first | assumption | omega | (simp only [List.length_append, List.length_cons, List.length_nil]; omega))) only [↓wD,wU,Nat.reduceBEq,zx150,zx151,zx159,zx160,zx161,zx162,Nat.reduceAdd,Nat.reduceSub,Nat.reduceMul,Nat.reduceLeDiff,Nat.reduceLT,Nat.reduceEqDiff,Int.reduceAdd,Int.reduceSub,Int.reduceMul,Int.reduceNeg,Int.reduceLT,Int.reduceLE,Int.reduceEq,Int.reduceToNat,Int.cast_ofNat_Int,↓reduceIte, *, tmodN]
      have hlt : x % k < k := Nat.mod_lt _ (by omega)
      refine ih.go ⟨x % k, hlt, rfl, k, ?_⟩
      rw [← hg, ← gcd_step x k]
      simp (disch := (first | assumption | omega | (simp only [List.length_append, List.length_cons, List.length_nil]; omega))) only [↓wD,wU,Nat.reduceBEq,zx150,zx151,zx159,zx160,zx161,zx162,Nat.reduceAdd,Nat.reduceSub,Nat.reduceMul,Nat.reduceLeDiff,Nat.reduceLT,Nat.reduceEqDiff,Int.reduceAdd,Int.reduceSub,Int.reduceMul,Int.reduceNeg,Int.reduceLT,Int.reduceLE,Int.reduceEq,Int.reduceToNat,Int.cast_ofNat_Int,↓reduceIte, *]
      omega
  · simp (disch := (first | assumption | omega | (simp only [List.length_append, List.length_cons, List.length_nil]; omega))) only [↓wD,wU,Nat.reduceBEq,zx150,zx151,zx159,zx160,zx161,zx162,Nat.reduceAdd,Nat.reduceSub,Nat.reduceMul,Nat.reduceLeDiff,Nat.reduceLT,Nat.reduceEqDiff,Int.reduceAdd,Int.reduceSub,Int.reduceMul,Int.reduceNeg,Int.reduceLT,Int.reduceLE,Int.reduceEq,Int.reduceToNat,Int.cast_ofNat_Int,↓reduceIte, *]
    exact ⟨m, by simp_all⟩
def fracN (m n : Nat) : Int × Int := ((m / Nat.gcd m n : Nat), (n / Nat.gcd m n : Nat))
theorem frac_ret {H : Heap} (m n : Nat) (hm : m ≤ 4611686018427387904) (hn : n ≤ 4611686018427387904) (h0 : 0 < n) : RetP E 33 [.i m, .i n] H (.ag [.i (fracN m n).1, .i (fracN m n).2]) := by
  refine RetP.ro rfl fn33 rfl rfl ?_
  unfold f33A
  have hg : 0 < Nat.gcd m n := Nat.gcd_pos_of_pos_right _ h0
  have h1 : m / Nat.gcd m n ≤ m := Nat.div_le_self _ _
  have h2 : n / Nat.gcd m n ≤ n := Nat.div_le_self _ _
  unfold fracN
  obtain ⟨q1, hq1⟩ : ∃ q, m / Nat.gcd m n = q := ⟨_, rfl⟩
  obtain ⟨q2, hq2⟩ : ∃ q, n / Nat.gcd m n = q := ⟨_, rfl⟩
  rw [hq1] at h1
  rw [hq2] at h2
  simp (disch := (first | assumption | omega | (simp only [List.length_append, List.length_cons, List.length_nil]; omega))) only [↓wD,wU,Nat.reduceBEq,zx150,zx151,zx159,zx160,zx161,zx162,Nat.reduceAdd,Nat.reduceSub,Nat.reduceMul,Nat.reduceLeDiff,Nat.reduceLT,Nat.reduceEqDiff,Int.reduceAdd,Int.reduceSub,Int.reduceMul,Int.reduceNeg,Int.reduceLT,Int.reduceLE,Int.reduceEq,Int.reduceToNat,Int.cast_ofNat_Int,↓reduceIte, *, (gcd_ret m n hm hn).call, tdivN]
end Go.Proofs.Ytmmbakggmlfffaa
namespace Go.Proofs.Ytmmbakggmlfffaa
open Go Go.AM Go.Proofs
def Four (t : List (List Int)) : Prop := TabOk t ∧ t.length = 2 ∧ (gi t 0).length = 2
instance (t : List (List Int)) : Decidable (Four t) := by unfold Four; infer_instance
theorem nat_of {x : Int} (h : 0 ≤ x) : ∃ n : Nat, x = n := ⟨x.toNat, by omega⟩
theorem Four.elim {t : List (List Int)} (h : Four t) : ∃ a b c d : Nat, t = [[(a : Int), b], [(c : Int), d]] ∧ a + b + c + d ≤ 16 := by
  obtain ⟨h, h1, h2⟩ := h
  match t, h1 with
  | [r, s], _ =>
    have hs := h.2.2.1 s (by simp)
    have hr := h.2.2.1 r (by simp)
    have e1 : (gi [r, s] 0) = r := rfl
    rw [e1] at h2 hs hr
    have h3 : s.length = 2 := by rw [hs.2.2.1, h2]
    match r, h2, s, h3 with
    | [a, b], _, [c, d], _ =>
      have ha := hr.2.2.2 a (by simp)
      have hb := hr.2.2.2 b (by simp)
      have hc := hs.2.2.2 c (by simp)
      have hd := hs.2.2.2 d (by simp)
      have hsum := h.2.2.2
      simp at hsum
      obtain ⟨a, rfl⟩ := nat_of ha.1
      obtain ⟨b, rfl⟩ := nat_of hb.1
      obtain ⟨c, rfl⟩ := nat_of hc.1
      obtain ⟨d, rfl⟩ := nat_of hd.1
      exact ⟨a, b, c, d, rfl, by omega⟩
theorem Four.mk {a b c d : Nat} (h : a + b + c + d ≤ 16) : Four [[(a : Int), b], [(c : Int), d]] := by
  refine ⟨⟨by simp, by simp, ?_, by simp; omega⟩, rfl, rfl⟩
  intro r hr
  simp at hr
  rcases hr with rfl | rfl
  · refine ⟨by simp, by simp, rfl, ?_⟩
    intro x hx; simp at hx; rcases hx with rfl | rfl <;> omega
  · refine ⟨by simp, by simp, rfl, ?_⟩
    intro x hx; simp at hx; rcases hx with rfl | rfl <;> omega
end Go.Proofs.Ytmmbakggmlfffaa
namespace Go.Proofs.Ytmmbakggmlfffaa
open Go Go.AM Go.Proofs
def NE (t : List (List Int)) : Prop := ∀ r ∈ t, r ≠ [] ∧ r.length ≤ 1000
theorem TabOk.ne {t : List (List Int)} (h : TabOk t) : NE t := fun r hr => ⟨fun e => by have := (h.2.2.1 r hr).1; rw [e] at this; simp at this, by have := (h.2.2.1 r hr).2.1; omega⟩
theorem tclone_ret {p : Nat → Prop} {H : Heap} {v : AV} {t : List (List Int)} (ht : Sl p H v t) (hne : NE t) (hl : t.length ≤ 1000) : Ret E 51 [v] (fun _ => False) H (OT.mk t) := by
  refine Ret.ro rfl fn51 rfl ?_
  unfold f51A
  simp (disch := (first | assumption | omega | (simp only [List.length_append, List.length_cons, List.length_nil]; omega))) only [↓wD,wU,Nat.reduceBEq,zx150,zx151,zx159,zx160,zx161,zx162,Nat.reduceAdd,Nat.reduceSub,Nat.reduceMul,Nat.reduceLeDiff,Nat.reduceLT,Nat.reduceEqDiff,Int.reduceAdd,Int.reduceSub,Int.reduceMul,Int.reduceNeg,Int.reduceLT,Int.reduceLE,Int.reduceEq,Int.reduceToNat,Int.cast_ofNat_Int,↓reduceIte, *, ht.L]
  replace ht : Sl (fun b => b < H.length) H v t := ht.low.weak fun _ h => h.2
  refine Wp.for t.length (fun i a H' => ∃ u, a 6 = v ∧ a 7 = .i t.length ∧ a 8 = .i i ∧ a 3 = u ∧ Gr H H' ∧ MT H.length H' u (t.take i)) ?_ ?_
  · rintro i a H1 hi ⟨u, h6, h7, h8, h3, hg, hu⟩ ih
    simp (disch := (first | assumption | omega | (simp only [List.length_append, List.length_cons, List.length_nil]; omega))) only [↓wD,wU,Nat.reduceBEq,zx150,zx151,zx159,zx160,zx161,zx162,Nat.reduceAdd,Nat.reduceSub,Nat.reduceMul,Nat.reduceLeDiff,Nat.reduceLT,Nat.reduceEqDiff,Int.reduceAdd,Int.reduceSub,Int.reduceMul,Int.reduceNeg,Int.reduceLT,Int.reduceLE,Int.reduceEq,Int.reduceToNat,Int.cast_ofNat_Int,↓reduceIte, *]
    refine condP_split (fun hlt => ?_) (fun hlt => ?_)
    · have hi' : i < t.length := by omega
      have ht1 := ht.gr hg
      have g := ht1.get (k := (i : Int)) (by omega) (by omega)
      have hn := hne _ (mem_gi hi')
      have hl1 := hg.1
      simp (disch := (first | assumption | omega | (simp only [List.length_append, List.length_cons, List.length_nil]; omega))) only [↓wD,wU,Nat.reduceBEq,zx150,zx151,zx159,zx160,zx161,zx162,Nat.reduceAdd,Nat.reduceSub,Nat.reduceMul,Nat.reduceLeDiff,Nat.reduceLT,Nat.reduceEqDiff,Int.reduceAdd,Int.reduceSub,Int.reduceMul,Int.reduceNeg,Int.reduceLT,Int.reduceLE,Int.reduceEq,Int.reduceToNat,Int.cast_ofNat_Int,↓reduceIte, *, ht1.L]
      refine (clone_ret g (by omega)).toF fun y H2 hg2 hy => ?_
      have hl2 := hg2.1
      simp (disch := (first | assumption | omega | (simp only [List.length_append, List.length_cons, List.length_nil]; omega))) only [↓wD,wU,Nat.reduceBEq,zx150,zx151,zx159,zx160,zx161,zx162,Nat.reduceAdd,Nat.reduceSub,Nat.reduceMul,Nat.reduceLeDiff,Nat.reduceLT,Nat.reduceEqDiff,Int.reduceAdd,Int.reduceSub,Int.reduceMul,Int.reduceNeg,Int.reduceLT,Int.reduceLE,Int.reduceEq,Int.reduceToNat,Int.cast_ofNat_Int,↓reduceIte, *, hy.cellsV]
      refine hu.push hg2 (Nat.le_refl _) hl1 hy hn.1 (by simp; omega) fun u' H3 hu' hk3 => ?_
      simp (disch := (first | assumption | omega | (simp only [List.length_append, List.length_cons, List.length_nil]; omega))) only [↓wD,wU,Nat.reduceBEq,zx150,zx151,zx159,zx160,zx161,zx162,Nat.reduceAdd,Nat.reduceSub,Nat.reduceMul,Nat.reduceLeDiff,Nat.reduceLT,Nat.reduceEqDiff,Int.reduceAdd,Int.reduceSub,Int.reduceMul,Int.reduceNeg,Int.reduceLT,Int.reduceLE,Int.reduceEq,Int.reduceToNat,Int.cast_ofNat_Int,↓reduceIte, *]
      refine (ih hi').go ⟨u', ?_⟩
      rw [take_gi hi']
      simp (disch := (first | assumption | omega | (simp only [List.length_append, List.length_cons, List.length_nil]; omega))) only [↓wD,wU,Nat.reduceBEq,zx150,zx151,zx159,zx160,zx161,zx162,Nat.reduceAdd,Nat.reduceSub,Nat.reduceMul,Nat.reduceLeDiff,Nat.reduceLT,Nat.reduceEqDiff,Int.reduceAdd,Int.reduceSub,Int.reduceMul,Int.reduceNeg,Int.reduceLT,Int.reduceLE,Int.reduceEq,Int.reduceToNat,Int.cast_ofNat_Int,↓reduceIte, *]
      exact (hg.trans hg2).trans' hk3 fun b hb e => by have := hu.blk_lt e; omega
    · have e : i = t.length := by omega
      subst e
      rw [List.take_length] at hu
      simp (disch := (first | assumption | omega | (simp only [List.length_append, List.length_cons, List.length_nil]; omega))) only [↓wD,wU,Nat.reduceBEq,zx150,zx151,zx159,zx160,zx161,zx162,Nat.reduceAdd,Nat.reduceSub,Nat.reduceMul,Nat.reduceLeDiff,Nat.reduceLT,Nat.reduceEqDiff,Int.reduceAdd,Int.reduceSub,Int.reduceMul,Int.reduceNeg,Int.reduceLT,Int.reduceLE,Int.reduceEq,Int.reduceToNat,Int.cast_ofNat_Int,↓reduceIte, *]
      exact hu.rv fun b h => .inr h
  · simp (disch := (first | assumption | omega | (simp only [List.length_append, List.length_cons, List.length_nil]; omega))) only [↓wD,wU,Nat.reduceBEq,zx150,zx151,zx159,zx160,zx161,zx162,Nat.reduceAdd,Nat.reduceSub,Nat.reduceMul,Nat.reduceLeDiff,Nat.reduceLT,Nat.reduceEqDiff,Int.reduceAdd,Int.reduceSub,Int.reduceMul,Int.reduceNeg,Int.reduceLT,Int.reduceLE,Int.reduceEq,Int.reduceToNat,Int.cast_ofNat_Int,↓reduceIte, *]
    exact ⟨.nils, rfl, Gr.refl _, MT.nil⟩
theorem gi_set {α : Type} [Inhabited α] {xs : List α} {i j : Int} {x : α} (hi : 0 ≤ i) (hj : 0 ≤ j) (hl : i < xs.length) : gi (xs.set i.toNat x) j = if i = j then x else gi xs j := by
  unfold gi
  by_cases h : i = j
  · subst h
    rw [if_pos rfl]
    have : i.toNat < xs.length := by omega
    simp [this]
  · rw [if_neg h]
    have : i.toNat ≠ j.toNat := by omega
    simp [List.getD_eq_getElem?_getD, List.getElem?_set_ne this]
end Go.Proofs.Ytmmbakggmlfffaa
namespace Go.Proofs.Ytmmbakggmlfffaa
open Go Go.AM Go.Proofs
theorem foldl_min_le {xs : List Int} : ∀ {m : Int}, xs.foldl min m ≤ m ∧ ∀ x ∈ xs, xs.foldl min m ≤ x := by
  induction xs with
  | nil => simp
  | cons x xs ih =>
    intro m
    have := ih (m := min m x)
    simp only [List.foldl_cons, List.mem_cons, forall_eq_or_imp]
    exact ⟨by omega, by omega, this.2⟩
theorem foldl_max_ge {xs : List Int} : ∀ {m : Int}, m ≤ xs.foldl max m ∧ ∀ x ∈ xs, x ≤ xs.foldl max m := by
  induction xs with
  | nil => simp
  | cons x xs ih =>
    intro m
    have := ih (m := max m x)
    simp only [List.foldl_cons, List.mem_cons, forall_eq_or_imp]
    exact ⟨by omega, by omega, this.2⟩
theorem foldl_min_mem {xs : List Int} : ∀ {m : Int}, xs.foldl min m = m ∨ xs.foldl min m ∈ xs := by
  induction xs with
  | nil => simp
  | cons x xs ih =>
    intro m
    simp only [List.foldl_cons, List.mem_cons]
    rcases ih (m := min m x) with h | h
    · rw [h]; rcases Int.le_total m x with h1 | h1
      · left; omega
      · right; left; omega
    · exact .inr (.inr h)
theorem foldl_max_mem {xs : List Int} : ∀ {m : Int}, xs.foldl max m = m ∨ xs.foldl max m ∈ xs := by
  induction xs with
  | nil => simp
  | cons x xs ih =>
    intro m
    simp only [List.foldl_cons, List.mem_cons]
    rcases ih (m := max m x) with h | h
    · rw [h]; rcases Int.le_total m x with h1 | h1
      · right; left; omega
      · left; omega
    · exact .inr (.inr h)
def minL (xs : List Int) : Int := (xs.drop 1).foldl min (gi xs 0)
def maxL (xs : List Int) : Int := (xs.drop 1).foldl max (gi xs 0)
theorem minL_spec {xs : List Int} (h : 1 ≤ xs.length) : minL xs ∈ xs ∧ ∀ x ∈ xs, minL xs ≤ x := by
  cases xs with
  | nil => simp at h
  | cons x xs =>
    simp only [minL, zx181, List.drop_succ_cons, List.drop_zero]
    have h1 := foldl_min_le (xs := xs) (m := x)
    refine ⟨?_, fun y hy => ?_⟩
    · rcases foldl_min_mem (xs := xs) (m := x) with h | h
      · rw [h]; simp
      · exact List.mem_cons_of_mem _ h
    · rcases List.mem_cons.1 hy with rfl | hy
      · exact h1.1
      · exact h1.2 y hy
theorem maxL_spec {xs : List Int} (h : 1 ≤ xs.length) : maxL xs ∈ xs ∧ ∀ x ∈ xs, x ≤ maxL xs := by
  cases xs with
  | nil => simp at h
  | cons x xs =>
    simp only [maxL, zx181, List.drop_succ_cons, List.drop_zero]
    have h1 := foldl_max_ge (xs := xs) (m := x)
    refine ⟨?_, fun y hy => ?_⟩
    · rcases foldl_max_mem (xs := xs) (m := x) with h | h
      · rw [h]; simp
      · exact List.mem_cons_of_mem _ h
    · rcases List.mem_cons.1 hy with rfl | hy
      · exact h1.1
      · exact h1.2 y hy
theorem take_drop1 {xs : List Int} {i : Nat} (h1 : 1 ≤ i) (h : i < xs.length) : (xs.take (i + 1)).drop 1 = (xs.take i).drop 1 ++ [gi xs i] := by
  rw [take_gi h, List.drop_append_of_le_length (by rw [List.length_take]; omega)]
theorem minL_take {xs : List Int} {i : Nat} (h1 : 1 ≤ i) (h : i < xs.length) : minL (xs.take (i + 1)) = min (minL (xs.take i)) (gi xs i) := by
  have e : ∀ j, 1 ≤ j → gi (xs.take j) 0 = gi xs 0 := fun j hj => by cases xs with | nil => simp at h | cons x r => cases j with | zero => omega | succ j => rfl
  unfold minL
  rw [take_drop1 h1 h, List.foldl_append, e _ h1, e _ (by omega)]; rfl
theorem maxL_take {xs : List Int} {i : Nat} (h1 : 1 ≤ i) (h : i < xs.length) : maxL (xs.take (i + 1)) = max (maxL (xs.take i)) (gi xs i) := by
  have e : ∀ j, 1 ≤ j → gi (xs.take j) 0 = gi xs 0 := fun j hj => by cases xs with | nil => simp at h | cons x r => cases j with | zero => omega | succ j => rfl
  unfold maxL
  rw [take_drop1 h1 h, List.foldl_append, e _ h1, e _ (by omega)]; rfl
theorem min_ret {p : Nat → Prop} {H : Heap} {v : AV} {xs : List Int} (hx : Sl p H v xs) (h : 1 ≤ xs.length) : RetP E 32 [v] H (.i (minL xs)) := by
  refine RetP.ro rfl fn32 rfl rfl ?_
  unfold f32A
  have hb := hx.bound
  simp (disch := (first | assumption | omega | (simp only [List.length_append, List.length_cons, List.length_nil]; omega))) only [↓wD,wU,Nat.reduceBEq,zx150,zx151,zx159,zx160,zx161,zx162,Nat.reduceAdd,Nat.reduceSub,Nat.reduceMul,Nat.reduceLeDiff,Nat.reduceLT,Nat.reduceEqDiff,Int.reduceAdd,Int.reduceSub,Int.reduceMul,Int.reduceNeg,Int.reduceLT,Int.reduceLE,Int.reduceEq,Int.reduceToNat,Int.cast_ofNat_Int,↓reduceIte, *, hx.I]
  refine Wp.for (xs.length - 1) (fun i a H' => H' = H ∧ a 0 = v ∧ a 4 = .i (i + 1) ∧ a 3 = .i (minL (xs.take (i + 1)))) ?_ ?_
  · rintro i a H' hi ⟨rfl, a0, a4, a3⟩ ih
    simp (disch := (first | assumption | omega | (simp only [List.length_append, List.length_cons, List.length_nil]; omega))) only [↓wD,wU,Nat.reduceBEq,zx150,zx151,zx159,zx160,zx161,zx162,Nat.reduceAdd,Nat.reduceSub,Nat.reduceMul,Nat.reduceLeDiff,Nat.reduceLT,Nat.reduceEqDiff,Int.reduceAdd,Int.reduceSub,Int.reduceMul,Int.reduceNeg,Int.reduceLT,Int.reduceLE,Int.reduceEq,Int.reduceToNat,Int.cast_ofNat_Int,↓reduceIte, *, hx.I]
    refine condP_split (fun hlt => ?_) (fun hlt => ?_)
    · have hi' : i < xs.length - 1 := by omega
      have e := minL_take (xs := xs) (i := i + 1) (by omega) (by omega)
      simp only [Int.natCast_add, Int.natCast_one] at e
      simp (disch := (first | assumption | omega | (simp only [List.length_append, List.length_cons, List.length_nil]; omega))) only [↓wD,wU,Nat.reduceBEq,zx150,zx151,zx159,zx160,zx161,zx162,Nat.reduceAdd,Nat.reduceSub,Nat.reduceMul,Nat.reduceLeDiff,Nat.reduceLT,Nat.reduceEqDiff,Int.reduceAdd,Int.reduceSub,Int.reduceMul,Int.reduceNeg,Int.reduceLT,Int.reduceLE,Int.reduceEq,Int.reduceToNat,Int.cast_ofNat_Int,↓reduceIte, *, hx.I]
      refine (ih hi').go ⟨rfl, ?_⟩
      simp (disch := (first | assumption | omega | (simp only [List.length_append, List.length_cons, List.length_nil]; omega))) only [↓wD,wU,Nat.reduceBEq,zx150,zx151,zx159,zx160,zx161,zx162,Nat.reduceAdd,Nat.reduceSub,Nat.reduceMul,Nat.reduceLeDiff,Nat.reduceLT,Nat.reduceEqDiff,Int.reduceAdd,Int.reduceSub,Int.reduceMul,Int.reduceNeg,Int.reduceLT,Int.reduceLE,Int.reduceEq,Int.reduceToNat,Int.cast_ofNat_Int,↓reduceIte, *]
    · simp (disch := (first | assumption | omega | (simp only [List.length_append, List.length_cons, List.length_nil]; omega))) only [↓wD,wU,Nat.reduceBEq,zx150,zx151,zx159,zx160,zx161,zx162,Nat.reduceAdd,Nat.reduceSub,Nat.reduceMul,Nat.reduceLeDiff,Nat.reduceLT,Nat.reduceEqDiff,Int.reduceAdd,Int.reduceSub,Int.reduceMul,Int.reduceNeg,Int.reduceLT,Int.reduceLE,Int.reduceEq,Int.reduceToNat,Int.cast_ofNat_Int,↓reduceIte, *]
      rw [List.take_of_length_le (by omega)]
  · (simp (disch := (first | assumption | omega | (simp only [List.length_append, List.length_cons, List.length_nil]; omega))) only [↓wD,wU,Nat.reduceBEq,zx150,zx151,zx159,zx160,zx161,zx162,Nat.reduceAdd,Nat.reduceSub,Nat.reduceMul,Nat.reduceLeDiff,Nat.reduceLT,Nat.reduceEqDiff,Int.reduceAdd,Int.reduceSub,Int.reduceMul,Int.reduceNeg,Int.reduceLT,Int.reduceLE,Int.reduceEq,Int.reduceToNat,Int.cast_ofNat_Int,↓reduceIte, *]) <;> first | rfl | skip
    unfold minL
    cases xs with
    | nil => simp at h
    | cons x r => simp [zx181]
theorem max_ret {p : Nat → Prop} {H : Heap} {v : AV} {xs : List Int} (hx : Sl p H v xs) (h : 1 ≤ xs.length) : RetP E 50 [v] H (.i (maxL xs)) := by
  refine RetP.ro rfl fn50 rfl rfl ?_
  unfold f50A
  have hb := hx.bound
  simp (disch := (first | assumption | omega | (simp only [List.length_append, List.length_cons, List.length_nil]; omega))) only [↓wD,wU,Nat.reduceBEq,zx150,zx151,zx159,zx160,zx161,zx162,Nat.reduceAdd,Nat.reduceSub,Nat.reduceMul,Nat.reduceLeDiff,Nat.reduceLT,Nat.reduceEqDiff,Int.reduceAdd,Int.reduceSub,Int.reduceMul,Int.reduceNeg,Int.reduceLT,Int.reduceLE,Int.reduceEq,Int.reduceToNat,Int.cast_ofNat_Int,↓reduceIte, *, hx.I]
  refine Wp.for (xs.length - 1) (fun i a H' => H' = H ∧ a 0 = v ∧ a 4 = .i (i + 1) ∧ a 3 = .i (maxL (xs.take (i + 1)))) ?_ ?_
  · rintro i a H' hi ⟨rfl, a0, a4, a3⟩ ih
    simp (disch := (first | assumption | omega | (simp only [List.length_append, List.length_cons, List.length_nil]; omega))) only [↓wD,wU,Nat.reduceBEq,zx150,zx151,zx159,zx160,zx161,zx162,Nat.reduceAdd,Nat.reduceSub,Nat.reduceMul,Nat.reduceLeDiff,Nat.reduceLT,Nat.reduceEqDiff,Int.reduceAdd,Int.reduceSub,Int.reduceMul,Int.reduceNeg,Int.reduceLT,Int.reduceLE,Int.reduceEq,Int.reduceToNat,Int.cast_ofNat_Int,↓reduceIte, *, hx.I]
    refine condP_split (fun hlt => ?_) (fun hlt => ?_)
    · have hi' : i < xs.length - 1 := by omega
      have e := maxL_take (xs := xs) (i := i + 1) (by omega) (by omega)
      simp only [Int.natCast_add, Int.natCast_one] at e
      simp (disch := (first | assumption | omega | (simp only [List.length_append, List.length_cons, List.length_nil]; omega))) only [↓wD,wU,Nat.reduceBEq,zx150,zx151,zx159,zx160,zx161,zx162,Nat.reduceAdd,Nat.reduceSub,Nat.reduceMul,Nat.reduceLeDiff,Nat.reduceLT,Nat.reduceEqDiff,Int.reduceAdd,Int.reduceSub,Int.reduceMul,Int.reduceNeg,Int.reduceLT,Int.reduceLE,Int.reduceEq,Int.reduceToNat,Int.cast_ofNat_Int,↓reduceIte, *, hx.I]
      refine (ih hi').go ⟨rfl, ?_⟩
      simp (disch := (first | assumption | omega | (simp only [List.length_append, List.length_cons, List.length_nil]; omega))) only [↓wD,wU,Nat.reduceBEq,zx150,zx151,zx159,zx160,zx161,zx162,Nat.reduceAdd,Nat.reduceSub,Nat.reduceMul,Nat.reduceLeDiff,Nat.reduceLT,Nat.reduceEqDiff,Int.reduceAdd,Int.reduceSub,Int.reduceMul,Int.reduceNeg,Int.reduceLT,Int.reduceLE,Int.reduceEq,Int.reduceToNat,Int.cast_ofNat_Int,↓reduceIte, *]
    · simp (disch := (first | assumption | omega | (simp only [List.length_append, List.length_cons, List.length_nil]; omega))) only [↓wD,wU,Nat.reduceBEq,zx150,zx151,zx159,zx160,zx161,zx162,Nat.reduceAdd,Nat.reduceSub,Nat.reduceMul,Nat.reduceLeDiff,Nat.reduceLT,Nat.reduceEqDiff,Int.reduceAdd,Int.reduceSub,Int.reduceMul,Int.reduceNeg,Int.reduceLT,Int.reduceLE,Int.reduceEq,Int.reduceToNat,Int.cast_ofNat_Int,↓reduceIte, *]
      rw [List.take_of_length_le (by omega)]
  · (simp (disch := (first | assumption | omega | (simp only [List.length_append, List.length_cons, List.length_nil]; omega))) only [↓wD,wU,Nat.reduceBEq,zx150,zx151,zx159,zx160,zx161,zx162,Nat.reduceAdd,Nat.reduceSub,Nat.reduceMul,Nat.reduceLeDiff,Nat.reduceLT,Nat.reduceEqDiff,Int.reduceAdd,Int.reduceSub,Int.reduceMul,Int.reduceNeg,Int.reduceLT,Int.reduceLE,Int.reduceEq,Int.reduceToNat,Int.cast_ofNat_Int,↓reduceIte, *]) <;> first | rfl | skip
    unfold maxL
    cases xs with
    | nil => simp at h
    | cons x r => simp [zx181]
end Go.Proofs.Ytmmbakggmlfffaa
namespace Go.Proofs.Ytmmbakggmlfffaa
open Go Go.AM Go.Proofs
def lines : List Int → Int → List (List Int)
  | [], need => if need > 0 then [] else [[]]
  | c :: cs, need => (List.range (min need c + 1).toNat).flatMap fun x : Nat => (lines cs (need - (x : Int))).map ((x : Int) :: ·)
def subL (xs ys : List Int) : List Int := List.zipWith (· - ·) xs ys
def tabsL : List Int → List Int → List (List (List Int))
  | [], L => if maxL L > 0 then [] else [[]]
  | r :: rs, L => (lines L r).flatMap fun l => (tabsL rs (subL L l)).map (l :: ·)
/-- the blocks that grow writes -/
def Wb (n R lb b : Nat) : Prop := b = lb ∨ (R ≤ b ∧ b < R + n)
/-- what grow reads and never writes -/
structure Fx (K : Nat → Prop) (H : Heap) (y rv cv lv : AV) (rows cols : List Int) (n m : Nat) (bm bl bY bt bg tb R lb : Nat) : Prop where
  mg : H[bm]? = some (.cells [rv, cv]) ∧ ¬ K bm ∧ ¬ Wb n R lb bm
  lg : H[bl]? = some (.cells [lv]) ∧ ¬ K bl ∧ ¬ Wb n R lb bl
  yg : H[bY]? = some (.cells [y]) ∧ ¬ K bY ∧ ¬ Wb n R lb bY
  tg : H[bt]? = some (.cells [.s 1 tb 0 n (some n)]) ∧ ¬ K bt ∧ ¬ Wb n R lb bt
  tbg : H[tb]? = some (.cells ((List.range n).map fun a : Nat => .s 1 (R + a) 0 m (some m))) ∧ ¬ K tb ∧ ¬ Wb n R lb tb
  gg : H[bg]? = some (.cells [.fn 49 [] [.p bm 0, .p bl 0, .p bY 0, .p bt 0, .p bg 0]]) ∧ ¬ K bg ∧ ¬ Wb n R lb bg
  rows : Sl (fun b => ¬ K b ∧ ¬ Wb n R lb b) H rv rows
  cols : Sl (fun b => ¬ K b ∧ ¬ Wb n R lb b) H cv cols
theorem Fx.mono {K K' : Nat → Prop} {H H' : Heap} {y rv cv lv : AV} {rows cols : List Int} {n m : Nat} {bm bl bY bt bg tb R lb : Nat} (h : Fx K H y rv cv lv rows cols n m bm bl bY bt bg tb R lb)
    (hk : Kx (fun b => ¬ K b ∧ ¬ Wb n R lb b) H H') (hK : ∀ b, b < H.length → K' b → K b) : Fx K' H' y rv cv lv rows cols n m bm bl bY bt bg tb R lb := by
  have go : ∀ {b : Nat} {k : Blk}, (H[b]? = some k ∧ ¬ K b ∧ ¬ Wb n R lb b) → (H'[b]? = some k ∧ ¬ K' b ∧ ¬ Wb n R lb b) := fun {b k} q =>
    ⟨hk.get q.2 q.1, fun e => q.2.1 (hK _ (List.getElem?_eq_some_iff.1 q.1).1 e), q.2.2⟩
  exact ⟨go h.mg, go h.lg, go h.yg, go h.tg, go h.tbg, go h.gg, (h.rows.low.mono (hk.weak fun _ _ h => h.1).kp fun b q => ⟨fun e => q.1.1 (hK b q.2 e), q.1.2⟩), (h.cols.low.mono (hk.weak fun _ _ h => h.1).kp fun b q => ⟨fun e => q.1.1 (hK b q.2 e), q.1.2⟩)⟩
/-- what grow writes -/
structure Wk (B : Nat) (K : Nat → Prop) (H : Heap) (lv : AV) (n m R lb : Nat) (T : List (List Int)) (L : List Int) : Prop where
  len : T.length = n
  row : ∀ a, a < n → H[R + a]? = some (.cells ((gi T (a : Int)).map AV.i)) ∧ (gi T (a : Int)).length = m ∧ ¬ K (R + a)
  left : Rep.rep (fun b => ¬ K b) H [lv] (⟨lb, L⟩ : OR)
  ll : L.length = m
  lo : B ≤ lb ∧ B ≤ R ∧ ¬ (R ≤ lb ∧ lb < R + n)
theorem Wk.left_lt {B : Nat} {K : Nat → Prop} {H : Heap} {lv : AV} {n m R lb : Nat} {T : List (List Int)} {L : List Int} (h : Wk B K H lv n m R lb T L) : lb < H.length ∧ ¬ K lb := by
  obtain ⟨o, c, k, e, h1, h2, _⟩ := h.left
  exact ⟨(List.getElem?_eq_some_iff.1 h2).1, h1⟩
theorem Wk.row_lt {B : Nat} {K : Nat → Prop} {H : Heap} {lv : AV} {n m R lb : Nat} {T : List (List Int)} {L : List Int} (h : Wk B K H lv n m R lb T L) {a : Nat} (ha : a < n) : R + a < H.length := (List.getElem?_eq_some_iff.1 (h.row a ha).1).1
theorem Wk.mono {B : Nat} {K K' : Nat → Prop} {H H' : Heap} {lv : AV} {n m R lb : Nat} {T : List (List Int)} {L : List Int} (h : Wk B K H lv n m R lb T L) (hk : Kx (fun b => ¬ K b) H H') (hK : ∀ b, b < H.length → K' b → K b) : Wk B K' H' lv n m R lb T L :=
  ⟨h.len, fun a ha => ⟨hk.get (h.row a ha).2.2 (h.row a ha).1, (h.row a ha).2.1, fun e => (h.row a ha).2.2 (hK _ (h.row_lt ha) e)⟩,
    Rep.mono (Rep.low h.left) (hk.weak fun _ _ h => h.1).kp fun b q e => q.1 (hK b q.2 e), h.ll, h.lo⟩
theorem Wk.leftSl {B : Nat} {K : Nat → Prop} {H : Heap} {lv : AV} {n m R lb : Nat} {T : List (List Int)} {L : List Int} (h : Wk B K H lv n m R lb T L) : Sl (fun b => ¬ K b) H lv L := by
  obtain ⟨v, e, hs⟩ := OR.sl h.left
  cases e
  exact hs
theorem zx178 {b m : Nat} {c : Option Nat} {k : Nat} (h : k < m) : iaddrV 1 (.s 1 b 0 m c) (.i (k : Int)) = some (.p b k) := by
  have h0 : (0 : Int) ≤ k ∧ (k : Int) < m := by omega
  show (if 0 ≤ (k : Int) ∧ (k : Int) < m ∧ 1 = 1 then some (AV.p b (0 + (k : Int).toNat * 1)) else none) = _
  rw [if_pos ⟨h0.1, h0.2, rfl⟩]
  simp
/-- a number of left, set -/
theorem Wk.setL {B lo : Nat} {K : Nat → Prop} {H : Heap} {lv : AV} {n m R lb : Nat} {T : List (List Int)} {L : List Int} (h : Wk B K H lv n m R lb T L) {j : Nat} (hj : j < m) (hlo : lo ≤ B) {x : Int} {Q : Heap → Prop}
    (go : ∀ H', Wk B K H' lv n m R lb T (L.set j x) → Kx (fun b => b ≠ lb) H H' → H'.length = H.length → Q H') : @optP _ (stA lo H 1 (lv.at 1 (j : Int)) (.i x)) ⟨Q⟩ := by
  obtain ⟨o, c, k, e, h1, h2, h3, h4, h5⟩ := h.left
  cases e
  have hll := h.ll
  change ¬ K lb at h1
  change H[lb]? = _ at h2
  change o + L.length ≤ _ at h3
  change L.length ≤ _ at h4
  change ∀ (i : Nat) (h : i < L.length), k[o + i]? = some (.i L[i]) at h5
  have hst : stA lo H 1 ((AV.s 1 lb o L.length c).at 1 (j : Int)) (.i x) = some (H.set lb (.cells (k.set (o + j) (.i x)))) := by
    simp only [stA, AV.at, zx130, List.length_singleton, List.all_cons, List.all_nil, zx140, Bool.and_self, and_self, if_true]
    change st lo H lb (o + j * 1) [.i x] = _
    rw [Nat.mul_one, st_of (lo := lo) (o := o + j) (vs := [.i x]) h2 (by have := h.lo; omega) (by simp; omega)]
    simp [wr]
  refine ⟨_, hst, go _ ⟨h.len, fun a ha => ?_, ?_, by rw [List.length_set]; exact h.ll, h.lo⟩ (Kx.set _ _ _) (by simp)⟩
  · rw [List.getElem?_set_ne (show lb ≠ R + a by have := h.lo; omega)]
    exact h.row a ha
  · refine ⟨o, c, k.set (o + j) (.i x), by simp, h1, get_set h2, by simpa using h3, by simpa using h4, fun i hi => ?_⟩
    have hi' : i < L.length := by simpa using hi
    by_cases e : j = i
    · subst e
      rw [List.getElem?_set_self (by omega)]; simp
    · rw [List.getElem?_set_ne (by omega), h5 i hi']
      simp only [List.getElem_set]
      rw [if_neg e]
/-- a number of the table, set -/
theorem Wk.setT {B lo : Nat} {K : Nat → Prop} {H : Heap} {lv : AV} {n m R lb : Nat} {T : List (List Int)} {L : List Int} (h : Wk B K H lv n m R lb T L) {i j : Nat} (hi : i < n) (hj : j < m) (hlo : lo ≤ B) {x : Int} :
    ∃ H', st lo H (R + i) j [.i x] = some H' ∧ Wk B K H' lv n m R lb (T.set i ((gi T (i : Int)).set j x)) L ∧ Kx (fun b => b ≠ R + i) H H' ∧ H'.length = H.length := by
  obtain ⟨h1, h2, h3⟩ := h.row i hi
  have hlen := h.len
  refine ⟨_, st_of h1 (by have := h.lo; omega) (by simp; omega), ⟨by rw [List.length_set]; exact h.len, fun a ha => ?_, ?_, h.ll, h.lo⟩, Kx.set _ _ _, by simp⟩
  · have eg : gi (T.set i ((gi T (i : Int)).set j x)) (a : Int) = if i = a then (gi T (i : Int)).set j x else gi T (a : Int) := by
      have := gi_set (xs := T) (i := (i : Int)) (j := (a : Int)) (x := (gi T (i : Int)).set j x) (by omega) (by omega) (by omega)
      rw [show ((i : Int)).toNat = i from rfl] at this
      rw [this]
      by_cases e : i = a
      · rw [if_pos e, if_pos (by omega)]
      · rw [if_neg e, if_neg (by omega)]
    rw [eg]
    by_cases e : i = a
    · subst e
      rw [if_pos rfl]
      refine ⟨?_, by rw [List.length_set]; exact h2, h3⟩
      rw [get_set h1]
      simp [wr, List.map_set]
    · rw [if_neg e, List.getElem?_set_ne (by omega)]
      exact h.row a ha
  · obtain ⟨o, c, k, e, q1, q2, q3⟩ := h.left
    exact ⟨o, c, k, e, q1, by rw [List.getElem?_set_ne (show R + i ≠ lb by have := h.lo; omega)]; exact q2, q3⟩
/-- the table, as a slice -/
theorem Wk.tabSl {B : Nat} {K : Nat → Prop} {H : Heap} {lv : AV} {n m R lb tb : Nat} {T : List (List Int)} {L : List Int} (h : Wk B K H lv n m R lb T L) (ht : H[tb]? = some (.cells ((List.range n).map fun a : Nat => .s 1 (R + a) 0 m (some m)))) (hn : n ≤ 3) (hm : m ≤ 3) : Sl (fun _ => True) H (.s 1 tb 0 n (some n)) T := by
  have hlen := h.len
  subst hlen
  refine .inr ⟨tb, 0, some T.length, _, rfl, trivial, ht, ?_, by omega, fun i hi => ?_⟩
  · change 0 + T.length * 1 ≤ _; simp
  · refine ⟨.s 1 (R + i) 0 m (some m), ?_, ?_⟩
    · change (((List.range T.length).map fun a : Nat => AV.s 1 (R + a) 0 m (some m)).drop (0 + i * 1)).take 1 = _
      rw [Nat.zero_add, Nat.mul_one, List.take_one, List.head?_drop]
      simp [hi]
    · obtain ⟨h1, h2, h3⟩ := h.row i hi
      rw [gi_nat hi] at h1 h2
      subst h2
      exact Sl.litI (p := fun _ => True) h1 trivial (by omega)
end Go.Proofs.Ytmmbakggmlfffaa
namespace Go.Proofs.Ytmmbakggmlfffaa
open Go Go.AM Go.Proofs
/-- an item: a table -/
def ArgT (Ki : Nat → Prop) (H : Heap) (args : List AV) (x : List (List Int)) : Prop := ∃ u, args = [u] ∧ Sl Ki H u x
/-- what is known of a table behind i rows and some numbers of the next one -/
def Pre (T D : List (List Int)) (i : Nat) (c : List Int) : Prop := (∀ a : Nat, a < i → gi T (a : Int) = gi D (a : Int)) ∧ (gi T (i : Int)).take c.length = c
def GPost (B n m R lb : Nat) (lv : AV) (D : List (List Int)) (c L : List Int) (Q : Bool → (Nat → Prop) → Heap → Prop) (K : Nat → Prop) (H : Heap) (u : AV) (H' : Heap) : Prop :=
  ∃ ok K', u = .b ok ∧ (∀ H2, Kx (fun b => b < B ∨ K' b) H' H2 → Q ok K' H2) ∧ Kx (fun b => ¬ K b ∧ ¬ Wb n R lb b) H H' ∧ (∀ b, K' b → b < H'.length ∧ (b < H.length → K b)) ∧ ∃ T', Wk B K' H' lv n m R lb T' L ∧ Pre T' D D.length c
section
variable {lo B n m bm bl bY bt bg tb R lb : Nat} {y rv cv lv : AV} {rows cols : List Int}
def GrowA (lo B n m bm bl bY bt bg tb R lb : Nat) (y rv cv lv : AV) (rows cols : List Int) (rs : List Int) : Prop :=
  ∀ (D : List (List Int)) (L : List Int) (T : List (List Int)) (K : Nat → Prop) (H : Heap) (Q : Bool → (Nat → Prop) → Heap → Prop), D.length + rs.length = n → rows.drop D.length = rs → (∀ x ∈ L, 0 ≤ x ∧ x ≤ 16) →
    Fx K H y rv cv lv rows cols n m bm bl bY bt bg tb R lb → Wk B K H lv n m R lb T L → Pre T D D.length [] → (∀ b, K b → b < H.length) → B ≤ H.length →
    Its E lo y B ArgT Q ((tabsL rs L).map (D ++ ·)) K H →
    WpF E lo 49 [.i D.length, .i 0, .i (gi rows (D.length : Int)), .p bm 0, .p bl 0, .p bY 0, .p bt 0, .p bg 0] H (GPost B n m R lb lv D [] L Q K H)
def GrowB (lo B n m bm bl bY bt bg tb R lb : Nat) (y rv cv lv : AV) (rows cols : List Int) (rs cs : List Int) : Prop :=
  ∀ (D : List (List Int)) (c : List Int) (need : Int) (L : List Int) (T : List (List Int)) (K : Nat → Prop) (H : Heap) (Q : Bool → (Nat → Prop) → Heap → Prop), D.length + 1 + rs.length = n → rows.drop (D.length + 1) = rs → L.drop c.length = cs → c.length + cs.length = m → 0 ≤ need ∧ need ≤ 16 → (∀ x ∈ L, 0 ≤ x ∧ x ≤ 16) →
    Fx K H y rv cv lv rows cols n m bm bl bY bt bg tb R lb → Wk B K H lv n m R lb T L → Pre T D D.length c → (∀ b, K b → b < H.length) → B ≤ H.length →
    Its E lo y B ArgT Q ((lines cs need).flatMap fun l => (tabsL rs (L.take c.length ++ subL cs l)).map (fun z => D ++ (c ++ l) :: z)) K H →
    WpF E lo 49 [.i D.length, .i c.length, .i need, .p bm 0, .p bl 0, .p bY 0, .p bt 0, .p bg 0] H (GPost B n m R lb lv D c L Q K H)
theorem Pre.full {T D : List (List Int)} (h : Pre T D D.length []) (hl : T.length = D.length) : T = D := by
  apply List.ext_getElem hl
  intro i h1 h2
  have := h.1 i h2
  rwa [gi_nat h1, gi_nat h2] at this
theorem growA_nil (hlo : lo ≤ B) (hn : n ≤ 3) (hm : m ≤ 3) (hm1 : 1 ≤ m) (hrl : rows.length = n) : GrowA lo B n m bm bl bY bt bg tb R lb y rv cv lv rows cols [] := by
  intro D L T K H Q hD hr hL fx wk pre hK hB hI
  refine WpF.wrt rfl fn49 rfl ?_
  unfold f49A
  simp only [List.length_nil, Nat.add_zero] at hD
  subst hD
  have rI := fx.rows.I
  rw [hrl] at rI
  have hls := wk.leftSl
  have hll := wk.ll
  have mx := max_ret hls (by omega)
  by_cases h0 : maxL L > 0
  · rw [tabsL, if_pos h0] at hI
    have h0' : decide (0 < maxL L) = true := decide_eq_true h0
    simp (disch := (first | assumption | omega | (simp only [List.length_append, List.length_cons, List.length_nil]; omega))) only [↓wD,wU,Nat.reduceBEq,zx150,zx151,zx159,zx160,zx161,zx162,Nat.reduceAdd,Nat.reduceSub,Nat.reduceMul,Nat.reduceLeDiff,Nat.reduceLT,Nat.reduceEqDiff,Int.reduceAdd,Int.reduceSub,Int.reduceMul,Int.reduceNeg,Int.reduceLT,Int.reduceLE,Int.reduceEq,Int.reduceToNat,Int.cast_ofNat_Int,↓reduceIte, ld_of fx.mg.1, ld_of fx.lg.1, fx.rows.lenV, hrl, mx.call, h0']
    exact ⟨true, K, rfl, hI, Kx.refl _ _, fun b q => ⟨hK b q, fun _ => q⟩, T, wk, pre⟩
  · rw [tabsL, if_neg h0] at hI
    have h0' : decide (0 < maxL L) = false := decide_eq_false h0
    have hT := pre.full (by rw [wk.len])
    subst hT
    have ts := wk.tabSl fx.tbg.1 hn hm
    have hne : NE T := by
      intro r hr
      obtain ⟨a, ha, rfl⟩ := List.mem_iff_getElem.1 hr
      have := (wk.row a (by rw [← wk.len]; exact ha)).2.1
      rw [gi_nat ha] at this
      exact ⟨fun e => by rw [e] at this; simp at this; omega, by omega⟩
    simp (disch := (first | assumption | omega | (simp only [List.length_append, List.length_cons, List.length_nil]; omega))) only [↓wD,wU,Nat.reduceBEq,zx150,zx151,zx159,zx160,zx161,zx162,Nat.reduceAdd,Nat.reduceSub,Nat.reduceMul,Nat.reduceLeDiff,Nat.reduceLT,Nat.reduceEqDiff,Int.reduceAdd,Int.reduceSub,Int.reduceMul,Int.reduceNeg,Int.reduceLT,Int.reduceLE,Int.reduceEq,Int.reduceToNat,Int.cast_ofNat_Int,↓reduceIte, ld_of fx.mg.1, ld_of fx.lg.1, ld_of fx.yg.1, ld_of fx.tg.1, fx.rows.lenV, hrl, mx.call, h0']
    refine (tclone_ret ts hne (by omega)).toX fun u H1 hx hu => ?_
    have hmt : MT H.length H1 u T := MT.of hu fun b hb => hb.elim (fun h => h.elim) id
    have hsl := hmt.sl.low
    have hl1 := hx.1
    simp (disch := (first | assumption | omega | (simp only [List.length_append, List.length_cons, List.length_nil]; omega))) only [↓wD,wU,Nat.reduceBEq,zx150,zx151,zx159,zx160,zx161,zx162,Nat.reduceAdd,Nat.reduceSub,Nat.reduceMul,Nat.reduceLeDiff,Nat.reduceLT,Nat.reduceEqDiff,Int.reduceAdd,Int.reduceSub,Int.reduceMul,Int.reduceNeg,Int.reduceLT,Int.reduceLE,Int.reduceEq,Int.reduceToNat,Int.cast_ofNat_Int,↓reduceIte]
    refine callvI ((hI H1 (fun b => H.length ≤ b ∧ b < H1.length) [u] (hx.all _) ⟨u, rfl, ?_⟩ ?_).mono ?_)
    · simp only [List.append_nil]; exact hsl
    · exact fun b e => ⟨by omega, e.2, fun q => by have := hK b q; omega⟩
    · rintro v H2 ⟨hx2, hc⟩
      have kb : ∀ b, Kn K (fun b => H.length ≤ b ∧ b < H1.length) H1 H2 b → b < H2.length ∧ (b < H.length → K b) := by
        have hl2 := hx2.1
        rintro b (h | h | h)
        · exact ⟨by have := hK b h; omega, fun _ => h⟩
        · exact ⟨by omega, fun q => by omega⟩
        · exact ⟨h.2, fun q => by omega⟩
      have x12 : Kx (fun b => ¬ K b) H H2 := (hx.all _).trans hx2 fun b hb h q => q.elim h fun q => by omega
      have wk2 := wk.mono x12 fun b hb q => (kb b q).2 hb
      rcases hc with ⟨rfl, hc⟩ | ⟨rfl, hc⟩
      · simp (disch := (first | assumption | omega | (simp only [List.length_append, List.length_cons, List.length_nil]; omega))) only [↓wD,wU,Nat.reduceBEq,zx150,zx151,zx159,zx160,zx161,zx162,Nat.reduceAdd,Nat.reduceSub,Nat.reduceMul,Nat.reduceLeDiff,Nat.reduceLT,Nat.reduceEqDiff,Int.reduceAdd,Int.reduceSub,Int.reduceMul,Int.reduceNeg,Int.reduceLT,Int.reduceLE,Int.reduceEq,Int.reduceToNat,Int.cast_ofNat_Int,↓reduceIte]
        exact ⟨true, _, rfl, hc, x12.weak fun _ _ h => h.1, kb, T, wk2, pre⟩
      · simp (disch := (first | assumption | omega | (simp only [List.length_append, List.length_cons, List.length_nil]; omega))) only [↓wD,wU,Nat.reduceBEq,zx150,zx151,zx159,zx160,zx161,zx162,Nat.reduceAdd,Nat.reduceSub,Nat.reduceMul,Nat.reduceLeDiff,Nat.reduceLT,Nat.reduceEqDiff,Int.reduceAdd,Int.reduceSub,Int.reduceMul,Int.reduceNeg,Int.reduceLT,Int.reduceLE,Int.reduceEq,Int.reduceToNat,Int.cast_ofNat_Int,↓reduceIte]
        exact ⟨false, _, rfl, hc, x12.weak fun _ _ h => h.1, kb, T, wk2, pre⟩
end
end Go.Proofs.Ytmmbakggmlfffaa
namespace Go.Proofs.Ytmmbakggmlfffaa
open Go Go.AM Go.Proofs
theorem gi_app {α : Type} [Inhabited α] {xs ys : List α} {a : Nat} (h : a < xs.length) : gi (xs ++ ys) (a : Int) = gi xs (a : Int) := by
  rw [gi_nat h, gi_nat (by simp; omega), List.getElem_append_left h]
theorem gi_end {α : Type} [Inhabited α] {xs : List α} {x : α} : gi (xs ++ [x]) (xs.length : Int) = x := by
  rw [gi_nat (by simp)]; simp
theorem gi_out {α : Type} [Inhabited α] {xs : List α} {a : Nat} (h : xs.length ≤ a) : gi xs (a : Int) = default := by
  unfold gi; simp [h]
theorem Pre.row {T D : List (List Int)} {c : List Int} (h : Pre T D D.length c) (hl : (gi T (D.length : Int)).length = c.length) : Pre T (D ++ [c]) (D ++ [c]).length [] := by
  refine ⟨fun a ha => ?_, by simp⟩
  simp only [List.length_append, List.length_singleton] at ha
  by_cases e : a = D.length
  · subst e
    rw [gi_end]
    have := h.2
    rwa [← hl, List.take_length] at this
  · rw [gi_app (by omega)]
    exact h.1 a (by omega)
theorem Pre.unrow {T D : List (List Int)} {c : List Int} (h : Pre T (D ++ [c]) (D ++ [c]).length []) : Pre T D D.length c := by
  have hl : (D ++ [c]).length = D.length + 1 := by simp
  refine ⟨fun a ha => ?_, ?_⟩
  · have := h.1 a (by omega)
    rwa [gi_app ha] at this
  · have := h.1 D.length (by omega)
    rw [this, gi_end, List.take_length]
section
variable {lo B n m bm bl bY bt bg tb R lb : Nat} {y rv cv lv : AV} {rows cols : List Int}
theorem growB_nil {rs : List Int} (hlo : lo ≤ B) (hn : n ≤ 3) (hm : m ≤ 3) (hrl : rows.length = n) (hcl : cols.length = m) (hA : GrowA lo B n m bm bl bY bt bg tb R lb y rv cv lv rows cols rs) : GrowB lo B n m bm bl bY bt bg tb R lb y rv cv lv rows cols rs [] := by
  intro D c need L T K H Q hD hr hd hc hneed hL fx wk pre hK hB hI
  refine WpF.wrt rfl fn49 rfl ?_
  unfold f49A
  simp only [List.length_nil, Nat.add_zero] at hc
  have hT := wk.row D.length (by omega)
  have hll := wk.ll
  have e1 : decide ((D.length : Int) = n) = false := decide_eq_false (by omega)
  have e2 : decide ((c.length : Int) = m) = true := decide_eq_true (by omega)
  have hrv := fx.rows.lenV
  have hcv := fx.cols.lenV
  rw [hrl] at hrv
  rw [hcl] at hcv
  by_cases h0 : need > 0
  · rw [lines, if_pos h0] at hI
    have h0' : decide (0 < need) = true := decide_eq_true h0
    simp (disch := (first | assumption | omega | (simp only [List.length_append, List.length_cons, List.length_nil]; omega))) only [↓wD,wU,Nat.reduceBEq,zx150,zx151,zx159,zx160,zx161,zx162,Nat.reduceAdd,Nat.reduceSub,Nat.reduceMul,Nat.reduceLeDiff,Nat.reduceLT,Nat.reduceEqDiff,Int.reduceAdd,Int.reduceSub,Int.reduceMul,Int.reduceNeg,Int.reduceLT,Int.reduceLE,Int.reduceEq,Int.reduceToNat,Int.cast_ofNat_Int,↓reduceIte, ld_of fx.mg.1, ldn_of fx.mg.1, hrv, hcv, e1, e2, h0']
    exact ⟨true, K, rfl, hI, Kx.refl _ _, fun b q => ⟨hK b q, fun _ => q⟩, T, wk, pre⟩
  · rw [lines, if_neg h0] at hI
    have h0' : decide (0 < need) = false := decide_eq_false h0
    have hI' : Its E lo y B ArgT Q ((tabsL rs L).map ((D ++ [c]) ++ ·)) K H := by
      have eL : L.take c.length ++ subL [] [] = L := by rw [List.take_of_length_le (by omega)]; simp [subL]
      simp only [List.flatMap_cons, List.flatMap_nil, List.append_nil, eL] at hI
      simpa using hI
    have hl : (D ++ [c]).length = D.length + 1 := by simp
    have go := hA (D ++ [c]) L T K H Q (by omega) (by rw [hl]; exact hr) hL fx wk (pre.row (by rw [hT.2.1, hc])) hK hB hI'
    rw [hl] at go
    have fin : ∀ u H', GPost B n m R lb lv (D ++ [c]) [] L Q K H u H' → GPost B n m R lb lv D c L Q K H u H' := by
      rintro u H' ⟨ok, K', e, q1, q2, q3, T', q4, q5⟩
      exact ⟨ok, K', e, q1, q2, q3, T', q4, q5.unrow⟩
    by_cases h1 : D.length + 1 = n
    · have h1' : decide ((D.length : Int) + 1 = n) = true := decide_eq_true (by omega)
      rw [gi_out (by omega)] at go
      change WpF E lo _ [.i ((D.length + 1 : Nat) : Int), .i 0, .i 0, _, _, _, _, _] H _ at go
      rw [show ((D.length + 1 : Nat) : Int) = (D.length : Int) + 1 from by omega] at go
      simp (disch := (first | assumption | omega | (simp only [List.length_append, List.length_cons, List.length_nil]; omega))) only [↓wD,wU,Nat.reduceBEq,zx150,zx151,zx159,zx160,zx161,zx162,Nat.reduceAdd,Nat.reduceSub,Nat.reduceMul,Nat.reduceLeDiff,Nat.reduceLT,Nat.reduceEqDiff,Int.reduceAdd,Int.reduceSub,Int.reduceMul,Int.reduceNeg,Int.reduceLT,Int.reduceLE,Int.reduceEq,Int.reduceToNat,Int.cast_ofNat_Int,↓reduceIte, ld_of fx.mg.1, ldn_of fx.mg.1, ld_of fx.gg.1, hrv, hcv, e1, e2, h0', h1']
      refine callvI (WpV.fn (us := []) (vs := [_, _, _]) (go.mono ?_))
      intro u H' hp
      obtain ⟨ok, K', rfl, hq⟩ := fin u H' hp
      simp (disch := (first | assumption | omega | (simp only [List.length_append, List.length_cons, List.length_nil]; omega))) only [↓wD,wU,Nat.reduceBEq,zx150,zx151,zx159,zx160,zx161,zx162,Nat.reduceAdd,Nat.reduceSub,Nat.reduceMul,Nat.reduceLeDiff,Nat.reduceLT,Nat.reduceEqDiff,Int.reduceAdd,Int.reduceSub,Int.reduceMul,Int.reduceNeg,Int.reduceLT,Int.reduceLE,Int.reduceEq,Int.reduceToNat,Int.cast_ofNat_Int,↓reduceIte]
      exact ⟨ok, K', rfl, hq⟩
    · have h1' : decide ((D.length : Int) + 1 = n) = false := decide_eq_false (by omega)
      rw [show ((D.length + 1 : Nat) : Int) = (D.length : Int) + 1 from by omega] at go
      have rI := fx.rows.I
      rw [hrl] at rI
      simp (disch := (first | assumption | omega | (simp only [List.length_append, List.length_cons, List.length_nil]; omega))) only [↓wD,wU,Nat.reduceBEq,zx150,zx151,zx159,zx160,zx161,zx162,Nat.reduceAdd,Nat.reduceSub,Nat.reduceMul,Nat.reduceLeDiff,Nat.reduceLT,Nat.reduceEqDiff,Int.reduceAdd,Int.reduceSub,Int.reduceMul,Int.reduceNeg,Int.reduceLT,Int.reduceLE,Int.reduceEq,Int.reduceToNat,Int.cast_ofNat_Int,↓reduceIte, ld_of fx.mg.1, ldn_of fx.mg.1, ld_of fx.gg.1, hrv, hcv, e1, e2, h0', h1', rI]
      refine callvI (WpV.fn (us := []) (vs := [_, _, _]) (go.mono ?_))
      intro u H' hp
      obtain ⟨ok, K', rfl, hq⟩ := fin u H' hp
      simp (disch := (first | assumption | omega | (simp only [List.length_append, List.length_cons, List.length_nil]; omega))) only [↓wD,wU,Nat.reduceBEq,zx150,zx151,zx159,zx160,zx161,zx162,Nat.reduceAdd,Nat.reduceSub,Nat.reduceMul,Nat.reduceLeDiff,Nat.reduceLT,Nat.reduceEqDiff,Int.reduceAdd,Int.reduceSub,Int.reduceMul,Int.reduceNeg,Int.reduceLT,Int.reduceLE,Int.reduceEq,Int.reduceToNat,Int.cast_ofNat_Int,↓reduceIte]
      exact ⟨ok, K', rfl, hq⟩
end
end Go.Proofs.Ytmmbakggmlfffaa
namespace Go.Proofs.Ytmmbakggmlfffaa
open Go Go.AM Go.Proofs
/-- the items of one number of a row -/
def numL (rs cs : List Int) (D : List (List Int)) (c P : List Int) (cap need : Int) (x : Nat) : List (List (List Int)) :=
  (lines cs (need - (x : Int))).flatMap fun l => (tabsL rs ((P ++ [cap - (x : Int)]) ++ subL cs l)).map (fun z => D ++ ((c ++ [(x : Int)]) ++ l) :: z)
theorem lines_num {rs cs : List Int} {D : List (List Int)} {c P : List Int} {cap need : Int} : ((lines (cap :: cs) need).flatMap fun l => (tabsL rs (P ++ subL (cap :: cs) l)).map (fun z => D ++ (c ++ l) :: z)) = (List.range (min need cap + 1).toNat).flatMap (numL rs cs D c P cap need) := by
  simp only [lines, List.flatMap_assoc]
  congr 1
  funext x
  unfold numL
  rw [List.flatMap_map]
  congr 1
  funext l
  simp [subL]
theorem range_drop {N x : Nat} (h : x < N) : (List.range N).drop x = x :: (List.range N).drop (x + 1) := by
  rw [List.drop_eq_getElem_cons (by simpa using h)]; simp
theorem Pre.setT {T D : List (List Int)} {c : List Int} {x : Int} (h : Pre T D D.length c) (hl : D.length < T.length) (hc : c.length < (gi T (D.length : Int)).length) : Pre (T.set D.length ((gi T (D.length : Int)).set c.length x)) D D.length (c ++ [x]) := by
  have eg : ∀ a : Nat, gi (T.set D.length ((gi T (D.length : Int)).set c.length x)) (a : Int) = if D.length = a then (gi T (D.length : Int)).set c.length x else gi T (a : Int) := by
    intro a
    have := gi_set (xs := T) (i := (D.length : Int)) (j := (a : Int)) (x := (gi T (D.length : Int)).set c.length x) (by omega) (by omega) (by omega)
    rw [show ((D.length : Int)).toNat = D.length from rfl] at this
    rw [this]
    by_cases e : D.length = a
    · rw [if_pos e, if_pos (by omega)]
    · rw [if_neg e, if_neg (by omega)]
  refine ⟨fun a ha => ?_, ?_⟩
  · rw [eg, if_neg (by omega)]
    exact h.1 a ha
  · rw [eg, if_pos rfl]
    have h2 := h.2
    apply List.ext_getElem
    · simp; omega
    · intro i h3 h4
      simp only [List.length_append, List.length_singleton] at h4
      rw [List.getElem_take, List.getElem_set]
      by_cases e : c.length = i
      · subst e
        rw [if_pos rfl, List.getElem_append_right (Nat.le_refl _)]; simp
      · rw [if_neg e, List.getElem_append_left (by omega)]
        have h5 : i < ((gi T (D.length : Int)).take c.length).length := by rw [h2]; omega
        have : ((gi T (D.length : Int)).take c.length)[i] = c[i]'(by omega) := by simp only [h2]
        rw [List.getElem_take] at this
        exact this
theorem Pre.cut {T D : List (List Int)} {c : List Int} {x : Int} (h : Pre T D D.length (c ++ [x])) : Pre T D D.length c := by
  refine ⟨h.1, ?_⟩
  have := congrArg (List.take c.length) h.2
  rw [List.take_take, List.take_append_of_le_length (Nat.le_refl _), List.take_length] at this
  rwa [show min c.length (c ++ [x]).length = c.length by simp] at this
theorem left_drop {L cs : List Int} {j : Nat} {cap : Int} (h : L.drop j = cap :: cs) : j < L.length ∧ gi L (j : Int) = cap ∧ L.drop (j + 1) = cs := by
  have hj : j < L.length := by
    rcases Nat.lt_or_ge j L.length with h1 | h1
    · exact h1
    · rw [List.drop_of_length_le h1] at h; cases h
  rw [List.drop_eq_getElem_cons hj] at h
  injection h with h1 h2
  exact ⟨hj, by rw [gi_nat hj]; exact h1, h2⟩
theorem left_set {L : List Int} {j : Nat} {x : Int} (hj : j < L.length) : (L.set j x).drop (j + 1) = L.drop (j + 1) ∧ (L.set j x).take (j + 1) = L.take j ++ [x] := by
  refine ⟨by rw [List.drop_set_of_lt (by omega)], ?_⟩
  rw [List.take_succ_eq_append_getElem (by simpa using hj), List.take_set_of_le (Nat.le_refl _)]
  simp
theorem left_back {L : List Int} {j : Nat} {x y : Int} (hj : j < L.length) (h : y = gi L (j : Int)) : (L.set j x).set j y = L := by
  rw [List.set_set, h, gi_nat hj]; simp
end Go.Proofs.Ytmmbakggmlfffaa
namespace Go.Proofs.Ytmmbakggmlfffaa
open Go Go.AM Go.Proofs
section
variable {lo B n m bm bl bY bt bg tb R lb : Nat} {y rv cv lv : AV} {rows cols : List Int}
theorem growB_cons {rs cs : List Int} {cap : Int} (hlo : lo ≤ B) (hn : n ≤ 3) (hm : m ≤ 3) (hrl : rows.length = n) (hcl : cols.length = m) (hB' : GrowB lo B n m bm bl bY bt bg tb R lb y rv cv lv rows cols rs cs) : GrowB lo B n m bm bl bY bt bg tb R lb y rv cv lv rows cols rs (cap :: cs) := by
  intro D c need L T K H Q hD hr hd hc hneed hL fx wk pre hK hB hI
  refine WpF.wrt rfl fn49 rfl ?_
  unfold f49A
  rw [lines_num] at hI
  simp only [List.length_cons] at hc
  obtain ⟨hjl, hcap, hcs⟩ := left_drop hd
  have hll := wk.ll
  have hcm := hL _ (mem_gi hjl)
  rw [hcap] at hcm
  have e1 : decide ((D.length : Int) = n) = false := decide_eq_false (by omega)
  have e2 : decide ((c.length : Int) = m) = false := decide_eq_false (by omega)
  have hrv := fx.rows.lenV
  have hcv := fx.cols.lenV
  rw [hrl] at hrv
  rw [hcl] at hcv
  have lI := wk.leftSl.I
  have hmn : 0 ≤ min need cap ∧ min need cap ≤ 16 := by omega
  obtain ⟨N, hN⟩ : ∃ N : Nat, (min need cap + 1).toNat = N := ⟨_, rfl⟩
  have hN' : min need cap + 1 = (N : Int) := by omega
  rw [hN] at hI
  have hNn : ∀ x : Nat, x < N → (x : Int) ≤ need ∧ (x : Int) ≤ cap := by omega
  simp (disch := (first | assumption | omega | (simp only [List.length_append, List.length_cons, List.length_nil]; omega))) only [↓wD,wU,Nat.reduceBEq,zx150,zx151,zx159,zx160,zx161,zx162,Nat.reduceAdd,Nat.reduceSub,Nat.reduceMul,Nat.reduceLeDiff,Nat.reduceLT,Nat.reduceEqDiff,Int.reduceAdd,Int.reduceSub,Int.reduceMul,Int.reduceNeg,Int.reduceLT,Int.reduceLE,Int.reduceEq,Int.reduceToNat,Int.cast_ofNat_Int,↓reduceIte, ld_of fx.mg.1, ldn_of fx.mg.1, ld_of fx.lg.1, hrv, hcv, e1, e2, lI, hcap, hN']
  refine Wp.for N (fun x a H1 => a 0 = .i D.length ∧ a 1 = .i c.length ∧ a 2 = .i need ∧ a 3 = .p bm 0 ∧ a 4 = .p bl 0 ∧ a 5 = .p bY 0 ∧ a 6 = .p bt 0 ∧ a 7 = .p bg 0 ∧ a 63 = .i N ∧ a 64 = .i x ∧ ∃ K1 T1, Its E lo y B ArgT Q (((List.range N).drop x).flatMap (numL rs cs D c (L.take c.length) cap need)) K1 H1 ∧ Kx (fun b => ¬ K b ∧ ¬ Wb n R lb b) H H1 ∧ (∀ b, K1 b → b < H1.length ∧ (b < H.length → K b)) ∧ Wk B K1 H1 lv n m R lb T1 L ∧ Pre T1 D D.length c) ?_ ?_
  · rintro x a H1 hx ⟨a0, a1, a2, a3, a4, a5, a6, a7, a63, a64, K1, T1, hI1, x1, hK1, wk1, pre1⟩ ih
    simp (disch := (first | assumption | omega | (simp only [List.length_append, List.length_cons, List.length_nil]; omega))) only [↓wD,wU,Nat.reduceBEq,zx150,zx151,zx159,zx160,zx161,zx162,Nat.reduceAdd,Nat.reduceSub,Nat.reduceMul,Nat.reduceLeDiff,Nat.reduceLT,Nat.reduceEqDiff,Int.reduceAdd,Int.reduceSub,Int.reduceMul,Int.reduceNeg,Int.reduceLT,Int.reduceLE,Int.reduceEq,Int.reduceToNat,Int.cast_ofNat_Int,↓reduceIte, a0, a1, a2, a3, a4, a5, a6, a7, a63, a64]
    refine condP_split (fun hlt => ?_) (fun hlt => ?_)
    · have hx' : x < N := by omega
      obtain ⟨xn, xc⟩ := hNn x hx'
      rw [range_drop hx', List.flatMap_cons] at hI1
      have hI2 := Its.append hI1
      have fx1 := fx.mono x1 fun b h q => (hK1 b q).2 h
      have hrow := wk1.row D.length (by omega)
      obtain ⟨H2, hst, wk2, x2, l2⟩ := wk1.setT (lo := lo) (i := D.length) (j := c.length) (x := (x : Int)) (by omega) (by omega) hlo
      have x12 : Kx (fun b => ¬ K1 b ∧ ¬ Wb n R lb b) H1 H2 := x2.weak fun b _ h e => h.2 (.inr (by omega))
      have fx2 := fx1.mono x12 fun b _ q => q
      have iT := zx178 (b := tb) (m := n) (c := some n) (k := D.length) (by omega)
      have iR := zx178 (b := R + D.length) (m := m) (c := some m) (k := c.length) (by omega)
      have tI := ld_of fx1.tbg.1 (o := D.length)
      rw [show (((List.range n).map fun a : Nat => AV.s 1 (R + a) 0 m (some m))[D.length]?) = some (.s 1 (R + D.length) 0 m (some m)) by rw [List.getElem?_map, List.getElem?_range (by omega)]; rfl] at tI
      have lI2 := wk2.leftSl.I
      simp (disch := (first | assumption | omega | (simp only [List.length_append, List.length_cons, List.length_nil]; omega))) only [↓wD,wU,Nat.reduceBEq,zx150,zx151,zx159,zx160,zx161,zx162,Nat.reduceAdd,Nat.reduceSub,Nat.reduceMul,Nat.reduceLeDiff,Nat.reduceLT,Nat.reduceEqDiff,Int.reduceAdd,Int.reduceSub,Int.reduceMul,Int.reduceNeg,Int.reduceLT,Int.reduceLE,Int.reduceEq,Int.reduceToNat,Int.cast_ofNat_Int,↓reduceIte, a0, a1, a2, a3, a4, a5, a6, a7, a63, a64, ld_of fx1.tg.1, iT, tI, iR, hst, ld_of fx2.lg.1, lI2, hcap]
      refine wk2.setL (j := c.length) (by omega) hlo fun H3 wk3 x3 l3 => ?_
      have x13 : Kx (fun b => ¬ K1 b ∧ ¬ Wb n R lb b) H1 H3 := x12.trans x3 fun b _ h e => h.2 (.inl e)
      have fx3 := fx1.mono x13 fun b _ q => q
      have hcl1 : (c ++ [(x : Int)]).length = c.length + 1 := by simp
      obtain ⟨ls1, ls2⟩ := left_set (L := L) (j := c.length) (x := cap - (x : Int)) hjl
      have hl1 := x1.1
      have pre3 := pre1.setT (x := (x : Int)) (by rw [wk1.len]; omega) (by rw [hrow.2.1]; omega)
      have x13' : Kx (fun b => b < B ∨ K1 b) H1 H3 := ((x2.weak (q := fun b => b ≠ R + D.length ∧ b ≠ lb) fun _ _ h => h.1).trans x3 fun b _ h => h.2) |>.weak fun b _ h => ⟨fun e => by
          have := wk1.lo
          rcases h with h | h
          · omega
          · exact hrow.2.2 (e ▸ h), fun e => by
          have := wk1.lo
          rcases h with h | h
          · omega
          · exact wk1.left_lt.2 (e ▸ h)⟩
      have go := hB' D (c ++ [(x : Int)]) (need - x) (L.set c.length (cap - x)) _ K1 H3 _ hD hr (by rw [hcl1, ls1]; exact hcs) (by rw [hcl1]; omega) (by omega) (by
        intro z hz
        rcases List.mem_or_eq_of_mem_set hz with h | h
        · exact hL z h
        · omega) fx3 wk3 pre3 (fun b q => by have := (hK1 b q).1; omega) (by omega) (by
          rw [hcl1, ls2]
          exact hI2.keep x13')
      rw [hcl1, show ((c.length + 1 : Nat) : Int) = (c.length : Int) + 1 from by omega] at go
      simp (disch := (first | assumption | omega | (simp only [List.length_append, List.length_cons, List.length_nil]; omega))) only [↓wD,wU,Nat.reduceBEq,zx150,zx151,zx159,zx160,zx161,zx162,Nat.reduceAdd,Nat.reduceSub,Nat.reduceMul,Nat.reduceLeDiff,Nat.reduceLT,Nat.reduceEqDiff,Int.reduceAdd,Int.reduceSub,Int.reduceMul,Int.reduceNeg,Int.reduceLT,Int.reduceLE,Int.reduceEq,Int.reduceToNat,Int.cast_ofNat_Int,↓reduceIte, a0, a1, a2, a3, a4, a5, a6, a7, a63, a64, ld_of fx3.gg.1]
      refine callvI (WpV.fn (us := []) (vs := [_, _, _]) (go.mono ?_))
      rintro u' H4 ⟨ok, K4, rfl, hq, x34, hK4, T4, wk4, pre4⟩
      have l34 := x34.1
      have fx4 := fx3.mono x34 fun b h q => (hK4 b q).2 h
      have lI4 := wk4.leftSl.I
      rw [List.length_set] at lI4
      have eg : gi (L.set c.length (cap - (x : Int))) (c.length : Int) = cap - x := by rw [gi_nat (by simpa using hjl)]; simp
      simp (disch := (first | assumption | omega | (simp only [List.length_append, List.length_cons, List.length_nil]; omega))) only [↓wD,wU,Nat.reduceBEq,zx150,zx151,zx159,zx160,zx161,zx162,Nat.reduceAdd,Nat.reduceSub,Nat.reduceMul,Nat.reduceLeDiff,Nat.reduceLT,Nat.reduceEqDiff,Int.reduceAdd,Int.reduceSub,Int.reduceMul,Int.reduceNeg,Int.reduceLT,Int.reduceLE,Int.reduceEq,Int.reduceToNat,Int.cast_ofNat_Int,↓reduceIte, a0, a1, a2, a3, a4, a5, a6, a7, a63, a64, ld_of fx4.lg.1, lI4, eg]
      refine wk4.setL (j := c.length) (by omega) hlo fun H5 wk5 x5 l5 => ?_
      rw [left_back hjl (by rw [hcap]; omega)] at wk5
      have x15 : Kx (fun b => ¬ K b ∧ ¬ Wb n R lb b) H H5 := ((x1.trans x13 fun b hb h => ⟨fun q => h.1 ((hK1 b q).2 hb), h.2⟩).trans x34 fun b hb h => ⟨fun q => h.1 ((hK1 b q).2 hb), h.2⟩).trans x5 fun b hb h e => h.2 (.inl e)
      have kb : ∀ b, K4 b → b < H5.length ∧ (b < H.length → K b) := fun b q => ⟨by have := (hK4 b q).1; omega, fun hb => (hK1 b ((hK4 b q).2 (by omega))).2 hb⟩
      have x45 : Kx (fun b => b < B ∨ K4 b) H4 H5 := x5.weak fun b _ h e => by
        have := wk4.lo
        rcases h with h | h
        · omega
        · exact wk4.left_lt.2 (e ▸ h)
      cases ok with
      | true =>
        have hI5 := (hq H5 x45).1 rfl
        clear hq go hI hI1 hI2
        simp (disch := (first | assumption | omega | (simp only [List.length_append, List.length_cons, List.length_nil]; omega))) only [↓wD,wU,Nat.reduceBEq,zx150,zx151,zx159,zx160,zx161,zx162,Nat.reduceAdd,Nat.reduceSub,Nat.reduceMul,Nat.reduceLeDiff,Nat.reduceLT,Nat.reduceEqDiff,Int.reduceAdd,Int.reduceSub,Int.reduceMul,Int.reduceNeg,Int.reduceLT,Int.reduceLE,Int.reduceEq,Int.reduceToNat,Int.cast_ofNat_Int,↓reduceIte, a0, a1, a2, a3, a4, a5, a6, a7, a63, a64]
        refine (ih hx').go ?_
        simp (disch := (first | assumption | omega | (simp only [List.length_append, List.length_cons, List.length_nil]; omega))) only [↓wD,wU,Nat.reduceBEq,zx150,zx151,zx159,zx160,zx161,zx162,Nat.reduceAdd,Nat.reduceSub,Nat.reduceMul,Nat.reduceLeDiff,Nat.reduceLT,Nat.reduceEqDiff,Int.reduceAdd,Int.reduceSub,Int.reduceMul,Int.reduceNeg,Int.reduceLT,Int.reduceLE,Int.reduceEq,Int.reduceToNat,Int.cast_ofNat_Int,↓reduceIte, a0, a1, a2, a3, a4, a5, a6, a7, a63, a64]
        exact ⟨K4, T4, hI5, x15, kb, wk5, pre4.cut⟩
      | false =>
        have hq5 : ∀ H6, Kx (fun b => b < B ∨ K4 b) H5 H6 → Q false K4 H6 := fun H6 h6 => (hq H6 (x45.trans h6 fun _ _ h => h)).2 rfl
        simp (disch := (first | assumption | omega | (simp only [List.length_append, List.length_cons, List.length_nil]; omega))) only [↓wD,wU,Nat.reduceBEq,zx150,zx151,zx159,zx160,zx161,zx162,Nat.reduceAdd,Nat.reduceSub,Nat.reduceMul,Nat.reduceLeDiff,Nat.reduceLT,Nat.reduceEqDiff,Int.reduceAdd,Int.reduceSub,Int.reduceMul,Int.reduceNeg,Int.reduceLT,Int.reduceLE,Int.reduceEq,Int.reduceToNat,Int.cast_ofNat_Int,↓reduceIte, a0, a1, a2, a3, a4, a5, a6, a7, a63, a64]
        exact ⟨false, K4, rfl, hq5, x15, kb, T4, wk5, pre4.cut⟩
    · simp (disch := (first | assumption | omega | (simp only [List.length_append, List.length_cons, List.length_nil]; omega))) only [↓wD,wU,Nat.reduceBEq,zx150,zx151,zx159,zx160,zx161,zx162,Nat.reduceAdd,Nat.reduceSub,Nat.reduceMul,Nat.reduceLeDiff,Nat.reduceLT,Nat.reduceEqDiff,Int.reduceAdd,Int.reduceSub,Int.reduceMul,Int.reduceNeg,Int.reduceLT,Int.reduceLE,Int.reduceEq,Int.reduceToNat,Int.cast_ofNat_Int,↓reduceIte]
      obtain rfl : x = N := by omega
      rw [List.drop_of_length_le (by simp)] at hI1
      exact ⟨true, K1, rfl, hI1, x1, hK1, T1, wk1, pre1⟩
  · simp (disch := (first | assumption | omega | (simp only [List.length_append, List.length_cons, List.length_nil]; omega))) only [↓wD,wU,Nat.reduceBEq,zx150,zx151,zx159,zx160,zx161,zx162,Nat.reduceAdd,Nat.reduceSub,Nat.reduceMul,Nat.reduceLeDiff,Nat.reduceLT,Nat.reduceEqDiff,Int.reduceAdd,Int.reduceSub,Int.reduceMul,Int.reduceNeg,Int.reduceLT,Int.reduceLE,Int.reduceEq,Int.reduceToNat,Int.cast_ofNat_Int,↓reduceIte]
    exact ⟨K, T, hI, Kx.refl _ _, fun b q => ⟨hK b q, fun _ => q⟩, wk, pre⟩
theorem grow_all (hlo : lo ≤ B) (hn : n ≤ 3) (hm : m ≤ 3) (hm1 : 1 ≤ m) (hrl : rows.length = n) (hcl : cols.length = m) (hrows : ∀ x ∈ rows, 0 ≤ x ∧ x ≤ 16) : ∀ rs, GrowA lo B n m bm bl bY bt bg tb R lb y rv cv lv rows cols rs := by
  intro rs
  induction rs with
  | nil => exact growA_nil hlo hn hm hm1 hrl
  | cons r rs ih =>
    have hB : ∀ cs, GrowB lo B n m bm bl bY bt bg tb R lb y rv cv lv rows cols rs cs := by
      intro cs
      induction cs with
      | nil => exact growB_nil hlo hn hm hrl hcl ih
      | cons cap cs ihc => exact growB_cons hlo hn hm hrl hcl ihc
    intro D L T K H Q hD hr hL fx wk pre hK hB' hI
    obtain ⟨q1, q2, q3⟩ := left_drop hr
    have h4 := hrows _ (mem_gi q1)
    have := hB L D [] (gi rows (D.length : Int)) L T K H Q (by simp at hD; omega) q3 (by simp) (by simp [wk.ll]) h4 hL fx wk pre hK hB' (by
      rw [q2]
      simp only [tabsL, List.map_flatMap, List.map_map] at hI
      simpa [Function.comp_def] using hI)
    exact this
end
end Go.Proofs.Ytmmbakggmlfffaa
namespace Go.Proofs.Ytmmbakggmlfffaa
open Go Go.AM Go.Proofs
/-- the rows that are laid already -/
def laidC (n m R i : Nat) : List AV := (List.range n).map fun a : Nat => if a < i then .s 1 (R + a) 0 m (some m) else .nils
theorem laidC_0 {n m R : Nat} : laidC n m R 0 = reps n [AV.nils] := by
  rw [reps_z]
  apply List.ext_getElem (by simp [laidC])
  intro i h1 h2
  simp [laidC]
theorem laidC_n {n m R : Nat} : laidC n m R n = (List.range n).map fun a : Nat => .s 1 (R + a) 0 m (some m) := by
  unfold laidC
  apply map_range_congr
  intro a ha
  rw [if_pos ha]
theorem laidC_set {n m R i : Nat} (hi : i < n) : (laidC n m R i).set i (.s 1 (R + i) 0 m (some m)) = laidC n m R (i + 1) := by
  unfold laidC
  rw [set_map_range]
  apply map_range_congr
  intro a ha
  by_cases e : a = i
  · subst e
    rw [if_pos rfl, if_pos (by omega)]
  · rw [if_neg e]
    by_cases h : a < i
    · rw [if_pos h, if_pos (by omega)]
    · rw [if_neg h, if_neg (by omega)]
theorem all_it {lo : Nat} {y rv cv : AV} {rows cols : List Int} {K : Nat → Prop} {H : Heap} {Q : Bool → (Nat → Prop) → Heap → Prop} (hlo : lo ≤ H.length) (hy : y.cells = [y] ∧ y.one = true)
    (hr : Sl (fun b => ¬ K b) H rv rows) (hc : Sl (fun b => ¬ K b) H cv cols) (hn1 : 1 ≤ rows.length) (hn : rows.length ≤ 3) (hm1 : 1 ≤ cols.length) (hm : cols.length ≤ 3) (hrows : ∀ x ∈ rows, 0 ≤ x ∧ x ≤ 16) (hcols : ∀ x ∈ cols, 0 ≤ x ∧ x ≤ 16) (hK : ∀ b, K b → b < H.length)
    (hI : Its E lo y H.length ArgT Q (tabsL rows cols) K H) : WpF E lo 37 [.ag [rv, cv], y] H fun _ H' => ∃ ok K', Q ok K' H' := by
  refine WpF.wrt rfl fn37 rfl ?_
  unfold f37A
  obtain ⟨n, en⟩ : ∃ n, rows.length = n := ⟨_, rfl⟩
  obtain ⟨m, em⟩ : ∃ m, cols.length = m := ⟨_, rfl⟩
  rw [en] at hn1 hn
  rw [em] at hm1 hm
  have hrv := hr.lenV
  rw [en] at hrv
  have hcv := hc.lenV
  rw [em] at hcv
  have k1 : mksliceV 1 24 [AV.nils] (.i (n : Int)) = some n := zx177 (by omega) (by omega)
  have k2 : mksliceV 1 8 [AV.int .i64 0] (.i (m : Int)) = some m := zx176 (by omega) (by omega)
  simp (disch := (first | assumption | omega | (simp only [List.length_append, List.length_cons, List.length_nil]; omega))) only [↓wD,wU,Nat.reduceBEq,zx150,zx151,zx159,zx160,zx161,zx162,Nat.reduceAdd,Nat.reduceSub,Nat.reduceMul,Nat.reduceLeDiff,Nat.reduceLT,Nat.reduceEqDiff,Int.reduceAdd,Int.reduceSub,Int.reduceMul,Int.reduceNeg,Int.reduceLT,Int.reduceLE,Int.reduceEq,Int.reduceToNat,Int.cast_ofNat_Int,↓reduceIte, hr.cellsV, hc.cellsV, hy.1, hy.2, hrv, k1]
  refine Wp.for n (fun i a H1 => a 2 = .p H.length 0 ∧ a 3 = .p (H.length + 1) 0 ∧ a 4 = .p (H.length + 3) 0 ∧ a 13 = .i n ∧ a 14 = .i i ∧ H1.length = H.length + 4 + i ∧ H1[H.length]? = some (.cells [rv, cv]) ∧ H1[H.length + 1]? = some (.cells [y]) ∧ H1[H.length + 2]? = some (.cells (laidC n m (H.length + 4) i)) ∧ H1[H.length + 3]? = some (.cells [.s 1 (H.length + 2) 0 n (some n)]) ∧ (∀ j, j < i → H1[H.length + 4 + j]? = some (.cells (reps m [AV.int .i64 0]))) ∧ Kx (fun b => b < H.length) H H1) ?_ ?_
  · rintro i a H1 hi ⟨a2, a3, a4, a13, a14, l1, g1, g2, g3, g4, g5, x1⟩ ih
    simp (disch := (first | assumption | omega | (simp only [List.length_append, List.length_cons, List.length_nil]; omega))) only [↓wD,wU,Nat.reduceBEq,zx150,zx151,zx159,zx160,zx161,zx162,Nat.reduceAdd,Nat.reduceSub,Nat.reduceMul,Nat.reduceLeDiff,Nat.reduceLT,Nat.reduceEqDiff,Int.reduceAdd,Int.reduceSub,Int.reduceMul,Int.reduceNeg,Int.reduceLT,Int.reduceLE,Int.reduceEq,Int.reduceToNat,Int.cast_ofNat_Int,↓reduceIte, a2, a3, a4, a13, a14]
    refine condP_split (fun hlt => ?_) (fun hlt => ?_)
    · have hi' : i < n := by omega
      have ia := zx178 (b := H.length + 2) (m := n) (c := some n) (k := i) hi'
      have hst : st lo (H1 ++ [Blk.cells (reps m [AV.int .i64 0])]) (H.length + 2) i [.s 1 H1.length 0 m (some m)] = some ((H1 ++ [Blk.cells (reps m [AV.int .i64 0])]).set (H.length + 2) (.cells (laidC n m (H.length + 4) (i + 1)))) := by
        rw [st_of (cs := laidC n m (H.length + 4) i) (by rw [List.getElem?_append_left (by omega)]; exact g3) (by omega) (by simp [laidC]; omega), ← laidC_set hi', l1]
        simp [wr]
      simp (disch := (first | assumption | omega | (simp only [List.length_append, List.length_cons, List.length_nil]; omega))) only [↓wD,wU,Nat.reduceBEq,zx150,zx151,zx159,zx160,zx161,zx162,Nat.reduceAdd,Nat.reduceSub,Nat.reduceMul,Nat.reduceLeDiff,Nat.reduceLT,Nat.reduceEqDiff,Int.reduceAdd,Int.reduceSub,Int.reduceMul,Int.reduceNeg,Int.reduceLT,Int.reduceLE,Int.reduceEq,Int.reduceToNat,Int.cast_ofNat_Int,↓reduceIte, a2, a3, a4, a13, a14, ld_of g4, ld_of g1, hcv, k2, ia, hst]
      refine (ih hi').go ?_
      simp (disch := (first | assumption | omega | (simp only [List.length_append, List.length_cons, List.length_nil]; omega))) only [↓wD,wU,Nat.reduceBEq,zx150,zx151,zx159,zx160,zx161,zx162,Nat.reduceAdd,Nat.reduceSub,Nat.reduceMul,Nat.reduceLeDiff,Nat.reduceLT,Nat.reduceEqDiff,Int.reduceAdd,Int.reduceSub,Int.reduceMul,Int.reduceNeg,Int.reduceLT,Int.reduceLE,Int.reduceEq,Int.reduceToNat,Int.cast_ofNat_Int,↓reduceIte, a2, a3, a4, a13, a14]
      have hge : ∀ b, b < H1.length → b ≠ H.length + 2 → ((H1 ++ [Blk.cells (reps m [AV.int .i64 0])]).set (H.length + 2) (Blk.cells (laidC n m (H.length + 4) (i + 1))))[b]? = H1[b]? := fun b hb hne => by rw [List.getElem?_set_ne (Ne.symm hne), List.getElem?_append_left hb]
      refine ⟨by simp; omega, by rw [hge _ (by omega) (by omega)]; exact g1, by rw [hge _ (by omega) (by omega)]; exact g2, by rw [List.getElem?_set_self (by simp; omega)], by rw [hge _ (by omega) (by omega)]; exact g4, fun j hj => ?_, (x1.app' _).set' (fun h => by omega) _⟩
      by_cases e : j = i
      · subst e
        rw [List.getElem?_set_ne (by omega), ← l1]
        simp
      · rw [hge _ (by omega) (by omega)]
        exact g5 j (by omega)
    · obtain rfl : n = i := by omega
      simp (disch := (first | assumption | omega | (simp only [List.length_append, List.length_cons, List.length_nil]; omega))) only [↓wD,wU,Nat.reduceBEq,zx150,zx151,zx159,zx160,zx161,zx162,Nat.reduceAdd,Nat.reduceSub,Nat.reduceMul,Nat.reduceLeDiff,Nat.reduceLT,Nat.reduceEqDiff,Int.reduceAdd,Int.reduceSub,Int.reduceMul,Int.reduceNeg,Int.reduceLT,Int.reduceLE,Int.reduceEq,Int.reduceToNat,Int.cast_ofNat_Int,↓reduceIte, a2, a3, a4, a13, a14, ld_of g1]
      refine (clone_ret ((hc.low.weak (q := fun b => b < H.length ∧ ¬ K b) fun b h => ⟨h.2, h.1⟩).kp (x1.weak fun b _ h => h.1).kp) (by omega)).toFX fun lv H2 x2 hlv => ?_
      have hne : cols ≠ [] := fun e => by rw [e] at em; simp at em; omega
      obtain ⟨lb, elb, hor⟩ := OR.of hlv hne
      have hlb := hlv.blkp elb
      have l2 := x2.1
      have rI := ((hr.low.weak (q := fun b => b < H.length ∧ ¬ K b) fun b h => ⟨h.2, h.1⟩).kp (x1.weak fun b _ h => h.1).kp).kp (x2.all _).kp
      clear ih
      obtain ⟨H3, eH3⟩ : ∃ H3, H2 ++ [Blk.cells [lv]] ++ [Blk.cells [AV.fn 49 [] [.p H.length 0, .p H2.length 0, .p (H.length + 1) 0, .p (H.length + 3) 0, .p (H2.length + 1) 0]]] = H3 := ⟨_, rfl⟩
      have x23 : Kx (fun _ => True) H2 H3 := by rw [← eH3]; exact (Kx.app _ _ _).app' _
      have x13 : Kx (fun _ => True) H1 H3 := x2.trans x23 fun _ _ _ => trivial
      have n3 : H3.length = H2.length + 2 := by rw [← eH3]; simp
      have f1 := x13.get trivial g1
      have f2 := x13.get trivial g2
      have f3 := x13.get trivial g3
      have f4 := x13.get trivial g4
      have f5 : H3[H2.length]? = some (.cells [lv]) := by rw [← eH3]; simp [List.getElem?_append]
      have f6 : H3[H2.length + 1]? = some (.cells [AV.fn 49 [] [.p H.length 0, .p H2.length 0, .p (H.length + 1) 0, .p (H.length + 3) 0, .p (H2.length + 1) 0]]) := by rw [← eH3]; simp [List.getElem?_append]
      rw [laidC_n] at f3
      have rI3 := (rI.kp (x23.all _).kp).I
      rw [en] at rI3
      simp (disch := (first | assumption | omega | (simp only [List.length_append, List.length_cons, List.length_nil]; omega))) only [↓wD,wU,Nat.reduceBEq,zx150,zx151,zx159,zx160,zx161,zx162,Nat.reduceAdd,Nat.reduceSub,Nat.reduceMul,Nat.reduceLeDiff,Nat.reduceLT,Nat.reduceEqDiff,Int.reduceAdd,Int.reduceSub,Int.reduceMul,Int.reduceNeg,Int.reduceLT,Int.reduceLE,Int.reduceEq,Int.reduceToNat,Int.cast_ofNat_Int,↓reduceIte, a2, a3, a4, hlv.cellsV, eH3, ld_of f1, ld_of f6, rI3]
      have hnw : ∀ b, b < H.length + 4 ∨ H1.length + 0 < b ∧ H2.length ≤ b → ¬ Wb n (H.length + 4) lb b := by
        rintro b h (e | e) <;> omega
      have hkH : ∀ b, H.length ≤ b → ¬ K b := fun b h q => by have := hK b q; omega
      have hlow : ∀ {v : AV} {xs : List Int}, Sl (fun b => ¬ K b) H v xs → Sl (fun b => ¬ K b ∧ ¬ Wb n (H.length + 4) lb b) H3 v xs := fun {v xs} h =>
        ((h.low.weak (q := fun b => b < H.length ∧ ¬ K b) fun b h => ⟨h.2, h.1⟩).kp ((x1.trans x13 fun _ _ _ => trivial).weak fun b _ h => h.1).kp).weak fun b h => ⟨h.2, hnw b (.inl (by omega))⟩
      have fx : Fx K H3 y rv cv lv rows cols n m H.length H2.length (H.length + 1) (H.length + 3) (H2.length + 1) (H.length + 2) (H.length + 4) lb :=
        ⟨⟨f1, hkH _ (by omega), hnw _ (by omega)⟩, ⟨f5, hkH _ (by omega), hnw _ (by omega)⟩, ⟨f2, hkH _ (by omega), hnw _ (by omega)⟩, ⟨f4, hkH _ (by omega), hnw _ (by omega)⟩, ⟨f3, hkH _ (by omega), hnw _ (by omega)⟩, ⟨f6, hkH _ (by omega), hnw _ (by omega)⟩, hlow hr, hlow hc⟩
      have hgr : ∀ a : Nat, a < n → gi (List.replicate n (List.replicate m (0 : Int))) (a : Int) = List.replicate m 0 := fun a ha => by rw [gi_nat (by simpa using ha)]; simp
      have wk : Wk H.length K H3 lv n m (H.length + 4) lb (List.replicate n (List.replicate m (0 : Int))) cols :=
        ⟨by simp, fun j hj => by rw [hgr j hj]; exact ⟨by rw [x13.get trivial (g5 j hj), reps_z]; simp, by simp, hkH _ (by omega)⟩, Rep.mono hor (x23.all _).kp fun b h => hkH b (by omega), em, by omega⟩
      have go := grow_all (y := y) hlo hn hm hm1 en em hrows rows [] cols _ K H3 Q (by simpa using en) (by simp) hcols fx wk ⟨fun a ha => by simp at ha, by simp⟩ (fun b q => by have := hK b q; omega) (by omega) (by
        have : (tabsL rows cols).map ([] ++ ·) = tabsL rows cols := by simp
        rw [this]
        exact hI.keep ((x1.trans x13 fun _ _ _ => trivial).weak fun b hb h => hb))
      change WpF E lo _ [.i 0, .i 0, .i (gi rows 0), _, _, _, _, _] H3 _ at go
      refine callvI (WpV.fn (us := []) (vs := [_, _, _]) (go.mono ?_))
      rintro u' H4 ⟨ok, K4, rfl, hq, _⟩
      simp (disch := (first | assumption | omega | (simp only [List.length_append, List.length_cons, List.length_nil]; omega))) only [↓wD,wU,Nat.reduceBEq,zx150,zx151,zx159,zx160,zx161,zx162,Nat.reduceAdd,Nat.reduceSub,Nat.reduceMul,Nat.reduceLeDiff,Nat.reduceLT,Nat.reduceEqDiff,Int.reduceAdd,Int.reduceSub,Int.reduceMul,Int.reduceNeg,Int.reduceLT,Int.reduceLE,Int.reduceEq,Int.reduceToNat,Int.cast_ofNat_Int,↓reduceIte]
      exact ⟨ok, K4, hq H4 (Kx.refl _ _)⟩
  · simp (disch := (first | assumption | omega | (simp only [List.length_append, List.length_cons, List.length_nil]; omega))) only [↓wD,wU,Nat.reduceBEq,zx150,zx151,zx159,zx160,zx161,zx162,Nat.reduceAdd,Nat.reduceSub,Nat.reduceMul,Nat.reduceLeDiff,Nat.reduceLT,Nat.reduceEqDiff,Int.reduceAdd,Int.reduceSub,Int.reduceMul,Int.reduceNeg,Int.reduceLT,Int.reduceLE,Int.reduceEq,Int.reduceToNat,Int.cast_ofNat_Int,↓reduceIte]
    refine ⟨by rw [laidC_0], fun j hj => by omega, (((Kx.app _ _ _).app' _).app' _).app' _⟩
end Go.Proofs.Ytmmbakggmlfffaa
namespace Go.Proofs.Ytmmbakggmlfffaa
open Go Go.AM Go.Proofs
def MgOk (xs : List Int) : Prop := 1 ≤ xs.length ∧ xs.length ≤ 3 ∧ OkN xs ∧ xs.sum ≤ 16
instance (xs : List Int) : Decidable (MgOk xs) := by unfold MgOk OkN; infer_instance
theorem flatMap_len {α β : Type} {b : Nat} {f : α → List β} : ∀ {l : List α}, (∀ x ∈ l, (f x).length ≤ b) → (l.flatMap f).length ≤ l.length * b
  | [], _ => by simp
  | x :: l, h => by
    rw [List.flatMap_cons, List.length_append, List.length_cons, Nat.add_mul, Nat.one_mul]
    have h1 := h x (by simp)
    have h2 := flatMap_len (l := l) fun y hy => h y (by simp [hy])
    omega
theorem lines_len : ∀ {cs : List Int} {need : Int}, need ≤ 16 → (lines cs need).length ≤ 17 ^ cs.length
  | [], need, _ => by
    unfold lines
    split <;> simp
  | c :: cs, need, h => by
    unfold lines
    refine Nat.le_trans (flatMap_len (b := 17 ^ cs.length) fun x hx => ?_) ?_
    · rw [List.length_map]
      exact lines_len (by omega)
    · rw [List.length_range, List.length_cons, Nat.pow_succ, Nat.mul_comm]
      exact Nat.mul_le_mul_left _ (by omega)
theorem tabsL_len : ∀ {rs L : List Int}, (∀ r ∈ rs, r ≤ 16) → L.length ≤ 3 → (tabsL rs L).length ≤ 4913 ^ rs.length
  | [], L, _, _ => by
    unfold tabsL
    split <;> simp
  | r :: rs, L, h, hl => by
    unfold tabsL
    refine Nat.le_trans (flatMap_len (b := 4913 ^ rs.length) fun x hx => ?_) ?_
    · rw [List.length_map]
      exact tabsL_len (fun r hr => h r (by simp [hr])) (by unfold subL; rw [List.length_zipWith]; omega)
    · rw [List.length_cons, Nat.pow_succ, Nat.mul_comm]
      refine Nat.mul_le_mul_left _ (Nat.le_trans (lines_len (h r (by simp))) ?_)
      have : 17 ^ L.length ≤ 17 ^ 3 := Nat.pow_le_pow_right (by omega) hl
      omega
theorem MgOk.el {xs : List Int} (h : MgOk xs) : ∀ x ∈ xs, 0 ≤ x ∧ x ≤ 16 := h.2.2.1
theorem MgOk.len {xs ys : List Int} (h : MgOk xs) (h' : MgOk ys) : (tabsL xs ys).length ≤ 118587876497 := by
  refine Nat.le_trans (tabsL_len (fun r hr => (h.el r hr).2) h'.2.1) ?_
  have : 4913 ^ xs.length ≤ 4913 ^ 3 := Nat.pow_le_pow_right (by omega) h.2.1
  omega
theorem gset {b : Nat} {H H2 : Heap} {k k' : Blk} (e : H.set b k = H2) (h : H[b]? = some k') : H2[b]? = some k := by rw [← e]; exact get_set h
theorem argT_len : ∀ (Ki : Nat → Prop) (H1 : Heap) (args : List AV) (x : List (List Int)), ArgT Ki H1 args x → args.length = 1 := by rintro _ _ _ _ ⟨u, rfl, _⟩; rfl
end Go.Proofs.Ytmmbakggmlfffaa
namespace Go.Proofs.Ytmmbakggmlfffaa
open Go Go.AM Go.Proofs
theorem cnt_no {β : Type} {f : Nat → List β} {N : Nat} (h : ∀ x, x < N → f x = []) : (List.range N).flatMap f = [] := by
  rw [List.flatMap_eq_nil_iff]
  intro x hx
  exact h x (List.mem_range.1 hx)
theorem lines1 {r d : Nat} : lines [(d : Int)] (r : Int) = if r ≤ d then [[(r : Int)]] else [] := by
  unfold lines
  unfold lines
  by_cases h : r ≤ d
  · rw [if_pos h, show (min (r : Int) d + 1).toNat = r + 1 by omega, List.range_succ, List.flatMap_append, cnt_no fun x hx => by rw [if_pos (by omega)]; rfl]
    simp
  · rw [if_neg h]
    exact cnt_no fun x hx => by rw [if_pos (by omega)]; rfl
end Go.Proofs.Ytmmbakggmlfffaa
namespace Go.Proofs.Ytmmbakggmlfffaa
open Go Go.AM Go.Proofs
theorem fracN_scale {k m n : Nat} (hk : 0 < k) : fracN (k * m) (k * n) = fracN m n := by
  unfold fracN
  rw [Nat.gcd_mul_left, Nat.mul_div_mul_left _ _ hk, Nat.mul_div_mul_left _ _ hk]
theorem fracN_parts {m n : Nat} (hn : 0 < n) : ∃ p q g : Nat, fracN m n = ((p : Int), (q : Int)) ∧ 0 < g ∧ m = g * p ∧ n = g * q ∧ 0 < q := by
  refine ⟨m / Nat.gcd m n, n / Nat.gcd m n, Nat.gcd m n, rfl, Nat.gcd_pos_of_pos_right _ hn, (Nat.mul_div_cancel' (Nat.gcd_dvd_left m n)).symm, (Nat.mul_div_cancel' (Nat.gcd_dvd_right m n)).symm, ?_⟩
  exact Nat.div_pos (Nat.le_of_dvd hn (Nat.gcd_dvd_right m n)) (Nat.gcd_pos_of_pos_right _ hn)
theorem plus_ret {H : Heap} {a b c d : Nat} (ha : a ≤ 200000000000000) (hb : b ≤ 300000000) (hc : c ≤ 65536) (hd : d ≤ 4096) (hb0 : 0 < b) (hd0 : 0 < d) :
    RetP E 34 [.ag [.i (fracN a b).1, .i (fracN a b).2], .ag [.i (fracN c d).1, .i (fracN c d).2]] H (.ag [.i (fracN (a * d + c * b) (b * d)).1, .i (fracN (a * d + c * b) (b * d)).2]) := by
  obtain ⟨p, q, g1, e1, hg1, rfl, rfl, hq⟩ := fracN_parts (m := a) hb0
  obtain ⟨r, s, g2, e2, hg2, rfl, rfl, hs⟩ := fracN_parts (m := c) hd0
  have lp : p ≤ 200000000000000 := Nat.le_trans (Nat.le_mul_of_pos_left _ hg1) ha
  have lq : q ≤ 300000000 := Nat.le_trans (Nat.le_mul_of_pos_left _ hg1) hb
  have lr : r ≤ 65536 := Nat.le_trans (Nat.le_mul_of_pos_left _ hg2) hc
  have ls : s ≤ 4096 := Nat.le_trans (Nat.le_mul_of_pos_left _ hg2) hd
  have hg : 0 < Nat.gcd q s := Nat.gcd_pos_of_pos_left _ hq
  obtain ⟨q', hq'⟩ : ∃ q', q = Nat.gcd q s * q' := Nat.gcd_dvd_left q s
  obtain ⟨s', hs'⟩ : ∃ s', s = Nat.gcd q s * s' := Nat.gcd_dvd_right q s
  have eq1 : q / Nat.gcd q s = q' := by
    conv => lhs; rw [show q / Nat.gcd q s = (Nat.gcd q s * q') / Nat.gcd q s by rw [← hq']]
    exact Nat.mul_div_cancel_left _ hg
  have es1 : s / Nat.gcd q s = s' := by
    conv => lhs; rw [show s / Nat.gcd q s = (Nat.gcd q s * s') / Nat.gcd q s by rw [← hs']]
    exact Nat.mul_div_cancel_left _ hg
  have fin : fracN (g1 * p * (g2 * s) + g2 * r * (g1 * q)) (g1 * q * (g2 * s)) = fracN (p * s' + r * q') (q' * s) := by
    have hk : 0 < g1 * g2 * Nat.gcd q s := Nat.mul_pos (Nat.mul_pos hg1 hg2) hg
    rw [← fracN_scale (m := p * s' + r * q') (n := q' * s) hk]
    generalize Nat.gcd q s = g at *
    congr 1
    · conv => lhs; rw [hq', hs']
      grind
    · conv => lhs; rw [hq']
      grind
  rw [fin, e1, e2]
  have ls' : s' ≤ 4096 := by rw [← es1]; exact Nat.le_trans (Nat.div_le_self _ _) ls
  have lq' : q' ≤ 300000000 := by rw [← eq1]; exact Nat.le_trans (Nat.div_le_self _ _) lq
  have hq0 : 0 < q' := by rw [← eq1]; exact Nat.div_pos (Nat.le_of_dvd hq (Nat.gcd_dvd_left q s)) hg
  have b1 : p * s' ≤ 200000000000000 * 4096 := Nat.mul_le_mul lp ls'
  have b2 : r * q' ≤ 65536 * 300000000 := Nat.mul_le_mul lr lq'
  have b3 : q' * s ≤ 300000000 * 4096 := Nat.mul_le_mul lq' ls
  have b4 : 0 < q' * s := Nat.mul_pos hq0 hs
  have i1 : (p : Int) * s' = ((p * s' : Nat) : Int) := by simp
  have i2 : (r : Int) * q' = ((r * q' : Nat) : Int) := by simp
  have i3 : (q' : Int) * s = ((q' * s : Nat) : Int) := by simp
  have t1 : (s : Int).tdiv (Nat.gcd q s : Nat) = s' := by rw [tdivN, es1]
  have t2 : (q : Int).tdiv (Nat.gcd q s : Nat) = q' := by rw [tdivN, eq1]
  have i4 : ((p * s' : Nat) : Int) + ((r * q' : Nat) : Int) = ((p * s' + r * q' : Nat) : Int) := by simp
  have hgl : Nat.gcd q s ≤ 4096 := Nat.le_trans (Nat.gcd_le_right _ hs) ls
  have gr : ∀ H : Heap, RetP E 48 [.i q, .i s] H (.i (Nat.gcd q s : Nat)) := fun H => gcd_ret q s (by omega) (by omega)
  have fr : ∀ H : Heap, RetP E 33 [.i ((p * s' + r * q' : Nat) : Int), .i ((q' * s : Nat) : Int)] H (.ag [.i (fracN (p * s' + r * q') (q' * s)).1, .i (fracN (p * s' + r * q') (q' * s)).2]) := fun H => frac_ret _ _ (by omega) (by omega) b4
  refine RetP.ro rfl fn34 rfl rfl ?_
  unfold f34A
  have hg' : ((Nat.gcd q s : Nat) : Int) ≠ 0 := by omega
  obtain ⟨x1, ex1⟩ : ∃ x, p * s' = x := ⟨_, rfl⟩
  obtain ⟨x2, ex2⟩ : ∃ x, r * q' = x := ⟨_, rfl⟩
  obtain ⟨x3, ex3⟩ : ∃ x, q' * s = x := ⟨_, rfl⟩
  obtain ⟨gg, egg⟩ : ∃ x, Nat.gcd q s = x := ⟨_, rfl⟩
  rw [ex1, ex2, ex3] at fr
  rw [ex1] at i1 b1 i4
  rw [ex2] at i2 b2 i4
  rw [ex3] at i3 b3 b4
  rw [egg] at t1 t2 gr hg' hgl
  rw [ex1, ex2, ex3]
  have hg2' : ¬ (gg : Int) = 0 := hg'
  have fr' := fun H => fr H
  simp only [Int.natCast_add] at fr'
  clear fin eq1 es1 ex1 ex2 ex3 egg hq' hs' e1 e2 hg' hg
  clear i4 fr
  simp (disch := (first | assumption | omega | (simp only [List.length_append, List.length_cons, List.length_nil]; omega))) only [↓wD,wU,Nat.reduceBEq,zx150,zx151,zx159,zx160,zx161,zx162,Nat.reduceAdd,Nat.reduceSub,Nat.reduceMul,Nat.reduceLeDiff,Nat.reduceLT,Nat.reduceEqDiff,Int.reduceAdd,Int.reduceSub,Int.reduceMul,Int.reduceNeg,Int.reduceLT,Int.reduceLE,Int.reduceEq,Int.reduceToNat,Int.cast_ofNat_Int,↓reduceIte, (gr _).call, t1, t2, i1, i2, i3, (fr' _).call]
end Go.Proofs.Ytmmbakggmlfffaa
namespace Go.Proofs.Ytmmbakggmlfffaa
open Go Go.AM Go.Proofs
theorem lines_mem : ∀ {cs : List Int} {need : Int} {l : List Int}, l ∈ lines cs need → l.length = cs.length
  | [], need, l, h => by
    unfold lines at h
    split at h <;> simp at h
    subst h; rfl
  | c :: cs, need, l, h => by
    unfold lines at h
    rw [List.mem_flatMap] at h
    obtain ⟨x, _, h⟩ := h
    obtain ⟨l', h1, rfl⟩ := List.mem_map.1 h
    rw [List.length_cons, lines_mem h1, List.length_cons]
end Go.Proofs.Ytmmbakggmlfffaa
namespace Go.AM
open Go
def OAcc (p : Nat → Prop) (H : Heap) (u : AV) (xs : List (List Int)) : Prop :=
  (u = .nils ∧ xs = []) ∨ ∃ b o c k, u = .s 1 b o xs.length c ∧ p b ∧ H[b]? = some (.cells k) ∧ o + xs.length ≤ k.length ∧ xs.length ≤ 9223372036854775807 ∧ ∀ (i : Nat) (h : i < xs.length), Rep.rep (fun b' => p b' ∧ b' ≠ b) H ((k.drop (o + i)).take 1) xs[i]
theorem OAcc.of {L : Nat} {p q : Nat → Prop} {H : Heap} {u : AV} {xs : List (List Int)} (h : Acc L p H u xs) (hL : ∀ b, L ≤ b → q b) (hp : ∀ b, p b → q b) : OAcc q H u xs := by
  rcases h with h | ⟨b, o, c, k, rfl, hb, hk1, h1, h2, h3⟩
  · exact .inl h
  · refine .inr ⟨b, o, c, k, rfl, hL b hb, hk1, by change o + xs.length * 1 ≤ _ at h1; omega, h2, fun i hi => ?_⟩
    have := h3 i hi
    change Rep.rep _ H ((k.drop (o + i * 1)).take 1) _ at this
    rw [Nat.mul_one] at this
    exact Rep.mono this (Kp.refl _ _) fun b h => ⟨hp b h.1, h.2⟩
end Go.AM
namespace Go.Proofs.Ytmmbakggmlfffaa
open Go Go.AM Go.Proofs
theorem lines_len2 : ∀ {cs : List Int} {need : Int}, 0 ≤ need → need ≤ 16 → (∀ x ∈ cs, 0 ≤ x ∧ x ≤ 16) → (lines cs need).length ≤ 17 ^ (cs.length - 1)
  | [], need, _, _, _ => by
    unfold lines
    split <;> simp
  | [c], need, h0, h, hc => by
    have := hc c (by simp)
    obtain ⟨c, rfl⟩ := nat_of this.1
    obtain ⟨need, rfl⟩ := nat_of h0
    rw [lines1]
    split <;> simp
  | c :: d :: cs, need, h0, h, hc => by
    have hcc := hc c (by simp)
    rw [lines]
    refine Nat.le_trans (flatMap_len (b := 17 ^ cs.length) fun x hx => ?_) ?_
    · have := List.mem_range.1 hx
      rw [List.length_map]
      exact lines_len2 (cs := d :: cs) (by omega) (by omega) fun y hy => hc y (by simp only [List.mem_cons] at hy ⊢; exact .inr hy)
    · rw [List.length_range]
      simp only [List.length_cons, Nat.add_sub_cancel]
      rw [Nat.pow_succ, Nat.mul_comm]
      exact Nat.mul_le_mul_left _ (by omega)
theorem lines_el : ∀ {cs : List Int} {need : Int} {l : List Int}, 0 ≤ need → need ≤ 16 → (∀ x ∈ cs, 0 ≤ x ∧ x ≤ 16) → l ∈ lines cs need → (∀ x ∈ l, 0 ≤ x ∧ x ≤ 16) ∧ ∀ x ∈ subL cs l, 0 ≤ x ∧ x ≤ 16
  | [], need, l, _, _, _, h => by
    unfold lines at h
    split at h <;> simp at h
    subst h; simp [subL]
  | c :: cs, need, l, h0, h16, hc, h => by
    unfold lines at h
    rw [List.mem_flatMap] at h
    obtain ⟨x, hx, h⟩ := h
    have := List.mem_range.1 hx
    have hcc := hc c (by simp)
    obtain ⟨l', h1, rfl⟩ := List.mem_map.1 h
    obtain ⟨i1, i2⟩ := lines_el (by omega) (by omega) (fun y hy => hc y (by simp [hy])) h1
    refine ⟨fun y hy => ?_, fun y hy => ?_⟩
    · rcases List.mem_cons.1 hy with rfl | hy
      · omega
      · exact i1 y hy
    · have e : subL (c :: cs) ((x : Int) :: l') = (c - x) :: subL cs l' := rfl
      rw [e] at hy
      rcases List.mem_cons.1 hy with rfl | hy
      · omega
      · exact i2 y hy
theorem subL_len {cs l : List Int} (h : l.length = cs.length) : (subL cs l).length = cs.length := by unfold subL; rw [List.length_zipWith]; omega
theorem subL_gi {cs l : List Int} (h : l.length = cs.length) {j : Nat} (hj : j < cs.length) : gi (subL cs l) (j : Int) = gi cs (j : Int) - gi l (j : Int) := by
  rw [gi_nat (by rw [subL_len h]; exact hj), gi_nat hj, gi_nat (by omega)]
  simp [subL]
theorem tabsL_len2 : ∀ {rs L : List Int}, (∀ r ∈ rs, 0 ≤ r ∧ r ≤ 16) → (∀ x ∈ L, 0 ≤ x ∧ x ≤ 16) → L.length ≤ 3 → (tabsL rs L).length ≤ 289 ^ rs.length
  | [], L, _, _, _ => by
    unfold tabsL
    split <;> simp
  | r :: rs, L, h, h', hl => by
    have hr := h r (by simp)
    unfold tabsL
    refine Nat.le_trans (flatMap_len (b := 289 ^ rs.length) fun x hx => ?_) ?_
    · rw [List.length_map]
      exact tabsL_len2 (fun r hr => h r (by simp [hr])) (lines_el hr.1 hr.2 h' hx).2 (by rw [subL_len (lines_mem hx)]; exact hl)
    · rw [List.length_cons, Nat.pow_succ, Nat.mul_comm]
      refine Nat.mul_le_mul_left _ (Nat.le_trans (lines_len2 hr.1 hr.2 h') ?_)
      have : 17 ^ (L.length - 1) ≤ 17 ^ 2 := Nat.pow_le_pow_right (by omega) (by omega)
      omega
end Go.Proofs.Ytmmbakggmlfffaa
namespace Go.Proofs.Ytmmbakggmlfffaa
open Go Go.AM Go.Proofs
theorem tabsL_mem : ∀ {rs L : List Int} {t : List (List Int)}, t ∈ tabsL rs L → t.length = rs.length
  | [], L, t, h => by
    unfold tabsL at h
    split at h <;> simp at h
    subst h; rfl
  | r :: rs, L, t, h => by
    unfold tabsL at h
    rw [List.mem_flatMap] at h
    obtain ⟨l, _, h⟩ := h
    obtain ⟨t', h1, rfl⟩ := List.mem_map.1 h
    rw [List.length_cons, tabsL_mem h1, List.length_cons]
end Go.Proofs.Ytmmbakggmlfffaa
namespace Go.Proofs.Ytmmbakggmlfffaa
open Go Go.AM Go.Proofs
theorem gi_consS {α : Type} [Inhabited α] {x : α} {xs : List α} {i : Nat} : gi (x :: xs) ((i + 1 : Nat) : Int) = gi xs (i : Int) := by simp [gi]
end Go.Proofs.Ytmmbakggmlfffaa
namespace Go.Proofs.Ytmmbakggmlfffaa
open Go Go.AM Go.Proofs
def prodN : List Int → Nat
  | [] => 1
  | x :: l => x.toNat * prodN l
theorem prodN_dvd {x : Int} : ∀ {l : List Int}, x ∈ l → x.toNat ∣ prodN l
  | y :: l, h => by
    rcases List.mem_cons.1 h with rfl | h
    · exact Nat.dvd_mul_right _ _
    · exact Nat.dvd_trans (prodN_dvd h) (Nat.dvd_mul_left _ _)
theorem prodN_le {m : Nat} (hm : 1 ≤ m) : ∀ {l : List Int}, (∀ x ∈ l, x ≤ m) → prodN l ≤ m ^ l.length
  | [], _ => by simp [prodN]
  | x :: l, h => by
    rw [prodN, List.length_cons, Nat.pow_succ, Nat.mul_comm]
    exact Nat.mul_le_mul (prodN_le hm fun y hy => h y (by simp [hy])) (by have := h x (by simp); omega)
theorem prodN_pos : ∀ {l : List Int}, (∀ x ∈ l, 0 < x) → 0 < prodN l
  | [], _ => by simp [prodN]
  | x :: l, h => Nat.mul_pos (by have := h x (by simp); omega) (prodN_pos fun y hy => h y (by simp [hy]))
section
variable (t : List (List Int))
def nN : Nat := (rowSums t).sum.toNat
def rN (i : Nat) : Nat := (gi (rowSums t) (i : Int)).toNat
def cN (j : Nat) : Nat := (gi (colSums t) (j : Int)).toNat
def allN : Nat := nN t * prodN (rowSums t) * prodN (colSums t)
def eN (i j : Nat) : Nat := rN t i * cN t j * nN t
def qN (i j : Nat) : Nat := allN t / eN t i j
def dd (i j : Nat) : Int := gi (gi t (i : Int)) (j : Int) * nN t - (rN t i * cN t j : Nat)
def sqN (i j : Nat) : Nat := (dd t i j * dd t i j).toNat
def rowOff (i j : Nat) : Nat := ((List.range j).map fun j => qN t i j * sqN t i j).sum
def offP (i : Nat) : Nat := ((List.range i).map fun i => rowOff t i (gi t 0).length).sum
end
theorem rowOff_succ {t : List (List Int)} {i j : Nat} : rowOff t i (j + 1) = rowOff t i j + qN t i j * sqN t i j := by
  unfold rowOff; rw [List.range_succ, List.map_append, List.sum_append]; simp
theorem offP_succ {t : List (List Int)} {i : Nat} : offP t (i + 1) = offP t i + rowOff t i (gi t 0).length := by
  unfold offP; rw [List.range_succ, List.map_append, List.sum_append]; simp
/-- all sums above 0 -/
def Full (t : List (List Int)) : Prop := TabOk t ∧ ¬ (0 : Int) ∈ rowSums t ∧ ¬ (0 : Int) ∈ colSums t
theorem rowSums_len {t : List (List Int)} : (rowSums t).length = t.length := by simp [rowSums]
theorem colSums_len {t : List (List Int)} : (colSums t).length = (gi t 0).length := by simp [colSums]
theorem rowSums_at {t : List (List Int)} {i : Nat} (h : i < t.length) : gi (rowSums t) (i : Int) = (gi t (i : Int)).sum := by
  rw [gi_nat (by rw [rowSums_len]; exact h), gi_nat h]; simp [rowSums]
theorem colSums_at {t : List (List Int)} {j : Nat} (h : j < (gi t 0).length) : gi (colSums t) (j : Int) = colPart t t.length j := gi_map_range h
theorem total_le {t : List (List Int)} (h : TabOk t) : (rowSums t).sum ≤ 16 := h.2.2.2
theorem rowSums_ge {t : List (List Int)} (h : TabOk t) : ∀ x ∈ rowSums t, 0 ≤ x := by
  intro x hx
  obtain ⟨r, hr, rfl⟩ := List.mem_map.1 hx
  exact sum_nonneg fun y hy => ((h.2.2.1 r hr).2.2.2 y hy).1
theorem rowSums_le {t : List (List Int)} (h : TabOk t) : ∀ x ∈ rowSums t, 0 ≤ x ∧ x ≤ 16 := fun x hx =>
  ⟨rowSums_ge h x hx, Int.le_trans (le_sum (rowSums_ge h) hx) (total_le h)⟩
/-- the sums of the columns sum to the same -/
theorem colPart_le {t : List (List Int)} (h : TabOk t) {j : Nat} (hj : j < (gi t 0).length) : ∀ i, i ≤ t.length → colPart t i j ≤ ((rowSums t).take i).sum
  | 0, _ => by simp [colPart]
  | i + 1, hi => by
    have h1 := colPart_le h hj i (by omega)
    have h2 : i < (rowSums t).length := by rw [rowSums_len]; omega
    rw [colPart_succ (by omega), sum_take h2, rowSums_at (by omega)]
    have hw := h.width (show i < t.length by omega)
    have : gi (gi t (i : Int)) (j : Int) ≤ (gi t (i : Int)).sum := le_sum (fun y hy => ((h.2.2.1 _ (mem_gi (show i < t.length by omega))).2.2.2 y hy).1) (mem_gi (by omega))
    omega
theorem colSums_le {t : List (List Int)} (h : TabOk t) : ∀ x ∈ colSums t, 0 ≤ x ∧ x ≤ 16 := fun x hx => by
  unfold colSums at hx
  obtain ⟨j, hj, rfl⟩ := List.mem_map.1 hx
  have hj' := List.mem_range.1 hj
  have h1 := (h.colPart (i := t.length) hj').1
  have h2 := colPart_le h hj' t.length (Nat.le_refl _)
  rw [List.take_of_length_le (by rw [rowSums_len]; exact Nat.le_refl _)] at h2
  have := total_le h
  exact ⟨h1, by omega⟩
/-- the numbers, and how great they are -/
theorem Full.nums {t : List (List Int)} (h : Full t) {i j : Nat} (hi : i < t.length) (hj : j < (gi t 0).length) :
    gi (rowSums t) (i : Int) = rN t i ∧ gi (colSums t) (j : Int) = cN t j ∧ 1 ≤ rN t i ∧ rN t i ≤ 16 ∧ 1 ≤ cN t j ∧ cN t j ≤ 16 ∧ 1 ≤ nN t ∧ nN t ≤ 16 ∧ (rowSums t).sum = nN t := by
  have r1 := mem_gi (xs := rowSums t) (i := i) (by rw [rowSums_len]; exact hi)
  have c1 := mem_gi (xs := colSums t) (i := j) (by rw [colSums_len]; exact hj)
  have r2 := rowSums_le h.1 _ r1
  have c2 := colSums_le h.1 _ c1
  have r3 : gi (rowSums t) (i : Int) ≠ 0 := fun e => h.2.1 (e ▸ r1)
  have c3 : gi (colSums t) (j : Int) ≠ 0 := fun e => h.2.2 (e ▸ c1)
  have n1 := le_sum (rowSums_ge h.1) r1
  have n2 := total_le h.1
  unfold rN cN nN
  omega
theorem Full.all {t : List (List Int)} (h : Full t) : 1 ≤ allN t ∧ allN t ≤ 268435456 := by
  have hl := h.1.1
  have hc := h.1.cols
  have hn := h.nums (i := 0) (j := 0) (by omega) (by omega)
  have pr : ∀ x ∈ rowSums t, 0 < x := fun x hx => by
    have := rowSums_le h.1 x hx
    have : x ≠ 0 := fun e => h.2.1 (e ▸ hx)
    omega
  have pc : ∀ x ∈ colSums t, 0 < x := fun x hx => by
    have := colSums_le h.1 x hx
    have : x ≠ 0 := fun e => h.2.2 (e ▸ hx)
    omega
  have a1 : prodN (rowSums t) ≤ 16 ^ 3 := Nat.le_trans (prodN_le (m := 16) (by omega) fun x hx => (rowSums_le h.1 x hx).2) (Nat.pow_le_pow_right (by omega) (by rw [rowSums_len]; exact h.1.2.1))
  have a2 : prodN (colSums t) ≤ 16 ^ 3 := Nat.le_trans (prodN_le (m := 16) (by omega) fun x hx => (colSums_le h.1 x hx).2) (Nat.pow_le_pow_right (by omega) (by rw [colSums_len]; exact hc.2))
  have b1 := prodN_pos pr
  have b2 := prodN_pos pc
  unfold allN
  refine ⟨Nat.mul_pos (Nat.mul_pos (by omega) b1) b2, ?_⟩
  have := Nat.mul_le_mul (Nat.mul_le_mul hn.2.2.2.2.2.2.2.1 a1) a2
  omega
theorem Full.dvd {t : List (List Int)} (h : Full t) {i j : Nat} (hi : i < t.length) (hj : j < (gi t 0).length) : allN t = eN t i j * qN t i j ∧ 1 ≤ eN t i j ∧ eN t i j ≤ 4096 := by
  have hn := h.nums hi hj
  have r1 : rN t i ∣ prodN (rowSums t) := prodN_dvd (mem_gi (by rw [rowSums_len]; exact hi))
  have c1 : cN t j ∣ prodN (colSums t) := prodN_dvd (mem_gi (by rw [colSums_len]; exact hj))
  have d : eN t i j ∣ allN t := by
    unfold eN allN
    rw [Nat.mul_comm (rN t i * cN t j), Nat.mul_assoc (nN t)]
    exact Nat.mul_dvd_mul_left _ (Nat.mul_dvd_mul r1 c1)
  refine ⟨(Nat.mul_div_cancel' d).symm, Nat.mul_pos (Nat.mul_pos (by omega) (by omega)) (by omega), ?_⟩
  unfold eN
  exact Nat.mul_le_mul (Nat.mul_le_mul hn.2.2.2.1 hn.2.2.2.2.2.1) hn.2.2.2.2.2.2.2.1
theorem sq_nonneg (x : Int) : 0 ≤ x * x := by
  rcases Int.le_total 0 x with h | h
  · exact Int.mul_nonneg h h
  · exact Int.mul_nonneg_of_nonpos_of_nonpos h h
theorem Full.dd {t : List (List Int)} (h : Full t) {i j : Nat} (hi : i < t.length) (hj : j < (gi t 0).length) : -256 ≤ dd t i j ∧ dd t i j ≤ 256 ∧ 0 ≤ gi (gi t (i : Int)) (j : Int) * nN t ∧ gi (gi t (i : Int)) (j : Int) * nN t ≤ 256 ∧ ((sqN t i j : Nat) : Int) = Go.Proofs.Ytmmbakggmlfffaa.dd t i j * Go.Proofs.Ytmmbakggmlfffaa.dd t i j ∧ sqN t i j ≤ 65536 := by
  have hn := h.nums hi hj
  have he := h.1.entry hi hj
  have m1 := mul_small (m := 16) (n := 16) he.1 he.2 (show (0 : Int) ≤ nN t by omega) (by omega) (by omega)
  have m2 : rN t i * cN t j ≤ 16 * 16 := Nat.mul_le_mul hn.2.2.2.1 hn.2.2.2.2.2.1
  have b1 : -256 ≤ Go.Proofs.Ytmmbakggmlfffaa.dd t i j ∧ Go.Proofs.Ytmmbakggmlfffaa.dd t i j ≤ 256 := by
    unfold Go.Proofs.Ytmmbakggmlfffaa.dd; omega
  have b2 := sq_nonneg (Go.Proofs.Ytmmbakggmlfffaa.dd t i j)
  have b3 : Go.Proofs.Ytmmbakggmlfffaa.dd t i j * Go.Proofs.Ytmmbakggmlfffaa.dd t i j ≤ 65536 := by
    rcases Int.le_total 0 (Go.Proofs.Ytmmbakggmlfffaa.dd t i j) with h | h
    · have := mul_small h b1.2 h b1.2 (by omega); omega
    · have := mul_small (show 0 ≤ - Go.Proofs.Ytmmbakggmlfffaa.dd t i j by omega) (show - Go.Proofs.Ytmmbakggmlfffaa.dd t i j ≤ 256 by omega) (show 0 ≤ - Go.Proofs.Ytmmbakggmlfffaa.dd t i j by omega) (show - Go.Proofs.Ytmmbakggmlfffaa.dd t i j ≤ 256 by omega) (by omega)
      rw [Int.neg_mul_neg] at this; omega
  unfold sqN
  refine ⟨b1.1, b1.2, m1.1, by omega, by omega, by omega⟩
/-- how great the sum is -/
theorem Full.part {t : List (List Int)} (h : Full t) {i : Nat} (hi : i < t.length) : ∀ {j : Nat}, j ≤ (gi t 0).length → rowOff t i j ≤ j * 17592186044416
  | 0, _ => by simp [rowOff]
  | j + 1, hj => by
    have h1 := h.part hi (j := j) (by omega)
    have h2 := h.dvd hi (j := j) (by omega)
    have h3 := h.dd hi (j := j) (by omega)
    have h4 := h.all
    have h5 : qN t i j ≤ 268435456 := by
      have : qN t i j ≤ allN t := Nat.div_le_self _ _
      omega
    have h6 := Nat.mul_le_mul h5 h3.2.2.2.2.2
    rw [rowOff_succ]; omega
theorem Full.part2 {t : List (List Int)} (h : Full t) : ∀ {i : Nat}, i ≤ t.length → offP t i ≤ i * 52776558133248
  | 0, _ => by simp [offP]
  | i + 1, hi => by
    have h1 := h.part2 (i := i) (by omega)
    have h2 := h.part (i := i) (by omega) (j := (gi t 0).length) (Nat.le_refl _)
    have h3 := h.1.cols
    rw [offP_succ]; omega
theorem off_step {M sq q e D : Nat} (hD : D = e * q) (he : 1 ≤ e) : fracN (M * e + sq * D) (D * e) = fracN (M + q * sq) D := by
  rw [← fracN_scale (m := M + q * sq) (n := D) he]
  congr 1
  · rw [hD]; grind
  · exact Nat.mul_comm _ _
end Go.Proofs.Ytmmbakggmlfffaa
namespace Go.Proofs.Ytmmbakggmlfffaa
open Go Go.AM Go.Proofs
theorem min_zero {xs : List Int} (h : 1 ≤ xs.length) (h0 : ∀ x ∈ xs, 0 ≤ x) : minL xs = 0 ↔ (0 : Int) ∈ xs := by
  have hs := minL_spec h
  constructor
  · intro e; rw [← e]; exact hs.1
  · intro e
    have h1 := hs.2 _ e
    have h2 := h0 _ hs.1
    omega
theorem full_min {t : List (List Int)} (h : TabOk t) : Full t ↔ ¬ minL (rowSums t) = 0 ∧ ¬ minL (colSums t) = 0 := by
  have hc := h.cols
  rw [min_zero (by rw [rowSums_len]; exact h.1) fun x hx => (rowSums_le h x hx).1, min_zero (by rw [colSums_len]; exact hc.1) fun x hx => (colSums_le h x hx).1]
  exact ⟨fun hf => hf.2, fun hf => ⟨h, hf⟩⟩
theorem off_ret {p : Nat → Prop} {H : Heap} {v : AV} {t : List (List Int)} (ht : Sl p H v t) (hF : Full t) : RetP E 19 [v] H (.tp [.ag [.i (fracN (offP t t.length) (allN t)).1, .i (fracN (offP t t.length) (allN t)).2], .i 0]) := by
  refine RetP.ro rfl fn19 rfl rfl ?_
  unfold f19A
  have h := hF.1
  have hm := (full_min h).1 hF
  have hc := h.cols
  have hl1 := h.1
  have hl3 := h.2.1
  have hall := hF.all
  have hlow : Sl (fun b => b < H.length) H v t := ht.low.weak fun _ h => h.2
  have k0 := hlow.app [.cells [.int .i64 0, .int .i64 0]]
  simp (disch := (first | assumption | omega | (simp only [List.length_append, List.length_cons, List.length_nil]; omega))) only [↓wD,wU,Nat.reduceBEq,zx150,zx151,zx159,zx160,zx161,zx162,Nat.reduceAdd,Nat.reduceSub,Nat.reduceMul,Nat.reduceLeDiff,Nat.reduceLT,Nat.reduceEqDiff,Int.reduceAdd,Int.reduceSub,Int.reduceMul,Int.reduceNeg,Int.reduceLT,Int.reduceLE,Int.reduceEq,Int.reduceToNat,Int.cast_ofNat_Int,↓reduceIte, (valid_ret k0).call, decide_eq_true h]
  refine (sums_ret k0 h).toX fun w H1 x1 hw => ?_
  obtain ⟨v1, v2, rfl, h1, h2⟩ := rv2 hw
  have c1 : H1[H.length]? = some (.cells [.i 0, .i 0]) := x1.get trivial (by simp)
  have hl01 := (List.getElem?_eq_some_iff.1 c1).1
  have s1 : Sl (fun b => H.length + 1 ≤ b ∧ b < H1.length) H1 v1 (rowSums t) := (rvs h1).low.weak fun b h => ⟨by have := h.1.resolve_left (fun h => h.elim); simpa using this, h.2⟩
  have s2 : Sl (fun b => H.length + 1 ≤ b ∧ b < H1.length) H1 v2 (colSums t) := (rvs h2).low.weak fun b h => ⟨by have := h.1.resolve_left (fun h => h.elim); simpa using this, h.2⟩
  have kt : Sl (fun b => b < H.length) H1 v t := k0.kp (x1.all _).kp
  have m1 := min_ret s1 (by rw [rowSums_len]; exact h.1)
  have m2 := min_ret s2 (by rw [colSums_len]; exact hc.1)
  have e1' : decide (minL (rowSums t) = 0) = false := decide_eq_false hm.1
  have e2' : decide (minL (colSums t) = 0) = false := decide_eq_false hm.2
  clear h1 h2 hw x1 k0 hm
  have s1I := s1.I
  rw [rowSums_len] at s1I
  simp (disch := (first | assumption | omega | (simp only [List.length_append, List.length_cons, List.length_nil]; omega))) only [↓wD,wU,Nat.reduceBEq,zx150,zx151,zx159,zx160,zx161,zx162,Nat.reduceAdd,Nat.reduceSub,Nat.reduceMul,Nat.reduceLeDiff,Nat.reduceLT,Nat.reduceEqDiff,Int.reduceAdd,Int.reduceSub,Int.reduceMul,Int.reduceNeg,Int.reduceLT,Int.reduceLE,Int.reduceEq,Int.reduceToNat,Int.cast_ofNat_Int,↓reduceIte, m1.call, m2.call, e1', e2', s1I]
  refine Wp.for t.length (fun i a H' => H' = H1 ∧ a 0 = v ∧ a 2 = .p H.length 0 ∧ a 4 = v1 ∧ a 5 = v2 ∧ a 34 = v1 ∧ a 35 = .i t.length ∧ a 36 = .i i ∧ a 6 = .i ((rowSums t).take i).sum ∧ 0 ≤ ((rowSums t).take i).sum ∧ ((rowSums t).take i).sum ≤ 16 * i) ?_ ?_
  · rintro i a H' hi ⟨rfl, a0, a2, a4, a5, a34, a35, a36, a6, b1, b2⟩ ih
    simp (disch := (first | assumption | omega | (simp only [List.length_append, List.length_cons, List.length_nil]; omega))) only [↓wD,wU,Nat.reduceBEq,zx150,zx151,zx159,zx160,zx161,zx162,Nat.reduceAdd,Nat.reduceSub,Nat.reduceMul,Nat.reduceLeDiff,Nat.reduceLT,Nat.reduceEqDiff,Int.reduceAdd,Int.reduceSub,Int.reduceMul,Int.reduceNeg,Int.reduceLT,Int.reduceLE,Int.reduceEq,Int.reduceToNat,Int.cast_ofNat_Int,↓reduceIte, a0, a2, a4, a5, a34, a35, a36, a6]
    refine condP_split (fun hlt => ?_) (fun hlt => ?_)
    · have hi' : i < t.length := by omega
      have hr := rowSums_le h _ (mem_gi (xs := rowSums t) (i := i) (by rw [rowSums_len]; exact hi'))
      have e := sum_take (xs := rowSums t) (i := i) (by rw [rowSums_len]; exact hi')
      simp (disch := (first | assumption | omega | (simp only [List.length_append, List.length_cons, List.length_nil]; omega))) only [↓wD,wU,Nat.reduceBEq,zx150,zx151,zx159,zx160,zx161,zx162,Nat.reduceAdd,Nat.reduceSub,Nat.reduceMul,Nat.reduceLeDiff,Nat.reduceLT,Nat.reduceEqDiff,Int.reduceAdd,Int.reduceSub,Int.reduceMul,Int.reduceNeg,Int.reduceLT,Int.reduceLE,Int.reduceEq,Int.reduceToNat,Int.cast_ofNat_Int,↓reduceIte, a0, a2, a4, a5, a34, a35, a36, a6, s1I]
      refine (ih hi').go ⟨rfl, ?_⟩
      simp (disch := (first | assumption | omega | (simp only [List.length_append, List.length_cons, List.length_nil]; omega))) only [↓wD,wU,Nat.reduceBEq,zx150,zx151,zx159,zx160,zx161,zx162,Nat.reduceAdd,Nat.reduceSub,Nat.reduceMul,Nat.reduceLeDiff,Nat.reduceLT,Nat.reduceEqDiff,Int.reduceAdd,Int.reduceSub,Int.reduceMul,Int.reduceNeg,Int.reduceLT,Int.reduceLE,Int.reduceEq,Int.reduceToNat,Int.cast_ofNat_Int,↓reduceIte, a0, a2, a4, a5, a34, a35, a36, a6, e]
      omega
    · obtain rfl : i = t.length := by omega
      rw [List.take_of_length_le (by rw [rowSums_len]; exact Nat.le_refl _)] at a6
      have hn := hF.nums (i := 0) (j := 0) (by omega) (by omega)
      rw [hn.2.2.2.2.2.2.2.2] at a6
      have hn16 : (1 : Int) ≤ nN t ∧ (nN t : Int) ≤ 16 := by omega
      have fr := frac_ret (H := H') 0 1 (by omega) (by omega) (by omega)
      have f0 : fracN 0 1 = (0, 1) := by decide
      rw [f0] at fr
      simp only [Int.natCast_zero, Int.natCast_one] at fr
      have fD : fracN (offP t 0) (allN t) = (0, 1) := by
        have : fracN (allN t * 0) (allN t * 1) = fracN 0 1 := fracN_scale (by omega)
        rw [Nat.mul_zero, Nat.mul_one] at this
        change fracN 0 (allN t) = _
        rw [this, f0]
      clear hn b1 b2 f0
      simp (disch := (first | assumption | omega | (simp only [List.length_append, List.length_cons, List.length_nil]; omega))) only [↓wD,wU,Nat.reduceBEq,zx150,zx151,zx159,zx160,zx161,zx162,Nat.reduceAdd,Nat.reduceSub,Nat.reduceMul,Nat.reduceLeDiff,Nat.reduceLT,Nat.reduceEqDiff,Int.reduceAdd,Int.reduceSub,Int.reduceMul,Int.reduceNeg,Int.reduceLT,Int.reduceLE,Int.reduceEq,Int.reduceToNat,Int.cast_ofNat_Int,↓reduceIte, a0, a2, a4, a5, a6, fr.call, kt.L]
      have kt' := kt.app [.cells [.i 0, .i 1]]
      refine Wp.for t.length (fun i a Hw => a 0 = v ∧ a 2 = .p H.length 0 ∧ a 4 = v1 ∧ a 5 = v2 ∧ a 6 = .i (nN t) ∧ a 9 = .p H'.length 0 ∧ a 45 = v ∧ a 46 = .i t.length ∧ a 47 = .i i ∧ Kx (fun b => b ≠ H'.length) (H' ++ [.cells [.i 0, .i 1]]) Hw ∧ Hw[H'.length]? = some (.cells [.i (fracN (offP t i) (allN t)).1, .i (fracN (offP t i) (allN t)).2])) ?_ ?_
      · clear a0 a2 a4 a5 a34 a35 a36 a6 ih
        rintro i a Hw hi ⟨a0, a2, a4, a5, a6, a9, a45, a46, a47, hx, cw⟩ ih
        simp (disch := (first | assumption | omega | (simp only [List.length_append, List.length_cons, List.length_nil]; omega))) only [↓wD,wU,Nat.reduceBEq,zx150,zx151,zx159,zx160,zx161,zx162,Nat.reduceAdd,Nat.reduceSub,Nat.reduceMul,Nat.reduceLeDiff,Nat.reduceLT,Nat.reduceEqDiff,Int.reduceAdd,Int.reduceSub,Int.reduceMul,Int.reduceNeg,Int.reduceLT,Int.reduceLE,Int.reduceEq,Int.reduceToNat,Int.cast_ofNat_Int,↓reduceIte, a0, a2, a4, a5, a6, a9, a45, a46, a47]
        refine condP_split (fun hlt => ?_) (fun hlt => ?_)
        · have hi' : i < t.length := by omega
          have ktw := kt'.kp (hx.weak fun b _ h => by omega).kp
          have g := ktw.get (k := (i : Int)) (by omega) (by omega)
          have gw := h.width hi'
          simp (disch := (first | assumption | omega | (simp only [List.length_append, List.length_cons, List.length_nil]; omega))) only [↓wD,wU,Nat.reduceBEq,zx150,zx151,zx159,zx160,zx161,zx162,Nat.reduceAdd,Nat.reduceSub,Nat.reduceMul,Nat.reduceLeDiff,Nat.reduceLT,Nat.reduceEqDiff,Int.reduceAdd,Int.reduceSub,Int.reduceMul,Int.reduceNeg,Int.reduceLT,Int.reduceLE,Int.reduceEq,Int.reduceToNat,Int.cast_ofNat_Int,↓reduceIte, a0, a2, a4, a5, a6, a9, a45, a46, a47, ktw.L, g.I]
          obtain ⟨gu, egu⟩ : ∃ gu, v.get Hw i = gu := ⟨_, rfl⟩
          rw [egu] at g
          refine Wp.for (gi t 0).length (fun j a Hz => a 0 = v ∧ a 2 = .p H.length 0 ∧ a 4 = v1 ∧ a 5 = v2 ∧ a 6 = .i (nN t) ∧ a 9 = .p H'.length 0 ∧ a 45 = v ∧ a 46 = .i t.length ∧ a 47 = .i i ∧ a 10 = .i i ∧ a 52 = gu ∧ a 53 = .i (gi t 0).length ∧ a 54 = .i j ∧ Kx (fun b => b ≠ H'.length) (H' ++ [.cells [.i 0, .i 1]]) Hz ∧ Kx (fun b => b ≠ H'.length) Hw Hz ∧ Hz[H'.length]? = some (.cells [.i (fracN (offP t i + rowOff t i j) (allN t)).1, .i (fracN (offP t i + rowOff t i j) (allN t)).2])) ?_ ?_
          · clear a0 a2 a4 a5 a6 a9 a45 a46 a47
            rintro j a Hz hj ⟨a0, a2, a4, a5, a6, a9, a45, a46, a47, a10, a52, a53, a54, hxz, hwz, cz⟩ ih2
            simp (disch := (first | assumption | omega | (simp only [List.length_append, List.length_cons, List.length_nil]; omega))) only [↓wD,wU,Nat.reduceBEq,zx150,zx151,zx159,zx160,zx161,zx162,Nat.reduceAdd,Nat.reduceSub,Nat.reduceMul,Nat.reduceLeDiff,Nat.reduceLT,Nat.reduceEqDiff,Int.reduceAdd,Int.reduceSub,Int.reduceMul,Int.reduceNeg,Int.reduceLT,Int.reduceLE,Int.reduceEq,Int.reduceToNat,Int.cast_ofNat_Int,↓reduceIte, a0, a2, a4, a5, a6, a9, a45, a46, a47, a10, a52, a53, a54]
            refine condP_split (fun hlt2 => ?_) (fun hlt2 => ?_)
            · have hj' : j < (gi t 0).length := by omega
              have gz : Sl (fun b => b < H.length) Hz gu (gi t (i : Int)) := g.kp (hwz.weak fun b _ h => by omega).kp
              have s1z := (s1.app [.cells [.i 0, .i 1]]).kp (hxz.weak fun b _ h => by omega).kp
              have s2z := (s2.app [.cells [.i 0, .i 1]]).kp (hxz.weak fun b _ h => by omega).kp
              obtain ⟨nr, nc, r1, r16, c1', c16, n1, n16, _⟩ := hF.nums hi' hj'
              obtain ⟨eD, e1, e4⟩ := hF.dvd hi' hj'
              obtain ⟨d1, d2, p1, p2, sqd, sq6⟩ := hF.dd hi' hj'
              have pm := hF.part2 (i := i) (by omega)
              have pr := hF.part hi' (j := j) (by omega)
              have pl := plus_ret (H := Hz) (a := offP t i + rowOff t i j) (b := allN t) (c := sqN t i j) (d := eN t i j) (by omega) (by omega) sq6 e4 (by omega) (by omega)
              rw [off_step eD e1] at pl
              have fr := frac_ret (H := Hz) (sqN t i j) (eN t i j) (by omega) (by omega) (by omega)
              have m1 : (rN t i : Int) * cN t j = ((rN t i * cN t j : Nat) : Int) := by simp
              have l1 : rN t i * cN t j ≤ 256 := Nat.mul_le_mul r16 c16
              have m2 : ((rN t i * cN t j : Nat) : Int) * nN t = ((eN t i j : Nat) : Int) := by unfold eN; simp
              have m3 : gi (gi t (i : Int)) (j : Int) * nN t - ((rN t i * cN t j : Nat) : Int) = dd t i j := rfl
              have eOff := rowOff_succ (t := t) (i := i) (j := j)
              have hge := h.entry hi' hj'
              have s1I := s1z.I
              rw [rowSums_len] at s1I
              have s2I := s2z.I
              rw [colSums_len] at s2I
              have gI := gz.I
              rw [gw] at gI
              have hlz := hxz.1
              generalize fracN (offP t i + rowOff t i j) (allN t) = F0 at pl cz
              rw [show offP t i + rowOff t i j + qN t i j * sqN t i j = offP t i + rowOff t i (j + 1) by omega] at pl
              generalize fracN (sqN t i j) (eN t i j) = F1 at pl fr
              have eF : fracN (offP t i + rowOff t i (j + 1)) (allN t) = fracN (offP t i + rowOff t i (j + 1)) (allN t) := rfl
              generalize e2 : fracN (offP t i + rowOff t i (j + 1)) (allN t) = F2 at pl
              clear eF eOff eD pm pr
              generalize rN t i * cN t j = rc at m1 m2 m3 l1
              generalize eN t i j = ee at m2 fr pl e1 e4
              generalize dd t i j = d at m3 d1 d2 sqd
              generalize sqN t i j = sq at sqd sq6 fr
              have sqd' : d * d = sq := sqd.symm
              clear sqd
              obtain ⟨F0a, F0b⟩ := F0
              obtain ⟨F1a, F1b⟩ := F1
              obtain ⟨F2a, F2b⟩ := F2
              simp only at pl fr cz
              simp (disch := (first | assumption | omega | (simp only [List.length_append, List.length_cons, List.length_nil]; omega))) only [↓wD,wU,Nat.reduceBEq,zx150,zx151,zx159,zx160,zx161,zx162,Nat.reduceAdd,Nat.reduceSub,Nat.reduceMul,Nat.reduceLeDiff,Nat.reduceLT,Nat.reduceEqDiff,Int.reduceAdd,Int.reduceSub,Int.reduceMul,Int.reduceNeg,Int.reduceLT,Int.reduceLE,Int.reduceEq,Int.reduceToNat,Int.cast_ofNat_Int,↓reduceIte, a0, a2, a4, a5, a6, a9, a45, a46, a47, a10, a52, a53, a54, gI, s1I, s2I, nr, nc, m1, m2, m3, sqd', ldn_of cz, fr.call, pl.call, st_of cz]
              refine (ih2 hj').go ?_
              simp (disch := (first | assumption | omega | (simp only [List.length_append, List.length_cons, List.length_nil]; omega))) only [↓wD,wU,Nat.reduceBEq,zx150,zx151,zx159,zx160,zx161,zx162,Nat.reduceAdd,Nat.reduceSub,Nat.reduceMul,Nat.reduceLeDiff,Nat.reduceLT,Nat.reduceEqDiff,Int.reduceAdd,Int.reduceSub,Int.reduceMul,Int.reduceNeg,Int.reduceLT,Int.reduceLE,Int.reduceEq,Int.reduceToNat,Int.cast_ofNat_Int,↓reduceIte, a0, a2, a4, a5, a6, a9, a45, a46, a47, a10, a52, a53, a54, e2]
              exact ⟨hxz.set' (fun _ h => h rfl) _, hwz.set' (fun _ h => h rfl) _, get_set cz⟩
            · obtain rfl : j = (gi t 0).length := by omega
              rw [← offP_succ] at cz
              simp (disch := (first | assumption | omega | (simp only [List.length_append, List.length_cons, List.length_nil]; omega))) only [↓wD,wU,Nat.reduceBEq,zx150,zx151,zx159,zx160,zx161,zx162,Nat.reduceAdd,Nat.reduceSub,Nat.reduceMul,Nat.reduceLeDiff,Nat.reduceLT,Nat.reduceEqDiff,Int.reduceAdd,Int.reduceSub,Int.reduceMul,Int.reduceNeg,Int.reduceLT,Int.reduceLE,Int.reduceEq,Int.reduceToNat,Int.cast_ofNat_Int,↓reduceIte, a0, a2, a4, a5, a6, a9, a45, a46, a47, a10, a52, a53, a54]
              refine (ih hi').go ?_
              simp (disch := (first | assumption | omega | (simp only [List.length_append, List.length_cons, List.length_nil]; omega))) only [↓wD,wU,Nat.reduceBEq,zx150,zx151,zx159,zx160,zx161,zx162,Nat.reduceAdd,Nat.reduceSub,Nat.reduceMul,Nat.reduceLeDiff,Nat.reduceLT,Nat.reduceEqDiff,Int.reduceAdd,Int.reduceSub,Int.reduceMul,Int.reduceNeg,Int.reduceLT,Int.reduceLE,Int.reduceEq,Int.reduceToNat,Int.cast_ofNat_Int,↓reduceIte, a0, a2, a4, a5, a6, a9, a45, a46, a47]
              exact ⟨hxz, cz⟩
          · simp (disch := (first | assumption | omega | (simp only [List.length_append, List.length_cons, List.length_nil]; omega))) only [↓wD,wU,Nat.reduceBEq,zx150,zx151,zx159,zx160,zx161,zx162,Nat.reduceAdd,Nat.reduceSub,Nat.reduceMul,Nat.reduceLeDiff,Nat.reduceLT,Nat.reduceEqDiff,Int.reduceAdd,Int.reduceSub,Int.reduceMul,Int.reduceNeg,Int.reduceLT,Int.reduceLE,Int.reduceEq,Int.reduceToNat,Int.cast_ofNat_Int,↓reduceIte, a0, a2, a4, a5, a6, a9, a45, a46, a47, egu, gw]
            exact ⟨hx, Kx.refl _ _, by simpa [rowOff] using cw⟩
        · obtain rfl : i = t.length := by omega
          have cw2 := hx.get (b := H.length) (by omega) ((Kx.app (fun _ => True) H' _).get trivial c1)
          have hst : st H.length Hw H.length 0 [.i (fracN (offP t t.length) (allN t)).1, .i (fracN (offP t t.length) (allN t)).2] = some (Hw.set H.length (.cells [.i (fracN (offP t t.length) (allN t)).1, .i (fracN (offP t t.length) (allN t)).2])) := by rw [st_of cw2 (Nat.le_refl _) (by simp)]; simp [wr]
          simp (disch := (first | assumption | omega | (simp only [List.length_append, List.length_cons, List.length_nil]; omega))) only [↓wD,wU,Nat.reduceBEq,zx150,zx151,zx159,zx160,zx161,zx162,Nat.reduceAdd,Nat.reduceSub,Nat.reduceMul,Nat.reduceLeDiff,Nat.reduceLT,Nat.reduceEqDiff,Int.reduceAdd,Int.reduceSub,Int.reduceMul,Int.reduceNeg,Int.reduceLT,Int.reduceLE,Int.reduceEq,Int.reduceToNat,Int.cast_ofNat_Int,↓reduceIte, a0, a2, a4, a5, a6, a9, a45, a46, a47, ldn_of cw, hst]
          simp (disch := (first | assumption | omega | (simp only [List.length_append, List.length_cons, List.length_nil]; omega))) only [↓wD,wU,Nat.reduceBEq,zx150,zx151,zx159,zx160,zx161,zx162,Nat.reduceAdd,Nat.reduceSub,Nat.reduceMul,Nat.reduceLeDiff,Nat.reduceLT,Nat.reduceEqDiff,Int.reduceAdd,Int.reduceSub,Int.reduceMul,Int.reduceNeg,Int.reduceLT,Int.reduceLE,Int.reduceEq,Int.reduceToNat,Int.cast_ofNat_Int,↓reduceIte, ldn_of (get_set cw2)]
      · simp (disch := (first | assumption | omega | (simp only [List.length_append, List.length_cons, List.length_nil]; omega))) only [↓wD,wU,Nat.reduceBEq,zx150,zx151,zx159,zx160,zx161,zx162,Nat.reduceAdd,Nat.reduceSub,Nat.reduceMul,Nat.reduceLeDiff,Nat.reduceLT,Nat.reduceEqDiff,Int.reduceAdd,Int.reduceSub,Int.reduceMul,Int.reduceNeg,Int.reduceLT,Int.reduceLE,Int.reduceEq,Int.reduceToNat,Int.cast_ofNat_Int,↓reduceIte, a0, a2, a4, a5, a6]
        rw [fD]
        exact ⟨Kx.refl _ _, by simp⟩
  · (simp (disch := (first | assumption | omega | (simp only [List.length_append, List.length_cons, List.length_nil]; omega))) only [↓wD,wU,Nat.reduceBEq,zx150,zx151,zx159,zx160,zx161,zx162,Nat.reduceAdd,Nat.reduceSub,Nat.reduceMul,Nat.reduceLeDiff,Nat.reduceLT,Nat.reduceEqDiff,Int.reduceAdd,Int.reduceSub,Int.reduceMul,Int.reduceNeg,Int.reduceLT,Int.reduceLE,Int.reduceEq,Int.reduceToNat,Int.cast_ofNat_Int,↓reduceIte]) <;> simp
end Go.Proofs.Ytmmbakggmlfffaa
namespace Go.Proofs.Ytmmbakggmlfffaa
open Go Go.AM Go.Proofs
theorem mg_rows {t : List (List Int)} (h : TabOk t) : MgOk (rowSums t) := by
  refine ⟨by rw [rowSums_len]; exact h.1, by rw [rowSums_len]; exact h.2.1, fun x hx => rowSums_le h x hx, ?_⟩
  have := total_le h
  exact this
theorem family_ret {p : Nat → Prop} {H : Heap} {v : AV} {t : List (List Int)} (ht : Sl p H v t) (h : TabOk t) : Ret E 36 [v] (fun _ => False) H (rowSums t, colSums t) := by
  refine Ret.ro rfl fn36 rfl ?_
  unfold f36A
  simp (disch := (first | assumption | omega | (simp only [List.length_append, List.length_cons, List.length_nil]; omega))) only [↓wD,wU,Nat.reduceBEq,zx150,zx151,zx159,zx160,zx161,zx162,Nat.reduceAdd,Nat.reduceSub,Nat.reduceMul,Nat.reduceLeDiff,Nat.reduceLT,Nat.reduceEqDiff,Int.reduceAdd,Int.reduceSub,Int.reduceMul,Int.reduceNeg,Int.reduceLT,Int.reduceLE,Int.reduceEq,Int.reduceToNat,Int.cast_ofNat_Int,↓reduceIte]
  refine (sums_ret (ht.app [.cells [.nils, .nils]]) h).toX fun w H2 x2 hw => ?_
  obtain ⟨v1, v2, rfl, h1, h2⟩ := rv2 hw
  have c2 : H2[H.length]? = some (.cells [.nils, .nils]) := x2.get trivial get_last
  have s1 := rvs h1
  have s2 := rvs h2
  have hst : st H.length H2 H.length 0 [v1, v2] = some (H2.set H.length (.cells [v1, v2])) := by rw [st_of c2 (Nat.le_refl _) (by simp)]; simp [wr]
  have k1 : Sl (fun b => H.length + 1 ≤ b) (H2.set H.length (.cells [v1, v2])) v1 (rowSums t) := (s1.weak (q := fun b => H.length + 1 ≤ b) fun b h => h.elim (fun h => h.elim) fun h => by simpa using h).kp ((Kp.set _ _ _).weak fun b h => by omega)
  have k2 : Sl (fun b => H.length + 1 ≤ b) (H2.set H.length (.cells [v1, v2])) v2 (colSums t) := (s2.weak (q := fun b => H.length + 1 ≤ b) fun b h => h.elim (fun h => h.elim) fun h => by simpa using h).kp ((Kp.set _ _ _).weak fun b h => by omega)
  simp (disch := (first | assumption | omega | (simp only [List.length_append, List.length_cons, List.length_nil]; omega))) only [↓wD,wU,Nat.reduceBEq,zx150,zx151,zx159,zx160,zx161,zx162,Nat.reduceAdd,Nat.reduceSub,Nat.reduceMul,Nat.reduceLeDiff,Nat.reduceLT,Nat.reduceEqDiff,Int.reduceAdd,Int.reduceSub,Int.reduceMul,Int.reduceNeg,Int.reduceLT,Int.reduceLE,Int.reduceEq,Int.reduceToNat,Int.cast_ofNat_Int,↓reduceIte, s1.cellsV, s2.cellsV, hst, ldn_of (get_set c2)]
  exact ⟨_, rfl, [v1], [v2], rfl, ⟨v1, rfl, k1.weak fun b h => .inr (by omega)⟩, ⟨v2, rfl, k2.weak fun b h => .inr (by omega)⟩⟩
end Go.Proofs.Ytmmbakggmlfffaa
namespace Go.Proofs.Ytmmbakggmlfffaa
open Go Go.AM Go.Proofs
/-- a sum -/
def is (m : Nat) (f : Nat → Int) : Int := ((List.range m).map f).sum
theorem is_0 {f : Nat → Int} : is 0 f = 0 := by simp [is]
theorem is_succ {m : Nat} {f : Nat → Int} : is (m + 1) f = is m f + f m := by
  unfold is; rw [List.range_succ, List.map_append, List.sum_append]; simp
theorem is_congr {m : Nat} {f g : Nat → Int} (h : ∀ k, k < m → f k = g k) : is m f = is m g := by
  induction m with
  | zero => rfl
  | succ m ih => rw [is_succ, is_succ, ih fun k hk => h k (by omega), h m (by omega)]
theorem is_add {m : Nat} {f g : Nat → Int} : is m (fun k => f k + g k) = is m f + is m g := by
  induction m with
  | zero => rfl
  | succ m ih => rw [is_succ, is_succ, is_succ, ih]; omega
theorem is_const {m : Nat} {c : Int} : is m (fun _ => c) = m * c := by
  induction m with
  | zero => simp [is_0]
  | succ m ih => rw [is_succ, ih]; push_cast; rw [Int.add_mul]; omega
theorem sum_is : ∀ {xs : List Int} {m : Nat}, m ≤ xs.length → (xs.take m).sum = is m fun k => gi xs (k : Int)
  | xs, 0, _ => by simp [is_0]
  | xs, m + 1, h => by rw [sum_take (by omega), is_succ, sum_is (by omega)]
theorem Full.cell {t : List (List Int)} (h : Full t) {i j : Nat} (hi : i < t.length) (hj : j < (gi t 0).length) :
    (allN t : Int) = rN t i * cN t j * nN t * qN t i j ∧ ((qN t i j * sqN t i j : Nat) : Int) = qN t i j * ((gi (gi t (i : Int)) (j : Int) * nN t - rN t i * cN t j) * (gi (gi t (i : Int)) (j : Int) * nN t - rN t i * cN t j)) ∧ 0 ≤ gi (gi t (i : Int)) (j : Int) ∧ gi (gi t (i : Int)) (j : Int) ≤ rN t i ∧ gi (gi t (i : Int)) (j : Int) ≤ cN t j := by
  have hn := h.nums hi hj
  have hd := h.dd hi hj
  have he := h.1.entry hi hj
  refine ⟨?_, ?_, he.1, ?_, ?_⟩
  · conv => lhs; rw [(h.dvd hi hj).1]
    unfold eN; push_cast; rfl
  · rw [Int.natCast_mul, hd.2.2.2.2.1]
    unfold Go.Proofs.Ytmmbakggmlfffaa.dd; push_cast; rfl
  · rw [← hn.1, rowSums_at hi]
    exact le_sum (fun y hy => ((h.1.2.2.1 _ (mem_gi hi)).2.2.2 y hy).1) (mem_gi (by rw [h.1.width hi]; exact hj))
  · rw [← hn.2.1, colSums_at hj]
    have key : ∀ m, m ≤ t.length → i < m → gi (gi t (i : Int)) (j : Int) ≤ colPart t m j := by
      intro m
      induction m with
      | zero => omega
      | succ m ih =>
        intro hm him
        rw [colPart_succ (by omega)]
        have e := h.1.entry (show m < t.length by omega) hj
        by_cases hh : i = m
        · subst hh
          have := (h.1.colPart (i := i) hj).1
          omega
        · have := ih (by omega) (by omega)
          omega
    exact key t.length (Nat.le_refl _) hi
theorem cols_sum {t : List (List Int)} (h : TabOk t) : is (gi t 0).length (fun j => colPart t t.length j) = (rowSums t).sum := by
  have key : ∀ m, m ≤ t.length → is (gi t 0).length (fun j => colPart t m j) = ((rowSums t).take m).sum := by
    intro m
    induction m with
    | zero =>
      intro _
      simp only [colPart_0]
      rw [is_const]; simp
    | succ m ih =>
      intro hm
      rw [sum_take (by rw [rowSums_len]; omega), ← ih (by omega), rowSums_at (by omega)]
      rw [is_congr fun k hk => colPart_succ (t := t) (i := m) (j := k) (by omega), is_add]
      congr 1
      rw [← sum_is (by rw [h.width (by omega)]; exact Nat.le_refl _), List.take_of_length_le (by rw [h.width (by omega)]; exact Nat.le_refl _)]
  have := key t.length (Nat.le_refl _)
  rwa [List.take_of_length_le (by rw [rowSums_len]; exact Nat.le_refl _)] at this
end Go.Proofs.Ytmmbakggmlfffaa
namespace Go.Proofs.Ytmmbakggmlfffaa
open Go Go.AM Go.Proofs
theorem family_range {lo : Nat} {v w : AV} {xs ys : List Int} {Hr H1 : Heap} {K0 K : Nat → Prop} {Q : Bool → (Nat → Prop) → Heap → Prop} (hlo : lo ≤ Hr.length) (hx : Sl (fun b => ¬ K0 b) Hr v xs) (hy : Sl (fun b => ¬ K0 b) Hr w ys) (h1 : MgOk xs) (h2 : MgOk ys) (hK0 : ∀ b, K0 b → b < Hr.length)
    (e : H1.length = Hr.length + 1) (hx' : Kx (fun _ => True) Hr H1) (hK : ∀ b, K b ↔ K0 b ∨ b = Hr.length) (hI : Its E lo (.yl Hr.length) (Hr.length + 1) ArgT Q (tabsL xs ys) K H1) :
    WpF E lo 37 [.ag [v, w], .yl Hr.length] H1 fun _ H' => ∃ ok K', Q ok K' H' := by
  rw [← e] at hI
  have hn : ∀ b, ¬ K0 b ∧ b < Hr.length → ¬ K b := fun b h q => by
    rcases (hK b).1 q with q | q
    · exact h.1 q
    · omega
  exact all_it (by omega) ⟨rfl, rfl⟩ ((hx.low.kp (hx'.all _).kp).weak hn) ((hy.low.kp (hx'.all _).kp).weak hn) h1.1 h1.2.1 h2.1 h2.2.1 h1.el h2.el (fun b q => by
    rcases (hK b).1 q with q | q
    · have := hK0 b q; omega
    · omega) hI
/-- what holds between rounds: c the cell of the slice -/
def FamI (c : Nat) (ts : List (List (List Int))) (i : Nat) (K : Nat → Prop) (H1 : Heap) : Prop := ∃ u, H1[c]? = some (.cells [u]) ∧ K c ∧ Acc (c + 1) (fun b => K b ∧ c < b) H1 u (ts.take i) ∧ ∀ b, u.blk = some b → K b
theorem FamI.st {c : Nat} {ts : List (List (List Int))} {i : Nat} {K : Nat → Prop} {H1 H2 : Heap} {P : Nat → Prop} (h : FamI c ts i K H1) (hx : Kx (fun b => P b ∨ K b) H1 H2) : FamI c ts i K H2 := by
  obtain ⟨u, h1, h2, h3, h4⟩ := h
  exact ⟨u, hx.get (.inr h2) h1, h2, h3.kp hx.kp (fun b e => .inr (h4 b e)) (fun b h => .inr h.1), h4⟩
theorem mg_cols {t : List (List Int)} (h : TabOk t) (hs : (colSums t).sum ≤ 16) : MgOk (colSums t) := by
  have hc := h.cols
  refine ⟨by rw [colSums_len]; omega, by rw [colSums_len]; omega, colSums_le h, hs⟩
theorem cols_le {t : List (List Int)} (h : TabOk t) : (colSums t).sum ≤ 16 := by
  have := cols_sum h
  have h2 := total_le h
  unfold is at this
  show ((List.range (gi t 0).length).map fun j => colPart t t.length j).sum ≤ 16
  omega
end Go.Proofs.Ytmmbakggmlfffaa
namespace Go.Proofs.Ytmmbakggmlfffaa
open Go Go.AM Go.Proofs
theorem lines_sum : ∀ {cs : List Int} {need : Int} {l : List Int}, 0 ≤ need → l ∈ lines cs need → l.sum = need
  | [], need, l, h0, h => by
    unfold lines at h
    split at h <;> simp at h
    subst h; simp; omega
  | c :: cs, need, l, h0, h => by
    unfold lines at h
    rw [List.mem_flatMap] at h
    obtain ⟨x, hx, h⟩ := h
    have := List.mem_range.1 hx
    obtain ⟨l', h1, rfl⟩ := List.mem_map.1 h
    rw [List.sum_cons, lines_sum (by omega) h1]
    omega
theorem tabsL_sums : ∀ {rs L : List Int} {t : List (List Int)}, (∀ r ∈ rs, 0 ≤ r) → t ∈ tabsL rs L → rowSums t = rs ∧ ∀ r ∈ t, r.length = L.length
  | [], L, t, _, h => by
    unfold tabsL at h
    split at h <;> simp at h
    subst h; simp [rowSums]
  | r :: rs, L, t, hr, h => by
    unfold tabsL at h
    rw [List.mem_flatMap] at h
    obtain ⟨l, hl, h⟩ := h
    obtain ⟨t', h1, rfl⟩ := List.mem_map.1 h
    obtain ⟨i1, i2⟩ := tabsL_sums (fun x hx => hr x (by simp [hx])) h1
    have hll := lines_mem hl
    rw [subL_len hll] at i2
    refine ⟨?_, fun q hq => ?_⟩
    · unfold rowSums at i1 ⊢
      rw [List.map_cons, i1, lines_sum (hr r (by simp)) hl]
    · rcases List.mem_cons.1 hq with rfl | hq
      · exact hll
      · exact i2 q hq
theorem colPart_cons {l : List Int} {t : List (List Int)} {j : Nat} : colPart (l :: t) (l :: t).length j = gi l (j : Int) + colPart t t.length j := by
  simp [colPart]
theorem tabsL_cols : ∀ {rs L : List Int} {t : List (List Int)}, (∀ r ∈ rs, 0 ≤ r ∧ r ≤ 16) → (∀ x ∈ L, 0 ≤ x ∧ x ≤ 16) → t ∈ tabsL rs L → ∀ j : Nat, j < L.length → colPart t t.length j = gi L (j : Int)
  | [], L, t, _, hL, h, j, hj => by
    unfold tabsL at h
    split at h <;> simp at h
    rename_i hm
    subst h
    have h1 := (maxL_spec (xs := L) (by omega)).2 _ (mem_gi hj)
    have h2 := hL _ (mem_gi hj)
    simp [colPart]
    omega
  | r :: rs, L, t, hr, hL, h, j, hj => by
    unfold tabsL at h
    rw [List.mem_flatMap] at h
    obtain ⟨l, hl, h⟩ := h
    obtain ⟨t', h1, rfl⟩ := List.mem_map.1 h
    have hr0 := hr r (by simp)
    have hll := lines_mem hl
    rw [colPart_cons, tabsL_cols (fun x hx => hr x (by simp [hx])) (lines_el hr0.1 hr0.2 hL hl).2 h1 j (by rw [subL_len hll]; exact hj), subL_gi hll hj]
    omega
end Go.Proofs.Ytmmbakggmlfffaa
namespace Go.Proofs.Ytmmbakggmlfffaa
open Go Go.AM Go.Proofs
theorem tabsL_el : ∀ {rs L : List Int} {t : List (List Int)}, (∀ r ∈ rs, 0 ≤ r ∧ r ≤ 16) → (∀ x ∈ L, 0 ≤ x ∧ x ≤ 16) → t ∈ tabsL rs L → ∀ r ∈ t, ∀ x ∈ r, 0 ≤ x ∧ x ≤ 16
  | [], L, t, _, _, h => by
    unfold tabsL at h
    split at h <;> simp at h
    subst h; simp
  | r :: rs, L, t, hr, hL, h => by
    unfold tabsL at h
    rw [List.mem_flatMap] at h
    obtain ⟨l, hl, h⟩ := h
    obtain ⟨t', h1, rfl⟩ := List.mem_map.1 h
    have hr0 := hr r (by simp)
    obtain ⟨e1, e2⟩ := lines_el hr0.1 hr0.2 hL hl
    intro q hq
    rcases List.mem_cons.1 hq with rfl | hq
    · exact e1
    · exact tabsL_el (fun x hx => hr x (by simp [hx])) e2 h1 q hq
theorem family_ok {t t' : List (List Int)} (h : TabOk t) (h' : t' ∈ tabsL (rowSums t) (colSums t)) : TabOk t' ∧ rowSums t' = rowSums t ∧ colSums t' = colSums t := by
  have hc := h.cols
  have m1 := mg_rows h
  have m2 := mg_cols h (cols_le h)
  obtain ⟨s1, s2⟩ := tabsL_sums (fun r hr => (m1.el r hr).1) h'
  have s3 := tabsL_el m1.el m2.el h'
  have s4 := tabsL_cols m1.el m2.el h'
  have s5 := tabsL_mem h'
  rw [rowSums_len] at s5
  have l1 := h.1
  have l2 := h.2.1
  have g0 : (gi t' 0).length = (gi t 0).length := by
    have := s2 _ (mem_gi (xs := t') (i := 0) (by omega))
    rwa [colSums_len] at this
  refine ⟨⟨by omega, by omega, fun r hr => ⟨?_, ?_, ?_, s3 r hr⟩, ?_⟩, s1, ?_⟩
  · rw [s2 r hr, colSums_len]; omega
  · rw [s2 r hr, colSums_len]; omega
  · rw [s2 r hr, colSums_len, g0]
  · have := total_le h
    rw [← s1] at this
    exact this
  · apply List.ext_getElem (by rw [colSums_len, colSums_len, g0])
    intro j j1 j2
    have e := s4 j j2
    rw [colSums_len] at j1 j2
    rw [← gi_nat, ← gi_nat, colSums_at j1, e]
end Go.Proofs.Ytmmbakggmlfffaa
namespace Go.Proofs.Ytmmbakggmlfffaa
open Go Go.AM Go.Proofs
theorem u64_idx {k : Int} {n : Nat} (h : 0 < n) (h1 : n ≤ 1000000000) : ∃ r : Nat, r < n ∧ IntKind.wrap .u64 (n : Int) = n ∧ (IntKind.wrap .u64 k).tmod n = r ∧ IntKind.wrap .i64 (r : Int) = r := by
  have h2 : 0 ≤ IntKind.wrap .u64 k := by
    have e1 : IntKind.u64.bits = 64 := rfl
    have e2 : IntKind.u64.signed = false := rfl
    simp only [IntKind.wrap, e1, e2, Bool.false_and, Bool.false_eq_true, if_false]
    exact Int.emod_nonneg _ (by decide)
  have h3 := Int.tmod_nonneg (n : Int) h2
  have h4 := Int.tmod_lt_of_pos (IntKind.wrap .u64 k) (show (0 : Int) < n by omega)
  obtain ⟨r, hr⟩ := Int.eq_ofNat_of_zero_le h3
  exact ⟨r, by omega, wrapU (by omega) (by omega), hr, zx172 (by omega) (by omega)⟩
end Go.Proofs.Ytmmbakggmlfffaa
namespace Go.Proofs.Ytmmbakggmlfffaa
open Go Go.AM Go.Proofs
def bin : Nat → Nat → Nat
  | _, 0 => 1
  | 0, _ + 1 => 0
  | n + 1, k + 1 => bin n k + bin n (k + 1)
theorem bin_0 {n : Nat} : bin n 0 = 1 := by cases n <;> rfl
theorem bin_mul : ∀ {n k : Nat}, bin (n + 1) (k + 1) * (k + 1) = bin n k * (n + 1)
  | 0, 0 => rfl
  | 0, k + 1 => by simp [bin]
  | n + 1, 0 => by
    have h := bin_mul (n := n) (k := 0)
    rw [bin_0] at h ⊢
    have e : bin (n + 1 + 1) (0 + 1) = bin (n + 1) 0 + bin (n + 1) (0 + 1) := rfl
    rw [e, bin_0]
    omega
  | n + 1, k + 1 => by
    have h1 := bin_mul (n := n) (k := k)
    have h2 := bin_mul (n := n) (k := k + 1)
    have e : bin (n + 1 + 1) (k + 1 + 1) = bin (n + 1) (k + 1) + bin (n + 1) (k + 1 + 1) := rfl
    have e2 : bin (n + 1) (k + 1) = bin n k + bin n (k + 1) := rfl
    rw [e, Nat.add_mul, h2, Nat.mul_add (bin (n + 1) (k + 1)) (k + 1) 1, h1]
    conv => lhs; rw [e2]
    conv => rhs; rw [e2]
    grind
theorem bin_pos : ∀ {n k : Nat}, k ≤ n → 0 < bin n k
  | n, 0, _ => by rw [bin_0]; omega
  | 0, k + 1, h => by omega
  | n + 1, k + 1, h => by
    have := bin_pos (n := n) (k := k) (by omega)
    show 0 < bin n k + bin n (k + 1)
    omega
theorem bin_le : ∀ {n k : Nat}, bin (n + 1) k ≤ 2 ^ n
  | n, 0 => by rw [bin_0]; exact Nat.one_le_two_pow
  | 0, k + 1 => by cases k <;> simp [bin]
  | n + 1, k + 1 => by
    have h1 := bin_le (n := n) (k := k)
    have h2 := bin_le (n := n) (k := k + 1)
    have e : bin (n + 1 + 1) (k + 1) = bin (n + 1) k + bin (n + 1) (k + 1) := rfl
    rw [e, Nat.pow_succ]; omega
theorem bin_small {n k : Nat} (h : n ≤ 16) : bin n k ≤ 32768 := by
  cases n with
  | zero => cases k <;> simp [bin]
  | succ n => exact Nat.le_trans bin_le (Nat.pow_le_pow_right (n := 2) (by omega) (show n ≤ 15 by omega))
theorem bin_self : ∀ {n : Nat}, bin n n = 1
  | 0 => rfl
  | n + 1 => by
    have z : ∀ {m k : Nat}, m < k → bin m k = 0 := by
      intro m
      induction m with
      | zero => intro k h; cases k with
        | zero => omega
        | succ k => rfl
      | succ m ih => intro k h; cases k with
        | zero => omega
        | succ k =>
          show bin m k + bin m (k + 1) = 0
          rw [ih (by omega), ih (by omega)]
    show bin n n + bin n (n + 1) = 1
    rw [bin_self, z (by omega)]
/-- in how many orders things come of which n stand before -/
def ordN : Nat → List Nat → Nat
  | _, [] => 1
  | n, k :: ks => bin (n + k) k * ordN (n + k) ks
theorem ordN_app : ∀ {ks : List Nat} {n j : Nat}, ordN n (ks ++ [j]) = ordN n ks * bin (n + ks.sum + j) j
  | [], n, j => by simp [ordN]
  | k :: ks, n, j => by
    rw [List.cons_append]
    show bin (n + k) k * ordN (n + k) (ks ++ [j]) = bin (n + k) k * ordN (n + k) ks * _
    rw [ordN_app, Nat.mul_assoc, List.sum_cons, Nat.add_assoc n k]
theorem ordN_pos : ∀ {ks : List Nat} {n : Nat}, 0 < ordN n ks
  | [], n => by simp [ordN]
  | k :: ks, n => Nat.mul_pos (bin_pos (by omega)) ordN_pos
theorem ordN_le {ks : List Nat} (hl : ks.length ≤ 3) (hs : ks.sum ≤ 16) : ordN 0 ks ≤ 1073741824 := by
  match ks, hl with
  | [], _ => simp [ordN]
  | [a], _ => simp [ordN, bin_self]
  | [a, b], _ =>
    simp at hs
    simp [ordN, bin_self]
    exact Nat.le_trans (bin_small (by omega)) (by omega)
  | [a, b, c], _ =>
    simp at hs
    simp [ordN, bin_self]
    exact Nat.le_trans (Nat.mul_le_mul (bin_small (n := a + b) (k := b) (by omega)) (bin_small (n := a + b + c) (k := c) (by omega))) (by omega)
  | _ :: _ :: _ :: _ :: _, h => simp at h
theorem ord_step (P s j : Nat) : (((P * bin (s + j) j : Nat) : Int) * ((s : Int) + (j : Int) + 1)).tdiv ((j : Int) + 1) = ((P * bin (s + (j + 1)) (j + 1) : Nat) : Int) := by
  have e : (((P * bin (s + j) j : Nat) : Int) * ((s : Int) + (j : Int) + 1)) = ((P * bin (s + (j + 1)) (j + 1) * (j + 1) : Nat) : Int) := by
    have : P * bin (s + j) j * (s + j + 1) = P * bin (s + (j + 1)) (j + 1) * (j + 1) := by
      rw [Nat.mul_assoc, Nat.mul_assoc, ← Nat.add_assoc, bin_mul]
    rw [← this]
    simp
  rw [e, show ((j : Int) + 1) = ((j + 1 : Nat) : Int) by simp, tdivN, Nat.mul_div_cancel _ (by omega)]
def toN (xs : List Int) : List Nat := xs.map Int.toNat
def ordL (xs : List Int) : Nat := ordN 0 (toN xs)
theorem toN_sum : ∀ {xs : List Int}, (∀ x ∈ xs, 0 ≤ x) → ((toN xs).sum : Int) = xs.sum
  | [], _ => rfl
  | x :: xs, h => by
    have := toN_sum (xs := xs) fun y hy => h y (by simp [hy])
    have h0 := h x (by simp)
    unfold toN at this ⊢
    simp only [List.map_cons, List.sum_cons]
    omega
theorem toN_take {xs : List Int} {i : Nat} (h : i < xs.length) : toN (xs.take (i + 1)) = toN (xs.take i) ++ [(gi xs (i : Int)).toNat] := by
  unfold toN
  rw [take_gi h, List.map_append]; rfl
/-- what the inner loop needs -/
theorem ord_inner {xs : List Int} (hl : xs.length ≤ 3) (h0 : ∀ x ∈ xs, 0 ≤ x) (hs : xs.sum ≤ 16) {i : Nat} (hi : i < xs.length) : ∃ P s k : Nat, ordN 0 (toN (xs.take i)) = P ∧ ((xs.take i).sum : Int) = s ∧ gi xs (i : Int) = k ∧ s + k ≤ 16 ∧ ((xs.take (i + 1)).sum : Int) = s + k ∧ ordN 0 (toN (xs.take (i + 1))) = P * bin (s + k) k ∧ ∀ j, j ≤ k → P * bin (s + j) j ≤ 1073741824 := by
  have hk := h0 _ (mem_gi hi)
  obtain ⟨k, ek⟩ := Int.eq_ofNat_of_zero_le hk
  have h1 : ∀ x ∈ xs.take i, 0 ≤ x := fun x hx => h0 x (List.mem_of_mem_take hx)
  have hts := toN_sum h1
  have hst := sum_take hi
  have hle : (xs.take (i + 1)).sum ≤ xs.sum := by
    have h2 := sum_nonneg (xs := xs.drop (i + 1)) fun x hx => h0 x (List.mem_of_mem_drop hx)
    have h3 : xs.sum = (xs.take (i + 1)).sum + (xs.drop (i + 1)).sum := by rw [← List.sum_append, List.take_append_drop]
    omega
  refine ⟨_, _, k, rfl, hts.symm, ek, by omega, by omega, ?_, fun j hj => ?_⟩
  · rw [toN_take hi, ordN_app, ek]
    simp
  · have e := ordN_app (ks := toN (xs.take i)) (n := 0) (j := j)
    rw [Nat.zero_add] at e
    rw [← e]
    refine ordN_le ?_ ?_
    · unfold toN; simp; omega
    · rw [List.sum_append]; simp; omega
theorem choose_ret {p : Nat → Prop} {H : Heap} {v : AV} {xs : List Int} (hx : Sl p H v xs) (hl : xs.length ≤ 3) (h0 : ∀ x ∈ xs, 0 ≤ x) (hs : xs.sum ≤ 16) : RetP E 38 [v] H (.i (ordL xs : Nat)) := by
  refine RetP.ro rfl fn38 rfl rfl ?_
  unfold f38A
  have hI := hx.I
  simp (disch := (first | assumption | omega | (simp only [List.length_append, List.length_cons, List.length_nil]; omega))) only [↓wD,wU,Nat.reduceBEq,zx150,zx151,zx159,zx160,zx161,zx162,Nat.reduceAdd,Nat.reduceSub,Nat.reduceMul,Nat.reduceLeDiff,Nat.reduceLT,Nat.reduceEqDiff,Int.reduceAdd,Int.reduceSub,Int.reduceMul,Int.reduceNeg,Int.reduceLT,Int.reduceLE,Int.reduceEq,Int.reduceToNat,Int.cast_ofNat_Int,↓reduceIte, hI]
  refine Wp.for xs.length (fun i a H' => H' = H ∧ a 3 = .i (ordN 0 (toN (xs.take i)) : Nat) ∧ a 4 = .i (xs.take i).sum ∧ a 8 = v ∧ a 9 = .i xs.length ∧ a 10 = .i i) ?_ ?_
  · rintro i a H' hi ⟨rfl, a3, a4, a8, a9, a10⟩ ih
    simp (disch := (first | assumption | omega | (simp only [List.length_append, List.length_cons, List.length_nil]; omega))) only [↓wD,wU,Nat.reduceBEq,zx150,zx151,zx159,zx160,zx161,zx162,Nat.reduceAdd,Nat.reduceSub,Nat.reduceMul,Nat.reduceLeDiff,Nat.reduceLT,Nat.reduceEqDiff,Int.reduceAdd,Int.reduceSub,Int.reduceMul,Int.reduceNeg,Int.reduceLT,Int.reduceLE,Int.reduceEq,Int.reduceToNat,Int.cast_ofNat_Int,↓reduceIte, a3, a4, a8, a9, a10]
    refine condP_split (fun hlt => ?_) (fun hlt => ?_)
    · have hi' : i < xs.length := by omega
      obtain ⟨P, s, k, e1, e2, e3, hsk, e4, e5, hb⟩ := ord_inner hl h0 hs hi'
      rw [e1] at a3
      rw [e2] at a4
      simp (disch := (first | assumption | omega | (simp only [List.length_append, List.length_cons, List.length_nil]; omega))) only [↓wD,wU,Nat.reduceBEq,zx150,zx151,zx159,zx160,zx161,zx162,Nat.reduceAdd,Nat.reduceSub,Nat.reduceMul,Nat.reduceLeDiff,Nat.reduceLT,Nat.reduceEqDiff,Int.reduceAdd,Int.reduceSub,Int.reduceMul,Int.reduceNeg,Int.reduceLT,Int.reduceLE,Int.reduceEq,Int.reduceToNat,Int.cast_ofNat_Int,↓reduceIte, a3, a4, a8, a9, a10, hI, e3]
      refine Wp.for k (fun j a H'' => H'' = H' ∧ a 3 = .i (P * bin (s + j) j : Nat) ∧ a 4 = .i (s + j) ∧ a 8 = v ∧ a 9 = .i xs.length ∧ a 10 = .i i ∧ a 6 = .i k ∧ a 7 = .i (j + 1)) ?_ ?_
      · clear a3 a4 a8 a9 a10
        rintro j a H' hj ⟨rfl, a3, a4, a8, a9, a10, a6, a7⟩ ih2
        simp (disch := (first | assumption | omega | (simp only [List.length_append, List.length_cons, List.length_nil]; omega))) only [↓wD,wU,Nat.reduceBEq,zx150,zx151,zx159,zx160,zx161,zx162,Nat.reduceAdd,Nat.reduceSub,Nat.reduceMul,Nat.reduceLeDiff,Nat.reduceLT,Nat.reduceEqDiff,Int.reduceAdd,Int.reduceSub,Int.reduceMul,Int.reduceNeg,Int.reduceLT,Int.reduceLE,Int.reduceEq,Int.reduceToNat,Int.cast_ofNat_Int,↓reduceIte, a3, a4, a8, a9, a10, a6, a7]
        refine condP_split (fun hlt => ?_) (fun hlt => ?_)
        · have hj' : j < k := by omega
          have b1 := hb j hj
          have b2 := hb (j + 1) hj'
          have st := ord_step P s j
          obtain ⟨X, eX⟩ : ∃ X, P * bin (s + j) j = X := ⟨_, rfl⟩
          obtain ⟨Y, eY⟩ : ∃ Y, P * bin (s + (j + 1)) (j + 1) = Y := ⟨_, rfl⟩
          rw [eX] at a3 b1 st
          rw [eY] at b2 st
          have mb : (X : Int) * (s + j + 1) ≤ 1073741824 * 17 := Int.mul_le_mul (by omega) (by omega) (by omega) (by omega)
          have mb0 : 0 ≤ (X : Int) * (s + j + 1) := Int.mul_nonneg (by omega) (by omega)
          have ne : ¬ (j : Int) + 1 = 0 := by omega
          obtain ⟨Z, eZ⟩ : ∃ Z, (X : Int) * (s + j + 1) = Z := ⟨_, rfl⟩
          rw [eZ] at mb mb0 st
          simp (disch := (first | assumption | omega | (simp only [List.length_append, List.length_cons, List.length_nil]; omega))) only [↓wD,wU,Nat.reduceBEq,zx150,zx151,zx159,zx160,zx161,zx162,Nat.reduceAdd,Nat.reduceSub,Nat.reduceMul,Nat.reduceLeDiff,Nat.reduceLT,Nat.reduceEqDiff,Int.reduceAdd,Int.reduceSub,Int.reduceMul,Int.reduceNeg,Int.reduceLT,Int.reduceLE,Int.reduceEq,Int.reduceToNat,Int.cast_ofNat_Int,↓reduceIte, a3, a4, a8, a9, a10, a6, a7, eZ, st]
          refine (ih2 hj').go ⟨rfl, ?_⟩
          simp (disch := (first | assumption | omega | (simp only [List.length_append, List.length_cons, List.length_nil]; omega))) only [↓wD,wU,Nat.reduceBEq,zx150,zx151,zx159,zx160,zx161,zx162,Nat.reduceAdd,Nat.reduceSub,Nat.reduceMul,Nat.reduceLeDiff,Nat.reduceLT,Nat.reduceEqDiff,Int.reduceAdd,Int.reduceSub,Int.reduceMul,Int.reduceNeg,Int.reduceLT,Int.reduceLE,Int.reduceEq,Int.reduceToNat,Int.cast_ofNat_Int,↓reduceIte, a3, a4, a8, a9, a10, a6, a7, eY]
          rw [Int.add_assoc]
        · obtain rfl : j = k := by omega
          rw [← e5] at a3
          rw [← e4] at a4
          simp (disch := (first | assumption | omega | (simp only [List.length_append, List.length_cons, List.length_nil]; omega))) only [↓wD,wU,Nat.reduceBEq,zx150,zx151,zx159,zx160,zx161,zx162,Nat.reduceAdd,Nat.reduceSub,Nat.reduceMul,Nat.reduceLeDiff,Nat.reduceLT,Nat.reduceEqDiff,Int.reduceAdd,Int.reduceSub,Int.reduceMul,Int.reduceNeg,Int.reduceLT,Int.reduceLE,Int.reduceEq,Int.reduceToNat,Int.cast_ofNat_Int,↓reduceIte, a3, a4, a8, a9, a10, a6, a7]
          refine (ih hi').go ⟨rfl, ?_⟩
          simp (disch := (first | assumption | omega | (simp only [List.length_append, List.length_cons, List.length_nil]; omega))) only [↓wD,wU,Nat.reduceBEq,zx150,zx151,zx159,zx160,zx161,zx162,Nat.reduceAdd,Nat.reduceSub,Nat.reduceMul,Nat.reduceLeDiff,Nat.reduceLT,Nat.reduceEqDiff,Int.reduceAdd,Int.reduceSub,Int.reduceMul,Int.reduceNeg,Int.reduceLT,Int.reduceLE,Int.reduceEq,Int.reduceToNat,Int.cast_ofNat_Int,↓reduceIte, a3, a4, a8, a9, a10, a6, a7]
      · simp (disch := (first | assumption | omega | (simp only [List.length_append, List.length_cons, List.length_nil]; omega))) only [↓wD,wU,Nat.reduceBEq,zx150,zx151,zx159,zx160,zx161,zx162,Nat.reduceAdd,Nat.reduceSub,Nat.reduceMul,Nat.reduceLeDiff,Nat.reduceLT,Nat.reduceEqDiff,Int.reduceAdd,Int.reduceSub,Int.reduceMul,Int.reduceNeg,Int.reduceLT,Int.reduceLE,Int.reduceEq,Int.reduceToNat,Int.cast_ofNat_Int,↓reduceIte, a3, a4, a8, a9, a10]
        simp [bin_0]
    · obtain rfl : i = xs.length := by omega
      rw [List.take_length] at a3
      simp (disch := (first | assumption | omega | (simp only [List.length_append, List.length_cons, List.length_nil]; omega))) only [↓wD,wU,Nat.reduceBEq,zx150,zx151,zx159,zx160,zx161,zx162,Nat.reduceAdd,Nat.reduceSub,Nat.reduceMul,Nat.reduceLeDiff,Nat.reduceLT,Nat.reduceEqDiff,Int.reduceAdd,Int.reduceSub,Int.reduceMul,Int.reduceNeg,Int.reduceLT,Int.reduceLE,Int.reduceEq,Int.reduceToNat,Int.cast_ofNat_Int,↓reduceIte, a3]
      rfl
  · (simp (disch := (first | assumption | omega | (simp only [List.length_append, List.length_cons, List.length_nil]; omega))) only [↓wD,wU,Nat.reduceBEq,zx150,zx151,zx159,zx160,zx161,zx162,Nat.reduceAdd,Nat.reduceSub,Nat.reduceMul,Nat.reduceLeDiff,Nat.reduceLT,Nat.reduceEqDiff,Int.reduceAdd,Int.reduceSub,Int.reduceMul,Int.reduceNeg,Int.reduceLT,Int.reduceLE,Int.reduceEq,Int.reduceToNat,Int.cast_ofNat_Int,↓reduceIte]) <;> simp [toN, ordN]
end Go.Proofs.Ytmmbakggmlfffaa
namespace Go.Proofs.Ytmmbakggmlfffaa
open Go Go.AM Go.Proofs
/-- in how many ways a table comes -/
def wayN : List (List Int) → Nat
  | [] => 1
  | r :: t => wayN t * ordL r
theorem wayN_take {t : List (List Int)} : ∀ {i : Nat}, i < t.length → wayN (t.take (i + 1)) = wayN (t.take i) * ordL (gi t (i : Int)) := by
  induction t with
  | nil => intro i h; simp at h
  | cons r t ih =>
    intro i h
    cases i with
    | zero => simp [wayN]; rfl
    | succ i =>
      rw [List.take_succ_cons, List.take_succ_cons, gi_consS]
      show wayN (t.take (i + 1)) * ordL r = wayN (t.take i) * ordL r * _
      rw [ih (by simpa using h)]
      grind
theorem row_ord {t : List (List Int)} (h : TabOk t) {i : Nat} (hi : i < t.length) : (gi t (i : Int)).length ≤ 3 ∧ (∀ x ∈ gi t (i : Int), 0 ≤ x) ∧ (gi t (i : Int)).sum ≤ 16 := by
  have hr := h.2.2.1 _ (mem_gi hi)
  exact ⟨hr.2.1, fun x hx => (hr.2.2.2 x hx).1, row_le_total h (mem_gi hi)⟩
theorem ordN_le2 {ks : List Nat} (hl : ks.length ≤ 3) : ordN 0 ks ≤ 4 ^ ks.sum := by
  have b : ∀ {n k : Nat}, bin n k ≤ 2 ^ n := fun {n k} => by
    cases n with
    | zero => cases k <;> simp [bin]
    | succ n => exact Nat.le_trans bin_le (Nat.pow_le_pow_right (by omega) (by omega))
  have four : ∀ n : Nat, 4 ^ n = 2 ^ n * 2 ^ n := fun n => by rw [show 4 = 2 * 2 by rfl, Nat.mul_pow]
  match ks, hl with
  | [], _ => simp [ordN]
  | [a], _ => simp [ordN, bin_self]; exact Nat.one_le_pow _ _ (by omega)
  | [a, c], _ =>
    simp [ordN, bin_self]
    refine Nat.le_trans b ?_
    exact Nat.pow_le_pow_left (by omega) _
  | [a, c, d], _ =>
    simp [ordN, bin_self]
    rw [four]
    exact Nat.mul_le_mul (Nat.le_trans b (Nat.pow_le_pow_right (by omega) (by omega))) (Nat.le_trans b (Nat.pow_le_pow_right (by omega) (by omega)))
  | _ :: _ :: _ :: _ :: _, h => simp at h
theorem ordL_le2 {xs : List Int} (hl : xs.length ≤ 3) (h0 : ∀ x ∈ xs, 0 ≤ x) : ordL xs ≤ 4 ^ xs.sum.toNat := by
  have h := ordN_le2 (ks := toN xs) (by unfold toN; simpa using hl)
  have e := toN_sum h0
  have : (toN xs).sum = xs.sum.toNat := by omega
  rwa [this] at h
theorem wayN_le : ∀ {t : List (List Int)}, (∀ r ∈ t, r.length ≤ 3 ∧ ∀ x ∈ r, 0 ≤ x) → wayN t ≤ 4 ^ (t.map List.sum).sum.toNat
  | [], _ => by simp [wayN]
  | r :: t, h => by
    have h1 := h r (by simp)
    have h2 := wayN_le (t := t) fun q hq => h q (by simp [hq])
    have h3 := ordL_le2 h1.1 h1.2
    have s1 := sum_nonneg h1.2
    have s2 : 0 ≤ (t.map List.sum).sum := sum_nonneg fun x hx => by
      obtain ⟨q, hq, rfl⟩ := List.mem_map.1 hx
      exact sum_nonneg (h q (by simp [hq])).2
    have e : ((r :: t).map List.sum).sum.toNat = (t.map List.sum).sum.toNat + r.sum.toNat := by
      rw [List.map_cons, List.sum_cons]; omega
    rw [e, Nat.pow_add]
    exact Nat.mul_le_mul h2 h3
theorem wayN_small {t : List (List Int)} (h : TabOk t) (i : Nat) : wayN (t.take i) ≤ 4294967296 := by
  have h1 : ∀ r ∈ t, r.length ≤ 3 ∧ ∀ x ∈ r, 0 ≤ x := fun r hr => ⟨(h.2.2.1 r hr).2.1, fun x hx => ((h.2.2.1 r hr).2.2.2 x hx).1⟩
  refine Nat.le_trans (wayN_le fun r hr => h1 r (List.mem_of_mem_take hr)) ?_
  have hn : ∀ x ∈ t.map List.sum, 0 ≤ x := fun x hx => by
    obtain ⟨q, hq, rfl⟩ := List.mem_map.1 hx
    exact sum_nonneg (h1 q hq).2
  have hle : ((t.take i).map List.sum).sum ≤ (t.map List.sum).sum := by
    rw [List.map_take]
    have h2 := sum_nonneg (xs := (t.map List.sum).drop i) fun x hx => hn x (List.mem_of_mem_drop hx)
    have h3 : (t.map List.sum).sum = ((t.map List.sum).take i).sum + ((t.map List.sum).drop i).sum := by rw [← List.sum_append, List.take_append_drop]
    omega
  have := h.2.2.2
  exact Nat.pow_le_pow_right (n := 4) (by omega) (show ((t.take i).map List.sum).sum.toNat ≤ 16 by omega)
theorem weight_ret {p : Nat → Prop} {H : Heap} {v : AV} {t : List (List Int)} (ht : Sl p H v t) (h : TabOk t) : RetP E 35 [v] H (.i (wayN t : Nat)) := by
  refine RetP.ro rfl fn35 rfl rfl ?_
  unfold f35A
  have hL := ht.L
  have h3 := h.2.1
  simp (disch := (first | assumption | omega | (simp only [List.length_append, List.length_cons, List.length_nil]; omega))) only [↓wD,wU,Nat.reduceBEq,zx150,zx151,zx159,zx160,zx161,zx162,Nat.reduceAdd,Nat.reduceSub,Nat.reduceMul,Nat.reduceLeDiff,Nat.reduceLT,Nat.reduceEqDiff,Int.reduceAdd,Int.reduceSub,Int.reduceMul,Int.reduceNeg,Int.reduceLT,Int.reduceLE,Int.reduceEq,Int.reduceToNat,Int.cast_ofNat_Int,↓reduceIte, hL]
  refine Wp.for t.length (fun i a H' => H' = H ∧ a 3 = .i (wayN (t.take i) : Nat) ∧ a 6 = v ∧ a 7 = .i t.length ∧ a 8 = .i i) ?_ ?_
  · rintro i a H' hi ⟨rfl, a3, a6, a7, a8⟩ ih
    simp (disch := (first | assumption | omega | (simp only [List.length_append, List.length_cons, List.length_nil]; omega))) only [↓wD,wU,Nat.reduceBEq,zx150,zx151,zx159,zx160,zx161,zx162,Nat.reduceAdd,Nat.reduceSub,Nat.reduceMul,Nat.reduceLeDiff,Nat.reduceLT,Nat.reduceEqDiff,Int.reduceAdd,Int.reduceSub,Int.reduceMul,Int.reduceNeg,Int.reduceLT,Int.reduceLE,Int.reduceEq,Int.reduceToNat,Int.cast_ofNat_Int,↓reduceIte, a3, a6, a7, a8]
    refine condP_split (fun hlt => ?_) (fun hlt => ?_)
    · have hi' : i < t.length := by omega
      have g := ht.get (k := (i : Int)) (by omega) (by omega)
      obtain ⟨o1, o2, o3⟩ := row_ord h hi'
      have ch := choose_ret g o1 o2 o3
      have e := wayN_take hi'
      have b1 := wayN_small h i
      have b2 := wayN_small h (i + 1)
      obtain ⟨X, eX⟩ : ∃ X, wayN (t.take i) = X := ⟨_, rfl⟩
      obtain ⟨Y, eY⟩ : ∃ Y, wayN (t.take (i + 1)) = Y := ⟨_, rfl⟩
      obtain ⟨Z, eZ⟩ : ∃ Z, ordL (gi t (i : Int)) = Z := ⟨_, rfl⟩
      rw [eX] at a3 b1 e
      rw [eY] at b2 e
      rw [eZ] at ch e
      have e' : (X : Int) * Z = Y := by rw [e]; simp
      clear o1 o2 o3 e
      simp (disch := (first | assumption | omega | (simp only [List.length_append, List.length_cons, List.length_nil]; omega))) only [↓wD,wU,Nat.reduceBEq,zx150,zx151,zx159,zx160,zx161,zx162,Nat.reduceAdd,Nat.reduceSub,Nat.reduceMul,Nat.reduceLeDiff,Nat.reduceLT,Nat.reduceEqDiff,Int.reduceAdd,Int.reduceSub,Int.reduceMul,Int.reduceNeg,Int.reduceLT,Int.reduceLE,Int.reduceEq,Int.reduceToNat,Int.cast_ofNat_Int,↓reduceIte, a3, a6, a7, a8, hL, ch.call, e']
      refine (ih hi').go ⟨rfl, ?_⟩
      simp (disch := (first | assumption | omega | (simp only [List.length_append, List.length_cons, List.length_nil]; omega))) only [↓wD,wU,Nat.reduceBEq,zx150,zx151,zx159,zx160,zx161,zx162,Nat.reduceAdd,Nat.reduceSub,Nat.reduceMul,Nat.reduceLeDiff,Nat.reduceLT,Nat.reduceEqDiff,Int.reduceAdd,Int.reduceSub,Int.reduceMul,Int.reduceNeg,Int.reduceLT,Int.reduceLE,Int.reduceEq,Int.reduceToNat,Int.cast_ofNat_Int,↓reduceIte, a3, a6, a7, a8, eY]
    · obtain rfl : i = t.length := by omega
      rw [List.take_length] at a3
      simp (disch := (first | assumption | omega | (simp only [List.length_append, List.length_cons, List.length_nil]; omega))) only [↓wD,wU,Nat.reduceBEq,zx150,zx151,zx159,zx160,zx161,zx162,Nat.reduceAdd,Nat.reduceSub,Nat.reduceMul,Nat.reduceLeDiff,Nat.reduceLT,Nat.reduceEqDiff,Int.reduceAdd,Int.reduceSub,Int.reduceMul,Int.reduceNeg,Int.reduceLT,Int.reduceLE,Int.reduceEq,Int.reduceToNat,Int.cast_ofNat_Int,↓reduceIte, a3]
  · (simp (disch := (first | assumption | omega | (simp only [List.length_append, List.length_cons, List.length_nil]; omega))) only [↓wD,wU,Nat.reduceBEq,zx150,zx151,zx159,zx160,zx161,zx162,Nat.reduceAdd,Nat.reduceSub,Nat.reduceMul,Nat.reduceLeDiff,Nat.reduceLT,Nat.reduceEqDiff,Int.reduceAdd,Int.reduceSub,Int.reduceMul,Int.reduceNeg,Int.reduceLT,Int.reduceLE,Int.reduceEq,Int.reduceToNat,Int.cast_ofNat_Int,↓reduceIte]) <;> simp [wayN]
end Go.Proofs.Ytmmbakggmlfffaa
namespace Go.Proofs.Ytmmbakggmlfffaa
open Go Go.AM Go.Proofs
theorem cols_ord {t : List (List Int)} (h : TabOk t) : (colSums t).length ≤ 3 ∧ (∀ x ∈ colSums t, 0 ≤ x) ∧ (colSums t).sum ≤ 16 := by
  have m := mg_cols h (cols_le h)
  exact ⟨m.2.1, fun x hx => (m.el x hx).1, cols_le h⟩
theorem ordL_small {xs : List Int} (hl : xs.length ≤ 3) (h0 : ∀ x ∈ xs, 0 ≤ x) (hs : xs.sum ≤ 16) : ordL xs ≤ 1073741824 ∧ 0 < ordL xs := by
  have e := toN_sum h0
  exact ⟨ordN_le (by unfold toN; simpa using hl) (by omega), ordN_pos⟩
def tailN : List (List (List Int)) → Nat → Nat
  | [], _ => 0
  | u :: ts, w => tailN ts w + if wayN u ≤ w then wayN u else 0
theorem tailN_take {w : Nat} {ts : List (List (List Int))} : ∀ {i : Nat}, i < ts.length → tailN (ts.take (i + 1)) w = tailN (ts.take i) w + if wayN (gi ts (i : Int)) ≤ w then wayN (gi ts (i : Int)) else 0 := by
  induction ts with
  | nil => intro i h; simp at h
  | cons u ts ih =>
    intro i h
    cases i with
    | zero => simp [tailN]; rfl
    | succ i =>
      rw [List.take_succ_cons, List.take_succ_cons, gi_consS]
      show tailN (ts.take (i + 1)) w + _ = tailN (ts.take i) w + _ + _
      rw [ih (by simpa using h)]
      omega
theorem tailN_le {w : Nat} : ∀ {ts : List (List (List Int))}, (∀ u ∈ ts, wayN u ≤ 4294967296) → tailN ts w ≤ ts.length * 4294967296
  | [], _ => by simp [tailN]
  | u :: ts, h => by
    have h1 := h u (by simp)
    have h2 := tailN_le (w := w) (ts := ts) fun x hx => h x (by simp [hx])
    have e : tailN (u :: ts) w = tailN ts w + if wayN u ≤ w then wayN u else 0 := rfl
    rw [e, List.length_cons, Nat.add_mul, Nat.one_mul]
    refine Nat.add_le_add h2 ?_
    split
    · exact h1
    · exact Nat.zero_le _
def taF (t : List (List Int)) : Int × Int := fracN (tailN (tabsL (rowSums t) (colSums t)) (wayN t)) (ordL (colSums t))
/-- what the walks of Tail use -/
theorem tail_facts {t : List (List Int)} (h : TabOk t) : ∃ ts, tabsL (rowSums t) (colSums t) = ts ∧ (∀ i, tailN (ts.take i) (wayN t) ≤ 103670070174154752) ∧ ∀ i : Nat, i < ts.length → TabOk (gi ts (i : Int)) := by
  have h1 := mg_rows h
  have h2 := mg_cols h (cols_le h)
  refine ⟨_, rfl, fun i => ?_, fun i hi => (family_ok h (mem_gi hi)).1⟩
  have hts : (tabsL (rowSums t) (colSums t)).length ≤ 24137569 := by
    refine Nat.le_trans (tabsL_len2 h1.el h2.el h2.2.1) ?_
    have : 289 ^ (rowSums t).length ≤ 289 ^ 3 := Nat.pow_le_pow_right (by omega) h1.2.1
    omega
  have := tailN_le (w := wayN t) (ts := (tabsL (rowSums t) (colSums t)).take i) fun u hu => by
    have := wayN_small (family_ok h (List.mem_of_mem_take hu)).1 u.length
    rwa [List.take_length] at this
  rw [List.length_take] at this
  have h3 : min i (tabsL (rowSums t) (colSums t)).length * 4294967296 ≤ 24137569 * 4294967296 := Nat.mul_le_mul_right _ (by omega)
  omega
theorem tail_ret {p : Nat → Prop} {H : Heap} {v : AV} {t : List (List Int)} (ht : Sl p H v t) (h : TabOk t) : RetP E 20 [v] H (.tp [.ag [.i (taF t).1, .i (taF t).2], .i 0]) := by
  refine RetP.ro rfl fn20 rfl rfl ?_
  unfold f20A
  replace ht : Sl (fun b => b < H.length) H v t := ht.low.weak fun _ h => h.2
  have k0 := ht.app [.cells [.int .i64 0, .int .i64 0]]
  have hv := valid_ret k0
  rw [decide_eq_true h] at hv
  have b3 := wayN_small h t.length
  rw [List.take_length] at b3
  obtain ⟨W, eW⟩ : ∃ W, wayN t = W := ⟨_, rfl⟩
  have hw0 := weight_ret k0 h
  rw [eW] at hw0 b3
  obtain ⟨H2, eH2⟩ : ∃ H2, H ++ [.cells [.int .i64 0, .int .i64 0]] ++ [Blk.cells [.i (W : Nat)]] ++ [Blk.cells [.i 0]] = H2 := ⟨_, rfl⟩
  have x2 : Kx (fun _ => True) H H2 := by rw [← eH2]; exact ((Kx.app _ _ _).app' _).app' _
  have n2 : H2.length = H.length + 3 := by rw [← eH2]; simp
  have d0 : H2[H.length]? = some (.cells [.i 0, .i 0]) := by rw [← eH2]; simp
  have d1 : H2[H.length + 1]? = some (.cells [.i (W : Nat)]) := by rw [← eH2]; simp [List.getElem?_append]
  have d2 : H2[H.length + 2]? = some (.cells [.i 0]) := by rw [← eH2]; simp [List.getElem?_append]
  have hst1 : st H.length (H ++ [.cells [.int .i64 0, .int .i64 0]] ++ [Blk.cells [.int .i64 0]]) (H.length + 1) 0 [.i (W : Nat)] = some (H ++ [.cells [.int .i64 0, .int .i64 0]] ++ [Blk.cells [.i (W : Nat)]]) := by
    rw [st_of (cs := [.i 0]) (by simp [List.getElem?_append]) (by omega) (by simp)]
    congr 1
    simp [wr, List.set_append]
  have hst2 : st H.length H2 (H.length + 2) 0 [.i 0] = some H2 := by
    rw [st_of d2 (by omega) (by simp)]
    congr 1
    rw [← eH2]
    simp [wr, List.set_append]
  have k2 : Sl (fun b => b < H.length) H2 v t := ht.kp (x2.all _).kp
  simp (disch := (first | assumption | omega | (simp only [List.length_append, List.length_cons, List.length_nil]; omega))) only [↓wD,wU,Nat.reduceBEq,zx150,zx151,zx159,zx160,zx161,zx162,Nat.reduceAdd,Nat.reduceSub,Nat.reduceMul,Nat.reduceLeDiff,Nat.reduceLT,Nat.reduceEqDiff,Int.reduceAdd,Int.reduceSub,Int.reduceMul,Int.reduceNeg,Int.reduceLT,Int.reduceLE,Int.reduceEq,Int.reduceToNat,Int.cast_ofNat_Int,↓reduceIte, hv.call, hw0.call, hst1, eH2, hst2]
  refine (family_ret k2 h).toX fun w Hr x1 hw => ?_
  obtain ⟨cs, rfl, c1, c2, rfl, ⟨v1, rfl, q1⟩, ⟨v2, rfl, q2⟩⟩ := hw
  obtain ⟨ts, ets, hb, hok⟩ := tail_facts h
  rw [eW] at hb
  have r0 := x1.get trivial d0
  have r1 := x1.get trivial d1
  have r2 := x1.get trivial d2
  have nr := x1.1
  have q1' : Sl (fun b => ¬ b = H.length + 2) Hr v1 (rowSums t) := q1.weak fun b h => h.elim (fun h => h.elim) fun h => by omega
  have q2' : Sl (fun b => ¬ b = H.length + 2) Hr v2 (colSums t) := q2.weak fun b h => h.elim (fun h => h.elim) fun h => by omega
  have kr : Sl (fun b => b < H.length) Hr v t := k2.kp (x1.all _).kp
  have m1 := mg_rows h
  have m2 := mg_cols h (cols_le h)
  clear hst1 hst2 hw0 hv k0 eH2 d0 d1 d2
  simp only [List.singleton_append, List.cons_append, List.nil_append]
  simp (disch := (first | assumption | omega | (simp only [List.length_append, List.length_cons, List.length_nil]; omega))) only [↓wD,wU,Nat.reduceBEq,zx150,zx151,zx159,zx160,zx161,zx162,Nat.reduceAdd,Nat.reduceSub,Nat.reduceMul,Nat.reduceLeDiff,Nat.reduceLT,Nat.reduceEqDiff,Int.reduceAdd,Int.reduceSub,Int.reduceMul,Int.reduceNeg,Int.reduceLT,Int.reduceLE,Int.reduceEq,Int.reduceToNat,Int.cast_ofNat_Int,↓reduceIte, q1'.cellsV, q2'.cellsV]
  refine Wp.range (A := ArgT) ts (fun b => b = H.length + 2) (fun i K H1 => H1[H.length + 2]? = some (.cells [.i (tailN (ts.take i) W : Nat)]) ∧ H1[H.length + 1]? = some (.cells [.i W]) ∧ K (H.length + 2)) (fun j K H1 => False) (by (simp (disch := (first | assumption | omega | (simp only [List.length_append, List.length_cons, List.length_nil]; omega))) only [↓wD,wU,Nat.reduceBEq,zx150,zx151,zx159,zx160,zx161,zx162,Nat.reduceAdd,Nat.reduceSub,Nat.reduceMul,Nat.reduceLeDiff,Nat.reduceLT,Nat.reduceEqDiff,Int.reduceAdd,Int.reduceSub,Int.reduceMul,Int.reduceNeg,Int.reduceLT,Int.reduceLE,Int.reduceEq,Int.reduceToNat,Int.cast_ofNat_Int,↓reduceIte]) <;> rfl) rfl (by omega) (fun b h => by omega) argT_len ?_ ?_ ?_ ?_ ?_ ?_ ?_
  · intro K' H1 Q' e hx' hK' hI
    rw [← ets] at hI
    exact family_range (by omega) q1' q2' m1 m2 (fun b h => by omega) e hx' hK' hI
  · exact fun i K H1 H2 h hx => ⟨hx.get (.inr h.2.2) h.1, hx.get (.inl (by omega)) h.2.1, h.2.2⟩
  · exact fun j K H1 H2 h hx => h.elim
  · exact ⟨r2, r1, rfl⟩
  · rintro i hi K Ki args H1 ⟨c1, c2, c3⟩ ⟨x, rfl, hu⟩ hKi hK hx hl1 hlr hKK
    simp (disch := (first | assumption | omega | (simp only [List.length_append, List.length_cons, List.length_nil]; omega))) only [↓wD,wU,Nat.reduceBEq,zx150,zx151,zx159,zx160,zx161,zx162,Nat.reduceAdd,Nat.reduceSub,Nat.reduceMul,Nat.reduceLeDiff,Nat.reduceLT,Nat.reduceEqDiff,Int.reduceAdd,Int.reduceSub,Int.reduceMul,Int.reduceNeg,Int.reduceLT,Int.reduceLE,Int.reduceEq,Int.reduceToNat,Int.cast_ofNat_Int,↓reduceIte, zx188 (lo := H.length) hlr (by omega), zx189, zx190]
    generalize e2 : H1.set Hr.length _ = H2
    have x12 : Kx (fun b => b ≠ Hr.length) H1 H2 := by rw [← e2]; exact Kx.set _ _ _
    have gl := gset e2 hlr
    have g1 := x12.get (b := H.length + 2) (by omega) c1
    have g2 := x12.get (b := H.length + 1) (by omega) c2
    have hu2 : Sl Ki H2 x ts[i] := hu.low.kp (x12.weak (q := fun b => Ki b ∧ b < H1.length) fun b _ h => by have := (hKi b h.1).1; omega).kp |>.weak fun b h => h.1
    have eg : ts[i] = gi ts (i : Int) := (gi_nat hi).symm
    rw [eg] at hu2
    have wr := weight_ret hu2 (hok i hi)
    have et := tailN_take (w := W) hi
    have b1 := hb i
    have b2 := hb (i + 1)
    have bw := wayN_small (hok i hi) (gi ts (i : Int)).length
    rw [List.take_length] at bw
    generalize wayN (gi ts (i : Int)) = Y at wr et bw
    generalize tailN (ts.take i) W = T0 at g1 et b1
    generalize tailN (ts.take (i + 1)) W = T1 at et b2 ⊢
    clear e2
    by_cases hc : Y ≤ W
    · rw [if_pos hc] at et
      subst et
      have hd : decide ((Y : Int) ≤ W) = true := decide_eq_true (by omega)
      have hst : st H.length H2 (H.length + 2) 0 [.i ((T0 : Int) + Y)] = some (H2.set (H.length + 2) (.cells [.i ((T0 : Int) + Y)])) := by rw [st_of g1 (by omega) (by simp)]; simp [Go.AM.wr]
      simp (disch := (first | assumption | omega | (simp only [List.length_append, List.length_cons, List.length_nil]; omega))) only [↓wD,wU,Nat.reduceBEq,zx150,zx151,zx159,zx160,zx161,zx162,Nat.reduceAdd,Nat.reduceSub,Nat.reduceMul,Nat.reduceLeDiff,Nat.reduceLT,Nat.reduceEqDiff,Int.reduceAdd,Int.reduceSub,Int.reduceMul,Int.reduceNeg,Int.reduceLT,Int.reduceLE,Int.reduceEq,Int.reduceToNat,Int.cast_ofNat_Int,↓reduceIte, wr.call, ld_of g2, ld_of g1, hd, hst]
      refine ⟨?_, ?_, ?_, ?_, .inl c3⟩
      · rw [List.getElem?_set_ne (by omega)]; exact gl
      · exact (x12.weak fun b _ h => h.2).set' (fun _ h => h.1 (.inl c3)) _
      · rw [get_set g1]; try simp
      · rw [List.getElem?_set_ne (by omega)]; exact g2
    · rw [if_neg hc, Nat.add_zero] at et
      subst et
      have hd : decide ((Y : Int) ≤ W) = false := decide_eq_false (by omega)
      simp (disch := (first | assumption | omega | (simp only [List.length_append, List.length_cons, List.length_nil]; omega))) only [↓wD,wU,Nat.reduceBEq,zx150,zx151,zx159,zx160,zx161,zx162,Nat.reduceAdd,Nat.reduceSub,Nat.reduceMul,Nat.reduceLeDiff,Nat.reduceLT,Nat.reduceEqDiff,Int.reduceAdd,Int.reduceSub,Int.reduceMul,Int.reduceNeg,Int.reduceLT,Int.reduceLE,Int.reduceEq,Int.reduceToNat,Int.cast_ofNat_Int,↓reduceIte, wr.call, ld_of g2, hd]
      exact ⟨gl, x12.weak fun b _ h => h.2, g1, g2, .inl c3⟩
  · rintro K H1 ⟨c1, _, _⟩ hx hl1
    rw [List.take_length] at c1
    have kt : Sl (fun b => b < H.length) H1 v t := kr.kp (hx.weak fun b _ h => by omega).kp
    have r0' := hx.get (b := H.length) (by omega) r0
    have hbl := hb ts.length
    rw [List.take_length] at hbl
    simp (disch := (first | assumption | omega | (simp only [List.length_append, List.length_cons, List.length_nil]; omega))) only [↓wD,wU,Nat.reduceBEq,zx150,zx151,zx159,zx160,zx161,zx162,Nat.reduceAdd,Nat.reduceSub,Nat.reduceMul,Nat.reduceLeDiff,Nat.reduceLT,Nat.reduceEqDiff,Int.reduceAdd,Int.reduceSub,Int.reduceMul,Int.reduceNeg,Int.reduceLT,Int.reduceLE,Int.reduceEq,Int.reduceToNat,Int.cast_ofNat_Int,↓reduceIte, ld_of c1]
    refine (family_ret kt h).toX fun w H3 x3 hw => ?_
    obtain ⟨cs, rfl, c1, c2, rfl, ⟨v3, rfl, p1⟩, ⟨v4, rfl, p2⟩⟩ := hw
    have z0 := x3.get trivial r0'
    obtain ⟨o1, o2, o3⟩ := cols_ord h
    have ch := choose_ret p2 o1 o2 o3
    obtain ⟨d1, d2⟩ := ordL_small o1 o2 o3
    have fr := frac_ret (H := H3) (tailN ts W) (ordL (colSums t)) (by omega) (by omega) d2
    have eF : fracN (tailN ts W) (ordL (colSums t)) = taF t := by rw [← ets, ← eW]; rfl
    rw [eF] at fr
    generalize taF t = F at fr
    generalize ordL (colSums t) = D at fr ch
    generalize tailN ts W = N at fr
    obtain ⟨F1, F2⟩ := F
    simp only [List.singleton_append, List.cons_append, List.nil_append]
    have hst : st H.length H3 H.length 0 [.i F1, .i F2] = some (H3.set H.length (.cells [.i F1, .i F2])) := by rw [st_of z0 (Nat.le_refl _) (by simp)]; simp [wr]
    simp (disch := (first | assumption | omega | (simp only [List.length_append, List.length_cons, List.length_nil]; omega))) only [↓wD,wU,Nat.reduceBEq,zx150,zx151,zx159,zx160,zx161,zx162,Nat.reduceAdd,Nat.reduceSub,Nat.reduceMul,Nat.reduceLeDiff,Nat.reduceLT,Nat.reduceEqDiff,Int.reduceAdd,Int.reduceSub,Int.reduceMul,Int.reduceNeg,Int.reduceLT,Int.reduceLE,Int.reduceEq,Int.reduceToNat,Int.cast_ofNat_Int,↓reduceIte, ch.call, fr.call, hst, ldn_of (get_set z0)]
  · exact fun j K H' h _ _ => h.elim
end Go.Proofs.Ytmmbakggmlfffaa
namespace Go.Proofs.Ytmmbakggmlfffaa
open Go Go.AM Go.Proofs
def lsum {α : Type} (f : α → Nat) : List α → Nat
  | [] => 0
  | x :: l => f x + lsum f l
theorem lsum_app {α : Type} {f : α → Nat} : ∀ {l m : List α}, lsum f (l ++ m) = lsum f l + lsum f m
  | [], m => by simp [lsum]
  | x :: l, m => by
    rw [List.cons_append]
    show f x + lsum f (l ++ m) = f x + lsum f l + lsum f m
    rw [lsum_app]; omega
end Go.Proofs.Ytmmbakggmlfffaa
namespace Go.Proofs.Ytmmbakggmlfffaa
open Go Go.AM Go.Proofs
theorem lsum_take {ts : List (List (List Int))} : ∀ {i : Nat}, i < ts.length → lsum wayN (ts.take (i + 1)) = lsum wayN (ts.take i) + wayN (gi ts (i : Int)) := by
  intro i hi
  rw [take_gi hi, lsum_app]
  rfl
end Go.Proofs.Ytmmbakggmlfffaa
namespace Go.Proofs.Ytmmbakggmlfffaa
open Go Go.AM Go.Proofs
abbrev Tab := List (List Int)
def uniT (V n : Nat) : Tab := List.replicate V (List.replicate V (n : Int))
/-- as many choices, and as often each pair, as sixteen rows can have -/
def UniP (V n : Nat) : Prop := (V = 2 ∧ 1 ≤ n ∧ n ≤ 4) ∨ (V = 3 ∧ n = 1)
theorem uni_cases {P : Nat → Nat → Prop} {V n : Nat} (h : UniP V n) (h1 : P 2 1) (h2 : P 2 2) (h3 : P 2 3) (h4 : P 2 4) (h5 : P 3 1) : P V n := by
  rcases h with ⟨rfl, q1, q2⟩ | ⟨rfl, rfl⟩
  · have : n = 1 ∨ n = 2 ∨ n = 3 ∨ n = 4 := by omega
    rcases this with rfl | rfl | rfl | rfl
    · exact h1
    · exact h2
    · exact h3
    · exact h4
  · exact h5
theorem uni_ok {V n : Nat} (h : UniP V n) : TabOk (uniT V n) := by
  refine uni_cases (P := fun V n => TabOk (uniT V n)) h ?_ ?_ ?_ ?_ ?_ <;> (simp [uniT, TabOk, RowOk, OkN, gi, List.replicate])
theorem uni_full {V n : Nat} (h : UniP V n) : Full (uniT V n) := by
  refine ⟨uni_ok h, ?_⟩
  refine uni_cases (P := fun V n => ¬ (0 : Int) ∈ rowSums (uniT V n) ∧ ¬ (0 : Int) ∈ colSums (uniT V n)) h ?_ ?_ ?_ ?_ ?_ <;> decide +kernel
theorem uni_off {V n : Nat} (h : UniP V n) : fracN (offP (uniT V n) (uniT V n).length) (allN (uniT V n)) = (0, 1) := by
  refine uni_cases (P := fun V n => fracN (offP (uniT V n) (uniT V n).length) (allN (uniT V n)) = (0, 1)) h ?_ ?_ ?_ ?_ ?_ <;> decide +kernel
theorem uni_tail {V n : Nat} (h : UniP V n) : taF (uniT V n) = (1, 1) := by
  refine uni_cases (P := fun V n => taF (uniT V n) = (1, 1)) h ?_ ?_ ?_ ?_ ?_ <;> decide +kernel
end Go.Proofs.Ytmmbakggmlfffaa
namespace Go.Proofs.Ytmmbakggmlfffaa.A9
open Go Go.AM Go.Proofs
def ChR (v : Int) (r : List Int) : Prop := ∀ x ∈ r, 0 ≤ x ∧ x < v
instance (v : Int) (r : List Int) : Decidable (ChR v r) := by unfold ChR; infer_instance
def RowP (v : Int) (k : Nat) (r : List Int) : Prop := r.length = k ∧ 1 ≤ r.length ∧ r.length ≤ 8 ∧ ChR v r
instance (v : Int) (k : Nat) (r : List Int) : Decidable (RowP v k r) := by unfold RowP; infer_instance
def ArrP (v : Int) (t : List (List Int)) : Prop := 2 ≤ v ∧ v ≤ 4 ∧ 1 ≤ t.length ∧ t.length ≤ 16 ∧ ∀ r ∈ t, RowP v (gi t 0).length r
instance (v : Int) (t : List (List Int)) : Decidable (ArrP v t) := by unfold ArrP; infer_instance
/-- how many columns -/
def wd (t : List (List Int)) : Nat := (gi t 0).length
theorem ArrP.row {v : Int} {t : List (List Int)} (h : ArrP v t) {r : List Int} (hr : r ∈ t) : r.length = wd t ∧ ChR v r := ⟨(h.2.2.2.2 r hr).1, (h.2.2.2.2 r hr).2.2.2⟩
theorem ArrP.wd {v : Int} {t : List (List Int)} (h : ArrP v t) : 1 ≤ wd t ∧ wd t ≤ 8 := by
  have := h.2.2.2.2 (gi t 0) (gi_mem (by omega) (by have := h.2.2.1; omega))
  exact ⟨this.2.1, this.2.2.1⟩
theorem foldl_min_le {xs : List Int} : ∀ {m : Int}, xs.foldl min m ≤ m ∧ ∀ x ∈ xs, xs.foldl min m ≤ x := by
  induction xs with
  | nil => simp
  | cons x xs ih =>
    intro m
    have := ih (m := min m x)
    simp only [List.foldl_cons, List.mem_cons, forall_eq_or_imp]
    exact ⟨by omega, by omega, this.2⟩
theorem foldl_max_ge {xs : List Int} : ∀ {m : Int}, m ≤ xs.foldl max m ∧ ∀ x ∈ xs, x ≤ xs.foldl max m := by
  induction xs with
  | nil => simp
  | cons x xs ih =>
    intro m
    have := ih (m := max m x)
    simp only [List.foldl_cons, List.mem_cons, forall_eq_or_imp]
    exact ⟨by omega, by omega, this.2⟩
theorem foldl_min_mem {xs : List Int} : ∀ {m : Int}, xs.foldl min m = m ∨ xs.foldl min m ∈ xs := by
  induction xs with
  | nil => simp
  | cons x xs ih =>
    intro m
    simp only [List.foldl_cons, List.mem_cons]
    rcases ih (m := min m x) with h | h
    · rw [h]; rcases Int.le_total m x with h1 | h1
      · left; omega
      · right; left; omega
    · exact .inr (.inr h)
theorem foldl_max_mem {xs : List Int} : ∀ {m : Int}, xs.foldl max m = m ∨ xs.foldl max m ∈ xs := by
  induction xs with
  | nil => simp
  | cons x xs ih =>
    intro m
    simp only [List.foldl_cons, List.mem_cons]
    rcases ih (m := max m x) with h | h
    · rw [h]; rcases Int.le_total m x with h1 | h1
      · right; left; omega
      · left; omega
    · exact .inr (.inr h)
def minL (xs : List Int) : Int := (xs.drop 1).foldl min (gi xs 0)
def maxL (xs : List Int) : Int := (xs.drop 1).foldl max (gi xs 0)
theorem minL_spec {xs : List Int} (h : 1 ≤ xs.length) : minL xs ∈ xs ∧ ∀ x ∈ xs, minL xs ≤ x := by
  cases xs with
  | nil => simp at h
  | cons x xs =>
    simp only [minL, zx181, List.drop_succ_cons, List.drop_zero]
    have h1 := foldl_min_le (xs := xs) (m := x)
    refine ⟨?_, fun y hy => ?_⟩
    · rcases foldl_min_mem (xs := xs) (m := x) with h | h
      · rw [h]; simp
      · exact List.mem_cons_of_mem _ h
    · rcases List.mem_cons.1 hy with rfl | hy
      · exact h1.1
      · exact h1.2 y hy
theorem maxL_spec {xs : List Int} (h : 1 ≤ xs.length) : maxL xs ∈ xs ∧ ∀ x ∈ xs, x ≤ maxL xs := by
  cases xs with
  | nil => simp at h
  | cons x xs =>
    simp only [maxL, zx181, List.drop_succ_cons, List.drop_zero]
    have h1 := foldl_max_ge (xs := xs) (m := x)
    refine ⟨?_, fun y hy => ?_⟩
    · rcases foldl_max_mem (xs := xs) (m := x) with h | h
      · rw [h]; simp
      · exact List.mem_cons_of_mem _ h
    · rcases List.mem_cons.1 hy with rfl | hy
      · exact h1.1
      · exact h1.2 y hy
theorem take_drop1 {xs : List Int} {i : Nat} (h1 : 1 ≤ i) (h : i < xs.length) : (xs.take (i + 1)).drop 1 = (xs.take i).drop 1 ++ [gi xs i] := by
  rw [take_gi h, List.drop_append_of_le_length (by rw [List.length_take]; omega)]
theorem minL_take {xs : List Int} {i : Nat} (h1 : 1 ≤ i) (h : i < xs.length) : minL (xs.take (i + 1)) = min (minL (xs.take i)) (gi xs i) := by
  have e : ∀ j, 1 ≤ j → gi (xs.take j) 0 = gi xs 0 := fun j hj => by cases xs with | nil => simp at h | cons x r => cases j with | zero => omega | succ j => rfl
  unfold minL
  rw [take_drop1 h1 h, List.foldl_append, e _ h1, e _ (by omega)]; rfl
theorem maxL_take {xs : List Int} {i : Nat} (h1 : 1 ≤ i) (h : i < xs.length) : maxL (xs.take (i + 1)) = max (maxL (xs.take i)) (gi xs i) := by
  have e : ∀ j, 1 ≤ j → gi (xs.take j) 0 = gi xs 0 := fun j hj => by cases xs with | nil => simp at h | cons x r => cases j with | zero => omega | succ j => rfl
  unfold maxL
  rw [take_drop1 h1 h, List.foldl_append, e _ h1, e _ (by omega)]; rfl
theorem min_ret {p : Nat → Prop} {H : Heap} {v : AV} {xs : List Int} (hx : Sl p H v xs) (h : 1 ≤ xs.length) : RetP E 32 [v] H (.i (minL xs)) := by
  refine RetP.ro rfl fn32 rfl rfl ?_
  unfold f32A
  have hb := hx.bound
  simp (disch := (first | assumption | omega | (simp only [List.length_append, List.length_cons, List.length_nil]; omega))) only [↓wD,wU,Nat.reduceBEq,zx150,zx151,zx159,zx160,zx161,zx162,Nat.reduceAdd,Nat.reduceSub,Nat.reduceMul,Nat.reduceLeDiff,Nat.reduceLT,Nat.reduceEqDiff,Int.reduceAdd,Int.reduceSub,Int.reduceMul,Int.reduceNeg,Int.reduceLT,Int.reduceLE,Int.reduceEq,Int.reduceToNat,Int.cast_ofNat_Int,↓reduceIte, *, hx.I]
  refine Wp.for (xs.length - 1) (fun i a H' => H' = H ∧ a 0 = v ∧ a 4 = .i (i + 1) ∧ a 3 = .i (minL (xs.take (i + 1)))) ?_ ?_
  · rintro i a H' hi ⟨rfl, a0, a4, a3⟩ ih
    simp (disch := (first | assumption | omega | (simp only [List.length_append, List.length_cons, List.length_nil]; omega))) only [↓wD,wU,Nat.reduceBEq,zx150,zx151,zx159,zx160,zx161,zx162,Nat.reduceAdd,Nat.reduceSub,Nat.reduceMul,Nat.reduceLeDiff,Nat.reduceLT,Nat.reduceEqDiff,Int.reduceAdd,Int.reduceSub,Int.reduceMul,Int.reduceNeg,Int.reduceLT,Int.reduceLE,Int.reduceEq,Int.reduceToNat,Int.cast_ofNat_Int,↓reduceIte, *, hx.I]
    refine condP_split (fun hlt => ?_) (fun hlt => ?_)
    · have hi' : i < xs.length - 1 := by omega
      have e := minL_take (xs := xs) (i := i + 1) (by omega) (by omega)
      simp only [Int.natCast_add, Int.natCast_one] at e
      simp (disch := (first | assumption | omega | (simp only [List.length_append, List.length_cons, List.length_nil]; omega))) only [↓wD,wU,Nat.reduceBEq,zx150,zx151,zx159,zx160,zx161,zx162,Nat.reduceAdd,Nat.reduceSub,Nat.reduceMul,Nat.reduceLeDiff,Nat.reduceLT,Nat.reduceEqDiff,Int.reduceAdd,Int.reduceSub,Int.reduceMul,Int.reduceNeg,Int.reduceLT,Int.reduceLE,Int.reduceEq,Int.reduceToNat,Int.cast_ofNat_Int,↓reduceIte, *, hx.I]
      refine (ih hi').go ⟨rfl, ?_⟩
      simp (disch := (first | assumption | omega | (simp only [List.length_append, List.length_cons, List.length_nil]; omega))) only [↓wD,wU,Nat.reduceBEq,zx150,zx151,zx159,zx160,zx161,zx162,Nat.reduceAdd,Nat.reduceSub,Nat.reduceMul,Nat.reduceLeDiff,Nat.reduceLT,Nat.reduceEqDiff,Int.reduceAdd,Int.reduceSub,Int.reduceMul,Int.reduceNeg,Int.reduceLT,Int.reduceLE,Int.reduceEq,Int.reduceToNat,Int.cast_ofNat_Int,↓reduceIte, *]
    · simp (disch := (first | assumption | omega | (simp only [List.length_append, List.length_cons, List.length_nil]; omega))) only [↓wD,wU,Nat.reduceBEq,zx150,zx151,zx159,zx160,zx161,zx162,Nat.reduceAdd,Nat.reduceSub,Nat.reduceMul,Nat.reduceLeDiff,Nat.reduceLT,Nat.reduceEqDiff,Int.reduceAdd,Int.reduceSub,Int.reduceMul,Int.reduceNeg,Int.reduceLT,Int.reduceLE,Int.reduceEq,Int.reduceToNat,Int.cast_ofNat_Int,↓reduceIte, *]
      rw [List.take_of_length_le (by omega)]
  · (simp (disch := (first | assumption | omega | (simp only [List.length_append, List.length_cons, List.length_nil]; omega))) only [↓wD,wU,Nat.reduceBEq,zx150,zx151,zx159,zx160,zx161,zx162,Nat.reduceAdd,Nat.reduceSub,Nat.reduceMul,Nat.reduceLeDiff,Nat.reduceLT,Nat.reduceEqDiff,Int.reduceAdd,Int.reduceSub,Int.reduceMul,Int.reduceNeg,Int.reduceLT,Int.reduceLE,Int.reduceEq,Int.reduceToNat,Int.cast_ofNat_Int,↓reduceIte, *]) <;> first | rfl | skip
    unfold minL
    cases xs with
    | nil => simp at h
    | cons x r => simp [zx181]
theorem max_ret {p : Nat → Prop} {H : Heap} {v : AV} {xs : List Int} (hx : Sl p H v xs) (h : 1 ≤ xs.length) : RetP E 50 [v] H (.i (maxL xs)) := by
  refine RetP.ro rfl fn50 rfl rfl ?_
  unfold f50A
  have hb := hx.bound
  simp (disch := (first | assumption | omega | (simp only [List.length_append, List.length_cons, List.length_nil]; omega))) only [↓wD,wU,Nat.reduceBEq,zx150,zx151,zx159,zx160,zx161,zx162,Nat.reduceAdd,Nat.reduceSub,Nat.reduceMul,Nat.reduceLeDiff,Nat.reduceLT,Nat.reduceEqDiff,Int.reduceAdd,Int.reduceSub,Int.reduceMul,Int.reduceNeg,Int.reduceLT,Int.reduceLE,Int.reduceEq,Int.reduceToNat,Int.cast_ofNat_Int,↓reduceIte, *, hx.I]
  refine Wp.for (xs.length - 1) (fun i a H' => H' = H ∧ a 0 = v ∧ a 4 = .i (i + 1) ∧ a 3 = .i (maxL (xs.take (i + 1)))) ?_ ?_
  · rintro i a H' hi ⟨rfl, a0, a4, a3⟩ ih
    simp (disch := (first | assumption | omega | (simp only [List.length_append, List.length_cons, List.length_nil]; omega))) only [↓wD,wU,Nat.reduceBEq,zx150,zx151,zx159,zx160,zx161,zx162,Nat.reduceAdd,Nat.reduceSub,Nat.reduceMul,Nat.reduceLeDiff,Nat.reduceLT,Nat.reduceEqDiff,Int.reduceAdd,Int.reduceSub,Int.reduceMul,Int.reduceNeg,Int.reduceLT,Int.reduceLE,Int.reduceEq,Int.reduceToNat,Int.cast_ofNat_Int,↓reduceIte, *, hx.I]
    refine condP_split (fun hlt => ?_) (fun hlt => ?_)
    · have hi' : i < xs.length - 1 := by omega
      have e := maxL_take (xs := xs) (i := i + 1) (by omega) (by omega)
      simp only [Int.natCast_add, Int.natCast_one] at e
      simp (disch := (first | assumption | omega | (simp only [List.length_append, List.length_cons, List.length_nil]; omega))) only [↓wD,wU,Nat.reduceBEq,zx150,zx151,zx159,zx160,zx161,zx162,Nat.reduceAdd,Nat.reduceSub,Nat.reduceMul,Nat.reduceLeDiff,Nat.reduceLT,Nat.reduceEqDiff,Int.reduceAdd,Int.reduceSub,Int.reduceMul,Int.reduceNeg,Int.reduceLT,Int.reduceLE,Int.reduceEq,Int.reduceToNat,Int.cast_ofNat_Int,↓reduceIte, *, hx.I]
      refine (ih hi').go ⟨rfl, ?_⟩
      simp (disch := (first | assumption | omega | (simp only [List.length_append, List.length_cons, List.length_nil]; omega))) only [↓wD,wU,Nat.reduceBEq,zx150,zx151,zx159,zx160,zx161,zx162,Nat.reduceAdd,Nat.reduceSub,Nat.reduceMul,Nat.reduceLeDiff,Nat.reduceLT,Nat.reduceEqDiff,Int.reduceAdd,Int.reduceSub,Int.reduceMul,Int.reduceNeg,Int.reduceLT,Int.reduceLE,Int.reduceEq,Int.reduceToNat,Int.cast_ofNat_Int,↓reduceIte, *]
    · simp (disch := (first | assumption | omega | (simp only [List.length_append, List.length_cons, List.length_nil]; omega))) only [↓wD,wU,Nat.reduceBEq,zx150,zx151,zx159,zx160,zx161,zx162,Nat.reduceAdd,Nat.reduceSub,Nat.reduceMul,Nat.reduceLeDiff,Nat.reduceLT,Nat.reduceEqDiff,Int.reduceAdd,Int.reduceSub,Int.reduceMul,Int.reduceNeg,Int.reduceLT,Int.reduceLE,Int.reduceEq,Int.reduceToNat,Int.cast_ofNat_Int,↓reduceIte, *]
      rw [List.take_of_length_le (by omega)]
  · (simp (disch := (first | assumption | omega | (simp only [List.length_append, List.length_cons, List.length_nil]; omega))) only [↓wD,wU,Nat.reduceBEq,zx150,zx151,zx159,zx160,zx161,zx162,Nat.reduceAdd,Nat.reduceSub,Nat.reduceMul,Nat.reduceLeDiff,Nat.reduceLT,Nat.reduceEqDiff,Int.reduceAdd,Int.reduceSub,Int.reduceMul,Int.reduceNeg,Int.reduceLT,Int.reduceLE,Int.reduceEq,Int.reduceToNat,Int.cast_ofNat_Int,↓reduceIte, *]) <;> first | rfl | skip
    unfold maxL
    cases xs with
    | nil => simp at h
    | cons x r => simp [zx181]
end Go.Proofs.Ytmmbakggmlfffaa.A9
namespace Go.Proofs.Ytmmbakggmlfffaa.A9
open Go Go.AM Go.Proofs
theorem chr_min {v : Int} {r : List Int} (h : 1 ≤ r.length) (h1 : 0 ≤ minL r) (h2 : maxL r < v) : ChR v r := fun x hx =>
  ⟨Int.le_trans h1 ((minL_spec h).2 x hx), Int.lt_of_le_of_lt ((maxL_spec h).2 x hx) h2⟩
theorem chr_of {v : Int} {r : List Int} (h : 1 ≤ r.length) (hc : ChR v r) : 0 ≤ minL r ∧ maxL r < v := ⟨(hc _ (minL_spec h).1).1, (hc _ (maxL_spec h).1).2⟩
theorem valid_ret {p : Nat → Prop} {H : Heap} {rows : AV} {v : Int} {t : List (List Int)} (ht : Sl p H rows t) : RetP E 45 [.ag [.i v, rows]] H (.b (decide (ArrP v t))) := by
  refine RetP.ro rfl fn45 rfl rfl ?_
  unfold f45A
  have hb := ht.bound
  by_cases h0 : 2 ≤ v ∧ v ≤ 4 ∧ 1 ≤ t.length ∧ t.length ≤ 16
  · obtain ⟨v1, v2, t1, t2⟩ := h0
    simp (disch := (first | assumption | omega | (simp only [List.length_append, List.length_cons, List.length_nil]; omega))) only [↓wD,wU,Nat.reduceBEq,zx150,zx151,zx159,zx160,zx161,zx162,Nat.reduceAdd,Nat.reduceSub,Nat.reduceMul,Nat.reduceLeDiff,Nat.reduceLT,Nat.reduceEqDiff,Int.reduceAdd,Int.reduceSub,Int.reduceMul,Int.reduceNeg,Int.reduceLT,Int.reduceLE,Int.reduceEq,Int.reduceToNat,Int.cast_ofNat_Int,↓reduceIte, *, ht.L]
    have k1 := ht.app [.cells [.i v, rows]]
    refine Wp.for t.length (fun i a H' => H' = H ++ [.cells [.i v, rows]] ∧ a 1 = .p H.length 0 ∧ a 26 = rows ∧ a 27 = .i t.length ∧ a 28 = .i i ∧ ∀ r ∈ t.take i, RowP v (gi t 0).length r) ?_ ?_
    · rintro i a H' hi ⟨rfl, a1, a26, a27, a28, hh⟩ ih
      simp (disch := (first | assumption | omega | (simp only [List.length_append, List.length_cons, List.length_nil]; omega))) only [↓wD,wU,Nat.reduceBEq,zx150,zx151,zx159,zx160,zx161,zx162,Nat.reduceAdd,Nat.reduceSub,Nat.reduceMul,Nat.reduceLeDiff,Nat.reduceLT,Nat.reduceEqDiff,Int.reduceAdd,Int.reduceSub,Int.reduceMul,Int.reduceNeg,Int.reduceLT,Int.reduceLE,Int.reduceEq,Int.reduceToNat,Int.cast_ofNat_Int,↓reduceIte, *]
      refine condP_split (fun hlt => ?_) (fun hlt => ?_)
      · have hi' : i < t.length := by omega
        have g1 := k1.get (k := (i : Int)) (by omega) (by omega)
        have g0 := k1.get (k := 0) (by omega) (by omega)
        have gb := g1.bound
        have gb0 := g0.bound
        have bad : ¬ RowP v (gi t 0).length (gi t i) → AV.b false = AV.b (decide (ArrP v t)) := fun h => avb_f fun hh => h (hh.2.2.2.2 _ (mem_gi hi'))
        by_cases q1 : 1 ≤ (gi t i).length
        · by_cases q2 : (gi t i).length ≤ 8
          · by_cases q3 : (gi t i).length = (gi t 0).length
            · by_cases q4 : 0 ≤ minL (gi t i)
              · by_cases q5 : maxL (gi t i) < v
                · have q3' : ((gi t i).length : Int) = (gi t 0).length := by omega
                  simp (disch := (first | assumption | omega | (simp only [List.length_append, List.length_cons, List.length_nil]; omega))) only [↓wD,wU,Nat.reduceBEq,zx150,zx151,zx159,zx160,zx161,zx162,Nat.reduceAdd,Nat.reduceSub,Nat.reduceMul,Nat.reduceLeDiff,Nat.reduceLT,Nat.reduceEqDiff,Int.reduceAdd,Int.reduceSub,Int.reduceMul,Int.reduceNeg,Int.reduceLT,Int.reduceLE,Int.reduceEq,Int.reduceToNat,Int.cast_ofNat_Int,↓reduceIte, *, k1.L, g1.I, g0.I, (min_ret g1 q1).call, (max_ret g1 q1).call]
                  refine (ih hi').go ⟨rfl, ?_⟩
                  simp (disch := (first | assumption | omega | (simp only [List.length_append, List.length_cons, List.length_nil]; omega))) only [↓wD,wU,Nat.reduceBEq,zx150,zx151,zx159,zx160,zx161,zx162,Nat.reduceAdd,Nat.reduceSub,Nat.reduceMul,Nat.reduceLeDiff,Nat.reduceLT,Nat.reduceEqDiff,Int.reduceAdd,Int.reduceSub,Int.reduceMul,Int.reduceNeg,Int.reduceLT,Int.reduceLE,Int.reduceEq,Int.reduceToNat,Int.cast_ofNat_Int,↓reduceIte, *]
                  exact mem_take_gi hh hi' ⟨q3, q1, q2, chr_min q1 q4 q5⟩
                · have q3' : ((gi t i).length : Int) = (gi t 0).length := by omega
                  simp (disch := (first | assumption | omega | (simp only [List.length_append, List.length_cons, List.length_nil]; omega))) only [↓wD,wU,Nat.reduceBEq,zx150,zx151,zx159,zx160,zx161,zx162,Nat.reduceAdd,Nat.reduceSub,Nat.reduceMul,Nat.reduceLeDiff,Nat.reduceLT,Nat.reduceEqDiff,Int.reduceAdd,Int.reduceSub,Int.reduceMul,Int.reduceNeg,Int.reduceLT,Int.reduceLE,Int.reduceEq,Int.reduceToNat,Int.cast_ofNat_Int,↓reduceIte, *, k1.L, g1.I, g0.I, (min_ret g1 q1).call, (max_ret g1 q1).call]
                  exact bad fun h => q5 (chr_of q1 h.2.2.2).2
              · have q3' : ((gi t i).length : Int) = (gi t 0).length := by omega
                simp (disch := (first | assumption | omega | (simp only [List.length_append, List.length_cons, List.length_nil]; omega))) only [↓wD,wU,Nat.reduceBEq,zx150,zx151,zx159,zx160,zx161,zx162,Nat.reduceAdd,Nat.reduceSub,Nat.reduceMul,Nat.reduceLeDiff,Nat.reduceLT,Nat.reduceEqDiff,Int.reduceAdd,Int.reduceSub,Int.reduceMul,Int.reduceNeg,Int.reduceLT,Int.reduceLE,Int.reduceEq,Int.reduceToNat,Int.cast_ofNat_Int,↓reduceIte, *, k1.L, g1.I, g0.I, (min_ret g1 q1).call, (max_ret g1 q1).call]
                exact bad fun h => q4 (chr_of q1 h.2.2.2).1
            · have q3' : ¬ ((gi t i).length : Int) = (gi t 0).length := by omega
              simp (disch := (first | assumption | omega | (simp only [List.length_append, List.length_cons, List.length_nil]; omega))) only [↓wD,wU,Nat.reduceBEq,zx150,zx151,zx159,zx160,zx161,zx162,Nat.reduceAdd,Nat.reduceSub,Nat.reduceMul,Nat.reduceLeDiff,Nat.reduceLT,Nat.reduceEqDiff,Int.reduceAdd,Int.reduceSub,Int.reduceMul,Int.reduceNeg,Int.reduceLT,Int.reduceLE,Int.reduceEq,Int.reduceToNat,Int.cast_ofNat_Int,↓reduceIte, *, k1.L, g1.I, g0.I]
              exact bad fun h => q3 h.1
          · simp (disch := (first | assumption | omega | (simp only [List.length_append, List.length_cons, List.length_nil]; omega))) only [↓wD,wU,Nat.reduceBEq,zx150,zx151,zx159,zx160,zx161,zx162,Nat.reduceAdd,Nat.reduceSub,Nat.reduceMul,Nat.reduceLeDiff,Nat.reduceLT,Nat.reduceEqDiff,Int.reduceAdd,Int.reduceSub,Int.reduceMul,Int.reduceNeg,Int.reduceLT,Int.reduceLE,Int.reduceEq,Int.reduceToNat,Int.cast_ofNat_Int,↓reduceIte, *, k1.L, g1.I, g0.I]
            exact bad fun h => q2 h.2.2.1
        · simp (disch := (first | assumption | omega | (simp only [List.length_append, List.length_cons, List.length_nil]; omega))) only [↓wD,wU,Nat.reduceBEq,zx150,zx151,zx159,zx160,zx161,zx162,Nat.reduceAdd,Nat.reduceSub,Nat.reduceMul,Nat.reduceLeDiff,Nat.reduceLT,Nat.reduceEqDiff,Int.reduceAdd,Int.reduceSub,Int.reduceMul,Int.reduceNeg,Int.reduceLT,Int.reduceLE,Int.reduceEq,Int.reduceToNat,Int.cast_ofNat_Int,↓reduceIte, *, k1.L, g1.I, g0.I]
          exact bad fun h => q1 h.2.1
      · simp (disch := (first | assumption | omega | (simp only [List.length_append, List.length_cons, List.length_nil]; omega))) only [↓wD,wU,Nat.reduceBEq,zx150,zx151,zx159,zx160,zx161,zx162,Nat.reduceAdd,Nat.reduceSub,Nat.reduceMul,Nat.reduceLeDiff,Nat.reduceLT,Nat.reduceEqDiff,Int.reduceAdd,Int.reduceSub,Int.reduceMul,Int.reduceNeg,Int.reduceLT,Int.reduceLE,Int.reduceEq,Int.reduceToNat,Int.cast_ofNat_Int,↓reduceIte, *]
        exact avb_t ⟨v1, v2, t1, t2, mem_take_all hh (by omega)⟩
    · (simp (disch := (first | assumption | omega | (simp only [List.length_append, List.length_cons, List.length_nil]; omega))) only [↓wD,wU,Nat.reduceBEq,zx150,zx151,zx159,zx160,zx161,zx162,Nat.reduceAdd,Nat.reduceSub,Nat.reduceMul,Nat.reduceLeDiff,Nat.reduceLT,Nat.reduceEqDiff,Int.reduceAdd,Int.reduceSub,Int.reduceMul,Int.reduceNeg,Int.reduceLT,Int.reduceLE,Int.reduceEq,Int.reduceToNat,Int.cast_ofNat_Int,↓reduceIte, *]) <;> simp
  · have bad : ¬ ArrP v t := fun h => h0 ⟨h.1, h.2.1, h.2.2.1, h.2.2.2.1⟩
    by_cases h1 : v < 2
    · clear h0
      simp (disch := (first | assumption | omega | (simp only [List.length_append, List.length_cons, List.length_nil]; omega))) only [↓wD,wU,Nat.reduceBEq,zx150,zx151,zx159,zx160,zx161,zx162,Nat.reduceAdd,Nat.reduceSub,Nat.reduceMul,Nat.reduceLeDiff,Nat.reduceLT,Nat.reduceEqDiff,Int.reduceAdd,Int.reduceSub,Int.reduceMul,Int.reduceNeg,Int.reduceLT,Int.reduceLE,Int.reduceEq,Int.reduceToNat,Int.cast_ofNat_Int,↓reduceIte, *, ht.L]
    by_cases h2 : 4 < v
    · clear h0
      simp (disch := (first | assumption | omega | (simp only [List.length_append, List.length_cons, List.length_nil]; omega))) only [↓wD,wU,Nat.reduceBEq,zx150,zx151,zx159,zx160,zx161,zx162,Nat.reduceAdd,Nat.reduceSub,Nat.reduceMul,Nat.reduceLeDiff,Nat.reduceLT,Nat.reduceEqDiff,Int.reduceAdd,Int.reduceSub,Int.reduceMul,Int.reduceNeg,Int.reduceLT,Int.reduceLE,Int.reduceEq,Int.reduceToNat,Int.cast_ofNat_Int,↓reduceIte, *, ht.L]
    by_cases h3 : t.length < 1
    · clear h0
      simp (disch := (first | assumption | omega | (simp only [List.length_append, List.length_cons, List.length_nil]; omega))) only [↓wD,wU,Nat.reduceBEq,zx150,zx151,zx159,zx160,zx161,zx162,Nat.reduceAdd,Nat.reduceSub,Nat.reduceMul,Nat.reduceLeDiff,Nat.reduceLT,Nat.reduceEqDiff,Int.reduceAdd,Int.reduceSub,Int.reduceMul,Int.reduceNeg,Int.reduceLT,Int.reduceLE,Int.reduceEq,Int.reduceToNat,Int.cast_ofNat_Int,↓reduceIte, *, ht.L]
    · have h4 : 16 < t.length := by omega
      clear h0
      simp (disch := (first | assumption | omega | (simp only [List.length_append, List.length_cons, List.length_nil]; omega))) only [↓wD,wU,Nat.reduceBEq,zx150,zx151,zx159,zx160,zx161,zx162,Nat.reduceAdd,Nat.reduceSub,Nat.reduceMul,Nat.reduceLeDiff,Nat.reduceLT,Nat.reduceEqDiff,Int.reduceAdd,Int.reduceSub,Int.reduceMul,Int.reduceNeg,Int.reduceLT,Int.reduceLE,Int.reduceEq,Int.reduceToNat,Int.cast_ofNat_Int,↓reduceIte, *, ht.L]
theorem columns_ret {p : Nat → Prop} {H : Heap} {rows : AV} {v : Int} {t : List (List Int)} (ht : Sl p H rows t) (h : 1 ≤ t.length) : RetP E 46 [.ag [.i v, rows]] H (.i (wd t)) := by
  refine RetP.ro rfl fn46 rfl rfl ?_
  unfold f46A
  have k1 := ht.app [.cells [.i v, rows]]
  have g0 := k1.get (k := 0) (by omega) (by omega)
  simp (disch := (first | assumption | omega | (simp only [List.length_append, List.length_cons, List.length_nil]; omega))) only [↓wD,wU,Nat.reduceBEq,zx150,zx151,zx159,zx160,zx161,zx162,Nat.reduceAdd,Nat.reduceSub,Nat.reduceMul,Nat.reduceLeDiff,Nat.reduceLT,Nat.reduceEqDiff,Int.reduceAdd,Int.reduceSub,Int.reduceMul,Int.reduceNeg,Int.reduceLT,Int.reduceLE,Int.reduceEq,Int.reduceToNat,Int.cast_ofNat_Int,↓reduceIte, *, k1.L, g0.I]
  rfl
theorem strong_ret {p : Nat → Prop} {H : Heap} {rows : AV} {v k m : Int} {t : List (List Int)} (ht : Sl p H rows t) : RetP E 29 [.ag [.i v, rows], .i k, .i m] H (.b (decide (ArrP v t ∧ 1 ≤ k ∧ k ≤ m ∧ k ≤ wd t))) := by
  refine RetP.ro rfl fn29 rfl rfl ?_
  unfold f29A
  have k1 := ht.app [.cells [.i v, rows]]
  by_cases h : ArrP v t
  · (repeat' (first | refine condP_split (fun _ => ?_) (fun _ => ?_) | refine guardP_split (fun _ => ?_) (fun _ => ?_) | refine guardP_splitF (fun _ => ?_) (fun _ => ?_) | (simp (disch := (first | assumption | omega | (simp only [List.length_append, List.length_cons, List.length_nil]; omega))) only [↓wD,wU,Nat.reduceBEq,zx150,zx151,zx159,zx160,zx161,zx162,Nat.reduceAdd,Nat.reduceSub,Nat.reduceMul,Nat.reduceLeDiff,Nat.reduceLT,Nat.reduceEqDiff,Int.reduceAdd,Int.reduceSub,Int.reduceMul,Int.reduceNeg,Int.reduceLT,Int.reduceLE,Int.reduceEq,Int.reduceToNat,Int.cast_ofNat_Int,↓reduceIte, *, false_and, and_false, ht.L, (valid_ret k1).call, (columns_ret k1 h.2.2.1).call]))) <;> simp_all
  · (repeat' (first | refine condP_split (fun _ => ?_) (fun _ => ?_) | refine guardP_split (fun _ => ?_) (fun _ => ?_) | refine guardP_splitF (fun _ => ?_) (fun _ => ?_) | (simp (disch := (first | assumption | omega | (simp only [List.length_append, List.length_cons, List.length_nil]; omega))) only [↓wD,wU,Nat.reduceBEq,zx150,zx151,zx159,zx160,zx161,zx162,Nat.reduceAdd,Nat.reduceSub,Nat.reduceMul,Nat.reduceLeDiff,Nat.reduceLT,Nat.reduceEqDiff,Int.reduceAdd,Int.reduceSub,Int.reduceMul,Int.reduceNeg,Int.reduceLT,Int.reduceLE,Int.reduceEq,Int.reduceToNat,Int.cast_ofNat_Int,↓reduceIte, *, false_and, and_false, ht.L, (valid_ret k1).call]))) <;> simp_all
theorem rvalid_ret {p : Nat → Prop} {H : Heap} {rows : AV} {v : Int} {t : List (List Int)} (ht : Sl p H rows t) : RetP E 15 [.ag [.i v, rows]] H (.b (decide (ArrP v t))) := by
  refine RetP.ro rfl fn15 rfl rfl ?_
  unfold f15A
  have hb := ht.bound
  by_cases h0 : 2 ≤ v ∧ v ≤ 4 ∧ 1 ≤ t.length ∧ t.length ≤ 16
  · obtain ⟨v1, v2, t1, t2⟩ := h0
    simp (disch := (first | assumption | omega | (simp only [List.length_append, List.length_cons, List.length_nil]; omega))) only [↓wD,wU,Nat.reduceBEq,zx150,zx151,zx159,zx160,zx161,zx162,Nat.reduceAdd,Nat.reduceSub,Nat.reduceMul,Nat.reduceLeDiff,Nat.reduceLT,Nat.reduceEqDiff,Int.reduceAdd,Int.reduceSub,Int.reduceMul,Int.reduceNeg,Int.reduceLT,Int.reduceLE,Int.reduceEq,Int.reduceToNat,Int.cast_ofNat_Int,↓reduceIte, *, ht.L]
    have k1 := ht.app [.cells [.i v, rows]]
    refine Wp.for t.length (fun i a H' => H' = H ++ [.cells [.i v, rows]] ∧ a 1 = .p H.length 0 ∧ a 28 = rows ∧ a 29 = .i t.length ∧ a 30 = .i i ∧ ∀ r ∈ t.take i, RowP v (gi t 0).length r) ?_ ?_
    · rintro i a H' hi ⟨rfl, a1, a28, a29, a30, hh⟩ ih
      simp (disch := (first | assumption | omega | (simp only [List.length_append, List.length_cons, List.length_nil]; omega))) only [↓wD,wU,Nat.reduceBEq,zx150,zx151,zx159,zx160,zx161,zx162,Nat.reduceAdd,Nat.reduceSub,Nat.reduceMul,Nat.reduceLeDiff,Nat.reduceLT,Nat.reduceEqDiff,Int.reduceAdd,Int.reduceSub,Int.reduceMul,Int.reduceNeg,Int.reduceLT,Int.reduceLE,Int.reduceEq,Int.reduceToNat,Int.cast_ofNat_Int,↓reduceIte, *]
      refine condP_split (fun hlt => ?_) (fun hlt => ?_)
      · have hi' : i < t.length := by omega
        have g1 := k1.get (k := (i : Int)) (by omega) (by omega)
        have g0 := k1.get (k := 0) (by omega) (by omega)
        have gb := g1.bound
        have gb0 := g0.bound
        have bad : ¬ RowP v (gi t 0).length (gi t i) → AV.b false = AV.b (decide (ArrP v t)) := fun h => avb_f fun hh => h (hh.2.2.2.2 _ (mem_gi hi'))
        by_cases q3 : (gi t i).length = (gi t 0).length
        · have q3' : ((gi t i).length : Int) = (gi t 0).length := by omega
          by_cases q1 : 1 ≤ (gi t i).length
          · by_cases q2 : (gi t i).length ≤ 8
            · simp (disch := (first | assumption | omega | (simp only [List.length_append, List.length_cons, List.length_nil]; omega))) only [↓wD,wU,Nat.reduceBEq,zx150,zx151,zx159,zx160,zx161,zx162,Nat.reduceAdd,Nat.reduceSub,Nat.reduceMul,Nat.reduceLeDiff,Nat.reduceLT,Nat.reduceEqDiff,Int.reduceAdd,Int.reduceSub,Int.reduceMul,Int.reduceNeg,Int.reduceLT,Int.reduceLE,Int.reduceEq,Int.reduceToNat,Int.cast_ofNat_Int,↓reduceIte, *, k1.L, g1.I, g0.I]
              refine Wp.for (gi t i).length (fun j a H' => H' = H ++ [.cells [.i v, rows]] ∧ a 1 = .p H.length 0 ∧ a 28 = rows ∧ a 29 = .i t.length ∧ a 30 = .i i ∧ a 52 = rows.get (H ++ [.cells [.i v, rows]]) i ∧ (∃ n : Int, a 53 = .i n ∧ n ≤ (gi t i).length ∧ (gi t i).length ≤ n) ∧ a 54 = .i j ∧ ChR v ((gi t i).take j)) ?_ ?_
              · rintro j a H' hj ⟨rfl, a1, a28, a29, a30, a52, ⟨n, a53, n1, n2⟩, a54, hh2⟩ ih2
                simp (disch := (first | assumption | omega | (simp only [List.length_append, List.length_cons, List.length_nil]; omega))) only [↓wD,wU,Nat.reduceBEq,zx150,zx151,zx159,zx160,zx161,zx162,Nat.reduceAdd,Nat.reduceSub,Nat.reduceMul,Nat.reduceLeDiff,Nat.reduceLT,Nat.reduceEqDiff,Int.reduceAdd,Int.reduceSub,Int.reduceMul,Int.reduceNeg,Int.reduceLT,Int.reduceLE,Int.reduceEq,Int.reduceToNat,Int.cast_ofNat_Int,↓reduceIte, *]
                refine condP_split (fun hlt2 => ?_) (fun hlt2 => ?_)
                · have hj' : j < (gi t i).length := by omega
                  have bad2 : ¬ (0 ≤ gi (gi t i) j ∧ gi (gi t i) j < v) → AV.b false = AV.b (decide (ArrP v t)) := fun h => bad fun hh => h (hh.2.2.2 _ (mem_gi hj'))
                  (repeat' (first | refine condP_split (fun _ => ?_) (fun _ => ?_) | refine guardP_split (fun _ => ?_) (fun _ => ?_) | refine guardP_splitF (fun _ => ?_) (fun _ => ?_) | (simp (disch := (first | assumption | omega | (simp only [List.length_append, List.length_cons, List.length_nil]; omega))) only [↓wD,wU,Nat.reduceBEq,zx150,zx151,zx159,zx160,zx161,zx162,Nat.reduceAdd,Nat.reduceSub,Nat.reduceMul,Nat.reduceLeDiff,Nat.reduceLT,Nat.reduceEqDiff,Int.reduceAdd,Int.reduceSub,Int.reduceMul,Int.reduceNeg,Int.reduceLT,Int.reduceLE,Int.reduceEq,Int.reduceToNat,Int.cast_ofNat_Int,↓reduceIte, *, g1.I]))) <;> first | exact bad2 (by omega) | skip
                  refine (ih2 hj').go ⟨rfl, ?_⟩
                  simp (disch := (first | assumption | omega | (simp only [List.length_append, List.length_cons, List.length_nil]; omega))) only [↓wD,wU,Nat.reduceBEq,zx150,zx151,zx159,zx160,zx161,zx162,Nat.reduceAdd,Nat.reduceSub,Nat.reduceMul,Nat.reduceLeDiff,Nat.reduceLT,Nat.reduceEqDiff,Int.reduceAdd,Int.reduceSub,Int.reduceMul,Int.reduceNeg,Int.reduceLT,Int.reduceLE,Int.reduceEq,Int.reduceToNat,Int.cast_ofNat_Int,↓reduceIte, *]
                  exact ⟨⟨n, rfl, by omega, by omega⟩, mem_take_gi (P := fun x => 0 ≤ x ∧ x < v) hh2 hj' (by omega)⟩
                · simp (disch := (first | assumption | omega | (simp only [List.length_append, List.length_cons, List.length_nil]; omega))) only [↓wD,wU,Nat.reduceBEq,zx150,zx151,zx159,zx160,zx161,zx162,Nat.reduceAdd,Nat.reduceSub,Nat.reduceMul,Nat.reduceLeDiff,Nat.reduceLT,Nat.reduceEqDiff,Int.reduceAdd,Int.reduceSub,Int.reduceMul,Int.reduceNeg,Int.reduceLT,Int.reduceLE,Int.reduceEq,Int.reduceToNat,Int.cast_ofNat_Int,↓reduceIte, *]
                  refine (ih hi').go ⟨rfl, ?_⟩
                  simp (disch := (first | assumption | omega | (simp only [List.length_append, List.length_cons, List.length_nil]; omega))) only [↓wD,wU,Nat.reduceBEq,zx150,zx151,zx159,zx160,zx161,zx162,Nat.reduceAdd,Nat.reduceSub,Nat.reduceMul,Nat.reduceLeDiff,Nat.reduceLT,Nat.reduceEqDiff,Int.reduceAdd,Int.reduceSub,Int.reduceMul,Int.reduceNeg,Int.reduceLT,Int.reduceLE,Int.reduceEq,Int.reduceToNat,Int.cast_ofNat_Int,↓reduceIte, *]
                  exact mem_take_gi hh hi' ⟨q3, q1, q2, mem_take_all hh2 (by omega)⟩
              · (simp (disch := (first | assumption | omega | (simp only [List.length_append, List.length_cons, List.length_nil]; omega))) only [↓wD,wU,Nat.reduceBEq,zx150,zx151,zx159,zx160,zx161,zx162,Nat.reduceAdd,Nat.reduceSub,Nat.reduceMul,Nat.reduceLeDiff,Nat.reduceLT,Nat.reduceEqDiff,Int.reduceAdd,Int.reduceSub,Int.reduceMul,Int.reduceNeg,Int.reduceLT,Int.reduceLE,Int.reduceEq,Int.reduceToNat,Int.cast_ofNat_Int,↓reduceIte, *]) <;> (first | exact ⟨⟨_, rfl, by omega, by omega⟩, by simp [ChR]⟩ | simp [ChR])
            · simp (disch := (first | assumption | omega | (simp only [List.length_append, List.length_cons, List.length_nil]; omega))) only [↓wD,wU,Nat.reduceBEq,zx150,zx151,zx159,zx160,zx161,zx162,Nat.reduceAdd,Nat.reduceSub,Nat.reduceMul,Nat.reduceLeDiff,Nat.reduceLT,Nat.reduceEqDiff,Int.reduceAdd,Int.reduceSub,Int.reduceMul,Int.reduceNeg,Int.reduceLT,Int.reduceLE,Int.reduceEq,Int.reduceToNat,Int.cast_ofNat_Int,↓reduceIte, *, k1.L, g1.I, g0.I]
              exact bad fun h => q2 h.2.2.1
          · simp (disch := (first | assumption | omega | (simp only [List.length_append, List.length_cons, List.length_nil]; omega))) only [↓wD,wU,Nat.reduceBEq,zx150,zx151,zx159,zx160,zx161,zx162,Nat.reduceAdd,Nat.reduceSub,Nat.reduceMul,Nat.reduceLeDiff,Nat.reduceLT,Nat.reduceEqDiff,Int.reduceAdd,Int.reduceSub,Int.reduceMul,Int.reduceNeg,Int.reduceLT,Int.reduceLE,Int.reduceEq,Int.reduceToNat,Int.cast_ofNat_Int,↓reduceIte, *, k1.L, g1.I, g0.I]
            exact bad fun h => q1 h.2.1
        · have q3' : ¬ ((gi t i).length : Int) = (gi t 0).length := by omega
          simp (disch := (first | assumption | omega | (simp only [List.length_append, List.length_cons, List.length_nil]; omega))) only [↓wD,wU,Nat.reduceBEq,zx150,zx151,zx159,zx160,zx161,zx162,Nat.reduceAdd,Nat.reduceSub,Nat.reduceMul,Nat.reduceLeDiff,Nat.reduceLT,Nat.reduceEqDiff,Int.reduceAdd,Int.reduceSub,Int.reduceMul,Int.reduceNeg,Int.reduceLT,Int.reduceLE,Int.reduceEq,Int.reduceToNat,Int.cast_ofNat_Int,↓reduceIte, *, k1.L, g1.I, g0.I]
          exact bad fun h => q3 h.1
      · simp (disch := (first | assumption | omega | (simp only [List.length_append, List.length_cons, List.length_nil]; omega))) only [↓wD,wU,Nat.reduceBEq,zx150,zx151,zx159,zx160,zx161,zx162,Nat.reduceAdd,Nat.reduceSub,Nat.reduceMul,Nat.reduceLeDiff,Nat.reduceLT,Nat.reduceEqDiff,Int.reduceAdd,Int.reduceSub,Int.reduceMul,Int.reduceNeg,Int.reduceLT,Int.reduceLE,Int.reduceEq,Int.reduceToNat,Int.cast_ofNat_Int,↓reduceIte, *]
        exact avb_t ⟨v1, v2, t1, t2, mem_take_all hh (by omega)⟩
    · (simp (disch := (first | assumption | omega | (simp only [List.length_append, List.length_cons, List.length_nil]; omega))) only [↓wD,wU,Nat.reduceBEq,zx150,zx151,zx159,zx160,zx161,zx162,Nat.reduceAdd,Nat.reduceSub,Nat.reduceMul,Nat.reduceLeDiff,Nat.reduceLT,Nat.reduceEqDiff,Int.reduceAdd,Int.reduceSub,Int.reduceMul,Int.reduceNeg,Int.reduceLT,Int.reduceLE,Int.reduceEq,Int.reduceToNat,Int.cast_ofNat_Int,↓reduceIte, *]) <;> simp
  · have bad : ¬ ArrP v t := fun h => h0 ⟨h.1, h.2.1, h.2.2.1, h.2.2.2.1⟩
    by_cases h1 : v < 2
    · clear h0
      simp (disch := (first | assumption | omega | (simp only [List.length_append, List.length_cons, List.length_nil]; omega))) only [↓wD,wU,Nat.reduceBEq,zx150,zx151,zx159,zx160,zx161,zx162,Nat.reduceAdd,Nat.reduceSub,Nat.reduceMul,Nat.reduceLeDiff,Nat.reduceLT,Nat.reduceEqDiff,Int.reduceAdd,Int.reduceSub,Int.reduceMul,Int.reduceNeg,Int.reduceLT,Int.reduceLE,Int.reduceEq,Int.reduceToNat,Int.cast_ofNat_Int,↓reduceIte, *, ht.L]
    by_cases h2 : 4 < v
    · clear h0
      simp (disch := (first | assumption | omega | (simp only [List.length_append, List.length_cons, List.length_nil]; omega))) only [↓wD,wU,Nat.reduceBEq,zx150,zx151,zx159,zx160,zx161,zx162,Nat.reduceAdd,Nat.reduceSub,Nat.reduceMul,Nat.reduceLeDiff,Nat.reduceLT,Nat.reduceEqDiff,Int.reduceAdd,Int.reduceSub,Int.reduceMul,Int.reduceNeg,Int.reduceLT,Int.reduceLE,Int.reduceEq,Int.reduceToNat,Int.cast_ofNat_Int,↓reduceIte, *, ht.L]
    by_cases h3 : t.length < 1
    · clear h0
      simp (disch := (first | assumption | omega | (simp only [List.length_append, List.length_cons, List.length_nil]; omega))) only [↓wD,wU,Nat.reduceBEq,zx150,zx151,zx159,zx160,zx161,zx162,Nat.reduceAdd,Nat.reduceSub,Nat.reduceMul,Nat.reduceLeDiff,Nat.reduceLT,Nat.reduceEqDiff,Int.reduceAdd,Int.reduceSub,Int.reduceMul,Int.reduceNeg,Int.reduceLT,Int.reduceLE,Int.reduceEq,Int.reduceToNat,Int.cast_ofNat_Int,↓reduceIte, *, ht.L]
    · have h4 : 16 < t.length := by omega
      clear h0
      simp (disch := (first | assumption | omega | (simp only [List.length_append, List.length_cons, List.length_nil]; omega))) only [↓wD,wU,Nat.reduceBEq,zx150,zx151,zx159,zx160,zx161,zx162,Nat.reduceAdd,Nat.reduceSub,Nat.reduceMul,Nat.reduceLeDiff,Nat.reduceLT,Nat.reduceEqDiff,Int.reduceAdd,Int.reduceSub,Int.reduceMul,Int.reduceNeg,Int.reduceLT,Int.reduceLE,Int.reduceEq,Int.reduceToNat,Int.cast_ofNat_Int,↓reduceIte, *, ht.L]
theorem width_ret {p : Nat → Prop} {H : Heap} {rows : AV} {v : Int} {t : List (List Int)} (ht : Sl p H rows t) (h : 1 ≤ t.length) : RetP E 16 [.ag [.i v, rows]] H (.i (wd t)) := by
  refine RetP.ro rfl fn16 rfl rfl ?_
  unfold f16A
  have k1 := ht.app [.cells [.i v, rows]]
  have g0 := k1.get (k := 0) (by omega) (by omega)
  simp (disch := (first | assumption | omega | (simp only [List.length_append, List.length_cons, List.length_nil]; omega))) only [↓wD,wU,Nat.reduceBEq,zx150,zx151,zx159,zx160,zx161,zx162,Nat.reduceAdd,Nat.reduceSub,Nat.reduceMul,Nat.reduceLeDiff,Nat.reduceLT,Nat.reduceEqDiff,Int.reduceAdd,Int.reduceSub,Int.reduceMul,Int.reduceNeg,Int.reduceLT,Int.reduceLE,Int.reduceEq,Int.reduceToNat,Int.cast_ofNat_Int,↓reduceIte, *, k1.L, g0.I]
  rfl
end Go.Proofs.Ytmmbakggmlfffaa.A9
namespace Go.Proofs.Ytmmbakggmlfffaa.A9
open Go Go.AM Go.Proofs
def cutA (t : List (List Int)) : List (List Int) := (t.take 19).map fun r => r.take 11
theorem cutA_ok {v : Int} {t : List (List Int)} (h : ArrP v t) : cutA t = t := by
  unfold cutA
  rw [List.take_of_length_le (by have := h.2.2.2.1; omega)]
  conv => rhs; rw [← List.map_id t]
  apply List.map_congr_left
  intro r hr
  exact List.take_of_length_le (by have := (h.2.2.2.2 r hr).2.2.1; omega)
theorem ArrP_cut {v : Int} {t : List (List Int)} : ArrP v (cutA t) ↔ ArrP v t := by
  constructor
  · intro h
    have e : cutA t = t := by
      have h1 : t.length ≤ 16 := by have := h.2.2.2.1; simp [cutA] at this; omega
      unfold cutA
      rw [List.take_of_length_le (by omega)]
      conv => rhs; rw [← List.map_id t]
      apply List.map_congr_left
      intro r hr
      have hm : r.take 11 ∈ cutA t := by
        unfold cutA
        rw [List.take_of_length_le (by omega)]
        exact List.mem_map_of_mem hr
      have := (h.2.2.2.2 _ hm).2.2.1
      rw [List.length_take] at this
      exact List.take_of_length_le (by omega)
    rwa [e] at h
  · intro h
    rw [cutA_ok h]; exact h
end Go.Proofs.Ytmmbakggmlfffaa.A9
namespace Go.Proofs.Ytmmbakggmlfffaa.A9
open Go Go.AM Go.Proofs
def comesL (rs cs ks : List Int) : Bool := (cs.zip ks).all fun q => gi rs q.1 == q.2
theorem zip_take_succ {α : Type} [Inhabited α] {xs ys : List α} {i : Nat} (h1 : i < xs.length) (h2 : i < ys.length) : (xs.take (i + 1)).zip (ys.take (i + 1)) = (xs.take i).zip (ys.take i) ++ [(gi xs i, gi ys i)] := by
  rw [take_gi h1, take_gi h2, List.zip_append (by simp; omega)]; rfl
theorem comesL_succ {rs cs ks : List Int} {i : Nat} (h1 : i < cs.length) (h2 : i < ks.length) : comesL rs (cs.take (i + 1)) (ks.take (i + 1)) = (comesL rs (cs.take i) (ks.take i) && (gi rs (gi cs i) == gi ks i)) := by
  simp [comesL, zip_take_succ h1 h2, List.all_append]
theorem comesL_all {rs cs ks : List Int} {i : Nat} (h1 : cs.length ≤ i) (h2 : ks.length ≤ i) : comesL rs (cs.take i) (ks.take i) = comesL rs cs ks := by
  rw [List.take_of_length_le h1, List.take_of_length_le h2]
theorem comesL_f {rs cs ks : List Int} {i : Nat} (h1 : i < cs.length) (h2 : i < ks.length) (h : ¬ gi rs (gi cs i) = gi ks i) : comesL rs cs ks = false := by
  rw [← Bool.not_eq_true]
  intro hh
  unfold comesL at hh
  rw [List.all_eq_true] at hh
  have := hh (cs[i], ks[i]) (List.mem_iff_getElem.2 ⟨i, by simp; omega, by simp⟩)
  rw [gi_nat h1, gi_nat h2] at h
  simp at this
  exact h this
theorem comes_ret {p q p' : Nat → Prop} {H : Heap} {row cols ch : AV} {rs cs ks : List Int} (hr : Sl p H row rs) (hc : Sl q H cols cs) (hk : Sl p' H ch ks) (hl : cs.length = ks.length) (hb : ∀ c ∈ cs, 0 ≤ c ∧ c < rs.length) :
    RetP E 65 [row, cols, ch] H (.b (comesL rs cs ks)) := by
  refine RetP.ro rfl fn65 rfl rfl ?_
  unfold f65A
  simp (disch := (first | assumption | omega | (simp only [List.length_append, List.length_cons, List.length_nil]; omega))) only [↓wD,wU,Nat.reduceBEq,zx150,zx151,zx159,zx160,zx161,zx162,Nat.reduceAdd,Nat.reduceSub,Nat.reduceMul,Nat.reduceLeDiff,Nat.reduceLT,Nat.reduceEqDiff,Int.reduceAdd,Int.reduceSub,Int.reduceMul,Int.reduceNeg,Int.reduceLT,Int.reduceLE,Int.reduceEq,Int.reduceToNat,Int.cast_ofNat_Int,↓reduceIte, *, hc.I]
  have hbd := hc.bound
  refine Wp.for cs.length (fun i a H' => H' = H ∧ a 0 = row ∧ a 2 = ch ∧ a 9 = cols ∧ a 10 = .i cs.length ∧ a 11 = .i i ∧ comesL rs (cs.take i) (ks.take i) = true) ?_ ?_
  · rintro i a H' hi ⟨rfl, h0, h2, h9, h10, h11, hh⟩ ih
    simp (disch := (first | assumption | omega | (simp only [List.length_append, List.length_cons, List.length_nil]; omega))) only [↓wD,wU,Nat.reduceBEq,zx150,zx151,zx159,zx160,zx161,zx162,Nat.reduceAdd,Nat.reduceSub,Nat.reduceMul,Nat.reduceLeDiff,Nat.reduceLT,Nat.reduceEqDiff,Int.reduceAdd,Int.reduceSub,Int.reduceMul,Int.reduceNeg,Int.reduceLT,Int.reduceLE,Int.reduceEq,Int.reduceToNat,Int.cast_ofNat_Int,↓reduceIte, *]
    refine condP_split (fun hlt => ?_) (fun hlt => ?_)
    · have hlt' : i < cs.length := by omega
      have hbi := hb (gi cs i) (mem_gi hlt')
      simp (disch := (first | assumption | omega | (simp only [List.length_append, List.length_cons, List.length_nil]; omega))) only [↓wD,wU,Nat.reduceBEq,zx150,zx151,zx159,zx160,zx161,zx162,Nat.reduceAdd,Nat.reduceSub,Nat.reduceMul,Nat.reduceLeDiff,Nat.reduceLT,Nat.reduceEqDiff,Int.reduceAdd,Int.reduceSub,Int.reduceMul,Int.reduceNeg,Int.reduceLT,Int.reduceLE,Int.reduceEq,Int.reduceToNat,Int.cast_ofNat_Int,↓reduceIte, *, hc.I, hr.I, hk.I]
      refine condP_split (fun hne => ?_) (fun hne => ?_)
      · simp (disch := (first | assumption | omega | (simp only [List.length_append, List.length_cons, List.length_nil]; omega))) only [↓wD,wU,Nat.reduceBEq,zx150,zx151,zx159,zx160,zx161,zx162,Nat.reduceAdd,Nat.reduceSub,Nat.reduceMul,Nat.reduceLeDiff,Nat.reduceLT,Nat.reduceEqDiff,Int.reduceAdd,Int.reduceSub,Int.reduceMul,Int.reduceNeg,Int.reduceLT,Int.reduceLE,Int.reduceEq,Int.reduceToNat,Int.cast_ofNat_Int,↓reduceIte, *]
        rw [comesL_f hlt' (by omega) hne]
      · simp (disch := (first | assumption | omega | (simp only [List.length_append, List.length_cons, List.length_nil]; omega))) only [↓wD,wU,Nat.reduceBEq,zx150,zx151,zx159,zx160,zx161,zx162,Nat.reduceAdd,Nat.reduceSub,Nat.reduceMul,Nat.reduceLeDiff,Nat.reduceLT,Nat.reduceEqDiff,Int.reduceAdd,Int.reduceSub,Int.reduceMul,Int.reduceNeg,Int.reduceLT,Int.reduceLE,Int.reduceEq,Int.reduceToNat,Int.cast_ofNat_Int,↓reduceIte, *]
        refine (ih hlt').go ⟨rfl, ?_⟩
        simp (disch := (first | assumption | omega | (simp only [List.length_append, List.length_cons, List.length_nil]; omega))) only [↓wD,wU,Nat.reduceBEq,zx150,zx151,zx159,zx160,zx161,zx162,Nat.reduceAdd,Nat.reduceSub,Nat.reduceMul,Nat.reduceLeDiff,Nat.reduceLT,Nat.reduceEqDiff,Int.reduceAdd,Int.reduceSub,Int.reduceMul,Int.reduceNeg,Int.reduceLT,Int.reduceLE,Int.reduceEq,Int.reduceToNat,Int.cast_ofNat_Int,↓reduceIte, *]
        rw [comesL_succ hlt' (by omega), hh]
        simp; omega
    · simp (disch := (first | assumption | omega | (simp only [List.length_append, List.length_cons, List.length_nil]; omega))) only [↓wD,wU,Nat.reduceBEq,zx150,zx151,zx159,zx160,zx161,zx162,Nat.reduceAdd,Nat.reduceSub,Nat.reduceMul,Nat.reduceLeDiff,Nat.reduceLT,Nat.reduceEqDiff,Int.reduceAdd,Int.reduceSub,Int.reduceMul,Int.reduceNeg,Int.reduceLT,Int.reduceLE,Int.reduceEq,Int.reduceToNat,Int.cast_ofNat_Int,↓reduceIte, *]
      rw [← comesL_all (i := i) (cs := cs) (by omega) (by omega), hh]
  · (simp (disch := (first | assumption | omega | (simp only [List.length_append, List.length_cons, List.length_nil]; omega))) only [↓wD,wU,Nat.reduceBEq,zx150,zx151,zx159,zx160,zx161,zx162,Nat.reduceAdd,Nat.reduceSub,Nat.reduceMul,Nat.reduceLeDiff,Nat.reduceLT,Nat.reduceEqDiff,Int.reduceAdd,Int.reduceSub,Int.reduceMul,Int.reduceNeg,Int.reduceLT,Int.reduceLE,Int.reduceEq,Int.reduceToNat,Int.cast_ofNat_Int,↓reduceIte, *]) <;> simp [comesL]
/-- in how many rows they come -/
def oft (t : List (List Int)) (cs ks : List Int) : Nat := t.countP fun r => comesL r cs ks
theorem oft_succ {t : List (List Int)} {cs ks : List Int} {i : Nat} (h : i < t.length) : oft (t.take (i + 1)) cs ks = oft (t.take i) cs ks + if comesL (gi t i) cs ks = true then 1 else 0 := by
  unfold oft
  rw [take_gi h, List.countP_append]
  simp [List.countP_cons]
theorem oft_le {t : List (List Int)} {cs ks : List Int} : oft t cs ks ≤ t.length := List.countP_le_length
theorem often_ret {p q p' : Nat → Prop} {H : Heap} {rows cols ch : AV} {v : Int} {t : List (List Int)} {cs ks : List Int} (ht : Sl p H rows t) (hc : Sl q H cols cs) (hk : Sl p' H ch ks) (hl : cs.length = ks.length) (hb : ∀ c ∈ cs, 0 ≤ c ∧ ∀ r ∈ t, c < r.length) :
    RetP E 59 [.ag [.i v, rows], cols, ch] H (.i (oft t cs ks)) := by
  refine RetP.ro rfl fn59 rfl rfl ?_
  unfold f59A
  have hbd := ht.bound
  simp (disch := (first | assumption | omega | (simp only [List.length_append, List.length_cons, List.length_nil]; omega))) only [↓wD,wU,Nat.reduceBEq,zx150,zx151,zx159,zx160,zx161,zx162,Nat.reduceAdd,Nat.reduceSub,Nat.reduceMul,Nat.reduceLeDiff,Nat.reduceLT,Nat.reduceEqDiff,Int.reduceAdd,Int.reduceSub,Int.reduceMul,Int.reduceNeg,Int.reduceLT,Int.reduceLE,Int.reduceEq,Int.reduceToNat,Int.cast_ofNat_Int,↓reduceIte, *, ht.L]
  have k1 := ht.app [.cells [.i v, rows]]
  have kc := hc.app [.cells [.i v, rows]]
  have kk := hk.app [.cells [.i v, rows]]
  refine Wp.for t.length (fun i a H' => H' = H ++ [.cells [.i v, rows]] ∧ a 1 = cols ∧ a 2 = ch ∧ a 11 = rows ∧ a 12 = .i t.length ∧ a 13 = .i i ∧ a 7 = .i (oft (t.take i) cs ks)) ?_ ?_
  · rintro i a H' hi ⟨rfl, a1, a2, a11, a12, a13, a7⟩ ih
    have hle := oft_le (t := t.take i) (cs := cs) (ks := ks)
    rw [List.length_take] at hle
    simp (disch := (first | assumption | omega | (simp only [List.length_append, List.length_cons, List.length_nil]; omega))) only [↓wD,wU,Nat.reduceBEq,zx150,zx151,zx159,zx160,zx161,zx162,Nat.reduceAdd,Nat.reduceSub,Nat.reduceMul,Nat.reduceLeDiff,Nat.reduceLT,Nat.reduceEqDiff,Int.reduceAdd,Int.reduceSub,Int.reduceMul,Int.reduceNeg,Int.reduceLT,Int.reduceLE,Int.reduceEq,Int.reduceToNat,Int.cast_ofNat_Int,↓reduceIte, *]
    refine condP_split (fun hlt => ?_) (fun hlt => ?_)
    · have hi' : i < t.length := by omega
      have g := k1.get (k := (i : Int)) (by omega) (by omega)
      have hs := oft_succ (cs := cs) (ks := ks) hi'
      simp (disch := (first | assumption | omega | (simp only [List.length_append, List.length_cons, List.length_nil]; omega))) only [↓wD,wU,Nat.reduceBEq,zx150,zx151,zx159,zx160,zx161,zx162,Nat.reduceAdd,Nat.reduceSub,Nat.reduceMul,Nat.reduceLeDiff,Nat.reduceLT,Nat.reduceEqDiff,Int.reduceAdd,Int.reduceSub,Int.reduceMul,Int.reduceNeg,Int.reduceLT,Int.reduceLE,Int.reduceEq,Int.reduceToNat,Int.cast_ofNat_Int,↓reduceIte, *, k1.L, (comes_ret g kc kk hl fun c hc => ⟨(hb c hc).1, by have := (hb c hc).2 _ (mem_gi hi'); omega⟩).call]
      refine condP_bool (fun hne => ?_) (fun hne => ?_)
      · rw [if_pos hne] at hs
        clear hne
        simp (disch := (first | assumption | omega | (simp only [List.length_append, List.length_cons, List.length_nil]; omega))) only [↓wD,wU,Nat.reduceBEq,zx150,zx151,zx159,zx160,zx161,zx162,Nat.reduceAdd,Nat.reduceSub,Nat.reduceMul,Nat.reduceLeDiff,Nat.reduceLT,Nat.reduceEqDiff,Int.reduceAdd,Int.reduceSub,Int.reduceMul,Int.reduceNeg,Int.reduceLT,Int.reduceLE,Int.reduceEq,Int.reduceToNat,Int.cast_ofNat_Int,↓reduceIte, *]
        refine (ih hi').go ⟨rfl, ?_⟩
        simp (disch := (first | assumption | omega | (simp only [List.length_append, List.length_cons, List.length_nil]; omega))) only [↓wD,wU,Nat.reduceBEq,zx150,zx151,zx159,zx160,zx161,zx162,Nat.reduceAdd,Nat.reduceSub,Nat.reduceMul,Nat.reduceLeDiff,Nat.reduceLT,Nat.reduceEqDiff,Int.reduceAdd,Int.reduceSub,Int.reduceMul,Int.reduceNeg,Int.reduceLT,Int.reduceLE,Int.reduceEq,Int.reduceToNat,Int.cast_ofNat_Int,↓reduceIte, *]
      · rw [if_neg (by simp [hne])] at hs
        clear hne
        simp (disch := (first | assumption | omega | (simp only [List.length_append, List.length_cons, List.length_nil]; omega))) only [↓wD,wU,Nat.reduceBEq,zx150,zx151,zx159,zx160,zx161,zx162,Nat.reduceAdd,Nat.reduceSub,Nat.reduceMul,Nat.reduceLeDiff,Nat.reduceLT,Nat.reduceEqDiff,Int.reduceAdd,Int.reduceSub,Int.reduceMul,Int.reduceNeg,Int.reduceLT,Int.reduceLE,Int.reduceEq,Int.reduceToNat,Int.cast_ofNat_Int,↓reduceIte, *]
        refine (ih hi').go ⟨rfl, ?_⟩
        simp (disch := (first | assumption | omega | (simp only [List.length_append, List.length_cons, List.length_nil]; omega))) only [↓wD,wU,Nat.reduceBEq,zx150,zx151,zx159,zx160,zx161,zx162,Nat.reduceAdd,Nat.reduceSub,Nat.reduceMul,Nat.reduceLeDiff,Nat.reduceLT,Nat.reduceEqDiff,Int.reduceAdd,Int.reduceSub,Int.reduceMul,Int.reduceNeg,Int.reduceLT,Int.reduceLE,Int.reduceEq,Int.reduceToNat,Int.cast_ofNat_Int,↓reduceIte, *]
    · simp (disch := (first | assumption | omega | (simp only [List.length_append, List.length_cons, List.length_nil]; omega))) only [↓wD,wU,Nat.reduceBEq,zx150,zx151,zx159,zx160,zx161,zx162,Nat.reduceAdd,Nat.reduceSub,Nat.reduceMul,Nat.reduceLeDiff,Nat.reduceLT,Nat.reduceEqDiff,Int.reduceAdd,Int.reduceSub,Int.reduceMul,Int.reduceNeg,Int.reduceLT,Int.reduceLE,Int.reduceEq,Int.reduceToNat,Int.cast_ofNat_Int,↓reduceIte, *]
      rw [List.take_of_length_le (by omega)]
  · (simp (disch := (first | assumption | omega | (simp only [List.length_append, List.length_cons, List.length_nil]; omega))) only [↓wD,wU,Nat.reduceBEq,zx150,zx151,zx159,zx160,zx161,zx162,Nat.reduceAdd,Nat.reduceSub,Nat.reduceMul,Nat.reduceLeDiff,Nat.reduceLT,Nat.reduceEqDiff,Int.reduceAdd,Int.reduceSub,Int.reduceMul,Int.reduceNeg,Int.reduceLT,Int.reduceLE,Int.reduceEq,Int.reduceToNat,Int.cast_ofNat_Int,↓reduceIte, *]) <;> simp [oft]
end Go.Proofs.Ytmmbakggmlfffaa.A9
namespace Go.Proofs.Ytmmbakggmlfffaa.A9
open Go Go.AM Go.Proofs
theorem Acc_empty {α : Type} [Rep α] {L : Nat} {p q : Nat → Prop} {H : Heap} {v : AV} (h : Sl p H v ([] : List α)) (hp : ∀ b, p b → L ≤ b) : Acc L q H v ([] : List α) := by
  rcases h with h | ⟨b, o, c, k, e, hb, hk, h1, h2, h3⟩
  · exact .inl h
  · exact .inr ⟨b, o, c, k, e, hp _ hb, hk, h1, h2, fun i hi => by simp at hi⟩
theorem grow0_ret {H : Heap} {n : Int} (h0 : 0 ≤ n) (h1 : n ≤ 1000000) : Ret E 64 [.nils, .i n] (fun _ => False) H ([] : List Int) := by
  refine Ret.ro rfl fn64 rfl ?_
  unfold f64A
  have hc : zx162 .nils = some (.i 0) := rfl
  by_cases hn : 0 < n
  · have hmb : mostBytes = 1099511627776 := by decide
    have hs : slV 1 .nils none (some (.i 0)) none = some .nils := rfl
    have ha : appendzV H.length 1 8 [.int .i64 0] .nils (.i n) H = some (.s 1 H.length 0 n.toNat none, H ++ [.cells (reps n.toNat [.int .i64 0])]) := by
      simp only [appendzV]
      rw [if_pos ⟨h0, by omega, by rw [hmb]; omega, rfl⟩]
      simp only [appendA]
      rw [if_neg (by omega), if_pos (by rw [hmb]; omega)]
    have hs2 : slV 1 (.s 1 H.length 0 n.toNat none) none (some (.i 0)) none = some (.s 1 H.length 0 0 none) := by
      simp [slV, Go.AM.lenA, boundV, sliceA, show 0 ≤ max n 0 by omega]
    simp (disch := (first | assumption | omega | (simp only [List.length_append, List.length_cons, List.length_nil]; omega))) only [↓wD,wU,Nat.reduceBEq,zx150,zx151,zx159,zx160,zx161,zx162,Nat.reduceAdd,Nat.reduceSub,Nat.reduceMul,Nat.reduceLeDiff,Nat.reduceLT,Nat.reduceEqDiff,Int.reduceAdd,Int.reduceSub,Int.reduceMul,Int.reduceNeg,Int.reduceLT,Int.reduceLE,Int.reduceEq,Int.reduceToNat,Int.cast_ofNat_Int,↓reduceIte, *, hc, hs, Int.sub_zero, ha, hs2]
    exact .inr ⟨H.length, 0, none, reps n.toNat [.int .i64 0], rfl, by simp, by simp, by simp, by simp, fun i hi => by simp at hi⟩
  · simp (disch := (first | assumption | omega | (simp only [List.length_append, List.length_cons, List.length_nil]; omega))) only [↓wD,wU,Nat.reduceBEq,zx150,zx151,zx159,zx160,zx161,zx162,Nat.reduceAdd,Nat.reduceSub,Nat.reduceMul,Nat.reduceLeDiff,Nat.reduceLT,Nat.reduceEqDiff,Int.reduceAdd,Int.reduceSub,Int.reduceMul,Int.reduceNeg,Int.reduceLT,Int.reduceLE,Int.reduceEq,Int.reduceToNat,Int.cast_ofNat_Int,↓reduceIte, *, hc]
    exact Sl.nil
def lsum (ls : List (List Int)) : Nat := (ls.map List.length).sum
theorem lsum_take {ls : List (List Int)} {i : Nat} (h : i < ls.length) : lsum (ls.take (i + 1)) = lsum (ls.take i) + (gi ls i).length := by
  unfold lsum; rw [take_gi h]; simp [List.sum_append]
theorem lsum_le {ls : List (List Int)} {i : Nat} : lsum (ls.take i) ≤ lsum ls := by
  have e : lsum ls = lsum (ls.take i) + lsum (ls.drop i) := by
    conv => lhs; rw [← List.take_append_drop i ls]
    unfold lsum; rw [List.map_append, List.sum_append]
  omega
theorem len_flatten (ls : List (List Int)) : ls.flatten.length = lsum ls := by simp [lsum, List.length_flatten]
theorem concat_ret {p : Nat → Prop} {H : Heap} {v : AV} {ls : List (List Int)} (hl : Sl p H v ls) (hs : lsum ls ≤ 1000000) : Ret E 58 [v] (fun _ => False) H ls.flatten := by
  refine Ret.ro rfl fn58 rfl ?_
  unfold f58A
  have hb := hl.bound
  simp (disch := (first | assumption | omega | (simp only [List.length_append, List.length_cons, List.length_nil]; omega))) only [↓wD,wU,Nat.reduceBEq,zx150,zx151,zx159,zx160,zx161,zx162,Nat.reduceAdd,Nat.reduceSub,Nat.reduceMul,Nat.reduceLeDiff,Nat.reduceLT,Nat.reduceEqDiff,Int.reduceAdd,Int.reduceSub,Int.reduceMul,Int.reduceNeg,Int.reduceLT,Int.reduceLE,Int.reduceEq,Int.reduceToNat,Int.cast_ofNat_Int,↓reduceIte, *, hl.L]
  refine Wp.for ls.length (fun i a H' => H' = H ∧ a 0 = v ∧ a 9 = v ∧ a 10 = .i ls.length ∧ a 11 = .i i ∧ a 3 = .i (lsum (ls.take i))) ?_ ?_
  · rintro i a H' hi ⟨rfl, a0, a9, a10, a11, a3⟩ ih
    have hle := lsum_le (ls := ls) (i := i)
    simp (disch := (first | assumption | omega | (simp only [List.length_append, List.length_cons, List.length_nil]; omega))) only [↓wD,wU,Nat.reduceBEq,zx150,zx151,zx159,zx160,zx161,zx162,Nat.reduceAdd,Nat.reduceSub,Nat.reduceMul,Nat.reduceLeDiff,Nat.reduceLT,Nat.reduceEqDiff,Int.reduceAdd,Int.reduceSub,Int.reduceMul,Int.reduceNeg,Int.reduceLT,Int.reduceLE,Int.reduceEq,Int.reduceToNat,Int.cast_ofNat_Int,↓reduceIte, *]
    refine condP_split (fun hlt => ?_) (fun hlt => ?_)
    · have hi' : i < ls.length := by omega
      have g := hl.get (k := (i : Int)) (by omega) (by omega)
      have e := lsum_take hi'
      have hle2 := lsum_le (ls := ls) (i := i + 1)
      simp (disch := (first | assumption | omega | (simp only [List.length_append, List.length_cons, List.length_nil]; omega))) only [↓wD,wU,Nat.reduceBEq,zx150,zx151,zx159,zx160,zx161,zx162,Nat.reduceAdd,Nat.reduceSub,Nat.reduceMul,Nat.reduceLeDiff,Nat.reduceLT,Nat.reduceEqDiff,Int.reduceAdd,Int.reduceSub,Int.reduceMul,Int.reduceNeg,Int.reduceLT,Int.reduceLE,Int.reduceEq,Int.reduceToNat,Int.cast_ofNat_Int,↓reduceIte, *, hl.L, g.I]
      refine (ih hi').go ⟨rfl, ?_⟩
      simp (disch := (first | assumption | omega | (simp only [List.length_append, List.length_cons, List.length_nil]; omega))) only [↓wD,wU,Nat.reduceBEq,zx150,zx151,zx159,zx160,zx161,zx162,Nat.reduceAdd,Nat.reduceSub,Nat.reduceMul,Nat.reduceLeDiff,Nat.reduceLT,Nat.reduceEqDiff,Int.reduceAdd,Int.reduceSub,Int.reduceMul,Int.reduceNeg,Int.reduceLT,Int.reduceLE,Int.reduceEq,Int.reduceToNat,Int.cast_ofNat_Int,↓reduceIte, *]
    · obtain rfl : i = ls.length := by omega
      have e : ls.take ls.length = ls := List.take_length
      rw [e] at a3
      clear hlt hi ih
      simp (disch := (first | assumption | omega | (simp only [List.length_append, List.length_cons, List.length_nil]; omega))) only [↓wD,wU,Nat.reduceBEq,zx150,zx151,zx159,zx160,zx161,zx162,Nat.reduceAdd,Nat.reduceSub,Nat.reduceMul,Nat.reduceLeDiff,Nat.reduceLT,Nat.reduceEqDiff,Int.reduceAdd,Int.reduceSub,Int.reduceMul,Int.reduceNeg,Int.reduceLT,Int.reduceLE,Int.reduceEq,Int.reduceToNat,Int.cast_ofNat_Int,↓reduceIte, *]
      refine (grow0_ret (by omega) (by omega)).toF fun u H2 hg hu => ?_
      have hl2 := (hl.low.weak fun _ h => h.2).gr hg
      simp (disch := (first | assumption | omega | (simp only [List.length_append, List.length_cons, List.length_nil]; omega))) only [↓wD,wU,Nat.reduceBEq,zx150,zx151,zx159,zx160,zx161,zx162,Nat.reduceAdd,Nat.reduceSub,Nat.reduceMul,Nat.reduceLeDiff,Nat.reduceLT,Nat.reduceEqDiff,Int.reduceAdd,Int.reduceSub,Int.reduceMul,Int.reduceNeg,Int.reduceLT,Int.reduceLE,Int.reduceEq,Int.reduceToNat,Int.cast_ofNat_Int,↓reduceIte, *, hl.L, hl2.L]
      have ha0 : Acc H'.length (fun _ => True) H2 u ([] : List Int) := Acc_empty hu fun _ h => h
      refine Wp.for ls.length (fun i a H1 => ∃ u, a 6 = u ∧ a 25 = v ∧ a 26 = .i ls.length ∧ a 27 = .i i ∧ Gr H' H1 ∧ Acc H'.length (fun _ => True) H1 u (ls.take i).flatten) ?_ ?_
      · clear ha0 hu a0 a9 a10 a11 a3
        rintro i a H1 hi ⟨u, a6, a25, a26, a27, hg1, hu⟩ ih
        simp (disch := (first | assumption | omega | (simp only [List.length_append, List.length_cons, List.length_nil]; omega))) only [↓wD,wU,Nat.reduceBEq,zx150,zx151,zx159,zx160,zx161,zx162,Nat.reduceAdd,Nat.reduceSub,Nat.reduceMul,Nat.reduceLeDiff,Nat.reduceLT,Nat.reduceEqDiff,Int.reduceAdd,Int.reduceSub,Int.reduceMul,Int.reduceNeg,Int.reduceLT,Int.reduceLE,Int.reduceEq,Int.reduceToNat,Int.cast_ofNat_Int,↓reduceIte, *]
        refine condP_split (fun hlt => ?_) (fun hlt => ?_)
        · have hi' : i < ls.length := by omega
          have hl1 := (hl.low.weak fun _ h => h.2).gr hg1
          have g := hl1.get (k := (i : Int)) (by omega) (by omega)
          simp (disch := (first | assumption | omega | (simp only [List.length_append, List.length_cons, List.length_nil]; omega))) only [↓wD,wU,Nat.reduceBEq,zx150,zx151,zx159,zx160,zx161,zx162,Nat.reduceAdd,Nat.reduceSub,Nat.reduceMul,Nat.reduceLeDiff,Nat.reduceLT,Nat.reduceEqDiff,Int.reduceAdd,Int.reduceSub,Int.reduceMul,Int.reduceNeg,Int.reduceLT,Int.reduceLE,Int.reduceEq,Int.reduceToNat,Int.cast_ofNat_Int,↓reduceIte, *, hl1.L, g.I]
          refine hu.extend (Nat.le_refl _) (by have := hg1.1; omega) g (fun b hb => ⟨trivial, fun e => by have := hu.blk_lt e; omega⟩) ?_ (by omega) fun u' H3 hu' hk => ?_
          · have e := lsum_take hi'
            have hle2 := lsum_le (ls := ls) (i := i + 1)
            rw [len_flatten, ← e]; omega
          · simp (disch := (first | assumption | omega | (simp only [List.length_append, List.length_cons, List.length_nil]; omega))) only [↓wD,wU,Nat.reduceBEq,zx150,zx151,zx159,zx160,zx161,zx162,Nat.reduceAdd,Nat.reduceSub,Nat.reduceMul,Nat.reduceLeDiff,Nat.reduceLT,Nat.reduceEqDiff,Int.reduceAdd,Int.reduceSub,Int.reduceMul,Int.reduceNeg,Int.reduceLT,Int.reduceLE,Int.reduceEq,Int.reduceToNat,Int.cast_ofNat_Int,↓reduceIte, *]
            refine (ih hi').go ⟨u', ?_⟩
            simp (disch := (first | assumption | omega | (simp only [List.length_append, List.length_cons, List.length_nil]; omega))) only [↓wD,wU,Nat.reduceBEq,zx150,zx151,zx159,zx160,zx161,zx162,Nat.reduceAdd,Nat.reduceSub,Nat.reduceMul,Nat.reduceLeDiff,Nat.reduceLT,Nat.reduceEqDiff,Int.reduceAdd,Int.reduceSub,Int.reduceMul,Int.reduceNeg,Int.reduceLT,Int.reduceLE,Int.reduceEq,Int.reduceToNat,Int.cast_ofNat_Int,↓reduceIte, *]
            refine ⟨hg1.push hu (Nat.le_refl _) hk, ?_⟩
            rw [take_gi hi', List.flatten_append]
            simpa using hu'
        · obtain rfl : i = ls.length := by omega
          simp (disch := (first | assumption | omega | (simp only [List.length_append, List.length_cons, List.length_nil]; omega))) only [↓wD,wU,Nat.reduceBEq,zx150,zx151,zx159,zx160,zx161,zx162,Nat.reduceAdd,Nat.reduceSub,Nat.reduceMul,Nat.reduceLeDiff,Nat.reduceLT,Nat.reduceEqDiff,Int.reduceAdd,Int.reduceSub,Int.reduceMul,Int.reduceNeg,Int.reduceLT,Int.reduceLE,Int.reduceEq,Int.reduceToNat,Int.cast_ofNat_Int,↓reduceIte, *]
          rw [e] at hu
          rcases hu with h | ⟨b, o, c, k, e, hb, hk, h1, h2, h3⟩
          · exact .inl h
          · exact .inr ⟨b, o, c, k, e, .inr hb, hk, h1, h2, h3⟩
      · simp (disch := (first | assumption | omega | (simp only [List.length_append, List.length_cons, List.length_nil]; omega))) only [↓wD,wU,Nat.reduceBEq,zx150,zx151,zx159,zx160,zx161,zx162,Nat.reduceAdd,Nat.reduceSub,Nat.reduceMul,Nat.reduceLeDiff,Nat.reduceLT,Nat.reduceEqDiff,Int.reduceAdd,Int.reduceSub,Int.reduceMul,Int.reduceNeg,Int.reduceLT,Int.reduceLE,Int.reduceEq,Int.reduceToNat,Int.cast_ofNat_Int,↓reduceIte, *]
        exact ⟨u, rfl, by first | exact ha0 | exact ⟨hg, ha0⟩⟩
  · (simp (disch := (first | assumption | omega | (simp only [List.length_append, List.length_cons, List.length_nil]; omega))) only [↓wD,wU,Nat.reduceBEq,zx150,zx151,zx159,zx160,zx161,zx162,Nat.reduceAdd,Nat.reduceSub,Nat.reduceMul,Nat.reduceLeDiff,Nat.reduceLT,Nat.reduceEqDiff,Int.reduceAdd,Int.reduceSub,Int.reduceMul,Int.reduceNeg,Int.reduceLT,Int.reduceLE,Int.reduceEq,Int.reduceToNat,Int.cast_ofNat_Int,↓reduceIte, *]) <;> simp [lsum]
end Go.Proofs.Ytmmbakggmlfffaa.A9
