/- What the law needs: what its functions do, and the laws on lists behind it. No condition. -/
import Derived.Test.YtflekaacffdakaaPi
import Derived.Test.YtflekaacffdakaaBo
import Derived.Laws.StructEq
import Derived.KernelRfl
import Derived.WalkKit
import Derived.ProofKit
import Derived.OpenShut
import Derived.ShutString
import Derived.ChangeOld
import Derived.Below
import Derived.SizedLaws
import Derived.Carry
set_option linter.unusedSimpArgs false
set_option linter.unusedVariables false
namespace Go.Proofs.Ytflekaacffdakaa
open Go Go.AM Go.Proofs
theorem clone_ret {p : Nat → Prop} {H : Heap} {v : AV} {xs : List Int} (hx : Sl p H v xs) (hs : xs.length * 8 ≤ 1099511627776) : Ret E 56 [v] (fun _ => False) H xs := by
  refine Ret.ro rfl fn56 rfl ?_
  unfold f56A
  have main : ∀ {Q : AV × Heap → Prop}, (∀ v' H', Sl (fun b => H.length ≤ b) H' v' xs → Q (v', H')) → @optP _ (appendV H.length 1 8 (.s 1 H.length 0 0 (some 0)) v (H ++ [.cells []])) ⟨Q⟩ := fun {Q} go => by
    have ha : Acc H.length (fun _ => True) (H ++ [.cells []]) (.s 1 H.length 0 0 (some 0)) ([] : List Int) := Acc.fresh0 (Nat.le_refl _)
    refine ha.extend (q := fun b => b < H.length) (Nat.le_refl _) (by simp) ((hx.low.app [.cells []]).weak fun b h => h.2) (fun b hb => ⟨trivial, ?_⟩) (by simpa using hs) (by omega) fun v' H' h' _ => go _ _ ?_
    · intro e; simp only [AV.blk, Option.some.injEq] at e; omega
    · rw [List.nil_append] at h'
      rcases h' with h' | ⟨b, o, c, k, e, hb, hk, h1, h2, h3⟩
      · exact .inl h'
      · exact .inr ⟨b, o, c, k, e, hb, hk, h1, h2, h3⟩
  rcases hx with ⟨rfl, rfl⟩ | ⟨b, o, c, k, e, hb, hk, h1, h2, h3⟩
  · simp (disch := (first | assumption | omega | (simp only [List.length_append, List.length_cons, List.length_nil]; omega))) only [↓wD,wU,Nat.reduceBEq,zx150,zx151,zx159,zx160,zx161,zx162,Nat.reduceAdd,Nat.reduceSub,Nat.reduceMul,Nat.reduceLeDiff,Nat.reduceLT,Nat.reduceEqDiff,Int.reduceAdd,Int.reduceSub,Int.reduceMul,Int.reduceNeg,Int.reduceLT,Int.reduceLE,Int.reduceEq,Int.reduceToNat,Int.cast_ofNat_Int,↓reduceIte, *]
    exact Sl.nil
  · subst e
    simp (disch := (first | assumption | omega | (simp only [List.length_append, List.length_cons, List.length_nil]; omega))) only [↓wD,wU,Nat.reduceBEq,zx150,zx151,zx159,zx160,zx161,zx162,Nat.reduceAdd,Nat.reduceSub,Nat.reduceMul,Nat.reduceLeDiff,Nat.reduceLT,Nat.reduceEqDiff,Int.reduceAdd,Int.reduceSub,Int.reduceMul,Int.reduceNeg,Int.reduceLT,Int.reduceLE,Int.reduceEq,Int.reduceToNat,Int.cast_ofNat_Int,↓reduceIte, *]
    refine main fun v' H' h' => ?_
    simp (disch := (first | assumption | omega | (simp only [List.length_append, List.length_cons, List.length_nil]; omega))) only [↓wD,wU,Nat.reduceBEq,zx150,zx151,zx159,zx160,zx161,zx162,Nat.reduceAdd,Nat.reduceSub,Nat.reduceMul,Nat.reduceLeDiff,Nat.reduceLT,Nat.reduceEqDiff,Int.reduceAdd,Int.reduceSub,Int.reduceMul,Int.reduceNeg,Int.reduceLT,Int.reduceLE,Int.reduceEq,Int.reduceToNat,Int.cast_ofNat_Int,↓reduceIte, *]
    exact h'.weak fun _ h => .inr h
end Go.Proofs.Ytflekaacffdakaa
namespace Go.Proofs.Ytflekaacffdakaa
open Go Go.AM Go.Proofs
def OkN (xs : List Int) : Prop := ∀ x ∈ xs, 0 ≤ x ∧ x ≤ 16
instance (xs : List Int) : Decidable (OkN xs) := by unfold OkN; infer_instance
def RowOk (n : Nat) (r : List Int) : Prop := 1 ≤ r.length ∧ r.length ≤ 3 ∧ r.length = n ∧ OkN r
def TabOk (t : List (List Int)) : Prop := 1 ≤ t.length ∧ t.length ≤ 3 ∧ (∀ r ∈ t, RowOk (gi t 0).length r) ∧ (t.map List.sum).sum ≤ 16
instance (n : Nat) (r : List Int) : Decidable (RowOk n r) := by unfold RowOk; infer_instance
instance (t : List (List Int)) : Decidable (TabOk t) := by unfold TabOk; infer_instance
theorem isSums_ret {p : Nat → Prop} {H : Heap} {v : AV} {xs : List Int} (hx : Sl p H v xs) (hl : xs.length ≤ 100) : RetP E 79 [v] H (.b (decide (OkN xs ∧ xs.sum ≤ 16))) := by
  refine RetP.ro rfl fn79 rfl rfl ?_
  unfold f79A
  simp (disch := (first | assumption | omega | (simp only [List.length_append, List.length_cons, List.length_nil]; omega))) only [↓wD,wU,Nat.reduceBEq,zx150,zx151,zx159,zx160,zx161,zx162,Nat.reduceAdd,Nat.reduceSub,Nat.reduceMul,Nat.reduceLeDiff,Nat.reduceLT,Nat.reduceEqDiff,Int.reduceAdd,Int.reduceSub,Int.reduceMul,Int.reduceNeg,Int.reduceLT,Int.reduceLE,Int.reduceEq,Int.reduceToNat,Int.cast_ofNat_Int,↓reduceIte, *, hx.I]
  refine Wp.for xs.length (fun i a H' => H' = H ∧ a 6 = v ∧ a 7 = .i xs.length ∧ a 8 = .i i ∧ a 3 = .i (xs.take i).sum ∧ OkN (xs.take i)) ?_ ?_
  · rintro i a H' hi ⟨rfl, h6, h7, h8, h3, hh⟩ ih
    have hb := sum_bound hh
    have hb2 : (xs.take i).length ≤ 100 := by rw [List.length_take]; omega
    simp (disch := (first | assumption | omega | (simp only [List.length_append, List.length_cons, List.length_nil]; omega))) only [↓wD,wU,Nat.reduceBEq,zx150,zx151,zx159,zx160,zx161,zx162,Nat.reduceAdd,Nat.reduceSub,Nat.reduceMul,Nat.reduceLeDiff,Nat.reduceLT,Nat.reduceEqDiff,Int.reduceAdd,Int.reduceSub,Int.reduceMul,Int.reduceNeg,Int.reduceLT,Int.reduceLE,Int.reduceEq,Int.reduceToNat,Int.cast_ofNat_Int,↓reduceIte, *]
    refine condP_split (fun hlt => ?_) (fun hlt => ?_)
    · have hi' : i < xs.length := by omega
      (repeat' (first | refine condP_split (fun _ => ?_) (fun _ => ?_) | refine guardP_split (fun _ => ?_) (fun _ => ?_) | refine guardP_splitF (fun _ => ?_) (fun _ => ?_) | (simp (disch := (first | assumption | omega | (simp only [List.length_append, List.length_cons, List.length_nil]; omega))) only [↓wD,wU,Nat.reduceBEq,zx150,zx151,zx159,zx160,zx161,zx162,Nat.reduceAdd,Nat.reduceSub,Nat.reduceMul,Nat.reduceLeDiff,Nat.reduceLT,Nat.reduceEqDiff,Int.reduceAdd,Int.reduceSub,Int.reduceMul,Int.reduceNeg,Int.reduceLT,Int.reduceLE,Int.reduceEq,Int.reduceToNat,Int.cast_ofNat_Int,↓reduceIte, *, hx.I]))) <;> first
        | exact avb_f fun h => by have := h.1 _ (mem_gi hi'); omega
        | skip
      refine (ih hi').go ⟨rfl, ?_⟩
      have hg : 0 ≤ gi xs i ∧ gi xs i ≤ 16 := by omega
      rw [sum_take hi']
      simp (disch := (first | assumption | omega | (simp only [List.length_append, List.length_cons, List.length_nil]; omega))) only [↓wD,wU,Nat.reduceBEq,zx150,zx151,zx159,zx160,zx161,zx162,Nat.reduceAdd,Nat.reduceSub,Nat.reduceMul,Nat.reduceLeDiff,Nat.reduceLT,Nat.reduceEqDiff,Int.reduceAdd,Int.reduceSub,Int.reduceMul,Int.reduceNeg,Int.reduceLT,Int.reduceLE,Int.reduceEq,Int.reduceToNat,Int.cast_ofNat_Int,↓reduceIte, *]
      exact mem_take_gi hh hi' hg
    · simp (disch := (first | assumption | omega | (simp only [List.length_append, List.length_cons, List.length_nil]; omega))) only [↓wD,wU,Nat.reduceBEq,zx150,zx151,zx159,zx160,zx161,zx162,Nat.reduceAdd,Nat.reduceSub,Nat.reduceMul,Nat.reduceLeDiff,Nat.reduceLT,Nat.reduceEqDiff,Int.reduceAdd,Int.reduceSub,Int.reduceMul,Int.reduceNeg,Int.reduceLT,Int.reduceLE,Int.reduceEq,Int.reduceToNat,Int.cast_ofNat_Int,↓reduceIte, *]
      have e : xs.take i = xs := List.take_of_length_le (by omega)
      rw [e] at hh ⊢
      simp [hh]
  · (simp (disch := (first | assumption | omega | (simp only [List.length_append, List.length_cons, List.length_nil]; omega))) only [↓wD,wU,Nat.reduceBEq,zx150,zx151,zx159,zx160,zx161,zx162,Nat.reduceAdd,Nat.reduceSub,Nat.reduceMul,Nat.reduceLeDiff,Nat.reduceLT,Nat.reduceEqDiff,Int.reduceAdd,Int.reduceSub,Int.reduceMul,Int.reduceNeg,Int.reduceLT,Int.reduceLE,Int.reduceEq,Int.reduceToNat,Int.cast_ofNat_Int,↓reduceIte, *]) <;> simp [OkN]
theorem sum_nonneg {xs : List Int} (h : ∀ x ∈ xs, 0 ≤ x) : 0 ≤ xs.sum := by
  induction xs with
  | nil => simp
  | cons x xs ih => have := h x (by simp); have := ih fun y hy => h y (by simp [hy]); simp only [List.sum_cons]; omega
theorem le_sum {xs : List Int} (h : ∀ x ∈ xs, 0 ≤ x) {x : Int} (hx : x ∈ xs) : x ≤ xs.sum := by
  induction xs with
  | nil => cases hx
  | cons y xs ih =>
    have h0 := h y (by simp)
    have h1 := sum_nonneg fun z hz => h z (List.mem_cons_of_mem _ hz)
    simp only [List.sum_cons]
    rcases List.mem_cons.1 hx with rfl | hx
    · omega
    · have := ih (fun z hz => h z (List.mem_cons_of_mem _ hz)) hx; omega
end Go.Proofs.Ytflekaacffdakaa
namespace Go.Proofs.Ytflekaacffdakaa
open Go Go.AM Go.Proofs
theorem set_map_range {α : Type} {n j : Nat} {f : Nat → α} {y : α} : ((List.range n).map f).set j y = (List.range n).map fun c => if c = j then y else f c := by
  apply List.ext_getElem (by simp)
  intro i h1 h2
  simp only [List.getElem_set, List.getElem_map, List.getElem_range]
  by_cases h : j = i
  · subst h; simp
  · rw [if_neg h, if_neg (fun e => h e.symm)]
theorem map_range_congr {α : Type} {n : Nat} {f g : Nat → α} (h : ∀ c, c < n → f c = g c) : (List.range n).map f = (List.range n).map g :=
  List.map_congr_left fun c hc => h c (List.mem_range.1 hc)
theorem TabOk.cols {t : List (List Int)} (h : TabOk t) : 1 ≤ (gi t 0).length ∧ (gi t 0).length ≤ 3 := by
  have h1 := h.2.2.1 _ (mem_gi (i := 0) h.1)
  exact ⟨h1.1, h1.2.1⟩
end Go.Proofs.Ytflekaacffdakaa
namespace Go.Proofs.Ytflekaacffdakaa
open Go Go.AM Go.Proofs
theorem list_ret {p : Nat → Prop} {H : Heap} {v : AV} {xs : List Int} (hx : Sl p H v xs) : Ret E 39 [v] (fun _ => False) H (xs.take 6) := by
  refine Ret.ro rfl fn39 rfl ?_
  unfold f39A
  have hb := hx.bound
  have hs : slV 1 v none (some (.i (min (xs.length : Int) 6))) none = some (v.cut 0 (min xs.length 6)) := by
    refine hx.slV_lh none _ (b := min xs.length 6) ?_ (bound_none (by omega)) (by omega) (by omega)
    rw [bound_some (by omega) (by omega)]
    congr 1
    omega
  simp (disch := (first | assumption | omega | (simp only [List.length_append, List.length_cons, List.length_nil]; omega))) only [↓wD,wU,Nat.reduceBEq,zx150,zx151,zx159,zx160,zx161,zx162,Nat.reduceAdd,Nat.reduceSub,Nat.reduceMul,Nat.reduceLeDiff,Nat.reduceLT,Nat.reduceEqDiff,Int.reduceAdd,Int.reduceSub,Int.reduceMul,Int.reduceNeg,Int.reduceLT,Int.reduceLE,Int.reduceEq,Int.reduceToNat,Int.cast_ofNat_Int,↓reduceIte, *, hx.I, hs]
  have hc := hx.cut (a := 0) (b := min xs.length 6) (by omega) (by omega)
  have e : (xs.drop 0).take (min xs.length 6 - 0) = xs.take 6 := by
    rw [List.drop_zero, Nat.sub_zero]
    by_cases hl : xs.length ≤ 6
    · rw [List.take_of_length_le (by omega), List.take_of_length_le hl]
    · congr 1; omega
  rw [e] at hc
  refine (clone_ret hc (by rw [List.length_take]; omega)).go fun u N hu => ?_
  simp (disch := (first | assumption | omega | (simp only [List.length_append, List.length_cons, List.length_nil]; omega))) only [↓wD,wU,Nat.reduceBEq,zx150,zx151,zx159,zx160,zx161,zx162,Nat.reduceAdd,Nat.reduceSub,Nat.reduceMul,Nat.reduceLeDiff,Nat.reduceLT,Nat.reduceEqDiff,Int.reduceAdd,Int.reduceSub,Int.reduceMul,Int.reduceNeg,Int.reduceLT,Int.reduceLE,Int.reduceEq,Int.reduceToNat,Int.cast_ofNat_Int,↓reduceIte]
  exact hu
end Go.Proofs.Ytflekaacffdakaa
namespace Go.Proofs.Ytflekaacffdakaa
open Go Go.AM Go.Proofs
theorem list2 {xs : List Int} (h : xs.length = 2) : ∃ a b, xs = [a, b] := by
  match xs, h with
  | [a, b], _ => exact ⟨a, b, rfl⟩
theorem list3 {xs : List Int} (h : xs.length = 3) : ∃ a b c, xs = [a, b, c] := by
  match xs, h with
  | [a, b, c], _ => exact ⟨a, b, c, rfl⟩
theorem eq37 (w : World) (x0 x1 y0 y1 : Int) : (Op.equalIn 10000 37 (.agg #[.int .i64 x0, .int .i64 x1]) (.agg #[.int .i64 y0, .int .i64 y1])).run C.P w = .ok ([x0, x1] == [y0, y1]) w := by
  rw [run_equalIn_struct w 9999 37 _ _ (by kernel_rfl) (by kernel_rfl)]
  have hi : Try.prog.underlying 3 = some (.int .i64) := Try.underlying3
  have e : ∀ a b : Int, (Op.equalIn 9999 3 (.int .i64 a) (.int .i64 b)).run Try.prog w = .ok (a == b) w := fun a b => run_equalIn_int w 9998 3 .i64 .i64 a b hi
  have pt : ∀ (a b : Int) (k : Nat), k < 2 → (part 3 #[.int .i64 a, .int .i64 b] k).run Try.prog w = .ok (.int .i64 (if k = 0 then a else b)) w := by
    intro a b k hk
    have : k = 0 ∨ k = 1 := by omega
    rcases this with rfl | rfl <;> go_simp
  simp [Try.underlying37, Program.fieldsOf, C, Op.eqFields, pt, e]
  by_cases h1 : x0 = y0 <;> by_cases h2 : x1 = y1 <;> simp [h1, h2]
theorem eq88 (w : World) (x0 x1 x2 y0 y1 y2 : Int) : (Op.equalIn 10000 88 (.agg #[.int .i64 x0, .int .i64 x1, .int .i64 x2]) (.agg #[.int .i64 y0, .int .i64 y1, .int .i64 y2])).run C.P w = .ok ([x0, x1, x2] == [y0, y1, y2]) w := by
  have hi : Try.prog.underlying 3 = some (.int .i64) := Try.underlying3
  have ha : Try.prog.underlying 88 = some (.array 3 3) := Try.underlying88
  have e : ∀ a b : Int, (Op.equalIn 9999 3 (.int .i64 a) (.int .i64 b)).run Try.prog w = .ok (a == b) w := fun a b => run_equalIn_int w 9998 3 .i64 .i64 a b hi
  have pt : ∀ (a b c : Int) (k : Nat), k < 3 → (part 3 #[.int .i64 a, .int .i64 b, .int .i64 c] k).run Try.prog w = .ok (.int .i64 (if k = 0 then a else if k = 1 then b else c)) w := by
    intro a b c k hk
    have : k = 0 ∨ k = 1 ∨ k = 2 := by omega
    rcases this with rfl | rfl | rfl <;> go_simp
  have sz : (sizeOf 3).run Try.prog w = .ok 1 w := by go_simp
  change (Op.equalIn (9999 + 1) 88 _ _).run Try.prog w = _
  unfold Op.equalIn
  simp [run_underlying ha, sz, Std.Legacy.Range.forIn_eq_forIn_range', Std.Legacy.Range.size, List.range', pt, e]
  by_cases h1 : x0 = y0 <;> by_cases h2 : x1 = y1 <;> by_cases h3 : x2 = y2 <;> simp [h1, h2, h3]
theorem eqOk : EqOk C := by
  intro t n ht xs ys hx hy neg xo yo w
  have hc : t = 37 ∧ n = 2 ∨ t = 88 ∧ n = 3 := by
    simp only [C] at ht
    split at ht
    · rename_i h; cases ht; exact .inl ⟨by simpa using h, rfl⟩
    · split at ht
      · rename_i h; cases ht; exact .inr ⟨by simpa using h, rfl⟩
      · cases ht
  rcases hc with ⟨rfl, rfl⟩ | ⟨rfl, rfl⟩
  · obtain ⟨x0, x1, rfl⟩ := list2 hx
    obtain ⟨y0, y1, rfl⟩ := list2 hy
    have g : ∀ op, (eqGuard op 37 xo yo (.agg (ints [x0, x1])) (.agg (ints [y0, y1]))).run C.P w = .ok () w := fun op => run_eqGuard_agg w op 37 xo yo _ _ (by kernel_rfl)
    have e := eq37 w x0 x1 y0 y1
    cases neg
    · simp only [Bool.false_eq_true, if_false, Sem.run_bind, g, Result.andThen_ok, run_eql_struct]
      simp [ints] at e ⊢; rw [e]; rfl
    · simp only [if_true, Sem.run_bind, g, Result.andThen_ok, run_neq_struct]
      simp [ints] at e ⊢; rw [e]; simp [Result.andThen, Bool.not_and]
  · obtain ⟨x0, x1, x2, rfl⟩ := list3 hx
    obtain ⟨y0, y1, y2, rfl⟩ := list3 hy
    have g : ∀ op, (eqGuard op 88 xo yo (.agg (ints [x0, x1, x2])) (.agg (ints [y0, y1, y2]))).run C.P w = .ok () w := fun op => run_eqGuard_agg w op 88 xo yo _ _ (by kernel_rfl)
    have e := eq88 w x0 x1 x2 y0 y1 y2
    cases neg
    · simp only [Bool.false_eq_true, if_false, Sem.run_bind, g, Result.andThen_ok, run_eql_struct]
      simp [ints] at e ⊢; rw [e]; rfl
    · simp only [if_true, Sem.run_bind, g, Result.andThen_ok, run_neq_struct]
      simp [ints] at e ⊢; rw [e]; simp [Result.andThen, Bool.not_and]
theorem eOk : EOk C (fun _ => True) E where
  kd := rfl
  fn := fun f af h => tab_ok (f, af) (lookup_mem h)
  prim := fun f g h => by
    simp only [C, kd] at h
    split at h
    · cases h
    · split at h <;> cases h
  stable := fun _ _ _ _ => trivial
  eq := eqOk
  mixed := mixed
end Go.Proofs.Ytflekaacffdakaa
namespace Go.Proofs.Ytflekaacffdakaa
open Go Go.AM Go.Proofs
theorem awake_ret {H : Heap} : RetP E 23 [] H (.b true) :=
  RetP.closed (n := 300) rfl fn23 rfl rfl (by kernel_rfl)
end Go.Proofs.Ytflekaacffdakaa
namespace Go.Proofs.Ytflekaacffdakaa
open Go Go.AM Go.Proofs
def Four (t : List (List Int)) : Prop := TabOk t ∧ t.length = 2 ∧ (gi t 0).length = 2
instance (t : List (List Int)) : Decidable (Four t) := by unfold Four; infer_instance
theorem nat_of {x : Int} (h : 0 ≤ x) : ∃ n : Nat, x = n := ⟨x.toNat, by omega⟩
theorem Four.elim {t : List (List Int)} (h : Four t) : ∃ a b c d : Nat, t = [[(a : Int), b], [(c : Int), d]] ∧ a + b + c + d ≤ 16 := by
  obtain ⟨h, h1, h2⟩ := h
  match t, h1 with
  | [r, s], _ =>
    have hs := h.2.2.1 s (by simp)
    have hr := h.2.2.1 r (by simp)
    have e1 : (gi [r, s] 0) = r := rfl
    rw [e1] at h2 hs hr
    have h3 : s.length = 2 := by rw [hs.2.2.1, h2]
    match r, h2, s, h3 with
    | [a, b], _, [c, d], _ =>
      have ha := hr.2.2.2 a (by simp)
      have hb := hr.2.2.2 b (by simp)
      have hc := hs.2.2.2 c (by simp)
      have hd := hs.2.2.2 d (by simp)
      have hsum := h.2.2.2
      simp at hsum
      obtain ⟨a, rfl⟩ := nat_of ha.1
      obtain ⟨b, rfl⟩ := nat_of hb.1
      obtain ⟨c, rfl⟩ := nat_of hc.1
      obtain ⟨d, rfl⟩ := nat_of hd.1
      exact ⟨a, b, c, d, rfl, by omega⟩
theorem Four.mk {a b c d : Nat} (h : a + b + c + d ≤ 16) : Four [[(a : Int), b], [(c : Int), d]] := by
  refine ⟨⟨by simp, by simp, ?_, by simp; omega⟩, rfl, rfl⟩
  intro r hr
  simp at hr
  rcases hr with rfl | rfl
  · refine ⟨by simp, by simp, rfl, ?_⟩
    intro x hx; simp at hx; rcases hx with rfl | rfl <;> omega
  · refine ⟨by simp, by simp, rfl, ?_⟩
    intro x hx; simp at hx; rcases hx with rfl | rfl <;> omega
end Go.Proofs.Ytflekaacffdakaa
namespace Go.Proofs.Ytflekaacffdakaa
open Go Go.AM Go.Proofs
def NE (t : List (List Int)) : Prop := ∀ r ∈ t, r ≠ [] ∧ r.length ≤ 1000
theorem tclone_ret {p : Nat → Prop} {H : Heap} {v : AV} {t : List (List Int)} (ht : Sl p H v t) (hne : NE t) (hl : t.length ≤ 1000) : Ret E 84 [v] (fun _ => False) H (OT.mk t) := by
  refine Ret.ro rfl fn84 rfl ?_
  unfold f84A
  simp (disch := (first | assumption | omega | (simp only [List.length_append, List.length_cons, List.length_nil]; omega))) only [↓wD,wU,Nat.reduceBEq,zx150,zx151,zx159,zx160,zx161,zx162,Nat.reduceAdd,Nat.reduceSub,Nat.reduceMul,Nat.reduceLeDiff,Nat.reduceLT,Nat.reduceEqDiff,Int.reduceAdd,Int.reduceSub,Int.reduceMul,Int.reduceNeg,Int.reduceLT,Int.reduceLE,Int.reduceEq,Int.reduceToNat,Int.cast_ofNat_Int,↓reduceIte, *, ht.L]
  replace ht : Sl (fun b => b < H.length) H v t := ht.low.weak fun _ h => h.2
  refine Wp.for t.length (fun i a H' => ∃ u, a 6 = v ∧ a 7 = .i t.length ∧ a 8 = .i i ∧ a 3 = u ∧ Gr H H' ∧ MT H.length H' u (t.take i)) ?_ ?_
  · rintro i a H1 hi ⟨u, h6, h7, h8, h3, hg, hu⟩ ih
    simp (disch := (first | assumption | omega | (simp only [List.length_append, List.length_cons, List.length_nil]; omega))) only [↓wD,wU,Nat.reduceBEq,zx150,zx151,zx159,zx160,zx161,zx162,Nat.reduceAdd,Nat.reduceSub,Nat.reduceMul,Nat.reduceLeDiff,Nat.reduceLT,Nat.reduceEqDiff,Int.reduceAdd,Int.reduceSub,Int.reduceMul,Int.reduceNeg,Int.reduceLT,Int.reduceLE,Int.reduceEq,Int.reduceToNat,Int.cast_ofNat_Int,↓reduceIte, *]
    refine condP_split (fun hlt => ?_) (fun hlt => ?_)
    · have hi' : i < t.length := by omega
      have ht1 := ht.gr hg
      have g := ht1.get (k := (i : Int)) (by omega) (by omega)
      have hn := hne _ (mem_gi hi')
      have hl1 := hg.1
      simp (disch := (first | assumption | omega | (simp only [List.length_append, List.length_cons, List.length_nil]; omega))) only [↓wD,wU,Nat.reduceBEq,zx150,zx151,zx159,zx160,zx161,zx162,Nat.reduceAdd,Nat.reduceSub,Nat.reduceMul,Nat.reduceLeDiff,Nat.reduceLT,Nat.reduceEqDiff,Int.reduceAdd,Int.reduceSub,Int.reduceMul,Int.reduceNeg,Int.reduceLT,Int.reduceLE,Int.reduceEq,Int.reduceToNat,Int.cast_ofNat_Int,↓reduceIte, *, ht1.L]
      refine (clone_ret g (by omega)).toF fun y H2 hg2 hy => ?_
      have hl2 := hg2.1
      simp (disch := (first | assumption | omega | (simp only [List.length_append, List.length_cons, List.length_nil]; omega))) only [↓wD,wU,Nat.reduceBEq,zx150,zx151,zx159,zx160,zx161,zx162,Nat.reduceAdd,Nat.reduceSub,Nat.reduceMul,Nat.reduceLeDiff,Nat.reduceLT,Nat.reduceEqDiff,Int.reduceAdd,Int.reduceSub,Int.reduceMul,Int.reduceNeg,Int.reduceLT,Int.reduceLE,Int.reduceEq,Int.reduceToNat,Int.cast_ofNat_Int,↓reduceIte, *, hy.cellsV]
      refine hu.push hg2 (Nat.le_refl _) hl1 hy hn.1 (by simp; omega) fun u' H3 hu' hk3 => ?_
      simp (disch := (first | assumption | omega | (simp only [List.length_append, List.length_cons, List.length_nil]; omega))) only [↓wD,wU,Nat.reduceBEq,zx150,zx151,zx159,zx160,zx161,zx162,Nat.reduceAdd,Nat.reduceSub,Nat.reduceMul,Nat.reduceLeDiff,Nat.reduceLT,Nat.reduceEqDiff,Int.reduceAdd,Int.reduceSub,Int.reduceMul,Int.reduceNeg,Int.reduceLT,Int.reduceLE,Int.reduceEq,Int.reduceToNat,Int.cast_ofNat_Int,↓reduceIte, *]
      refine (ih hi').go ⟨u', ?_⟩
      rw [take_gi hi']
      simp (disch := (first | assumption | omega | (simp only [List.length_append, List.length_cons, List.length_nil]; omega))) only [↓wD,wU,Nat.reduceBEq,zx150,zx151,zx159,zx160,zx161,zx162,Nat.reduceAdd,Nat.reduceSub,Nat.reduceMul,Nat.reduceLeDiff,Nat.reduceLT,Nat.reduceEqDiff,Int.reduceAdd,Int.reduceSub,Int.reduceMul,Int.reduceNeg,Int.reduceLT,Int.reduceLE,Int.reduceEq,Int.reduceToNat,Int.cast_ofNat_Int,↓reduceIte, *]
      exact (hg.trans hg2).trans' hk3 fun b hb e => by have := hu.blk_lt e; omega
    · have e : i = t.length := by omega
      subst e
      rw [List.take_length] at hu
      simp (disch := (first | assumption | omega | (simp only [List.length_append, List.length_cons, List.length_nil]; omega))) only [↓wD,wU,Nat.reduceBEq,zx150,zx151,zx159,zx160,zx161,zx162,Nat.reduceAdd,Nat.reduceSub,Nat.reduceMul,Nat.reduceLeDiff,Nat.reduceLT,Nat.reduceEqDiff,Int.reduceAdd,Int.reduceSub,Int.reduceMul,Int.reduceNeg,Int.reduceLT,Int.reduceLE,Int.reduceEq,Int.reduceToNat,Int.cast_ofNat_Int,↓reduceIte, *]
      exact hu.rv fun b h => .inr h
  · simp (disch := (first | assumption | omega | (simp only [List.length_append, List.length_cons, List.length_nil]; omega))) only [↓wD,wU,Nat.reduceBEq,zx150,zx151,zx159,zx160,zx161,zx162,Nat.reduceAdd,Nat.reduceSub,Nat.reduceMul,Nat.reduceLeDiff,Nat.reduceLT,Nat.reduceEqDiff,Int.reduceAdd,Int.reduceSub,Int.reduceMul,Int.reduceNeg,Int.reduceLT,Int.reduceLE,Int.reduceEq,Int.reduceToNat,Int.cast_ofNat_Int,↓reduceIte, *]
    exact ⟨.nils, rfl, Gr.refl _, MT.nil⟩
theorem gi_set {α : Type} [Inhabited α] {xs : List α} {i j : Int} {x : α} (hi : 0 ≤ i) (hj : 0 ≤ j) (hl : i < xs.length) : gi (xs.set i.toNat x) j = if i = j then x else gi xs j := by
  unfold gi
  by_cases h : i = j
  · subst h
    rw [if_pos rfl]
    have : i.toNat < xs.length := by omega
    simp [this]
  · rw [if_neg h]
    have : i.toNat ≠ j.toNat := by omega
    simp [List.getD_eq_getElem?_getD, List.getElem?_set_ne this]
end Go.Proofs.Ytflekaacffdakaa
namespace Go.Proofs.Ytflekaacffdakaa
open Go Go.AM Go.Proofs
theorem foldl_max_ge {xs : List Int} : ∀ {m : Int}, m ≤ xs.foldl max m ∧ ∀ x ∈ xs, x ≤ xs.foldl max m := by
  induction xs with
  | nil => simp
  | cons x xs ih =>
    intro m
    have := ih (m := max m x)
    simp only [List.foldl_cons, List.mem_cons, forall_eq_or_imp]
    exact ⟨by omega, by omega, this.2⟩
theorem foldl_max_mem {xs : List Int} : ∀ {m : Int}, xs.foldl max m = m ∨ xs.foldl max m ∈ xs := by
  induction xs with
  | nil => simp
  | cons x xs ih =>
    intro m
    simp only [List.foldl_cons, List.mem_cons]
    rcases ih (m := max m x) with h | h
    · rw [h]; rcases Int.le_total m x with h1 | h1
      · right; left; omega
      · left; omega
    · exact .inr (.inr h)
def maxL (xs : List Int) : Int := (xs.drop 1).foldl max (gi xs 0)
theorem maxL_spec {xs : List Int} (h : 1 ≤ xs.length) : maxL xs ∈ xs ∧ ∀ x ∈ xs, x ≤ maxL xs := by
  cases xs with
  | nil => simp at h
  | cons x xs =>
    simp only [maxL, zx181, List.drop_succ_cons, List.drop_zero]
    have h1 := foldl_max_ge (xs := xs) (m := x)
    refine ⟨?_, fun y hy => ?_⟩
    · rcases foldl_max_mem (xs := xs) (m := x) with h | h
      · rw [h]; simp
      · exact List.mem_cons_of_mem _ h
    · rcases List.mem_cons.1 hy with rfl | hy
      · exact h1.1
      · exact h1.2 y hy
theorem take_drop1 {xs : List Int} {i : Nat} (h1 : 1 ≤ i) (h : i < xs.length) : (xs.take (i + 1)).drop 1 = (xs.take i).drop 1 ++ [gi xs i] := by
  rw [take_gi h, List.drop_append_of_le_length (by rw [List.length_take]; omega)]
theorem maxL_take {xs : List Int} {i : Nat} (h1 : 1 ≤ i) (h : i < xs.length) : maxL (xs.take (i + 1)) = max (maxL (xs.take i)) (gi xs i) := by
  have e : ∀ j, 1 ≤ j → gi (xs.take j) 0 = gi xs 0 := fun j hj => by cases xs with | nil => simp at h | cons x r => cases j with | zero => omega | succ j => rfl
  unfold maxL
  rw [take_drop1 h1 h, List.foldl_append, e _ h1, e _ (by omega)]; rfl
theorem max_ret {p : Nat → Prop} {H : Heap} {v : AV} {xs : List Int} (hx : Sl p H v xs) (h : 1 ≤ xs.length) : RetP E 101 [v] H (.i (maxL xs)) := by
  refine RetP.ro rfl fn101 rfl rfl ?_
  unfold f101A
  have hb := hx.bound
  simp (disch := (first | assumption | omega | (simp only [List.length_append, List.length_cons, List.length_nil]; omega))) only [↓wD,wU,Nat.reduceBEq,zx150,zx151,zx159,zx160,zx161,zx162,Nat.reduceAdd,Nat.reduceSub,Nat.reduceMul,Nat.reduceLeDiff,Nat.reduceLT,Nat.reduceEqDiff,Int.reduceAdd,Int.reduceSub,Int.reduceMul,Int.reduceNeg,Int.reduceLT,Int.reduceLE,Int.reduceEq,Int.reduceToNat,Int.cast_ofNat_Int,↓reduceIte, *, hx.I]
  refine Wp.for (xs.length - 1) (fun i a H' => H' = H ∧ a 0 = v ∧ a 4 = .i (i + 1) ∧ a 3 = .i (maxL (xs.take (i + 1)))) ?_ ?_
  · rintro i a H' hi ⟨rfl, a0, a4, a3⟩ ih
    simp (disch := (first | assumption | omega | (simp only [List.length_append, List.length_cons, List.length_nil]; omega))) only [↓wD,wU,Nat.reduceBEq,zx150,zx151,zx159,zx160,zx161,zx162,Nat.reduceAdd,Nat.reduceSub,Nat.reduceMul,Nat.reduceLeDiff,Nat.reduceLT,Nat.reduceEqDiff,Int.reduceAdd,Int.reduceSub,Int.reduceMul,Int.reduceNeg,Int.reduceLT,Int.reduceLE,Int.reduceEq,Int.reduceToNat,Int.cast_ofNat_Int,↓reduceIte, *, hx.I]
    refine condP_split (fun hlt => ?_) (fun hlt => ?_)
    · have hi' : i < xs.length - 1 := by omega
      have e := maxL_take (xs := xs) (i := i + 1) (by omega) (by omega)
      simp only [Int.natCast_add, Int.natCast_one] at e
      simp (disch := (first | assumption | omega | (simp only [List.length_append, List.length_cons, List.length_nil]; omega))) only [↓wD,wU,Nat.reduceBEq,zx150,zx151,zx159,zx160,zx161,zx162,Nat.reduceAdd,Nat.reduceSub,Nat.reduceMul,Nat.reduceLeDiff,Nat.reduceLT,Nat.reduceEqDiff,Int.reduceAdd,Int.reduceSub,Int.reduceMul,Int.reduceNeg,Int.reduceLT,Int.reduceLE,Int.reduceEq,Int.reduceToNat,Int.cast_ofNat_Int,↓reduceIte, *, hx.I]
      refine (ih hi').go ⟨rfl, ?_⟩
      simp (disch := (first | assumption | omega | (simp only [List.length_append, List.length_cons, List.length_nil]; omega))) only [↓wD,wU,Nat.reduceBEq,zx150,zx151,zx159,zx160,zx161,zx162,Nat.reduceAdd,Nat.reduceSub,Nat.reduceMul,Nat.reduceLeDiff,Nat.reduceLT,Nat.reduceEqDiff,Int.reduceAdd,Int.reduceSub,Int.reduceMul,Int.reduceNeg,Int.reduceLT,Int.reduceLE,Int.reduceEq,Int.reduceToNat,Int.cast_ofNat_Int,↓reduceIte, *]
    · simp (disch := (first | assumption | omega | (simp only [List.length_append, List.length_cons, List.length_nil]; omega))) only [↓wD,wU,Nat.reduceBEq,zx150,zx151,zx159,zx160,zx161,zx162,Nat.reduceAdd,Nat.reduceSub,Nat.reduceMul,Nat.reduceLeDiff,Nat.reduceLT,Nat.reduceEqDiff,Int.reduceAdd,Int.reduceSub,Int.reduceMul,Int.reduceNeg,Int.reduceLT,Int.reduceLE,Int.reduceEq,Int.reduceToNat,Int.cast_ofNat_Int,↓reduceIte, *]
      rw [List.take_of_length_le (by omega)]
  · (simp (disch := (first | assumption | omega | (simp only [List.length_append, List.length_cons, List.length_nil]; omega))) only [↓wD,wU,Nat.reduceBEq,zx150,zx151,zx159,zx160,zx161,zx162,Nat.reduceAdd,Nat.reduceSub,Nat.reduceMul,Nat.reduceLeDiff,Nat.reduceLT,Nat.reduceEqDiff,Int.reduceAdd,Int.reduceSub,Int.reduceMul,Int.reduceNeg,Int.reduceLT,Int.reduceLE,Int.reduceEq,Int.reduceToNat,Int.cast_ofNat_Int,↓reduceIte, *]) <;> first | rfl | skip
    unfold maxL
    cases xs with
    | nil => simp at h
    | cons x r => simp [zx181]
end Go.Proofs.Ytflekaacffdakaa
namespace Go.Proofs.Ytflekaacffdakaa
open Go Go.AM Go.Proofs
def lines : List Int → Int → List (List Int)
  | [], need => if need > 0 then [] else [[]]
  | c :: cs, need => (List.range (min need c + 1).toNat).flatMap fun x : Nat => (lines cs (need - (x : Int))).map ((x : Int) :: ·)
def subL (xs ys : List Int) : List Int := List.zipWith (· - ·) xs ys
def tabsL : List Int → List Int → List (List (List Int))
  | [], L => if maxL L > 0 then [] else [[]]
  | r :: rs, L => (lines L r).flatMap fun l => (tabsL rs (subL L l)).map (l :: ·)
/-- the blocks that grow writes -/
def Wb (n R lb b : Nat) : Prop := b = lb ∨ (R ≤ b ∧ b < R + n)
/-- what grow reads and never writes -/
structure Fx (K : Nat → Prop) (H : Heap) (y rv cv lv : AV) (rows cols : List Int) (n m : Nat) (bm bl bY bt bg tb R lb : Nat) : Prop where
  mg : H[bm]? = some (.cells [rv, cv]) ∧ ¬ K bm ∧ ¬ Wb n R lb bm
  lg : H[bl]? = some (.cells [lv]) ∧ ¬ K bl ∧ ¬ Wb n R lb bl
  yg : H[bY]? = some (.cells [y]) ∧ ¬ K bY ∧ ¬ Wb n R lb bY
  tg : H[bt]? = some (.cells [.s 1 tb 0 n (some n)]) ∧ ¬ K bt ∧ ¬ Wb n R lb bt
  tbg : H[tb]? = some (.cells ((List.range n).map fun a : Nat => .s 1 (R + a) 0 m (some m))) ∧ ¬ K tb ∧ ¬ Wb n R lb tb
  gg : H[bg]? = some (.cells [.fn 100 [] [.p bm 0, .p bl 0, .p bY 0, .p bt 0, .p bg 0]]) ∧ ¬ K bg ∧ ¬ Wb n R lb bg
  rows : Sl (fun b => ¬ K b ∧ ¬ Wb n R lb b) H rv rows
  cols : Sl (fun b => ¬ K b ∧ ¬ Wb n R lb b) H cv cols
theorem Fx.mono {K K' : Nat → Prop} {H H' : Heap} {y rv cv lv : AV} {rows cols : List Int} {n m : Nat} {bm bl bY bt bg tb R lb : Nat} (h : Fx K H y rv cv lv rows cols n m bm bl bY bt bg tb R lb)
    (hk : Kx (fun b => ¬ K b ∧ ¬ Wb n R lb b) H H') (hK : ∀ b, b < H.length → K' b → K b) : Fx K' H' y rv cv lv rows cols n m bm bl bY bt bg tb R lb := by
  have go : ∀ {b : Nat} {k : Blk}, (H[b]? = some k ∧ ¬ K b ∧ ¬ Wb n R lb b) → (H'[b]? = some k ∧ ¬ K' b ∧ ¬ Wb n R lb b) := fun {b k} q =>
    ⟨hk.get q.2 q.1, fun e => q.2.1 (hK _ (List.getElem?_eq_some_iff.1 q.1).1 e), q.2.2⟩
  exact ⟨go h.mg, go h.lg, go h.yg, go h.tg, go h.tbg, go h.gg, (h.rows.low.mono (hk.weak fun _ _ h => h.1).kp fun b q => ⟨fun e => q.1.1 (hK b q.2 e), q.1.2⟩), (h.cols.low.mono (hk.weak fun _ _ h => h.1).kp fun b q => ⟨fun e => q.1.1 (hK b q.2 e), q.1.2⟩)⟩
/-- what grow writes -/
structure Wk (B : Nat) (K : Nat → Prop) (H : Heap) (lv : AV) (n m R lb : Nat) (T : List (List Int)) (L : List Int) : Prop where
  len : T.length = n
  row : ∀ a, a < n → H[R + a]? = some (.cells ((gi T (a : Int)).map AV.i)) ∧ (gi T (a : Int)).length = m ∧ ¬ K (R + a)
  left : Rep.rep (fun b => ¬ K b) H [lv] (⟨lb, L⟩ : OR)
  ll : L.length = m
  lo : B ≤ lb ∧ B ≤ R ∧ ¬ (R ≤ lb ∧ lb < R + n)
theorem Wk.left_lt {B : Nat} {K : Nat → Prop} {H : Heap} {lv : AV} {n m R lb : Nat} {T : List (List Int)} {L : List Int} (h : Wk B K H lv n m R lb T L) : lb < H.length ∧ ¬ K lb := by
  obtain ⟨o, c, k, e, h1, h2, _⟩ := h.left
  exact ⟨(List.getElem?_eq_some_iff.1 h2).1, h1⟩
theorem Wk.row_lt {B : Nat} {K : Nat → Prop} {H : Heap} {lv : AV} {n m R lb : Nat} {T : List (List Int)} {L : List Int} (h : Wk B K H lv n m R lb T L) {a : Nat} (ha : a < n) : R + a < H.length := (List.getElem?_eq_some_iff.1 (h.row a ha).1).1
theorem Wk.mono {B : Nat} {K K' : Nat → Prop} {H H' : Heap} {lv : AV} {n m R lb : Nat} {T : List (List Int)} {L : List Int} (h : Wk B K H lv n m R lb T L) (hk : Kx (fun b => ¬ K b) H H') (hK : ∀ b, b < H.length → K' b → K b) : Wk B K' H' lv n m R lb T L :=
  ⟨h.len, fun a ha => ⟨hk.get (h.row a ha).2.2 (h.row a ha).1, (h.row a ha).2.1, fun e => (h.row a ha).2.2 (hK _ (h.row_lt ha) e)⟩,
    Rep.mono (Rep.low h.left) (hk.weak fun _ _ h => h.1).kp fun b q e => q.1 (hK b q.2 e), h.ll, h.lo⟩
theorem Wk.leftSl {B : Nat} {K : Nat → Prop} {H : Heap} {lv : AV} {n m R lb : Nat} {T : List (List Int)} {L : List Int} (h : Wk B K H lv n m R lb T L) : Sl (fun b => ¬ K b) H lv L := by
  obtain ⟨v, e, hs⟩ := OR.sl h.left
  cases e
  exact hs
theorem zx178 {b m : Nat} {c : Option Nat} {k : Nat} (h : k < m) : iaddrV 1 (.s 1 b 0 m c) (.i (k : Int)) = some (.p b k) := by
  have h0 : (0 : Int) ≤ k ∧ (k : Int) < m := by omega
  show (if 0 ≤ (k : Int) ∧ (k : Int) < m ∧ 1 = 1 then some (AV.p b (0 + (k : Int).toNat * 1)) else none) = _
  rw [if_pos ⟨h0.1, h0.2, rfl⟩]
  simp
/-- a number of left, set -/
theorem Wk.setL {B lo : Nat} {K : Nat → Prop} {H : Heap} {lv : AV} {n m R lb : Nat} {T : List (List Int)} {L : List Int} (h : Wk B K H lv n m R lb T L) {j : Nat} (hj : j < m) (hlo : lo ≤ B) {x : Int} {Q : Heap → Prop}
    (go : ∀ H', Wk B K H' lv n m R lb T (L.set j x) → Kx (fun b => b ≠ lb) H H' → H'.length = H.length → Q H') : @optP _ (stA lo H 1 (lv.at 1 (j : Int)) (.i x)) ⟨Q⟩ := by
  obtain ⟨o, c, k, e, h1, h2, h3, h4, h5⟩ := h.left
  cases e
  have hll := h.ll
  change ¬ K lb at h1
  change H[lb]? = _ at h2
  change o + L.length ≤ _ at h3
  change L.length ≤ _ at h4
  change ∀ (i : Nat) (h : i < L.length), k[o + i]? = some (.i L[i]) at h5
  have hst : stA lo H 1 ((AV.s 1 lb o L.length c).at 1 (j : Int)) (.i x) = some (H.set lb (.cells (k.set (o + j) (.i x)))) := by
    simp only [stA, AV.at, zx130, List.length_singleton, List.all_cons, List.all_nil, zx140, Bool.and_self, and_self, if_true]
    change st lo H lb (o + j * 1) [.i x] = _
    rw [Nat.mul_one, st_of (lo := lo) (o := o + j) (vs := [.i x]) h2 (by have := h.lo; omega) (by simp; omega)]
    simp [wr]
  refine ⟨_, hst, go _ ⟨h.len, fun a ha => ?_, ?_, by rw [List.length_set]; exact h.ll, h.lo⟩ (Kx.set _ _ _) (by simp)⟩
  · rw [List.getElem?_set_ne (show lb ≠ R + a by have := h.lo; omega)]
    exact h.row a ha
  · refine ⟨o, c, k.set (o + j) (.i x), by simp, h1, get_set h2, by simpa using h3, by simpa using h4, fun i hi => ?_⟩
    have hi' : i < L.length := by simpa using hi
    by_cases e : j = i
    · subst e
      rw [List.getElem?_set_self (by omega)]; simp
    · rw [List.getElem?_set_ne (by omega), h5 i hi']
      simp only [List.getElem_set]
      rw [if_neg e]
/-- a number of the table, set -/
theorem Wk.setT {B lo : Nat} {K : Nat → Prop} {H : Heap} {lv : AV} {n m R lb : Nat} {T : List (List Int)} {L : List Int} (h : Wk B K H lv n m R lb T L) {i j : Nat} (hi : i < n) (hj : j < m) (hlo : lo ≤ B) {x : Int} :
    ∃ H', st lo H (R + i) j [.i x] = some H' ∧ Wk B K H' lv n m R lb (T.set i ((gi T (i : Int)).set j x)) L ∧ Kx (fun b => b ≠ R + i) H H' ∧ H'.length = H.length := by
  obtain ⟨h1, h2, h3⟩ := h.row i hi
  have hlen := h.len
  refine ⟨_, st_of h1 (by have := h.lo; omega) (by simp; omega), ⟨by rw [List.length_set]; exact h.len, fun a ha => ?_, ?_, h.ll, h.lo⟩, Kx.set _ _ _, by simp⟩
  · have eg : gi (T.set i ((gi T (i : Int)).set j x)) (a : Int) = if i = a then (gi T (i : Int)).set j x else gi T (a : Int) := by
      have := gi_set (xs := T) (i := (i : Int)) (j := (a : Int)) (x := (gi T (i : Int)).set j x) (by omega) (by omega) (by omega)
      rw [show ((i : Int)).toNat = i from rfl] at this
      rw [this]
      by_cases e : i = a
      · rw [if_pos e, if_pos (by omega)]
      · rw [if_neg e, if_neg (by omega)]
    rw [eg]
    by_cases e : i = a
    · subst e
      rw [if_pos rfl]
      refine ⟨?_, by rw [List.length_set]; exact h2, h3⟩
      rw [get_set h1]
      simp [wr, List.map_set]
    · rw [if_neg e, List.getElem?_set_ne (by omega)]
      exact h.row a ha
  · obtain ⟨o, c, k, e, q1, q2, q3⟩ := h.left
    exact ⟨o, c, k, e, q1, by rw [List.getElem?_set_ne (show R + i ≠ lb by have := h.lo; omega)]; exact q2, q3⟩
/-- the table, as a slice -/
theorem Wk.tabSl {B : Nat} {K : Nat → Prop} {H : Heap} {lv : AV} {n m R lb tb : Nat} {T : List (List Int)} {L : List Int} (h : Wk B K H lv n m R lb T L) (ht : H[tb]? = some (.cells ((List.range n).map fun a : Nat => .s 1 (R + a) 0 m (some m)))) (hn : n ≤ 3) (hm : m ≤ 3) : Sl (fun _ => True) H (.s 1 tb 0 n (some n)) T := by
  have hlen := h.len
  subst hlen
  refine .inr ⟨tb, 0, some T.length, _, rfl, trivial, ht, ?_, by omega, fun i hi => ?_⟩
  · change 0 + T.length * 1 ≤ _; simp
  · refine ⟨.s 1 (R + i) 0 m (some m), ?_, ?_⟩
    · change (((List.range T.length).map fun a : Nat => AV.s 1 (R + a) 0 m (some m)).drop (0 + i * 1)).take 1 = _
      rw [Nat.zero_add, Nat.mul_one, List.take_one, List.head?_drop]
      simp [hi]
    · obtain ⟨h1, h2, h3⟩ := h.row i hi
      rw [gi_nat hi] at h1 h2
      subst h2
      exact Sl.litI (p := fun _ => True) h1 trivial (by omega)
end Go.Proofs.Ytflekaacffdakaa
namespace Go.Proofs.Ytflekaacffdakaa
open Go Go.AM Go.Proofs
/-- an item: a table -/
def ArgT (Ki : Nat → Prop) (H : Heap) (args : List AV) (x : List (List Int)) : Prop := ∃ u, args = [u] ∧ Sl Ki H u x
/-- what is known of a table behind i rows and some numbers of the next one -/
def Pre (T D : List (List Int)) (i : Nat) (c : List Int) : Prop := (∀ a : Nat, a < i → gi T (a : Int) = gi D (a : Int)) ∧ (gi T (i : Int)).take c.length = c
def GPost (B n m R lb : Nat) (lv : AV) (D : List (List Int)) (c L : List Int) (Q : Bool → (Nat → Prop) → Heap → Prop) (K : Nat → Prop) (H : Heap) (u : AV) (H' : Heap) : Prop :=
  ∃ ok K', u = .b ok ∧ (∀ H2, Kx (fun b => b < B ∨ K' b) H' H2 → Q ok K' H2) ∧ Kx (fun b => ¬ K b ∧ ¬ Wb n R lb b) H H' ∧ (∀ b, K' b → b < H'.length ∧ (b < H.length → K b)) ∧ ∃ T', Wk B K' H' lv n m R lb T' L ∧ Pre T' D D.length c
section
variable {lo B n m bm bl bY bt bg tb R lb : Nat} {y rv cv lv : AV} {rows cols : List Int}
def GrowA (lo B n m bm bl bY bt bg tb R lb : Nat) (y rv cv lv : AV) (rows cols : List Int) (rs : List Int) : Prop :=
  ∀ (D : List (List Int)) (L : List Int) (T : List (List Int)) (K : Nat → Prop) (H : Heap) (Q : Bool → (Nat → Prop) → Heap → Prop), D.length + rs.length = n → rows.drop D.length = rs → (∀ x ∈ L, 0 ≤ x ∧ x ≤ 16) →
    Fx K H y rv cv lv rows cols n m bm bl bY bt bg tb R lb → Wk B K H lv n m R lb T L → Pre T D D.length [] → (∀ b, K b → b < H.length) → B ≤ H.length →
    Its E lo y B ArgT Q ((tabsL rs L).map (D ++ ·)) K H →
    WpF E lo 100 [.i D.length, .i 0, .i (gi rows (D.length : Int)), .p bm 0, .p bl 0, .p bY 0, .p bt 0, .p bg 0] H (GPost B n m R lb lv D [] L Q K H)
def GrowB (lo B n m bm bl bY bt bg tb R lb : Nat) (y rv cv lv : AV) (rows cols : List Int) (rs cs : List Int) : Prop :=
  ∀ (D : List (List Int)) (c : List Int) (need : Int) (L : List Int) (T : List (List Int)) (K : Nat → Prop) (H : Heap) (Q : Bool → (Nat → Prop) → Heap → Prop), D.length + 1 + rs.length = n → rows.drop (D.length + 1) = rs → L.drop c.length = cs → c.length + cs.length = m → 0 ≤ need ∧ need ≤ 16 → (∀ x ∈ L, 0 ≤ x ∧ x ≤ 16) →
    Fx K H y rv cv lv rows cols n m bm bl bY bt bg tb R lb → Wk B K H lv n m R lb T L → Pre T D D.length c → (∀ b, K b → b < H.length) → B ≤ H.length →
    Its E lo y B ArgT Q ((lines cs need).flatMap fun l => (tabsL rs (L.take c.length ++ subL cs l)).map (fun z => D ++ (c ++ l) :: z)) K H →
    WpF E lo 100 [.i D.length, .i c.length, .i need, .p bm 0, .p bl 0, .p bY 0, .p bt 0, .p bg 0] H (GPost B n m R lb lv D c L Q K H)
theorem Pre.full {T D : List (List Int)} (h : Pre T D D.length []) (hl : T.length = D.length) : T = D := by
  apply List.ext_getElem hl
  intro i h1 h2
  have := h.1 i h2
  rwa [gi_nat h1, gi_nat h2] at this
theorem growA_nil (hlo : lo ≤ B) (hn : n ≤ 3) (hm : m ≤ 3) (hm1 : 1 ≤ m) (hrl : rows.length = n) : GrowA lo B n m bm bl bY bt bg tb R lb y rv cv lv rows cols [] := by
  intro D L T K H Q hD hr hL fx wk pre hK hB hI
  refine WpF.wrt rfl fn100 rfl ?_
  unfold f100A
  simp only [List.length_nil, Nat.add_zero] at hD
  subst hD
  have rI := fx.rows.I
  rw [hrl] at rI
  have hls := wk.leftSl
  have hll := wk.ll
  have mx := max_ret hls (by omega)
  by_cases h0 : maxL L > 0
  · rw [tabsL, if_pos h0] at hI
    have h0' : decide (0 < maxL L) = true := decide_eq_true h0
    simp (disch := (first | assumption | omega | (simp only [List.length_append, List.length_cons, List.length_nil]; omega))) only [↓wD,wU,Nat.reduceBEq,zx150,zx151,zx159,zx160,zx161,zx162,Nat.reduceAdd,Nat.reduceSub,Nat.reduceMul,Nat.reduceLeDiff,Nat.reduceLT,Nat.reduceEqDiff,Int.reduceAdd,Int.reduceSub,Int.reduceMul,Int.reduceNeg,Int.reduceLT,Int.reduceLE,Int.reduceEq,Int.reduceToNat,Int.cast_ofNat_Int,↓reduceIte, ld_of fx.mg.1, ld_of fx.lg.1, fx.rows.lenV, hrl, mx.call, h0']
    exact ⟨true, K, rfl, hI, Kx.refl _ _, fun b q => ⟨hK b q, fun _ => q⟩, T, wk, pre⟩
  · rw [tabsL, if_neg h0] at hI
    have h0' : decide (0 < maxL L) = false := decide_eq_false h0
    have hT := pre.full (by rw [wk.len])
    subst hT
    have ts := wk.tabSl fx.tbg.1 hn hm
    have hne : NE T := by
      intro r hr
      obtain ⟨a, ha, rfl⟩ := List.mem_iff_getElem.1 hr
      have := (wk.row a (by rw [← wk.len]; exact ha)).2.1
      rw [gi_nat ha] at this
      exact ⟨fun e => by rw [e] at this; simp at this; omega, by omega⟩
    simp (disch := (first | assumption | omega | (simp only [List.length_append, List.length_cons, List.length_nil]; omega))) only [↓wD,wU,Nat.reduceBEq,zx150,zx151,zx159,zx160,zx161,zx162,Nat.reduceAdd,Nat.reduceSub,Nat.reduceMul,Nat.reduceLeDiff,Nat.reduceLT,Nat.reduceEqDiff,Int.reduceAdd,Int.reduceSub,Int.reduceMul,Int.reduceNeg,Int.reduceLT,Int.reduceLE,Int.reduceEq,Int.reduceToNat,Int.cast_ofNat_Int,↓reduceIte, ld_of fx.mg.1, ld_of fx.lg.1, ld_of fx.yg.1, ld_of fx.tg.1, fx.rows.lenV, hrl, mx.call, h0']
    refine (tclone_ret ts hne (by omega)).toX fun u H1 hx hu => ?_
    have hmt : MT H.length H1 u T := MT.of hu fun b hb => hb.elim (fun h => h.elim) id
    have hsl := hmt.sl.low
    have hl1 := hx.1
    simp (disch := (first | assumption | omega | (simp only [List.length_append, List.length_cons, List.length_nil]; omega))) only [↓wD,wU,Nat.reduceBEq,zx150,zx151,zx159,zx160,zx161,zx162,Nat.reduceAdd,Nat.reduceSub,Nat.reduceMul,Nat.reduceLeDiff,Nat.reduceLT,Nat.reduceEqDiff,Int.reduceAdd,Int.reduceSub,Int.reduceMul,Int.reduceNeg,Int.reduceLT,Int.reduceLE,Int.reduceEq,Int.reduceToNat,Int.cast_ofNat_Int,↓reduceIte]
    refine callvI ((hI H1 (fun b => H.length ≤ b ∧ b < H1.length) [u] (hx.all _) ⟨u, rfl, ?_⟩ ?_).mono ?_)
    · simp only [List.append_nil]; exact hsl
    · exact fun b e => ⟨by omega, e.2, fun q => by have := hK b q; omega⟩
    · rintro v H2 ⟨hx2, hc⟩
      have kb : ∀ b, Kn K (fun b => H.length ≤ b ∧ b < H1.length) H1 H2 b → b < H2.length ∧ (b < H.length → K b) := by
        have hl2 := hx2.1
        rintro b (h | h | h)
        · exact ⟨by have := hK b h; omega, fun _ => h⟩
        · exact ⟨by omega, fun q => by omega⟩
        · exact ⟨h.2, fun q => by omega⟩
      have x12 : Kx (fun b => ¬ K b) H H2 := (hx.all _).trans hx2 fun b hb h q => q.elim h fun q => by omega
      have wk2 := wk.mono x12 fun b hb q => (kb b q).2 hb
      rcases hc with ⟨rfl, hc⟩ | ⟨rfl, hc⟩
      · simp (disch := (first | assumption | omega | (simp only [List.length_append, List.length_cons, List.length_nil]; omega))) only [↓wD,wU,Nat.reduceBEq,zx150,zx151,zx159,zx160,zx161,zx162,Nat.reduceAdd,Nat.reduceSub,Nat.reduceMul,Nat.reduceLeDiff,Nat.reduceLT,Nat.reduceEqDiff,Int.reduceAdd,Int.reduceSub,Int.reduceMul,Int.reduceNeg,Int.reduceLT,Int.reduceLE,Int.reduceEq,Int.reduceToNat,Int.cast_ofNat_Int,↓reduceIte]
        exact ⟨true, _, rfl, hc, x12.weak fun _ _ h => h.1, kb, T, wk2, pre⟩
      · simp (disch := (first | assumption | omega | (simp only [List.length_append, List.length_cons, List.length_nil]; omega))) only [↓wD,wU,Nat.reduceBEq,zx150,zx151,zx159,zx160,zx161,zx162,Nat.reduceAdd,Nat.reduceSub,Nat.reduceMul,Nat.reduceLeDiff,Nat.reduceLT,Nat.reduceEqDiff,Int.reduceAdd,Int.reduceSub,Int.reduceMul,Int.reduceNeg,Int.reduceLT,Int.reduceLE,Int.reduceEq,Int.reduceToNat,Int.cast_ofNat_Int,↓reduceIte]
        exact ⟨false, _, rfl, hc, x12.weak fun _ _ h => h.1, kb, T, wk2, pre⟩
end
end Go.Proofs.Ytflekaacffdakaa
namespace Go.Proofs.Ytflekaacffdakaa
open Go Go.AM Go.Proofs
theorem gi_app {α : Type} [Inhabited α] {xs ys : List α} {a : Nat} (h : a < xs.length) : gi (xs ++ ys) (a : Int) = gi xs (a : Int) := by
  rw [gi_nat h, gi_nat (by simp; omega), List.getElem_append_left h]
theorem gi_end {α : Type} [Inhabited α] {xs : List α} {x : α} : gi (xs ++ [x]) (xs.length : Int) = x := by
  rw [gi_nat (by simp)]; simp
theorem gi_out {α : Type} [Inhabited α] {xs : List α} {a : Nat} (h : xs.length ≤ a) : gi xs (a : Int) = default := by
  unfold gi; simp [h]
theorem Pre.row {T D : List (List Int)} {c : List Int} (h : Pre T D D.length c) (hl : (gi T (D.length : Int)).length = c.length) : Pre T (D ++ [c]) (D ++ [c]).length [] := by
  refine ⟨fun a ha => ?_, by simp⟩
  simp only [List.length_append, List.length_singleton] at ha
  by_cases e : a = D.length
  · subst e
    rw [gi_end]
    have := h.2
    rwa [← hl, List.take_length] at this
  · rw [gi_app (by omega)]
    exact h.1 a (by omega)
theorem Pre.unrow {T D : List (List Int)} {c : List Int} (h : Pre T (D ++ [c]) (D ++ [c]).length []) : Pre T D D.length c := by
  have hl : (D ++ [c]).length = D.length + 1 := by simp
  refine ⟨fun a ha => ?_, ?_⟩
  · have := h.1 a (by omega)
    rwa [gi_app ha] at this
  · have := h.1 D.length (by omega)
    rw [this, gi_end, List.take_length]
section
variable {lo B n m bm bl bY bt bg tb R lb : Nat} {y rv cv lv : AV} {rows cols : List Int}
theorem growB_nil {rs : List Int} (hlo : lo ≤ B) (hn : n ≤ 3) (hm : m ≤ 3) (hrl : rows.length = n) (hcl : cols.length = m) (hA : GrowA lo B n m bm bl bY bt bg tb R lb y rv cv lv rows cols rs) : GrowB lo B n m bm bl bY bt bg tb R lb y rv cv lv rows cols rs [] := by
  intro D c need L T K H Q hD hr hd hc hneed hL fx wk pre hK hB hI
  refine WpF.wrt rfl fn100 rfl ?_
  unfold f100A
  simp only [List.length_nil, Nat.add_zero] at hc
  have hT := wk.row D.length (by omega)
  have hll := wk.ll
  have e1 : decide ((D.length : Int) = n) = false := decide_eq_false (by omega)
  have e2 : decide ((c.length : Int) = m) = true := decide_eq_true (by omega)
  have hrv := fx.rows.lenV
  have hcv := fx.cols.lenV
  rw [hrl] at hrv
  rw [hcl] at hcv
  by_cases h0 : need > 0
  · rw [lines, if_pos h0] at hI
    have h0' : decide (0 < need) = true := decide_eq_true h0
    simp (disch := (first | assumption | omega | (simp only [List.length_append, List.length_cons, List.length_nil]; omega))) only [↓wD,wU,Nat.reduceBEq,zx150,zx151,zx159,zx160,zx161,zx162,Nat.reduceAdd,Nat.reduceSub,Nat.reduceMul,Nat.reduceLeDiff,Nat.reduceLT,Nat.reduceEqDiff,Int.reduceAdd,Int.reduceSub,Int.reduceMul,Int.reduceNeg,Int.reduceLT,Int.reduceLE,Int.reduceEq,Int.reduceToNat,Int.cast_ofNat_Int,↓reduceIte, ld_of fx.mg.1, ldn_of fx.mg.1, hrv, hcv, e1, e2, h0']
    exact ⟨true, K, rfl, hI, Kx.refl _ _, fun b q => ⟨hK b q, fun _ => q⟩, T, wk, pre⟩
  · rw [lines, if_neg h0] at hI
    have h0' : decide (0 < need) = false := decide_eq_false h0
    have hI' : Its E lo y B ArgT Q ((tabsL rs L).map ((D ++ [c]) ++ ·)) K H := by
      have eL : L.take c.length ++ subL [] [] = L := by rw [List.take_of_length_le (by omega)]; simp [subL]
      simp only [List.flatMap_cons, List.flatMap_nil, List.append_nil, eL] at hI
      simpa using hI
    have hl : (D ++ [c]).length = D.length + 1 := by simp
    have go := hA (D ++ [c]) L T K H Q (by omega) (by rw [hl]; exact hr) hL fx wk (pre.row (by rw [hT.2.1, hc])) hK hB hI'
    rw [hl] at go
    have fin : ∀ u H', GPost B n m R lb lv (D ++ [c]) [] L Q K H u H' → GPost B n m R lb lv D c L Q K H u H' := by
      rintro u H' ⟨ok, K', e, q1, q2, q3, T', q4, q5⟩
      exact ⟨ok, K', e, q1, q2, q3, T', q4, q5.unrow⟩
    by_cases h1 : D.length + 1 = n
    · have h1' : decide ((D.length : Int) + 1 = n) = true := decide_eq_true (by omega)
      rw [gi_out (by omega)] at go
      change WpF E lo _ [.i ((D.length + 1 : Nat) : Int), .i 0, .i 0, _, _, _, _, _] H _ at go
      rw [show ((D.length + 1 : Nat) : Int) = (D.length : Int) + 1 from by omega] at go
      simp (disch := (first | assumption | omega | (simp only [List.length_append, List.length_cons, List.length_nil]; omega))) only [↓wD,wU,Nat.reduceBEq,zx150,zx151,zx159,zx160,zx161,zx162,Nat.reduceAdd,Nat.reduceSub,Nat.reduceMul,Nat.reduceLeDiff,Nat.reduceLT,Nat.reduceEqDiff,Int.reduceAdd,Int.reduceSub,Int.reduceMul,Int.reduceNeg,Int.reduceLT,Int.reduceLE,Int.reduceEq,Int.reduceToNat,Int.cast_ofNat_Int,↓reduceIte, ld_of fx.mg.1, ldn_of fx.mg.1, ld_of fx.gg.1, hrv, hcv, e1, e2, h0', h1']
      refine callvI (WpV.fn (us := []) (vs := [_, _, _]) (go.mono ?_))
      intro u H' hp
      obtain ⟨ok, K', rfl, hq⟩ := fin u H' hp
      simp (disch := (first | assumption | omega | (simp only [List.length_append, List.length_cons, List.length_nil]; omega))) only [↓wD,wU,Nat.reduceBEq,zx150,zx151,zx159,zx160,zx161,zx162,Nat.reduceAdd,Nat.reduceSub,Nat.reduceMul,Nat.reduceLeDiff,Nat.reduceLT,Nat.reduceEqDiff,Int.reduceAdd,Int.reduceSub,Int.reduceMul,Int.reduceNeg,Int.reduceLT,Int.reduceLE,Int.reduceEq,Int.reduceToNat,Int.cast_ofNat_Int,↓reduceIte]
      exact ⟨ok, K', rfl, hq⟩
    · have h1' : decide ((D.length : Int) + 1 = n) = false := decide_eq_false (by omega)
      rw [show ((D.length + 1 : Nat) : Int) = (D.length : Int) + 1 from by omega] at go
      have rI := fx.rows.I
      rw [hrl] at rI
      simp (disch := (first | assumption | omega | (simp only [List.length_append, List.length_cons, List.length_nil]; omega))) only [↓wD,wU,Nat.reduceBEq,zx150,zx151,zx159,zx160,zx161,zx162,Nat.reduceAdd,Nat.reduceSub,Nat.reduceMul,Nat.reduceLeDiff,Nat.reduceLT,Nat.reduceEqDiff,Int.reduceAdd,Int.reduceSub,Int.reduceMul,Int.reduceNeg,Int.reduceLT,Int.reduceLE,Int.reduceEq,Int.reduceToNat,Int.cast_ofNat_Int,↓reduceIte, ld_of fx.mg.1, ldn_of fx.mg.1, ld_of fx.gg.1, hrv, hcv, e1, e2, h0', h1', rI]
      refine callvI (WpV.fn (us := []) (vs := [_, _, _]) (go.mono ?_))
      intro u H' hp
      obtain ⟨ok, K', rfl, hq⟩ := fin u H' hp
      simp (disch := (first | assumption | omega | (simp only [List.length_append, List.length_cons, List.length_nil]; omega))) only [↓wD,wU,Nat.reduceBEq,zx150,zx151,zx159,zx160,zx161,zx162,Nat.reduceAdd,Nat.reduceSub,Nat.reduceMul,Nat.reduceLeDiff,Nat.reduceLT,Nat.reduceEqDiff,Int.reduceAdd,Int.reduceSub,Int.reduceMul,Int.reduceNeg,Int.reduceLT,Int.reduceLE,Int.reduceEq,Int.reduceToNat,Int.cast_ofNat_Int,↓reduceIte]
      exact ⟨ok, K', rfl, hq⟩
end
end Go.Proofs.Ytflekaacffdakaa
namespace Go.Proofs.Ytflekaacffdakaa
open Go Go.AM Go.Proofs
/-- the items of one number of a row -/
def numL (rs cs : List Int) (D : List (List Int)) (c P : List Int) (cap need : Int) (x : Nat) : List (List (List Int)) :=
  (lines cs (need - (x : Int))).flatMap fun l => (tabsL rs ((P ++ [cap - (x : Int)]) ++ subL cs l)).map (fun z => D ++ ((c ++ [(x : Int)]) ++ l) :: z)
theorem lines_num {rs cs : List Int} {D : List (List Int)} {c P : List Int} {cap need : Int} : ((lines (cap :: cs) need).flatMap fun l => (tabsL rs (P ++ subL (cap :: cs) l)).map (fun z => D ++ (c ++ l) :: z)) = (List.range (min need cap + 1).toNat).flatMap (numL rs cs D c P cap need) := by
  simp only [lines, List.flatMap_assoc]
  congr 1
  funext x
  unfold numL
  rw [List.flatMap_map]
  congr 1
  funext l
  simp [subL]
theorem range_drop {N x : Nat} (h : x < N) : (List.range N).drop x = x :: (List.range N).drop (x + 1) := by
  rw [List.drop_eq_getElem_cons (by simpa using h)]; simp
theorem Pre.setT {T D : List (List Int)} {c : List Int} {x : Int} (h : Pre T D D.length c) (hl : D.length < T.length) (hc : c.length < (gi T (D.length : Int)).length) : Pre (T.set D.length ((gi T (D.length : Int)).set c.length x)) D D.length (c ++ [x]) := by
  have eg : ∀ a : Nat, gi (T.set D.length ((gi T (D.length : Int)).set c.length x)) (a : Int) = if D.length = a then (gi T (D.length : Int)).set c.length x else gi T (a : Int) := by
    intro a
    have := gi_set (xs := T) (i := (D.length : Int)) (j := (a : Int)) (x := (gi T (D.length : Int)).set c.length x) (by omega) (by omega) (by omega)
    rw [show ((D.length : Int)).toNat = D.length from rfl] at this
    rw [this]
    by_cases e : D.length = a
    · rw [if_pos e, if_pos (by omega)]
    · rw [if_neg e, if_neg (by omega)]
  refine ⟨fun a ha => ?_, ?_⟩
  · rw [eg, if_neg (by omega)]
    exact h.1 a ha
  · rw [eg, if_pos rfl]
    have h2 := h.2
    apply List.ext_getElem
    · simp; omega
    · intro i h3 h4
      simp only [List.length_append, List.length_singleton] at h4
      rw [List.getElem_take, List.getElem_set]
      by_cases e : c.length = i
      · subst e
        rw [if_pos rfl, List.getElem_append_right (Nat.le_refl _)]; simp
      · rw [if_neg e, List.getElem_append_left (by omega)]
        have h5 : i < ((gi T (D.length : Int)).take c.length).length := by rw [h2]; omega
        have : ((gi T (D.length : Int)).take c.length)[i] = c[i]'(by omega) := by simp only [h2]
        rw [List.getElem_take] at this
        exact this
theorem Pre.cut {T D : List (List Int)} {c : List Int} {x : Int} (h : Pre T D D.length (c ++ [x])) : Pre T D D.length c := by
  refine ⟨h.1, ?_⟩
  have := congrArg (List.take c.length) h.2
  rw [List.take_take, List.take_append_of_le_length (Nat.le_refl _), List.take_length] at this
  rwa [show min c.length (c ++ [x]).length = c.length by simp] at this
theorem left_drop {L cs : List Int} {j : Nat} {cap : Int} (h : L.drop j = cap :: cs) : j < L.length ∧ gi L (j : Int) = cap ∧ L.drop (j + 1) = cs := by
  have hj : j < L.length := by
    rcases Nat.lt_or_ge j L.length with h1 | h1
    · exact h1
    · rw [List.drop_of_length_le h1] at h; cases h
  rw [List.drop_eq_getElem_cons hj] at h
  injection h with h1 h2
  exact ⟨hj, by rw [gi_nat hj]; exact h1, h2⟩
theorem left_set {L : List Int} {j : Nat} {x : Int} (hj : j < L.length) : (L.set j x).drop (j + 1) = L.drop (j + 1) ∧ (L.set j x).take (j + 1) = L.take j ++ [x] := by
  refine ⟨by rw [List.drop_set_of_lt (by omega)], ?_⟩
  rw [List.take_succ_eq_append_getElem (by simpa using hj), List.take_set_of_le (Nat.le_refl _)]
  simp
theorem left_back {L : List Int} {j : Nat} {x y : Int} (hj : j < L.length) (h : y = gi L (j : Int)) : (L.set j x).set j y = L := by
  rw [List.set_set, h, gi_nat hj]; simp
end Go.Proofs.Ytflekaacffdakaa
namespace Go.Proofs.Ytflekaacffdakaa
open Go Go.AM Go.Proofs
section
variable {lo B n m bm bl bY bt bg tb R lb : Nat} {y rv cv lv : AV} {rows cols : List Int}
theorem growB_cons {rs cs : List Int} {cap : Int} (hlo : lo ≤ B) (hn : n ≤ 3) (hm : m ≤ 3) (hrl : rows.length = n) (hcl : cols.length = m) (hB' : GrowB lo B n m bm bl bY bt bg tb R lb y rv cv lv rows cols rs cs) : GrowB lo B n m bm bl bY bt bg tb R lb y rv cv lv rows cols rs (cap :: cs) := by
  intro D c need L T K H Q hD hr hd hc hneed hL fx wk pre hK hB hI
  refine WpF.wrt rfl fn100 rfl ?_
  unfold f100A
  rw [lines_num] at hI
  simp only [List.length_cons] at hc
  obtain ⟨hjl, hcap, hcs⟩ := left_drop hd
  have hll := wk.ll
  have hcm := hL _ (mem_gi hjl)
  rw [hcap] at hcm
  have e1 : decide ((D.length : Int) = n) = false := decide_eq_false (by omega)
  have e2 : decide ((c.length : Int) = m) = false := decide_eq_false (by omega)
  have hrv := fx.rows.lenV
  have hcv := fx.cols.lenV
  rw [hrl] at hrv
  rw [hcl] at hcv
  have lI := wk.leftSl.I
  have hmn : 0 ≤ min need cap ∧ min need cap ≤ 16 := by omega
  obtain ⟨N, hN⟩ : ∃ N : Nat, (min need cap + 1).toNat = N := ⟨_, rfl⟩
  have hN' : min need cap + 1 = (N : Int) := by omega
  rw [hN] at hI
  have hNn : ∀ x : Nat, x < N → (x : Int) ≤ need ∧ (x : Int) ≤ cap := by omega
  simp (disch := (first | assumption | omega | (simp only [List.length_append, List.length_cons, List.length_nil]; omega))) only [↓wD,wU,Nat.reduceBEq,zx150,zx151,zx159,zx160,zx161,zx162,Nat.reduceAdd,Nat.reduceSub,Nat.reduceMul,Nat.reduceLeDiff,Nat.reduceLT,Nat.reduceEqDiff,Int.reduceAdd,Int.reduceSub,Int.reduceMul,Int.reduceNeg,Int.reduceLT,Int.reduceLE,Int.reduceEq,Int.reduceToNat,Int.cast_ofNat_Int,↓reduceIte, ld_of fx.mg.1, ldn_of fx.mg.1, ld_of fx.lg.1, hrv, hcv, e1, e2, lI, hcap, hN']
  refine Wp.for N (fun x a H1 => a 0 = .i D.length ∧ a 1 = .i c.length ∧ a 2 = .i need ∧ a 3 = .p bm 0 ∧ a 4 = .p bl 0 ∧ a 5 = .p bY 0 ∧ a 6 = .p bt 0 ∧ a 7 = .p bg 0 ∧ a 63 = .i N ∧ a 64 = .i x ∧ ∃ K1 T1, Its E lo y B ArgT Q (((List.range N).drop x).flatMap (numL rs cs D c (L.take c.length) cap need)) K1 H1 ∧ Kx (fun b => ¬ K b ∧ ¬ Wb n R lb b) H H1 ∧ (∀ b, K1 b → b < H1.length ∧ (b < H.length → K b)) ∧ Wk B K1 H1 lv n m R lb T1 L ∧ Pre T1 D D.length c) ?_ ?_
  · rintro x a H1 hx ⟨a0, a1, a2, a3, a4, a5, a6, a7, a63, a64, K1, T1, hI1, x1, hK1, wk1, pre1⟩ ih
    simp (disch := (first | assumption | omega | (simp only [List.length_append, List.length_cons, List.length_nil]; omega))) only [↓wD,wU,Nat.reduceBEq,zx150,zx151,zx159,zx160,zx161,zx162,Nat.reduceAdd,Nat.reduceSub,Nat.reduceMul,Nat.reduceLeDiff,Nat.reduceLT,Nat.reduceEqDiff,Int.reduceAdd,Int.reduceSub,Int.reduceMul,Int.reduceNeg,Int.reduceLT,Int.reduceLE,Int.reduceEq,Int.reduceToNat,Int.cast_ofNat_Int,↓reduceIte, a0, a1, a2, a3, a4, a5, a6, a7, a63, a64]
    refine condP_split (fun hlt => ?_) (fun hlt => ?_)
    · have hx' : x < N := by omega
      obtain ⟨xn, xc⟩ := hNn x hx'
      rw [range_drop hx', List.flatMap_cons] at hI1
      have hI2 := Its.append hI1
      have fx1 := fx.mono x1 fun b h q => (hK1 b q).2 h
      have hrow := wk1.row D.length (by omega)
      obtain ⟨H2, hst, wk2, x2, l2⟩ := wk1.setT (lo := lo) (i := D.length) (j := c.length) (x := (x : Int)) (by omega) (by omega) hlo
      have x12 : Kx (fun b => ¬ K1 b ∧ ¬ Wb n R lb b) H1 H2 := x2.weak fun b _ h e => h.2 (.inr (by omega))
      have fx2 := fx1.mono x12 fun b _ q => q
      have iT := zx178 (b := tb) (m := n) (c := some n) (k := D.length) (by omega)
      have iR := zx178 (b := R + D.length) (m := m) (c := some m) (k := c.length) (by omega)
      have tI := ld_of fx1.tbg.1 (o := D.length)
      rw [show (((List.range n).map fun a : Nat => AV.s 1 (R + a) 0 m (some m))[D.length]?) = some (.s 1 (R + D.length) 0 m (some m)) by rw [List.getElem?_map, List.getElem?_range (by omega)]; rfl] at tI
      have lI2 := wk2.leftSl.I
      simp (disch := (first | assumption | omega | (simp only [List.length_append, List.length_cons, List.length_nil]; omega))) only [↓wD,wU,Nat.reduceBEq,zx150,zx151,zx159,zx160,zx161,zx162,Nat.reduceAdd,Nat.reduceSub,Nat.reduceMul,Nat.reduceLeDiff,Nat.reduceLT,Nat.reduceEqDiff,Int.reduceAdd,Int.reduceSub,Int.reduceMul,Int.reduceNeg,Int.reduceLT,Int.reduceLE,Int.reduceEq,Int.reduceToNat,Int.cast_ofNat_Int,↓reduceIte, a0, a1, a2, a3, a4, a5, a6, a7, a63, a64, ld_of fx1.tg.1, iT, tI, iR, hst, ld_of fx2.lg.1, lI2, hcap]
      refine wk2.setL (j := c.length) (by omega) hlo fun H3 wk3 x3 l3 => ?_
      have x13 : Kx (fun b => ¬ K1 b ∧ ¬ Wb n R lb b) H1 H3 := x12.trans x3 fun b _ h e => h.2 (.inl e)
      have fx3 := fx1.mono x13 fun b _ q => q
      have hcl1 : (c ++ [(x : Int)]).length = c.length + 1 := by simp
      obtain ⟨ls1, ls2⟩ := left_set (L := L) (j := c.length) (x := cap - (x : Int)) hjl
      have hl1 := x1.1
      have pre3 := pre1.setT (x := (x : Int)) (by rw [wk1.len]; omega) (by rw [hrow.2.1]; omega)
      have x13' : Kx (fun b => b < B ∨ K1 b) H1 H3 := ((x2.weak (q := fun b => b ≠ R + D.length ∧ b ≠ lb) fun _ _ h => h.1).trans x3 fun b _ h => h.2) |>.weak fun b _ h => ⟨fun e => by
          have := wk1.lo
          rcases h with h | h
          · omega
          · exact hrow.2.2 (e ▸ h), fun e => by
          have := wk1.lo
          rcases h with h | h
          · omega
          · exact wk1.left_lt.2 (e ▸ h)⟩
      have go := hB' D (c ++ [(x : Int)]) (need - x) (L.set c.length (cap - x)) _ K1 H3 _ hD hr (by rw [hcl1, ls1]; exact hcs) (by rw [hcl1]; omega) (by omega) (by
        intro z hz
        rcases List.mem_or_eq_of_mem_set hz with h | h
        · exact hL z h
        · omega) fx3 wk3 pre3 (fun b q => by have := (hK1 b q).1; omega) (by omega) (by
          rw [hcl1, ls2]
          exact hI2.keep x13')
      rw [hcl1, show ((c.length + 1 : Nat) : Int) = (c.length : Int) + 1 from by omega] at go
      simp (disch := (first | assumption | omega | (simp only [List.length_append, List.length_cons, List.length_nil]; omega))) only [↓wD,wU,Nat.reduceBEq,zx150,zx151,zx159,zx160,zx161,zx162,Nat.reduceAdd,Nat.reduceSub,Nat.reduceMul,Nat.reduceLeDiff,Nat.reduceLT,Nat.reduceEqDiff,Int.reduceAdd,Int.reduceSub,Int.reduceMul,Int.reduceNeg,Int.reduceLT,Int.reduceLE,Int.reduceEq,Int.reduceToNat,Int.cast_ofNat_Int,↓reduceIte, a0, a1, a2, a3, a4, a5, a6, a7, a63, a64, ld_of fx3.gg.1]
      refine callvI (WpV.fn (us := []) (vs := [_, _, _]) (go.mono ?_))
      rintro u' H4 ⟨ok, K4, rfl, hq, x34, hK4, T4, wk4, pre4⟩
      have l34 := x34.1
      have fx4 := fx3.mono x34 fun b h q => (hK4 b q).2 h
      have lI4 := wk4.leftSl.I
      rw [List.length_set] at lI4
      have eg : gi (L.set c.length (cap - (x : Int))) (c.length : Int) = cap - x := by rw [gi_nat (by simpa using hjl)]; simp
      simp (disch := (first | assumption | omega | (simp only [List.length_append, List.length_cons, List.length_nil]; omega))) only [↓wD,wU,Nat.reduceBEq,zx150,zx151,zx159,zx160,zx161,zx162,Nat.reduceAdd,Nat.reduceSub,Nat.reduceMul,Nat.reduceLeDiff,Nat.reduceLT,Nat.reduceEqDiff,Int.reduceAdd,Int.reduceSub,Int.reduceMul,Int.reduceNeg,Int.reduceLT,Int.reduceLE,Int.reduceEq,Int.reduceToNat,Int.cast_ofNat_Int,↓reduceIte, a0, a1, a2, a3, a4, a5, a6, a7, a63, a64, ld_of fx4.lg.1, lI4, eg]
      refine wk4.setL (j := c.length) (by omega) hlo fun H5 wk5 x5 l5 => ?_
      rw [left_back hjl (by rw [hcap]; omega)] at wk5
      have x15 : Kx (fun b => ¬ K b ∧ ¬ Wb n R lb b) H H5 := ((x1.trans x13 fun b hb h => ⟨fun q => h.1 ((hK1 b q).2 hb), h.2⟩).trans x34 fun b hb h => ⟨fun q => h.1 ((hK1 b q).2 hb), h.2⟩).trans x5 fun b hb h e => h.2 (.inl e)
      have kb : ∀ b, K4 b → b < H5.length ∧ (b < H.length → K b) := fun b q => ⟨by have := (hK4 b q).1; omega, fun hb => (hK1 b ((hK4 b q).2 (by omega))).2 hb⟩
      have x45 : Kx (fun b => b < B ∨ K4 b) H4 H5 := x5.weak fun b _ h e => by
        have := wk4.lo
        rcases h with h | h
        · omega
        · exact wk4.left_lt.2 (e ▸ h)
      cases ok with
      | true =>
        have hI5 := (hq H5 x45).1 rfl
        clear hq go hI hI1 hI2
        simp (disch := (first | assumption | omega | (simp only [List.length_append, List.length_cons, List.length_nil]; omega))) only [↓wD,wU,Nat.reduceBEq,zx150,zx151,zx159,zx160,zx161,zx162,Nat.reduceAdd,Nat.reduceSub,Nat.reduceMul,Nat.reduceLeDiff,Nat.reduceLT,Nat.reduceEqDiff,Int.reduceAdd,Int.reduceSub,Int.reduceMul,Int.reduceNeg,Int.reduceLT,Int.reduceLE,Int.reduceEq,Int.reduceToNat,Int.cast_ofNat_Int,↓reduceIte, a0, a1, a2, a3, a4, a5, a6, a7, a63, a64]
        refine (ih hx').go ?_
        simp (disch := (first | assumption | omega | (simp only [List.length_append, List.length_cons, List.length_nil]; omega))) only [↓wD,wU,Nat.reduceBEq,zx150,zx151,zx159,zx160,zx161,zx162,Nat.reduceAdd,Nat.reduceSub,Nat.reduceMul,Nat.reduceLeDiff,Nat.reduceLT,Nat.reduceEqDiff,Int.reduceAdd,Int.reduceSub,Int.reduceMul,Int.reduceNeg,Int.reduceLT,Int.reduceLE,Int.reduceEq,Int.reduceToNat,Int.cast_ofNat_Int,↓reduceIte, a0, a1, a2, a3, a4, a5, a6, a7, a63, a64]
        exact ⟨K4, T4, hI5, x15, kb, wk5, pre4.cut⟩
      | false =>
        have hq5 : ∀ H6, Kx (fun b => b < B ∨ K4 b) H5 H6 → Q false K4 H6 := fun H6 h6 => (hq H6 (x45.trans h6 fun _ _ h => h)).2 rfl
        simp (disch := (first | assumption | omega | (simp only [List.length_append, List.length_cons, List.length_nil]; omega))) only [↓wD,wU,Nat.reduceBEq,zx150,zx151,zx159,zx160,zx161,zx162,Nat.reduceAdd,Nat.reduceSub,Nat.reduceMul,Nat.reduceLeDiff,Nat.reduceLT,Nat.reduceEqDiff,Int.reduceAdd,Int.reduceSub,Int.reduceMul,Int.reduceNeg,Int.reduceLT,Int.reduceLE,Int.reduceEq,Int.reduceToNat,Int.cast_ofNat_Int,↓reduceIte, a0, a1, a2, a3, a4, a5, a6, a7, a63, a64]
        exact ⟨false, K4, rfl, hq5, x15, kb, T4, wk5, pre4.cut⟩
    · simp (disch := (first | assumption | omega | (simp only [List.length_append, List.length_cons, List.length_nil]; omega))) only [↓wD,wU,Nat.reduceBEq,zx150,zx151,zx159,zx160,zx161,zx162,Nat.reduceAdd,Nat.reduceSub,Nat.reduceMul,Nat.reduceLeDiff,Nat.reduceLT,Nat.reduceEqDiff,Int.reduceAdd,Int.reduceSub,Int.reduceMul,Int.reduceNeg,Int.reduceLT,Int.reduceLE,Int.reduceEq,Int.reduceToNat,Int.cast_ofNat_Int,↓reduceIte]
      obtain rfl : x = N := by omega
      rw [List.drop_of_length_le (by simp)] at hI1
      exact ⟨true, K1, rfl, hI1, x1, hK1, T1, wk1, pre1⟩
  · simp (disch := (first | assumption | omega | (simp only [List.length_append, List.length_cons, List.length_nil]; omega))) only [↓wD,wU,Nat.reduceBEq,zx150,zx151,zx159,zx160,zx161,zx162,Nat.reduceAdd,Nat.reduceSub,Nat.reduceMul,Nat.reduceLeDiff,Nat.reduceLT,Nat.reduceEqDiff,Int.reduceAdd,Int.reduceSub,Int.reduceMul,Int.reduceNeg,Int.reduceLT,Int.reduceLE,Int.reduceEq,Int.reduceToNat,Int.cast_ofNat_Int,↓reduceIte]
    exact ⟨K, T, hI, Kx.refl _ _, fun b q => ⟨hK b q, fun _ => q⟩, wk, pre⟩
theorem grow_all (hlo : lo ≤ B) (hn : n ≤ 3) (hm : m ≤ 3) (hm1 : 1 ≤ m) (hrl : rows.length = n) (hcl : cols.length = m) (hrows : ∀ x ∈ rows, 0 ≤ x ∧ x ≤ 16) : ∀ rs, GrowA lo B n m bm bl bY bt bg tb R lb y rv cv lv rows cols rs := by
  intro rs
  induction rs with
  | nil => exact growA_nil hlo hn hm hm1 hrl
  | cons r rs ih =>
    have hB : ∀ cs, GrowB lo B n m bm bl bY bt bg tb R lb y rv cv lv rows cols rs cs := by
      intro cs
      induction cs with
      | nil => exact growB_nil hlo hn hm hrl hcl ih
      | cons cap cs ihc => exact growB_cons hlo hn hm hrl hcl ihc
    intro D L T K H Q hD hr hL fx wk pre hK hB' hI
    obtain ⟨q1, q2, q3⟩ := left_drop hr
    have h4 := hrows _ (mem_gi q1)
    have := hB L D [] (gi rows (D.length : Int)) L T K H Q (by simp at hD; omega) q3 (by simp) (by simp [wk.ll]) h4 hL fx wk pre hK hB' (by
      rw [q2]
      simp only [tabsL, List.map_flatMap, List.map_map] at hI
      simpa [Function.comp_def] using hI)
    exact this
end
end Go.Proofs.Ytflekaacffdakaa
namespace Go.Proofs.Ytflekaacffdakaa
open Go Go.AM Go.Proofs
/-- the rows that are laid already -/
def laidC (n m R i : Nat) : List AV := (List.range n).map fun a : Nat => if a < i then .s 1 (R + a) 0 m (some m) else .nils
theorem laidC_0 {n m R : Nat} : laidC n m R 0 = reps n [AV.nils] := by
  rw [reps_z]
  apply List.ext_getElem (by simp [laidC])
  intro i h1 h2
  simp [laidC]
theorem laidC_n {n m R : Nat} : laidC n m R n = (List.range n).map fun a : Nat => .s 1 (R + a) 0 m (some m) := by
  unfold laidC
  apply map_range_congr
  intro a ha
  rw [if_pos ha]
theorem laidC_set {n m R i : Nat} (hi : i < n) : (laidC n m R i).set i (.s 1 (R + i) 0 m (some m)) = laidC n m R (i + 1) := by
  unfold laidC
  rw [set_map_range]
  apply map_range_congr
  intro a ha
  by_cases e : a = i
  · subst e
    rw [if_pos rfl, if_pos (by omega)]
  · rw [if_neg e]
    by_cases h : a < i
    · rw [if_pos h, if_pos (by omega)]
    · rw [if_neg h, if_neg (by omega)]
theorem all_it {lo : Nat} {y rv cv : AV} {rows cols : List Int} {K : Nat → Prop} {H : Heap} {Q : Bool → (Nat → Prop) → Heap → Prop} (hlo : lo ≤ H.length) (hy : y.cells = [y] ∧ y.one = true)
    (hr : Sl (fun b => ¬ K b) H rv rows) (hc : Sl (fun b => ¬ K b) H cv cols) (hn1 : 1 ≤ rows.length) (hn : rows.length ≤ 3) (hm1 : 1 ≤ cols.length) (hm : cols.length ≤ 3) (hrows : ∀ x ∈ rows, 0 ≤ x ∧ x ≤ 16) (hcols : ∀ x ∈ cols, 0 ≤ x ∧ x ≤ 16) (hK : ∀ b, K b → b < H.length)
    (hI : Its E lo y H.length ArgT Q (tabsL rows cols) K H) : WpF E lo 80 [.ag [rv, cv], y] H fun _ H' => ∃ ok K', Q ok K' H' := by
  refine WpF.wrt rfl fn80 rfl ?_
  unfold f80A
  obtain ⟨n, en⟩ : ∃ n, rows.length = n := ⟨_, rfl⟩
  obtain ⟨m, em⟩ : ∃ m, cols.length = m := ⟨_, rfl⟩
  rw [en] at hn1 hn
  rw [em] at hm1 hm
  have hrv := hr.lenV
  rw [en] at hrv
  have hcv := hc.lenV
  rw [em] at hcv
  have k1 : mksliceV 1 24 [AV.nils] (.i (n : Int)) = some n := zx177 (by omega) (by omega)
  have k2 : mksliceV 1 8 [AV.int .i64 0] (.i (m : Int)) = some m := zx176 (by omega) (by omega)
  simp (disch := (first | assumption | omega | (simp only [List.length_append, List.length_cons, List.length_nil]; omega))) only [↓wD,wU,Nat.reduceBEq,zx150,zx151,zx159,zx160,zx161,zx162,Nat.reduceAdd,Nat.reduceSub,Nat.reduceMul,Nat.reduceLeDiff,Nat.reduceLT,Nat.reduceEqDiff,Int.reduceAdd,Int.reduceSub,Int.reduceMul,Int.reduceNeg,Int.reduceLT,Int.reduceLE,Int.reduceEq,Int.reduceToNat,Int.cast_ofNat_Int,↓reduceIte, hr.cellsV, hc.cellsV, hy.1, hy.2, hrv, k1]
  refine Wp.for n (fun i a H1 => a 2 = .p H.length 0 ∧ a 3 = .p (H.length + 1) 0 ∧ a 4 = .p (H.length + 3) 0 ∧ a 13 = .i n ∧ a 14 = .i i ∧ H1.length = H.length + 4 + i ∧ H1[H.length]? = some (.cells [rv, cv]) ∧ H1[H.length + 1]? = some (.cells [y]) ∧ H1[H.length + 2]? = some (.cells (laidC n m (H.length + 4) i)) ∧ H1[H.length + 3]? = some (.cells [.s 1 (H.length + 2) 0 n (some n)]) ∧ (∀ j, j < i → H1[H.length + 4 + j]? = some (.cells (reps m [AV.int .i64 0]))) ∧ Kx (fun b => b < H.length) H H1) ?_ ?_
  · rintro i a H1 hi ⟨a2, a3, a4, a13, a14, l1, g1, g2, g3, g4, g5, x1⟩ ih
    simp (disch := (first | assumption | omega | (simp only [List.length_append, List.length_cons, List.length_nil]; omega))) only [↓wD,wU,Nat.reduceBEq,zx150,zx151,zx159,zx160,zx161,zx162,Nat.reduceAdd,Nat.reduceSub,Nat.reduceMul,Nat.reduceLeDiff,Nat.reduceLT,Nat.reduceEqDiff,Int.reduceAdd,Int.reduceSub,Int.reduceMul,Int.reduceNeg,Int.reduceLT,Int.reduceLE,Int.reduceEq,Int.reduceToNat,Int.cast_ofNat_Int,↓reduceIte, a2, a3, a4, a13, a14]
    refine condP_split (fun hlt => ?_) (fun hlt => ?_)
    · have hi' : i < n := by omega
      have ia := zx178 (b := H.length + 2) (m := n) (c := some n) (k := i) hi'
      have hst : st lo (H1 ++ [Blk.cells (reps m [AV.int .i64 0])]) (H.length + 2) i [.s 1 H1.length 0 m (some m)] = some ((H1 ++ [Blk.cells (reps m [AV.int .i64 0])]).set (H.length + 2) (.cells (laidC n m (H.length + 4) (i + 1)))) := by
        rw [st_of (cs := laidC n m (H.length + 4) i) (by rw [List.getElem?_append_left (by omega)]; exact g3) (by omega) (by simp [laidC]; omega), ← laidC_set hi', l1]
        simp [wr]
      simp (disch := (first | assumption | omega | (simp only [List.length_append, List.length_cons, List.length_nil]; omega))) only [↓wD,wU,Nat.reduceBEq,zx150,zx151,zx159,zx160,zx161,zx162,Nat.reduceAdd,Nat.reduceSub,Nat.reduceMul,Nat.reduceLeDiff,Nat.reduceLT,Nat.reduceEqDiff,Int.reduceAdd,Int.reduceSub,Int.reduceMul,Int.reduceNeg,Int.reduceLT,Int.reduceLE,Int.reduceEq,Int.reduceToNat,Int.cast_ofNat_Int,↓reduceIte, a2, a3, a4, a13, a14, ld_of g4, ld_of g1, hcv, k2, ia, hst]
      refine (ih hi').go ?_
      simp (disch := (first | assumption | omega | (simp only [List.length_append, List.length_cons, List.length_nil]; omega))) only [↓wD,wU,Nat.reduceBEq,zx150,zx151,zx159,zx160,zx161,zx162,Nat.reduceAdd,Nat.reduceSub,Nat.reduceMul,Nat.reduceLeDiff,Nat.reduceLT,Nat.reduceEqDiff,Int.reduceAdd,Int.reduceSub,Int.reduceMul,Int.reduceNeg,Int.reduceLT,Int.reduceLE,Int.reduceEq,Int.reduceToNat,Int.cast_ofNat_Int,↓reduceIte, a2, a3, a4, a13, a14]
      have hge : ∀ b, b < H1.length → b ≠ H.length + 2 → ((H1 ++ [Blk.cells (reps m [AV.int .i64 0])]).set (H.length + 2) (Blk.cells (laidC n m (H.length + 4) (i + 1))))[b]? = H1[b]? := fun b hb hne => by rw [List.getElem?_set_ne (Ne.symm hne), List.getElem?_append_left hb]
      refine ⟨by simp; omega, by rw [hge _ (by omega) (by omega)]; exact g1, by rw [hge _ (by omega) (by omega)]; exact g2, by rw [List.getElem?_set_self (by simp; omega)], by rw [hge _ (by omega) (by omega)]; exact g4, fun j hj => ?_, (x1.app' _).set' (fun h => by omega) _⟩
      by_cases e : j = i
      · subst e
        rw [List.getElem?_set_ne (by omega), ← l1]
        simp
      · rw [hge _ (by omega) (by omega)]
        exact g5 j (by omega)
    · obtain rfl : n = i := by omega
      simp (disch := (first | assumption | omega | (simp only [List.length_append, List.length_cons, List.length_nil]; omega))) only [↓wD,wU,Nat.reduceBEq,zx150,zx151,zx159,zx160,zx161,zx162,Nat.reduceAdd,Nat.reduceSub,Nat.reduceMul,Nat.reduceLeDiff,Nat.reduceLT,Nat.reduceEqDiff,Int.reduceAdd,Int.reduceSub,Int.reduceMul,Int.reduceNeg,Int.reduceLT,Int.reduceLE,Int.reduceEq,Int.reduceToNat,Int.cast_ofNat_Int,↓reduceIte, a2, a3, a4, a13, a14, ld_of g1]
      refine (clone_ret ((hc.low.weak (q := fun b => b < H.length ∧ ¬ K b) fun b h => ⟨h.2, h.1⟩).kp (x1.weak fun b _ h => h.1).kp) (by omega)).toFX fun lv H2 x2 hlv => ?_
      have hne : cols ≠ [] := fun e => by rw [e] at em; simp at em; omega
      obtain ⟨lb, elb, hor⟩ := OR.of hlv hne
      have hlb := hlv.blkp elb
      have l2 := x2.1
      have rI := ((hr.low.weak (q := fun b => b < H.length ∧ ¬ K b) fun b h => ⟨h.2, h.1⟩).kp (x1.weak fun b _ h => h.1).kp).kp (x2.all _).kp
      clear ih
      obtain ⟨H3, eH3⟩ : ∃ H3, H2 ++ [Blk.cells [lv]] ++ [Blk.cells [AV.fn 100 [] [.p H.length 0, .p H2.length 0, .p (H.length + 1) 0, .p (H.length + 3) 0, .p (H2.length + 1) 0]]] = H3 := ⟨_, rfl⟩
      have x23 : Kx (fun _ => True) H2 H3 := by rw [← eH3]; exact (Kx.app _ _ _).app' _
      have x13 : Kx (fun _ => True) H1 H3 := x2.trans x23 fun _ _ _ => trivial
      have n3 : H3.length = H2.length + 2 := by rw [← eH3]; simp
      have f1 := x13.get trivial g1
      have f2 := x13.get trivial g2
      have f3 := x13.get trivial g3
      have f4 := x13.get trivial g4
      have f5 : H3[H2.length]? = some (.cells [lv]) := by rw [← eH3]; simp [List.getElem?_append]
      have f6 : H3[H2.length + 1]? = some (.cells [AV.fn 100 [] [.p H.length 0, .p H2.length 0, .p (H.length + 1) 0, .p (H.length + 3) 0, .p (H2.length + 1) 0]]) := by rw [← eH3]; simp [List.getElem?_append]
      rw [laidC_n] at f3
      have rI3 := (rI.kp (x23.all _).kp).I
      rw [en] at rI3
      simp (disch := (first | assumption | omega | (simp only [List.length_append, List.length_cons, List.length_nil]; omega))) only [↓wD,wU,Nat.reduceBEq,zx150,zx151,zx159,zx160,zx161,zx162,Nat.reduceAdd,Nat.reduceSub,Nat.reduceMul,Nat.reduceLeDiff,Nat.reduceLT,Nat.reduceEqDiff,Int.reduceAdd,Int.reduceSub,Int.reduceMul,Int.reduceNeg,Int.reduceLT,Int.reduceLE,Int.reduceEq,Int.reduceToNat,Int.cast_ofNat_Int,↓reduceIte, a2, a3, a4, hlv.cellsV, eH3, ld_of f1, ld_of f6, rI3]
      have hnw : ∀ b, b < H.length + 4 ∨ H1.length + 0 < b ∧ H2.length ≤ b → ¬ Wb n (H.length + 4) lb b := by
        rintro b h (e | e) <;> omega
      have hkH : ∀ b, H.length ≤ b → ¬ K b := fun b h q => by have := hK b q; omega
      have hlow : ∀ {v : AV} {xs : List Int}, Sl (fun b => ¬ K b) H v xs → Sl (fun b => ¬ K b ∧ ¬ Wb n (H.length + 4) lb b) H3 v xs := fun {v xs} h =>
        ((h.low.weak (q := fun b => b < H.length ∧ ¬ K b) fun b h => ⟨h.2, h.1⟩).kp ((x1.trans x13 fun _ _ _ => trivial).weak fun b _ h => h.1).kp).weak fun b h => ⟨h.2, hnw b (.inl (by omega))⟩
      have fx : Fx K H3 y rv cv lv rows cols n m H.length H2.length (H.length + 1) (H.length + 3) (H2.length + 1) (H.length + 2) (H.length + 4) lb :=
        ⟨⟨f1, hkH _ (by omega), hnw _ (by omega)⟩, ⟨f5, hkH _ (by omega), hnw _ (by omega)⟩, ⟨f2, hkH _ (by omega), hnw _ (by omega)⟩, ⟨f4, hkH _ (by omega), hnw _ (by omega)⟩, ⟨f3, hkH _ (by omega), hnw _ (by omega)⟩, ⟨f6, hkH _ (by omega), hnw _ (by omega)⟩, hlow hr, hlow hc⟩
      have hgr : ∀ a : Nat, a < n → gi (List.replicate n (List.replicate m (0 : Int))) (a : Int) = List.replicate m 0 := fun a ha => by rw [gi_nat (by simpa using ha)]; simp
      have wk : Wk H.length K H3 lv n m (H.length + 4) lb (List.replicate n (List.replicate m (0 : Int))) cols :=
        ⟨by simp, fun j hj => by rw [hgr j hj]; exact ⟨by rw [x13.get trivial (g5 j hj), reps_z]; simp, by simp, hkH _ (by omega)⟩, Rep.mono hor (x23.all _).kp fun b h => hkH b (by omega), em, by omega⟩
      have go := grow_all (y := y) hlo hn hm hm1 en em hrows rows [] cols _ K H3 Q (by simpa using en) (by simp) hcols fx wk ⟨fun a ha => by simp at ha, by simp⟩ (fun b q => by have := hK b q; omega) (by omega) (by
        have : (tabsL rows cols).map ([] ++ ·) = tabsL rows cols := by simp
        rw [this]
        exact hI.keep ((x1.trans x13 fun _ _ _ => trivial).weak fun b hb h => hb))
      change WpF E lo _ [.i 0, .i 0, .i (gi rows 0), _, _, _, _, _] H3 _ at go
      refine callvI (WpV.fn (us := []) (vs := [_, _, _]) (go.mono ?_))
      rintro u' H4 ⟨ok, K4, rfl, hq, _⟩
      simp (disch := (first | assumption | omega | (simp only [List.length_append, List.length_cons, List.length_nil]; omega))) only [↓wD,wU,Nat.reduceBEq,zx150,zx151,zx159,zx160,zx161,zx162,Nat.reduceAdd,Nat.reduceSub,Nat.reduceMul,Nat.reduceLeDiff,Nat.reduceLT,Nat.reduceEqDiff,Int.reduceAdd,Int.reduceSub,Int.reduceMul,Int.reduceNeg,Int.reduceLT,Int.reduceLE,Int.reduceEq,Int.reduceToNat,Int.cast_ofNat_Int,↓reduceIte]
      exact ⟨ok, K4, hq H4 (Kx.refl _ _)⟩
  · simp (disch := (first | assumption | omega | (simp only [List.length_append, List.length_cons, List.length_nil]; omega))) only [↓wD,wU,Nat.reduceBEq,zx150,zx151,zx159,zx160,zx161,zx162,Nat.reduceAdd,Nat.reduceSub,Nat.reduceMul,Nat.reduceLeDiff,Nat.reduceLT,Nat.reduceEqDiff,Int.reduceAdd,Int.reduceSub,Int.reduceMul,Int.reduceNeg,Int.reduceLT,Int.reduceLE,Int.reduceEq,Int.reduceToNat,Int.cast_ofNat_Int,↓reduceIte]
    refine ⟨by rw [laidC_0], fun j hj => by omega, (((Kx.app _ _ _).app' _).app' _).app' _⟩
end Go.Proofs.Ytflekaacffdakaa
namespace Go.Proofs.Ytflekaacffdakaa
open Go Go.AM Go.Proofs
def MgOk (xs : List Int) : Prop := 1 ≤ xs.length ∧ xs.length ≤ 3 ∧ OkN xs ∧ xs.sum ≤ 16
instance (xs : List Int) : Decidable (MgOk xs) := by unfold MgOk OkN; infer_instance
theorem flatMap_len {α β : Type} {b : Nat} {f : α → List β} : ∀ {l : List α}, (∀ x ∈ l, (f x).length ≤ b) → (l.flatMap f).length ≤ l.length * b
  | [], _ => by simp
  | x :: l, h => by
    rw [List.flatMap_cons, List.length_append, List.length_cons, Nat.add_mul, Nat.one_mul]
    have h1 := h x (by simp)
    have h2 := flatMap_len (l := l) fun y hy => h y (by simp [hy])
    omega
theorem lines_len : ∀ {cs : List Int} {need : Int}, need ≤ 16 → (lines cs need).length ≤ 17 ^ cs.length
  | [], need, _ => by
    unfold lines
    split <;> simp
  | c :: cs, need, h => by
    unfold lines
    refine Nat.le_trans (flatMap_len (b := 17 ^ cs.length) fun x hx => ?_) ?_
    · rw [List.length_map]
      exact lines_len (by omega)
    · rw [List.length_range, List.length_cons, Nat.pow_succ, Nat.mul_comm]
      exact Nat.mul_le_mul_left _ (by omega)
theorem tabsL_len : ∀ {rs L : List Int}, (∀ r ∈ rs, r ≤ 16) → L.length ≤ 3 → (tabsL rs L).length ≤ 4913 ^ rs.length
  | [], L, _, _ => by
    unfold tabsL
    split <;> simp
  | r :: rs, L, h, hl => by
    unfold tabsL
    refine Nat.le_trans (flatMap_len (b := 4913 ^ rs.length) fun x hx => ?_) ?_
    · rw [List.length_map]
      exact tabsL_len (fun r hr => h r (by simp [hr])) (by unfold subL; rw [List.length_zipWith]; omega)
    · rw [List.length_cons, Nat.pow_succ, Nat.mul_comm]
      refine Nat.mul_le_mul_left _ (Nat.le_trans (lines_len (h r (by simp))) ?_)
      have : 17 ^ L.length ≤ 17 ^ 3 := Nat.pow_le_pow_right (by omega) hl
      omega
theorem MgOk.el {xs : List Int} (h : MgOk xs) : ∀ x ∈ xs, 0 ≤ x ∧ x ≤ 16 := h.2.2.1
theorem MgOk.len {xs ys : List Int} (h : MgOk xs) (h' : MgOk ys) : (tabsL xs ys).length ≤ 118587876497 := by
  refine Nat.le_trans (tabsL_len (fun r hr => (h.el r hr).2) h'.2.1) ?_
  have : 4913 ^ xs.length ≤ 4913 ^ 3 := Nat.pow_le_pow_right (by omega) h.2.1
  omega
theorem gset {b : Nat} {H H2 : Heap} {k k' : Blk} (e : H.set b k = H2) (h : H[b]? = some k') : H2[b]? = some k := by rw [← e]; exact get_set h
theorem argT_len : ∀ (Ki : Nat → Prop) (H1 : Heap) (args : List AV) (x : List (List Int)), ArgT Ki H1 args x → args.length = 1 := by rintro _ _ _ _ ⟨u, rfl, _⟩; rfl
theorem count_ret {p q : Nat → Prop} {H : Heap} {v w : AV} {xs ys : List Int} (hx : Sl p H v xs) (hy : Sl q H w ys) : RetP E 38 [v, w] H (if MgOk xs ∧ MgOk ys then .tp [.i (tabsL xs ys).length, .i 0] else .tp [.i 0, .i 2]) := by
  refine RetP.ro rfl fn38 rfl (by split <;> rfl) ?_
  unfold f38A
  have hx0 : Sl (fun b => b < H.length) H v xs := hx.low.weak fun _ h => h.2
  have hy0 : Sl (fun b => b < H.length) H w ys := hy.low.weak fun _ h => h.2
  have hb1 := hx.bound
  have hb2 := hy.bound
  simp (disch := (first | assumption | omega | (simp only [List.length_append, List.length_cons, List.length_nil]; omega))) only [↓wD,wU,Nat.reduceBEq,zx150,zx151,zx159,zx160,zx161,zx162,Nat.reduceAdd,Nat.reduceSub,Nat.reduceMul,Nat.reduceLeDiff,Nat.reduceLT,Nat.reduceEqDiff,Int.reduceAdd,Int.reduceSub,Int.reduceMul,Int.reduceNeg,Int.reduceLT,Int.reduceLE,Int.reduceEq,Int.reduceToNat,Int.cast_ofNat_Int,↓reduceIte, hx.cellsV, hy.cellsV]
  have hx1 := hx.app [.cells [v, w]]
  have hy1 := hy.app [.cells [v, w]]
  refine Wp.for 2 (fun i a H' => a 0 = v ∧ a 1 = w ∧ a 11 = .s 1 H.length 0 2 (some 2) ∧ a 12 = .i 2 ∧ a 13 = .i i ∧ H' = H ++ [.cells [v, w]] ∧ (0 < i → MgOk xs) ∧ (1 < i → MgOk ys)) ?_ ?_
  · rintro i a H' hi ⟨a0, a1, a11, a12, a13, rfl, k1, k2⟩ ih
    obtain rfl | rfl | rfl : i = 0 ∨ i = 1 ∨ i = 2 := by omega
    · have hl : (if MgOk xs then True else False) ↔ MgOk xs := by split <;> simp_all
      by_cases h : MgOk xs
      · have e1 : decide ((xs.length : Int) < 1) = false := decide_eq_false (by have := h.1; omega)
        have e2 : decide (3 < (xs.length : Int)) = false := decide_eq_false (by have := h.2.1; omega)
        have s := isSums_ret hx1 (by have := h.2.1; omega)
        rw [decide_eq_true h.2.2] at s
        simp (disch := (first | assumption | omega | (simp only [List.length_append, List.length_cons, List.length_nil]; omega))) only [↓wD,wU,Nat.reduceBEq,zx150,zx151,zx159,zx160,zx161,zx162,Nat.reduceAdd,Nat.reduceSub,Nat.reduceMul,Nat.reduceLeDiff,Nat.reduceLT,Nat.reduceEqDiff,Int.reduceAdd,Int.reduceSub,Int.reduceMul,Int.reduceNeg,Int.reduceLT,Int.reduceLE,Int.reduceEq,Int.reduceToNat,Int.cast_ofNat_Int,↓reduceIte, a0, a1, a11, a12, a13, hx1.I, s.call, e1, e2]
        refine (ih (by omega)).go ?_
        simp (disch := (first | assumption | omega | (simp only [List.length_append, List.length_cons, List.length_nil]; omega))) only [↓wD,wU,Nat.reduceBEq,zx150,zx151,zx159,zx160,zx161,zx162,Nat.reduceAdd,Nat.reduceSub,Nat.reduceMul,Nat.reduceLeDiff,Nat.reduceLT,Nat.reduceEqDiff,Int.reduceAdd,Int.reduceSub,Int.reduceMul,Int.reduceNeg,Int.reduceLT,Int.reduceLE,Int.reduceEq,Int.reduceToNat,Int.cast_ofNat_Int,↓reduceIte, a0, a1, a11, a12, a13]
        exact ⟨fun _ => h, fun q => q.elim⟩
      · rw [if_neg (fun q => h q.1)]
        by_cases e1 : (xs.length : Int) < 1
        · simp (disch := (first | assumption | omega | (simp only [List.length_append, List.length_cons, List.length_nil]; omega))) only [↓wD,wU,Nat.reduceBEq,zx150,zx151,zx159,zx160,zx161,zx162,Nat.reduceAdd,Nat.reduceSub,Nat.reduceMul,Nat.reduceLeDiff,Nat.reduceLT,Nat.reduceEqDiff,Int.reduceAdd,Int.reduceSub,Int.reduceMul,Int.reduceNeg,Int.reduceLT,Int.reduceLE,Int.reduceEq,Int.reduceToNat,Int.cast_ofNat_Int,↓reduceIte, a0, a1, a11, a12, a13, hx1.I, decide_eq_true e1]
        · by_cases e2 : 3 < (xs.length : Int)
          · simp (disch := (first | assumption | omega | (simp only [List.length_append, List.length_cons, List.length_nil]; omega))) only [↓wD,wU,Nat.reduceBEq,zx150,zx151,zx159,zx160,zx161,zx162,Nat.reduceAdd,Nat.reduceSub,Nat.reduceMul,Nat.reduceLeDiff,Nat.reduceLT,Nat.reduceEqDiff,Int.reduceAdd,Int.reduceSub,Int.reduceMul,Int.reduceNeg,Int.reduceLT,Int.reduceLE,Int.reduceEq,Int.reduceToNat,Int.cast_ofNat_Int,↓reduceIte, a0, a1, a11, a12, a13, hx1.I, decide_eq_false e1, decide_eq_true e2]
          · have s := isSums_ret hx1 (by omega)
            rw [decide_eq_false (fun q => h ⟨by omega, by omega, q⟩)] at s
            simp (disch := (first | assumption | omega | (simp only [List.length_append, List.length_cons, List.length_nil]; omega))) only [↓wD,wU,Nat.reduceBEq,zx150,zx151,zx159,zx160,zx161,zx162,Nat.reduceAdd,Nat.reduceSub,Nat.reduceMul,Nat.reduceLeDiff,Nat.reduceLT,Nat.reduceEqDiff,Int.reduceAdd,Int.reduceSub,Int.reduceMul,Int.reduceNeg,Int.reduceLT,Int.reduceLE,Int.reduceEq,Int.reduceToNat,Int.cast_ofNat_Int,↓reduceIte, a0, a1, a11, a12, a13, hx1.I, decide_eq_false e1, decide_eq_false e2, s.call]
    · have h0 := k1 (by omega)
      by_cases h : MgOk ys
      · have e1 : decide ((ys.length : Int) < 1) = false := decide_eq_false (by have := h.1; omega)
        have e2 : decide (3 < (ys.length : Int)) = false := decide_eq_false (by have := h.2.1; omega)
        have s := isSums_ret hy1 (by have := h.2.1; omega)
        rw [decide_eq_true h.2.2] at s
        simp (disch := (first | assumption | omega | (simp only [List.length_append, List.length_cons, List.length_nil]; omega))) only [↓wD,wU,Nat.reduceBEq,zx150,zx151,zx159,zx160,zx161,zx162,Nat.reduceAdd,Nat.reduceSub,Nat.reduceMul,Nat.reduceLeDiff,Nat.reduceLT,Nat.reduceEqDiff,Int.reduceAdd,Int.reduceSub,Int.reduceMul,Int.reduceNeg,Int.reduceLT,Int.reduceLE,Int.reduceEq,Int.reduceToNat,Int.cast_ofNat_Int,↓reduceIte, a0, a1, a11, a12, a13, hy1.I, s.call, e1, e2]
        refine (ih (by omega)).go ?_
        simp (disch := (first | assumption | omega | (simp only [List.length_append, List.length_cons, List.length_nil]; omega))) only [↓wD,wU,Nat.reduceBEq,zx150,zx151,zx159,zx160,zx161,zx162,Nat.reduceAdd,Nat.reduceSub,Nat.reduceMul,Nat.reduceLeDiff,Nat.reduceLT,Nat.reduceEqDiff,Int.reduceAdd,Int.reduceSub,Int.reduceMul,Int.reduceNeg,Int.reduceLT,Int.reduceLE,Int.reduceEq,Int.reduceToNat,Int.cast_ofNat_Int,↓reduceIte, a0, a1, a11, a12, a13]
        exact ⟨fun _ => h0, fun _ => h⟩
      · rw [if_neg (fun q => h q.2)]
        by_cases e1 : (ys.length : Int) < 1
        · simp (disch := (first | assumption | omega | (simp only [List.length_append, List.length_cons, List.length_nil]; omega))) only [↓wD,wU,Nat.reduceBEq,zx150,zx151,zx159,zx160,zx161,zx162,Nat.reduceAdd,Nat.reduceSub,Nat.reduceMul,Nat.reduceLeDiff,Nat.reduceLT,Nat.reduceEqDiff,Int.reduceAdd,Int.reduceSub,Int.reduceMul,Int.reduceNeg,Int.reduceLT,Int.reduceLE,Int.reduceEq,Int.reduceToNat,Int.cast_ofNat_Int,↓reduceIte, a0, a1, a11, a12, a13, hy1.I, decide_eq_true e1]
        · by_cases e2 : 3 < (ys.length : Int)
          · simp (disch := (first | assumption | omega | (simp only [List.length_append, List.length_cons, List.length_nil]; omega))) only [↓wD,wU,Nat.reduceBEq,zx150,zx151,zx159,zx160,zx161,zx162,Nat.reduceAdd,Nat.reduceSub,Nat.reduceMul,Nat.reduceLeDiff,Nat.reduceLT,Nat.reduceEqDiff,Int.reduceAdd,Int.reduceSub,Int.reduceMul,Int.reduceNeg,Int.reduceLT,Int.reduceLE,Int.reduceEq,Int.reduceToNat,Int.cast_ofNat_Int,↓reduceIte, a0, a1, a11, a12, a13, hy1.I, decide_eq_false e1, decide_eq_true e2]
          · have s := isSums_ret hy1 (by omega)
            rw [decide_eq_false (fun q => h ⟨by omega, by omega, q⟩)] at s
            simp (disch := (first | assumption | omega | (simp only [List.length_append, List.length_cons, List.length_nil]; omega))) only [↓wD,wU,Nat.reduceBEq,zx150,zx151,zx159,zx160,zx161,zx162,Nat.reduceAdd,Nat.reduceSub,Nat.reduceMul,Nat.reduceLeDiff,Nat.reduceLT,Nat.reduceEqDiff,Int.reduceAdd,Int.reduceSub,Int.reduceMul,Int.reduceNeg,Int.reduceLT,Int.reduceLE,Int.reduceEq,Int.reduceToNat,Int.cast_ofNat_Int,↓reduceIte, a0, a1, a11, a12, a13, hy1.I, decide_eq_false e1, decide_eq_false e2, s.call]
    · have h1 := k1 (by omega)
      have h2 := k2 (by omega)
      rw [if_pos ⟨h1, h2⟩]
      have hlen := h1.len h2
      obtain ⟨N, hN⟩ : ∃ N, (tabsL xs ys).length = N := ⟨_, rfl⟩
      rw [hN] at hlen ⊢
      obtain ⟨Hr, eHr⟩ : ∃ Hr, H ++ [.cells [v, w]] ++ [Blk.cells [.i 0]] = Hr := ⟨_, rfl⟩
      have x0 : Kx (fun _ => True) H Hr := by rw [← eHr]; exact (Kx.app _ _ _).app' _
      have nr : Hr.length = H.length + 2 := by rw [← eHr]; simp
      have c0 : Hr[H.length + 1]? = some (.cells [.i 0]) := by rw [← eHr]; simp [List.getElem?_append]
      have hst : st H.length Hr (H.length + 1) 0 [.i 0] = some Hr := by
        rw [st_of c0 (by omega) (by simp)]
        congr 1
        rw [← eHr]
        simp [wr, List.set_append]
      clear ih k1 k2 hx1 hy1
      simp (disch := (first | assumption | omega | (simp only [List.length_append, List.length_cons, List.length_nil]; omega))) only [↓wD,wU,Nat.reduceBEq,zx150,zx151,zx159,zx160,zx161,zx162,Nat.reduceAdd,Nat.reduceSub,Nat.reduceMul,Nat.reduceLeDiff,Nat.reduceLT,Nat.reduceEqDiff,Int.reduceAdd,Int.reduceSub,Int.reduceMul,Int.reduceNeg,Int.reduceLT,Int.reduceLE,Int.reduceEq,Int.reduceToNat,Int.cast_ofNat_Int,↓reduceIte, a0, a1, a11, a12, a13, hx.cellsV, hy.cellsV, eHr, hst]
      refine Wp.range (A := ArgT) (tabsL xs ys) (fun b => b = H.length + 1) (fun i K H1 => H1[H.length + 1]? = some (.cells [.i i])) (fun j K H1 => False) (by (simp (disch := (first | assumption | omega | (simp only [List.length_append, List.length_cons, List.length_nil]; omega))) only [↓wD,wU,Nat.reduceBEq,zx150,zx151,zx159,zx160,zx161,zx162,Nat.reduceAdd,Nat.reduceSub,Nat.reduceMul,Nat.reduceLeDiff,Nat.reduceLT,Nat.reduceEqDiff,Int.reduceAdd,Int.reduceSub,Int.reduceMul,Int.reduceNeg,Int.reduceLT,Int.reduceLE,Int.reduceEq,Int.reduceToNat,Int.cast_ofNat_Int,↓reduceIte]) <;> rfl) rfl (by omega) (fun b h => by omega) argT_len ?_ ?_ ?_ ?_ ?_ ?_ ?_
      · intro K' H1 Q' e hx' hK' hI
        rw [← e] at hI
        have hn : ∀ b, b < H.length → ¬ K' b := fun b hb q => by
          rcases (hK' b).1 q with q | q <;> omega
        have xx := x0.trans hx' fun _ _ _ => trivial
        exact all_it (by omega) ⟨rfl, rfl⟩ ((hx0.kp (xx.all _).kp).weak hn) ((hy0.kp (xx.all _).kp).weak hn) h1.1 h1.2.1 h2.1 h2.2.1 h1.el h2.el (fun b q => by rcases (hK' b).1 q with q | q <;> omega) hI
      · exact fun i K H1 H2 h hx => hx.get (.inl (by omega)) h
      · exact fun j K H1 H2 h hx => h.elim
      · exact c0
      · rintro i hi K Ki args H1 q4 ⟨u, rfl, hu⟩ hKi hK hx hl1 hlr hKK
        simp (disch := (first | assumption | omega | (simp only [List.length_append, List.length_cons, List.length_nil]; omega))) only [↓wD,wU,Nat.reduceBEq,zx150,zx151,zx159,zx160,zx161,zx162,Nat.reduceAdd,Nat.reduceSub,Nat.reduceMul,Nat.reduceLeDiff,Nat.reduceLT,Nat.reduceEqDiff,Int.reduceAdd,Int.reduceSub,Int.reduceMul,Int.reduceNeg,Int.reduceLT,Int.reduceLE,Int.reduceEq,Int.reduceToNat,Int.cast_ofNat_Int,↓reduceIte, zx188 (lo := H.length) hlr (by omega), zx189, zx190]
        generalize e2 : H1.set Hr.length _ = H2
        have x12 : Kx (fun b => b ≠ Hr.length) H1 H2 := by rw [← e2]; exact Kx.set _ _ _
        have gl := gset e2 hlr
        have r4 := x12.get (by omega) q4
        have kc1 := (hKK (H.length + 1) (by omega)).2 rfl
        clear e2
        have hi' : i < N := by omega
        have hst2 : st H.length H2 (H.length + 1) 0 [.i (i + 1)] = some (H2.set (H.length + 1) (.cells [.i (i + 1)])) := by
          rw [st_of r4 (by omega) (by simp)]; simp [wr]
        simp (disch := (first | assumption | omega | (simp only [List.length_append, List.length_cons, List.length_nil]; omega))) only [↓wD,wU,Nat.reduceBEq,zx150,zx151,zx159,zx160,zx161,zx162,Nat.reduceAdd,Nat.reduceSub,Nat.reduceMul,Nat.reduceLeDiff,Nat.reduceLT,Nat.reduceEqDiff,Int.reduceAdd,Int.reduceSub,Int.reduceMul,Int.reduceNeg,Int.reduceLT,Int.reduceLE,Int.reduceEq,Int.reduceToNat,Int.cast_ofNat_Int,↓reduceIte, ld_of r4, hst2]
        refine ⟨?_, ?_, get_set r4⟩
        · rw [List.getElem?_set_ne (by omega)]; exact gl
        · exact (x12.weak fun b _ h => h.2).set' (fun _ h => h.1 (.inl kc1)) _
      · rintro K H1 q4 hx hl1
        rw [hN] at q4
        simp (disch := (first | assumption | omega | (simp only [List.length_append, List.length_cons, List.length_nil]; omega))) only [↓wD,wU,Nat.reduceBEq,zx150,zx151,zx159,zx160,zx161,zx162,Nat.reduceAdd,Nat.reduceSub,Nat.reduceMul,Nat.reduceLeDiff,Nat.reduceLT,Nat.reduceEqDiff,Int.reduceAdd,Int.reduceSub,Int.reduceMul,Int.reduceNeg,Int.reduceLT,Int.reduceLE,Int.reduceEq,Int.reduceToNat,Int.cast_ofNat_Int,↓reduceIte, ld_of q4]
      · exact fun j K H' h _ _ => h.elim
  · simp (disch := (first | assumption | omega | (simp only [List.length_append, List.length_cons, List.length_nil]; omega))) only [↓wD,wU,Nat.reduceBEq,zx150,zx151,zx159,zx160,zx161,zx162,Nat.reduceAdd,Nat.reduceSub,Nat.reduceMul,Nat.reduceLeDiff,Nat.reduceLT,Nat.reduceEqDiff,Int.reduceAdd,Int.reduceSub,Int.reduceMul,Int.reduceNeg,Int.reduceLT,Int.reduceLE,Int.reduceEq,Int.reduceToNat,Int.cast_ofNat_Int,↓reduceIte]
    exact ⟨fun q => q.elim, fun q => q.elim⟩
end Go.Proofs.Ytflekaacffdakaa
namespace Go.Proofs.Ytflekaacffdakaa
open Go Go.AM Go.Proofs
theorem cnt_no {β : Type} {f : Nat → List β} {N : Nat} (h : ∀ x, x < N → f x = []) : (List.range N).flatMap f = [] := by
  rw [List.flatMap_eq_nil_iff]
  intro x hx
  exact h x (List.mem_range.1 hx)
theorem lines1 {r d : Nat} : lines [(d : Int)] (r : Int) = if r ≤ d then [[(r : Int)]] else [] := by
  unfold lines
  unfold lines
  by_cases h : r ≤ d
  · rw [if_pos h, show (min (r : Int) d + 1).toNat = r + 1 by omega, List.range_succ, List.flatMap_append, cnt_no fun x hx => by rw [if_pos (by omega)]; rfl]
    simp
  · rw [if_neg h]
    exact cnt_no fun x hx => by rw [if_pos (by omega)]; rfl
end Go.Proofs.Ytflekaacffdakaa
namespace Go.Proofs.Ytflekaacffdakaa
open Go Go.AM Go.Proofs
theorem total_ret {p : Nat → Prop} {H : Heap} {v : AV} {xs : List Int} (hx : Sl p H v xs) (hs : ∀ x ∈ xs, 0 ≤ x ∧ x ≤ 1000) (hl : xs.length ≤ 1000) : RetP E 77 [v] H (.i xs.sum) := by
  refine RetP.ro rfl fn77 rfl rfl ?_
  unfold f77A
  simp (disch := (first | assumption | omega | (simp only [List.length_append, List.length_cons, List.length_nil]; omega))) only [↓wD,wU,Nat.reduceBEq,zx150,zx151,zx159,zx160,zx161,zx162,Nat.reduceAdd,Nat.reduceSub,Nat.reduceMul,Nat.reduceLeDiff,Nat.reduceLT,Nat.reduceEqDiff,Int.reduceAdd,Int.reduceSub,Int.reduceMul,Int.reduceNeg,Int.reduceLT,Int.reduceLE,Int.reduceEq,Int.reduceToNat,Int.cast_ofNat_Int,↓reduceIte, *, hx.I]
  refine Wp.for xs.length (fun i a H' => H' = H ∧ a 6 = v ∧ a 7 = .i xs.length ∧ a 8 = .i i ∧ a 3 = .i (xs.take i).sum ∧ 0 ≤ (xs.take i).sum ∧ (xs.take i).sum ≤ 1000 * i) ?_ ?_
  · rintro i a H' hi ⟨rfl, a6, a7, a8, a3, b1, b2⟩ ih
    simp (disch := (first | assumption | omega | (simp only [List.length_append, List.length_cons, List.length_nil]; omega))) only [↓wD,wU,Nat.reduceBEq,zx150,zx151,zx159,zx160,zx161,zx162,Nat.reduceAdd,Nat.reduceSub,Nat.reduceMul,Nat.reduceLeDiff,Nat.reduceLT,Nat.reduceEqDiff,Int.reduceAdd,Int.reduceSub,Int.reduceMul,Int.reduceNeg,Int.reduceLT,Int.reduceLE,Int.reduceEq,Int.reduceToNat,Int.cast_ofNat_Int,↓reduceIte, *]
    refine condP_split (fun hlt => ?_) (fun hlt => ?_)
    · have hi' : i < xs.length := by omega
      have hg := hs _ (mem_gi hi')
      have e := sum_take hi'
      simp (disch := (first | assumption | omega | (simp only [List.length_append, List.length_cons, List.length_nil]; omega))) only [↓wD,wU,Nat.reduceBEq,zx150,zx151,zx159,zx160,zx161,zx162,Nat.reduceAdd,Nat.reduceSub,Nat.reduceMul,Nat.reduceLeDiff,Nat.reduceLT,Nat.reduceEqDiff,Int.reduceAdd,Int.reduceSub,Int.reduceMul,Int.reduceNeg,Int.reduceLT,Int.reduceLE,Int.reduceEq,Int.reduceToNat,Int.cast_ofNat_Int,↓reduceIte, *, hx.I]
      refine (ih hi').go ⟨rfl, ?_⟩
      simp (disch := (first | assumption | omega | (simp only [List.length_append, List.length_cons, List.length_nil]; omega))) only [↓wD,wU,Nat.reduceBEq,zx150,zx151,zx159,zx160,zx161,zx162,Nat.reduceAdd,Nat.reduceSub,Nat.reduceMul,Nat.reduceLeDiff,Nat.reduceLT,Nat.reduceEqDiff,Int.reduceAdd,Int.reduceSub,Int.reduceMul,Int.reduceNeg,Int.reduceLT,Int.reduceLE,Int.reduceEq,Int.reduceToNat,Int.cast_ofNat_Int,↓reduceIte, *]
      omega
    · obtain rfl : i = xs.length := by omega
      rw [List.take_length] at a3
      simp (disch := (first | assumption | omega | (simp only [List.length_append, List.length_cons, List.length_nil]; omega))) only [↓wD,wU,Nat.reduceBEq,zx150,zx151,zx159,zx160,zx161,zx162,Nat.reduceAdd,Nat.reduceSub,Nat.reduceMul,Nat.reduceLeDiff,Nat.reduceLT,Nat.reduceEqDiff,Int.reduceAdd,Int.reduceSub,Int.reduceMul,Int.reduceNeg,Int.reduceLT,Int.reduceLE,Int.reduceEq,Int.reduceToNat,Int.cast_ofNat_Int,↓reduceIte, *]
  · (simp (disch := (first | assumption | omega | (simp only [List.length_append, List.length_cons, List.length_nil]; omega))) only [↓wD,wU,Nat.reduceBEq,zx150,zx151,zx159,zx160,zx161,zx162,Nat.reduceAdd,Nat.reduceSub,Nat.reduceMul,Nat.reduceLeDiff,Nat.reduceLT,Nat.reduceEqDiff,Int.reduceAdd,Int.reduceSub,Int.reduceMul,Int.reduceNeg,Int.reduceLT,Int.reduceLE,Int.reduceEq,Int.reduceToNat,Int.cast_ofNat_Int,↓reduceIte, *]) <;> simp
end Go.Proofs.Ytflekaacffdakaa
namespace Go.Proofs.Ytflekaacffdakaa
open Go Go.AM Go.Proofs
theorem margin_ret {p : Nat → Prop} {H : Heap} {v : AV} {xs : List Int} (hx : Sl p H v xs) : RetP E 40 [v] H (.b (decide (MgOk xs))) := by
  refine RetP.ro rfl fn40 rfl rfl ?_
  unfold f40A
  have hb := hx.bound
  have xL := hx.I
  simp (disch := (first | assumption | omega | (simp only [List.length_append, List.length_cons, List.length_nil]; omega))) only [↓wD,wU,Nat.reduceBEq,zx150,zx151,zx159,zx160,zx161,zx162,Nat.reduceAdd,Nat.reduceSub,Nat.reduceMul,Nat.reduceLeDiff,Nat.reduceLT,Nat.reduceEqDiff,Int.reduceAdd,Int.reduceSub,Int.reduceMul,Int.reduceNeg,Int.reduceLT,Int.reduceLE,Int.reduceEq,Int.reduceToNat,Int.cast_ofNat_Int,↓reduceIte, xL]
  refine Wp.for xs.length (fun i a H' => H' = H ∧ a 0 = v ∧ a 5 = v ∧ a 6 = .i xs.length ∧ a 7 = .i i ∧ ∀ x ∈ xs.take i, 0 ≤ x ∧ x ≤ 16) ?_ ?_
  · rintro i a H' hi ⟨rfl, a0, a5, a6, a7, hh⟩ ih
    simp (disch := (first | assumption | omega | (simp only [List.length_append, List.length_cons, List.length_nil]; omega))) only [↓wD,wU,Nat.reduceBEq,zx150,zx151,zx159,zx160,zx161,zx162,Nat.reduceAdd,Nat.reduceSub,Nat.reduceMul,Nat.reduceLeDiff,Nat.reduceLT,Nat.reduceEqDiff,Int.reduceAdd,Int.reduceSub,Int.reduceMul,Int.reduceNeg,Int.reduceLT,Int.reduceLE,Int.reduceEq,Int.reduceToNat,Int.cast_ofNat_Int,↓reduceIte, a0, a5, a6, a7]
    refine condP_split (fun hlt => ?_) (fun hlt => ?_)
    · have hi' : i < xs.length := by omega
      by_cases h1 : gi xs (i : Int) < 0
      · have hm : decide (MgOk xs) = false := decide_eq_false fun h => by have := h.el _ (mem_gi hi'); omega
        simp (disch := (first | assumption | omega | (simp only [List.length_append, List.length_cons, List.length_nil]; omega))) only [↓wD,wU,Nat.reduceBEq,zx150,zx151,zx159,zx160,zx161,zx162,Nat.reduceAdd,Nat.reduceSub,Nat.reduceMul,Nat.reduceLeDiff,Nat.reduceLT,Nat.reduceEqDiff,Int.reduceAdd,Int.reduceSub,Int.reduceMul,Int.reduceNeg,Int.reduceLT,Int.reduceLE,Int.reduceEq,Int.reduceToNat,Int.cast_ofNat_Int,↓reduceIte, a0, a5, a6, a7, xL, decide_eq_true h1, hm]
      · by_cases h2 : 16 < gi xs (i : Int)
        · have hm : decide (MgOk xs) = false := decide_eq_false fun h => by have := h.el _ (mem_gi hi'); omega
          simp (disch := (first | assumption | omega | (simp only [List.length_append, List.length_cons, List.length_nil]; omega))) only [↓wD,wU,Nat.reduceBEq,zx150,zx151,zx159,zx160,zx161,zx162,Nat.reduceAdd,Nat.reduceSub,Nat.reduceMul,Nat.reduceLeDiff,Nat.reduceLT,Nat.reduceEqDiff,Int.reduceAdd,Int.reduceSub,Int.reduceMul,Int.reduceNeg,Int.reduceLT,Int.reduceLE,Int.reduceEq,Int.reduceToNat,Int.cast_ofNat_Int,↓reduceIte, a0, a5, a6, a7, xL, decide_eq_false h1, decide_eq_true h2, hm]
        · have hh2 := mem_take_gi hh hi' ⟨by omega, by omega⟩
          simp (disch := (first | assumption | omega | (simp only [List.length_append, List.length_cons, List.length_nil]; omega))) only [↓wD,wU,Nat.reduceBEq,zx150,zx151,zx159,zx160,zx161,zx162,Nat.reduceAdd,Nat.reduceSub,Nat.reduceMul,Nat.reduceLeDiff,Nat.reduceLT,Nat.reduceEqDiff,Int.reduceAdd,Int.reduceSub,Int.reduceMul,Int.reduceNeg,Int.reduceLT,Int.reduceLE,Int.reduceEq,Int.reduceToNat,Int.cast_ofNat_Int,↓reduceIte, a0, a5, a6, a7, xL, decide_eq_false h1, decide_eq_false h2]
          refine (ih hi').go ⟨rfl, ?_⟩
          simp (disch := (first | assumption | omega | (simp only [List.length_append, List.length_cons, List.length_nil]; omega))) only [↓wD,wU,Nat.reduceBEq,zx150,zx151,zx159,zx160,zx161,zx162,Nat.reduceAdd,Nat.reduceSub,Nat.reduceMul,Nat.reduceLeDiff,Nat.reduceLT,Nat.reduceEqDiff,Int.reduceAdd,Int.reduceSub,Int.reduceMul,Int.reduceNeg,Int.reduceLT,Int.reduceLE,Int.reduceEq,Int.reduceToNat,Int.cast_ofNat_Int,↓reduceIte, a0, a5, a6, a7]
          exact hh2
    · have hall := mem_take_all hh (by omega)
      clear hh ih
      by_cases h1 : 1 ≤ (xs.length : Int)
      · by_cases h2 : (xs.length : Int) ≤ 3
        · have ht := total_ret hx (fun x hx => by have := hall x hx; omega) (by omega)
          by_cases h3 : xs.sum ≤ 16
          · have hm : decide (MgOk xs) = true := decide_eq_true ⟨by omega, by omega, hall, h3⟩
            simp (disch := (first | assumption | omega | (simp only [List.length_append, List.length_cons, List.length_nil]; omega))) only [↓wD,wU,Nat.reduceBEq,zx150,zx151,zx159,zx160,zx161,zx162,Nat.reduceAdd,Nat.reduceSub,Nat.reduceMul,Nat.reduceLeDiff,Nat.reduceLT,Nat.reduceEqDiff,Int.reduceAdd,Int.reduceSub,Int.reduceMul,Int.reduceNeg,Int.reduceLT,Int.reduceLE,Int.reduceEq,Int.reduceToNat,Int.cast_ofNat_Int,↓reduceIte, a0, a5, a6, a7, xL, decide_eq_true h1, decide_eq_true h2, ht.call, decide_eq_true h3, hm]
          · have hm : decide (MgOk xs) = false := decide_eq_false fun h => h3 h.2.2.2
            simp (disch := (first | assumption | omega | (simp only [List.length_append, List.length_cons, List.length_nil]; omega))) only [↓wD,wU,Nat.reduceBEq,zx150,zx151,zx159,zx160,zx161,zx162,Nat.reduceAdd,Nat.reduceSub,Nat.reduceMul,Nat.reduceLeDiff,Nat.reduceLT,Nat.reduceEqDiff,Int.reduceAdd,Int.reduceSub,Int.reduceMul,Int.reduceNeg,Int.reduceLT,Int.reduceLE,Int.reduceEq,Int.reduceToNat,Int.cast_ofNat_Int,↓reduceIte, a0, a5, a6, a7, xL, decide_eq_true h1, decide_eq_true h2, ht.call, decide_eq_false h3, hm]
        · have hm : decide (MgOk xs) = false := decide_eq_false fun h => by have := h.2.1; omega
          simp (disch := (first | assumption | omega | (simp only [List.length_append, List.length_cons, List.length_nil]; omega))) only [↓wD,wU,Nat.reduceBEq,zx150,zx151,zx159,zx160,zx161,zx162,Nat.reduceAdd,Nat.reduceSub,Nat.reduceMul,Nat.reduceLeDiff,Nat.reduceLT,Nat.reduceEqDiff,Int.reduceAdd,Int.reduceSub,Int.reduceMul,Int.reduceNeg,Int.reduceLT,Int.reduceLE,Int.reduceEq,Int.reduceToNat,Int.cast_ofNat_Int,↓reduceIte, a0, a5, a6, a7, xL, decide_eq_true h1, decide_eq_false h2, hm]
      · have hm : decide (MgOk xs) = false := decide_eq_false fun h => by have := h.1; omega
        simp (disch := (first | assumption | omega | (simp only [List.length_append, List.length_cons, List.length_nil]; omega))) only [↓wD,wU,Nat.reduceBEq,zx150,zx151,zx159,zx160,zx161,zx162,Nat.reduceAdd,Nat.reduceSub,Nat.reduceMul,Nat.reduceLeDiff,Nat.reduceLT,Nat.reduceEqDiff,Int.reduceAdd,Int.reduceSub,Int.reduceMul,Int.reduceNeg,Int.reduceLT,Int.reduceLE,Int.reduceEq,Int.reduceToNat,Int.cast_ofNat_Int,↓reduceIte, a0, a5, a6, a7, xL, decide_eq_false h1, hm]
  · (simp (disch := (first | assumption | omega | (simp only [List.length_append, List.length_cons, List.length_nil]; omega))) only [↓wD,wU,Nat.reduceBEq,zx150,zx151,zx159,zx160,zx161,zx162,Nat.reduceAdd,Nat.reduceSub,Nat.reduceMul,Nat.reduceLeDiff,Nat.reduceLT,Nat.reduceEqDiff,Int.reduceAdd,Int.reduceSub,Int.reduceMul,Int.reduceNeg,Int.reduceLT,Int.reduceLE,Int.reduceEq,Int.reduceToNat,Int.cast_ofNat_Int,↓reduceIte]) <;> simp
end Go.Proofs.Ytflekaacffdakaa
namespace Go.Proofs.Ytflekaacffdakaa
open Go Go.AM Go.Proofs
theorem MI.lit1 {H : Heap} {x : Int} {L : Nat} (h : L ≤ H.length) : MI L (H ++ [.cells [.i x]]) (.s 1 H.length 0 1 (some 1)) [x] := ⟨H.length, some 1, rfl, h, by simp, by simp⟩
def lineG (cs : List Int) (need : Int) (x : Nat) : List (List Int) := (lines cs (need - (x : Int))).map ((x : Int) :: ·)
theorem lines_c {c need : Int} {cs : List Int} : lines (c :: cs) need = (List.range (min need c + 1).toNat).flatMap (lineG cs need) := rfl
theorem flat_step {β : Type} {f : Nat → List β} {x : Nat} : (List.range (x + 1)).flatMap f = (List.range x).flatMap f ++ f x := by
  rw [List.range_succ, List.flatMap_append]; simp
theorem _root_.Go.AM.Acc.slI {L : Nat} {p : Nat → Prop} {H : Heap} {v : AV} {xs : List Int} (h : Acc L p H v xs) : Sl (fun b => L ≤ b) H v xs := by
  rcases h with h' | ⟨b, o, c, k, e, hb, hk, h1, h2, h3⟩
  · exact .inl h'
  · exact .inr ⟨b, o, c, k, e, hb, hk, h1, h2, h3⟩
theorem lineG_len {cs : List Int} {need : Int} (hn : need ≤ 16) (hl : cs.length ≤ 2) {x : Nat} : ((List.range x).flatMap (lineG cs need)).length ≤ x * 289 := by
  refine Nat.le_trans (flatMap_len (b := 289) fun y hy => ?_) (by simp)
  unfold lineG
  rw [List.length_map]
  refine Nat.le_trans (lines_len (by omega)) ?_
  have : 17 ^ cs.length ≤ 17 ^ 2 := Nat.pow_le_pow_right (by omega) hl
  omega
theorem lines_mem : ∀ {cs : List Int} {need : Int} {l : List Int}, l ∈ lines cs need → l.length = cs.length
  | [], need, l, h => by
    unfold lines at h
    split at h <;> simp at h
    subst h; rfl
  | c :: cs, need, l, h => by
    unfold lines at h
    rw [List.mem_flatMap] at h
    obtain ⟨x, _, h⟩ := h
    obtain ⟨l', h1, rfl⟩ := List.mem_map.1 h
    rw [List.length_cons, lines_mem h1, List.length_cons]
theorem rlines_ret : ∀ (cs : List Int) (need : Int) (v : AV) (p : Nat → Prop) (H : Heap), Sl p H v cs → 0 ≤ need → need ≤ 16 → (∀ x ∈ cs, 0 ≤ x ∧ x ≤ 16) → cs.length ≤ 3 → Ret E 81 [.i need, v] (fun _ => False) H (lines cs need) := by
  intro cs
  induction cs with
  | nil =>
    intro need v p H hv h0 h1 hc hl
    refine Ret.ro rfl fn81 rfl ?_
    unfold f81A
    by_cases h : need > 0
    · have e : decide (need = 0) = false := decide_eq_false (by omega)
      rw [lines, if_pos h]
      simp (disch := (first | assumption | omega | (simp only [List.length_append, List.length_cons, List.length_nil]; omega))) only [↓wD,wU,Nat.reduceBEq,zx150,zx151,zx159,zx160,zx161,zx162,Nat.reduceAdd,Nat.reduceSub,Nat.reduceMul,Nat.reduceLeDiff,Nat.reduceLT,Nat.reduceEqDiff,Int.reduceAdd,Int.reduceSub,Int.reduceMul,Int.reduceNeg,Int.reduceLT,Int.reduceLE,Int.reduceEq,Int.reduceToNat,Int.cast_ofNat_Int,↓reduceIte, hv.lenV, e]
      exact Sl.nil
    · have e : decide (need = 0) = true := decide_eq_true (by omega)
      rw [lines, if_neg h]
      simp (disch := (first | assumption | omega | (simp only [List.length_append, List.length_cons, List.length_nil]; omega))) only [↓wD,wU,Nat.reduceBEq,zx150,zx151,zx159,zx160,zx161,zx162,Nat.reduceAdd,Nat.reduceSub,Nat.reduceMul,Nat.reduceLeDiff,Nat.reduceLT,Nat.reduceEqDiff,Int.reduceAdd,Int.reduceSub,Int.reduceMul,Int.reduceNeg,Int.reduceLT,Int.reduceLE,Int.reduceEq,Int.reduceToNat,Int.cast_ofNat_Int,↓reduceIte, hv.lenV, e]
      exact Sl.litL (us := [.nils]) (xs := [([] : List Int)]) (by simp) (.inr (Nat.le_refl _)) (by simp) rfl fun i h1 h2 => by
        match i, h1, h2 with
        | 0, _, _ => exact Sl.nil
        | n + 1, h1, _ => exact absurd h1 (by simp)
  | cons c cs ihc =>
    intro need v p H hv h0 h1 hc hl
    refine Ret.ro rfl fn81 rfl ?_
    unfold f81A
    have hcc := hc c (by simp)
    have hvl : Sl (fun b => b < H.length) H v (c :: cs) := hv.low.weak fun _ h => h.2
    have hlen : (c :: cs).length = cs.length + 1 := rfl
    simp only [List.length_cons] at hl
    have lv := hv.lenV
    have e0 : decide (((c :: cs).length : Int) = 0) = false := decide_eq_false (by rw [hlen]; omega)
    rw [lines_c]
    obtain ⟨N, hN⟩ : ∃ N : Nat, (min need c + 1).toNat = N := ⟨_, rfl⟩
    have hmn : min need c + 1 = (N : Int) := by omega
    have hmn2 : min need c = (N : Int) - 1 := by omega
    have hN17 : N ≤ 17 := by omega
    have hNb : ∀ x : Nat, x < N → (x : Int) ≤ need ∧ (x : Int) ≤ c := by omega
    have hsl : slV 1 v (some (.i 1)) none none = some (v.cut 1 (c :: cs).length) := hv.slV_lh (some (.i 1)) none (b := (c :: cs).length) (bound_none (Nat.le_refl _)) (bound_some (by omega) (by rw [hlen]; omega)) (by rw [hlen]; omega) (Nat.le_refl _)
    rw [hN]
    simp (disch := (first | assumption | omega | (simp only [List.length_append, List.length_cons, List.length_nil]; omega))) only [↓wD,wU,Nat.reduceBEq,zx150,zx151,zx159,zx160,zx161,zx162,Nat.reduceAdd,Nat.reduceSub,Nat.reduceMul,Nat.reduceLeDiff,Nat.reduceLT,Nat.reduceEqDiff,Int.reduceAdd,Int.reduceSub,Int.reduceMul,Int.reduceNeg,Int.reduceLT,Int.reduceLE,Int.reduceEq,Int.reduceToNat,Int.cast_ofNat_Int,↓reduceIte, lv, e0]
    refine Wp.for N (fun x a H' => ∃ u, a 0 = .i need ∧ a 1 = v ∧ a 5 = u ∧ a 6 = .i x ∧ Gr H H' ∧ Acc H.length (fun b => H.length ≤ b) H' u ((List.range x).flatMap (lineG cs need))) ?_ ?_
    · rintro x a H1 hx ⟨u, a0, a1, a5, a6, hg, hu⟩ ih
      have hv1 := hvl.gr hg
      have hI := hv1.I
      have gic : gi (c :: cs) 0 = c := rfl
      simp (disch := (first | assumption | omega | (simp only [List.length_append, List.length_cons, List.length_nil]; omega))) only [↓wD,wU,Nat.reduceBEq,zx150,zx151,zx159,zx160,zx161,zx162,Nat.reduceAdd,Nat.reduceSub,Nat.reduceMul,Nat.reduceLeDiff,Nat.reduceLT,Nat.reduceEqDiff,Int.reduceAdd,Int.reduceSub,Int.reduceMul,Int.reduceNeg,Int.reduceLT,Int.reduceLE,Int.reduceEq,Int.reduceToNat,Int.cast_ofNat_Int,↓reduceIte, a0, a1, a5, a6, hI, gic, hmn2]
      refine condP_split (fun hlt => ?_) (fun hlt => ?_)
      · have hx' : x < N := by omega
        obtain ⟨xn, xc⟩ := hNb x hx'
        have hct := hv1.cut (a := 1) (b := (c :: cs).length) (by rw [hlen]; omega) (Nat.le_refl _)
        have ec : ((c :: cs).drop 1).take ((c :: cs).length - 1) = cs := by simp
        rw [ec] at hct
        simp (disch := (first | assumption | omega | (simp only [List.length_append, List.length_cons, List.length_nil]; omega))) only [↓wD,wU,Nat.reduceBEq,zx150,zx151,zx159,zx160,zx161,zx162,Nat.reduceAdd,Nat.reduceSub,Nat.reduceMul,Nat.reduceLeDiff,Nat.reduceLT,Nat.reduceEqDiff,Int.reduceAdd,Int.reduceSub,Int.reduceMul,Int.reduceNeg,Int.reduceLT,Int.reduceLE,Int.reduceEq,Int.reduceToNat,Int.cast_ofNat_Int,↓reduceIte, a0, a1, a5, a6, hsl]
        refine (ihc (need - x) _ _ _ hct (by omega) (by omega) (fun y hy => hc y (by simp [hy])) (by omega)).toF fun r H2 hg2 hr => ?_
        have hl2 := hg2.1
        have hl1 := hg.1
        have hbl := lineG_len (cs := cs) (need := need) (x := x) h1 (by omega)
        obtain ⟨ls, els⟩ : ∃ ls, lines cs (need - x) = ls := ⟨_, rfl⟩
        have hll : ls.length ≤ 289 := by
          rw [← els]
          refine Nat.le_trans (lines_len (by omega)) ?_
          have : 17 ^ cs.length ≤ 17 ^ 2 := Nat.pow_le_pow_right (by omega) (by omega)
          omega
        rw [els] at hr
        have eG : lineG cs need x = ls.map ((x : Int) :: ·) := by unfold lineG; rw [els]
        obtain ⟨bs, ebs⟩ : ∃ bs, (List.range x).flatMap (lineG cs need) = bs := ⟨_, rfl⟩
        rw [ebs] at hbl hu
        have hr2 : Sl (fun b => H1.length ≤ b ∧ b < H2.length) H2 r ls := hr.low
        have hu2 := hu.gr hg2
        have hub : ∀ b, u.blk = some b → b < H1.length := fun b e => (hu.blk_lt e).2
        simp (disch := (first | assumption | omega | (simp only [List.length_append, List.length_cons, List.length_nil]; omega))) only [↓wD,wU,Nat.reduceBEq,zx150,zx151,zx159,zx160,zx161,zx162,Nat.reduceAdd,Nat.reduceSub,Nat.reduceMul,Nat.reduceLeDiff,Nat.reduceLT,Nat.reduceEqDiff,Int.reduceAdd,Int.reduceSub,Int.reduceMul,Int.reduceNeg,Int.reduceLT,Int.reduceLE,Int.reduceEq,Int.reduceToNat,Int.cast_ofNat_Int,↓reduceIte, a0, a1, a5, a6, hr.lenV]
        refine Wp.for ls.length (fun i a H' => ∃ u', a 0 = .i need ∧ a 1 = v ∧ a 5 = u' ∧ a 6 = .i x ∧ a 29 = r ∧ a 30 = .i ls.length ∧ a 31 = .i i ∧ Gr H H' ∧ H2.length ≤ H'.length ∧ Acc H.length (fun b => H.length ≤ b) H' u' (bs ++ (ls.take i).map ((x : Int) :: ·)) ∧ (∀ b, u'.blk = some b → b < H1.length ∨ H2.length ≤ b) ∧ Sl (fun b => H1.length ≤ b ∧ b < H2.length) H' r ls) ?_ ?_
        · clear a0 a1 a5 a6
          rintro i a H3 hi ⟨u3, a0, a1, a5, a6, a29, a30, a31, hg3, hl3, hu3, hub3, hr3⟩ ih2
          simp (disch := (first | assumption | omega | (simp only [List.length_append, List.length_cons, List.length_nil]; omega))) only [↓wD,wU,Nat.reduceBEq,zx150,zx151,zx159,zx160,zx161,zx162,Nat.reduceAdd,Nat.reduceSub,Nat.reduceMul,Nat.reduceLeDiff,Nat.reduceLT,Nat.reduceEqDiff,Int.reduceAdd,Int.reduceSub,Int.reduceMul,Int.reduceNeg,Int.reduceLT,Int.reduceLE,Int.reduceEq,Int.reduceToNat,Int.cast_ofNat_Int,↓reduceIte, a0, a1, a5, a6, a29, a30, a31]
          refine condP_split (fun hlt2 => ?_) (fun hlt2 => ?_)
          · have hi' : i < ls.length := by omega
            have g := hr3.get (k := (i : Int)) (by omega) (by omega)
            have gl : (gi ls (i : Int)).length ≤ 1000 := by
              have := lines_mem (cs := cs) (need := need - x) (l := gi ls (i : Int)) (by rw [els]; exact mem_gi hi')
              omega
            have ha : Acc H3.length (fun _ => True) (H3 ++ [.cells [.i (x : Int)]]) (.s 1 H3.length 0 1 (some 1)) [(x : Int)] := (MI.lit1 (Nat.le_refl _)).acc
            have hg3l := hg3.1
            simp (disch := (first | assumption | omega | (simp only [List.length_append, List.length_cons, List.length_nil]; omega))) only [↓wD,wU,Nat.reduceBEq,zx150,zx151,zx159,zx160,zx161,zx162,Nat.reduceAdd,Nat.reduceSub,Nat.reduceMul,Nat.reduceLeDiff,Nat.reduceLT,Nat.reduceEqDiff,Int.reduceAdd,Int.reduceSub,Int.reduceMul,Int.reduceNeg,Int.reduceLT,Int.reduceLE,Int.reduceEq,Int.reduceToNat,Int.cast_ofNat_Int,↓reduceIte, a0, a1, a5, a6, a29, a30, a31, hr3.L, g.cellsV]
            refine ha.extend (q := fun b => b < H3.length) (by omega) (by simp) ((g.low.app [.cells [.i (x : Int)]]).weak fun b h => h.2) (fun b hb => ⟨trivial, fun e => ?_⟩) (by simp; omega) (by omega) fun w H4 hw hk4 => ?_
            · simp only [AV.blk, Option.some.injEq] at e; omega
            · have hw' : Sl (fun b => H3.length ≤ b) H4 w ((x : Int) :: gi ls (i : Int)) := hw.slI
              have hg34 : Gr H3 H4 := ((Gr.refl H3).app [.cells [.i (x : Int)]]).trans' hk4 fun b hb e => by simp only [AV.blk, Option.some.injEq] at e; omega
              have hl4 := hg34.1
              simp (disch := (first | assumption | omega | (simp only [List.length_append, List.length_cons, List.length_nil]; omega))) only [↓wD,wU,Nat.reduceBEq,zx150,zx151,zx159,zx160,zx161,zx162,Nat.reduceAdd,Nat.reduceSub,Nat.reduceMul,Nat.reduceLeDiff,Nat.reduceLT,Nat.reduceEqDiff,Int.reduceAdd,Int.reduceSub,Int.reduceMul,Int.reduceNeg,Int.reduceLT,Int.reduceLE,Int.reduceEq,Int.reduceToNat,Int.cast_ofNat_Int,↓reduceIte, a0, a1, a5, a6, a29, a30, a31, hw'.cellsV]
              refine (hu3.gr hg34).pushL (Nat.le_refl _) (by omega) hw' (fun b hb => ⟨by omega, fun e => by have := hu3.blk_lt e; omega⟩) (by simp; omega) fun u5 H5 hu5 hk5 hl5 hb5 => ?_
              have e5 : bs ++ (ls.take i).map ((x : Int) :: ·) ++ [(x : Int) :: gi ls (i : Int)] = bs ++ (ls.take (i + 1)).map ((x : Int) :: ·) := by rw [take_gi hi']; simp
              rw [e5] at hu5
              have hg5 : Gr H H5 := (hg3.trans hg34).push (hu3.gr hg34) (Nat.le_refl _) hk5
              have hr5 : Sl (fun b => H1.length ≤ b ∧ b < H2.length) H5 r ls := (hr3.gr hg34).kp (hk5.weak fun b h e => by have := hub3 b e; omega)
              simp (disch := (first | assumption | omega | (simp only [List.length_append, List.length_cons, List.length_nil]; omega))) only [↓wD,wU,Nat.reduceBEq,zx150,zx151,zx159,zx160,zx161,zx162,Nat.reduceAdd,Nat.reduceSub,Nat.reduceMul,Nat.reduceLeDiff,Nat.reduceLT,Nat.reduceEqDiff,Int.reduceAdd,Int.reduceSub,Int.reduceMul,Int.reduceNeg,Int.reduceLT,Int.reduceLE,Int.reduceEq,Int.reduceToNat,Int.cast_ofNat_Int,↓reduceIte, a0, a1, a5, a6, a29, a30, a31]
              refine (ih2 hi').go ⟨u5, ?_⟩
              simp (disch := (first | assumption | omega | (simp only [List.length_append, List.length_cons, List.length_nil]; omega))) only [↓wD,wU,Nat.reduceBEq,zx150,zx151,zx159,zx160,zx161,zx162,Nat.reduceAdd,Nat.reduceSub,Nat.reduceMul,Nat.reduceLeDiff,Nat.reduceLT,Nat.reduceEqDiff,Int.reduceAdd,Int.reduceSub,Int.reduceMul,Int.reduceNeg,Int.reduceLT,Int.reduceLE,Int.reduceEq,Int.reduceToNat,Int.cast_ofNat_Int,↓reduceIte, a0, a1, a5, a6, a29, a30, a31]
              exact ⟨hg5, by omega, hu5, fun b e => by rw [hb5] at e; simp only [Option.some.injEq] at e; omega, hr5⟩
          · obtain rfl : i = ls.length := by omega
            rw [List.take_length, ← eG, ← ebs, ← flat_step] at hu3
            simp (disch := (first | assumption | omega | (simp only [List.length_append, List.length_cons, List.length_nil]; omega))) only [↓wD,wU,Nat.reduceBEq,zx150,zx151,zx159,zx160,zx161,zx162,Nat.reduceAdd,Nat.reduceSub,Nat.reduceMul,Nat.reduceLeDiff,Nat.reduceLT,Nat.reduceEqDiff,Int.reduceAdd,Int.reduceSub,Int.reduceMul,Int.reduceNeg,Int.reduceLT,Int.reduceLE,Int.reduceEq,Int.reduceToNat,Int.cast_ofNat_Int,↓reduceIte, a0, a1, a5, a6, a29, a30, a31]
            refine (ih hx').go ⟨u3, ?_⟩
            simp (disch := (first | assumption | omega | (simp only [List.length_append, List.length_cons, List.length_nil]; omega))) only [↓wD,wU,Nat.reduceBEq,zx150,zx151,zx159,zx160,zx161,zx162,Nat.reduceAdd,Nat.reduceSub,Nat.reduceMul,Nat.reduceLeDiff,Nat.reduceLT,Nat.reduceEqDiff,Int.reduceAdd,Int.reduceSub,Int.reduceMul,Int.reduceNeg,Int.reduceLT,Int.reduceLE,Int.reduceEq,Int.reduceToNat,Int.cast_ofNat_Int,↓reduceIte, a0, a1, a5, a6]
            exact ⟨hg3, hu3⟩
        · simp (disch := (first | assumption | omega | (simp only [List.length_append, List.length_cons, List.length_nil]; omega))) only [↓wD,wU,Nat.reduceBEq,zx150,zx151,zx159,zx160,zx161,zx162,Nat.reduceAdd,Nat.reduceSub,Nat.reduceMul,Nat.reduceLeDiff,Nat.reduceLT,Nat.reduceEqDiff,Int.reduceAdd,Int.reduceSub,Int.reduceMul,Int.reduceNeg,Int.reduceLT,Int.reduceLE,Int.reduceEq,Int.reduceToNat,Int.cast_ofNat_Int,↓reduceIte, a0, a1, a5, a6]
          refine ⟨u, rfl, hg.trans hg2, ?_⟩
          (try simp only [List.take_zero, List.map_nil, List.append_nil])
          exact ⟨hu2, fun b e => .inl (hub b e), hr2⟩
      · simp (disch := (first | assumption | omega | (simp only [List.length_append, List.length_cons, List.length_nil]; omega))) only [↓wD,wU,Nat.reduceBEq,zx150,zx151,zx159,zx160,zx161,zx162,Nat.reduceAdd,Nat.reduceSub,Nat.reduceMul,Nat.reduceLeDiff,Nat.reduceLT,Nat.reduceEqDiff,Int.reduceAdd,Int.reduceSub,Int.reduceMul,Int.reduceNeg,Int.reduceLT,Int.reduceLE,Int.reduceEq,Int.reduceToNat,Int.cast_ofNat_Int,↓reduceIte, a0, a1, a5, a6]
        obtain rfl : x = N := by omega
        exact hu.sl.weak fun b hb => .inr (by omega)
    · simp (disch := (first | assumption | omega | (simp only [List.length_append, List.length_cons, List.length_nil]; omega))) only [↓wD,wU,Nat.reduceBEq,zx150,zx151,zx159,zx160,zx161,zx162,Nat.reduceAdd,Nat.reduceSub,Nat.reduceMul,Nat.reduceLeDiff,Nat.reduceLT,Nat.reduceEqDiff,Int.reduceAdd,Int.reduceSub,Int.reduceMul,Int.reduceNeg,Int.reduceLT,Int.reduceLE,Int.reduceEq,Int.reduceToNat,Int.cast_ofNat_Int,↓reduceIte]
      exact ⟨.nils, rfl, Gr.refl _, Acc.nil⟩
end Go.Proofs.Ytflekaacffdakaa
namespace Go.AM
open Go
theorem Sl.storeI {p : Nat → Prop} {lo : Nat} {H : Heap} {v : AV} {xs : List Int} {k x : Int} {Q : Heap → Prop} (h : Sl p H v xs) (hlo : ∀ b, p b → lo ≤ b) (h0 : 0 ≤ k) (h1 : k < xs.length)
    (go : ∀ H', Sl p H' v (xs.set k.toNat x) → Kx (fun b => v.blk ≠ some b) H H' → H'.length = H.length → Q H') : @optP _ (stA lo H 1 (v.at 1 k) (.i x)) ⟨Q⟩ := by
  rcases h with ⟨rfl, rfl⟩ | ⟨b, o, c, ks, rfl, hb, hk, h2, h3, h4⟩
  · simp at h1; omega
  · change o + xs.length * 1 ≤ ks.length at h2
    have hkl : k.toNat < xs.length := by omega
    have hst : stA lo H 1 (AV.at 1 (.s (Rep.sz Int) b o xs.length c) k) (.i x) = some (H.set b (.cells (ks.set (o + k.toNat) (.i x)))) := by
      simp only [stA, AV.at, Nat.mul_one, zx130, List.length_singleton, List.all_cons, List.all_nil, zx140, Bool.and_self, and_self, if_true]
      rw [st_of hk (hlo b hb) (by simp; omega)]
      simp [wr]
    refine ⟨_, hst, go _ (.inr ⟨b, o, c, ks.set (o + k.toNat) (.i x), by simp, hb, get_set hk, by simp; change o + xs.length * 1 ≤ _; omega, by simpa using h3, fun i hi => ?_⟩) ?_ (by simp)⟩
    · have hi' : i < xs.length := by simpa using hi
      have h5 := h4 i hi'
      change (ks.drop (o + i * 1)).take 1 = [.i xs[i]] at h5
      change ((ks.set (o + k.toNat) (.i x)).drop (o + i * 1)).take 1 = [.i _]
      rw [Nat.mul_one] at h5 ⊢
      have h6 := take1 h5
      have hlt : o + i < ks.length := by omega
      rw [List.drop_eq_getElem_cons (by simp; omega)]
      by_cases e : k.toNat = i
      · subst e; simp
      · have : ks[o + i]'hlt = .i xs[i] := by
          rw [List.getElem?_eq_getElem hlt] at h6; simpa using h6
        rw [List.getElem_set_ne (by omega), this, List.getElem_set_ne e]
        simp
    · exact (Kx.set _ _ _).weak fun b' _ hb' e => hb' (by simp [AV.blk, e])
def OAcc (p : Nat → Prop) (H : Heap) (u : AV) (xs : List (List Int)) : Prop :=
  (u = .nils ∧ xs = []) ∨ ∃ b o c k, u = .s 1 b o xs.length c ∧ p b ∧ H[b]? = some (.cells k) ∧ o + xs.length ≤ k.length ∧ xs.length ≤ 9223372036854775807 ∧ ∀ (i : Nat) (h : i < xs.length), Rep.rep (fun b' => p b' ∧ b' ≠ b) H ((k.drop (o + i)).take 1) xs[i]
theorem OAcc.of {L : Nat} {p q : Nat → Prop} {H : Heap} {u : AV} {xs : List (List Int)} (h : Acc L p H u xs) (hL : ∀ b, L ≤ b → q b) (hp : ∀ b, p b → q b) : OAcc q H u xs := by
  rcases h with h | ⟨b, o, c, k, rfl, hb, hk1, h1, h2, h3⟩
  · exact .inl h
  · refine .inr ⟨b, o, c, k, rfl, hL b hb, hk1, by change o + xs.length * 1 ≤ _ at h1; omega, h2, fun i hi => ?_⟩
    have := h3 i hi
    change Rep.rep _ H ((k.drop (o + i * 1)).take 1) _ at this
    rw [Nat.mul_one] at this
    exact Rep.mono this (Kp.refl _ _) fun b h => ⟨hp b h.1, h.2⟩
theorem OAcc.acc {L : Nat} {q : Nat → Prop} {H : Heap} {u : AV} {xs : List (List Int)} (h : OAcc q H u xs) (hL : ∀ b, q b → L ≤ b) : Acc L q H u xs := by
  rcases h with h | ⟨b, o, c, k, rfl, hb, hk1, h1, h2, h3⟩
  · exact .inl h
  · refine .inr ⟨b, o, c, k, rfl, hL b hb, hk1, by change o + xs.length * 1 ≤ _; omega, h2, fun i hi => ?_⟩
    change Rep.rep _ H ((k.drop (o + i * 1)).take 1) _
    rw [Nat.mul_one]
    exact h3 i hi
end Go.AM
namespace Go.Proofs.Ytflekaacffdakaa
open Go Go.AM Go.Proofs
theorem lines_len2 : ∀ {cs : List Int} {need : Int}, 0 ≤ need → need ≤ 16 → (∀ x ∈ cs, 0 ≤ x ∧ x ≤ 16) → (lines cs need).length ≤ 17 ^ (cs.length - 1)
  | [], need, _, _, _ => by
    unfold lines
    split <;> simp
  | [c], need, h0, h, hc => by
    have := hc c (by simp)
    obtain ⟨c, rfl⟩ := nat_of this.1
    obtain ⟨need, rfl⟩ := nat_of h0
    rw [lines1]
    split <;> simp
  | c :: d :: cs, need, h0, h, hc => by
    have hcc := hc c (by simp)
    rw [lines]
    refine Nat.le_trans (flatMap_len (b := 17 ^ cs.length) fun x hx => ?_) ?_
    · have := List.mem_range.1 hx
      rw [List.length_map]
      exact lines_len2 (cs := d :: cs) (by omega) (by omega) fun y hy => hc y (by simp only [List.mem_cons] at hy ⊢; exact .inr hy)
    · rw [List.length_range]
      simp only [List.length_cons, Nat.add_sub_cancel]
      rw [Nat.pow_succ, Nat.mul_comm]
      exact Nat.mul_le_mul_left _ (by omega)
theorem lines_el : ∀ {cs : List Int} {need : Int} {l : List Int}, 0 ≤ need → need ≤ 16 → (∀ x ∈ cs, 0 ≤ x ∧ x ≤ 16) → l ∈ lines cs need → (∀ x ∈ l, 0 ≤ x ∧ x ≤ 16) ∧ ∀ x ∈ subL cs l, 0 ≤ x ∧ x ≤ 16
  | [], need, l, _, _, _, h => by
    unfold lines at h
    split at h <;> simp at h
    subst h; simp [subL]
  | c :: cs, need, l, h0, h16, hc, h => by
    unfold lines at h
    rw [List.mem_flatMap] at h
    obtain ⟨x, hx, h⟩ := h
    have := List.mem_range.1 hx
    have hcc := hc c (by simp)
    obtain ⟨l', h1, rfl⟩ := List.mem_map.1 h
    obtain ⟨i1, i2⟩ := lines_el (by omega) (by omega) (fun y hy => hc y (by simp [hy])) h1
    refine ⟨fun y hy => ?_, fun y hy => ?_⟩
    · rcases List.mem_cons.1 hy with rfl | hy
      · omega
      · exact i1 y hy
    · have e : subL (c :: cs) ((x : Int) :: l') = (c - x) :: subL cs l' := rfl
      rw [e] at hy
      rcases List.mem_cons.1 hy with rfl | hy
      · omega
      · exact i2 y hy
theorem subL_len {cs l : List Int} (h : l.length = cs.length) : (subL cs l).length = cs.length := by unfold subL; rw [List.length_zipWith]; omega
theorem subL_gi {cs l : List Int} (h : l.length = cs.length) {j : Nat} (hj : j < cs.length) : gi (subL cs l) (j : Int) = gi cs (j : Int) - gi l (j : Int) := by
  rw [gi_nat (by rw [subL_len h]; exact hj), gi_nat hj, gi_nat (by omega)]
  simp [subL]
theorem tabsL_len2 : ∀ {rs L : List Int}, (∀ r ∈ rs, 0 ≤ r ∧ r ≤ 16) → (∀ x ∈ L, 0 ≤ x ∧ x ≤ 16) → L.length ≤ 3 → (tabsL rs L).length ≤ 289 ^ rs.length
  | [], L, _, _, _ => by
    unfold tabsL
    split <;> simp
  | r :: rs, L, h, h', hl => by
    have hr := h r (by simp)
    unfold tabsL
    refine Nat.le_trans (flatMap_len (b := 289 ^ rs.length) fun x hx => ?_) ?_
    · rw [List.length_map]
      exact tabsL_len2 (fun r hr => h r (by simp [hr])) (lines_el hr.1 hr.2 h' hx).2 (by rw [subL_len (lines_mem hx)]; exact hl)
    · rw [List.length_cons, Nat.pow_succ, Nat.mul_comm]
      refine Nat.mul_le_mul_left _ (Nat.le_trans (lines_len2 hr.1 hr.2 h') ?_)
      have : 17 ^ (L.length - 1) ≤ 17 ^ 2 := Nat.pow_le_pow_right (by omega) (by omega)
      omega
theorem mix_gi {A B : List Int} {j : Nat} (h : A.length = B.length) (hj : j < B.length) : gi (A.take j ++ B.drop j) (j : Int) = gi B (j : Int) := by
  rw [gi_nat (by simp; omega), gi_nat hj]
  rw [List.getElem_append_right (by simp; omega)]
  simp; congr 1; omega
theorem mix_set {A B : List Int} {j : Nat} (h : A.length = B.length) (hj : j < B.length) : (A.take j ++ B.drop j).set j (gi A (j : Int)) = A.take (j + 1) ++ B.drop (j + 1) := by
  have e : B.drop j = B[j] :: B.drop (j + 1) := List.drop_eq_getElem_cons hj
  rw [take_gi (xs := A) (by omega), List.set_append_right _ _ (by simp; omega), e, show j - (A.take j).length = 0 by simp; omega]
  simp only [List.set_cons_zero, List.append_assoc, List.cons_append, List.nil_append]
theorem max_zero {L : List Int} (h1 : 1 ≤ L.length) (h : ∀ x ∈ L, 0 ≤ x ∧ x ≤ 16) : maxL L > 0 ↔ ¬ L.sum = 0 := by
  obtain ⟨m1, m2⟩ := maxL_spec h1
  have s0 := sum_nonneg fun x hx => (h x hx).1
  constructor
  · intro hm hs
    have := le_sum (fun x hx => (h x hx).1) m1
    omega
  · intro hs
    rcases Int.lt_or_le 0 (maxL L) with hm | hm
    · exact hm
    · exfalso
      apply hs
      have : ∀ x ∈ L, x = 0 := fun x hx => by have := m2 x hx; have := h x hx; omega
      clear m1 m2 s0 hs hm h h1
      induction L with
      | nil => rfl
      | cons x L ih => rw [List.sum_cons, this x (by simp), ih fun y hy => this y (by simp [hy])]; rfl
end Go.Proofs.Ytflekaacffdakaa
namespace Go.Proofs.Ytflekaacffdakaa
open Go Go.AM Go.Proofs
def tabG (rs L l : List Int) : List (List (List Int)) := (tabsL rs (subL L l)).map (l :: ·)
theorem tabs_c {r : Int} {rs L : List Int} : tabsL (r :: rs) L = (lines L r).flatMap (tabG rs L) := rfl
theorem take_flat {f : List Int → List (List (List Int))} {ls : List (List Int)} {i : Nat} (hi : i < ls.length) : (ls.take (i + 1)).flatMap f = (ls.take i).flatMap f ++ f (gi ls (i : Int)) := by
  rw [take_gi hi, List.flatMap_append]; simp
theorem tabsL_mem : ∀ {rs L : List Int} {t : List (List Int)}, t ∈ tabsL rs L → t.length = rs.length
  | [], L, t, h => by
    unfold tabsL at h
    split at h <;> simp at h
    subst h; rfl
  | r :: rs, L, t, h => by
    unfold tabsL at h
    rw [List.mem_flatMap] at h
    obtain ⟨l, _, h⟩ := h
    obtain ⟨t', h1, rfl⟩ := List.mem_map.1 h
    rw [List.length_cons, tabsL_mem h1, List.length_cons]
theorem lit1L {p : Nat → Prop} {H : Heap} {x : List Int} {y : AV} {L : Nat} (h : L ≤ H.length) (hy : Sl p H y x) : Acc L p (H ++ [.cells [y]]) (.s 1 H.length 0 1 (some 1)) [x] := by
  refine .inr ⟨H.length, 0, some 1, [y], rfl, h, get_last, by simp; exact Nat.le_refl _, by simp, fun i hi => ?_⟩
  obtain rfl : i = 0 := by simpa using hi
  exact ⟨y, rfl, (hy.low.app _).weak fun b h => ⟨h.1, by omega⟩⟩
theorem rtables_ret : ∀ (rs L : List Int) (v w : AV) (p q : Nat → Prop) (H : Heap), Sl p H v rs → Sl q H w L → (∀ x ∈ rs, 0 ≤ x ∧ x ≤ 16) → (∀ x ∈ L, 0 ≤ x ∧ x ≤ 16) → rs.length ≤ 3 → 1 ≤ L.length → L.length ≤ 3 → Ret E 41 [v, w] (fun _ => False) H (tabsL rs L) := by
  intro rs
  induction rs with
  | nil =>
    intro L v w p q H hv hw hrs hL hl hm1 hm
    refine Ret.ro rfl fn41 rfl ?_
    unfold f41A
    have tr := total_ret hw (fun x hx => by have := hL x hx; omega) (by omega)
    have mz := max_zero hm1 hL
    by_cases h : L.sum = 0
    · rw [tabsL, if_neg (fun q => mz.1 q h)]
      simp (disch := (first | assumption | omega | (simp only [List.length_append, List.length_cons, List.length_nil]; omega))) only [↓wD,wU,Nat.reduceBEq,zx150,zx151,zx159,zx160,zx161,zx162,Nat.reduceAdd,Nat.reduceSub,Nat.reduceMul,Nat.reduceLeDiff,Nat.reduceLT,Nat.reduceEqDiff,Int.reduceAdd,Int.reduceSub,Int.reduceMul,Int.reduceNeg,Int.reduceLT,Int.reduceLE,Int.reduceEq,Int.reduceToNat,Int.cast_ofNat_Int,↓reduceIte, hv.lenV, tr.call, decide_eq_true h]
      exact Sl.litL (us := [.nils]) (xs := [([] : List (List Int))]) (by simp) (.inr (Nat.le_refl _)) (by simp) rfl fun i h1 h2 => by
        match i, h1, h2 with
        | 0, _, _ => exact Sl.nil
        | n + 1, h1, _ => exact absurd h1 (by simp)
    · rw [tabsL, if_pos (mz.2 h)]
      simp (disch := (first | assumption | omega | (simp only [List.length_append, List.length_cons, List.length_nil]; omega))) only [↓wD,wU,Nat.reduceBEq,zx150,zx151,zx159,zx160,zx161,zx162,Nat.reduceAdd,Nat.reduceSub,Nat.reduceMul,Nat.reduceLeDiff,Nat.reduceLT,Nat.reduceEqDiff,Int.reduceAdd,Int.reduceSub,Int.reduceMul,Int.reduceNeg,Int.reduceLT,Int.reduceLE,Int.reduceEq,Int.reduceToNat,Int.cast_ofNat_Int,↓reduceIte, hv.lenV, tr.call, decide_eq_false h]
      exact Sl.nil
  | cons r rs ihr =>
    intro L v w p q H hv hw hrs hL hl hm1 hm
    refine Ret.ro rfl fn41 rfl ?_
    unfold f41A
    have hr0 := hrs r (by simp)
    have hvl : Sl (fun b => b < H.length) H v (r :: rs) := hv.low.weak fun _ h => h.2
    have hwl : Sl (fun b => b < H.length) H w L := hw.low.weak fun _ h => h.2
    have hlen : (r :: rs).length = rs.length + 1 := rfl
    simp only [List.length_cons] at hl
    have lv := hv.lenV
    have e0 : decide (((r :: rs).length : Int) = 0) = false := decide_eq_false (by rw [hlen]; omega)
    have gir : gi (r :: rs) 0 = r := rfl
    rw [tabs_c]
    simp (disch := (first | assumption | omega | (simp only [List.length_append, List.length_cons, List.length_nil]; omega))) only [↓wD,wU,Nat.reduceBEq,zx150,zx151,zx159,zx160,zx161,zx162,Nat.reduceAdd,Nat.reduceSub,Nat.reduceMul,Nat.reduceLeDiff,Nat.reduceLT,Nat.reduceEqDiff,Int.reduceAdd,Int.reduceSub,Int.reduceMul,Int.reduceNeg,Int.reduceLT,Int.reduceLE,Int.reduceEq,Int.reduceToNat,Int.cast_ofNat_Int,↓reduceIte, lv, e0, hv.I, gir]
    refine (rlines_ret L r w _ H hw hr0.1 hr0.2 hL hm).toF fun y H1 hg1 hy => ?_
    have hl1 := hg1.1
    have hmem := fun l (h : l ∈ lines L r) => (⟨lines_mem h, lines_el hr0.1 hr0.2 hL h⟩ : l.length = L.length ∧ (∀ x ∈ l, 0 ≤ x ∧ x ≤ 16) ∧ ∀ x ∈ subL L l, 0 ≤ x ∧ x ≤ 16)
    have hll : (lines L r).length ≤ 289 := by
      refine Nat.le_trans (lines_len2 hr0.1 hr0.2 hL) ?_
      have : 17 ^ (L.length - 1) ≤ 17 ^ 2 := Nat.pow_le_pow_right (by omega) (by omega)
      omega
    have hgl : ∀ l, l ∈ lines L r → (tabG rs L l).length ≤ 83521 := fun l h => by
      unfold tabG
      rw [List.length_map]
      refine Nat.le_trans (tabsL_len2 (fun x hx => hrs x (by simp [hx])) (hmem l h).2.2 (by rw [subL_len (hmem l h).1]; exact hm)) ?_
      have : 289 ^ rs.length ≤ 289 ^ 2 := Nat.pow_le_pow_right (by omega) (by omega)
      omega
    have hsl : slV 1 v (some (.i 1)) none none = some (v.cut 1 (r :: rs).length) := hv.slV_lh (some (.i 1)) none (b := (r :: rs).length) (bound_none (Nat.le_refl _)) (bound_some (by omega) (by rw [hlen]; omega)) (by rw [hlen]; omega) (Nat.le_refl _)
    obtain ⟨ls, els⟩ : ∃ ls, lines L r = ls := ⟨_, rfl⟩
    rw [els] at hy hmem hll hgl
    rw [els]
    have hy1 : Sl (fun b => H.length ≤ b ∧ b < H1.length) H1 y ls := hy.low
    simp (disch := (first | assumption | omega | (simp only [List.length_append, List.length_cons, List.length_nil]; omega))) only [↓wD,wU,Nat.reduceBEq,zx150,zx151,zx159,zx160,zx161,zx162,Nat.reduceAdd,Nat.reduceSub,Nat.reduceMul,Nat.reduceLeDiff,Nat.reduceLT,Nat.reduceEqDiff,Int.reduceAdd,Int.reduceSub,Int.reduceMul,Int.reduceNeg,Int.reduceLT,Int.reduceLE,Int.reduceEq,Int.reduceToNat,Int.cast_ofNat_Int,↓reduceIte, hy.lenV]
    refine Wp.for ls.length (fun i a H' => ∃ u, a 0 = v ∧ a 1 = w ∧ a 5 = u ∧ a 24 = y ∧ a 25 = .i ls.length ∧ a 26 = .i i ∧ Gr H H' ∧ H1.length ≤ H'.length ∧ Acc H.length (fun b => H.length ≤ b) H' u ((ls.take i).flatMap (tabG rs L)) ∧ (∀ b, u.blk = some b → H1.length ≤ b) ∧ Sl (fun b => H.length ≤ b ∧ b < H1.length) H' y ls) ?_ ?_
    · rintro i a H2 hi ⟨u, a0, a1, a5, a24, a25, a26, hg, hl2, hu, hub, hy2⟩ ih
      simp (disch := (first | assumption | omega | (simp only [List.length_append, List.length_cons, List.length_nil]; omega))) only [↓wD,wU,Nat.reduceBEq,zx150,zx151,zx159,zx160,zx161,zx162,Nat.reduceAdd,Nat.reduceSub,Nat.reduceMul,Nat.reduceLeDiff,Nat.reduceLT,Nat.reduceEqDiff,Int.reduceAdd,Int.reduceSub,Int.reduceMul,Int.reduceNeg,Int.reduceLT,Int.reduceLE,Int.reduceEq,Int.reduceToNat,Int.cast_ofNat_Int,↓reduceIte, a0, a1, a5, a24, a25, a26]
      refine condP_split (fun hlt => ?_) (fun hlt => ?_)
      · have hi' : i < ls.length := by omega
        have g := hy2.get (k := (i : Int)) (by omega) (by omega)
        have hlm := mem_gi hi'
        obtain ⟨m1, m2, m3⟩ := hmem _ hlm
        have hgb := hgl _ hlm
        have hsz : ((ls.take i).flatMap (tabG rs L)).length ≤ 289 * 83521 := by
          refine Nat.le_trans (flatMap_len (b := 83521) fun l hl => hgl l (List.mem_of_mem_take hl)) ?_
          refine Nat.mul_le_mul_right _ ?_
          rw [List.length_take]; omega
        obtain ⟨l, el⟩ : ∃ l, gi ls (i : Int) = l := ⟨_, rfl⟩
        rw [el] at g m1 m2 m3 hgb hlm
        have hw2 := hwl.gr hg
        have ha : Acc H2.length (fun _ => True) (H2 ++ [.cells []]) (.s 1 H2.length 0 0 (some 0)) ([] : List Int) := Acc.fresh0 (Nat.le_refl _)
        have hl02 := hg.1
        simp (disch := (first | assumption | omega | (simp only [List.length_append, List.length_cons, List.length_nil]; omega))) only [↓wD,wU,Nat.reduceBEq,zx150,zx151,zx159,zx160,zx161,zx162,Nat.reduceAdd,Nat.reduceSub,Nat.reduceMul,Nat.reduceLeDiff,Nat.reduceLT,Nat.reduceEqDiff,Int.reduceAdd,Int.reduceSub,Int.reduceMul,Int.reduceNeg,Int.reduceLT,Int.reduceLE,Int.reduceEq,Int.reduceToNat,Int.cast_ofNat_Int,↓reduceIte, a0, a1, a5, a24, a25, a26, hy2.L]
        refine ha.extend (q := fun b => b < H2.length) (by omega) (by simp) ((hw2.low.app [.cells []]).weak fun b h => h.2) (fun b hb => ⟨trivial, fun e => ?_⟩) (by simp; omega) (by omega) fun z H3 hz hk3 => ?_
        · simp only [AV.blk, Option.some.injEq] at e; omega
        · have hz' : Sl (fun b => H2.length ≤ b) H3 z L := by have := hz.slI; rwa [List.nil_append] at this
          have hg23 : Gr H2 H3 := ((Gr.refl H2).app [.cells []]).trans' hk3 fun b hb e => by simp only [AV.blk, Option.some.injEq] at e; omega
          have gv : Sl (fun b => H.length ≤ b ∧ b < H1.length) H3 (y.get H2 i) l := (g.low.weak (q := fun b => (H.length ≤ b ∧ b < H1.length) ∧ b < H2.length) fun b h => ⟨h.1, h.2⟩).gr hg23 |>.weak fun b h => h.1
          obtain ⟨lw, elw⟩ : ∃ lw, y.get H2 i = lw := ⟨_, rfl⟩
          rw [elw] at gv
          clear g ha hz hk3
          simp (disch := (first | assumption | omega | (simp only [List.length_append, List.length_cons, List.length_nil]; omega))) only [↓wD,wU,Nat.reduceBEq,zx150,zx151,zx159,zx160,zx161,zx162,Nat.reduceAdd,Nat.reduceSub,Nat.reduceMul,Nat.reduceLeDiff,Nat.reduceLT,Nat.reduceEqDiff,Int.reduceAdd,Int.reduceSub,Int.reduceMul,Int.reduceNeg,Int.reduceLT,Int.reduceLE,Int.reduceEq,Int.reduceToNat,Int.cast_ofNat_Int,↓reduceIte, a0, a1, a5, a24, a25, a26, elw, gv.lenV]
          refine Wp.for l.length (fun j a H' => a 0 = v ∧ a 1 = w ∧ a 5 = u ∧ a 24 = y ∧ a 25 = .i ls.length ∧ a 26 = .i i ∧ a 7 = lw ∧ a 8 = z ∧ a 33 = lw ∧ a 34 = .i l.length ∧ a 35 = .i j ∧ Gr H2 H' ∧ Sl (fun b => H.length ≤ b ∧ b < H1.length) H' lw l ∧ Sl (fun b => H2.length ≤ b) H' z ((subL L l).take j ++ L.drop j)) ?_ ?_
          · clear a0 a1 a5 a24 a25 a26
            rintro j a H4 hj ⟨a0, a1, a5, a24, a25, a26, a7, a8, a33, a34, a35, hg4, gv4, z4⟩ ih2
            simp (disch := (first | assumption | omega | (simp only [List.length_append, List.length_cons, List.length_nil]; omega))) only [↓wD,wU,Nat.reduceBEq,zx150,zx151,zx159,zx160,zx161,zx162,Nat.reduceAdd,Nat.reduceSub,Nat.reduceMul,Nat.reduceLeDiff,Nat.reduceLT,Nat.reduceEqDiff,Int.reduceAdd,Int.reduceSub,Int.reduceMul,Int.reduceNeg,Int.reduceLT,Int.reduceLE,Int.reduceEq,Int.reduceToNat,Int.cast_ofNat_Int,↓reduceIte, a0, a1, a5, a24, a25, a26, a7, a8, a33, a34, a35]
            refine condP_split (fun hlt2 => ?_) (fun hlt2 => ?_)
            · have hj' : j < l.length := by omega
              have zI := z4.I
              have zl : ((subL L l).take j ++ L.drop j).length = l.length := by
                rw [List.length_append, List.length_take, List.length_drop, subL_len m1]; omega
              rw [zl] at zI
              have zg : gi ((subL L l).take j ++ L.drop j) (j : Int) = gi L (j : Int) := mix_gi (subL_len m1) (by omega)
              have b1 := hL _ (mem_gi (xs := L) (i := j) (by omega))
              have b2 := m2 _ (mem_gi hj')
              simp (disch := (first | assumption | omega | (simp only [List.length_append, List.length_cons, List.length_nil]; omega))) only [↓wD,wU,Nat.reduceBEq,zx150,zx151,zx159,zx160,zx161,zx162,Nat.reduceAdd,Nat.reduceSub,Nat.reduceMul,Nat.reduceLeDiff,Nat.reduceLT,Nat.reduceEqDiff,Int.reduceAdd,Int.reduceSub,Int.reduceMul,Int.reduceNeg,Int.reduceLT,Int.reduceLE,Int.reduceEq,Int.reduceToNat,Int.cast_ofNat_Int,↓reduceIte, a0, a1, a5, a24, a25, a26, a7, a8, a33, a34, a35, gv4.I, zI, zg]
              refine z4.storeI (fun b h => by omega) (by omega) (by omega) fun H5 z5 x5 l5 => ?_
              have e5 : ((subL L l).take j ++ L.drop j).set ((j : Int)).toNat (gi L (j : Int) - gi l (j : Int)) = (subL L l).take (j + 1) ++ L.drop (j + 1) := by
                rw [← subL_gi m1 (by omega)]
                exact mix_set (subL_len m1) (by omega)
              rw [e5] at z5
              have zb : ∀ b, b < H2.length → z.blk ≠ some b := fun b hb e => by have := (z4.blkp e).1; omega
              have hg5 : Gr H2 H5 := hg4.trans' x5.kp zb
              have gv5 : Sl (fun b => H.length ≤ b ∧ b < H1.length) H5 lw l := gv4.kp (x5.weak fun b _ h => zb b (by omega)).kp
              simp (disch := (first | assumption | omega | (simp only [List.length_append, List.length_cons, List.length_nil]; omega))) only [↓wD,wU,Nat.reduceBEq,zx150,zx151,zx159,zx160,zx161,zx162,Nat.reduceAdd,Nat.reduceSub,Nat.reduceMul,Nat.reduceLeDiff,Nat.reduceLT,Nat.reduceEqDiff,Int.reduceAdd,Int.reduceSub,Int.reduceMul,Int.reduceNeg,Int.reduceLT,Int.reduceLE,Int.reduceEq,Int.reduceToNat,Int.cast_ofNat_Int,↓reduceIte, a0, a1, a5, a24, a25, a26, a7, a8, a33, a34, a35]
              refine (ih2 hj').go ?_
              simp (disch := (first | assumption | omega | (simp only [List.length_append, List.length_cons, List.length_nil]; omega))) only [↓wD,wU,Nat.reduceBEq,zx150,zx151,zx159,zx160,zx161,zx162,Nat.reduceAdd,Nat.reduceSub,Nat.reduceMul,Nat.reduceLeDiff,Nat.reduceLT,Nat.reduceEqDiff,Int.reduceAdd,Int.reduceSub,Int.reduceMul,Int.reduceNeg,Int.reduceLT,Int.reduceLE,Int.reduceEq,Int.reduceToNat,Int.cast_ofNat_Int,↓reduceIte, a0, a1, a5, a24, a25, a26, a7, a8, a33, a34, a35]
              exact ⟨hg5, gv5, z5⟩
            · obtain rfl : j = l.length := by omega
              rw [List.take_of_length_le (by rw [subL_len m1]; omega), List.drop_of_length_le (by omega), List.append_nil] at z4
              have hl4 := hg4.1
              have hct := ((hvl.gr hg).gr hg4).cut (a := 1) (b := (r :: rs).length) (by rw [hlen]; omega) (Nat.le_refl _)
              have ec : ((r :: rs).drop 1).take ((r :: rs).length - 1) = rs := by simp
              rw [ec] at hct
              simp (disch := (first | assumption | omega | (simp only [List.length_append, List.length_cons, List.length_nil]; omega))) only [↓wD,wU,Nat.reduceBEq,zx150,zx151,zx159,zx160,zx161,zx162,Nat.reduceAdd,Nat.reduceSub,Nat.reduceMul,Nat.reduceLeDiff,Nat.reduceLT,Nat.reduceEqDiff,Int.reduceAdd,Int.reduceSub,Int.reduceMul,Int.reduceNeg,Int.reduceLT,Int.reduceLE,Int.reduceEq,Int.reduceToNat,Int.cast_ofNat_Int,↓reduceIte, a0, a1, a5, a24, a25, a26, a7, a8, a33, a34, a35, hsl]
              refine (ihr (subL L l) _ z _ _ H4 hct z4 (fun x hx => hrs x (by simp [hx])) m3 (by omega) (by rw [subL_len m1]; exact hm1) (by rw [subL_len m1]; exact hm)).toF fun rv H5 hg5 hr5 => ?_
              have hl5 := hg5.1
              obtain ⟨ts, ets⟩ : ∃ ts, tabsL rs (subL L l) = ts := ⟨_, rfl⟩
              obtain ⟨bs, ebs⟩ : ∃ bs, (ls.take i).flatMap (tabG rs L) = bs := ⟨_, rfl⟩
              have eG : tabG rs L l = ts.map (l :: ·) := by unfold tabG; rw [ets]
              rw [eG, List.length_map] at hgb
              rw [ets] at hr5
              rw [ebs] at hu hsz
              have hr5' : Sl (fun b => H4.length ≤ b ∧ b < H5.length) H5 rv ts := hr5.low
              have gv5 := gv4.gr hg5
              have hu5 := (hu.gr hg4).gr hg5
              have hy5 := (hy2.gr hg4).gr hg5
              have hub2 : ∀ b, u.blk = some b → H1.length ≤ b ∧ (b < H4.length ∨ H5.length ≤ b) := fun b e => ⟨hub b e, .inl (by have := (hu.blk_lt e).2; omega)⟩
              simp (disch := (first | assumption | omega | (simp only [List.length_append, List.length_cons, List.length_nil]; omega))) only [↓wD,wU,Nat.reduceBEq,zx150,zx151,zx159,zx160,zx161,zx162,Nat.reduceAdd,Nat.reduceSub,Nat.reduceMul,Nat.reduceLeDiff,Nat.reduceLT,Nat.reduceEqDiff,Int.reduceAdd,Int.reduceSub,Int.reduceMul,Int.reduceNeg,Int.reduceLT,Int.reduceLE,Int.reduceEq,Int.reduceToNat,Int.cast_ofNat_Int,↓reduceIte, a0, a1, a5, a24, a25, a26, a7, a8, a33, a34, a35, hr5.lenV]
              refine Wp.for ts.length (fun k a H' => ∃ u', a 0 = v ∧ a 1 = w ∧ a 5 = u' ∧ a 24 = y ∧ a 25 = .i ls.length ∧ a 26 = .i i ∧ a 7 = lw ∧ a 51 = rv ∧ a 52 = .i ts.length ∧ a 53 = .i k ∧ Gr H H' ∧ H5.length ≤ H'.length ∧ Acc H.length (fun b => H.length ≤ b) H' u' (bs ++ (ts.take k).map (l :: ·)) ∧ (∀ b, u'.blk = some b → H1.length ≤ b ∧ (b < H4.length ∨ H5.length ≤ b)) ∧ Sl (fun b => H4.length ≤ b ∧ b < H5.length) H' rv ts ∧ Sl (fun b => H.length ≤ b ∧ b < H1.length) H' lw l ∧ Sl (fun b => H.length ≤ b ∧ b < H1.length) H' y ls) ?_ ?_
              · clear a0 a1 a5 a24 a25 a26 a7 a8 a33 a34 a35
                rintro k a H6 hk ⟨u6, a0, a1, a5, a24, a25, a26, a7, a51, a52, a53, hg6, hl6, hu6, hub6, hr6, gv6, hy6⟩ ih3
                simp (disch := (first | assumption | omega | (simp only [List.length_append, List.length_cons, List.length_nil]; omega))) only [↓wD,wU,Nat.reduceBEq,zx150,zx151,zx159,zx160,zx161,zx162,Nat.reduceAdd,Nat.reduceSub,Nat.reduceMul,Nat.reduceLeDiff,Nat.reduceLT,Nat.reduceEqDiff,Int.reduceAdd,Int.reduceSub,Int.reduceMul,Int.reduceNeg,Int.reduceLT,Int.reduceLE,Int.reduceEq,Int.reduceToNat,Int.cast_ofNat_Int,↓reduceIte, a0, a1, a5, a24, a25, a26, a7, a51, a52, a53]
                refine condP_split (fun hlt3 => ?_) (fun hlt3 => ?_)
                · have hk' : k < ts.length := by omega
                  have g6 := hr6.get (k := (k : Int)) (by omega) (by omega)
                  have hgl6 : (gi ts (k : Int)).length ≤ 1000 := by
                    have := tabsL_mem (rs := rs) (L := subL L l) (t := gi ts (k : Int)) (by rw [ets]; exact mem_gi hk')
                    omega
                  have hg6l := hg6.1
                  have ha : Acc H6.length (fun b => (H.length ≤ b ∧ b < H1.length) ∨ (H4.length ≤ b ∧ b < H5.length) ∨ H6.length ≤ b) (H6 ++ [.cells [lw]]) (.s 1 H6.length 0 1 (some 1)) [l] := lit1L (Nat.le_refl _) (gv6.weak fun b h => .inl h)
                  simp (disch := (first | assumption | omega | (simp only [List.length_append, List.length_cons, List.length_nil]; omega))) only [↓wD,wU,Nat.reduceBEq,zx150,zx151,zx159,zx160,zx161,zx162,Nat.reduceAdd,Nat.reduceSub,Nat.reduceMul,Nat.reduceLeDiff,Nat.reduceLT,Nat.reduceEqDiff,Int.reduceAdd,Int.reduceSub,Int.reduceMul,Int.reduceNeg,Int.reduceLT,Int.reduceLE,Int.reduceEq,Int.reduceToNat,Int.cast_ofNat_Int,↓reduceIte, a0, a1, a5, a24, a25, a26, a7, a51, a52, a53, hr6.L, gv6.cellsV]
                  refine ha.extend (q := fun b => (H4.length ≤ b ∧ b < H5.length) ∧ b < H6.length) (by omega) (by simp) ((g6.low.app [.cells [lw]]).weak fun b h => h) (fun b hb => ⟨.inr (.inl hb.1), fun e => ?_⟩) (by simp; omega) (by omega) fun x H7 hx hk7 => ?_
                  · simp only [AV.blk, Option.some.injEq] at e; omega
                  · have hx' : Sl (fun b => ((H.length ≤ b ∧ b < H1.length) ∨ (H4.length ≤ b ∧ b < H5.length) ∨ H6.length ≤ b) ∨ H6.length ≤ b) H7 x (l :: gi ts (k : Int)) := hx.sl
                    have hg67 : Gr H6 H7 := ((Gr.refl H6).app [.cells [lw]]).trans' hk7 fun b hb e => by simp only [AV.blk, Option.some.injEq] at e; omega
                    have hl7 := hg67.1
                    simp (disch := (first | assumption | omega | (simp only [List.length_append, List.length_cons, List.length_nil]; omega))) only [↓wD,wU,Nat.reduceBEq,zx150,zx151,zx159,zx160,zx161,zx162,Nat.reduceAdd,Nat.reduceSub,Nat.reduceMul,Nat.reduceLeDiff,Nat.reduceLT,Nat.reduceEqDiff,Int.reduceAdd,Int.reduceSub,Int.reduceMul,Int.reduceNeg,Int.reduceLT,Int.reduceLE,Int.reduceEq,Int.reduceToNat,Int.cast_ofNat_Int,↓reduceIte, a0, a1, a5, a24, a25, a26, a7, a51, a52, a53, hx'.cellsV]
                    refine (hu6.gr hg67).pushL (Nat.le_refl _) (by omega) hx' (fun b hb => ⟨by omega, fun e => by have := (hu6.blk_lt e).2; have := hub6 b e; omega⟩) (by simp; omega) fun u8 H8 hu8 hk8 hl8 hb8 => ?_
                    have e8 : bs ++ (ts.take k).map (l :: ·) ++ [l :: gi ts (k : Int)] = bs ++ (ts.take (k + 1)).map (l :: ·) := by rw [take_gi hk']; simp
                    rw [e8] at hu8
                    have hg8 : Gr H H8 := (hg6.trans hg67).push (hu6.gr hg67) (Nat.le_refl _) hk8
                    have hr8 := (hr6.gr hg67).kp (hk8.weak (q := fun b => H4.length ≤ b ∧ b < H5.length) fun b h e => by have := hub6 b e; omega)
                    have gv8 := (gv6.gr hg67).kp (hk8.weak (q := fun b => H.length ≤ b ∧ b < H1.length) fun b h e => by have := hub6 b e; omega)
                    have hy8 := (hy6.gr hg67).kp (hk8.weak (q := fun b => H.length ≤ b ∧ b < H1.length) fun b h e => by have := hub6 b e; omega)
                    simp (disch := (first | assumption | omega | (simp only [List.length_append, List.length_cons, List.length_nil]; omega))) only [↓wD,wU,Nat.reduceBEq,zx150,zx151,zx159,zx160,zx161,zx162,Nat.reduceAdd,Nat.reduceSub,Nat.reduceMul,Nat.reduceLeDiff,Nat.reduceLT,Nat.reduceEqDiff,Int.reduceAdd,Int.reduceSub,Int.reduceMul,Int.reduceNeg,Int.reduceLT,Int.reduceLE,Int.reduceEq,Int.reduceToNat,Int.cast_ofNat_Int,↓reduceIte, a0, a1, a5, a24, a25, a26, a7, a51, a52, a53]
                    refine (ih3 hk').go ⟨u8, ?_⟩
                    simp (disch := (first | assumption | omega | (simp only [List.length_append, List.length_cons, List.length_nil]; omega))) only [↓wD,wU,Nat.reduceBEq,zx150,zx151,zx159,zx160,zx161,zx162,Nat.reduceAdd,Nat.reduceSub,Nat.reduceMul,Nat.reduceLeDiff,Nat.reduceLT,Nat.reduceEqDiff,Int.reduceAdd,Int.reduceSub,Int.reduceMul,Int.reduceNeg,Int.reduceLT,Int.reduceLE,Int.reduceEq,Int.reduceToNat,Int.cast_ofNat_Int,↓reduceIte, a0, a1, a5, a24, a25, a26, a7, a51, a52, a53]
                    exact ⟨hg8, by omega, hu8, fun b e => by rw [hb8] at e; simp only [Option.some.injEq] at e; omega, hr8, gv8, hy8⟩
                · obtain rfl : k = ts.length := by omega
                  rw [List.take_length, ← eG, ← ebs, ← el, ← take_flat hi'] at hu6
                  simp (disch := (first | assumption | omega | (simp only [List.length_append, List.length_cons, List.length_nil]; omega))) only [↓wD,wU,Nat.reduceBEq,zx150,zx151,zx159,zx160,zx161,zx162,Nat.reduceAdd,Nat.reduceSub,Nat.reduceMul,Nat.reduceLeDiff,Nat.reduceLT,Nat.reduceEqDiff,Int.reduceAdd,Int.reduceSub,Int.reduceMul,Int.reduceNeg,Int.reduceLT,Int.reduceLE,Int.reduceEq,Int.reduceToNat,Int.cast_ofNat_Int,↓reduceIte, a0, a1, a5, a24, a25, a26, a7, a51, a52, a53]
                  refine (ih hi').go ⟨u6, ?_⟩
                  simp (disch := (first | assumption | omega | (simp only [List.length_append, List.length_cons, List.length_nil]; omega))) only [↓wD,wU,Nat.reduceBEq,zx150,zx151,zx159,zx160,zx161,zx162,Nat.reduceAdd,Nat.reduceSub,Nat.reduceMul,Nat.reduceLeDiff,Nat.reduceLT,Nat.reduceEqDiff,Int.reduceAdd,Int.reduceSub,Int.reduceMul,Int.reduceNeg,Int.reduceLT,Int.reduceLE,Int.reduceEq,Int.reduceToNat,Int.cast_ofNat_Int,↓reduceIte, a0, a1, a5, a24, a25, a26]
                  exact ⟨hg6, by omega, hu6, fun b e => (hub6 b e).1, hy6⟩
              · simp (disch := (first | assumption | omega | (simp only [List.length_append, List.length_cons, List.length_nil]; omega))) only [↓wD,wU,Nat.reduceBEq,zx150,zx151,zx159,zx160,zx161,zx162,Nat.reduceAdd,Nat.reduceSub,Nat.reduceMul,Nat.reduceLeDiff,Nat.reduceLT,Nat.reduceEqDiff,Int.reduceAdd,Int.reduceSub,Int.reduceMul,Int.reduceNeg,Int.reduceLT,Int.reduceLE,Int.reduceEq,Int.reduceToNat,Int.cast_ofNat_Int,↓reduceIte, a0, a1, a5, a24, a25, a26, a7, a8, a33, a34, a35]
                refine ⟨u, rfl, (hg.trans hg4).trans hg5, ?_⟩
                (try simp only [List.take_zero, List.map_nil, List.append_nil])
                exact ⟨hu5, hub2, hr5', gv5, hy5⟩
          · simp (disch := (first | assumption | omega | (simp only [List.length_append, List.length_cons, List.length_nil]; omega))) only [↓wD,wU,Nat.reduceBEq,zx150,zx151,zx159,zx160,zx161,zx162,Nat.reduceAdd,Nat.reduceSub,Nat.reduceMul,Nat.reduceLeDiff,Nat.reduceLT,Nat.reduceEqDiff,Int.reduceAdd,Int.reduceSub,Int.reduceMul,Int.reduceNeg,Int.reduceLT,Int.reduceLE,Int.reduceEq,Int.reduceToNat,Int.cast_ofNat_Int,↓reduceIte, a0, a1, a5, a24, a25, a26, elw]
            exact ⟨hg23, gv, hz'⟩
      · obtain rfl : i = ls.length := by omega
        rw [List.take_length] at hu
        simp (disch := (first | assumption | omega | (simp only [List.length_append, List.length_cons, List.length_nil]; omega))) only [↓wD,wU,Nat.reduceBEq,zx150,zx151,zx159,zx160,zx161,zx162,Nat.reduceAdd,Nat.reduceSub,Nat.reduceMul,Nat.reduceLeDiff,Nat.reduceLT,Nat.reduceEqDiff,Int.reduceAdd,Int.reduceSub,Int.reduceMul,Int.reduceNeg,Int.reduceLT,Int.reduceLE,Int.reduceEq,Int.reduceToNat,Int.cast_ofNat_Int,↓reduceIte, a0, a1, a5, a24, a25, a26]
        exact hu.sl.weak fun b hb => .inr (by omega)
    · simp (disch := (first | assumption | omega | (simp only [List.length_append, List.length_cons, List.length_nil]; omega))) only [↓wD,wU,Nat.reduceBEq,zx150,zx151,zx159,zx160,zx161,zx162,Nat.reduceAdd,Nat.reduceSub,Nat.reduceMul,Nat.reduceLeDiff,Nat.reduceLT,Nat.reduceEqDiff,Int.reduceAdd,Int.reduceSub,Int.reduceMul,Int.reduceNeg,Int.reduceLT,Int.reduceLE,Int.reduceEq,Int.reduceToNat,Int.cast_ofNat_Int,↓reduceIte]
      exact ⟨.nils, rfl, hg1, Acc.nil, fun b e => (by cases e), hy1⟩
end Go.Proofs.Ytflekaacffdakaa
namespace Go.Proofs.Ytflekaacffdakaa
open Go Go.AM Go.Proofs
theorem MgOk_cut {xs : List Int} : MgOk (xs.take 6) ↔ MgOk xs := by
  constructor
  · intro h
    have h1 := h.2.1
    rw [List.length_take] at h1
    rwa [List.take_of_length_le (by omega)] at h
  · intro h
    rw [List.take_of_length_le (by have := h.2.1; omega)]
    exact h
theorem Walk.CountsCounts (H : Heap) (u : AV) (xs : List Int) (hx : Sl (fun b => b < H.length) H u xs) (sz : xs.length * 8 ≤ 140737488351232) (w : AV) (ys : List Int) (hy : Sl (fun b => b < H.length) H w ys) (szy : ys.length * 8 ≤ 140737488351232) : WpF E H.length 9 [u, w] H fun v _ => v = .b true := by
  refine law_of (RetP.ro rfl fn9 rfl rfl ?_)
  unfold f9A
  simp (disch := (first | assumption | omega | (simp only [List.length_append, List.length_cons, List.length_nil]; omega))) only [↓wD,wU,Nat.reduceBEq,zx150,zx151,zx159,zx160,zx161,zx162,Nat.reduceAdd,Nat.reduceSub,Nat.reduceMul,Nat.reduceLeDiff,Nat.reduceLT,Nat.reduceEqDiff,Int.reduceAdd,Int.reduceSub,Int.reduceMul,Int.reduceNeg,Int.reduceLT,Int.reduceLE,Int.reduceEq,Int.reduceToNat,Int.cast_ofNat_Int,↓reduceIte]
  refine (list_ret hx).toF fun y1 H1 hg1 hy1 => ?_
  have hx1 := hx.gr hg1
  have hy_1 := hy.gr hg1
  simp (disch := (first | assumption | omega | (simp only [List.length_append, List.length_cons, List.length_nil]; omega))) only [↓wD,wU,Nat.reduceBEq,zx150,zx151,zx159,zx160,zx161,zx162,Nat.reduceAdd,Nat.reduceSub,Nat.reduceMul,Nat.reduceLeDiff,Nat.reduceLT,Nat.reduceEqDiff,Int.reduceAdd,Int.reduceSub,Int.reduceMul,Int.reduceNeg,Int.reduceLT,Int.reduceLE,Int.reduceEq,Int.reduceToNat,Int.cast_ofNat_Int,↓reduceIte]
  refine (list_ret hy_1).toF fun y2 H2 hg2 hy2 => ?_
  have hx2 := hx1.gr hg2
  have hy_2 := hy_1.gr hg2
  have hl1 := hg1.1
  have hl2 := hg2.1
  have k := count_ret (hy1.gr hg2) hy2
  simp only [MgOk_cut] at k
  have m1 := margin_ret hx2
  have m2 := margin_ret hy_2
  by_cases h1 : MgOk xs
  · by_cases h2 : MgOk ys
    · rw [if_pos ⟨h1, h2⟩, List.take_of_length_le (by have := h1.2.1; omega), List.take_of_length_le (by have := h2.2.1; omega)] at k
      rw [decide_eq_true h1] at m1
      rw [decide_eq_true h2] at m2
      have ex := h1.el
      have ey := h2.el
      have a1 := h1.2.1
      have a2 := h2.1
      have a3 := h2.2.1
      clear h1 h2
      simp (disch := (first | assumption | omega | (simp only [List.length_append, List.length_cons, List.length_nil]; omega))) only [↓wD,wU,Nat.reduceBEq,zx150,zx151,zx159,zx160,zx161,zx162,Nat.reduceAdd,Nat.reduceSub,Nat.reduceMul,Nat.reduceLeDiff,Nat.reduceLT,Nat.reduceEqDiff,Int.reduceAdd,Int.reduceSub,Int.reduceMul,Int.reduceNeg,Int.reduceLT,Int.reduceLE,Int.reduceEq,Int.reduceToNat,Int.cast_ofNat_Int,↓reduceIte, k.call, m1.call, m2.call]
      refine (rtables_ret xs ys u w _ _ H2 hx2 hy_2 ex ey a1 a2 a3).toF fun z H3 hg3 hz => ?_
      simp (disch := (first | assumption | omega | (simp only [List.length_append, List.length_cons, List.length_nil]; omega))) only [↓wD,wU,Nat.reduceBEq,zx150,zx151,zx159,zx160,zx161,zx162,Nat.reduceAdd,Nat.reduceSub,Nat.reduceMul,Nat.reduceLeDiff,Nat.reduceLT,Nat.reduceEqDiff,Int.reduceAdd,Int.reduceSub,Int.reduceMul,Int.reduceNeg,Int.reduceLT,Int.reduceLE,Int.reduceEq,Int.reduceToNat,Int.cast_ofNat_Int,↓reduceIte, hz.lenV, awake_ret.call]
    · rw [if_neg (fun h => h2 h.2)] at k
      rw [decide_eq_true h1] at m1
      rw [decide_eq_false h2] at m2
      simp (disch := (first | assumption | omega | (simp only [List.length_append, List.length_cons, List.length_nil]; omega))) only [↓wD,wU,Nat.reduceBEq,zx150,zx151,zx159,zx160,zx161,zx162,Nat.reduceAdd,Nat.reduceSub,Nat.reduceMul,Nat.reduceLeDiff,Nat.reduceLT,Nat.reduceEqDiff,Int.reduceAdd,Int.reduceSub,Int.reduceMul,Int.reduceNeg,Int.reduceLT,Int.reduceLE,Int.reduceEq,Int.reduceToNat,Int.cast_ofNat_Int,↓reduceIte, k.call, m1.call, m2.call, awake_ret.call]
  · rw [if_neg (fun h => h1 h.1)] at k
    rw [decide_eq_false h1] at m1
    simp (disch := (first | assumption | omega | (simp only [List.length_append, List.length_cons, List.length_nil]; omega))) only [↓wD,wU,Nat.reduceBEq,zx150,zx151,zx159,zx160,zx161,zx162,Nat.reduceAdd,Nat.reduceSub,Nat.reduceMul,Nat.reduceLeDiff,Nat.reduceLT,Nat.reduceEqDiff,Int.reduceAdd,Int.reduceSub,Int.reduceMul,Int.reduceNeg,Int.reduceLT,Int.reduceLE,Int.reduceEq,Int.reduceToNat,Int.cast_ofNat_Int,↓reduceIte, k.call, m1.call, awake_ret.call]
end Go.Proofs.Ytflekaacffdakaa
