/- What the law needs: what its functions do, and the laws on lists behind it. No condition. -/
import Derived.Test.YtalaadcbpjnglaaPi
import Derived.Test.YtalaadcbpjnglaaBo
import Derived.Shelf.Slices.Delete
import Derived.KernelRfl
import Derived.WalkKit
import Derived.ProofKit
import Derived.OpenShut
import Derived.ShutString
import Derived.ChangeOld
import Derived.Below
import Derived.SizedLaws
import Derived.Carry
set_option linter.unusedSimpArgs false
set_option linter.unusedVariables false
namespace Go.Proofs.Ytalaadcbpjnglaa
open Go Go.AM Go.Proofs Go.Shelf Go.RowKit
def deRen : Ren where
  f n := if n = 23 then 80 else 109
  t n := if n = 0 then 0 else if n = 22 then 41 else n
  g n := n
theorem deLays : Lays2.n23 Try.prog deRen where
  mixed := by kernel_rfl
  f23 := by kernel_rfl
  t0 := by kernel_rfl
  a0 := fun w => by kernel_rfl
  z0 := fun w => by kernel_rfl
  v0 := fun w => by kernel_rfl
  t3 := by kernel_rfl
  a3 := fun w => by kernel_rfl
  z3 := fun w => by kernel_rfl
  v3 := fun w => by kernel_rfl
  t4 := by kernel_rfl
  a4 := fun w => by kernel_rfl
  z4 := fun w => by kernel_rfl
  v4 := fun w => by kernel_rfl
  t22 := by kernel_rfl
  a22 := fun w => by kernel_rfl
  z22 := fun w => by kernel_rfl
  v22 := fun w => by kernel_rfl
  i3 := by kernel_rfl
theorem lay_whole (xs : List Int) (d : Array Int) (h : xs.length = d.size) : Go.Lib.lay d 0 xs = xs.toArray := by
  apply Array.ext_getElem?
  intro j
  rw [Go.Lib.lay_get? xs d 0 j (by omega)]
  by_cases hj : j < xs.length
  · rw [if_pos ⟨by omega, by omega⟩]; simp
  · rw [if_neg (by omega), Array.getElem?_eq_none (by omega), Array.getElem?_eq_none (by simp; omega)]
theorem de_ok : Enters' Try.prog 80 ∧
  ∀ (blk off cap i j : Nat) (zs : List Int) (w : World), (∀ k (h : k < zs.length), w.cell? ⟨blk, off + k, none⟩ = some (.int .i64 zs[k]) ∧ w.frozen? ⟨blk, off + k, none⟩ = false) → zs.length ≤ cap → cap ≤ 9223372036854775807 → i ≤ j → j ≤ zs.length →
    ∀ cs, ∃ w1 : World, Rets Try.prog 80 #[.slice (some ⟨blk, off, none⟩) zs.length cap, .int .i64 i, .int .i64 j] cs w (.slice (some ⟨blk, off, none⟩) (zs.length - (j - i)) cap) (w1.setCells blk off ((zs.take i ++ zs.drop j ++ List.replicate (j - i) 0).map (Value.int .i64))) ∧
      w1.heap = w.heap ∧ w1.os = w.os ∧ w1.tape = w.tape ∧ w1.output = w.output := by
  refine ⟨enters_of deLays.f23 (by kernel_rfl) rfl, ?_⟩
  intro blk off cap i j zs w hz hc hm hij hj cs
  have hH : Go.Sort.Holds (Value.int .i64) w blk off zs.toArray := by
    intro k hk
    have hk' : k < zs.length := by simpa using hk
    have := hz k hk'
    refine ⟨?_, this.2⟩
    rw [this.1]; simp [hk']
  obtain ⟨e, w', fr, ⟨rfl, q, hq⟩, hcl, hf, hl⟩ := Any.slices_Delete_int deLays blk off cap i j zs w hH hc hm hij hj cs
  have e2 : w' = (Go.Sort.ahead w q).setCells blk off ((zs.take i ++ zs.drop j ++ List.replicate (j - i) 0).map (Value.int .i64)) := by
    rw [hq]
    have hl1 : (zs.take i ++ zs.drop j ++ List.replicate (j - i) 0).length = zs.toArray.size := by simp; omega
    have h1 := Go.Lib.putRow_setCells (Value.int .i64) (Go.Sort.ahead w q) blk off (zs.take i ++ zs.drop j ++ List.replicate (j - i) 0) zs.toArray 0 (by omega)
    rw [Go.Sort.putRow_self (Value.int .i64) (Go.Sort.ahead w q) blk off zs.toArray (Go.Sort.holds_ahead (Value.int .i64) w q blk off zs.toArray hH), lay_whole _ _ hl1] at h1
    exact h1.symm
  refine ⟨Go.Sort.ahead w q, ?_, rfl, rfl, rfl, rfl⟩
  rw [← e2]
  exact ⟨fr, hcl, hf, hl⟩
theorem eOk : EOk C (fun _ => True) E where
  kd := rfl
  fn := fun f af h => tab_ok (f, af) (lookup_mem h)
  prim := fun f g h => by
    simp only [C, kd] at h
    split at h
    · cases h
    · split at h
      · cases h
      · split at h <;> cases h
  del := fun f h => by
    simp only [C, kd] at h
    split at h
    · cases h
    · split at h
      · cases h
      · split at h
        · rename_i e
          subst e
          exact de_ok
        · cases h
  stable := fun _ _ _ _ => trivial
  eq := fun t n h => by cases h
  mixed := mixed
end Go.Proofs.Ytalaadcbpjnglaa
namespace Go.Proofs.Ytalaadcbpjnglaa
open Go Go.AM Go.Proofs
theorem clone_ret {p : Nat → Prop} {H : Heap} {v : AV} {xs : List Int} (hx : Sl p H v xs) (hs : xs.length * 8 ≤ 1099511627776) : Ret E 82 [v] (fun _ => False) H xs := by
  refine Ret.ro rfl fn82 rfl ?_
  unfold f82A
  have main : ∀ {Q : AV × Heap → Prop}, (∀ v' H', Sl (fun b => H.length ≤ b) H' v' xs → Q (v', H')) → @optP _ (appendV H.length 1 8 (.s 1 H.length 0 0 (some 0)) v (H ++ [.cells []])) ⟨Q⟩ := fun {Q} go => by
    have ha : Acc H.length (fun _ => True) (H ++ [.cells []]) (.s 1 H.length 0 0 (some 0)) ([] : List Int) := Acc.fresh0 (Nat.le_refl _)
    refine ha.extend (q := fun b => b < H.length) (Nat.le_refl _) (by simp) ((hx.low.app [.cells []]).weak fun b h => h.2) (fun b hb => ⟨trivial, ?_⟩) (by simpa using hs) (by omega) fun v' H' h' _ => go _ _ ?_
    · intro e; simp only [AV.blk, Option.some.injEq] at e; omega
    · rw [List.nil_append] at h'
      rcases h' with h' | ⟨b, o, c, k, e, hb, hk, h1, h2, h3⟩
      · exact .inl h'
      · exact .inr ⟨b, o, c, k, e, hb, hk, h1, h2, h3⟩
  rcases hx with ⟨rfl, rfl⟩ | ⟨b, o, c, k, e, hb, hk, h1, h2, h3⟩
  · simp (disch := (first | assumption | omega | (simp only [List.length_append, List.length_cons, List.length_nil]; omega))) only [↓wD,wU,Nat.reduceBEq,zx150,zx151,zx159,zx160,zx161,zx162,Nat.reduceAdd,Nat.reduceSub,Nat.reduceMul,Nat.reduceLeDiff,Nat.reduceLT,Nat.reduceEqDiff,Int.reduceAdd,Int.reduceSub,Int.reduceMul,Int.reduceNeg,Int.reduceLT,Int.reduceLE,Int.reduceEq,Int.reduceToNat,Int.cast_ofNat_Int,↓reduceIte, *]
    exact Sl.nil
  · subst e
    simp (disch := (first | assumption | omega | (simp only [List.length_append, List.length_cons, List.length_nil]; omega))) only [↓wD,wU,Nat.reduceBEq,zx150,zx151,zx159,zx160,zx161,zx162,Nat.reduceAdd,Nat.reduceSub,Nat.reduceMul,Nat.reduceLeDiff,Nat.reduceLT,Nat.reduceEqDiff,Int.reduceAdd,Int.reduceSub,Int.reduceMul,Int.reduceNeg,Int.reduceLT,Int.reduceLE,Int.reduceEq,Int.reduceToNat,Int.cast_ofNat_Int,↓reduceIte, *]
    refine main fun v' H' h' => ?_
    simp (disch := (first | assumption | omega | (simp only [List.length_append, List.length_cons, List.length_nil]; omega))) only [↓wD,wU,Nat.reduceBEq,zx150,zx151,zx159,zx160,zx161,zx162,Nat.reduceAdd,Nat.reduceSub,Nat.reduceMul,Nat.reduceLeDiff,Nat.reduceLT,Nat.reduceEqDiff,Int.reduceAdd,Int.reduceSub,Int.reduceMul,Int.reduceNeg,Int.reduceLT,Int.reduceLE,Int.reduceEq,Int.reduceToNat,Int.cast_ofNat_Int,↓reduceIte, *]
    exact h'.weak fun _ h => .inr h
end Go.Proofs.Ytalaadcbpjnglaa
namespace Go.Proofs.Ytalaadcbpjnglaa
open Go Go.AM Go.Proofs
def ChR (v : Int) (r : List Int) : Prop := ∀ x ∈ r, 0 ≤ x ∧ x < v
instance (v : Int) (r : List Int) : Decidable (ChR v r) := by unfold ChR; infer_instance
def RowP (v : Int) (k : Nat) (r : List Int) : Prop := r.length = k ∧ 1 ≤ r.length ∧ r.length ≤ 8 ∧ ChR v r
instance (v : Int) (k : Nat) (r : List Int) : Decidable (RowP v k r) := by unfold RowP; infer_instance
def ArrP (v : Int) (t : List (List Int)) : Prop := 2 ≤ v ∧ v ≤ 4 ∧ 1 ≤ t.length ∧ t.length ≤ 16 ∧ ∀ r ∈ t, RowP v (gi t 0).length r
instance (v : Int) (t : List (List Int)) : Decidable (ArrP v t) := by unfold ArrP; infer_instance
/-- how many columns -/
def wd (t : List (List Int)) : Nat := (gi t 0).length
theorem ArrP.row {v : Int} {t : List (List Int)} (h : ArrP v t) {r : List Int} (hr : r ∈ t) : r.length = wd t ∧ ChR v r := ⟨(h.2.2.2.2 r hr).1, (h.2.2.2.2 r hr).2.2.2⟩
theorem ArrP.wd {v : Int} {t : List (List Int)} (h : ArrP v t) : 1 ≤ wd t ∧ wd t ≤ 8 := by
  have := h.2.2.2.2 (gi t 0) (gi_mem (by omega) (by have := h.2.2.1; omega))
  exact ⟨this.2.1, this.2.2.1⟩
theorem foldl_min_le {xs : List Int} : ∀ {m : Int}, xs.foldl min m ≤ m ∧ ∀ x ∈ xs, xs.foldl min m ≤ x := by
  induction xs with
  | nil => simp
  | cons x xs ih =>
    intro m
    have := ih (m := min m x)
    simp only [List.foldl_cons, List.mem_cons, forall_eq_or_imp]
    exact ⟨by omega, by omega, this.2⟩
theorem foldl_max_ge {xs : List Int} : ∀ {m : Int}, m ≤ xs.foldl max m ∧ ∀ x ∈ xs, x ≤ xs.foldl max m := by
  induction xs with
  | nil => simp
  | cons x xs ih =>
    intro m
    have := ih (m := max m x)
    simp only [List.foldl_cons, List.mem_cons, forall_eq_or_imp]
    exact ⟨by omega, by omega, this.2⟩
theorem foldl_min_mem {xs : List Int} : ∀ {m : Int}, xs.foldl min m = m ∨ xs.foldl min m ∈ xs := by
  induction xs with
  | nil => simp
  | cons x xs ih =>
    intro m
    simp only [List.foldl_cons, List.mem_cons]
    rcases ih (m := min m x) with h | h
    · rw [h]; rcases Int.le_total m x with h1 | h1
      · left; omega
      · right; left; omega
    · exact .inr (.inr h)
theorem foldl_max_mem {xs : List Int} : ∀ {m : Int}, xs.foldl max m = m ∨ xs.foldl max m ∈ xs := by
  induction xs with
  | nil => simp
  | cons x xs ih =>
    intro m
    simp only [List.foldl_cons, List.mem_cons]
    rcases ih (m := max m x) with h | h
    · rw [h]; rcases Int.le_total m x with h1 | h1
      · right; left; omega
      · left; omega
    · exact .inr (.inr h)
def minL (xs : List Int) : Int := (xs.drop 1).foldl min (gi xs 0)
def maxL (xs : List Int) : Int := (xs.drop 1).foldl max (gi xs 0)
theorem minL_spec {xs : List Int} (h : 1 ≤ xs.length) : minL xs ∈ xs ∧ ∀ x ∈ xs, minL xs ≤ x := by
  cases xs with
  | nil => simp at h
  | cons x xs =>
    simp only [minL, zx181, List.drop_succ_cons, List.drop_zero]
    have h1 := foldl_min_le (xs := xs) (m := x)
    refine ⟨?_, fun y hy => ?_⟩
    · rcases foldl_min_mem (xs := xs) (m := x) with h | h
      · rw [h]; simp
      · exact List.mem_cons_of_mem _ h
    · rcases List.mem_cons.1 hy with rfl | hy
      · exact h1.1
      · exact h1.2 y hy
theorem maxL_spec {xs : List Int} (h : 1 ≤ xs.length) : maxL xs ∈ xs ∧ ∀ x ∈ xs, x ≤ maxL xs := by
  cases xs with
  | nil => simp at h
  | cons x xs =>
    simp only [maxL, zx181, List.drop_succ_cons, List.drop_zero]
    have h1 := foldl_max_ge (xs := xs) (m := x)
    refine ⟨?_, fun y hy => ?_⟩
    · rcases foldl_max_mem (xs := xs) (m := x) with h | h
      · rw [h]; simp
      · exact List.mem_cons_of_mem _ h
    · rcases List.mem_cons.1 hy with rfl | hy
      · exact h1.1
      · exact h1.2 y hy
theorem take_drop1 {xs : List Int} {i : Nat} (h1 : 1 ≤ i) (h : i < xs.length) : (xs.take (i + 1)).drop 1 = (xs.take i).drop 1 ++ [gi xs i] := by
  rw [take_gi h, List.drop_append_of_le_length (by rw [List.length_take]; omega)]
theorem minL_take {xs : List Int} {i : Nat} (h1 : 1 ≤ i) (h : i < xs.length) : minL (xs.take (i + 1)) = min (minL (xs.take i)) (gi xs i) := by
  have e : ∀ j, 1 ≤ j → gi (xs.take j) 0 = gi xs 0 := fun j hj => by cases xs with | nil => simp at h | cons x r => cases j with | zero => omega | succ j => rfl
  unfold minL
  rw [take_drop1 h1 h, List.foldl_append, e _ h1, e _ (by omega)]; rfl
theorem maxL_take {xs : List Int} {i : Nat} (h1 : 1 ≤ i) (h : i < xs.length) : maxL (xs.take (i + 1)) = max (maxL (xs.take i)) (gi xs i) := by
  have e : ∀ j, 1 ≤ j → gi (xs.take j) 0 = gi xs 0 := fun j hj => by cases xs with | nil => simp at h | cons x r => cases j with | zero => omega | succ j => rfl
  unfold maxL
  rw [take_drop1 h1 h, List.foldl_append, e _ h1, e _ (by omega)]; rfl
theorem min_ret {p : Nat → Prop} {H : Heap} {v : AV} {xs : List Int} (hx : Sl p H v xs) (h : 1 ≤ xs.length) : RetP E 98 [v] H (.i (minL xs)) := by
  refine RetP.ro rfl fn98 rfl rfl ?_
  unfold f98A
  have hb := hx.bound
  simp (disch := (first | assumption | omega | (simp only [List.length_append, List.length_cons, List.length_nil]; omega))) only [↓wD,wU,Nat.reduceBEq,zx150,zx151,zx159,zx160,zx161,zx162,Nat.reduceAdd,Nat.reduceSub,Nat.reduceMul,Nat.reduceLeDiff,Nat.reduceLT,Nat.reduceEqDiff,Int.reduceAdd,Int.reduceSub,Int.reduceMul,Int.reduceNeg,Int.reduceLT,Int.reduceLE,Int.reduceEq,Int.reduceToNat,Int.cast_ofNat_Int,↓reduceIte, *, hx.I]
  refine Wp.for (xs.length - 1) (fun i a H' => H' = H ∧ a 0 = v ∧ a 4 = .i (i + 1) ∧ a 3 = .i (minL (xs.take (i + 1)))) ?_ ?_
  · rintro i a H' hi ⟨rfl, a0, a4, a3⟩ ih
    simp (disch := (first | assumption | omega | (simp only [List.length_append, List.length_cons, List.length_nil]; omega))) only [↓wD,wU,Nat.reduceBEq,zx150,zx151,zx159,zx160,zx161,zx162,Nat.reduceAdd,Nat.reduceSub,Nat.reduceMul,Nat.reduceLeDiff,Nat.reduceLT,Nat.reduceEqDiff,Int.reduceAdd,Int.reduceSub,Int.reduceMul,Int.reduceNeg,Int.reduceLT,Int.reduceLE,Int.reduceEq,Int.reduceToNat,Int.cast_ofNat_Int,↓reduceIte, *, hx.I]
    refine condP_split (fun hlt => ?_) (fun hlt => ?_)
    · have hi' : i < xs.length - 1 := by omega
      have e := minL_take (xs := xs) (i := i + 1) (by omega) (by omega)
      simp only [Int.natCast_add, Int.natCast_one] at e
      simp (disch := (first | assumption | omega | (simp only [List.length_append, List.length_cons, List.length_nil]; omega))) only [↓wD,wU,Nat.reduceBEq,zx150,zx151,zx159,zx160,zx161,zx162,Nat.reduceAdd,Nat.reduceSub,Nat.reduceMul,Nat.reduceLeDiff,Nat.reduceLT,Nat.reduceEqDiff,Int.reduceAdd,Int.reduceSub,Int.reduceMul,Int.reduceNeg,Int.reduceLT,Int.reduceLE,Int.reduceEq,Int.reduceToNat,Int.cast_ofNat_Int,↓reduceIte, *, hx.I]
      refine (ih hi').go ⟨rfl, ?_⟩
      simp (disch := (first | assumption | omega | (simp only [List.length_append, List.length_cons, List.length_nil]; omega))) only [↓wD,wU,Nat.reduceBEq,zx150,zx151,zx159,zx160,zx161,zx162,Nat.reduceAdd,Nat.reduceSub,Nat.reduceMul,Nat.reduceLeDiff,Nat.reduceLT,Nat.reduceEqDiff,Int.reduceAdd,Int.reduceSub,Int.reduceMul,Int.reduceNeg,Int.reduceLT,Int.reduceLE,Int.reduceEq,Int.reduceToNat,Int.cast_ofNat_Int,↓reduceIte, *]
    · simp (disch := (first | assumption | omega | (simp only [List.length_append, List.length_cons, List.length_nil]; omega))) only [↓wD,wU,Nat.reduceBEq,zx150,zx151,zx159,zx160,zx161,zx162,Nat.reduceAdd,Nat.reduceSub,Nat.reduceMul,Nat.reduceLeDiff,Nat.reduceLT,Nat.reduceEqDiff,Int.reduceAdd,Int.reduceSub,Int.reduceMul,Int.reduceNeg,Int.reduceLT,Int.reduceLE,Int.reduceEq,Int.reduceToNat,Int.cast_ofNat_Int,↓reduceIte, *]
      rw [List.take_of_length_le (by omega)]
  · (simp (disch := (first | assumption | omega | (simp only [List.length_append, List.length_cons, List.length_nil]; omega))) only [↓wD,wU,Nat.reduceBEq,zx150,zx151,zx159,zx160,zx161,zx162,Nat.reduceAdd,Nat.reduceSub,Nat.reduceMul,Nat.reduceLeDiff,Nat.reduceLT,Nat.reduceEqDiff,Int.reduceAdd,Int.reduceSub,Int.reduceMul,Int.reduceNeg,Int.reduceLT,Int.reduceLE,Int.reduceEq,Int.reduceToNat,Int.cast_ofNat_Int,↓reduceIte, *]) <;> first | rfl | skip
    unfold minL
    cases xs with
    | nil => simp at h
    | cons x r => simp [zx181]
theorem max_ret {p : Nat → Prop} {H : Heap} {v : AV} {xs : List Int} (hx : Sl p H v xs) (h : 1 ≤ xs.length) : RetP E 99 [v] H (.i (maxL xs)) := by
  refine RetP.ro rfl fn99 rfl rfl ?_
  unfold f99A
  have hb := hx.bound
  simp (disch := (first | assumption | omega | (simp only [List.length_append, List.length_cons, List.length_nil]; omega))) only [↓wD,wU,Nat.reduceBEq,zx150,zx151,zx159,zx160,zx161,zx162,Nat.reduceAdd,Nat.reduceSub,Nat.reduceMul,Nat.reduceLeDiff,Nat.reduceLT,Nat.reduceEqDiff,Int.reduceAdd,Int.reduceSub,Int.reduceMul,Int.reduceNeg,Int.reduceLT,Int.reduceLE,Int.reduceEq,Int.reduceToNat,Int.cast_ofNat_Int,↓reduceIte, *, hx.I]
  refine Wp.for (xs.length - 1) (fun i a H' => H' = H ∧ a 0 = v ∧ a 4 = .i (i + 1) ∧ a 3 = .i (maxL (xs.take (i + 1)))) ?_ ?_
  · rintro i a H' hi ⟨rfl, a0, a4, a3⟩ ih
    simp (disch := (first | assumption | omega | (simp only [List.length_append, List.length_cons, List.length_nil]; omega))) only [↓wD,wU,Nat.reduceBEq,zx150,zx151,zx159,zx160,zx161,zx162,Nat.reduceAdd,Nat.reduceSub,Nat.reduceMul,Nat.reduceLeDiff,Nat.reduceLT,Nat.reduceEqDiff,Int.reduceAdd,Int.reduceSub,Int.reduceMul,Int.reduceNeg,Int.reduceLT,Int.reduceLE,Int.reduceEq,Int.reduceToNat,Int.cast_ofNat_Int,↓reduceIte, *, hx.I]
    refine condP_split (fun hlt => ?_) (fun hlt => ?_)
    · have hi' : i < xs.length - 1 := by omega
      have e := maxL_take (xs := xs) (i := i + 1) (by omega) (by omega)
      simp only [Int.natCast_add, Int.natCast_one] at e
      simp (disch := (first | assumption | omega | (simp only [List.length_append, List.length_cons, List.length_nil]; omega))) only [↓wD,wU,Nat.reduceBEq,zx150,zx151,zx159,zx160,zx161,zx162,Nat.reduceAdd,Nat.reduceSub,Nat.reduceMul,Nat.reduceLeDiff,Nat.reduceLT,Nat.reduceEqDiff,Int.reduceAdd,Int.reduceSub,Int.reduceMul,Int.reduceNeg,Int.reduceLT,Int.reduceLE,Int.reduceEq,Int.reduceToNat,Int.cast_ofNat_Int,↓reduceIte, *, hx.I]
      refine (ih hi').go ⟨rfl, ?_⟩
      simp (disch := (first | assumption | omega | (simp only [List.length_append, List.length_cons, List.length_nil]; omega))) only [↓wD,wU,Nat.reduceBEq,zx150,zx151,zx159,zx160,zx161,zx162,Nat.reduceAdd,Nat.reduceSub,Nat.reduceMul,Nat.reduceLeDiff,Nat.reduceLT,Nat.reduceEqDiff,Int.reduceAdd,Int.reduceSub,Int.reduceMul,Int.reduceNeg,Int.reduceLT,Int.reduceLE,Int.reduceEq,Int.reduceToNat,Int.cast_ofNat_Int,↓reduceIte, *]
    · simp (disch := (first | assumption | omega | (simp only [List.length_append, List.length_cons, List.length_nil]; omega))) only [↓wD,wU,Nat.reduceBEq,zx150,zx151,zx159,zx160,zx161,zx162,Nat.reduceAdd,Nat.reduceSub,Nat.reduceMul,Nat.reduceLeDiff,Nat.reduceLT,Nat.reduceEqDiff,Int.reduceAdd,Int.reduceSub,Int.reduceMul,Int.reduceNeg,Int.reduceLT,Int.reduceLE,Int.reduceEq,Int.reduceToNat,Int.cast_ofNat_Int,↓reduceIte, *]
      rw [List.take_of_length_le (by omega)]
  · (simp (disch := (first | assumption | omega | (simp only [List.length_append, List.length_cons, List.length_nil]; omega))) only [↓wD,wU,Nat.reduceBEq,zx150,zx151,zx159,zx160,zx161,zx162,Nat.reduceAdd,Nat.reduceSub,Nat.reduceMul,Nat.reduceLeDiff,Nat.reduceLT,Nat.reduceEqDiff,Int.reduceAdd,Int.reduceSub,Int.reduceMul,Int.reduceNeg,Int.reduceLT,Int.reduceLE,Int.reduceEq,Int.reduceToNat,Int.cast_ofNat_Int,↓reduceIte, *]) <;> first | rfl | skip
    unfold maxL
    cases xs with
    | nil => simp at h
    | cons x r => simp [zx181]
end Go.Proofs.Ytalaadcbpjnglaa
namespace Go.Proofs.Ytalaadcbpjnglaa
open Go Go.AM Go.Proofs
theorem chr_min {v : Int} {r : List Int} (h : 1 ≤ r.length) (h1 : 0 ≤ minL r) (h2 : maxL r < v) : ChR v r := fun x hx =>
  ⟨Int.le_trans h1 ((minL_spec h).2 x hx), Int.lt_of_le_of_lt ((maxL_spec h).2 x hx) h2⟩
theorem chr_of {v : Int} {r : List Int} (h : 1 ≤ r.length) (hc : ChR v r) : 0 ≤ minL r ∧ maxL r < v := ⟨(hc _ (minL_spec h).1).1, (hc _ (maxL_spec h).1).2⟩
theorem valid_ret {p : Nat → Prop} {H : Heap} {rows : AV} {v : Int} {t : List (List Int)} (ht : Sl p H rows t) : RetP E 74 [.ag [.i v, rows]] H (.b (decide (ArrP v t))) := by
  refine RetP.ro rfl fn74 rfl rfl ?_
  unfold f74A
  have hb := ht.bound
  by_cases h0 : 2 ≤ v ∧ v ≤ 4 ∧ 1 ≤ t.length ∧ t.length ≤ 16
  · obtain ⟨v1, v2, t1, t2⟩ := h0
    simp (disch := (first | assumption | omega | (simp only [List.length_append, List.length_cons, List.length_nil]; omega))) only [↓wD,wU,Nat.reduceBEq,zx150,zx151,zx159,zx160,zx161,zx162,Nat.reduceAdd,Nat.reduceSub,Nat.reduceMul,Nat.reduceLeDiff,Nat.reduceLT,Nat.reduceEqDiff,Int.reduceAdd,Int.reduceSub,Int.reduceMul,Int.reduceNeg,Int.reduceLT,Int.reduceLE,Int.reduceEq,Int.reduceToNat,Int.cast_ofNat_Int,↓reduceIte, *, ht.L]
    have k1 := ht.app [.cells [.i v, rows]]
    refine Wp.for t.length (fun i a H' => H' = H ++ [.cells [.i v, rows]] ∧ a 1 = .p H.length 0 ∧ a 26 = rows ∧ a 27 = .i t.length ∧ a 28 = .i i ∧ ∀ r ∈ t.take i, RowP v (gi t 0).length r) ?_ ?_
    · rintro i a H' hi ⟨rfl, a1, a26, a27, a28, hh⟩ ih
      simp (disch := (first | assumption | omega | (simp only [List.length_append, List.length_cons, List.length_nil]; omega))) only [↓wD,wU,Nat.reduceBEq,zx150,zx151,zx159,zx160,zx161,zx162,Nat.reduceAdd,Nat.reduceSub,Nat.reduceMul,Nat.reduceLeDiff,Nat.reduceLT,Nat.reduceEqDiff,Int.reduceAdd,Int.reduceSub,Int.reduceMul,Int.reduceNeg,Int.reduceLT,Int.reduceLE,Int.reduceEq,Int.reduceToNat,Int.cast_ofNat_Int,↓reduceIte, *]
      refine condP_split (fun hlt => ?_) (fun hlt => ?_)
      · have hi' : i < t.length := by omega
        have g1 := k1.get (k := (i : Int)) (by omega) (by omega)
        have g0 := k1.get (k := 0) (by omega) (by omega)
        have gb := g1.bound
        have gb0 := g0.bound
        have bad : ¬ RowP v (gi t 0).length (gi t i) → AV.b false = AV.b (decide (ArrP v t)) := fun h => avb_f fun hh => h (hh.2.2.2.2 _ (mem_gi hi'))
        by_cases q1 : 1 ≤ (gi t i).length
        · by_cases q2 : (gi t i).length ≤ 8
          · by_cases q3 : (gi t i).length = (gi t 0).length
            · by_cases q4 : 0 ≤ minL (gi t i)
              · by_cases q5 : maxL (gi t i) < v
                · have q3' : ((gi t i).length : Int) = (gi t 0).length := by omega
                  simp (disch := (first | assumption | omega | (simp only [List.length_append, List.length_cons, List.length_nil]; omega))) only [↓wD,wU,Nat.reduceBEq,zx150,zx151,zx159,zx160,zx161,zx162,Nat.reduceAdd,Nat.reduceSub,Nat.reduceMul,Nat.reduceLeDiff,Nat.reduceLT,Nat.reduceEqDiff,Int.reduceAdd,Int.reduceSub,Int.reduceMul,Int.reduceNeg,Int.reduceLT,Int.reduceLE,Int.reduceEq,Int.reduceToNat,Int.cast_ofNat_Int,↓reduceIte, *, k1.L, g1.I, g0.I, (min_ret g1 q1).call, (max_ret g1 q1).call]
                  refine (ih hi').go ⟨rfl, ?_⟩
                  simp (disch := (first | assumption | omega | (simp only [List.length_append, List.length_cons, List.length_nil]; omega))) only [↓wD,wU,Nat.reduceBEq,zx150,zx151,zx159,zx160,zx161,zx162,Nat.reduceAdd,Nat.reduceSub,Nat.reduceMul,Nat.reduceLeDiff,Nat.reduceLT,Nat.reduceEqDiff,Int.reduceAdd,Int.reduceSub,Int.reduceMul,Int.reduceNeg,Int.reduceLT,Int.reduceLE,Int.reduceEq,Int.reduceToNat,Int.cast_ofNat_Int,↓reduceIte, *]
                  exact mem_take_gi hh hi' ⟨q3, q1, q2, chr_min q1 q4 q5⟩
                · have q3' : ((gi t i).length : Int) = (gi t 0).length := by omega
                  simp (disch := (first | assumption | omega | (simp only [List.length_append, List.length_cons, List.length_nil]; omega))) only [↓wD,wU,Nat.reduceBEq,zx150,zx151,zx159,zx160,zx161,zx162,Nat.reduceAdd,Nat.reduceSub,Nat.reduceMul,Nat.reduceLeDiff,Nat.reduceLT,Nat.reduceEqDiff,Int.reduceAdd,Int.reduceSub,Int.reduceMul,Int.reduceNeg,Int.reduceLT,Int.reduceLE,Int.reduceEq,Int.reduceToNat,Int.cast_ofNat_Int,↓reduceIte, *, k1.L, g1.I, g0.I, (min_ret g1 q1).call, (max_ret g1 q1).call]
                  exact bad fun h => q5 (chr_of q1 h.2.2.2).2
              · have q3' : ((gi t i).length : Int) = (gi t 0).length := by omega
                simp (disch := (first | assumption | omega | (simp only [List.length_append, List.length_cons, List.length_nil]; omega))) only [↓wD,wU,Nat.reduceBEq,zx150,zx151,zx159,zx160,zx161,zx162,Nat.reduceAdd,Nat.reduceSub,Nat.reduceMul,Nat.reduceLeDiff,Nat.reduceLT,Nat.reduceEqDiff,Int.reduceAdd,Int.reduceSub,Int.reduceMul,Int.reduceNeg,Int.reduceLT,Int.reduceLE,Int.reduceEq,Int.reduceToNat,Int.cast_ofNat_Int,↓reduceIte, *, k1.L, g1.I, g0.I, (min_ret g1 q1).call, (max_ret g1 q1).call]
                exact bad fun h => q4 (chr_of q1 h.2.2.2).1
            · have q3' : ¬ ((gi t i).length : Int) = (gi t 0).length := by omega
              simp (disch := (first | assumption | omega | (simp only [List.length_append, List.length_cons, List.length_nil]; omega))) only [↓wD,wU,Nat.reduceBEq,zx150,zx151,zx159,zx160,zx161,zx162,Nat.reduceAdd,Nat.reduceSub,Nat.reduceMul,Nat.reduceLeDiff,Nat.reduceLT,Nat.reduceEqDiff,Int.reduceAdd,Int.reduceSub,Int.reduceMul,Int.reduceNeg,Int.reduceLT,Int.reduceLE,Int.reduceEq,Int.reduceToNat,Int.cast_ofNat_Int,↓reduceIte, *, k1.L, g1.I, g0.I]
              exact bad fun h => q3 h.1
          · simp (disch := (first | assumption | omega | (simp only [List.length_append, List.length_cons, List.length_nil]; omega))) only [↓wD,wU,Nat.reduceBEq,zx150,zx151,zx159,zx160,zx161,zx162,Nat.reduceAdd,Nat.reduceSub,Nat.reduceMul,Nat.reduceLeDiff,Nat.reduceLT,Nat.reduceEqDiff,Int.reduceAdd,Int.reduceSub,Int.reduceMul,Int.reduceNeg,Int.reduceLT,Int.reduceLE,Int.reduceEq,Int.reduceToNat,Int.cast_ofNat_Int,↓reduceIte, *, k1.L, g1.I, g0.I]
            exact bad fun h => q2 h.2.2.1
        · simp (disch := (first | assumption | omega | (simp only [List.length_append, List.length_cons, List.length_nil]; omega))) only [↓wD,wU,Nat.reduceBEq,zx150,zx151,zx159,zx160,zx161,zx162,Nat.reduceAdd,Nat.reduceSub,Nat.reduceMul,Nat.reduceLeDiff,Nat.reduceLT,Nat.reduceEqDiff,Int.reduceAdd,Int.reduceSub,Int.reduceMul,Int.reduceNeg,Int.reduceLT,Int.reduceLE,Int.reduceEq,Int.reduceToNat,Int.cast_ofNat_Int,↓reduceIte, *, k1.L, g1.I, g0.I]
          exact bad fun h => q1 h.2.1
      · simp (disch := (first | assumption | omega | (simp only [List.length_append, List.length_cons, List.length_nil]; omega))) only [↓wD,wU,Nat.reduceBEq,zx150,zx151,zx159,zx160,zx161,zx162,Nat.reduceAdd,Nat.reduceSub,Nat.reduceMul,Nat.reduceLeDiff,Nat.reduceLT,Nat.reduceEqDiff,Int.reduceAdd,Int.reduceSub,Int.reduceMul,Int.reduceNeg,Int.reduceLT,Int.reduceLE,Int.reduceEq,Int.reduceToNat,Int.cast_ofNat_Int,↓reduceIte, *]
        exact avb_t ⟨v1, v2, t1, t2, mem_take_all hh (by omega)⟩
    · (simp (disch := (first | assumption | omega | (simp only [List.length_append, List.length_cons, List.length_nil]; omega))) only [↓wD,wU,Nat.reduceBEq,zx150,zx151,zx159,zx160,zx161,zx162,Nat.reduceAdd,Nat.reduceSub,Nat.reduceMul,Nat.reduceLeDiff,Nat.reduceLT,Nat.reduceEqDiff,Int.reduceAdd,Int.reduceSub,Int.reduceMul,Int.reduceNeg,Int.reduceLT,Int.reduceLE,Int.reduceEq,Int.reduceToNat,Int.cast_ofNat_Int,↓reduceIte, *]) <;> simp
  · have bad : ¬ ArrP v t := fun h => h0 ⟨h.1, h.2.1, h.2.2.1, h.2.2.2.1⟩
    by_cases h1 : v < 2
    · clear h0
      simp (disch := (first | assumption | omega | (simp only [List.length_append, List.length_cons, List.length_nil]; omega))) only [↓wD,wU,Nat.reduceBEq,zx150,zx151,zx159,zx160,zx161,zx162,Nat.reduceAdd,Nat.reduceSub,Nat.reduceMul,Nat.reduceLeDiff,Nat.reduceLT,Nat.reduceEqDiff,Int.reduceAdd,Int.reduceSub,Int.reduceMul,Int.reduceNeg,Int.reduceLT,Int.reduceLE,Int.reduceEq,Int.reduceToNat,Int.cast_ofNat_Int,↓reduceIte, *, ht.L]
    by_cases h2 : 4 < v
    · clear h0
      simp (disch := (first | assumption | omega | (simp only [List.length_append, List.length_cons, List.length_nil]; omega))) only [↓wD,wU,Nat.reduceBEq,zx150,zx151,zx159,zx160,zx161,zx162,Nat.reduceAdd,Nat.reduceSub,Nat.reduceMul,Nat.reduceLeDiff,Nat.reduceLT,Nat.reduceEqDiff,Int.reduceAdd,Int.reduceSub,Int.reduceMul,Int.reduceNeg,Int.reduceLT,Int.reduceLE,Int.reduceEq,Int.reduceToNat,Int.cast_ofNat_Int,↓reduceIte, *, ht.L]
    by_cases h3 : t.length < 1
    · clear h0
      simp (disch := (first | assumption | omega | (simp only [List.length_append, List.length_cons, List.length_nil]; omega))) only [↓wD,wU,Nat.reduceBEq,zx150,zx151,zx159,zx160,zx161,zx162,Nat.reduceAdd,Nat.reduceSub,Nat.reduceMul,Nat.reduceLeDiff,Nat.reduceLT,Nat.reduceEqDiff,Int.reduceAdd,Int.reduceSub,Int.reduceMul,Int.reduceNeg,Int.reduceLT,Int.reduceLE,Int.reduceEq,Int.reduceToNat,Int.cast_ofNat_Int,↓reduceIte, *, ht.L]
    · have h4 : 16 < t.length := by omega
      clear h0
      simp (disch := (first | assumption | omega | (simp only [List.length_append, List.length_cons, List.length_nil]; omega))) only [↓wD,wU,Nat.reduceBEq,zx150,zx151,zx159,zx160,zx161,zx162,Nat.reduceAdd,Nat.reduceSub,Nat.reduceMul,Nat.reduceLeDiff,Nat.reduceLT,Nat.reduceEqDiff,Int.reduceAdd,Int.reduceSub,Int.reduceMul,Int.reduceNeg,Int.reduceLT,Int.reduceLE,Int.reduceEq,Int.reduceToNat,Int.cast_ofNat_Int,↓reduceIte, *, ht.L]
theorem columns_ret {p : Nat → Prop} {H : Heap} {rows : AV} {v : Int} {t : List (List Int)} (ht : Sl p H rows t) (h : 1 ≤ t.length) : RetP E 75 [.ag [.i v, rows]] H (.i (wd t)) := by
  refine RetP.ro rfl fn75 rfl rfl ?_
  unfold f75A
  have k1 := ht.app [.cells [.i v, rows]]
  have g0 := k1.get (k := 0) (by omega) (by omega)
  simp (disch := (first | assumption | omega | (simp only [List.length_append, List.length_cons, List.length_nil]; omega))) only [↓wD,wU,Nat.reduceBEq,zx150,zx151,zx159,zx160,zx161,zx162,Nat.reduceAdd,Nat.reduceSub,Nat.reduceMul,Nat.reduceLeDiff,Nat.reduceLT,Nat.reduceEqDiff,Int.reduceAdd,Int.reduceSub,Int.reduceMul,Int.reduceNeg,Int.reduceLT,Int.reduceLE,Int.reduceEq,Int.reduceToNat,Int.cast_ofNat_Int,↓reduceIte, *, k1.L, g0.I]
  rfl
theorem rvalid_ret {p : Nat → Prop} {H : Heap} {rows : AV} {v : Int} {t : List (List Int)} (ht : Sl p H rows t) : RetP E 38 [.ag [.i v, rows]] H (.b (decide (ArrP v t))) := by
  refine RetP.ro rfl fn38 rfl rfl ?_
  unfold f38A
  have hb := ht.bound
  by_cases h0 : 2 ≤ v ∧ v ≤ 4 ∧ 1 ≤ t.length ∧ t.length ≤ 16
  · obtain ⟨v1, v2, t1, t2⟩ := h0
    simp (disch := (first | assumption | omega | (simp only [List.length_append, List.length_cons, List.length_nil]; omega))) only [↓wD,wU,Nat.reduceBEq,zx150,zx151,zx159,zx160,zx161,zx162,Nat.reduceAdd,Nat.reduceSub,Nat.reduceMul,Nat.reduceLeDiff,Nat.reduceLT,Nat.reduceEqDiff,Int.reduceAdd,Int.reduceSub,Int.reduceMul,Int.reduceNeg,Int.reduceLT,Int.reduceLE,Int.reduceEq,Int.reduceToNat,Int.cast_ofNat_Int,↓reduceIte, *, ht.L]
    have k1 := ht.app [.cells [.i v, rows]]
    refine Wp.for t.length (fun i a H' => H' = H ++ [.cells [.i v, rows]] ∧ a 1 = .p H.length 0 ∧ a 28 = rows ∧ a 29 = .i t.length ∧ a 30 = .i i ∧ ∀ r ∈ t.take i, RowP v (gi t 0).length r) ?_ ?_
    · rintro i a H' hi ⟨rfl, a1, a28, a29, a30, hh⟩ ih
      simp (disch := (first | assumption | omega | (simp only [List.length_append, List.length_cons, List.length_nil]; omega))) only [↓wD,wU,Nat.reduceBEq,zx150,zx151,zx159,zx160,zx161,zx162,Nat.reduceAdd,Nat.reduceSub,Nat.reduceMul,Nat.reduceLeDiff,Nat.reduceLT,Nat.reduceEqDiff,Int.reduceAdd,Int.reduceSub,Int.reduceMul,Int.reduceNeg,Int.reduceLT,Int.reduceLE,Int.reduceEq,Int.reduceToNat,Int.cast_ofNat_Int,↓reduceIte, *]
      refine condP_split (fun hlt => ?_) (fun hlt => ?_)
      · have hi' : i < t.length := by omega
        have g1 := k1.get (k := (i : Int)) (by omega) (by omega)
        have g0 := k1.get (k := 0) (by omega) (by omega)
        have gb := g1.bound
        have gb0 := g0.bound
        have bad : ¬ RowP v (gi t 0).length (gi t i) → AV.b false = AV.b (decide (ArrP v t)) := fun h => avb_f fun hh => h (hh.2.2.2.2 _ (mem_gi hi'))
        by_cases q3 : (gi t i).length = (gi t 0).length
        · have q3' : ((gi t i).length : Int) = (gi t 0).length := by omega
          by_cases q1 : 1 ≤ (gi t i).length
          · by_cases q2 : (gi t i).length ≤ 8
            · simp (disch := (first | assumption | omega | (simp only [List.length_append, List.length_cons, List.length_nil]; omega))) only [↓wD,wU,Nat.reduceBEq,zx150,zx151,zx159,zx160,zx161,zx162,Nat.reduceAdd,Nat.reduceSub,Nat.reduceMul,Nat.reduceLeDiff,Nat.reduceLT,Nat.reduceEqDiff,Int.reduceAdd,Int.reduceSub,Int.reduceMul,Int.reduceNeg,Int.reduceLT,Int.reduceLE,Int.reduceEq,Int.reduceToNat,Int.cast_ofNat_Int,↓reduceIte, *, k1.L, g1.I, g0.I]
              refine Wp.for (gi t i).length (fun j a H' => H' = H ++ [.cells [.i v, rows]] ∧ a 1 = .p H.length 0 ∧ a 28 = rows ∧ a 29 = .i t.length ∧ a 30 = .i i ∧ a 52 = rows.get (H ++ [.cells [.i v, rows]]) i ∧ (∃ n : Int, a 53 = .i n ∧ n ≤ (gi t i).length ∧ (gi t i).length ≤ n) ∧ a 54 = .i j ∧ ChR v ((gi t i).take j)) ?_ ?_
              · rintro j a H' hj ⟨rfl, a1, a28, a29, a30, a52, ⟨n, a53, n1, n2⟩, a54, hh2⟩ ih2
                simp (disch := (first | assumption | omega | (simp only [List.length_append, List.length_cons, List.length_nil]; omega))) only [↓wD,wU,Nat.reduceBEq,zx150,zx151,zx159,zx160,zx161,zx162,Nat.reduceAdd,Nat.reduceSub,Nat.reduceMul,Nat.reduceLeDiff,Nat.reduceLT,Nat.reduceEqDiff,Int.reduceAdd,Int.reduceSub,Int.reduceMul,Int.reduceNeg,Int.reduceLT,Int.reduceLE,Int.reduceEq,Int.reduceToNat,Int.cast_ofNat_Int,↓reduceIte, *]
                refine condP_split (fun hlt2 => ?_) (fun hlt2 => ?_)
                · have hj' : j < (gi t i).length := by omega
                  have bad2 : ¬ (0 ≤ gi (gi t i) j ∧ gi (gi t i) j < v) → AV.b false = AV.b (decide (ArrP v t)) := fun h => bad fun hh => h (hh.2.2.2 _ (mem_gi hj'))
                  (repeat' (first | refine condP_split (fun _ => ?_) (fun _ => ?_) | refine guardP_split (fun _ => ?_) (fun _ => ?_) | refine guardP_splitF (fun _ => ?_) (fun _ => ?_) | (simp (disch := (first | assumption | omega | (simp only [List.length_append, List.length_cons, List.length_nil]; omega))) only [↓wD,wU,Nat.reduceBEq,zx150,zx151,zx159,zx160,zx161,zx162,Nat.reduceAdd,Nat.reduceSub,Nat.reduceMul,Nat.reduceLeDiff,Nat.reduceLT,Nat.reduceEqDiff,Int.reduceAdd,Int.reduceSub,Int.reduceMul,Int.reduceNeg,Int.reduceLT,Int.reduceLE,Int.reduceEq,Int.reduceToNat,Int.cast_ofNat_Int,↓reduceIte, *, g1.I]))) <;> first | exact bad2 (by omega) | skip
                  refine (ih2 hj').go ⟨rfl, ?_⟩
                  simp (disch := (first | assumption | omega | (simp only [List.length_append, List.length_cons, List.length_nil]; omega))) only [↓wD,wU,Nat.reduceBEq,zx150,zx151,zx159,zx160,zx161,zx162,Nat.reduceAdd,Nat.reduceSub,Nat.reduceMul,Nat.reduceLeDiff,Nat.reduceLT,Nat.reduceEqDiff,Int.reduceAdd,Int.reduceSub,Int.reduceMul,Int.reduceNeg,Int.reduceLT,Int.reduceLE,Int.reduceEq,Int.reduceToNat,Int.cast_ofNat_Int,↓reduceIte, *]
                  exact ⟨⟨n, rfl, by omega, by omega⟩, mem_take_gi (P := fun x => 0 ≤ x ∧ x < v) hh2 hj' (by omega)⟩
                · simp (disch := (first | assumption | omega | (simp only [List.length_append, List.length_cons, List.length_nil]; omega))) only [↓wD,wU,Nat.reduceBEq,zx150,zx151,zx159,zx160,zx161,zx162,Nat.reduceAdd,Nat.reduceSub,Nat.reduceMul,Nat.reduceLeDiff,Nat.reduceLT,Nat.reduceEqDiff,Int.reduceAdd,Int.reduceSub,Int.reduceMul,Int.reduceNeg,Int.reduceLT,Int.reduceLE,Int.reduceEq,Int.reduceToNat,Int.cast_ofNat_Int,↓reduceIte, *]
                  refine (ih hi').go ⟨rfl, ?_⟩
                  simp (disch := (first | assumption | omega | (simp only [List.length_append, List.length_cons, List.length_nil]; omega))) only [↓wD,wU,Nat.reduceBEq,zx150,zx151,zx159,zx160,zx161,zx162,Nat.reduceAdd,Nat.reduceSub,Nat.reduceMul,Nat.reduceLeDiff,Nat.reduceLT,Nat.reduceEqDiff,Int.reduceAdd,Int.reduceSub,Int.reduceMul,Int.reduceNeg,Int.reduceLT,Int.reduceLE,Int.reduceEq,Int.reduceToNat,Int.cast_ofNat_Int,↓reduceIte, *]
                  exact mem_take_gi hh hi' ⟨q3, q1, q2, mem_take_all hh2 (by omega)⟩
              · (simp (disch := (first | assumption | omega | (simp only [List.length_append, List.length_cons, List.length_nil]; omega))) only [↓wD,wU,Nat.reduceBEq,zx150,zx151,zx159,zx160,zx161,zx162,Nat.reduceAdd,Nat.reduceSub,Nat.reduceMul,Nat.reduceLeDiff,Nat.reduceLT,Nat.reduceEqDiff,Int.reduceAdd,Int.reduceSub,Int.reduceMul,Int.reduceNeg,Int.reduceLT,Int.reduceLE,Int.reduceEq,Int.reduceToNat,Int.cast_ofNat_Int,↓reduceIte, *]) <;> (first | exact ⟨⟨_, rfl, by omega, by omega⟩, by simp [ChR]⟩ | simp [ChR])
            · simp (disch := (first | assumption | omega | (simp only [List.length_append, List.length_cons, List.length_nil]; omega))) only [↓wD,wU,Nat.reduceBEq,zx150,zx151,zx159,zx160,zx161,zx162,Nat.reduceAdd,Nat.reduceSub,Nat.reduceMul,Nat.reduceLeDiff,Nat.reduceLT,Nat.reduceEqDiff,Int.reduceAdd,Int.reduceSub,Int.reduceMul,Int.reduceNeg,Int.reduceLT,Int.reduceLE,Int.reduceEq,Int.reduceToNat,Int.cast_ofNat_Int,↓reduceIte, *, k1.L, g1.I, g0.I]
              exact bad fun h => q2 h.2.2.1
          · simp (disch := (first | assumption | omega | (simp only [List.length_append, List.length_cons, List.length_nil]; omega))) only [↓wD,wU,Nat.reduceBEq,zx150,zx151,zx159,zx160,zx161,zx162,Nat.reduceAdd,Nat.reduceSub,Nat.reduceMul,Nat.reduceLeDiff,Nat.reduceLT,Nat.reduceEqDiff,Int.reduceAdd,Int.reduceSub,Int.reduceMul,Int.reduceNeg,Int.reduceLT,Int.reduceLE,Int.reduceEq,Int.reduceToNat,Int.cast_ofNat_Int,↓reduceIte, *, k1.L, g1.I, g0.I]
            exact bad fun h => q1 h.2.1
        · have q3' : ¬ ((gi t i).length : Int) = (gi t 0).length := by omega
          simp (disch := (first | assumption | omega | (simp only [List.length_append, List.length_cons, List.length_nil]; omega))) only [↓wD,wU,Nat.reduceBEq,zx150,zx151,zx159,zx160,zx161,zx162,Nat.reduceAdd,Nat.reduceSub,Nat.reduceMul,Nat.reduceLeDiff,Nat.reduceLT,Nat.reduceEqDiff,Int.reduceAdd,Int.reduceSub,Int.reduceMul,Int.reduceNeg,Int.reduceLT,Int.reduceLE,Int.reduceEq,Int.reduceToNat,Int.cast_ofNat_Int,↓reduceIte, *, k1.L, g1.I, g0.I]
          exact bad fun h => q3 h.1
      · simp (disch := (first | assumption | omega | (simp only [List.length_append, List.length_cons, List.length_nil]; omega))) only [↓wD,wU,Nat.reduceBEq,zx150,zx151,zx159,zx160,zx161,zx162,Nat.reduceAdd,Nat.reduceSub,Nat.reduceMul,Nat.reduceLeDiff,Nat.reduceLT,Nat.reduceEqDiff,Int.reduceAdd,Int.reduceSub,Int.reduceMul,Int.reduceNeg,Int.reduceLT,Int.reduceLE,Int.reduceEq,Int.reduceToNat,Int.cast_ofNat_Int,↓reduceIte, *]
        exact avb_t ⟨v1, v2, t1, t2, mem_take_all hh (by omega)⟩
    · (simp (disch := (first | assumption | omega | (simp only [List.length_append, List.length_cons, List.length_nil]; omega))) only [↓wD,wU,Nat.reduceBEq,zx150,zx151,zx159,zx160,zx161,zx162,Nat.reduceAdd,Nat.reduceSub,Nat.reduceMul,Nat.reduceLeDiff,Nat.reduceLT,Nat.reduceEqDiff,Int.reduceAdd,Int.reduceSub,Int.reduceMul,Int.reduceNeg,Int.reduceLT,Int.reduceLE,Int.reduceEq,Int.reduceToNat,Int.cast_ofNat_Int,↓reduceIte, *]) <;> simp
  · have bad : ¬ ArrP v t := fun h => h0 ⟨h.1, h.2.1, h.2.2.1, h.2.2.2.1⟩
    by_cases h1 : v < 2
    · clear h0
      simp (disch := (first | assumption | omega | (simp only [List.length_append, List.length_cons, List.length_nil]; omega))) only [↓wD,wU,Nat.reduceBEq,zx150,zx151,zx159,zx160,zx161,zx162,Nat.reduceAdd,Nat.reduceSub,Nat.reduceMul,Nat.reduceLeDiff,Nat.reduceLT,Nat.reduceEqDiff,Int.reduceAdd,Int.reduceSub,Int.reduceMul,Int.reduceNeg,Int.reduceLT,Int.reduceLE,Int.reduceEq,Int.reduceToNat,Int.cast_ofNat_Int,↓reduceIte, *, ht.L]
    by_cases h2 : 4 < v
    · clear h0
      simp (disch := (first | assumption | omega | (simp only [List.length_append, List.length_cons, List.length_nil]; omega))) only [↓wD,wU,Nat.reduceBEq,zx150,zx151,zx159,zx160,zx161,zx162,Nat.reduceAdd,Nat.reduceSub,Nat.reduceMul,Nat.reduceLeDiff,Nat.reduceLT,Nat.reduceEqDiff,Int.reduceAdd,Int.reduceSub,Int.reduceMul,Int.reduceNeg,Int.reduceLT,Int.reduceLE,Int.reduceEq,Int.reduceToNat,Int.cast_ofNat_Int,↓reduceIte, *, ht.L]
    by_cases h3 : t.length < 1
    · clear h0
      simp (disch := (first | assumption | omega | (simp only [List.length_append, List.length_cons, List.length_nil]; omega))) only [↓wD,wU,Nat.reduceBEq,zx150,zx151,zx159,zx160,zx161,zx162,Nat.reduceAdd,Nat.reduceSub,Nat.reduceMul,Nat.reduceLeDiff,Nat.reduceLT,Nat.reduceEqDiff,Int.reduceAdd,Int.reduceSub,Int.reduceMul,Int.reduceNeg,Int.reduceLT,Int.reduceLE,Int.reduceEq,Int.reduceToNat,Int.cast_ofNat_Int,↓reduceIte, *, ht.L]
    · have h4 : 16 < t.length := by omega
      clear h0
      simp (disch := (first | assumption | omega | (simp only [List.length_append, List.length_cons, List.length_nil]; omega))) only [↓wD,wU,Nat.reduceBEq,zx150,zx151,zx159,zx160,zx161,zx162,Nat.reduceAdd,Nat.reduceSub,Nat.reduceMul,Nat.reduceLeDiff,Nat.reduceLT,Nat.reduceEqDiff,Int.reduceAdd,Int.reduceSub,Int.reduceMul,Int.reduceNeg,Int.reduceLT,Int.reduceLE,Int.reduceEq,Int.reduceToNat,Int.cast_ofNat_Int,↓reduceIte, *, ht.L]
theorem width_ret {p : Nat → Prop} {H : Heap} {rows : AV} {v : Int} {t : List (List Int)} (ht : Sl p H rows t) (h : 1 ≤ t.length) : RetP E 39 [.ag [.i v, rows]] H (.i (wd t)) := by
  refine RetP.ro rfl fn39 rfl rfl ?_
  unfold f39A
  have k1 := ht.app [.cells [.i v, rows]]
  have g0 := k1.get (k := 0) (by omega) (by omega)
  simp (disch := (first | assumption | omega | (simp only [List.length_append, List.length_cons, List.length_nil]; omega))) only [↓wD,wU,Nat.reduceBEq,zx150,zx151,zx159,zx160,zx161,zx162,Nat.reduceAdd,Nat.reduceSub,Nat.reduceMul,Nat.reduceLeDiff,Nat.reduceLT,Nat.reduceEqDiff,Int.reduceAdd,Int.reduceSub,Int.reduceMul,Int.reduceNeg,Int.reduceLT,Int.reduceLE,Int.reduceEq,Int.reduceToNat,Int.cast_ofNat_Int,↓reduceIte, *, k1.L, g0.I]
  rfl
end Go.Proofs.Ytalaadcbpjnglaa
namespace Go.Proofs.Ytalaadcbpjnglaa
open Go Go.AM Go.Proofs
theorem list_ret {p : Nat → Prop} {H : Heap} {v : AV} {xs : List Int} (hx : Sl p H v xs) : Ret E 35 [v] (fun _ => False) H (xs.take 11) := by
  refine Ret.ro rfl fn35 rfl ?_
  unfold f35A
  have hb := hx.bound
  have hs : slV 1 v none (some (.i (min (xs.length : Int) 11))) none = some (v.cut 0 (min xs.length 11)) := by
    refine hx.slV_lh none _ (b := min xs.length 11) ?_ (bound_none (by omega)) (by omega) (by omega)
    rw [bound_some (by omega) (by omega)]
    congr 1
    omega
  simp (disch := (first | assumption | omega | (simp only [List.length_append, List.length_cons, List.length_nil]; omega))) only [↓wD,wU,Nat.reduceBEq,zx150,zx151,zx159,zx160,zx161,zx162,Nat.reduceAdd,Nat.reduceSub,Nat.reduceMul,Nat.reduceLeDiff,Nat.reduceLT,Nat.reduceEqDiff,Int.reduceAdd,Int.reduceSub,Int.reduceMul,Int.reduceNeg,Int.reduceLT,Int.reduceLE,Int.reduceEq,Int.reduceToNat,Int.cast_ofNat_Int,↓reduceIte, *, hx.I, hs]
  have hc := hx.cut (a := 0) (b := min xs.length 11) (by omega) (by omega)
  have e : (xs.drop 0).take (min xs.length 11 - 0) = xs.take 11 := by
    rw [List.drop_zero, Nat.sub_zero]
    by_cases hl : xs.length ≤ 11
    · rw [List.take_of_length_le (by omega), List.take_of_length_le hl]
    · congr 1; omega
  rw [e] at hc
  refine (clone_ret hc (by rw [List.length_take]; omega)).go fun u N hu => ?_
  simp (disch := (first | assumption | omega | (simp only [List.length_append, List.length_cons, List.length_nil]; omega))) only [↓wD,wU,Nat.reduceBEq,zx150,zx151,zx159,zx160,zx161,zx162,Nat.reduceAdd,Nat.reduceSub,Nat.reduceMul,Nat.reduceLeDiff,Nat.reduceLT,Nat.reduceEqDiff,Int.reduceAdd,Int.reduceSub,Int.reduceMul,Int.reduceNeg,Int.reduceLT,Int.reduceLE,Int.reduceEq,Int.reduceToNat,Int.cast_ofNat_Int,↓reduceIte]
  exact hu
def cutA (t : List (List Int)) : List (List Int) := (t.take 19).map fun r => r.take 11
theorem of_ret {p : Nat → Prop} {H : Heap} {rows : AV} {v : Int} {t : List (List Int)} (ht : Sl p H rows t) : Ret E 32 [.ag [.i v, rows]] (fun _ => False) H ((v, cutA t) : Int × List (List Int)) := by
  refine Ret.ro rfl fn32 rfl ?_
  unfold f32A
  have hb := ht.bound
  simp (disch := (first | assumption | omega | (simp only [List.length_append, List.length_cons, List.length_nil]; omega))) only [↓wD,wU,Nat.reduceBEq,zx150,zx151,zx159,zx160,zx161,zx162,Nat.reduceAdd,Nat.reduceSub,Nat.reduceMul,Nat.reduceLeDiff,Nat.reduceLT,Nat.reduceEqDiff,Int.reduceAdd,Int.reduceSub,Int.reduceMul,Int.reduceNeg,Int.reduceLT,Int.reduceLE,Int.reduceEq,Int.reduceToNat,Int.cast_ofNat_Int,↓reduceIte, *, ht.L]
  replace ht : Sl (fun b => b < H.length) H rows t := ht.low.weak fun _ h => h.2
  refine Wp.for t.length (fun i a H' => ∃ u, a 10 = rows ∧ a 11 = .i t.length ∧ a 12 = .i i ∧ a 2 = .p (H.length + 1) 0 ∧ a 3 = .p (H.length + 2) 0 ∧ Gr H H' ∧ H.length + 3 ≤ H'.length ∧
    H'[H.length + 1]? = some (.cells [.i 0, .nils]) ∧ H'[H.length + 2]? = some (.cells [.i v, u]) ∧ Acc (H.length + 3) (fun b => H.length + 3 ≤ b) H' u (((t.take i).take 19).map fun r => r.take 11)) ?_ ?_
  · rintro i a H1 hi ⟨u, a10, a11, a12, a2, a3, hg, hl, c2, c3, hu⟩ ih
    simp (disch := (first | assumption | omega | (simp only [List.length_append, List.length_cons, List.length_nil]; omega))) only [↓wD,wU,Nat.reduceBEq,zx150,zx151,zx159,zx160,zx161,zx162,Nat.reduceAdd,Nat.reduceSub,Nat.reduceMul,Nat.reduceLeDiff,Nat.reduceLT,Nat.reduceEqDiff,Int.reduceAdd,Int.reduceSub,Int.reduceMul,Int.reduceNeg,Int.reduceLT,Int.reduceLE,Int.reduceEq,Int.reduceToNat,Int.cast_ofNat_Int,↓reduceIte, *]
    refine condP_split (fun hlt => ?_) (fun hlt => ?_)
    · have hi' : i < t.length := by omega
      have ht1 := ht.gr hg
      have g := ht1.get (k := (i : Int)) (by omega) (by omega)
      simp (disch := (first | assumption | omega | (simp only [List.length_append, List.length_cons, List.length_nil]; omega))) only [↓wD,wU,Nat.reduceBEq,zx150,zx151,zx159,zx160,zx161,zx162,Nat.reduceAdd,Nat.reduceSub,Nat.reduceMul,Nat.reduceLeDiff,Nat.reduceLT,Nat.reduceEqDiff,Int.reduceAdd,Int.reduceSub,Int.reduceMul,Int.reduceNeg,Int.reduceLT,Int.reduceLE,Int.reduceEq,Int.reduceToNat,Int.cast_ofNat_Int,↓reduceIte, *, ht1.L]
      refine condP_split (fun h6 => ?_) (fun h6 => ?_)
      · simp (disch := (first | assumption | omega | (simp only [List.length_append, List.length_cons, List.length_nil]; omega))) only [↓wD,wU,Nat.reduceBEq,zx150,zx151,zx159,zx160,zx161,zx162,Nat.reduceAdd,Nat.reduceSub,Nat.reduceMul,Nat.reduceLeDiff,Nat.reduceLT,Nat.reduceEqDiff,Int.reduceAdd,Int.reduceSub,Int.reduceMul,Int.reduceNeg,Int.reduceLT,Int.reduceLE,Int.reduceEq,Int.reduceToNat,Int.cast_ofNat_Int,↓reduceIte, *, ld_of c3]
        refine (list_ret g).toF fun y H2 hg2 hy => ?_
        have hl2 := hg2.1
        simp (disch := (first | assumption | omega | (simp only [List.length_append, List.length_cons, List.length_nil]; omega))) only [↓wD,wU,Nat.reduceBEq,zx150,zx151,zx159,zx160,zx161,zx162,Nat.reduceAdd,Nat.reduceSub,Nat.reduceMul,Nat.reduceLeDiff,Nat.reduceLT,Nat.reduceEqDiff,Int.reduceAdd,Int.reduceSub,Int.reduceMul,Int.reduceNeg,Int.reduceLT,Int.reduceLE,Int.reduceEq,Int.reduceToNat,Int.cast_ofNat_Int,↓reduceIte, *, hy.cellsV]
        have hu2 := hu.gr hg2
        refine hu2.pushL (by omega) (by omega) hy (fun b hb => ⟨by omega, fun e => by have := hu.blk_lt e; omega⟩) ?_ fun u' H3 hu' hk3 hl3' _ => ?_
        · simp; omega
        · have c33 := hk3.get (b := H.length + 2) (fun e => by have := hu2.blk_lt e; omega) (hg2.get c3)
          have c23 := hk3.get (b := H.length + 1) (fun e => by have := hu2.blk_lt e; omega) (hg2.get c2)
          simp (disch := (first | assumption | omega | (simp only [List.length_append, List.length_cons, List.length_nil]; omega))) only [↓wD,wU,Nat.reduceBEq,zx150,zx151,zx159,zx160,zx161,zx162,Nat.reduceAdd,Nat.reduceSub,Nat.reduceMul,Nat.reduceLeDiff,Nat.reduceLT,Nat.reduceEqDiff,Int.reduceAdd,Int.reduceSub,Int.reduceMul,Int.reduceNeg,Int.reduceLT,Int.reduceLE,Int.reduceEq,Int.reduceToNat,Int.cast_ofNat_Int,↓reduceIte, *, st_of c33, hu'.cellsV]
          refine (ih hi').go ⟨u', ?_⟩
          simp (disch := (first | assumption | omega | (simp only [List.length_append, List.length_cons, List.length_nil]; omega))) only [↓wD,wU,Nat.reduceBEq,zx150,zx151,zx159,zx160,zx161,zx162,Nat.reduceAdd,Nat.reduceSub,Nat.reduceMul,Nat.reduceLeDiff,Nat.reduceLT,Nat.reduceEqDiff,Int.reduceAdd,Int.reduceSub,Int.reduceMul,Int.reduceNeg,Int.reduceLT,Int.reduceLE,Int.reduceEq,Int.reduceToNat,Int.cast_ofNat_Int,↓reduceIte, *]
          have e : ((t.take (i + 1)).take 19) = (t.take i).take 19 ++ [gi t i] := by
            rw [List.take_take, List.take_take, show min 19 (i + 1) = i + 1 by omega, show min 19 i = i by omega, take_gi hi']
          rw [e, List.map_append]
          refine ⟨((hg.trans hg2).push hu2 (by omega) hk3).set (by omega) _, by simp; omega, by rw [List.getElem?_set_ne (by omega)]; exact c23, get_set c33, ?_⟩
          exact hu'.mono ((Kp.set _ _ _).weak fun b hb => by omega) fun _ h => h
      · simp (disch := (first | assumption | omega | (simp only [List.length_append, List.length_cons, List.length_nil]; omega))) only [↓wD,wU,Nat.reduceBEq,zx150,zx151,zx159,zx160,zx161,zx162,Nat.reduceAdd,Nat.reduceSub,Nat.reduceMul,Nat.reduceLeDiff,Nat.reduceLT,Nat.reduceEqDiff,Int.reduceAdd,Int.reduceSub,Int.reduceMul,Int.reduceNeg,Int.reduceLT,Int.reduceLE,Int.reduceEq,Int.reduceToNat,Int.cast_ofNat_Int,↓reduceIte, *]
        refine (ih hi').go ⟨u, ?_⟩
        simp (disch := (first | assumption | omega | (simp only [List.length_append, List.length_cons, List.length_nil]; omega))) only [↓wD,wU,Nat.reduceBEq,zx150,zx151,zx159,zx160,zx161,zx162,Nat.reduceAdd,Nat.reduceSub,Nat.reduceMul,Nat.reduceLeDiff,Nat.reduceLT,Nat.reduceEqDiff,Int.reduceAdd,Int.reduceSub,Int.reduceMul,Int.reduceNeg,Int.reduceLT,Int.reduceLE,Int.reduceEq,Int.reduceToNat,Int.cast_ofNat_Int,↓reduceIte, *]
        have e : ((t.take (i + 1)).take 19) = (t.take i).take 19 := by
          rw [List.take_take, List.take_take]; congr 1; omega
        rw [e]; first | exact hu | exact ⟨hg, hu⟩ | exact ⟨hg, hl, hu⟩
    · have e : i = t.length := by omega
      subst e
      simp (disch := (first | assumption | omega | (simp only [List.length_append, List.length_cons, List.length_nil]; omega))) only [↓wD,wU,Nat.reduceBEq,zx150,zx151,zx159,zx160,zx161,zx162,Nat.reduceAdd,Nat.reduceSub,Nat.reduceMul,Nat.reduceLeDiff,Nat.reduceLT,Nat.reduceEqDiff,Int.reduceAdd,Int.reduceSub,Int.reduceMul,Int.reduceNeg,Int.reduceLT,Int.reduceLE,Int.reduceEq,Int.reduceToNat,Int.cast_ofNat_Int,↓reduceIte, *, ldn_of c3, st_of c2, hu.cellsV]
      simp (disch := (first | assumption | omega | (simp only [List.length_append, List.length_cons, List.length_nil]; omega))) only [↓wD,wU,Nat.reduceBEq,zx150,zx151,zx159,zx160,zx161,zx162,Nat.reduceAdd,Nat.reduceSub,Nat.reduceMul,Nat.reduceLeDiff,Nat.reduceLT,Nat.reduceEqDiff,Int.reduceAdd,Int.reduceSub,Int.reduceMul,Int.reduceNeg,Int.reduceLT,Int.reduceLE,Int.reduceEq,Int.reduceToNat,Int.cast_ofNat_Int,↓reduceIte, *, ldn_of (get_set c2)]
      rw [List.take_length] at hu
      exact rv_si ((hu.mono ((Kp.set _ _ _).weak fun b hb => by omega) fun _ h => h).sl.weak fun b h => .inr (by omega))
  · simp (disch := (first | assumption | omega | (simp only [List.length_append, List.length_cons, List.length_nil]; omega))) only [↓wD,wU,Nat.reduceBEq,zx150,zx151,zx159,zx160,zx161,zx162,Nat.reduceAdd,Nat.reduceSub,Nat.reduceMul,Nat.reduceLeDiff,Nat.reduceLT,Nat.reduceEqDiff,Int.reduceAdd,Int.reduceSub,Int.reduceMul,Int.reduceNeg,Int.reduceLT,Int.reduceLE,Int.reduceEq,Int.reduceToNat,Int.cast_ofNat_Int,↓reduceIte, *]
    refine ⟨.nils, ?_⟩
    simp (disch := (first | assumption | omega | (simp only [List.length_append, List.length_cons, List.length_nil]; omega))) only [↓wD,wU,Nat.reduceBEq,zx150,zx151,zx159,zx160,zx161,zx162,Nat.reduceAdd,Nat.reduceSub,Nat.reduceMul,Nat.reduceLeDiff,Nat.reduceLT,Nat.reduceEqDiff,Int.reduceAdd,Int.reduceSub,Int.reduceMul,Int.reduceNeg,Int.reduceLT,Int.reduceLE,Int.reduceEq,Int.reduceToNat,Int.cast_ofNat_Int,↓reduceIte, *]
    exact ⟨(((Gr.refl H).app _).app _).app _, Acc.nil⟩
theorem cutA_ok {v : Int} {t : List (List Int)} (h : ArrP v t) : cutA t = t := by
  unfold cutA
  rw [List.take_of_length_le (by have := h.2.2.2.1; omega)]
  conv => rhs; rw [← List.map_id t]
  apply List.map_congr_left
  intro r hr
  exact List.take_of_length_le (by have := (h.2.2.2.2 r hr).2.2.1; omega)
theorem ArrP_cut {v : Int} {t : List (List Int)} : ArrP v (cutA t) ↔ ArrP v t := by
  constructor
  · intro h
    have e : cutA t = t := by
      have h1 : t.length ≤ 16 := by have := h.2.2.2.1; simp [cutA] at this; omega
      unfold cutA
      rw [List.take_of_length_le (by omega)]
      conv => rhs; rw [← List.map_id t]
      apply List.map_congr_left
      intro r hr
      have hm : r.take 11 ∈ cutA t := by
        unfold cutA
        rw [List.take_of_length_le (by omega)]
        exact List.mem_map_of_mem hr
      have := (h.2.2.2.2 _ hm).2.2.1
      rw [List.length_take] at this
      exact List.take_of_length_le (by omega)
    rwa [e] at h
  · intro h
    rw [cutA_ok h]; exact h
end Go.Proofs.Ytalaadcbpjnglaa
namespace Go.Proofs.Ytalaadcbpjnglaa
open Go Go.AM Go.Proofs
theorem Acc_empty {α : Type} [Rep α] {L : Nat} {p q : Nat → Prop} {H : Heap} {v : AV} (h : Sl p H v ([] : List α)) (hp : ∀ b, p b → L ≤ b) : Acc L q H v ([] : List α) := by
  rcases h with h | ⟨b, o, c, k, e, hb, hk, h1, h2, h3⟩
  · exact .inl h
  · exact .inr ⟨b, o, c, k, e, hp _ hb, hk, h1, h2, fun i hi => by simp at hi⟩
end Go.Proofs.Ytalaadcbpjnglaa
namespace Go.Proofs.Ytalaadcbpjnglaa
open Go Go.AM Go.Proofs
/-- what grow reads: its variables -/
structure Vars (K : Nat → Prop) (H : Heap) (y : AV) (r : Bool) (n t : Int) (bt bY br bn bg : Nat) : Prop where
  t : H[bt]? = some (.cells [.i t]) ∧ ¬ K bt
  y : H[bY]? = some (.cells [y]) ∧ ¬ K bY
  r : H[br]? = some (.cells [.b r]) ∧ ¬ K br
  n : H[bn]? = some (.cells [.i n]) ∧ ¬ K bn
  g : H[bg]? = some (.cells [.fn 97 [] [.p bt 0, .p bY 0, .p br 0, .p bn 0, .p bg 0]]) ∧ ¬ K bg
theorem Vars.mono {K K' : Nat → Prop} {H H' : Heap} {y : AV} {r : Bool} {n t : Int} {bt bY br bn bg : Nat} (h : Vars K H y r n t bt bY br bn bg) (hk : Kx (fun b => ¬ K b) H H') (hK : ∀ b, b < H.length → K' b → K b) : Vars K' H' y r n t bt bY br bn bg :=
  ⟨⟨hk.get h.t.2 h.t.1, fun q => h.t.2 (hK _ (List.getElem?_eq_some_iff.1 h.t.1).1 q)⟩, ⟨hk.get h.y.2 h.y.1, fun q => h.y.2 (hK _ (List.getElem?_eq_some_iff.1 h.y.1).1 q)⟩, ⟨hk.get h.r.2 h.r.1, fun q => h.r.2 (hK _ (List.getElem?_eq_some_iff.1 h.r.1).1 q)⟩, ⟨hk.get h.n.2 h.n.1, fun q => h.n.2 (hK _ (List.getElem?_eq_some_iff.1 h.n.1).1 q)⟩, ⟨hk.get h.g.2 h.g.1, fun q => h.g.2 (hK _ (List.getElem?_eq_some_iff.1 h.g.1).1 q)⟩⟩
end Go.Proofs.Ytalaadcbpjnglaa
namespace Go.Proofs.Ytalaadcbpjnglaa
open Go Go.AM Go.Proofs
def fstN (l : List (List Int × Nat)) : Nat := (l.head?.map Prod.snd).getD 0
end Go.Proofs.Ytalaadcbpjnglaa
namespace Go.Proofs.Ytalaadcbpjnglaa
open Go Go.AM Go.Proofs
theorem Acc.int {L : Nat} {q : Nat → Prop} {H : Heap} {v : AV} {xs : List Int} (h : Acc L q H v xs) : Sl (fun b => L ≤ b) H v xs := by
  rcases h with h | ⟨b, o, c, k, e, hb, hk, h1, h2, h3⟩
  · exact .inl h
  · exact .inr ⟨b, o, c, k, e, hb, hk, h1, h2, h3⟩
end Go.Proofs.Ytalaadcbpjnglaa
namespace Go.Proofs.Ytalaadcbpjnglaa
open Go Go.AM Go.Proofs
/-- what is known behind P: f the first number, or -1 -/
def FSt (l P : List (List Int × Nat)) (f : Int) : Prop := (P = [] ∧ f = -1) ∨ (P ≠ [] ∧ f = fstN l ∧ ∀ x ∈ P, x.2 = fstN l ∧ x.2 ≠ 0)
theorem FSt.good {l P : List (List Int × Nat)} {f : Int} {x : List Int × Nat} (h : FSt l P f) (h1 : x.2 = fstN l) (h2 : x.2 ≠ 0) : FSt l (P ++ [x]) (fstN l) := by
  refine .inr ⟨by simp, rfl, fun y hy => ?_⟩
  rcases List.mem_append.1 hy with hy | hy
  · rcases h with ⟨rfl, _⟩ | ⟨_, _, h⟩
    · cases hy
    · exact h y hy
  · simp at hy; subst hy; exact ⟨h1, h2⟩
end Go.Proofs.Ytalaadcbpjnglaa
namespace Go.Proofs.Ytalaadcbpjnglaa
open Go Go.AM Go.Proofs
theorem awake_ret {H : Heap} : RetP E 25 [] H (.b true) :=
  RetP.closed (n := 300) rfl fn25 rfl rfl (by kernel_rfl)
end Go.Proofs.Ytalaadcbpjnglaa
namespace Go.Proofs.Ytalaadcbpjnglaa
open Go Go.AM Go.Proofs
theorem growL0_ret {H : Heap} {n : Int} (h0 : 0 ≤ n) (h1 : n ≤ 1000000) : Ret E 100 [.nils, .i n] (fun _ => False) H ([] : List (List Int)) := by
  refine Ret.ro rfl fn100 rfl ?_
  unfold f100A
  have hc : zx162 .nils = some (.i 0) := rfl
  by_cases hn : 0 < n
  · have hmb : mostBytes = 1099511627776 := by decide
    have hs : slV 1 .nils none (some (.i 0)) none = some .nils := rfl
    have ha : appendzV H.length 1 24 [.nils] .nils (.i n) H = some (.s 1 H.length 0 n.toNat none, H ++ [.cells (reps n.toNat [.nils])]) := by
      simp only [appendzV]
      rw [if_pos ⟨h0, by omega, by rw [hmb]; omega, rfl⟩]
      simp only [appendA]
      rw [if_neg (by omega), if_pos (by rw [hmb]; omega)]
    have hs2 : slV 1 (.s 1 H.length 0 n.toNat none) none (some (.i 0)) none = some (.s 1 H.length 0 0 none) := by
      simp [slV, Go.AM.lenA, boundV, sliceA, show 0 ≤ max n 0 by omega]
    simp (disch := (first | assumption | omega | (simp only [List.length_append, List.length_cons, List.length_nil]; omega))) only [↓wD,wU,Nat.reduceBEq,zx150,zx151,zx159,zx160,zx161,zx162,Nat.reduceAdd,Nat.reduceSub,Nat.reduceMul,Nat.reduceLeDiff,Nat.reduceLT,Nat.reduceEqDiff,Int.reduceAdd,Int.reduceSub,Int.reduceMul,Int.reduceNeg,Int.reduceLT,Int.reduceLE,Int.reduceEq,Int.reduceToNat,Int.cast_ofNat_Int,↓reduceIte, *, hc, hs, Int.sub_zero, ha, hs2]
    exact .inr ⟨H.length, 0, none, reps n.toNat [.nils], rfl, by simp, by simp, by simp, by simp, fun i hi => by simp at hi⟩
  · simp (disch := (first | assumption | omega | (simp only [List.length_append, List.length_cons, List.length_nil]; omega))) only [↓wD,wU,Nat.reduceBEq,zx150,zx151,zx159,zx160,zx161,zx162,Nat.reduceAdd,Nat.reduceSub,Nat.reduceMul,Nat.reduceLeDiff,Nat.reduceLT,Nat.reduceEqDiff,Int.reduceAdd,Int.reduceSub,Int.reduceMul,Int.reduceNeg,Int.reduceLT,Int.reduceLE,Int.reduceEq,Int.reduceToNat,Int.cast_ofNat_Int,↓reduceIte, *, hc]
    exact Sl.nil
def lsumL (ls : List (List (List Int))) : Nat := (ls.map List.length).sum
theorem lsumL_take {ls : List (List (List Int))} {i : Nat} (h : i < ls.length) : lsumL (ls.take (i + 1)) = lsumL (ls.take i) + (gi ls i).length := by
  unfold lsumL; rw [take_gi h]; simp [List.sum_append]
theorem lsumL_le {ls : List (List (List Int))} {i : Nat} : lsumL (ls.take i) ≤ lsumL ls := by
  have e : lsumL ls = lsumL (ls.take i) + lsumL (ls.drop i) := by
    conv => lhs; rw [← List.take_append_drop i ls]
    unfold lsumL; rw [List.map_append, List.sum_append]
  omega
theorem concatL_ret {p : Nat → Prop} {H : Heap} {v : AV} {ls : List (List (List Int))} (hl : Sl p H v ls) (hs : lsumL ls ≤ 1000000) : Ret E 76 [v] (fun b => b < H.length) H ls.flatten := by
  refine Ret.ro rfl fn76 rfl ?_
  unfold f76A
  have hb := hl.bound
  simp (disch := (first | assumption | omega | (simp only [List.length_append, List.length_cons, List.length_nil]; omega))) only [↓wD,wU,Nat.reduceBEq,zx150,zx151,zx159,zx160,zx161,zx162,Nat.reduceAdd,Nat.reduceSub,Nat.reduceMul,Nat.reduceLeDiff,Nat.reduceLT,Nat.reduceEqDiff,Int.reduceAdd,Int.reduceSub,Int.reduceMul,Int.reduceNeg,Int.reduceLT,Int.reduceLE,Int.reduceEq,Int.reduceToNat,Int.cast_ofNat_Int,↓reduceIte, *, hl.L]
  refine Wp.for ls.length (fun i a H' => H' = H ∧ a 0 = v ∧ a 9 = v ∧ a 10 = .i ls.length ∧ a 11 = .i i ∧ a 3 = .i (lsumL (ls.take i))) ?_ ?_
  · rintro i a H' hi ⟨rfl, a0, a9, a10, a11, a3⟩ ih
    have hle := lsumL_le (ls := ls) (i := i)
    simp (disch := (first | assumption | omega | (simp only [List.length_append, List.length_cons, List.length_nil]; omega))) only [↓wD,wU,Nat.reduceBEq,zx150,zx151,zx159,zx160,zx161,zx162,Nat.reduceAdd,Nat.reduceSub,Nat.reduceMul,Nat.reduceLeDiff,Nat.reduceLT,Nat.reduceEqDiff,Int.reduceAdd,Int.reduceSub,Int.reduceMul,Int.reduceNeg,Int.reduceLT,Int.reduceLE,Int.reduceEq,Int.reduceToNat,Int.cast_ofNat_Int,↓reduceIte, *]
    refine condP_split (fun hlt => ?_) (fun hlt => ?_)
    · have hi' : i < ls.length := by omega
      have g := hl.get (k := (i : Int)) (by omega) (by omega)
      have e := lsumL_take hi'
      have hle2 := lsumL_le (ls := ls) (i := i + 1)
      simp (disch := (first | assumption | omega | (simp only [List.length_append, List.length_cons, List.length_nil]; omega))) only [↓wD,wU,Nat.reduceBEq,zx150,zx151,zx159,zx160,zx161,zx162,Nat.reduceAdd,Nat.reduceSub,Nat.reduceMul,Nat.reduceLeDiff,Nat.reduceLT,Nat.reduceEqDiff,Int.reduceAdd,Int.reduceSub,Int.reduceMul,Int.reduceNeg,Int.reduceLT,Int.reduceLE,Int.reduceEq,Int.reduceToNat,Int.cast_ofNat_Int,↓reduceIte, *, hl.L, g.L]
      refine (ih hi').go ⟨rfl, ?_⟩
      simp (disch := (first | assumption | omega | (simp only [List.length_append, List.length_cons, List.length_nil]; omega))) only [↓wD,wU,Nat.reduceBEq,zx150,zx151,zx159,zx160,zx161,zx162,Nat.reduceAdd,Nat.reduceSub,Nat.reduceMul,Nat.reduceLeDiff,Nat.reduceLT,Nat.reduceEqDiff,Int.reduceAdd,Int.reduceSub,Int.reduceMul,Int.reduceNeg,Int.reduceLT,Int.reduceLE,Int.reduceEq,Int.reduceToNat,Int.cast_ofNat_Int,↓reduceIte, *]
    · obtain rfl : i = ls.length := by omega
      have e : ls.take ls.length = ls := List.take_length
      rw [e] at a3
      clear hlt hi ih
      simp (disch := (first | assumption | omega | (simp only [List.length_append, List.length_cons, List.length_nil]; omega))) only [↓wD,wU,Nat.reduceBEq,zx150,zx151,zx159,zx160,zx161,zx162,Nat.reduceAdd,Nat.reduceSub,Nat.reduceMul,Nat.reduceLeDiff,Nat.reduceLT,Nat.reduceEqDiff,Int.reduceAdd,Int.reduceSub,Int.reduceMul,Int.reduceNeg,Int.reduceLT,Int.reduceLE,Int.reduceEq,Int.reduceToNat,Int.cast_ofNat_Int,↓reduceIte, *]
      refine (growL0_ret (by omega) (by omega)).toF fun u H2 hg hu => ?_
      have hl2 := (hl.low.weak (q := fun b => b < H'.length) fun _ h => h.2).gr hg
      simp (disch := (first | assumption | omega | (simp only [List.length_append, List.length_cons, List.length_nil]; omega))) only [↓wD,wU,Nat.reduceBEq,zx150,zx151,zx159,zx160,zx161,zx162,Nat.reduceAdd,Nat.reduceSub,Nat.reduceMul,Nat.reduceLeDiff,Nat.reduceLT,Nat.reduceEqDiff,Int.reduceAdd,Int.reduceSub,Int.reduceMul,Int.reduceNeg,Int.reduceLT,Int.reduceLE,Int.reduceEq,Int.reduceToNat,Int.cast_ofNat_Int,↓reduceIte, *, hl.L, hl2.L]
      have ha0 : Acc H'.length (fun b => b < H'.length) H2 u ([] : List (List Int)) := Acc_empty hu fun _ h => h
      refine Wp.for ls.length (fun i a H1 => ∃ u, a 6 = u ∧ a 25 = v ∧ a 26 = .i ls.length ∧ a 27 = .i i ∧ Gr H' H1 ∧ Acc H'.length (fun b => b < H'.length) H1 u (ls.take i).flatten) ?_ ?_
      · clear ha0 hu a0 a9 a10 a11 a3
        rintro i a H1 hi ⟨u, a6, a25, a26, a27, hg1, hu⟩ ih
        simp (disch := (first | assumption | omega | (simp only [List.length_append, List.length_cons, List.length_nil]; omega))) only [↓wD,wU,Nat.reduceBEq,zx150,zx151,zx159,zx160,zx161,zx162,Nat.reduceAdd,Nat.reduceSub,Nat.reduceMul,Nat.reduceLeDiff,Nat.reduceLT,Nat.reduceEqDiff,Int.reduceAdd,Int.reduceSub,Int.reduceMul,Int.reduceNeg,Int.reduceLT,Int.reduceLE,Int.reduceEq,Int.reduceToNat,Int.cast_ofNat_Int,↓reduceIte, *]
        refine condP_split (fun hlt => ?_) (fun hlt => ?_)
        · have hi' : i < ls.length := by omega
          have hl1 := (hl.low.weak (q := fun b => b < H'.length) fun _ h => h.2).gr hg1
          have g := hl1.get (k := (i : Int)) (by omega) (by omega)
          simp (disch := (first | assumption | omega | (simp only [List.length_append, List.length_cons, List.length_nil]; omega))) only [↓wD,wU,Nat.reduceBEq,zx150,zx151,zx159,zx160,zx161,zx162,Nat.reduceAdd,Nat.reduceSub,Nat.reduceMul,Nat.reduceLeDiff,Nat.reduceLT,Nat.reduceEqDiff,Int.reduceAdd,Int.reduceSub,Int.reduceMul,Int.reduceNeg,Int.reduceLT,Int.reduceLE,Int.reduceEq,Int.reduceToNat,Int.cast_ofNat_Int,↓reduceIte, *, hl1.L, g.L]
          refine hu.extend (q := fun b => b < H'.length) (Nat.le_refl _) (by have := hg1.1; omega) g (fun b hb => ⟨hb, fun e => by have := hu.blk_lt e; omega⟩) ?_ (by omega) fun u' H3 hu' hk => ?_
          · have e := lsumL_take hi'
            have hle2 := lsumL_le (ls := ls) (i := i + 1)
            have : (ls.take i).flatten.length = lsumL (ls.take i) := by simp [lsumL, List.length_flatten]
            rw [this, ← e]; omega
          · simp (disch := (first | assumption | omega | (simp only [List.length_append, List.length_cons, List.length_nil]; omega))) only [↓wD,wU,Nat.reduceBEq,zx150,zx151,zx159,zx160,zx161,zx162,Nat.reduceAdd,Nat.reduceSub,Nat.reduceMul,Nat.reduceLeDiff,Nat.reduceLT,Nat.reduceEqDiff,Int.reduceAdd,Int.reduceSub,Int.reduceMul,Int.reduceNeg,Int.reduceLT,Int.reduceLE,Int.reduceEq,Int.reduceToNat,Int.cast_ofNat_Int,↓reduceIte, *]
            refine (ih hi').go ⟨u', ?_⟩
            simp (disch := (first | assumption | omega | (simp only [List.length_append, List.length_cons, List.length_nil]; omega))) only [↓wD,wU,Nat.reduceBEq,zx150,zx151,zx159,zx160,zx161,zx162,Nat.reduceAdd,Nat.reduceSub,Nat.reduceMul,Nat.reduceLeDiff,Nat.reduceLT,Nat.reduceEqDiff,Int.reduceAdd,Int.reduceSub,Int.reduceMul,Int.reduceNeg,Int.reduceLT,Int.reduceLE,Int.reduceEq,Int.reduceToNat,Int.cast_ofNat_Int,↓reduceIte, *]
            refine ⟨hg1.push hu (Nat.le_refl _) hk, ?_⟩
            rw [take_gi hi', List.flatten_append]
            simpa using hu'
        · obtain rfl : i = ls.length := by omega
          simp (disch := (first | assumption | omega | (simp only [List.length_append, List.length_cons, List.length_nil]; omega))) only [↓wD,wU,Nat.reduceBEq,zx150,zx151,zx159,zx160,zx161,zx162,Nat.reduceAdd,Nat.reduceSub,Nat.reduceMul,Nat.reduceLeDiff,Nat.reduceLT,Nat.reduceEqDiff,Int.reduceAdd,Int.reduceSub,Int.reduceMul,Int.reduceNeg,Int.reduceLT,Int.reduceLE,Int.reduceEq,Int.reduceToNat,Int.cast_ofNat_Int,↓reduceIte, *]
          rw [e] at hu
          exact hu.sl
      · simp (disch := (first | assumption | omega | (simp only [List.length_append, List.length_cons, List.length_nil]; omega))) only [↓wD,wU,Nat.reduceBEq,zx150,zx151,zx159,zx160,zx161,zx162,Nat.reduceAdd,Nat.reduceSub,Nat.reduceMul,Nat.reduceLeDiff,Nat.reduceLT,Nat.reduceEqDiff,Int.reduceAdd,Int.reduceSub,Int.reduceMul,Int.reduceNeg,Int.reduceLT,Int.reduceLE,Int.reduceEq,Int.reduceToNat,Int.cast_ofNat_Int,↓reduceIte, *]
        exact ⟨u, rfl, by first | exact ha0 | exact ⟨hg, ha0⟩⟩
  · (simp (disch := (first | assumption | omega | (simp only [List.length_append, List.length_cons, List.length_nil]; omega))) only [↓wD,wU,Nat.reduceBEq,zx150,zx151,zx159,zx160,zx161,zx162,Nat.reduceAdd,Nat.reduceSub,Nat.reduceMul,Nat.reduceLeDiff,Nat.reduceLT,Nat.reduceEqDiff,Int.reduceAdd,Int.reduceSub,Int.reduceMul,Int.reduceNeg,Int.reduceLT,Int.reduceLE,Int.reduceEq,Int.reduceToNat,Int.cast_ofNat_Int,↓reduceIte, *]) <;> simp [lsumL]
theorem clip_ret {p : Nat → Prop} {H : Heap} {v : AV} {xs : List Int} (hx : Sl p H v xs) : Ret E 78 [v] p H xs := by
  refine Ret.ro rfl fn78 rfl ?_
  unfold f78A
  have hb := hx.bound
  have hs : slV 1 v none (some (.i xs.length)) (some (.i xs.length)) = some (v.cut3 0 xs.length xs.length) := by
    refine hx.slV_3 none _ _ (bound_some (by omega) (by omega)) rfl (bound_some (by omega) (by omega)) (bound_none (by omega)) ?_ ?_ ?_
    all_goals simp
  have hc := hx.cut3 (a := 0) (b := xs.length) (m := xs.length) (by omega) (by omega) (by omega)
  simp (disch := (first | assumption | omega | (simp only [List.length_append, List.length_cons, List.length_nil]; omega))) only [↓wD,wU,Nat.reduceBEq,zx150,zx151,zx159,zx160,zx161,zx162,Nat.reduceAdd,Nat.reduceSub,Nat.reduceMul,Nat.reduceLeDiff,Nat.reduceLT,Nat.reduceEqDiff,Int.reduceAdd,Int.reduceSub,Int.reduceMul,Int.reduceNeg,Int.reduceLT,Int.reduceLE,Int.reduceEq,Int.reduceToNat,Int.cast_ofNat_Int,↓reduceIte, *, hx.I, hs]
  simp at hc
  exact hc.weak fun b h => .inl h
end Go.Proofs.Ytalaadcbpjnglaa
namespace Go.AM
theorem Acc.low {α : Type} [Rep α] {L : Nat} {p : Nat → Prop} {H : Heap} {v : AV} {xs : List α} (h : Acc L p H v xs) : Acc L (fun b => p b ∧ b < H.length) H v xs := by
  rcases h with h | ⟨b, o, c, k, rfl, hb, hk1, h1, h2, h3⟩
  · exact .inl h
  · exact .inr ⟨b, o, c, k, rfl, hb, hk1, h1, h2, fun i hi => Rep.mono (Rep.low (h3 i hi)) (Kp.refl _ _) fun b h => ⟨⟨h.1.1, h.2⟩, h.1.2⟩⟩
end Go.AM
namespace Go.Proofs.Ytalaadcbpjnglaa
open Go Go.AM Go.Proofs
theorem each_ret {p : Nat → Prop} {H : Heap} {rows : AV} {v : Int} {t : List (List Int)} {f : Nat} {us caps : List AV} {g : List Int → List Int} (ht : Sl p H rows t) (hlen : t.length ≤ 1000000) (hrl : ∀ x ∈ t, x.length ≤ 1000000)
    (hto : ∀ x ∈ t, ∀ (y : AV) (Hc : Heap) (L : Nat), Gr H Hc → H.length ≤ L → L ≤ Hc.length → Sl (fun b => L ≤ b) Hc y x → WpF E H.length f (us ++ [y] ++ caps) Hc fun w H'' => Sl (fun b => L ≤ b) H'' w (g x) ∧ Kx (fun b => b < L) Hc H'') :
    Ret E 77 [.ag [.i v, rows], .fn f us caps] (fun _ => False) H ((v, t.map g) : Int × List (List Int)) := by
  refine Ret.ro rfl fn77 rfl ?_
  unfold f77A
  have hlow : Sl (fun b => b < H.length) H rows t := ht.low.weak fun _ h => h.2
  have hbr := ht.bound
  simp (disch := (first | assumption | omega | (simp only [List.length_append, List.length_cons, List.length_nil]; omega))) only [↓wD,wU,Nat.reduceBEq,zx150,zx151,zx159,zx160,zx161,zx162,Nat.reduceAdd,Nat.reduceSub,Nat.reduceMul,Nat.reduceLeDiff,Nat.reduceLT,Nat.reduceEqDiff,Int.reduceAdd,Int.reduceSub,Int.reduceMul,Int.reduceNeg,Int.reduceLT,Int.reduceLE,Int.reduceEq,Int.reduceToNat,Int.cast_ofNat_Int,↓reduceIte, ht.L]
  refine Wp.for t.length (fun i a H1 => ∃ u, a 1 = .fn f us caps ∧ a 4 = .p (H.length + 1) 0 ∧ a 5 = .p (H.length + 2) 0 ∧ a 12 = rows ∧ a 13 = .i t.length ∧ a 14 = .i i ∧ Gr H H1 ∧ H.length + 3 ≤ H1.length ∧
    H1[H.length + 1]? = some (.cells [.i 0, .nils]) ∧ H1[H.length + 2]? = some (.cells [.i v, u]) ∧ Acc (H.length + 3) (fun b => H.length + 3 ≤ b) H1 u ((t.take i).map g)) ?_ ?_
  · rintro i a H1 hi ⟨u, a1, a4, a5, a12, a13, a14, hg, hl, c4, c5, hu⟩ ih
    simp (disch := (first | assumption | omega | (simp only [List.length_append, List.length_cons, List.length_nil]; omega))) only [↓wD,wU,Nat.reduceBEq,zx150,zx151,zx159,zx160,zx161,zx162,Nat.reduceAdd,Nat.reduceSub,Nat.reduceMul,Nat.reduceLeDiff,Nat.reduceLT,Nat.reduceEqDiff,Int.reduceAdd,Int.reduceSub,Int.reduceMul,Int.reduceNeg,Int.reduceLT,Int.reduceLE,Int.reduceEq,Int.reduceToNat,Int.cast_ofNat_Int,↓reduceIte, a1, a4, a5, a12, a13, a14]
    refine condP_split (fun hlt => ?_) (fun hlt => ?_)
    · have hi' : i < t.length := by omega
      have ht1 := hlow.gr hg
      have gr := ht1.get (k := (i : Int)) (by omega) (by omega)
      have hx := hrl _ (mem_gi hi')
      simp (disch := (first | assumption | omega | (simp only [List.length_append, List.length_cons, List.length_nil]; omega))) only [↓wD,wU,Nat.reduceBEq,zx150,zx151,zx159,zx160,zx161,zx162,Nat.reduceAdd,Nat.reduceSub,Nat.reduceMul,Nat.reduceLeDiff,Nat.reduceLT,Nat.reduceEqDiff,Int.reduceAdd,Int.reduceSub,Int.reduceMul,Int.reduceNeg,Int.reduceLT,Int.reduceLE,Int.reduceEq,Int.reduceToNat,Int.cast_ofNat_Int,↓reduceIte, a1, a4, a5, a12, a13, a14, ht1.L]
      refine lpI (wpC ?_)
      simp (disch := (first | assumption | omega | (simp only [List.length_append, List.length_cons, List.length_nil]; omega))) only [↓wD,wU,Nat.reduceBEq,zx150,zx151,zx159,zx160,zx161,zx162,Nat.reduceAdd,Nat.reduceSub,Nat.reduceMul,Nat.reduceLeDiff,Nat.reduceLT,Nat.reduceEqDiff,Int.reduceAdd,Int.reduceSub,Int.reduceMul,Int.reduceNeg,Int.reduceLT,Int.reduceLE,Int.reduceEq,Int.reduceToNat,Int.cast_ofNat_Int,↓reduceIte, a1, a4, a5, a12, a13, a14, ld_of c5]
      refine (clone_ret gr (by omega)).toFX fun y H2 x12 hy => ?_
      have hg2 := hg.trans x12.kp.weakT
      simp (disch := (first | assumption | omega | (simp only [List.length_append, List.length_cons, List.length_nil]; omega))) only [↓wD,wU,Nat.reduceBEq,zx150,zx151,zx159,zx160,zx161,zx162,Nat.reduceAdd,Nat.reduceSub,Nat.reduceMul,Nat.reduceLeDiff,Nat.reduceLT,Nat.reduceEqDiff,Int.reduceAdd,Int.reduceSub,Int.reduceMul,Int.reduceNeg,Int.reduceLT,Int.reduceLE,Int.reduceEq,Int.reduceToNat,Int.cast_ofNat_Int,↓reduceIte, a1, a4, a5, a12, a13, a14]
      have hw0 := hto _ (mem_gi hi') y H2 H1.length hg2 (by omega) x12.1 hy
      refine callvI (WpV.fn ((hw0.mono ?_)))
      rintro w H3 ⟨hw, x23⟩
      have x13 : Kx (fun b => b < H1.length) H1 H3 := (x12.all (fun b => b < H1.length)).trans x23 fun b _ h => h
      have l13 := x13.1
      have hu3 : Acc (H.length + 3) (fun b => H.length + 3 ≤ b ∧ b < H1.length) H3 u ((t.take i).map g) := hu.low.kp x13.kp (fun b e => (hu.blk_lt e).2) (fun b h => h.2)
      have hw3 : Sl (fun b => H1.length ≤ b ∧ b < H3.length) H3 w (g (gi t (i : Int))) := hw.low
      have hwV := hw.cellsV
      have d4 := x13.get (by omega) c4
      have d5 := x13.get (by omega) c5
      simp (disch := (first | assumption | omega | (simp only [List.length_append, List.length_cons, List.length_nil]; omega))) only [↓wD,wU,Nat.reduceBEq,zx150,zx151,zx159,zx160,zx161,zx162,Nat.reduceAdd,Nat.reduceSub,Nat.reduceMul,Nat.reduceLeDiff,Nat.reduceLT,Nat.reduceEqDiff,Int.reduceAdd,Int.reduceSub,Int.reduceMul,Int.reduceNeg,Int.reduceLT,Int.reduceLE,Int.reduceEq,Int.reduceToNat,Int.cast_ofNat_Int,↓reduceIte, a1, a4, a5, a12, a13, a14, hwV]
      refine appX ((hu3.mono (q := fun b => H.length + 3 ≤ b) (Kp.refl _ _) fun b h => h.1).pushL (by omega) (by omega) hw3 (fun b hb => ⟨by omega, fun e => by have := (hu.blk_lt e).2; omega⟩) ?_ fun u' H4 hu4 hk4 hl4 hb4 => fun x34 => ?_)
      · simp; omega
      · have a34 : Kx (fun b => u.blk ≠ some b) H3 H4 := ((Kx.app (fun b => u.blk ≠ some b) H3 _).trans x34 fun b _ h => h)
        have n4 : u.blk ≠ some (H.length + 1) := fun e => by have := (hu.blk_lt e).1; omega
        have n5 : u.blk ≠ some (H.length + 2) := fun e => by have := (hu.blk_lt e).1; omega
        have e4 := a34.get n4 d4
        have e5 := a34.get n5 d5
        have huV := hu4.cellsV
        have hg4 : Gr H (H4.set (H.length + 2) (.cells [.i v, u'])) := ((hg.trans' x13.kp fun b hb => by omega).trans' a34.kp fun b hb e => by have := (hu.blk_lt e).1; omega).set (by omega) _
        have q4 : (H4.set (H.length + 2) (.cells [.i v, u']))[H.length + 1]? = some (.cells [.i 0, .nils]) := by rw [List.getElem?_set_ne (by omega)]; exact e4
        have q5 := get_set (k := .cells [.i v, u']) e5
        have hu5 : Acc (H.length + 3) (fun b => H.length + 3 ≤ b) (H4.set (H.length + 2) (.cells [.i v, u'])) u' ((t.take (i + 1)).map g) := by
          rw [take_gi hi', List.map_append]
          exact hu4.mono ((Kp.set _ _ _).weak fun b hb => by omega) fun _ h => h
        simp (disch := (first | assumption | omega | (simp only [List.length_append, List.length_cons, List.length_nil]; omega))) only [↓wD,wU,Nat.reduceBEq,zx150,zx151,zx159,zx160,zx161,zx162,Nat.reduceAdd,Nat.reduceSub,Nat.reduceMul,Nat.reduceLeDiff,Nat.reduceLT,Nat.reduceEqDiff,Int.reduceAdd,Int.reduceSub,Int.reduceMul,Int.reduceNeg,Int.reduceLT,Int.reduceLE,Int.reduceEq,Int.reduceToNat,Int.cast_ofNat_Int,↓reduceIte, a1, a4, a5, a12, a13, a14, huV, st_of e5]
        refine chkI ?_ ?_
        · have z2 := x12.get trivial c5
          simp [chk1, ev, Fr.upd, a5, ld_of z2, ld_of d5, sameO, AV.same_refl]
        · simp (disch := (first | assumption | omega | (simp only [List.length_append, List.length_cons, List.length_nil]; omega))) only [↓wD,wU,Nat.reduceBEq,zx150,zx151,zx159,zx160,zx161,zx162,Nat.reduceAdd,Nat.reduceSub,Nat.reduceMul,Nat.reduceLeDiff,Nat.reduceLT,Nat.reduceEqDiff,Int.reduceAdd,Int.reduceSub,Int.reduceMul,Int.reduceNeg,Int.reduceLT,Int.reduceLE,Int.reduceEq,Int.reduceToNat,Int.cast_ofNat_Int,↓reduceIte, a1, a4, a5, a12, a13, a14]
          refine (ih hi').go ⟨u', ?_⟩
          simp (disch := (first | assumption | omega | (simp only [List.length_append, List.length_cons, List.length_nil]; omega))) only [↓wD,wU,Nat.reduceBEq,zx150,zx151,zx159,zx160,zx161,zx162,Nat.reduceAdd,Nat.reduceSub,Nat.reduceMul,Nat.reduceLeDiff,Nat.reduceLT,Nat.reduceEqDiff,Int.reduceAdd,Int.reduceSub,Int.reduceMul,Int.reduceNeg,Int.reduceLT,Int.reduceLE,Int.reduceEq,Int.reduceToNat,Int.cast_ofNat_Int,↓reduceIte, a1, a4, a5, a12, a13, a14]
          exact ⟨hg4, by simp; omega, q4, q5, hu5⟩
    · obtain rfl : i = t.length := by omega
      have huV := hu.cellsV
      rw [List.take_length] at hu
      simp (disch := (first | assumption | omega | (simp only [List.length_append, List.length_cons, List.length_nil]; omega))) only [↓wD,wU,Nat.reduceBEq,zx150,zx151,zx159,zx160,zx161,zx162,Nat.reduceAdd,Nat.reduceSub,Nat.reduceMul,Nat.reduceLeDiff,Nat.reduceLT,Nat.reduceEqDiff,Int.reduceAdd,Int.reduceSub,Int.reduceMul,Int.reduceNeg,Int.reduceLT,Int.reduceLE,Int.reduceEq,Int.reduceToNat,Int.cast_ofNat_Int,↓reduceIte, a1, a4, a5, a12, a13, a14, ldn_of c5, huV, st_of c4]
      simp (disch := (first | assumption | omega | (simp only [List.length_append, List.length_cons, List.length_nil]; omega))) only [↓wD,wU,Nat.reduceBEq,zx150,zx151,zx159,zx160,zx161,zx162,Nat.reduceAdd,Nat.reduceSub,Nat.reduceMul,Nat.reduceLeDiff,Nat.reduceLT,Nat.reduceEqDiff,Int.reduceAdd,Int.reduceSub,Int.reduceMul,Int.reduceNeg,Int.reduceLT,Int.reduceLE,Int.reduceEq,Int.reduceToNat,Int.cast_ofNat_Int,↓reduceIte, ldn_of (get_set c4)]
      exact rv_si ((hu.mono ((Kp.set _ _ _).weak fun b hb => by omega) fun _ h => h).sl.weak fun b h => .inr (by omega))
  · simp (disch := (first | assumption | omega | (simp only [List.length_append, List.length_cons, List.length_nil]; omega))) only [↓wD,wU,Nat.reduceBEq,zx150,zx151,zx159,zx160,zx161,zx162,Nat.reduceAdd,Nat.reduceSub,Nat.reduceMul,Nat.reduceLeDiff,Nat.reduceLT,Nat.reduceEqDiff,Int.reduceAdd,Int.reduceSub,Int.reduceMul,Int.reduceNeg,Int.reduceLT,Int.reduceLE,Int.reduceEq,Int.reduceToNat,Int.cast_ofNat_Int,↓reduceIte]
    refine ⟨.nils, ?_⟩
    simp (disch := (first | assumption | omega | (simp only [List.length_append, List.length_cons, List.length_nil]; omega))) only [↓wD,wU,Nat.reduceBEq,zx150,zx151,zx159,zx160,zx161,zx162,Nat.reduceAdd,Nat.reduceSub,Nat.reduceMul,Nat.reduceLeDiff,Nat.reduceLT,Nat.reduceEqDiff,Int.reduceAdd,Int.reduceSub,Int.reduceMul,Int.reduceNeg,Int.reduceLT,Int.reduceLE,Int.reduceEq,Int.reduceToNat,Int.cast_ofNat_Int,↓reduceIte]
    exact ⟨(((Gr.refl H).app _).app _).app _, Acc.nil⟩
/-- two Arrays may be put together -/
def alikeP (v v' : Int) (t t' : List (List Int)) : Prop := ArrP v t ∧ ArrP v' t' ∧ v = v' ∧ wd t = wd t'
instance (v v' : Int) (t t' : List (List Int)) : Decidable (alikeP v v' t t') := by unfold alikeP; infer_instance
theorem alike_ret {p q : Nat → Prop} {H : Heap} {r r' : AV} {v v' : Int} {t t' : List (List Int)} (ht : Sl p H r t) (ht' : Sl q H r' t') : RetP E 36 [.ag [.i v, r], .ag [.i v', r']] H (.b (decide (alikeP v v' t t'))) := by
  refine RetP.ro rfl fn36 rfl rfl ?_
  unfold f36A
  have k1 := (ht.app [.cells [.i v, r]]).app [.cells [.i v', r']]
  have k2 := (ht'.app [.cells [.i v, r]]).app [.cells [.i v', r']]
  by_cases h1 : ArrP v t
  · by_cases h2 : ArrP v' t'
    · by_cases h3 : v = v'
      · subst h3
        by_cases h4 : wd t = wd t'
        · have h4' : decide ((wd t : Int) = wd t') = true := decide_eq_true (by omega)
          rw [decide_eq_true (show alikeP v v t t' from ⟨h1, h2, rfl, h4⟩)]
          clear h4
          simp (disch := (first | assumption | omega | (simp only [List.length_append, List.length_cons, List.length_nil]; omega))) only [↓wD,wU,Nat.reduceBEq,zx150,zx151,zx159,zx160,zx161,zx162,Nat.reduceAdd,Nat.reduceSub,Nat.reduceMul,Nat.reduceLeDiff,Nat.reduceLT,Nat.reduceEqDiff,Int.reduceAdd,Int.reduceSub,Int.reduceMul,Int.reduceNeg,Int.reduceLT,Int.reduceLE,Int.reduceEq,Int.reduceToNat,Int.cast_ofNat_Int,↓reduceIte, ht.cellsV, ht'.cellsV, (rvalid_ret k1).call, (rvalid_ret k2).call, decide_eq_true h1, decide_eq_true h2, (width_ret k1 h1.2.2.1).call, (width_ret k2 h2.2.2.1).call, h4']
        · have h4' : decide ((wd t : Int) = wd t') = false := decide_eq_false (by omega)
          rw [decide_eq_false (show ¬ alikeP v v t t' from fun h => h4 h.2.2.2)]
          clear h4
          simp (disch := (first | assumption | omega | (simp only [List.length_append, List.length_cons, List.length_nil]; omega))) only [↓wD,wU,Nat.reduceBEq,zx150,zx151,zx159,zx160,zx161,zx162,Nat.reduceAdd,Nat.reduceSub,Nat.reduceMul,Nat.reduceLeDiff,Nat.reduceLT,Nat.reduceEqDiff,Int.reduceAdd,Int.reduceSub,Int.reduceMul,Int.reduceNeg,Int.reduceLT,Int.reduceLE,Int.reduceEq,Int.reduceToNat,Int.cast_ofNat_Int,↓reduceIte, ht.cellsV, ht'.cellsV, (rvalid_ret k1).call, (rvalid_ret k2).call, decide_eq_true h1, decide_eq_true h2, (width_ret k1 h1.2.2.1).call, (width_ret k2 h2.2.2.1).call, h4']
      · have h3' : decide (v = v') = false := decide_eq_false h3
        rw [decide_eq_false (show ¬ alikeP v v' t t' from fun h => h3 h.2.2.1)]
        simp (disch := (first | assumption | omega | (simp only [List.length_append, List.length_cons, List.length_nil]; omega))) only [↓wD,wU,Nat.reduceBEq,zx150,zx151,zx159,zx160,zx161,zx162,Nat.reduceAdd,Nat.reduceSub,Nat.reduceMul,Nat.reduceLeDiff,Nat.reduceLT,Nat.reduceEqDiff,Int.reduceAdd,Int.reduceSub,Int.reduceMul,Int.reduceNeg,Int.reduceLT,Int.reduceLE,Int.reduceEq,Int.reduceToNat,Int.cast_ofNat_Int,↓reduceIte, ht.cellsV, ht'.cellsV, (rvalid_ret k1).call, (rvalid_ret k2).call, decide_eq_true h1, decide_eq_true h2, h3']
    · rw [decide_eq_false (show ¬ alikeP v v' t t' from fun h => h2 h.2.1)]
      simp (disch := (first | assumption | omega | (simp only [List.length_append, List.length_cons, List.length_nil]; omega))) only [↓wD,wU,Nat.reduceBEq,zx150,zx151,zx159,zx160,zx161,zx162,Nat.reduceAdd,Nat.reduceSub,Nat.reduceMul,Nat.reduceLeDiff,Nat.reduceLT,Nat.reduceEqDiff,Int.reduceAdd,Int.reduceSub,Int.reduceMul,Int.reduceNeg,Int.reduceLT,Int.reduceLE,Int.reduceEq,Int.reduceToNat,Int.cast_ofNat_Int,↓reduceIte, ht.cellsV, ht'.cellsV, (rvalid_ret k1).call, (rvalid_ret k2).call, decide_eq_true h1, decide_eq_false h2]
  · rw [decide_eq_false (show ¬ alikeP v v' t t' from fun h => h1 h.1)]
    simp (disch := (first | assumption | omega | (simp only [List.length_append, List.length_cons, List.length_nil]; omega))) only [↓wD,wU,Nat.reduceBEq,zx150,zx151,zx159,zx160,zx161,zx162,Nat.reduceAdd,Nat.reduceSub,Nat.reduceMul,Nat.reduceLeDiff,Nat.reduceLT,Nat.reduceEqDiff,Int.reduceAdd,Int.reduceSub,Int.reduceMul,Int.reduceNeg,Int.reduceLT,Int.reduceLE,Int.reduceEq,Int.reduceToNat,Int.cast_ofNat_Int,↓reduceIte, ht.cellsV, ht'.cellsV, (rvalid_ret k1).call, decide_eq_false h1]
theorem both_err {p q p' : Nat → Prop} {H : Heap} {r r' : AV} {v v' : Int} {t t' : List (List Int)} (ht : Sl p H r t) (ht' : Sl q H r' t') (h : ¬ alikeP v v' t t') : Ret E 31 [.ag [.i v, r], .ag [.i v', r']] p' H (T2.mk ((0, []) : Int × List (List Int)) (2 : Int)) := by
  refine Ret.ro rfl fn31 rfl ?_
  unfold f31A
  have k1 := ((ht.app [.cells [.i v, r]]).app [.cells [.i v', r']]).app [.cells [.i 0, .nils]]
  have k2 := ((ht'.app [.cells [.i v, r]]).app [.cells [.i v', r']]).app [.cells [.i 0, .nils]]
  by_cases h1 : ArrP v t
  · by_cases h2 : ArrP v' t'
    · by_cases h3 : v = v'
      · have h4 : ¬ wd t = wd t' := fun h4 => h ⟨h1, h2, h3, h4⟩
        subst h3
        have h4' : decide (¬ (wd t : Int) = wd t') = true := decide_eq_true (by omega)
        clear h h4
        simp (disch := (first | assumption | omega | (simp only [List.length_append, List.length_cons, List.length_nil]; omega))) only [↓wD,wU,Nat.reduceBEq,zx150,zx151,zx159,zx160,zx161,zx162,Nat.reduceAdd,Nat.reduceSub,Nat.reduceMul,Nat.reduceLeDiff,Nat.reduceLT,Nat.reduceEqDiff,Int.reduceAdd,Int.reduceSub,Int.reduceMul,Int.reduceNeg,Int.reduceLT,Int.reduceLE,Int.reduceEq,Int.reduceToNat,Int.cast_ofNat_Int,↓reduceIte, ht.cellsV, ht'.cellsV, (valid_ret k1).call, (valid_ret k2).call, decide_eq_true h1, decide_eq_true h2, (columns_ret k1 h1.2.2.1).call, (columns_ret k2 h2.2.2.1).call, h4']
        exact rv_2 (rv_si Sl.nil) rv_i
      · have h3' : decide (¬ v = v') = true := decide_eq_true h3
        clear h
        simp (disch := (first | assumption | omega | (simp only [List.length_append, List.length_cons, List.length_nil]; omega))) only [↓wD,wU,Nat.reduceBEq,zx150,zx151,zx159,zx160,zx161,zx162,Nat.reduceAdd,Nat.reduceSub,Nat.reduceMul,Nat.reduceLeDiff,Nat.reduceLT,Nat.reduceEqDiff,Int.reduceAdd,Int.reduceSub,Int.reduceMul,Int.reduceNeg,Int.reduceLT,Int.reduceLE,Int.reduceEq,Int.reduceToNat,Int.cast_ofNat_Int,↓reduceIte, ht.cellsV, ht'.cellsV, (valid_ret k1).call, (valid_ret k2).call, decide_eq_true h1, decide_eq_true h2, h3']
        exact rv_2 (rv_si Sl.nil) rv_i
    · clear h
      simp (disch := (first | assumption | omega | (simp only [List.length_append, List.length_cons, List.length_nil]; omega))) only [↓wD,wU,Nat.reduceBEq,zx150,zx151,zx159,zx160,zx161,zx162,Nat.reduceAdd,Nat.reduceSub,Nat.reduceMul,Nat.reduceLeDiff,Nat.reduceLT,Nat.reduceEqDiff,Int.reduceAdd,Int.reduceSub,Int.reduceMul,Int.reduceNeg,Int.reduceLT,Int.reduceLE,Int.reduceEq,Int.reduceToNat,Int.cast_ofNat_Int,↓reduceIte, ht.cellsV, ht'.cellsV, (valid_ret k1).call, (valid_ret k2).call, decide_eq_true h1, decide_eq_false h2]
      exact rv_2 (rv_si Sl.nil) rv_i
  · clear h
    simp (disch := (first | assumption | omega | (simp only [List.length_append, List.length_cons, List.length_nil]; omega))) only [↓wD,wU,Nat.reduceBEq,zx150,zx151,zx159,zx160,zx161,zx162,Nat.reduceAdd,Nat.reduceSub,Nat.reduceMul,Nat.reduceLeDiff,Nat.reduceLT,Nat.reduceEqDiff,Int.reduceAdd,Int.reduceSub,Int.reduceMul,Int.reduceNeg,Int.reduceLT,Int.reduceLE,Int.reduceEq,Int.reduceToNat,Int.cast_ofNat_Int,↓reduceIte, ht.cellsV, ht'.cellsV, (valid_ret k1).call, decide_eq_false h1]
    exact rv_2 (rv_si Sl.nil) rv_i
theorem both_ret {p q p' : Nat → Prop} {H : Heap} {r r' : AV} {v : Int} {t t' : List (List Int)} (ht : Sl p H r t) (ht' : Sl q H r' t') (h : alikeP v v t t') : Ret E 31 [.ag [.i v, r], .ag [.i v, r']] p' H (if t.length + t'.length ≤ 16 then T2.mk ((v, t ++ t') : Int × List (List Int)) (0 : Int) else T2.mk ((0, []) : Int × List (List Int)) (6 : Int)) := by
  refine Ret.ro rfl fn31 rfl ?_
  unfold f31A
  obtain ⟨h1, h2, _, h4⟩ := h
  have hlow : Sl (fun b => b < H.length) H r t := ht.low.weak fun _ h => h.2
  have hlow' : Sl (fun b => b < H.length) H r' t' := ht'.low.weak fun _ h => h.2
  have k1 := ((hlow.app [.cells [.i v, r]]).app [.cells [.i v, r']]).app [.cells [.i 0, .nils]]
  have k2 := ((hlow'.app [.cells [.i v, r]]).app [.cells [.i v, r']]).app [.cells [.i 0, .nils]]
  have h4' : decide (¬ (wd t : Int) = wd t') = false := decide_eq_false (by omega)
  have hv' : decide (¬ v = v) = false := decide_eq_false (fun h => h rfl)
  have l1 := h1.2.2.2.1
  have l2 := h2.2.2.2.1
  simp (disch := (first | assumption | omega | (simp only [List.length_append, List.length_cons, List.length_nil]; omega))) only [↓wD,wU,Nat.reduceBEq,zx150,zx151,zx159,zx160,zx161,zx162,Nat.reduceAdd,Nat.reduceSub,Nat.reduceMul,Nat.reduceLeDiff,Nat.reduceLT,Nat.reduceEqDiff,Int.reduceAdd,Int.reduceSub,Int.reduceMul,Int.reduceNeg,Int.reduceLT,Int.reduceLE,Int.reduceEq,Int.reduceToNat,Int.cast_ofNat_Int,↓reduceIte, ht.cellsV, ht'.cellsV, (valid_ret k1).call, (valid_ret k2).call, decide_eq_true h1, decide_eq_true h2, (columns_ret k1 h1.2.2.1).call, (columns_ret k2 h2.2.2.1).call, h4', hv']
  have b3 : (H ++ [Blk.cells [.i v, r]] ++ [Blk.cells [.i v, r']] ++ [Blk.cells [.i 0, .nils]]).length = H.length + 3 := by simp
  have c2 : (H ++ [Blk.cells [.i v, r]] ++ [Blk.cells [.i v, r']] ++ [Blk.cells [.i 0, .nils]])[H.length + 2]? = some (Blk.cells [.i 0, .nils]) := by simp [List.getElem?_append]
  generalize H ++ [Blk.cells [.i v, r]] ++ [Blk.cells [.i v, r']] ++ [Blk.cells [.i 0, .nils]] = H3 at *
  have e3 : H.length + 1 + 1 + 1 = H3.length := by omega
  rw [e3]
  have hlit : Sl (fun _ => True) (H3 ++ [Blk.cells [r, r']]) (.s 1 H3.length 0 2 (some 2)) [t, t'] := by
    refine Sl.litL (us := [r, r']) (xs := [t, t']) (b := H3.length) get_last trivial (show 2 ≤ 9223372036854775807 by omega) rfl fun i h1 h2 => ?_
    match i, h1, h2 with
    | 0, _, _ => exact (k1.app _).weak fun _ _ => trivial
    | 1, _, _ => exact (k2.app _).weak fun _ _ => trivial
    | n + 2, h1, _ => exact absurd h1 (by simp)
  refine (concatL_ret hlit (by simp [lsumL]; omega)).toX fun cu H4 x34 hcu => ?_
  have ef : [t, t'].flatten = t ++ t' := by simp
  rw [ef] at hcu
  have c4 : H4[H.length + 2]? = some (Blk.cells [.i 0, .nils]) := x34.get trivial ((Kx.app (fun _ => True) H3 _).get trivial c2)
  have l34 := x34.1
  have l3a : (H3 ++ [Blk.cells [r, r']]).length = H3.length + 1 := by simp
  replace hcu : Sl (fun _ => True) H4 cu (t ++ t') := hcu.weak fun _ _ => trivial
  have hlt : (t ++ t').length = t.length + t'.length := List.length_append
  have cuV := hcu.cellsV
  clear k1 k2 h4' hv' hlit e3 x34 ef c2
  have hst : st H.length (H4 ++ [Blk.cells [.i 0, .nils]]) H4.length 0 [.i v, cu] = some (H4 ++ [Blk.cells [.i v, cu]]) := by
    rw [st_of (cs := [.i 0, .nils]) (by simp) (by omega) (by simp)]
    simp [wr]
  have cp : (H4 ++ [Blk.cells [.i v, cu]])[H4.length]? = some (Blk.cells [.i v, cu]) := get_last
  have cq : (H4 ++ [Blk.cells [.i v, cu]])[H.length + 2]? = some (Blk.cells [.i 0, .nils]) := (Kx.app (fun _ => True) H4 _).get trivial c4
  have hcp := hcu.app [Blk.cells [.i v, cu]]
  have l45 : (H4 ++ [Blk.cells [.i v, cu]]).length = H4.length + 1 := by simp
  have hcL := hcp.L
  rw [hlt] at hcL
  simp (disch := (first | assumption | omega | (simp only [List.length_append, List.length_cons, List.length_nil]; omega))) only [↓wD,wU,Nat.reduceBEq,zx150,zx151,zx159,zx160,zx161,zx162,Nat.reduceAdd,Nat.reduceSub,Nat.reduceMul,Nat.reduceLeDiff,Nat.reduceLT,Nat.reduceEqDiff,Int.reduceAdd,Int.reduceSub,Int.reduceMul,Int.reduceNeg,Int.reduceLT,Int.reduceLE,Int.reduceEq,Int.reduceToNat,Int.cast_ofNat_Int,↓reduceIte, cuV]
  have e2 : H.length + 1 + 1 = H.length + 2 := by omega
  clear hcu
  simp (disch := (first | assumption | omega | (simp only [List.length_append, List.length_cons, List.length_nil]; omega))) only [↓wD,wU,Nat.reduceBEq,zx150,zx151,zx159,zx160,zx161,zx162,Nat.reduceAdd,Nat.reduceSub,Nat.reduceMul,Nat.reduceLeDiff,Nat.reduceLT,Nat.reduceEqDiff,Int.reduceAdd,Int.reduceSub,Int.reduceMul,Int.reduceNeg,Int.reduceLT,Int.reduceLE,Int.reduceEq,Int.reduceToNat,Int.cast_ofNat_Int,↓reduceIte, hst, ld_of cp, hcL, e2]
  by_cases h16 : t.length + t'.length ≤ 16
  · rw [if_pos h16]
    have h16' : ¬ 16 < (t.length : Int) + t'.length := by omega
    simp (disch := (first | assumption | omega | (simp only [List.length_append, List.length_cons, List.length_nil]; omega))) only [↓wD,wU,Nat.reduceBEq,zx150,zx151,zx159,zx160,zx161,zx162,Nat.reduceAdd,Nat.reduceSub,Nat.reduceMul,Nat.reduceLeDiff,Nat.reduceLT,Nat.reduceEqDiff,Int.reduceAdd,Int.reduceSub,Int.reduceMul,Int.reduceNeg,Int.reduceLT,Int.reduceLE,Int.reduceEq,Int.reduceToNat,Int.cast_ofNat_Int,↓reduceIte, zx171 h16', ldn_of cp]
    refine (each_ret (g := id) (us := []) (caps := []) hcp (by omega) (fun x hx => ?_) fun x _ y Hc L hg hL hLc hy => ?_).toX fun w H6 x56 hw => ?_
    · rcases List.mem_append.1 hx with hx | hx
      · have := (h1.2.2.2.2 x hx).2.2.1; omega
      · have := (h2.2.2.2.2 x hx).2.2.1; omega
    · exact (clip_ret hy).use fun w N hw => ⟨(rvs hw).weak fun b h => h.elim id fun h => by omega, Kx.app _ _ _⟩
    · obtain ⟨u, rfl, hu⟩ := rv_si_elim hw
      have c6 := x56.get trivial cq
      have huV := hu.cellsV
      rw [List.map_id] at hu
      have hl56 := x56.1
      simp (disch := (first | assumption | omega | (simp only [List.length_append, List.length_cons, List.length_nil]; omega))) only [↓wD,wU,Nat.reduceBEq,zx150,zx151,zx159,zx160,zx161,zx162,Nat.reduceAdd,Nat.reduceSub,Nat.reduceMul,Nat.reduceLeDiff,Nat.reduceLT,Nat.reduceEqDiff,Int.reduceAdd,Int.reduceSub,Int.reduceMul,Int.reduceNeg,Int.reduceLT,Int.reduceLE,Int.reduceEq,Int.reduceToNat,Int.cast_ofNat_Int,↓reduceIte, huV, st_of c6, e2]
      simp (disch := (first | assumption | omega | (simp only [List.length_append, List.length_cons, List.length_nil]; omega))) only [↓wD,wU,Nat.reduceBEq,zx150,zx151,zx159,zx160,zx161,zx162,Nat.reduceAdd,Nat.reduceSub,Nat.reduceMul,Nat.reduceLeDiff,Nat.reduceLT,Nat.reduceEqDiff,Int.reduceAdd,Int.reduceSub,Int.reduceMul,Int.reduceNeg,Int.reduceLT,Int.reduceLE,Int.reduceEq,Int.reduceToNat,Int.cast_ofNat_Int,↓reduceIte, ldn_of (get_set c6), e2]
      exact rv_2 (rv_si (((hu.low.kp (Kx.set (H.length + 2) H6 (Blk.cells [.i v, u]) |>.weak fun b _ h => by have := h.1.resolve_left (fun h => h); omega).kp).weak fun b h => .inr (by have := h.1.resolve_left (fun h => h); omega)))) rv_i
  · rw [if_neg h16]
    have h16' : 16 < (t.length : Int) + t'.length := by omega
    have hst2 : st H.length H4 (H.length + 2) 0 [.i 0, .nils] = some (H4.set (H.length + 2) (Blk.cells [.i 0, .nils])) := by
      rw [st_of c4 (by omega) (by simp)]; simp [wr]
    have cz := get_set (k := Blk.cells [.i 0, .nils]) c4
    have czl : H.length + 2 < H4.length := (List.getElem?_eq_some_iff.1 c4).1
    have cz2 : (H4.set (H.length + 2) (Blk.cells [.i 0, .nils]) ++ [Blk.cells [.i v, cu]])[H.length + 2]? = some (Blk.cells [.i 0, .nils]) := (Kx.app (fun _ => True) _ _).get trivial cz
    have hl2 : ldn (H4.set (H.length + 2) (Blk.cells [.i 0, .nils]) ++ [Blk.cells [.i v, cu]]) (H.length + 2) 0 2 = some [.i 0, .nils] := by
      rw [ldn_of cz2]; simp
    simp (disch := (first | assumption | omega | (simp only [List.length_append, List.length_cons, List.length_nil]; omega))) only [↓wD,wU,Nat.reduceBEq,zx150,zx151,zx159,zx160,zx161,zx162,Nat.reduceAdd,Nat.reduceSub,Nat.reduceMul,Nat.reduceLeDiff,Nat.reduceLT,Nat.reduceEqDiff,Int.reduceAdd,Int.reduceSub,Int.reduceMul,Int.reduceNeg,Int.reduceLT,Int.reduceLE,Int.reduceEq,Int.reduceToNat,Int.cast_ofNat_Int,↓reduceIte, zx170 h16', hst2, e2, hl2]
    exact rv_2 (rv_si Sl.nil) rv_i
end Go.Proofs.Ytalaadcbpjnglaa
namespace Go.AM
open Go
theorem Sl.storeI {p : Nat → Prop} {lo : Nat} {H : Heap} {v : AV} {xs : List Int} {k x : Int} {Q : Heap → Prop} (h : Sl p H v xs) (hlo : ∀ b, p b → lo ≤ b) (h0 : 0 ≤ k) (h1 : k < xs.length)
    (go : ∀ H', Sl p H' v (xs.set k.toNat x) → Kx (fun b => v.blk ≠ some b) H H' → H'.length = H.length → Q H') : @optP _ (stA lo H 1 (v.at 1 k) (.i x)) ⟨Q⟩ := by
  rcases h with ⟨rfl, rfl⟩ | ⟨b, o, c, ks, rfl, hb, hk, h2, h3, h4⟩
  · simp at h1; omega
  · change o + xs.length * 1 ≤ ks.length at h2
    have hkl : k.toNat < xs.length := by omega
    have hst : stA lo H 1 (AV.at 1 (.s (Rep.sz Int) b o xs.length c) k) (.i x) = some (H.set b (.cells (ks.set (o + k.toNat) (.i x)))) := by
      simp only [stA, AV.at, Nat.mul_one, zx130, List.length_singleton, List.all_cons, List.all_nil, zx140, Bool.and_self, and_self, if_true]
      rw [st_of hk (hlo b hb) (by simp; omega)]
      simp [wr]
    refine ⟨_, hst, go _ (.inr ⟨b, o, c, ks.set (o + k.toNat) (.i x), by simp, hb, get_set hk, by simp; change o + xs.length * 1 ≤ _; omega, by simpa using h3, fun i hi => ?_⟩) ?_ (by simp)⟩
    · have hi' : i < xs.length := by simpa using hi
      have h5 := h4 i hi'
      change (ks.drop (o + i * 1)).take 1 = [.i xs[i]] at h5
      change ((ks.set (o + k.toNat) (.i x)).drop (o + i * 1)).take 1 = [.i _]
      rw [Nat.mul_one] at h5 ⊢
      have h6 := take1 h5
      have hlt : o + i < ks.length := by omega
      rw [List.drop_eq_getElem_cons (by simp; omega)]
      by_cases e : k.toNat = i
      · subst e; simp
      · have : ks[o + i]'hlt = .i xs[i] := by
          rw [List.getElem?_eq_getElem hlt] at h6; simpa using h6
        rw [List.getElem_set_ne (by omega), this, List.getElem_set_ne e]
        simp
    · exact (Kx.set _ _ _).weak fun b' _ hb' e => hb' (by simp [AV.blk, e])
def OAcc (p : Nat → Prop) (H : Heap) (u : AV) (xs : List (List Int)) : Prop :=
  (u = .nils ∧ xs = []) ∨ ∃ b o c k, u = .s 1 b o xs.length c ∧ p b ∧ H[b]? = some (.cells k) ∧ o + xs.length ≤ k.length ∧ xs.length ≤ 9223372036854775807 ∧ ∀ (i : Nat) (h : i < xs.length), Rep.rep (fun b' => p b' ∧ b' ≠ b) H ((k.drop (o + i)).take 1) xs[i]
theorem OAcc.of {L : Nat} {p q : Nat → Prop} {H : Heap} {u : AV} {xs : List (List Int)} (h : Acc L p H u xs) (hL : ∀ b, L ≤ b → q b) (hp : ∀ b, p b → q b) : OAcc q H u xs := by
  rcases h with h | ⟨b, o, c, k, rfl, hb, hk1, h1, h2, h3⟩
  · exact .inl h
  · refine .inr ⟨b, o, c, k, rfl, hL b hb, hk1, by change o + xs.length * 1 ≤ _ at h1; omega, h2, fun i hi => ?_⟩
    have := h3 i hi
    change Rep.rep _ H ((k.drop (o + i * 1)).take 1) _ at this
    rw [Nat.mul_one] at this
    exact Rep.mono this (Kp.refl _ _) fun b h => ⟨hp b h.1, h.2⟩
end Go.AM
namespace Go.AM
open Go
theorem wr_get : ∀ {us cs : List AV} {o t : Nat}, t < us.length → o + us.length ≤ cs.length → (wr cs o us)[o + t]? = us[t]?
  | [], _, _, _, h, _ => by simp at h
  | u :: us, cs, o, 0, _, h2 => by
    simp only [wr, List.length_cons] at h2 ⊢
    have key : ∀ (us cs : List AV) (o j : Nat), j < o → (wr cs o us)[j]? = cs[j]? := by
      intro us
      induction us with
      | nil => intro cs o j _; rfl
      | cons u us ih => intro cs o j hj; rw [wr, ih _ _ _ (by omega), List.getElem?_set_ne (by omega)]
    rw [key _ _ _ _ (by omega), Nat.add_zero, List.getElem?_set_self (by omega)]; rfl
  | u :: us, cs, o, t + 1, h1, h2 => by
    simp only [wr, List.length_cons] at h1 h2 ⊢
    rw [show o + (t + 1) = o + 1 + t by omega, wr_get (by omega) (by simp; omega)]; rfl
theorem intsOf_ints : ∀ xs : List Int, intsOf (xs.map AV.i) = some xs
  | [] => rfl
  | x :: xs => by
    show (intsOf (xs.map AV.i)).map (x :: ·) = _
    rw [intsOf_ints xs]; rfl
/-- elements are taken out of a slice of the call's own -/
theorem WpF.del {E : Tab} {lo L f : Nat} {H : Heap} {v : AV} {xs : List Int} {i j : Nat} (hk : E.kd f = .del) (hv : Sl (fun b => L ≤ b) H v xs) (hlo : lo ≤ L) (hn : 0 < xs.length) (hij : i ≤ j) (hj : j ≤ xs.length) :
    WpF E lo f [v, .i i, .i j] H fun w H' => Sl (fun b => L ≤ b) H' w (xs.take i ++ xs.drop j) ∧ Kx (fun b => v.blk ≠ some b) H H' := by
  have hc := hv.ints
  rcases hv with ⟨rfl, rfl⟩ | ⟨b, o, c, k, rfl, hb, hk1, h1, h2, h3⟩
  · simp at hn
  change o + xs.length * 1 ≤ k.length at h1
  rw [Nat.mul_one] at h1
  have e3 : (k.drop o).take xs.length = xs.map AV.i := by
    change (if xs.length ≤ xs.length ∧ 1 = 1 then (if xs.length = 0 then some [] else ldn H b o (xs.length * 1)) else none) = _ at hc
    rw [if_pos ⟨Nat.le_refl _, rfl⟩, if_neg (by omega), ldn_of hk1, Nat.mul_one, if_pos h1] at hc
    exact Option.some.inj hc
  have hz : (xs.take i ++ xs.drop j ++ List.replicate (j - i) 0).length = xs.length := by simp; omega
  have hd : delV lo [.s 1 b o xs.length c, .i i, .i j] H = some (.s 1 b o (xs.length - (j - i)) c, H.set b (.cells (wr k o ((xs.take i ++ xs.drop j ++ List.replicate (j - i) 0).map AV.i)))) := by
    unfold delV
    simp only [hk1, e3, intsOf_ints, Int.toNat_natCast, if_true]
    rw [if_pos ⟨trivial, by omega, by omega, by omega, by omega, hn⟩]
  refine ⟨0, .s 1 b o (xs.length - (j - i)) c, H.set b (.cells (wr k o ((xs.take i ++ xs.drop j ++ List.replicate (j - i) 0).map AV.i))), ?_, ?_, ?_⟩
  rotate_left
  · have hl : (xs.take i ++ xs.drop j).length = xs.length - (j - i) := by simp; omega
    refine .inr ⟨b, o, c, _, by rw [hl]; rfl, hb, get_set hk1, ?_, by omega, fun t ht => ?_⟩
    · rw [wr_length]; change o + (xs.take i ++ xs.drop j).length * 1 ≤ _; omega
    · have hg := wr_get (us := (xs.take i ++ xs.drop j ++ List.replicate (j - i) 0).map AV.i) (cs := k) (o := o) (t := t) (by rw [List.length_map, hz]; omega) (by rw [List.length_map, hz]; omega)
      rw [List.getElem?_map, List.getElem?_append_left ht, List.getElem?_eq_getElem ht] at hg
      change (List.drop (o + t * 1) _).take 1 = [AV.i _]
      rw [Nat.mul_one, List.take_one, List.head?_drop, hg]; rfl
  · exact (Kx.set b H _).weak fun b' _ h e => h (by simp [AV.blk, e])
  · unfold callF
    simp only [hk]
    exact hd
end Go.AM
namespace Go.Proofs.Ytalaadcbpjnglaa
open Go Go.AM Go.Proofs
theorem kd80 : E.kd 80 = .del := by kernel_rfl
theorem drop1_wp {lo L b c : Nat} {H : Heap} {y : AV} {x : List Int} (hy : Sl (fun b => L ≤ b) H y x) (hlo : lo ≤ L) (hb : H[b]? = some (.cells [.i c])) (hc : c < x.length) (hx : x.length ≤ 1000000) :
    WpF E lo 79 [y, .p b 0] H fun w H' => Sl (fun b => L ≤ b) H' w (x.take c ++ x.drop (c + 1)) ∧ Kx (fun b => b < L) H H' := by
  refine WpF.wrt rfl fn79 rfl ?_
  unfold f79A
  have hd := WpF.del (lo := lo) kd80 hy hlo (by omega) (i := c) (j := c + 1) (by omega) (by omega)
  have e1 : ((c + 1 : Nat) : Int) = (c : Int) + 1 := by omega
  rw [e1] at hd
  simp (disch := (first | assumption | omega | (simp only [List.length_append, List.length_cons, List.length_nil]; omega))) only [↓wD,wU,Nat.reduceBEq,zx150,zx151,zx159,zx160,zx161,zx162,Nat.reduceAdd,Nat.reduceSub,Nat.reduceMul,Nat.reduceLeDiff,Nat.reduceLT,Nat.reduceEqDiff,Int.reduceAdd,Int.reduceSub,Int.reduceMul,Int.reduceNeg,Int.reduceLT,Int.reduceLE,Int.reduceEq,Int.reduceToNat,Int.cast_ofNat_Int,↓reduceIte, ld_of hb]
  refine callI (hd.mono ?_)
  rintro w H' ⟨h1, h2⟩
  simp (disch := (first | assumption | omega | (simp only [List.length_append, List.length_cons, List.length_nil]; omega))) only [↓wD,wU,Nat.reduceBEq,zx150,zx151,zx159,zx160,zx161,zx162,Nat.reduceAdd,Nat.reduceSub,Nat.reduceMul,Nat.reduceLeDiff,Nat.reduceLT,Nat.reduceEqDiff,Int.reduceAdd,Int.reduceSub,Int.reduceMul,Int.reduceNeg,Int.reduceLT,Int.reduceLE,Int.reduceEq,Int.reduceToNat,Int.cast_ofNat_Int,↓reduceIte]
  exact ⟨h1, h2.weak fun b' _ hb' e => by have := (hy.blkp e).1; omega⟩
end Go.Proofs.Ytalaadcbpjnglaa
namespace Go.Proofs.Ytalaadcbpjnglaa
open Go Go.AM Go.Proofs
def cutC (c : Nat) (r : List Int) : List Int := r.take c ++ r.drop (c + 1)
/-- a column of an Array -/
def colP (v : Int) (t : List (List Int)) (c : Int) : Prop := ArrP v t ∧ 0 ≤ c ∧ c < wd t
instance (v : Int) (t : List (List Int)) (c : Int) : Decidable (colP v t c) := by unfold colP; infer_instance
theorem drop_err {p q : Nat → Prop} {H : Heap} {r : AV} {v c : Int} {t : List (List Int)} (ht : Sl p H r t) (h : ¬ colP v t c) : Ret E 33 [.ag [.i v, r], .i c] q H (T2.mk ((0, []) : Int × List (List Int)) (2 : Int)) := by
  refine Ret.ro rfl fn33 rfl ?_
  unfold f33A
  have k1 := ((ht.app [.cells [.i v, r]]).app [.cells [.i c]]).app [.cells [.i 0, .nils]]
  by_cases h1 : ArrP v t
  · by_cases h2 : c < 0
    · have d2 : decide (c < 0) = true := decide_eq_true h2
      clear h
      simp (disch := (first | assumption | omega | (simp only [List.length_append, List.length_cons, List.length_nil]; omega))) only [↓wD,wU,Nat.reduceBEq,zx150,zx151,zx159,zx160,zx161,zx162,Nat.reduceAdd,Nat.reduceSub,Nat.reduceMul,Nat.reduceLeDiff,Nat.reduceLT,Nat.reduceEqDiff,Int.reduceAdd,Int.reduceSub,Int.reduceMul,Int.reduceNeg,Int.reduceLT,Int.reduceLE,Int.reduceEq,Int.reduceToNat,Int.cast_ofNat_Int,↓reduceIte, ht.cellsV, (valid_ret k1).call, decide_eq_true h1, d2]
      exact rv_2 (rv_si Sl.nil) rv_i
    · have d2 : decide (c < 0) = false := decide_eq_false h2
      have d3 : decide ((wd t : Int) ≤ c) = true := decide_eq_true (by
        have : ¬ c < wd t := fun q => h ⟨h1, by omega, q⟩
        omega)
      clear h
      simp (disch := (first | assumption | omega | (simp only [List.length_append, List.length_cons, List.length_nil]; omega))) only [↓wD,wU,Nat.reduceBEq,zx150,zx151,zx159,zx160,zx161,zx162,Nat.reduceAdd,Nat.reduceSub,Nat.reduceMul,Nat.reduceLeDiff,Nat.reduceLT,Nat.reduceEqDiff,Int.reduceAdd,Int.reduceSub,Int.reduceMul,Int.reduceNeg,Int.reduceLT,Int.reduceLE,Int.reduceEq,Int.reduceToNat,Int.cast_ofNat_Int,↓reduceIte, ht.cellsV, (valid_ret k1).call, decide_eq_true h1, d2, (columns_ret k1 h1.2.2.1).call, d3]
      exact rv_2 (rv_si Sl.nil) rv_i
  · clear h
    simp (disch := (first | assumption | omega | (simp only [List.length_append, List.length_cons, List.length_nil]; omega))) only [↓wD,wU,Nat.reduceBEq,zx150,zx151,zx159,zx160,zx161,zx162,Nat.reduceAdd,Nat.reduceSub,Nat.reduceMul,Nat.reduceLeDiff,Nat.reduceLT,Nat.reduceEqDiff,Int.reduceAdd,Int.reduceSub,Int.reduceMul,Int.reduceNeg,Int.reduceLT,Int.reduceLE,Int.reduceEq,Int.reduceToNat,Int.cast_ofNat_Int,↓reduceIte, ht.cellsV, (valid_ret k1).call, decide_eq_false h1]
    exact rv_2 (rv_si Sl.nil) rv_i
theorem drop_one {p q : Nat → Prop} {H : Heap} {r : AV} {v c : Int} {t : List (List Int)} (ht : Sl p H r t) (h : colP v t c) (h1 : wd t = 1) : Ret E 33 [.ag [.i v, r], .i c] q H (T2.mk ((0, []) : Int × List (List Int)) (4 : Int)) := by
  refine Ret.ro rfl fn33 rfl ?_
  unfold f33A
  have k1 := ((ht.app [.cells [.i v, r]]).app [.cells [.i c]]).app [.cells [.i 0, .nils]]
  obtain ⟨hA, h2, h3⟩ := h
  have d2 : decide (c < 0) = false := decide_eq_false (by omega)
  have d3 : decide ((wd t : Int) ≤ c) = false := decide_eq_false (by omega)
  have d4 : decide ((wd t : Int) = 1) = true := decide_eq_true (by omega)
  simp (disch := (first | assumption | omega | (simp only [List.length_append, List.length_cons, List.length_nil]; omega))) only [↓wD,wU,Nat.reduceBEq,zx150,zx151,zx159,zx160,zx161,zx162,Nat.reduceAdd,Nat.reduceSub,Nat.reduceMul,Nat.reduceLeDiff,Nat.reduceLT,Nat.reduceEqDiff,Int.reduceAdd,Int.reduceSub,Int.reduceMul,Int.reduceNeg,Int.reduceLT,Int.reduceLE,Int.reduceEq,Int.reduceToNat,Int.cast_ofNat_Int,↓reduceIte, ht.cellsV, (valid_ret k1).call, decide_eq_true hA, d2, (columns_ret k1 hA.2.2.1).call, d3, d4]
  exact rv_2 (rv_si Sl.nil) rv_i
theorem drop_ret {p q : Nat → Prop} {H : Heap} {r : AV} {v : Int} {c : Nat} {t : List (List Int)} (ht : Sl p H r t) (hA : ArrP v t) (hc : c < wd t) (h1 : 1 < wd t) : Ret E 33 [.ag [.i v, r], .i c] q H (T2.mk ((v, t.map (cutC c)) : Int × List (List Int)) (0 : Int)) := by
  refine Ret.ro rfl fn33 rfl ?_
  unfold f33A
  have k1 := ((ht.app [.cells [.i v, r]]).app [.cells [.i c]]).app [.cells [.i 0, .nils]]
  have d2 : decide ((c : Int) < 0) = false := decide_eq_false (by omega)
  have d3 : decide ((wd t : Int) ≤ (c : Int)) = false := decide_eq_false (by omega)
  have d4 : decide ((wd t : Int) = 1) = false := decide_eq_false (by omega)
  have c1 : (H ++ [Blk.cells [.i v, r]] ++ [Blk.cells [.i c]] ++ [Blk.cells [.i 0, .nils]])[H.length + 1]? = some (Blk.cells [.i c]) := by simp [List.getElem?_append]
  have c2 : (H ++ [Blk.cells [.i v, r]] ++ [Blk.cells [.i c]] ++ [Blk.cells [.i 0, .nils]])[H.length + 2]? = some (Blk.cells [.i 0, .nils]) := by simp [List.getElem?_append]
  have b3 : (H ++ [Blk.cells [.i v, r]] ++ [Blk.cells [.i c]] ++ [Blk.cells [.i 0, .nils]]).length = H.length + 3 := by simp
  have e2 : H.length + 1 + 1 = H.length + 2 := by omega
  simp (disch := (first | assumption | omega | (simp only [List.length_append, List.length_cons, List.length_nil]; omega))) only [↓wD,wU,Nat.reduceBEq,zx150,zx151,zx159,zx160,zx161,zx162,Nat.reduceAdd,Nat.reduceSub,Nat.reduceMul,Nat.reduceLeDiff,Nat.reduceLT,Nat.reduceEqDiff,Int.reduceAdd,Int.reduceSub,Int.reduceMul,Int.reduceNeg,Int.reduceLT,Int.reduceLE,Int.reduceEq,Int.reduceToNat,Int.cast_ofNat_Int,↓reduceIte, ht.cellsV, (valid_ret k1).call, decide_eq_true hA, d2, (columns_ret k1 hA.2.2.1).call, d3, d4]
  generalize H ++ [Blk.cells [.i v, r]] ++ [Blk.cells [.i c]] ++ [Blk.cells [.i 0, .nils]] = H3 at *
  refine (each_ret (g := cutC c) (us := []) (caps := [.p (H.length + 1) 0]) k1 (by have := hA.2.2.2.1; omega) (fun x hx => ?_) fun x hx y Hc L hg hL hLc hy => ?_).toX fun w H6 x56 hw => ?_
  · have := (hA.2.2.2.2 x hx).2.2.1; omega
  · have hxr := hA.row hx
    have hx8 := (hA.2.2.2.2 x hx).2.2.1
    exact drop1_wp hy (by omega) (hg.get c1) (by omega) (by omega)
  · obtain ⟨u, rfl, hu⟩ := rv_si_elim hw
    have c6 := x56.get trivial c2
    have huV := hu.cellsV
    have hl56 := x56.1
    simp (disch := (first | assumption | omega | (simp only [List.length_append, List.length_cons, List.length_nil]; omega))) only [↓wD,wU,Nat.reduceBEq,zx150,zx151,zx159,zx160,zx161,zx162,Nat.reduceAdd,Nat.reduceSub,Nat.reduceMul,Nat.reduceLeDiff,Nat.reduceLT,Nat.reduceEqDiff,Int.reduceAdd,Int.reduceSub,Int.reduceMul,Int.reduceNeg,Int.reduceLT,Int.reduceLE,Int.reduceEq,Int.reduceToNat,Int.cast_ofNat_Int,↓reduceIte, huV, st_of c6, e2]
    simp (disch := (first | assumption | omega | (simp only [List.length_append, List.length_cons, List.length_nil]; omega))) only [↓wD,wU,Nat.reduceBEq,zx150,zx151,zx159,zx160,zx161,zx162,Nat.reduceAdd,Nat.reduceSub,Nat.reduceMul,Nat.reduceLeDiff,Nat.reduceLT,Nat.reduceEqDiff,Int.reduceAdd,Int.reduceSub,Int.reduceMul,Int.reduceNeg,Int.reduceLT,Int.reduceLE,Int.reduceEq,Int.reduceToNat,Int.cast_ofNat_Int,↓reduceIte, ldn_of (get_set c6), e2]
    exact rv_2 (rv_si (((hu.low.kp (Kx.set (H.length + 2) H6 (Blk.cells [.i v, u]) |>.weak fun b _ h => by have := h.1.resolve_left (fun h => h); omega).kp).weak fun b h => .inr (by have := h.1.resolve_left (fun h => h); omega)))) rv_i
end Go.Proofs.Ytalaadcbpjnglaa
namespace Go.Proofs.Ytalaadcbpjnglaa
open Go Go.AM Go.Proofs
theorem rdrop_one {p q : Nat → Prop} {H : Heap} {r : AV} {v c : Int} {t : List (List Int)} (ht : Sl p H r t) (h0 : 1 ≤ t.length) (h1 : wd t = 1) : Ret E 40 [.ag [.i v, r], .i c] q H (T2.mk ((0, []) : Int × List (List Int)) (4 : Int)) := by
  refine Ret.ro rfl fn40 rfl ?_
  unfold f40A
  have k1 := (ht.app [.cells [.i v, r]]).app [.cells [.i 0, .nils]]
  have d4 : decide ((wd t : Int) = 1) = true := decide_eq_true (by omega)
  simp (disch := (first | assumption | omega | (simp only [List.length_append, List.length_cons, List.length_nil]; omega))) only [↓wD,wU,Nat.reduceBEq,zx150,zx151,zx159,zx160,zx161,zx162,Nat.reduceAdd,Nat.reduceSub,Nat.reduceMul,Nat.reduceLeDiff,Nat.reduceLT,Nat.reduceEqDiff,Int.reduceAdd,Int.reduceSub,Int.reduceMul,Int.reduceNeg,Int.reduceLT,Int.reduceLE,Int.reduceEq,Int.reduceToNat,Int.cast_ofNat_Int,↓reduceIte, ht.cellsV, (width_ret k1 h0).call, d4]
  exact rv_2 (rv_si Sl.nil) rv_i
theorem rdrop_ret {p q : Nat → Prop} {H : Heap} {r : AV} {v : Int} {c : Nat} {t : List (List Int)} (ht : Sl p H r t) (hA : ArrP v t) (hc : c < wd t) (h1 : 1 < wd t) : Ret E 40 [.ag [.i v, r], .i c] q H (T2.mk ((v, t.map (cutC c)) : Int × List (List Int)) (0 : Int)) := by
  refine Ret.ro rfl fn40 rfl ?_
  unfold f40A
  have hlow : Sl (fun b => b < H.length) H r t := ht.low.weak fun _ h => h.2
  have k1 := (hlow.app [.cells [.i v, r]]).app [.cells [.i 0, .nils]]
  have d4 : decide ((wd t : Int) = 1) = false := decide_eq_false (by omega)
  have hl16 := hA.2.2.2.1
  have rV := ht.cellsV
  have c0 : (H ++ [Blk.cells [.i v, r]] ++ [Blk.cells [.i 0, .nils]])[H.length]? = some (Blk.cells [.i v, r]) := by simp [List.getElem?_append]
  have c1 : (H ++ [Blk.cells [.i v, r]] ++ [Blk.cells [.i 0, .nils]])[H.length + 1]? = some (Blk.cells [.i 0, .nils]) := by simp [List.getElem?_append]
  have b2 : (H ++ [Blk.cells [.i v, r]] ++ [Blk.cells [.i 0, .nils]]).length = H.length + 2 := by simp
  have wr1 := width_ret (v := v) k1 hA.2.2.1
  simp (disch := (first | assumption | omega | (simp only [List.length_append, List.length_cons, List.length_nil]; omega))) only [↓wD,wU,Nat.reduceBEq,zx150,zx151,zx159,zx160,zx161,zx162,Nat.reduceAdd,Nat.reduceSub,Nat.reduceMul,Nat.reduceLeDiff,Nat.reduceLT,Nat.reduceEqDiff,Int.reduceAdd,Int.reduceSub,Int.reduceMul,Int.reduceNeg,Int.reduceLT,Int.reduceLE,Int.reduceEq,Int.reduceToNat,Int.cast_ofNat_Int,↓reduceIte, rV, wr1.call, d4]
  have hg0 : Gr H (H ++ [Blk.cells [.i v, r]] ++ [Blk.cells [.i 0, .nils]]) := ((Gr.refl H).app _).app _
  generalize H ++ [Blk.cells [.i v, r]] ++ [Blk.cells [.i 0, .nils]] = H2 at *
  have e2 : H.length + 1 + 1 = H2.length := by omega
  have s1 : st H.length (H2 ++ [Blk.cells [.i 0, .nils]]) H2.length 0 [.i v, .nils] = some (H2 ++ [Blk.cells [.i v, .nils]]) := by
    rw [st_of get_last (by omega) (by simp)]
    congr 1
    simp [wr]
  have c0' : (H2 ++ [Blk.cells [.i v, .nils]])[H.length]? = some (Blk.cells [.i v, r]) := (Kx.app (fun _ => True) H2 _).get trivial c0
  have c1' : (H2 ++ [Blk.cells [.i v, .nils]])[H.length + 1]? = some (Blk.cells [.i 0, .nils]) := (Kx.app (fun _ => True) H2 _).get trivial c1
  have c2' : (H2 ++ [Blk.cells [.i v, .nils]])[H.length + 2]? = some (Blk.cells [.i v, .nils]) := by rw [← b2]; exact get_last
  have hg1 : Gr H (H2 ++ [Blk.cells [.i v, .nils]]) := hg0.app _
  have b3 : (H2 ++ [Blk.cells [.i v, .nils]]).length = H.length + 3 := by simp [b2]
  have rL := ht.lenV
  simp (disch := (first | assumption | omega | (simp only [List.length_append, List.length_cons, List.length_nil]; omega))) only [↓wD,wU,Nat.reduceBEq,zx150,zx151,zx159,zx160,zx161,zx162,Nat.reduceAdd,Nat.reduceSub,Nat.reduceMul,Nat.reduceLeDiff,Nat.reduceLT,Nat.reduceEqDiff,Int.reduceAdd,Int.reduceSub,Int.reduceMul,Int.reduceNeg,Int.reduceLT,Int.reduceLE,Int.reduceEq,Int.reduceToNat,Int.cast_ofNat_Int,↓reduceIte, ld_of c0, e2, s1, ld_of c0', rL]
  generalize H2 ++ [Blk.cells [.i v, .nils]] = H3 at *
  clear c0 c1 s1 wr1 k1 hg0
  rw [b2]
  refine Wp.for t.length (fun i a G => ∃ u, a 1 = .i c ∧ a 4 = .p (H.length + 1) 0 ∧ a 6 = .p (H.length + 2) 0 ∧ a 17 = r ∧ a 18 = .i t.length ∧ a 19 = .i i ∧ Gr H G ∧ H.length + 3 ≤ G.length ∧
    G[H.length + 1]? = some (.cells [.i 0, .nils]) ∧ G[H.length + 2]? = some (.cells [.i v, u]) ∧ Acc (H.length + 3) (fun b => H.length + 3 ≤ b) G u ((t.take i).map (cutC c))) ?_ ?_
  · rintro i a G hi ⟨u, a1, a4, a6, a17, a18, a19, hg, hl, c4, c5, hu⟩ ih
    simp (disch := (first | assumption | omega | (simp only [List.length_append, List.length_cons, List.length_nil]; omega))) only [↓wD,wU,Nat.reduceBEq,zx150,zx151,zx159,zx160,zx161,zx162,Nat.reduceAdd,Nat.reduceSub,Nat.reduceMul,Nat.reduceLeDiff,Nat.reduceLT,Nat.reduceEqDiff,Int.reduceAdd,Int.reduceSub,Int.reduceMul,Int.reduceNeg,Int.reduceLT,Int.reduceLE,Int.reduceEq,Int.reduceToNat,Int.cast_ofNat_Int,↓reduceIte, a1, a4, a6, a17, a18, a19]
    refine condP_split (fun hlt => ?_) (fun hlt => ?_)
    · have hi' : i < t.length := by omega
      have tG := hlow.gr hg
      have g := tG.get (k := (i : Int)) (by omega) (by omega)
      have hx := hA.row (mem_gi hi')
      have hx8 := (hA.2.2.2.2 _ (mem_gi hi')).2.2.1
      obtain ⟨y, ey⟩ : ∃ y, r.get G (i : Int) = y := ⟨_, rfl⟩
      have tL := tG.L
      rw [ey] at g
      obtain ⟨x, ex⟩ : ∃ x, gi t (i : Int) = x := ⟨_, rfl⟩
      rw [ex] at g hx hx8
      have sv1 : slV 1 y none (some (.i (c : Int))) none = some (y.cut 0 c) := by
        refine g.slV_lh none _ (b := c) ?_ (bound_none (by omega)) (by omega) (by omega)
        rw [bound_some (by omega) (by omega)]; simp
      have sv2 : slV 1 y (some (.i ((c : Int) + 1))) none none = some (y.cut (c + 1) x.length) := by
        refine g.slV_lh _ none (b := x.length) (bound_none (by omega)) ?_ (by omega) (by omega)
        rw [bound_some (by omega) (by omega)]
        congr 1
      have g1 := g.cut (a := 0) (b := c) (by omega) (by omega)
      have g2 := g.cut (a := c + 1) (b := x.length) (by omega) (by omega)
      have ek1 : (x.drop 0).take (c - 0) = x.take c := by simp
      have ek2 : (x.drop (c + 1)).take (x.length - (c + 1)) = x.drop (c + 1) := List.take_of_length_le (by simp)
      rw [ek1] at g1
      rw [ek2] at g2
      simp (disch := (first | assumption | omega | (simp only [List.length_append, List.length_cons, List.length_nil]; omega))) only [↓wD,wU,Nat.reduceBEq,zx150,zx151,zx159,zx160,zx161,zx162,Nat.reduceAdd,Nat.reduceSub,Nat.reduceMul,Nat.reduceLeDiff,Nat.reduceLT,Nat.reduceEqDiff,Int.reduceAdd,Int.reduceSub,Int.reduceMul,Int.reduceNeg,Int.reduceLT,Int.reduceLE,Int.reduceEq,Int.reduceToNat,Int.cast_ofNat_Int,↓reduceIte, a1, a4, a6, a17, a18, a19, tL, ey]
      refine lpI (wpC ?_)
      simp (disch := (first | assumption | omega | (simp only [List.length_append, List.length_cons, List.length_nil]; omega))) only [↓wD,wU,Nat.reduceBEq,zx150,zx151,zx159,zx160,zx161,zx162,Nat.reduceAdd,Nat.reduceSub,Nat.reduceMul,Nat.reduceLeDiff,Nat.reduceLT,Nat.reduceEqDiff,Int.reduceAdd,Int.reduceSub,Int.reduceMul,Int.reduceNeg,Int.reduceLT,Int.reduceLE,Int.reduceEq,Int.reduceToNat,Int.cast_ofNat_Int,↓reduceIte, a1, a4, a6, a17, a18, a19, ld_of c5, sv1, sv2]
      have xa : Kx (fun _ => True) G (G ++ [Blk.cells []]) := Kx.app _ _ _
      have f0 : Acc G.length (fun _ => True) (G ++ [Blk.cells []]) (.s 1 G.length 0 0 (some 0)) ([] : List Int) := Acc.fresh0 (Nat.le_refl _)
      refine appX (f0.extend (q := fun b => b < H.length) (bytes := 8) (by omega) (by simp) (g1.kp (xa.all _).kp) (fun b hb => ⟨trivial, fun e => by simp [AV.blk] at e; omega⟩) (by simp; omega) (by omega) fun w1 K1 A1 k1 x1 => ?_)
      have x01 : Kx (fun b => b < G.length) G K1 := (xa.all (fun b => b < G.length)).trans x1 fun b hb _ e => by simp [AV.blk] at e; omega
      have l01 := x01.1
      simp (disch := (first | assumption | omega | (simp only [List.length_append, List.length_cons, List.length_nil]; omega))) only [↓wD,wU,Nat.reduceBEq,zx150,zx151,zx159,zx160,zx161,zx162,Nat.reduceAdd,Nat.reduceSub,Nat.reduceMul,Nat.reduceLeDiff,Nat.reduceLT,Nat.reduceEqDiff,Int.reduceAdd,Int.reduceSub,Int.reduceMul,Int.reduceNeg,Int.reduceLT,Int.reduceLE,Int.reduceEq,Int.reduceToNat,Int.cast_ofNat_Int,↓reduceIte, a1, a4, a6, a17, a18, a19, sv2]
      rw [List.nil_append] at A1
      refine appX (A1.extend (q := fun b => b < H.length) (bytes := 8) (by omega) (by omega) (g2.kp (x01.weak (q := fun b => b < H.length) fun b _ h => by omega).kp) (fun b hb => ⟨trivial, fun e => by have := (A1.blk_lt e).1; omega⟩) (by simp; omega) (by omega) fun w2 K2 A2 k2 x2 => ?_)
      have x12 : Kx (fun b => b < G.length) K1 K2 := x2.weak fun b _ hb e => by have := (A1.blk_lt e).1; omega
      have x02 : Kx (fun b => b < G.length) G K2 := x01.trans x12 fun _ _ h => h
      have l02 := x02.1
      have hw2 : Sl (fun b => G.length ≤ b) K2 w2 (cutC c x) := by
        rcases A2 with h | ⟨b, o, cc, k, e, hb, hk, h1, h2, h3⟩
        · exact .inl h
        · exact .inr ⟨b, o, cc, k, e, hb, hk, h1, h2, h3⟩
      have hwV := hw2.cellsV
      have hw3 : Sl (fun b => G.length ≤ b ∧ b < K2.length) K2 w2 (cutC c x) := hw2.low
      have hu3 : Acc (H.length + 3) (fun b => H.length + 3 ≤ b ∧ b < G.length) K2 u ((t.take i).map (cutC c)) := hu.low.kp x02.kp (fun b e => (hu.blk_lt e).2) (fun b h => h.2)
      have d4 := x02.get (by omega) c4
      have d5 := x02.get (by omega) c5
      have d51 := x01.get (by omega) c5
      simp (disch := (first | assumption | omega | (simp only [List.length_append, List.length_cons, List.length_nil]; omega))) only [↓wD,wU,Nat.reduceBEq,zx150,zx151,zx159,zx160,zx161,zx162,Nat.reduceAdd,Nat.reduceSub,Nat.reduceMul,Nat.reduceLeDiff,Nat.reduceLT,Nat.reduceEqDiff,Int.reduceAdd,Int.reduceSub,Int.reduceMul,Int.reduceNeg,Int.reduceLT,Int.reduceLE,Int.reduceEq,Int.reduceToNat,Int.cast_ofNat_Int,↓reduceIte, a1, a4, a6, a17, a18, a19, hwV]
      refine appX ((hu3.mono (q := fun b => H.length + 3 ≤ b) (Kp.refl _ _) fun b h => h.1).pushL (by omega) (by omega) hw3 (fun b hb => ⟨by omega, fun e => by have := (hu.blk_lt e).2; omega⟩) ?_ fun u' H4 hu4 hk4 hl4 hb4 => fun x34 => ?_)
      · simp; omega
      · have a34 : Kx (fun b => u.blk ≠ some b) K2 H4 := ((Kx.app (fun b => u.blk ≠ some b) K2 _).trans x34 fun b _ h => h)
        have n4 : u.blk ≠ some (H.length + 1) := fun e => by have := (hu.blk_lt e).1; omega
        have n5 : u.blk ≠ some (H.length + 2) := fun e => by have := (hu.blk_lt e).1; omega
        have e4 := a34.get n4 d4
        have e5 := a34.get n5 d5
        have huV := hu4.cellsV
        have hg4 : Gr H (H4.set (H.length + 2) (.cells [.i v, u'])) := ((hg.trans' x02.kp fun b hb => by omega).trans' a34.kp fun b hb e => by have := (hu.blk_lt e).1; omega).set (by omega) _
        have q4 : (H4.set (H.length + 2) (.cells [.i v, u']))[H.length + 1]? = some (.cells [.i 0, .nils]) := by rw [List.getElem?_set_ne (by omega)]; exact e4
        have q5 := get_set (k := .cells [.i v, u']) e5
        have hu5 : Acc (H.length + 3) (fun b => H.length + 3 ≤ b) (H4.set (H.length + 2) (.cells [.i v, u'])) u' ((t.take (i + 1)).map (cutC c)) := by
          rw [take_gi hi', List.map_append, ex]
          exact hu4.mono ((Kp.set _ _ _).weak fun b hb => by omega) fun _ h => h
        simp (disch := (first | assumption | omega | (simp only [List.length_append, List.length_cons, List.length_nil]; omega))) only [↓wD,wU,Nat.reduceBEq,zx150,zx151,zx159,zx160,zx161,zx162,Nat.reduceAdd,Nat.reduceSub,Nat.reduceMul,Nat.reduceLeDiff,Nat.reduceLT,Nat.reduceEqDiff,Int.reduceAdd,Int.reduceSub,Int.reduceMul,Int.reduceNeg,Int.reduceLT,Int.reduceLE,Int.reduceEq,Int.reduceToNat,Int.cast_ofNat_Int,↓reduceIte, a1, a4, a6, a17, a18, a19, huV, st_of e5]
        refine chkI ?_ ?_
        · have z2 := xa.get trivial c5
          simp [chk1, ev, Fr.upd, a6, ld_of z2, ld_of d5, ld_of d51, ld_of c5, sameO, AV.same_refl]
        · simp (disch := (first | assumption | omega | (simp only [List.length_append, List.length_cons, List.length_nil]; omega))) only [↓wD,wU,Nat.reduceBEq,zx150,zx151,zx159,zx160,zx161,zx162,Nat.reduceAdd,Nat.reduceSub,Nat.reduceMul,Nat.reduceLeDiff,Nat.reduceLT,Nat.reduceEqDiff,Int.reduceAdd,Int.reduceSub,Int.reduceMul,Int.reduceNeg,Int.reduceLT,Int.reduceLE,Int.reduceEq,Int.reduceToNat,Int.cast_ofNat_Int,↓reduceIte, a1, a4, a6, a17, a18, a19]
          refine (ih hi').go ⟨u', ?_⟩
          simp (disch := (first | assumption | omega | (simp only [List.length_append, List.length_cons, List.length_nil]; omega))) only [↓wD,wU,Nat.reduceBEq,zx150,zx151,zx159,zx160,zx161,zx162,Nat.reduceAdd,Nat.reduceSub,Nat.reduceMul,Nat.reduceLeDiff,Nat.reduceLT,Nat.reduceEqDiff,Int.reduceAdd,Int.reduceSub,Int.reduceMul,Int.reduceNeg,Int.reduceLT,Int.reduceLE,Int.reduceEq,Int.reduceToNat,Int.cast_ofNat_Int,↓reduceIte, a1, a4, a6, a17, a18, a19]
          exact ⟨hg4, by simp; omega, q4, q5, hu5⟩
    · obtain rfl : i = t.length := by omega
      have huV := hu.cellsV
      rw [List.take_length] at hu
      simp (disch := (first | assumption | omega | (simp only [List.length_append, List.length_cons, List.length_nil]; omega))) only [↓wD,wU,Nat.reduceBEq,zx150,zx151,zx159,zx160,zx161,zx162,Nat.reduceAdd,Nat.reduceSub,Nat.reduceMul,Nat.reduceLeDiff,Nat.reduceLT,Nat.reduceEqDiff,Int.reduceAdd,Int.reduceSub,Int.reduceMul,Int.reduceNeg,Int.reduceLT,Int.reduceLE,Int.reduceEq,Int.reduceToNat,Int.cast_ofNat_Int,↓reduceIte, a1, a4, a6, a17, a18, a19, ldn_of c5, huV, st_of c4]
      simp (disch := (first | assumption | omega | (simp only [List.length_append, List.length_cons, List.length_nil]; omega))) only [↓wD,wU,Nat.reduceBEq,zx150,zx151,zx159,zx160,zx161,zx162,Nat.reduceAdd,Nat.reduceSub,Nat.reduceMul,Nat.reduceLeDiff,Nat.reduceLT,Nat.reduceEqDiff,Int.reduceAdd,Int.reduceSub,Int.reduceMul,Int.reduceNeg,Int.reduceLT,Int.reduceLE,Int.reduceEq,Int.reduceToNat,Int.cast_ofNat_Int,↓reduceIte, ldn_of (get_set c4)]
      exact rv_2 (rv_si ((hu.mono ((Kp.set _ _ _).weak fun b hb => by omega) fun _ h => h).sl.weak fun b h => .inr (by omega))) rv_i
  · simp (disch := (first | assumption | omega | (simp only [List.length_append, List.length_cons, List.length_nil]; omega))) only [↓wD,wU,Nat.reduceBEq,zx150,zx151,zx159,zx160,zx161,zx162,Nat.reduceAdd,Nat.reduceSub,Nat.reduceMul,Nat.reduceLeDiff,Nat.reduceLT,Nat.reduceEqDiff,Int.reduceAdd,Int.reduceSub,Int.reduceMul,Int.reduceNeg,Int.reduceLT,Int.reduceLE,Int.reduceEq,Int.reduceToNat,Int.cast_ofNat_Int,↓reduceIte]
    refine ⟨.nils, ?_⟩
    exact ⟨hg1, by omega, c1', c2', Acc.nil⟩
end Go.Proofs.Ytalaadcbpjnglaa
namespace Go.Proofs.Ytalaadcbpjnglaa
open Go Go.AM Go.Proofs
theorem _root_.Go.AM.RetP.prim {E : Tab} {f : Nat} {g : List AV → Option AV} {vs : List AV} {v : AV} {H : Heap} (hk : E.kd f = .prim g) (h : g vs = some v) (hv : v.pure = true) (ha : AV.pureAll vs = true) : RetP E f vs H v := fun lo => by
  refine ⟨0, v, H, ?_, rfl, rfl⟩
  unfold callF
  simp [hk, h, hv, ha]
/-! ### Bits -/
theorem ofI {a : Nat} (h : a ≤ 9223372036854775807) : (BitVec.ofInt 64 (a : Int)).toNat = a := by
  rw [BitVec.ofInt_natCast, BitVec.toNat_ofNat]; exact Nat.mod_eq_of_lt (by omega)
theorem and_le {a b : Nat} (h : a ≤ 9223372036854775807) : a &&& b ≤ 9223372036854775807 := Nat.le_trans Nat.and_le_left h
theorem or_le {a b : Nat} (h : a ≤ 9223372036854775807) (h' : b ≤ 9223372036854775807) : a ||| b ≤ 9223372036854775807 := by
  have : a ||| b < 2 ^ 63 := Nat.or_lt_two_pow (by omega) (by omega)
  omega
theorem b_and {a b : Nat} (h : a ≤ 9223372036854775807) (h' : b ≤ 9223372036854775807) : binA .and (.i (a : Int)) (.i (b : Int)) = some (.i ((a &&& b : Nat) : Int)) := by
  have e : (BitVec.ofInt 64 (a : Int) &&& BitVec.ofInt 64 (b : Int)).toNat = a &&& b := by rw [BitVec.toNat_and, ofI h, ofI h']
  show some (AV.int .i64 (IntKind.wrap .i64 ((BitVec.ofInt 64 (a : Int) &&& BitVec.ofInt 64 (b : Int)).toNat : Int))) = _
  have := and_le (b := b) h
  rw [e, zx172 (by omega) (by omega)]
theorem b_or {a b : Nat} (h : a ≤ 9223372036854775807) (h' : b ≤ 9223372036854775807) : binA .or (.i (a : Int)) (.i (b : Int)) = some (.i ((a ||| b : Nat) : Int)) := by
  have e : (BitVec.ofInt 64 (a : Int) ||| BitVec.ofInt 64 (b : Int)).toNat = a ||| b := by rw [BitVec.toNat_or, ofI h, ofI h']
  show some (AV.int .i64 (IntKind.wrap .i64 ((BitVec.ofInt 64 (a : Int) ||| BitVec.ofInt 64 (b : Int)).toNat : Int))) = _
  have := or_le h h'
  rw [e, zx172 (by omega) (by omega)]
theorem b_shr {a b : Nat} (h' : b ≤ 63) : binA .shr (.i (a : Int)) (.i (b : Int)) = some (.i ((a >>> b : Nat) : Int)) := by
  show (if (b : Int) < 0 then none else some (AV.int .i64 ((a : Int).fdiv (2 ^ (min (b : Int).toNat 64))))) = _
  rw [if_neg (by omega), show min (b : Int).toNat 64 = b by omega, Nat.shiftRight_eq_div_pow]
  congr 2
  rw [Int.fdiv_eq_ediv_of_nonneg _ (by exact_mod_cast Nat.zero_le (2 ^ b))]
  simp
theorem b_shl {a b : Nat} (h' : b ≤ 63) (h : a <<< b ≤ 9223372036854775807) : binA .shl (.i (a : Int)) (.i (b : Int)) = some (.i ((a <<< b : Nat) : Int)) := by
  show (if (b : Int) < 0 then none else some (AV.int .i64 (IntKind.wrap .i64 ((a : Int) * 2 ^ (min (b : Int).toNat 64))))) = _
  have e : (a : Int) * 2 ^ b = ((a <<< b : Nat) : Int) := by rw [Nat.shiftLeft_eq]; simp
  rw [if_neg (by omega), show min (b : Int).toNat 64 = b by omega, e]
  generalize a <<< b = c at h
  rw [zx172 (by omega) (by omega)]
end Go.Proofs.Ytalaadcbpjnglaa
namespace Go.Proofs.Ytalaadcbpjnglaa
open Go Go.AM Go.Proofs
def findI (x : Int) : List Int → Nat → Int
  | [], _ => -1
  | y :: ys, i => if x = y then i else findI x ys (i + 1)
theorem findI_ge {x : Int} : ∀ {xs : List Int} {i : Nat}, 0 ≤ findI x xs i ↔ x ∈ xs
  | [], i => by simp [findI]
  | y :: ys, i => by
    unfold findI
    by_cases h : x = y
    · simp [h]
    · rw [if_neg h, findI_ge]; simp [h]
theorem sindex_ret {p : Nat → Prop} {H : Heap} {v : AV} {xs : List Int} {x : Int} (hx : Sl p H v xs) : RetP E 92 [v, .i x] H (.i (findI x xs 0)) := by
  refine RetP.ro rfl fn92 rfl rfl ?_
  unfold f92A
  have hb := hx.bound
  obtain ⟨r, er⟩ : ∃ r, findI x xs 0 = r := ⟨_, rfl⟩
  rw [er]
  simp (disch := (first | assumption | omega | (simp only [List.length_append, List.length_cons, List.length_nil]; omega))) only [↓wD,wU,Nat.reduceBEq,zx150,zx151,zx159,zx160,zx161,zx162,Nat.reduceAdd,Nat.reduceSub,Nat.reduceMul,Nat.reduceLeDiff,Nat.reduceLT,Nat.reduceEqDiff,Int.reduceAdd,Int.reduceSub,Int.reduceMul,Int.reduceNeg,Int.reduceLT,Int.reduceLE,Int.reduceEq,Int.reduceToNat,Int.cast_ofNat_Int,↓reduceIte, *, hx.I]
  refine Wp.for xs.length (fun i a H' => H' = H ∧ a 0 = v ∧ a 1 = .i x ∧ a 7 = .i xs.length ∧ a 8 = .i i ∧ findI x (xs.drop i) i = r) ?_ ?_
  · clear er
    rintro i a H' hi ⟨rfl, h0, h1, h7, h8, hh⟩ ih
    simp (disch := (first | assumption | omega | (simp only [List.length_append, List.length_cons, List.length_nil]; omega))) only [↓wD,wU,Nat.reduceBEq,zx150,zx151,zx159,zx160,zx161,zx162,Nat.reduceAdd,Nat.reduceSub,Nat.reduceMul,Nat.reduceLeDiff,Nat.reduceLT,Nat.reduceEqDiff,Int.reduceAdd,Int.reduceSub,Int.reduceMul,Int.reduceNeg,Int.reduceLT,Int.reduceLE,Int.reduceEq,Int.reduceToNat,Int.cast_ofNat_Int,↓reduceIte, *]
    refine condP_split (fun hlt => ?_) (fun hlt => ?_)
    · have hi' : i < xs.length := by omega
      have e : xs.drop i = gi xs (i : Int) :: xs.drop (i + 1) := by rw [gi_nat hi']; exact List.drop_eq_getElem_cons hi'
      rw [e, findI] at hh
      clear e
      simp (disch := (first | assumption | omega | (simp only [List.length_append, List.length_cons, List.length_nil]; omega))) only [↓wD,wU,Nat.reduceBEq,zx150,zx151,zx159,zx160,zx161,zx162,Nat.reduceAdd,Nat.reduceSub,Nat.reduceMul,Nat.reduceLeDiff,Nat.reduceLT,Nat.reduceEqDiff,Int.reduceAdd,Int.reduceSub,Int.reduceMul,Int.reduceNeg,Int.reduceLT,Int.reduceLE,Int.reduceEq,Int.reduceToNat,Int.cast_ofNat_Int,↓reduceIte, h0, h1, h7, h8, hx.I]
      refine condP_split (fun he => ?_) (fun he => ?_)
      · rw [if_pos he] at hh
        simp (disch := (first | assumption | omega | (simp only [List.length_append, List.length_cons, List.length_nil]; omega))) only [↓wD,wU,Nat.reduceBEq,zx150,zx151,zx159,zx160,zx161,zx162,Nat.reduceAdd,Nat.reduceSub,Nat.reduceMul,Nat.reduceLeDiff,Nat.reduceLT,Nat.reduceEqDiff,Int.reduceAdd,Int.reduceSub,Int.reduceMul,Int.reduceNeg,Int.reduceLT,Int.reduceLE,Int.reduceEq,Int.reduceToNat,Int.cast_ofNat_Int,↓reduceIte, h0, h1, h7, h8, hx.I]
        rw [hh]
      · rw [if_neg he] at hh
        simp (disch := (first | assumption | omega | (simp only [List.length_append, List.length_cons, List.length_nil]; omega))) only [↓wD,wU,Nat.reduceBEq,zx150,zx151,zx159,zx160,zx161,zx162,Nat.reduceAdd,Nat.reduceSub,Nat.reduceMul,Nat.reduceLeDiff,Nat.reduceLT,Nat.reduceEqDiff,Int.reduceAdd,Int.reduceSub,Int.reduceMul,Int.reduceNeg,Int.reduceLT,Int.reduceLE,Int.reduceEq,Int.reduceToNat,Int.cast_ofNat_Int,↓reduceIte, h0, h1, h7, h8, hx.I]
        refine (ih hi').go ⟨rfl, ?_⟩
        simp (disch := (first | assumption | omega | (simp only [List.length_append, List.length_cons, List.length_nil]; omega))) only [↓wD,wU,Nat.reduceBEq,zx150,zx151,zx159,zx160,zx161,zx162,Nat.reduceAdd,Nat.reduceSub,Nat.reduceMul,Nat.reduceLeDiff,Nat.reduceLT,Nat.reduceEqDiff,Int.reduceAdd,Int.reduceSub,Int.reduceMul,Int.reduceNeg,Int.reduceLT,Int.reduceLE,Int.reduceEq,Int.reduceToNat,Int.cast_ofNat_Int,↓reduceIte, h0, h1, h7, h8, hx.I]
        exact hh
    · rw [List.drop_of_length_le (by omega), findI] at hh
      subst hh
      simp (disch := (first | assumption | omega | (simp only [List.length_append, List.length_cons, List.length_nil]; omega))) only [↓wD,wU,Nat.reduceBEq,zx150,zx151,zx159,zx160,zx161,zx162,Nat.reduceAdd,Nat.reduceSub,Nat.reduceMul,Nat.reduceLeDiff,Nat.reduceLT,Nat.reduceEqDiff,Int.reduceAdd,Int.reduceSub,Int.reduceMul,Int.reduceNeg,Int.reduceLT,Int.reduceLE,Int.reduceEq,Int.reduceToNat,Int.cast_ofNat_Int,↓reduceIte, *]
  · simp (disch := (first | assumption | omega | (simp only [List.length_append, List.length_cons, List.length_nil]; omega))) only [↓wD,wU,Nat.reduceBEq,zx150,zx151,zx159,zx160,zx161,zx162,Nat.reduceAdd,Nat.reduceSub,Nat.reduceMul,Nat.reduceLeDiff,Nat.reduceLT,Nat.reduceEqDiff,Int.reduceAdd,Int.reduceSub,Int.reduceMul,Int.reduceNeg,Int.reduceLT,Int.reduceLE,Int.reduceEq,Int.reduceToNat,Int.cast_ofNat_Int,↓reduceIte, *]
theorem contains_ret {p : Nat → Prop} {H : Heap} {v : AV} {xs : List Int} {x : Int} (hx : Sl p H v xs) : RetP E 62 [v, .i x] H (.b (decide (x ∈ xs))) := by
  refine RetP.ro rfl fn62 rfl rfl ?_
  unfold f62A
  have hg := findI_ge (x := x) (xs := xs) (i := 0)
  by_cases h : x ∈ xs
  · have h1 := hg.2 h
    simp (disch := (first | assumption | omega | (simp only [List.length_append, List.length_cons, List.length_nil]; omega))) only [↓wD,wU,Nat.reduceBEq,zx150,zx151,zx159,zx160,zx161,zx162,Nat.reduceAdd,Nat.reduceSub,Nat.reduceMul,Nat.reduceLeDiff,Nat.reduceLT,Nat.reduceEqDiff,Int.reduceAdd,Int.reduceSub,Int.reduceMul,Int.reduceNeg,Int.reduceLT,Int.reduceLE,Int.reduceEq,Int.reduceToNat,Int.cast_ofNat_Int,↓reduceIte, *, (sindex_ret hx).call]
  · have h1 : ¬ 0 ≤ findI x xs 0 := fun hh => h (hg.1 hh)
    clear hg
    simp (disch := (first | assumption | omega | (simp only [List.length_append, List.length_cons, List.length_nil]; omega))) only [↓wD,wU,Nat.reduceBEq,zx150,zx151,zx159,zx160,zx161,zx162,Nat.reduceAdd,Nat.reduceSub,Nat.reduceMul,Nat.reduceLeDiff,Nat.reduceLT,Nat.reduceEqDiff,Int.reduceAdd,Int.reduceSub,Int.reduceMul,Int.reduceNeg,Int.reduceLT,Int.reduceLE,Int.reduceEq,Int.reduceToNat,Int.cast_ofNat_Int,↓reduceIte, *, (sindex_ret hx).call]
end Go.Proofs.Ytalaadcbpjnglaa
namespace Go.Proofs.Ytalaadcbpjnglaa
open Go Go.AM Go.Proofs
/-- as the reference looks -/
def namesF (V : Nat) : List Int → Nat → Bool
  | [], _ => true
  | x :: xs, met => if decide (x < 0) || decide ((V : Int) ≤ x) then false else if Nat.beq ((met >>> x.toNat) &&& 1) 1 then false else namesF V xs (met ||| 1 <<< x.toNat)
/-- as the program looks -/
def namesC (V : Nat) (to : List Int) : Prop := to.length = V ∧ ∀ x : Nat, x < V → (x : Int) ∈ to
instance (V : Nat) (to : List Int) : Decidable (namesC V to) := by unfold namesC; infer_instance
def hasB (V : Nat) (to : List Int) : Bool := (List.range V).all fun x : Nat => to.any fun y => decide (y = (x : Int))
theorem hasB_iff {V : Nat} {to : List Int} : hasB V to = true ↔ ∀ x : Nat, x < V → (x : Int) ∈ to := by
  unfold hasB
  simp only [List.all_eq_true, List.mem_range, List.any_eq_true, decide_eq_true_eq]
  constructor
  · intro h x hx
    obtain ⟨y, hy, e⟩ := h x hx
    rwa [← e]
  · intro h x hx
    exact ⟨_, h x hx, rfl⟩
/-- a number out of range is as good as any other one -/
def sent (V : Nat) (x : Int) : Int := if 0 ≤ x ∧ x < V then x else V
theorem namesF_sent {V : Nat} : ∀ {xs : List Int} {met : Nat}, namesF V (xs.map (sent V)) met = namesF V xs met
  | [], _ => rfl
  | x :: xs, met => by
    simp only [List.map_cons, namesF]
    unfold sent
    by_cases h : 0 ≤ x ∧ x < V
    · rw [if_pos h]
      have := namesF_sent (V := V) (xs := xs) (met := met ||| 1 <<< x.toNat)
      rw [show xs.map (sent V) = xs.map fun x => if 0 ≤ x ∧ x < (V : Int) then x else (V : Int) from rfl] at this
      rw [this]
    · rw [if_neg h, if_pos (by simp), if_pos (by simp; omega)]
theorem hasB_sent {V : Nat} {to : List Int} : hasB V (to.map (sent V)) = hasB V to := by
  rw [Bool.eq_iff_iff, hasB_iff, hasB_iff]
  refine forall_congr' fun x => forall_congr' fun hx => ?_
  rw [List.mem_map]
  constructor
  · rintro ⟨y, hy, e⟩
    unfold sent at e
    split at e
    · rwa [← e]
    · omega
  · intro h
    exact ⟨x, h, by unfold sent; rw [if_pos ⟨by omega, by omega⟩]⟩
/-- all lists of some length over numbers up to n -/
def tupB (P : List Int → Bool) : Nat → Nat → List Int → Bool
  | 0, _, l => P l
  | k + 1, n, l => (List.range n).all fun x : Nat => tupB P k n ((x : Int) :: l)
theorem tupB_all {P : List Int → Bool} {n : Nat} : ∀ {k : Nat} {l to : List Int}, tupB P k n l = true → to.length = k → (∀ x ∈ to, 0 ≤ x ∧ x < n) → P (to.reverse ++ l) = true
  | 0, l, to, h, hl, _ => by
    rw [List.length_eq_zero_iff] at hl
    subst hl
    exact h
  | k + 1, l, [], _, hl, _ => by simp at hl
  | k + 1, l, x :: to, h, hl, hx => by
    have h0 := hx x (by simp)
    obtain ⟨X, rfl⟩ := Int.eq_ofNat_of_zero_le h0.1
    rw [tupB, List.all_eq_true] at h
    have := tupB_all (h X (List.mem_range.2 (by omega))) (by simpa using hl) fun y hy => hx y (by simp [hy])
    simpa using this
theorem chk_2 : tupB (fun l => namesF 2 l 0 == hasB 2 l) 2 3 [] = true := by decide +kernel
theorem chk_3 : tupB (fun l => namesF 3 l 0 == hasB 3 l) 3 4 [] = true := by decide +kernel
theorem chk_4 : tupB (fun l => namesF 4 l 0 == hasB 4 l) 4 5 [] = true := by decide +kernel
theorem names_eq {V : Nat} (h2 : 2 ≤ V) (h4 : V ≤ 4) {to : List Int} (hl : to.length = V) : namesF V to 0 = hasB V to := by
  rw [← namesF_sent, ← hasB_sent]
  have hin : ∀ x ∈ (to.map (sent V)).reverse, 0 ≤ x ∧ x < ((V + 1 : Nat) : Int) := by
    intro x hx
    rw [List.mem_reverse, List.mem_map] at hx
    obtain ⟨y, _, rfl⟩ := hx
    unfold sent
    split <;> omega
  have hll : (to.map (sent V)).reverse.length = V := by simpa using hl
  have : V = 2 ∨ V = 3 ∨ V = 4 := by omega
  rcases this with rfl | rfl | rfl
  · have := tupB_all chk_2 hll hin
    simpa using this
  · have := tupB_all chk_3 hll hin
    simpa using this
  · have := tupB_all chk_4 hll hin
    simpa using this
theorem names_dec {V : Nat} (h2 : 2 ≤ V) (h4 : V ≤ 4) {to : List Int} : (namesF V to 0 && decide ((to.length : Int) = (V : Int))) = decide (namesC V to) := by
  by_cases hl : to.length = V
  · rw [names_eq h2 h4 hl, decide_eq_true (show (to.length : Int) = (V : Int) by omega), Bool.and_true, Bool.eq_iff_iff, hasB_iff, decide_eq_true_eq]
    exact ⟨fun h => ⟨hl, h⟩, fun h => h.2⟩
  · rw [decide_eq_false (show ¬ (to.length : Int) = (V : Int) by omega), Bool.and_false, decide_eq_false fun h => hl h.1]
theorem shl_le {j : Nat} (h : j < 4) : 1 <<< j ≤ 8 := by
  have : j = 0 ∨ j = 1 ∨ j = 2 ∨ j = 3 := by omega
  rcases this with rfl | rfl | rfl | rfl <;> decide
theorem or_lt16 {a b : Nat} (h : a < 16) (h' : b < 16) : a ||| b < 16 := Nat.or_lt_two_pow (n := 4) h h'
theorem rnames_ret {p : Nat → Prop} {H : Heap} {u : AV} {to : List Int} {V : Nat} (hx : Sl p H u to) (h2 : 2 ≤ V) (h4 : V ≤ 4) : RetP E 41 [.i V, u] H (.b (decide (namesC V to))) := by
  rw [← names_dec h2 h4]
  refine RetP.ro rfl fn41 rfl rfl ?_
  unfold f41A
  have hb := hx.bound
  obtain ⟨R, eR⟩ : ∃ R, (namesF V to 0 && decide ((to.length : Int) = (V : Int))) = R := ⟨_, rfl⟩
  rw [eR]
  simp (disch := (first | assumption | omega | (simp only [List.length_append, List.length_cons, List.length_nil]; omega))) only [↓wD,wU,Nat.reduceBEq,zx150,zx151,zx159,zx160,zx161,zx162,Nat.reduceAdd,Nat.reduceSub,Nat.reduceMul,Nat.reduceLeDiff,Nat.reduceLT,Nat.reduceEqDiff,Int.reduceAdd,Int.reduceSub,Int.reduceMul,Int.reduceNeg,Int.reduceLT,Int.reduceLE,Int.reduceEq,Int.reduceToNat,Int.cast_ofNat_Int,↓reduceIte, hx.I]
  refine Wp.for to.length (fun i a H' => H' = H ∧ a 0 = .i V ∧ a 1 = u ∧ a 8 = u ∧ a 9 = .i to.length ∧ a 10 = .i i ∧ ∃ met, a 5 = .i (met : Nat) ∧ met < 16 ∧ (namesF V (to.drop i) met && decide ((to.length : Int) = (V : Int))) = R) ?_ ?_
  · clear eR
    rintro i a H' hi ⟨rfl, a0, a1, a8, a9, a10, met, a5, hm, hR⟩ ih
    simp (disch := (first | assumption | omega | (simp only [List.length_append, List.length_cons, List.length_nil]; omega))) only [↓wD,wU,Nat.reduceBEq,zx150,zx151,zx159,zx160,zx161,zx162,Nat.reduceAdd,Nat.reduceSub,Nat.reduceMul,Nat.reduceLeDiff,Nat.reduceLT,Nat.reduceEqDiff,Int.reduceAdd,Int.reduceSub,Int.reduceMul,Int.reduceNeg,Int.reduceLT,Int.reduceLE,Int.reduceEq,Int.reduceToNat,Int.cast_ofNat_Int,↓reduceIte, a0, a1, a8, a9, a10, a5]
    refine condP_split (fun hlt => ?_) (fun hlt => ?_)
    · have hi' : i < to.length := by omega
      have e : to.drop i = gi to (i : Int) :: to.drop (i + 1) := by rw [gi_nat hi']; exact List.drop_eq_getElem_cons hi'
      rw [e, namesF] at hR
      obtain ⟨x, ex⟩ : ∃ x, gi to (i : Int) = x := ⟨_, rfl⟩
      rw [ex] at hR
      have hxI := hx.I
      by_cases q1 : x < 0
      · have d1 : decide (x < 0) = true := decide_eq_true q1
        rw [if_pos (by simp [q1]), Bool.false_and] at hR
        simp (disch := (first | assumption | omega | (simp only [List.length_append, List.length_cons, List.length_nil]; omega))) only [↓wD,wU,Nat.reduceBEq,zx150,zx151,zx159,zx160,zx161,zx162,Nat.reduceAdd,Nat.reduceSub,Nat.reduceMul,Nat.reduceLeDiff,Nat.reduceLT,Nat.reduceEqDiff,Int.reduceAdd,Int.reduceSub,Int.reduceMul,Int.reduceNeg,Int.reduceLT,Int.reduceLE,Int.reduceEq,Int.reduceToNat,Int.cast_ofNat_Int,↓reduceIte, a0, a1, a8, a9, a10, a5, hxI, ex, d1]
        rw [hR]
      have d1 : decide (x < 0) = false := decide_eq_false q1
      by_cases q2 : (V : Int) ≤ x
      · have d2 : decide ((V : Int) ≤ x) = true := decide_eq_true q2
        rw [if_pos (by simp [q2]), Bool.false_and] at hR
        simp (disch := (first | assumption | omega | (simp only [List.length_append, List.length_cons, List.length_nil]; omega))) only [↓wD,wU,Nat.reduceBEq,zx150,zx151,zx159,zx160,zx161,zx162,Nat.reduceAdd,Nat.reduceSub,Nat.reduceMul,Nat.reduceLeDiff,Nat.reduceLT,Nat.reduceEqDiff,Int.reduceAdd,Int.reduceSub,Int.reduceMul,Int.reduceNeg,Int.reduceLT,Int.reduceLE,Int.reduceEq,Int.reduceToNat,Int.cast_ofNat_Int,↓reduceIte, a0, a1, a8, a9, a10, a5, hxI, ex, d1, d2]
        rw [hR]
      have d2 : decide ((V : Int) ≤ x) = false := decide_eq_false q2
      rw [if_neg (by simp; omega)] at hR
      obtain ⟨J, rfl⟩ := Int.eq_ofNat_of_zero_le (show 0 ≤ x by omega)
      simp only [Int.toNat_natCast] at hR
      have hJ : J < 4 := by omega
      have bsr := b_shr (a := met) (b := J) (by omega)
      have hsh : met >>> J ≤ met := by rw [Nat.shiftRight_eq_div_pow]; exact Nat.div_le_self _ _
      have ban := b_and (a := met >>> J) (b := 1) (by omega) (by omega)
      have sl5 := shl_le hJ
      have bsl := b_shl (a := 1) (b := J) (by omega) (by omega)
      have e1 : ((1 : Nat) : Int) = 1 := rfl
      rw [e1] at ban bsl
      have bor := b_or (a := met) (b := 1 <<< J) (by omega) (by omega)
      have hm2 := or_lt16 hm (show 1 <<< J < 16 by omega)
      by_cases q3 : (met >>> J) &&& 1 = 1
      · have d3 : decide (((met >>> J &&& 1 : Nat) : Int) = 1) = true := decide_eq_true (by omega)
        rw [if_pos (by rw [q3]; rfl), Bool.false_and] at hR
        simp (disch := (first | assumption | omega | (simp only [List.length_append, List.length_cons, List.length_nil]; omega))) only [↓wD,wU,Nat.reduceBEq,zx150,zx151,zx159,zx160,zx161,zx162,Nat.reduceAdd,Nat.reduceSub,Nat.reduceMul,Nat.reduceLeDiff,Nat.reduceLT,Nat.reduceEqDiff,Int.reduceAdd,Int.reduceSub,Int.reduceMul,Int.reduceNeg,Int.reduceLT,Int.reduceLE,Int.reduceEq,Int.reduceToNat,Int.cast_ofNat_Int,↓reduceIte, a0, a1, a8, a9, a10, a5, hxI, ex, d1, d2, bsr, ban, d3]
        rw [hR]
      · have d3 : decide (((met >>> J &&& 1 : Nat) : Int) = 1) = false := decide_eq_false (by omega)
        rw [if_neg (fun q => q3 (Nat.eq_of_beq_eq_true q))] at hR
        simp (disch := (first | assumption | omega | (simp only [List.length_append, List.length_cons, List.length_nil]; omega))) only [↓wD,wU,Nat.reduceBEq,zx150,zx151,zx159,zx160,zx161,zx162,Nat.reduceAdd,Nat.reduceSub,Nat.reduceMul,Nat.reduceLeDiff,Nat.reduceLT,Nat.reduceEqDiff,Int.reduceAdd,Int.reduceSub,Int.reduceMul,Int.reduceNeg,Int.reduceLT,Int.reduceLE,Int.reduceEq,Int.reduceToNat,Int.cast_ofNat_Int,↓reduceIte, a0, a1, a8, a9, a10, a5, hxI, ex, d1, d2, bsr, ban, d3, bsl, bor]
        refine (ih hi').go ⟨rfl, ?_⟩
        simp (disch := (first | assumption | omega | (simp only [List.length_append, List.length_cons, List.length_nil]; omega))) only [↓wD,wU,Nat.reduceBEq,zx150,zx151,zx159,zx160,zx161,zx162,Nat.reduceAdd,Nat.reduceSub,Nat.reduceMul,Nat.reduceLeDiff,Nat.reduceLT,Nat.reduceEqDiff,Int.reduceAdd,Int.reduceSub,Int.reduceMul,Int.reduceNeg,Int.reduceLT,Int.reduceLE,Int.reduceEq,Int.reduceToNat,Int.cast_ofNat_Int,↓reduceIte, a0, a1, a8, a9, a10, a5]
        exact ⟨_, rfl, hm2, hR⟩
    · rw [List.drop_of_length_le (by omega), namesF, Bool.true_and] at hR
      simp (disch := (first | assumption | omega | (simp only [List.length_append, List.length_cons, List.length_nil]; omega))) only [↓wD,wU,Nat.reduceBEq,zx150,zx151,zx159,zx160,zx161,zx162,Nat.reduceAdd,Nat.reduceSub,Nat.reduceMul,Nat.reduceLeDiff,Nat.reduceLT,Nat.reduceEqDiff,Int.reduceAdd,Int.reduceSub,Int.reduceMul,Int.reduceNeg,Int.reduceLT,Int.reduceLE,Int.reduceEq,Int.reduceToNat,Int.cast_ofNat_Int,↓reduceIte, a0, a1, a8, a9, a10, a5, hx.I]
      rw [hR]
  · simp (disch := (first | assumption | omega | (simp only [List.length_append, List.length_cons, List.length_nil]; omega))) only [↓wD,wU,Nat.reduceBEq,zx150,zx151,zx159,zx160,zx161,zx162,Nat.reduceAdd,Nat.reduceSub,Nat.reduceMul,Nat.reduceLeDiff,Nat.reduceLT,Nat.reduceEqDiff,Int.reduceAdd,Int.reduceSub,Int.reduceMul,Int.reduceNeg,Int.reduceLT,Int.reduceLE,Int.reduceEq,Int.reduceToNat,Int.cast_ofNat_Int,↓reduceIte]
    exact ⟨0, by simpa using eR⟩
end Go.Proofs.Ytalaadcbpjnglaa
namespace Go.Proofs.Ytalaadcbpjnglaa
open Go Go.AM Go.Proofs
def renC (c : Nat) (to : List Int) (r : List Int) : List Int := r.set c (gi to (gi r (c : Int)))
theorem rename1_wp {q : Nat → Prop} {lo L b1 b2 c : Nat} {H : Heap} {y tv : AV} {x to : List Int} (hy : Sl (fun b => L ≤ b) H y x) (ht : Sl q H tv to) (hlo : lo ≤ L) (hb1 : H[b1]? = some (.cells [tv])) (hb2 : H[b2]? = some (.cells [.i c])) (hc : c < x.length) (hg : 0 ≤ gi x (c : Int) ∧ gi x (c : Int) < to.length) :
    WpF E lo 81 [y, .p b1 0, .p b2 0] H fun w H' => Sl (fun b => L ≤ b) H' w (renC c to x) ∧ Kx (fun b => b < L) H H' := by
  refine WpF.wrt rfl fn81 rfl ?_
  unfold f81A
  have yI := hy.I
  have tI := ht.I
  obtain ⟨g, eg⟩ := Int.eq_ofNat_of_zero_le hg.1
  rw [eg] at hg
  have hg2 : g < to.length := by omega
  simp (disch := (first | assumption | omega | (simp only [List.length_append, List.length_cons, List.length_nil]; omega))) only [↓wD,wU,Nat.reduceBEq,zx150,zx151,zx159,zx160,zx161,zx162,Nat.reduceAdd,Nat.reduceSub,Nat.reduceMul,Nat.reduceLeDiff,Nat.reduceLT,Nat.reduceEqDiff,Int.reduceAdd,Int.reduceSub,Int.reduceMul,Int.reduceNeg,Int.reduceLT,Int.reduceLE,Int.reduceEq,Int.reduceToNat,Int.cast_ofNat_Int,↓reduceIte, ld_of hb1, ld_of hb2, yI, eg, tI]
  refine hy.storeI (k := (c : Int)) (fun b hb => by omega) (by omega) (by omega) fun H' hs hx hl => ?_
  rw [Int.toNat_natCast] at hs
  simp (disch := (first | assumption | omega | (simp only [List.length_append, List.length_cons, List.length_nil]; omega))) only [↓wD,wU,Nat.reduceBEq,zx150,zx151,zx159,zx160,zx161,zx162,Nat.reduceAdd,Nat.reduceSub,Nat.reduceMul,Nat.reduceLeDiff,Nat.reduceLT,Nat.reduceEqDiff,Int.reduceAdd,Int.reduceSub,Int.reduceMul,Int.reduceNeg,Int.reduceLT,Int.reduceLE,Int.reduceEq,Int.reduceToNat,Int.cast_ofNat_Int,↓reduceIte]
  refine ⟨?_, hx.weak fun b _ hb e => by have := (hy.blkp e).1; omega⟩
  unfold renC
  rw [eg]; exact hs
/-- a column, and names for its choices -/
def renP (v : Int) (t : List (List Int)) (c : Int) (to : List Int) : Prop := colP v t c ∧ namesC v.toNat to
instance (v : Int) (t : List (List Int)) (c : Int) (to : List Int) : Decidable (renP v t c to) := by unfold renP; infer_instance
theorem rename_err {p q q' : Nat → Prop} {H : Heap} {r u : AV} {v c : Int} {t : List (List Int)} {to : List Int} (ht : Sl p H r t) (hto : Sl q H u to) (h : ¬ renP v t c to) : Ret E 34 [.ag [.i v, r], .i c, u] q' H (T2.mk ((0, []) : Int × List (List Int)) (2 : Int)) := by
  refine Ret.ro rfl fn34 rfl ?_
  unfold f34A
  have k1 := (((ht.app [.cells [.i v, r]]).app [.cells [.i c]]).app [.cells [u]]).app [.cells [.i 0, .nils]]
  have k2 := (((hto.app [.cells [.i v, r]]).app [.cells [.i c]]).app [.cells [u]]).app [.cells [.i 0, .nils]]
  have uV := hto.cellsV
  have uL := hto.lenV
  have htb := hto.bound
  by_cases h1 : ArrP v t
  case neg =>
    clear h
    simp (disch := (first | assumption | omega | (simp only [List.length_append, List.length_cons, List.length_nil]; omega))) only [↓wD,wU,Nat.reduceBEq,zx150,zx151,zx159,zx160,zx161,zx162,Nat.reduceAdd,Nat.reduceSub,Nat.reduceMul,Nat.reduceLeDiff,Nat.reduceLT,Nat.reduceEqDiff,Int.reduceAdd,Int.reduceSub,Int.reduceMul,Int.reduceNeg,Int.reduceLT,Int.reduceLE,Int.reduceEq,Int.reduceToNat,Int.cast_ofNat_Int,↓reduceIte, ht.cellsV, uV, (valid_ret k1).call, decide_eq_false h1]
    exact rv_2 (rv_si Sl.nil) rv_i
  by_cases h2 : c < 0
  · have d2 : decide (c < 0) = true := decide_eq_true h2
    clear h
    simp (disch := (first | assumption | omega | (simp only [List.length_append, List.length_cons, List.length_nil]; omega))) only [↓wD,wU,Nat.reduceBEq,zx150,zx151,zx159,zx160,zx161,zx162,Nat.reduceAdd,Nat.reduceSub,Nat.reduceMul,Nat.reduceLeDiff,Nat.reduceLT,Nat.reduceEqDiff,Int.reduceAdd,Int.reduceSub,Int.reduceMul,Int.reduceNeg,Int.reduceLT,Int.reduceLE,Int.reduceEq,Int.reduceToNat,Int.cast_ofNat_Int,↓reduceIte, ht.cellsV, uV, (valid_ret k1).call, decide_eq_true h1, d2]
    exact rv_2 (rv_si Sl.nil) rv_i
  have d2 : decide (c < 0) = false := decide_eq_false h2
  by_cases h3 : (wd t : Int) ≤ c
  · have d3 : decide ((wd t : Int) ≤ c) = true := decide_eq_true h3
    clear h
    simp (disch := (first | assumption | omega | (simp only [List.length_append, List.length_cons, List.length_nil]; omega))) only [↓wD,wU,Nat.reduceBEq,zx150,zx151,zx159,zx160,zx161,zx162,Nat.reduceAdd,Nat.reduceSub,Nat.reduceMul,Nat.reduceLeDiff,Nat.reduceLT,Nat.reduceEqDiff,Int.reduceAdd,Int.reduceSub,Int.reduceMul,Int.reduceNeg,Int.reduceLT,Int.reduceLE,Int.reduceEq,Int.reduceToNat,Int.cast_ofNat_Int,↓reduceIte, ht.cellsV, uV, (valid_ret k1).call, decide_eq_true h1, d2, (columns_ret k1 h1.2.2.1).call, d3]
    exact rv_2 (rv_si Sl.nil) rv_i
  have d3 : decide ((wd t : Int) ≤ c) = false := decide_eq_false h3
  by_cases h4 : (to.length : Int) = v
  case neg =>
    have d4 : decide (¬ (to.length : Int) = v) = true := decide_eq_true h4
    clear h
    simp (disch := (first | assumption | omega | (simp only [List.length_append, List.length_cons, List.length_nil]; omega))) only [↓wD,wU,Nat.reduceBEq,zx150,zx151,zx159,zx160,zx161,zx162,Nat.reduceAdd,Nat.reduceSub,Nat.reduceMul,Nat.reduceLeDiff,Nat.reduceLT,Nat.reduceEqDiff,Int.reduceAdd,Int.reduceSub,Int.reduceMul,Int.reduceNeg,Int.reduceLT,Int.reduceLE,Int.reduceEq,Int.reduceToNat,Int.cast_ofNat_Int,↓reduceIte, ht.cellsV, uV, (valid_ret k1).call, decide_eq_true h1, d2, (columns_ret k1 h1.2.2.1).call, d3, uL, d4]
    exact rv_2 (rv_si Sl.nil) rv_i
  have d4 : decide (¬ (to.length : Int) = v) = false := decide_eq_false fun q => q h4
  have hno : ¬ ∀ x : Nat, x < to.length → (x : Int) ∈ to := fun q => h ⟨⟨h1, by omega, by omega⟩, by omega, fun x hx => q x (by omega)⟩
  clear h
  have c0 : (H ++ [Blk.cells [.i v, r]] ++ [Blk.cells [.i c]] ++ [Blk.cells [u]] ++ [Blk.cells [.i 0, .nils]])[H.length + 2]? = some (Blk.cells [u]) := by simp [List.getElem?_append]
  have c3 : (H ++ [Blk.cells [.i v, r]] ++ [Blk.cells [.i c]] ++ [Blk.cells [u]] ++ [Blk.cells [.i 0, .nils]])[H.length + 3]? = some (Blk.cells [.i 0, .nils]) := by simp [List.getElem?_append]
  have b4 : (H ++ [Blk.cells [.i v, r]] ++ [Blk.cells [.i c]] ++ [Blk.cells [u]] ++ [Blk.cells [.i 0, .nils]]).length = H.length + 4 := by simp
  simp (disch := (first | assumption | omega | (simp only [List.length_append, List.length_cons, List.length_nil]; omega))) only [↓wD,wU,Nat.reduceBEq,zx150,zx151,zx159,zx160,zx161,zx162,Nat.reduceAdd,Nat.reduceSub,Nat.reduceMul,Nat.reduceLeDiff,Nat.reduceLT,Nat.reduceEqDiff,Int.reduceAdd,Int.reduceSub,Int.reduceMul,Int.reduceNeg,Int.reduceLT,Int.reduceLE,Int.reduceEq,Int.reduceToNat,Int.cast_ofNat_Int,↓reduceIte, ht.cellsV, uV, (valid_ret k1).call, decide_eq_true h1, d2, (columns_ret k1 h1.2.2.1).call, d3, uL, d4]
  generalize H ++ [Blk.cells [.i v, r]] ++ [Blk.cells [.i c]] ++ [Blk.cells [u]] ++ [Blk.cells [.i 0, .nils]] = H4 at *
  refine Wp.for to.length (fun i a G => G = H4 ∧ a 5 = .p (H.length + 2) 0 ∧ a 6 = .p (H.length + 3) 0 ∧ a 31 = .i to.length ∧ a 32 = .i i ∧ ∀ x : Nat, x < i → (x : Int) ∈ to) ?_ ?_
  · rintro i a G hi ⟨rfl, a5, a6, a31, a32, hh⟩ ih
    simp (disch := (first | assumption | omega | (simp only [List.length_append, List.length_cons, List.length_nil]; omega))) only [↓wD,wU,Nat.reduceBEq,zx150,zx151,zx159,zx160,zx161,zx162,Nat.reduceAdd,Nat.reduceSub,Nat.reduceMul,Nat.reduceLeDiff,Nat.reduceLT,Nat.reduceEqDiff,Int.reduceAdd,Int.reduceSub,Int.reduceMul,Int.reduceNeg,Int.reduceLT,Int.reduceLE,Int.reduceEq,Int.reduceToNat,Int.cast_ofNat_Int,↓reduceIte, a5, a6, a31, a32]
    refine condP_split (fun hlt => ?_) (fun hlt => ?_)
    · have hi' : i < to.length := by omega
      have cr := contains_ret (x := (i : Int)) k2
      by_cases hin : (i : Int) ∈ to
      · rw [decide_eq_true hin] at cr
        clear hno
        simp (disch := (first | assumption | omega | (simp only [List.length_append, List.length_cons, List.length_nil]; omega))) only [↓wD,wU,Nat.reduceBEq,zx150,zx151,zx159,zx160,zx161,zx162,Nat.reduceAdd,Nat.reduceSub,Nat.reduceMul,Nat.reduceLeDiff,Nat.reduceLT,Nat.reduceEqDiff,Int.reduceAdd,Int.reduceSub,Int.reduceMul,Int.reduceNeg,Int.reduceLT,Int.reduceLE,Int.reduceEq,Int.reduceToNat,Int.cast_ofNat_Int,↓reduceIte, a5, a6, a31, a32, ld_of c0, cr.call]
        refine (ih hi').go ⟨rfl, ?_⟩
        simp (disch := (first | assumption | omega | (simp only [List.length_append, List.length_cons, List.length_nil]; omega))) only [↓wD,wU,Nat.reduceBEq,zx150,zx151,zx159,zx160,zx161,zx162,Nat.reduceAdd,Nat.reduceSub,Nat.reduceMul,Nat.reduceLeDiff,Nat.reduceLT,Nat.reduceEqDiff,Int.reduceAdd,Int.reduceSub,Int.reduceMul,Int.reduceNeg,Int.reduceLT,Int.reduceLE,Int.reduceEq,Int.reduceToNat,Int.cast_ofNat_Int,↓reduceIte, a5, a6, a31, a32]
        intro x hx
        by_cases e : x = i
        · rw [e]; exact hin
        · exact hh x (by omega)
      · rw [decide_eq_false hin] at cr
        clear hno hh ih
        simp (disch := (first | assumption | omega | (simp only [List.length_append, List.length_cons, List.length_nil]; omega))) only [↓wD,wU,Nat.reduceBEq,zx150,zx151,zx159,zx160,zx161,zx162,Nat.reduceAdd,Nat.reduceSub,Nat.reduceMul,Nat.reduceLeDiff,Nat.reduceLT,Nat.reduceEqDiff,Int.reduceAdd,Int.reduceSub,Int.reduceMul,Int.reduceNeg,Int.reduceLT,Int.reduceLE,Int.reduceEq,Int.reduceToNat,Int.cast_ofNat_Int,↓reduceIte, a5, a6, a31, a32, ld_of c0, cr.call, st_of c3]
        simp (disch := (first | assumption | omega | (simp only [List.length_append, List.length_cons, List.length_nil]; omega))) only [↓wD,wU,Nat.reduceBEq,zx150,zx151,zx159,zx160,zx161,zx162,Nat.reduceAdd,Nat.reduceSub,Nat.reduceMul,Nat.reduceLeDiff,Nat.reduceLT,Nat.reduceEqDiff,Int.reduceAdd,Int.reduceSub,Int.reduceMul,Int.reduceNeg,Int.reduceLT,Int.reduceLE,Int.reduceEq,Int.reduceToNat,Int.cast_ofNat_Int,↓reduceIte, ldn_of (get_set c3)]
        exact rv_2 (rv_si Sl.nil) rv_i
    · exact absurd (fun x hx => hh x (by omega)) hno
  · clear hno
    simp (disch := (first | assumption | omega | (simp only [List.length_append, List.length_cons, List.length_nil]; omega))) only [↓wD,wU,Nat.reduceBEq,zx150,zx151,zx159,zx160,zx161,zx162,Nat.reduceAdd,Nat.reduceSub,Nat.reduceMul,Nat.reduceLeDiff,Nat.reduceLT,Nat.reduceEqDiff,Int.reduceAdd,Int.reduceSub,Int.reduceMul,Int.reduceNeg,Int.reduceLT,Int.reduceLE,Int.reduceEq,Int.reduceToNat,Int.cast_ofNat_Int,↓reduceIte]
    exact fun x hx => by omega
theorem rename_ret {p q q' : Nat → Prop} {H : Heap} {r u : AV} {v : Int} {c : Nat} {t : List (List Int)} {to : List Int} (ht : Sl p H r t) (hto : Sl q H u to) (h : renP v t c to) : Ret E 34 [.ag [.i v, r], .i c, u] q' H (T2.mk ((v, t.map (renC c to)) : Int × List (List Int)) (0 : Int)) := by
  refine Ret.ro rfl fn34 rfl ?_
  unfold f34A
  obtain ⟨⟨hA, h2, h3⟩, h4, h5⟩ := h
  have k1 := (((ht.app [.cells [.i v, r]]).app [.cells [.i c]]).app [.cells [u]]).app [.cells [.i 0, .nils]]
  have k2 := (((hto.app [.cells [.i v, r]]).app [.cells [.i c]]).app [.cells [u]]).app [.cells [.i 0, .nils]]
  have uV := hto.cellsV
  have uL := hto.lenV
  have htb := hto.bound
  have hv2 := hA.1
  have d2 : decide ((c : Int) < 0) = false := decide_eq_false (by omega)
  have d3 : decide ((wd t : Int) ≤ (c : Int)) = false := decide_eq_false (by omega)
  have d4 : decide (¬ (to.length : Int) = v) = false := decide_eq_false fun q => q (by omega)
  have e2 : H.length + 1 + 1 = H.length + 2 := by omega
  have e3 : H.length + 1 + 1 + 1 = H.length + 3 := by omega
  have c0 : (H ++ [Blk.cells [.i v, r]] ++ [Blk.cells [.i c]] ++ [Blk.cells [u]] ++ [Blk.cells [.i 0, .nils]])[H.length]? = some (Blk.cells [.i v, r]) := by simp [List.getElem?_append]
  have c1 : (H ++ [Blk.cells [.i v, r]] ++ [Blk.cells [.i c]] ++ [Blk.cells [u]] ++ [Blk.cells [.i 0, .nils]])[H.length + 1]? = some (Blk.cells [.i c]) := by simp [List.getElem?_append]
  have c2 : (H ++ [Blk.cells [.i v, r]] ++ [Blk.cells [.i c]] ++ [Blk.cells [u]] ++ [Blk.cells [.i 0, .nils]])[H.length + 2]? = some (Blk.cells [u]) := by simp [List.getElem?_append]
  have c3 : (H ++ [Blk.cells [.i v, r]] ++ [Blk.cells [.i c]] ++ [Blk.cells [u]] ++ [Blk.cells [.i 0, .nils]])[H.length + 3]? = some (Blk.cells [.i 0, .nils]) := by simp [List.getElem?_append]
  have b4 : (H ++ [Blk.cells [.i v, r]] ++ [Blk.cells [.i c]] ++ [Blk.cells [u]] ++ [Blk.cells [.i 0, .nils]]).length = H.length + 4 := by simp
  simp (disch := (first | assumption | omega | (simp only [List.length_append, List.length_cons, List.length_nil]; omega))) only [↓wD,wU,Nat.reduceBEq,zx150,zx151,zx159,zx160,zx161,zx162,Nat.reduceAdd,Nat.reduceSub,Nat.reduceMul,Nat.reduceLeDiff,Nat.reduceLT,Nat.reduceEqDiff,Int.reduceAdd,Int.reduceSub,Int.reduceMul,Int.reduceNeg,Int.reduceLT,Int.reduceLE,Int.reduceEq,Int.reduceToNat,Int.cast_ofNat_Int,↓reduceIte, ht.cellsV, uV, (valid_ret k1).call, decide_eq_true hA, d2, (columns_ret k1 hA.2.2.1).call, d3, uL, d4]
  generalize H ++ [Blk.cells [.i v, r]] ++ [Blk.cells [.i c]] ++ [Blk.cells [u]] ++ [Blk.cells [.i 0, .nils]] = H4 at *
  refine Wp.for to.length (fun i a G => G = H4 ∧ a 3 = .p H.length 0 ∧ a 4 = .p (H.length + 1) 0 ∧ a 5 = .p (H.length + 2) 0 ∧ a 6 = .p (H.length + 3) 0 ∧ a 31 = .i to.length ∧ a 32 = .i i) ?_ ?_
  · rintro i a G hi ⟨rfl, a3, a4, a5, a6, a31, a32⟩ ih
    simp (disch := (first | assumption | omega | (simp only [List.length_append, List.length_cons, List.length_nil]; omega))) only [↓wD,wU,Nat.reduceBEq,zx150,zx151,zx159,zx160,zx161,zx162,Nat.reduceAdd,Nat.reduceSub,Nat.reduceMul,Nat.reduceLeDiff,Nat.reduceLT,Nat.reduceEqDiff,Int.reduceAdd,Int.reduceSub,Int.reduceMul,Int.reduceNeg,Int.reduceLT,Int.reduceLE,Int.reduceEq,Int.reduceToNat,Int.cast_ofNat_Int,↓reduceIte, a3, a4, a5, a6, a31, a32]
    refine condP_split (fun hlt => ?_) (fun hlt => ?_)
    · have hi' : i < to.length := by omega
      have cr := contains_ret (x := (i : Int)) k2
      rw [decide_eq_true (h5 i (by omega))] at cr
      simp (disch := (first | assumption | omega | (simp only [List.length_append, List.length_cons, List.length_nil]; omega))) only [↓wD,wU,Nat.reduceBEq,zx150,zx151,zx159,zx160,zx161,zx162,Nat.reduceAdd,Nat.reduceSub,Nat.reduceMul,Nat.reduceLeDiff,Nat.reduceLT,Nat.reduceEqDiff,Int.reduceAdd,Int.reduceSub,Int.reduceMul,Int.reduceNeg,Int.reduceLT,Int.reduceLE,Int.reduceEq,Int.reduceToNat,Int.cast_ofNat_Int,↓reduceIte, a3, a4, a5, a6, a31, a32, ld_of c2, cr.call]
      refine (ih hi').go ⟨rfl, ?_⟩
      simp (disch := (first | assumption | omega | (simp only [List.length_append, List.length_cons, List.length_nil]; omega))) only [↓wD,wU,Nat.reduceBEq,zx150,zx151,zx159,zx160,zx161,zx162,Nat.reduceAdd,Nat.reduceSub,Nat.reduceMul,Nat.reduceLeDiff,Nat.reduceLT,Nat.reduceEqDiff,Int.reduceAdd,Int.reduceSub,Int.reduceMul,Int.reduceNeg,Int.reduceLT,Int.reduceLE,Int.reduceEq,Int.reduceToNat,Int.cast_ofNat_Int,↓reduceIte, a3, a4, a5, a6, a31, a32]
    · simp (disch := (first | assumption | omega | (simp only [List.length_append, List.length_cons, List.length_nil]; omega))) only [↓wD,wU,Nat.reduceBEq,zx150,zx151,zx159,zx160,zx161,zx162,Nat.reduceAdd,Nat.reduceSub,Nat.reduceMul,Nat.reduceLeDiff,Nat.reduceLT,Nat.reduceEqDiff,Int.reduceAdd,Int.reduceSub,Int.reduceMul,Int.reduceNeg,Int.reduceLT,Int.reduceLE,Int.reduceEq,Int.reduceToNat,Int.cast_ofNat_Int,↓reduceIte, a3, a4, a5, a6, a31, a32, ldn_of c0]
      refine (each_ret (g := renC c to) (us := []) (caps := [.p (H.length + 2) 0, .p (H.length + 1) 0]) k1 (by have := hA.2.2.2.1; omega) (fun x hx => ?_) fun x hx y Hc L hg hL hLc hy => ?_).toX fun w H6 x56 hw => ?_
      · have := (hA.2.2.2.2 x hx).2.2.1; omega
      · have hxr := hA.row hx
        have hx8 := (hA.2.2.2.2 x hx).2.2.1
        have hgx := hxr.2 _ (gi_mem (xs := x) (k := (c : Int)) (by omega) (by omega))
        exact rename1_wp hy (k2.gr hg) (by omega) (hg.get c2) (hg.get c1) (by omega) (by omega)
      · obtain ⟨u', rfl, hu⟩ := rv_si_elim hw
        have c6 := x56.get trivial c3
        have huV := hu.cellsV
        have hl56 := x56.1
        simp (disch := (first | assumption | omega | (simp only [List.length_append, List.length_cons, List.length_nil]; omega))) only [↓wD,wU,Nat.reduceBEq,zx150,zx151,zx159,zx160,zx161,zx162,Nat.reduceAdd,Nat.reduceSub,Nat.reduceMul,Nat.reduceLeDiff,Nat.reduceLT,Nat.reduceEqDiff,Int.reduceAdd,Int.reduceSub,Int.reduceMul,Int.reduceNeg,Int.reduceLT,Int.reduceLE,Int.reduceEq,Int.reduceToNat,Int.cast_ofNat_Int,↓reduceIte, a6, huV, st_of c6]
        simp (disch := (first | assumption | omega | (simp only [List.length_append, List.length_cons, List.length_nil]; omega))) only [↓wD,wU,Nat.reduceBEq,zx150,zx151,zx159,zx160,zx161,zx162,Nat.reduceAdd,Nat.reduceSub,Nat.reduceMul,Nat.reduceLeDiff,Nat.reduceLT,Nat.reduceEqDiff,Int.reduceAdd,Int.reduceSub,Int.reduceMul,Int.reduceNeg,Int.reduceLT,Int.reduceLE,Int.reduceEq,Int.reduceToNat,Int.cast_ofNat_Int,↓reduceIte, ldn_of (get_set c6)]
        exact rv_2 (rv_si (((hu.low.kp (Kx.set (H.length + 3) H6 (Blk.cells [.i v, u']) |>.weak fun b _ h => by have := h.1.resolve_left (fun h => h); omega).kp).weak fun b h => .inr (by have := h.1.resolve_left (fun h => h); omega)))) rv_i
  · simp (disch := (first | assumption | omega | (simp only [List.length_append, List.length_cons, List.length_nil]; omega))) only [↓wD,wU,Nat.reduceBEq,zx150,zx151,zx159,zx160,zx161,zx162,Nat.reduceAdd,Nat.reduceSub,Nat.reduceMul,Nat.reduceLeDiff,Nat.reduceLT,Nat.reduceEqDiff,Int.reduceAdd,Int.reduceSub,Int.reduceMul,Int.reduceNeg,Int.reduceLT,Int.reduceLE,Int.reduceEq,Int.reduceToNat,Int.cast_ofNat_Int,↓reduceIte]
end Go.Proofs.Ytalaadcbpjnglaa
namespace Go.AM
open Go
/-- a row, and the value that stands for it -/
structure RW where
  v : AV
  xs : List Int
instance : Inhabited RW := ⟨⟨.nils, []⟩⟩
instance : Rep RW where
  sz := 1
  pos := Nat.one_pos
  rep p H cs r := cs = [r.v] ∧ Sl p H r.v r.xs
  len := by rintro p H cs x ⟨rfl, _⟩; rfl
  one := by rintro p H cs x ⟨rfl, h⟩; simp [h.one]
  mono := by rintro p q H H' cs x ⟨rfl, h⟩ hk hq; exact ⟨rfl, h.mono hk hq⟩
  pure := by rintro p q H H' cs x ⟨rfl, h⟩ hp; exact ⟨rfl, h.pure (by simpa [AV.pureAll] using hp)⟩
  low := by rintro p H cs x ⟨rfl, h⟩; exact ⟨rfl, h.low⟩
/-- in no block of the other one's -/
def Apart (a b : AV) : Prop := ∀ c, a.blk = some c → b.blk ≠ some c
/-- a table of the call's own, from L on; its rows apart -/
def TB (L : Nat) (H : Heap) (v : AV) (t : List (List Int)) : Prop :=
  ∃ rs : List RW, rs.map (·.xs) = t ∧ rs.Pairwise (fun a b => Apart a.v b.v) ∧ Acc L (fun b => L ≤ b) H v rs
section
variable {L lo : Nat} {p : Nat → Prop} {H H' : Heap} {v : AV} {t : List (List Int)}
theorem TB.nil : TB L H .nils [] := ⟨[], rfl, List.Pairwise.nil, Acc.nil⟩
theorem TB.accL (h : TB L H v t) : Acc L (fun b => L ≤ b) H v t := by
  obtain ⟨rs, rfl, _, h⟩ := h
  rcases h with ⟨rfl, rfl⟩ | ⟨b, o, c, k, rfl, hb, hk, h1, h2, h3⟩
  · exact .inl ⟨rfl, rfl⟩
  · refine .inr ⟨b, o, c, k, by rw [List.length_map]; rfl, hb, hk, by rw [List.length_map]; exact h1, by rwa [List.length_map], fun i hi => ?_⟩
    have hi' : i < rs.length := by simpa using hi
    obtain ⟨e, hs⟩ := h3 i hi'
    refine ⟨_, e, ?_⟩
    have e2 : (rs.map (·.xs))[i]'hi = rs[i].xs := by simp
    rw [e2]; exact hs
theorem TB.sl (h : TB L H v t) : Sl (fun b => L ≤ b) H v t := h.accL.sl.weak fun b h => h.elim id id
theorem TB.kp (h : TB L H v t) (hk : Kp (fun b => L ≤ b) H H') : TB L H' v t := by
  obtain ⟨rs, e, hn, h⟩ := h
  exact ⟨rs, e, hn, h.mono (hk.weak fun b hb => hb.elim id id) fun _ h => h⟩
theorem TB.gr (h : TB L H v t) (hg : Gr H H') : TB L H' v t := h.kp hg.all.weakT
theorem TB.blk_lt (h : TB L H v t) {b : Nat} (e : v.blk = some b) : L ≤ b ∧ b < H.length := h.accL.blk_lt e
theorem RW.lt {rs : List RW} (h : Acc L p H v rs) : ∀ r ∈ rs, ∀ c, r.v.blk = some c → c < H.length := by
  intro r hr c hc
  rcases h with ⟨rfl, rfl⟩ | ⟨b, o, c', k, rfl, hb, hk, h1, h2, h3⟩
  · cases hr
  · obtain ⟨i, hi, rfl⟩ := List.mem_iff_getElem.1 hr
    obtain ⟨_, h4⟩ := h3 i hi
    exact (h4.blkp hc).2
theorem TB.push {n : Nat} {y : AV} {x : List Int} {Q : AV × Heap → Prop} {H0 : Heap} (h : TB L H0 v t) (hg : Gr H0 H) (hlo : lo ≤ L) (hL : L ≤ H0.length) (hy : Sl (fun b => H0.length ≤ b) H y x) (hb : (t.length + 1) * 24 ≤ 1099511627776)
    (go : ∀ v' H', TB L H' v' (t ++ [x]) → Kp (fun b => v.blk ≠ some b) H H' → Q (v', H')) (hn : n = H.length := by first | rfl | simp) :
    @optP _ (appendV lo 1 24 v (.s 1 n 0 1 (some 1)) (H ++ [.cells [y]])) ⟨Q⟩ := by
  subst hn
  obtain ⟨rs, rfl, hn, ha⟩ := h
  have hrl := RW.lt ha
  refine Acc.push1 (α := RW) (q := fun b => H0.length ≤ b) (cs := [y]) (x := ⟨y, x⟩) (bytes := 24) (ha.gr hg) hlo (Nat.le_trans hL hg.1) ⟨rfl, hy⟩ (fun b hb => ⟨by omega, fun e => ?_⟩) (by simpa using hb) (by omega) fun v' H' h1 h2 _ _ => go v' H' ⟨rs ++ [⟨y, x⟩], by simp, ?_, h1⟩ h2
  · have := (ha.blk_lt e).2; omega
  · rw [List.pairwise_append]
    refine ⟨hn, List.pairwise_singleton _ _, ?_⟩
    intro a ha' b hb c hc e
    simp at hb
    subst hb
    have h1 := hrl a ha' c hc
    have h2 := (hy.blkp e).1
    omega
/-- row i, written in place -/
theorem TB.row (h : TB L H v t) {i : Nat} (hi : i < t.length) : ∃ y, v.get H (i : Int) = y ∧ ldA H none (v.at 1 (i : Int)) = some y ∧ Sl (fun b => L ≤ b) H y (gi t (i : Int)) ∧ (∀ b, v.blk = some b → y.blk ≠ some b) ∧
    ∀ H' x', Kx (fun b => y.blk ≠ some b) H H' → Sl (fun b => L ≤ b) H' y x' → TB L H' v (t.set i x') := by
  have g := h.sl.get (k := (i : Int)) (by omega) (by omega)
  have gl := (h.sl.ld_get (k := (i : Int)) (by omega) (by omega)).1
  refine ⟨_, rfl, gl, g, ?_, ?_⟩
  · intro b hb
    obtain ⟨rs, rfl, hn, ha⟩ := h
    rcases ha with ⟨rfl, rfl⟩ | ⟨b1, o, c, k, rfl, hb1, hk, h1, h2, h3⟩
    · simp at hi
    · have hi' : i < rs.length := by simpa using hi
      obtain ⟨e, h4⟩ := h3 i hi'
      change (k.drop (o + i * 1)).take 1 = _ at e
      have e2 := take1 e
      have eg : AV.get H (.s (Rep.sz RW) b1 o rs.length c) (i : Int) = rs[i].v := by
        change (ld H b1 (o + i * 1)).getD .un = _
        simp only [ld, hk, e2]; rfl
      rw [eg]
      cases hb
      intro q
      exact (h4.blkp q).1.2 rfl
  · intro H' x' hx hs
    obtain ⟨rs, rfl, hn, ha⟩ := h
    rcases ha with ⟨rfl, rfl⟩ | ⟨b1, o, c, k, rfl, hb1, hk, h1, h2, h3⟩
    · simp at hi
    · have hi' : i < rs.length := by simpa using hi
      obtain ⟨e, h4⟩ := h3 i hi'
      change (k.drop (o + i * 1)).take 1 = _ at e
      have e2 := take1 e
      have eg : AV.get H (.s (Rep.sz RW) b1 o rs.length c) (i : Int) = rs[i].v := by
        change (ld H b1 (o + i * 1)).getD .un = _
        simp only [ld, hk, e2]; rfl
      rw [eg] at hx hs
      have hne : ∀ q, rs[i].v.blk = some q → q ≠ b1 := fun q hq => (h4.blkp hq).1.2
      refine ⟨rs.set i ⟨rs[i].v, x'⟩, by simp [List.map_set], ?_, .inr ⟨b1, o, c, k, by rw [List.length_set], hb1, hx.get (fun q => hne _ q rfl) hk, by rw [List.length_set]; exact h1, by rw [List.length_set]; exact h2, fun j hj => ?_⟩⟩
      · rw [List.pairwise_iff_getElem] at hn ⊢
        intro a b ha hb hab
        have e1 : ∀ m (hm : m < (rs.set i ⟨rs[i].v, x'⟩).length), (rs.set i ⟨rs[i].v, x'⟩)[m].v = (rs[m]'(by simpa using hm)).v := by
          intro m hm
          simp only [List.getElem_set]
          split
          · rename_i q; subst q; rfl
          · rfl
        rw [e1 a ha, e1 b hb]
        exact hn a b _ _ hab
      · have hj' : j < rs.length := by simpa using hj
        by_cases q : i = j
        · subst q
          simp only [List.getElem_set_self]
          exact ⟨e, hs.own.weak (q := fun b => rs[i].v.blk = some b) (fun _ h => h) |>.weak fun b hb => ⟨(hs.blkp hb).1, hne b hb⟩⟩
        · rw [List.getElem_set_ne q]
          obtain ⟨ej, hj4⟩ := h3 j hj'
          refine ⟨ej, (hj4.own.kp (hx.weak (q := fun b => rs[j].v.blk = some b) fun b _ hb => ?_).kp).weak fun b hb => (hj4.blkp hb).1⟩
          rw [List.pairwise_iff_getElem] at hn
          rcases Nat.lt_or_gt_of_ne q with ql | ql
          · exact fun e => hn i j hi' hj' ql b e hb
          · exact fun e => hn j i hj' hi' ql b hb e
/-- a table of the call's own, as a result -/
structure TW where
  t : List (List Int)
instance : RV TW where
  rv p H v x := ∃ rs : List RW, rs.map (·.xs) = x.t ∧ rs.Pairwise (fun a b => Apart a.v b.v) ∧ ((v = .nils ∧ rs = []) ∨ ∃ b o c k, v = .s 1 b o rs.length c ∧ p b ∧ H[b]? = some (.cells k) ∧ o + rs.length ≤ k.length ∧ rs.length ≤ 9223372036854775807 ∧ ∀ (i : Nat) (h : i < rs.length), Rep.rep (fun b' => p b' ∧ b' ≠ b) H ((k.drop (o + i)).take 1) rs[i])
  mono := by
    rintro p q H H' v x ⟨rs, e, hn, h⟩ hk hq
    refine ⟨rs, e, hn, ?_⟩
    rcases h with h | ⟨b, o, c, k, rfl, hb, hk1, h1, h2, h3⟩
    · exact .inl h
    · exact .inr ⟨b, o, c, k, rfl, hq b hb, hk.2 b k hb hk1, h1, h2, fun i hi => Rep.mono (h3 i hi) (hk.weak fun _ h => h.1) fun b h => ⟨hq b h.1, h.2⟩⟩
  pure := by
    rintro p q H H' v x ⟨rs, e, hn, h⟩ hp
    rcases h with h | ⟨b, o, c, k, rfl, _⟩
    · exact ⟨rs, e, hn, .inl h⟩
    · simp [AV.pure] at hp
theorem TB.rv (h : TB L H v t) (hp : ∀ b, L ≤ b → p b) : RV.rv p H v (TW.mk t) := by
  obtain ⟨rs, e, hn, h⟩ := h
  refine ⟨rs, e, hn, ?_⟩
  rcases h with h | ⟨b, o, c, k, rfl, hb, hk1, h1, h2, h3⟩
  · exact .inl h
  · refine .inr ⟨b, o, c, k, rfl, hp b hb, hk1, by change o + rs.length * 1 ≤ _ at h1; simpa using h1, h2, fun i hi => ?_⟩
    have := h3 i hi
    change Rep.rep _ H ((k.drop (o + i * 1)).take 1) _ at this
    rw [Nat.mul_one] at this
    exact Rep.mono this (Kp.refl _ _) fun b h => ⟨hp b h.1, h.2⟩
theorem TB.of (h : RV.rv p H v (TW.mk t)) (hp : ∀ b, p b → L ≤ b) : TB L H v t := by
  obtain ⟨rs, e, hn, h⟩ := h
  refine ⟨rs, e, hn, ?_⟩
  rcases h with h | ⟨b, o, c, k, rfl, hb, hk1, h1, h2, h3⟩
  · exact .inl h
  · refine .inr ⟨b, o, c, k, rfl, hp b hb, hk1, by change o + rs.length * 1 ≤ _; simpa using h1, h2, fun i hi => ?_⟩
    change Rep.rep _ H ((k.drop (o + i * 1)).take 1) _
    rw [Nat.mul_one]
    exact Rep.mono (h3 i hi) (Kp.refl _ _) fun b h => ⟨hp b h.1, h.2⟩
end
section
variable {k : List AV} {o n i j : Nat}
end
end Go.AM
namespace Go.Proofs.Ytalaadcbpjnglaa
open Go Go.AM Go.Proofs
end Go.Proofs.Ytalaadcbpjnglaa
namespace Go.AM
open Go
/-- a table of the call's own, from L on and below M; its rows apart -/
def TBm (L M : Nat) (H : Heap) (v : AV) (t : List (List Int)) : Prop :=
  ∃ rs : List RW, rs.map (·.xs) = t ∧ rs.Pairwise (fun a b => Apart a.v b.v) ∧ Acc L (fun b => L ≤ b ∧ b < M) H v rs ∧ ∀ b, v.blk = some b → b < M
section
variable {L M lo : Nat} {p : Nat → Prop} {H H' : Heap} {v : AV} {t : List (List Int)}
theorem TBm.tb (h : TBm L M H v t) : TB L H v t := by
  obtain ⟨rs, e, hn, h, _⟩ := h
  exact ⟨rs, e, hn, h.mono (Kp.refl _ _) fun _ h => h.1⟩
theorem TB.tbm (h : TB L H v t) : TBm L H.length H v t := by
  have hb := fun b e => (h.blk_lt (b := b) e).2
  obtain ⟨rs, e, hn, h⟩ := h
  refine ⟨rs, e, hn, ?_, hb⟩
  rcases h with h | ⟨b, o, c, k, rfl, hb, hk, h1, h2, h3⟩
  · exact .inl h
  · exact .inr ⟨b, o, c, k, rfl, hb, hk, h1, h2, fun i hi => Rep.mono (Rep.low (h3 i hi)) (Kp.refl _ _) fun b h => ⟨⟨h.1.1, h.2⟩, h.1.2⟩⟩
theorem TBm.kp (h : TBm L M H v t) (hk : Kp (fun b => L ≤ b ∧ b < M) H H') : TBm L M H' v t := by
  obtain ⟨rs, e, hn, h, hb⟩ := h
  exact ⟨rs, e, hn, Acc.kp h hk (fun b e => ⟨(h.blk_lt e).1, hb b e⟩) fun _ h => h, hb⟩
theorem TBm.sl (h : TBm L M H v t) : Sl (fun b => L ≤ b ∧ b < M) H v t := by
  obtain ⟨rs, rfl, hn, h, hb⟩ := h
  rcases h with ⟨rfl, rfl⟩ | ⟨b, o, c, k, rfl, hb0, hk, h1, h2, h3⟩
  · exact .inl ⟨rfl, rfl⟩
  · refine .inr ⟨b, o, c, k, by rw [List.length_map]; rfl, ⟨hb0, hb b rfl⟩, hk, by rw [List.length_map]; exact h1, by rwa [List.length_map], fun i hi => ?_⟩
    have hi' : i < rs.length := by simpa using hi
    obtain ⟨e, hs⟩ := h3 i hi'
    refine ⟨_, e, ?_⟩
    have e2 : (rs.map (·.xs))[i]'hi = rs[i].xs := by simp
    rw [e2]; exact hs.weak fun _ h => h.1
theorem TBm.set (h : TBm L M H v t) {i : Nat} (hi : i < t.length) {x' : List Int} (hx : Kx (fun b => (v.get H (i : Int)).blk ≠ some b) H H') (hs : Sl (fun b => L ≤ b ∧ b < M) H' (v.get H (i : Int)) x') : TBm L M H' v (t.set i x') := by
  obtain ⟨rs, rfl, hn, ha, hbM⟩ := h
  rcases ha with ⟨rfl, rfl⟩ | ⟨b1, o, c, k, rfl, hb1, hk, h1, h2, h3⟩
  · simp at hi
  · have hi' : i < rs.length := by simpa using hi
    obtain ⟨e, h4⟩ := h3 i hi'
    change (k.drop (o + i * 1)).take 1 = _ at e
    have e2 := take1 e
    have eg : AV.get H (.s (Rep.sz RW) b1 o rs.length c) (i : Int) = rs[i].v := by
      change (ld H b1 (o + i * 1)).getD .un = _
      simp only [ld, hk, e2]; rfl
    rw [eg] at hx hs
    have hne : ∀ q, rs[i].v.blk = some q → q ≠ b1 := fun q hq => (h4.blkp hq).1.2
    refine ⟨rs.set i ⟨rs[i].v, x'⟩, by simp [List.map_set], ?_, .inr ⟨b1, o, c, k, by rw [List.length_set], hb1, hx.get (fun q => hne _ q rfl) hk, by rw [List.length_set]; exact h1, by rw [List.length_set]; exact h2, fun j hj => ?_⟩, hbM⟩
    · rw [List.pairwise_iff_getElem] at hn ⊢
      intro a b ha hb hab
      have e1 : ∀ m (hm : m < (rs.set i ⟨rs[i].v, x'⟩).length), (rs.set i ⟨rs[i].v, x'⟩)[m].v = (rs[m]'(by simpa using hm)).v := by
        intro m hm
        simp only [List.getElem_set]
        split
        · rename_i q; subst q; rfl
        · rfl
      rw [e1 a ha, e1 b hb]
      exact hn a b _ _ hab
    · have hj' : j < rs.length := by simpa using hj
      by_cases q : i = j
      · subst q
        simp only [List.getElem_set_self]
        exact ⟨e, hs.own.weak (q := fun b => rs[i].v.blk = some b) (fun _ h => h) |>.weak fun b hb => ⟨(hs.blkp hb).1, hne b hb⟩⟩
      · rw [List.getElem_set_ne q]
        obtain ⟨ej, hj4⟩ := h3 j hj'
        refine ⟨ej, (hj4.own.kp (hx.weak (q := fun b => rs[j].v.blk = some b) fun b _ hb => ?_).kp).weak fun b hb => (hj4.blkp hb).1⟩
        rw [List.pairwise_iff_getElem] at hn
        rcases Nat.lt_or_gt_of_ne q with ql | ql
        · exact fun e => hn i j hi' hj' ql b e hb
        · exact fun e => hn j i hj' hi' ql b hb e
/-- .. what is not the table's stays -/
theorem TBm.storeX {Q : Heap → Prop} {i k : Nat} {x : Int} (h : TBm L M H v t) (hlo : lo ≤ L) (hi : i < t.length) (hk : k < (gi t (i : Int)).length)
    (go : ∀ H', TBm L M H' v (t.set i ((gi t (i : Int)).set k x)) → Kx (fun b => b < L ∨ M ≤ b) H H' → H'.length = H.length → Q H') : @optP _ (stA lo H 1 ((v.get H (i : Int)).at 1 (k : Int)) (.i x)) ⟨Q⟩ := by
  have g := h.sl.get (k := (i : Int)) (by omega) (by omega)
  refine g.storeI (k := (k : Int)) (fun b hb => by omega) (by omega) (by omega) fun H' hs hx hl => ?_
  rw [Int.toNat_natCast] at hs
  exact go H' (h.set hi hx hs) (hx.weak fun b _ hb e => by have := (g.blkp e).1; omega) hl
end
end Go.AM
namespace Go.Proofs.Ytalaadcbpjnglaa
open Go Go.AM Go.Proofs
/-- rows that are not empty, and not long -/
def NE (t : List (List Int)) : Prop := ∀ r ∈ t, r ≠ [] ∧ r.length ≤ 1000
theorem ArrP.ne {v : Int} {t : List (List Int)} (h : ArrP v t) : NE t := fun r hr => by
  have := h.2.2.2.2 r hr
  exact ⟨fun e => by rw [e] at this; have := this.2.1; simp at this, by have := this.2.2.1; omega⟩
theorem rcopied_ret {p : Nat → Prop} {H : Heap} {r : AV} {t : List (List Int)} (ht : Sl p H r t) (hn : NE t) (hl : t.length ≤ 1000) : Ret E 83 [r] (fun _ => False) H (TW.mk t) := by
  refine Ret.ro rfl fn83 rfl ?_
  unfold f83A
  have hb := ht.bound
  simp (disch := (first | assumption | omega | (simp only [List.length_append, List.length_cons, List.length_nil]; omega))) only [↓wD,wU,Nat.reduceBEq,zx150,zx151,zx159,zx160,zx161,zx162,Nat.reduceAdd,Nat.reduceSub,Nat.reduceMul,Nat.reduceLeDiff,Nat.reduceLT,Nat.reduceEqDiff,Int.reduceAdd,Int.reduceSub,Int.reduceMul,Int.reduceNeg,Int.reduceLT,Int.reduceLE,Int.reduceEq,Int.reduceToNat,Int.cast_ofNat_Int,↓reduceIte, ht.L]
  replace ht : Sl (fun b => b < H.length) H r t := ht.low.weak fun _ h => h.2
  refine Wp.for t.length (fun i a G => ∃ u, a 6 = r ∧ a 7 = .i t.length ∧ a 8 = .i i ∧ a 3 = u ∧ Gr H G ∧ TB H.length G u (t.take i)) ?_ ?_
  · rintro i a G hi ⟨u, a6, a7, a8, a3, hg, hu⟩ ih
    have gl := hg.1
    simp (disch := (first | assumption | omega | (simp only [List.length_append, List.length_cons, List.length_nil]; omega))) only [↓wD,wU,Nat.reduceBEq,zx150,zx151,zx159,zx160,zx161,zx162,Nat.reduceAdd,Nat.reduceSub,Nat.reduceMul,Nat.reduceLeDiff,Nat.reduceLT,Nat.reduceEqDiff,Int.reduceAdd,Int.reduceSub,Int.reduceMul,Int.reduceNeg,Int.reduceLT,Int.reduceLE,Int.reduceEq,Int.reduceToNat,Int.cast_ofNat_Int,↓reduceIte, a6, a7, a8, a3]
    refine condP_split (fun hlt => ?_) (fun hlt => ?_)
    · have hi' : i < t.length := by omega
      have tG := ht.gr hg
      have g := tG.get (k := (i : Int)) (by omega) (by omega)
      obtain ⟨x, ex⟩ : ∃ x, gi t (i : Int) = x := ⟨_, rfl⟩
      have hx := hn _ (mem_gi hi')
      rw [ex] at g hx
      have f0 : Acc G.length (fun _ => True) (G ++ [Blk.cells []]) (.s 1 G.length 0 0 (some 0)) ([] : List Int) := Acc.fresh0 (Nat.le_refl _)
      simp (disch := (first | assumption | omega | (simp only [List.length_append, List.length_cons, List.length_nil]; omega))) only [↓wD,wU,Nat.reduceBEq,zx150,zx151,zx159,zx160,zx161,zx162,Nat.reduceAdd,Nat.reduceSub,Nat.reduceMul,Nat.reduceLeDiff,Nat.reduceLT,Nat.reduceEqDiff,Int.reduceAdd,Int.reduceSub,Int.reduceMul,Int.reduceNeg,Int.reduceLT,Int.reduceLE,Int.reduceEq,Int.reduceToNat,Int.cast_ofNat_Int,↓reduceIte, a6, a7, a8, a3, tG.L]
      refine f0.extend (q := fun b => b < H.length) (bytes := 8) (by omega) (by simp) (g.app _) (fun b hb => ⟨trivial, fun e => by simp [AV.blk] at e; omega⟩) (by simp; omega) (by omega) fun w1 K1 A1 k1 => ?_
      rw [List.nil_append] at A1
      have hw1 : Sl (fun b => G.length ≤ b) K1 w1 x := by
        rcases A1 with h | ⟨b, o, cc, k, e, hb, hk, h1, h2, h3⟩
        · exact .inl h
        · exact .inr ⟨b, o, cc, k, e, hb, hk, h1, h2, h3⟩
      have hg1 : Gr G K1 := ((Gr.refl G).app [Blk.cells []]).trans' k1 fun b hb e => by simp [AV.blk] at e; omega
      simp (disch := (first | assumption | omega | (simp only [List.length_append, List.length_cons, List.length_nil]; omega))) only [↓wD,wU,Nat.reduceBEq,zx150,zx151,zx159,zx160,zx161,zx162,Nat.reduceAdd,Nat.reduceSub,Nat.reduceMul,Nat.reduceLeDiff,Nat.reduceLT,Nat.reduceEqDiff,Int.reduceAdd,Int.reduceSub,Int.reduceMul,Int.reduceNeg,Int.reduceLT,Int.reduceLE,Int.reduceEq,Int.reduceToNat,Int.cast_ofNat_Int,↓reduceIte, a6, a7, a8, a3, hw1.cellsV]
      refine hu.push hg1 (by omega) (by omega) hw1 (by rw [List.length_take]; omega) fun u' K2 hu' hk2 => ?_
      simp (disch := (first | assumption | omega | (simp only [List.length_append, List.length_cons, List.length_nil]; omega))) only [↓wD,wU,Nat.reduceBEq,zx150,zx151,zx159,zx160,zx161,zx162,Nat.reduceAdd,Nat.reduceSub,Nat.reduceMul,Nat.reduceLeDiff,Nat.reduceLT,Nat.reduceEqDiff,Int.reduceAdd,Int.reduceSub,Int.reduceMul,Int.reduceNeg,Int.reduceLT,Int.reduceLE,Int.reduceEq,Int.reduceToNat,Int.cast_ofNat_Int,↓reduceIte, a6, a7, a8, a3]
      refine (ih hi').go ⟨u', ?_⟩
      simp (disch := (first | assumption | omega | (simp only [List.length_append, List.length_cons, List.length_nil]; omega))) only [↓wD,wU,Nat.reduceBEq,zx150,zx151,zx159,zx160,zx161,zx162,Nat.reduceAdd,Nat.reduceSub,Nat.reduceMul,Nat.reduceLeDiff,Nat.reduceLT,Nat.reduceEqDiff,Int.reduceAdd,Int.reduceSub,Int.reduceMul,Int.reduceNeg,Int.reduceLT,Int.reduceLE,Int.reduceEq,Int.reduceToNat,Int.cast_ofNat_Int,↓reduceIte, a6, a7, a8, a3]
      rw [take_gi hi', ex]
      exact ⟨(hg.trans hg1).trans' hk2 fun b hb e => by have := (hu.blk_lt e).1; omega, hu'⟩
    · obtain rfl : i = t.length := by omega
      rw [List.take_length] at hu
      simp (disch := (first | assumption | omega | (simp only [List.length_append, List.length_cons, List.length_nil]; omega))) only [↓wD,wU,Nat.reduceBEq,zx150,zx151,zx159,zx160,zx161,zx162,Nat.reduceAdd,Nat.reduceSub,Nat.reduceMul,Nat.reduceLeDiff,Nat.reduceLT,Nat.reduceEqDiff,Int.reduceAdd,Int.reduceSub,Int.reduceMul,Int.reduceNeg,Int.reduceLT,Int.reduceLE,Int.reduceEq,Int.reduceToNat,Int.cast_ofNat_Int,↓reduceIte, a6, a7, a8, a3]
      exact hu.rv fun b hb => .inr hb
  · simp (disch := (first | assumption | omega | (simp only [List.length_append, List.length_cons, List.length_nil]; omega))) only [↓wD,wU,Nat.reduceBEq,zx150,zx151,zx159,zx160,zx161,zx162,Nat.reduceAdd,Nat.reduceSub,Nat.reduceMul,Nat.reduceLeDiff,Nat.reduceLT,Nat.reduceEqDiff,Int.reduceAdd,Int.reduceSub,Int.reduceMul,Int.reduceNeg,Int.reduceLT,Int.reduceLE,Int.reduceEq,Int.reduceToNat,Int.cast_ofNat_Int,↓reduceIte]
    exact ⟨.nils, rfl, Gr.refl _, TB.nil⟩
/-- behind i rows -/
def renI (g : List Int → List Int) (t : List (List Int)) (i : Nat) : List (List Int) := (t.take i).map g ++ t.drop i
section
variable {g : List Int → List Int} {t : List (List Int)} {i : Nat}
theorem renI_0 : renI g t 0 = t := by simp [renI]
theorem renI_n : renI g t t.length = t.map g := by simp [renI]
theorem renI_len (h : i ≤ t.length) : (renI g t i).length = t.length := by simp [renI]; omega
theorem renI_gi (h : i < t.length) : gi (renI g t i) (i : Int) = gi t (i : Int) := by
  rw [gi_nat (by rw [renI_len (by omega)]; exact h), gi_nat h]
  unfold renI
  have e : ((t.take i).map g).length = i := by simp; omega
  rw [List.getElem_append_right (by omega)]
  simp only [e, Nat.sub_self, List.getElem_drop, Nat.add_zero]
theorem renI_s (h : i < t.length) : (renI g t i).set i (g (gi t (i : Int))) = renI g t (i + 1) := by
  unfold renI
  have e : ((t.take i).map g).length = i := by simp; omega
  rw [take_gi h, List.map_append, List.set_append_right _ _ (by omega), e, Nat.sub_self, List.append_assoc]
  congr 1
  rw [List.drop_eq_getElem_cons h]
  rfl
end
theorem rrename_ret {p q : Nat → Prop} {H : Heap} {r u : AV} {v : Int} {c : Nat} {t : List (List Int)} {to : List Int} (ht : Sl p H r t) (hto : Sl q H u to) (h : renP v t c to) : Ret E 42 [.ag [.i v, r], .i c, u] (fun _ => False) H ((v, t.map (renC c to)) : Int × List (List Int)) := by
  refine Ret.ro rfl fn42 rfl ?_
  unfold f42A
  obtain ⟨⟨hA, h2, h3⟩, h4, h5⟩ := h
  have rV := ht.cellsV
  have hl16 := hA.2.2.2.1
  have k1 := (ht.app [.cells [.i v, r]]).app [.cells [.i 0, .nils]]
  have hto1 : Sl (fun b => b < H.length) H u to := hto.low.weak fun _ h => h.2
  have hg0 : Gr H (H ++ [Blk.cells [.i v, r]] ++ [Blk.cells [.i 0, .nils]]) := ((Gr.refl H).app _).app _
  have c0 : (H ++ [Blk.cells [.i v, r]] ++ [Blk.cells [.i 0, .nils]])[H.length]? = some (Blk.cells [.i v, r]) := by simp [List.getElem?_append]
  have c1 : (H ++ [Blk.cells [.i v, r]] ++ [Blk.cells [.i 0, .nils]])[H.length + 1]? = some (Blk.cells [.i 0, .nils]) := by simp [List.getElem?_append]
  have b2 : (H ++ [Blk.cells [.i v, r]] ++ [Blk.cells [.i 0, .nils]]).length = H.length + 2 := by simp
  simp (disch := (first | assumption | omega | (simp only [List.length_append, List.length_cons, List.length_nil]; omega))) only [↓wD,wU,Nat.reduceBEq,zx150,zx151,zx159,zx160,zx161,zx162,Nat.reduceAdd,Nat.reduceSub,Nat.reduceMul,Nat.reduceLeDiff,Nat.reduceLT,Nat.reduceEqDiff,Int.reduceAdd,Int.reduceSub,Int.reduceMul,Int.reduceNeg,Int.reduceLT,Int.reduceLE,Int.reduceEq,Int.reduceToNat,Int.cast_ofNat_Int,↓reduceIte, rV]
  generalize H ++ [Blk.cells [.i v, r]] ++ [Blk.cells [.i 0, .nils]] = H2 at *
  refine (rcopied_ret k1 hA.ne (by have := hA.2.2.2.1; omega)).to fun w H3 hg3 hw => ?_
  have tb := (TB.of (L := H2.length) hw fun b hb => hb.elim (fun h => h.elim) id).tbm
  have g3 := hg3.1
  have wV := tb.sl.cellsV
  have c13 := hg3.get c1
  have s1 : st H.length (H3 ++ [Blk.cells [.i 0, .nils]]) H3.length 0 [.i v, w] = some (H3 ++ [Blk.cells [.i v, w]]) := by
    rw [st_of get_last (by omega) (by simp)]
    congr 1
    simp [wr]
  have c14 : (H3 ++ [Blk.cells [.i v, w]])[H.length + 1]? = some (Blk.cells [.i 0, .nils]) := (Kx.app (fun _ => True) H3 _).get trivial c13
  have c24 : (H3 ++ [Blk.cells [.i v, w]])[H3.length]? = some (Blk.cells [.i v, w]) := get_last
  have tb4 := tb.kp (Kp.app _ H3 [Blk.cells [.i v, w]])
  have b4 : (H3 ++ [Blk.cells [.i v, w]]).length = H3.length + 1 := by simp
  have hto4 : Sl (fun b => b < H.length) (H3 ++ [Blk.cells [.i v, w]]) u to := ((hto1.gr hg0).gr hg3).gr ((Gr.refl H3).app _)
  have wL := tb.sl.lenV
  simp (disch := (first | assumption | omega | (simp only [List.length_append, List.length_cons, List.length_nil]; omega))) only [↓wD,wU,Nat.reduceBEq,zx150,zx151,zx159,zx160,zx161,zx162,Nat.reduceAdd,Nat.reduceSub,Nat.reduceMul,Nat.reduceLeDiff,Nat.reduceLT,Nat.reduceEqDiff,Int.reduceAdd,Int.reduceSub,Int.reduceMul,Int.reduceNeg,Int.reduceLT,Int.reduceLE,Int.reduceEq,Int.reduceToNat,Int.cast_ofNat_Int,↓reduceIte, wV, s1, ld_of c24, wL]
  generalize H3 ++ [Blk.cells [.i v, w]] = H4 at *
  obtain ⟨n3, en3⟩ : ∃ n, H3.length = n := ⟨_, rfl⟩
  rw [en3] at c24 b4 g3 tb4
  refine Wp.for t.length (fun i a G => a 1 = .i c ∧ a 2 = u ∧ a 6 = .p (H.length + 1) 0 ∧ a 7 = .p n3 0 ∧ a 17 = w ∧ a 18 = .i t.length ∧ a 19 = .i i ∧ TBm H2.length n3 G w (renI (renC c to) t i) ∧ Kx (fun b => b < H2.length ∨ n3 ≤ b) H4 G ∧ G.length = H4.length) ?_ ?_
  · rintro i a G hi ⟨a1, a2, a6, a7, a17, a18, a19, mm, hk, hl⟩ ih
    simp (disch := (first | assumption | omega | (simp only [List.length_append, List.length_cons, List.length_nil]; omega))) only [↓wD,wU,Nat.reduceBEq,zx150,zx151,zx159,zx160,zx161,zx162,Nat.reduceAdd,Nat.reduceSub,Nat.reduceMul,Nat.reduceLeDiff,Nat.reduceLT,Nat.reduceEqDiff,Int.reduceAdd,Int.reduceSub,Int.reduceMul,Int.reduceNeg,Int.reduceLT,Int.reduceLE,Int.reduceEq,Int.reduceToNat,Int.cast_ofNat_Int,↓reduceIte, a1, a2, a6, a7, a17, a18, a19]
    refine condP_split (fun hlt => ?_) (fun hlt => ?_)
    · have hi' : i < t.length := by omega
      have ml := renI_len (g := renC c to) (t := t) (i := i) (by omega)
      have mg := renI_gi (g := renC c to) hi'
      have mL := mm.sl.L
      rw [ml] at mL
      have g := mm.sl.get (k := (i : Int)) (by omega) (by omega)
      rw [mg] at g
      have hx := hA.row (mem_gi hi')
      have gI := g.I
      rw [hx.1] at gI
      have hgx := hx.2 _ (gi_mem (xs := gi t (i : Int)) (k := (c : Int)) (by omega) (by omega))
      obtain ⟨z, ez⟩ := Int.eq_ofNat_of_zero_le hgx.1
      have tI := (hto4.mono (hk.weak (q := fun b => b < H.length) fun b _ hb => .inl (by omega)).kp fun _ h => h).I
      have es := renI_s (g := renC c to) hi'
      have er : renC c to (gi t (i : Int)) = (gi t (i : Int)).set c (gi to (z : Int)) := by unfold renC; rw [ez]
      have hz : (z : Int) < to.length := by omega
      simp (disch := (first | assumption | omega | (simp only [List.length_append, List.length_cons, List.length_nil]; omega))) only [↓wD,wU,Nat.reduceBEq,zx150,zx151,zx159,zx160,zx161,zx162,Nat.reduceAdd,Nat.reduceSub,Nat.reduceMul,Nat.reduceLeDiff,Nat.reduceLT,Nat.reduceEqDiff,Int.reduceAdd,Int.reduceSub,Int.reduceMul,Int.reduceNeg,Int.reduceLT,Int.reduceLE,Int.reduceEq,Int.reduceToNat,Int.cast_ofNat_Int,↓reduceIte, a1, a2, a6, a7, a17, a18, a19, mL, gI, ez, tI]
      refine mm.storeX (by omega) (by omega) (by rw [mg, hx.1]; omega) fun G2 mm2 hk2 hl2 => ?_
      rw [mg, ← er, es] at mm2
      simp (disch := (first | assumption | omega | (simp only [List.length_append, List.length_cons, List.length_nil]; omega))) only [↓wD,wU,Nat.reduceBEq,zx150,zx151,zx159,zx160,zx161,zx162,Nat.reduceAdd,Nat.reduceSub,Nat.reduceMul,Nat.reduceLeDiff,Nat.reduceLT,Nat.reduceEqDiff,Int.reduceAdd,Int.reduceSub,Int.reduceMul,Int.reduceNeg,Int.reduceLT,Int.reduceLE,Int.reduceEq,Int.reduceToNat,Int.cast_ofNat_Int,↓reduceIte, a1, a2, a6, a7, a17, a18, a19]
      refine (ih hi').go ?_
      simp (disch := (first | assumption | omega | (simp only [List.length_append, List.length_cons, List.length_nil]; omega))) only [↓wD,wU,Nat.reduceBEq,zx150,zx151,zx159,zx160,zx161,zx162,Nat.reduceAdd,Nat.reduceSub,Nat.reduceMul,Nat.reduceLeDiff,Nat.reduceLT,Nat.reduceEqDiff,Int.reduceAdd,Int.reduceSub,Int.reduceMul,Int.reduceNeg,Int.reduceLT,Int.reduceLE,Int.reduceEq,Int.reduceToNat,Int.cast_ofNat_Int,↓reduceIte, a1, a2, a6, a7, a17, a18, a19]
      exact ⟨mm2, hk.trans hk2 fun _ _ h => h, by omega⟩
    · obtain rfl : i = t.length := by omega
      rw [renI_n] at mm
      have mV := mm.sl.cellsV
      have q1 := hk.get (.inl (by omega)) c14
      have q2 := hk.get (.inr (by omega)) c24
      simp (disch := (first | assumption | omega | (simp only [List.length_append, List.length_cons, List.length_nil]; omega))) only [↓wD,wU,Nat.reduceBEq,zx150,zx151,zx159,zx160,zx161,zx162,Nat.reduceAdd,Nat.reduceSub,Nat.reduceMul,Nat.reduceLeDiff,Nat.reduceLT,Nat.reduceEqDiff,Int.reduceAdd,Int.reduceSub,Int.reduceMul,Int.reduceNeg,Int.reduceLT,Int.reduceLE,Int.reduceEq,Int.reduceToNat,Int.cast_ofNat_Int,↓reduceIte, a1, a2, a6, a7, a17, a18, a19, ldn_of q2, mV, st_of q1]
      simp (disch := (first | assumption | omega | (simp only [List.length_append, List.length_cons, List.length_nil]; omega))) only [↓wD,wU,Nat.reduceBEq,zx150,zx151,zx159,zx160,zx161,zx162,Nat.reduceAdd,Nat.reduceSub,Nat.reduceMul,Nat.reduceLeDiff,Nat.reduceLT,Nat.reduceEqDiff,Int.reduceAdd,Int.reduceSub,Int.reduceMul,Int.reduceNeg,Int.reduceLT,Int.reduceLE,Int.reduceEq,Int.reduceToNat,Int.cast_ofNat_Int,↓reduceIte, ldn_of (get_set q1)]
      exact rv_si (((mm.kp ((Kp.set _ _ _).weak fun b hb => by omega)).sl).weak fun b hb => .inr (by omega))
  · simp (disch := (first | assumption | omega | (simp only [List.length_append, List.length_cons, List.length_nil]; omega))) only [↓wD,wU,Nat.reduceBEq,zx150,zx151,zx159,zx160,zx161,zx162,Nat.reduceAdd,Nat.reduceSub,Nat.reduceMul,Nat.reduceLeDiff,Nat.reduceLT,Nat.reduceEqDiff,Int.reduceAdd,Int.reduceSub,Int.reduceMul,Int.reduceNeg,Int.reduceLT,Int.reduceLE,Int.reduceEq,Int.reduceToNat,Int.cast_ofNat_Int,↓reduceIte, en3]
    rw [renI_0]
    exact ⟨tb4, Kx.refl _ _⟩
end Go.Proofs.Ytalaadcbpjnglaa
namespace Go.Proofs.Ytalaadcbpjnglaa
open Go Go.AM Go.Proofs
theorem rboth_ret {p q : Nat → Prop} {H : Heap} {r r' : AV} {v v' : Int} {t t' : List (List Int)} (ht : Sl p H r t) (ht' : Sl q H r' t') (h1 : ArrP v t) (h2 : ArrP v' t') : Ret E 37 [.ag [.i v, r], .ag [.i v', r']] (fun _ => False) H (if t.length + t'.length ≤ 16 then T2.mk ((v, t ++ t') : Int × List (List Int)) (0 : Int) else T2.mk ((0, []) : Int × List (List Int)) (6 : Int)) := by
  refine Ret.ro rfl fn37 rfl ?_
  unfold f37A
  have l1 := h1.2.2.2.1
  have l2 := h2.2.2.2.1
  have rV := ht.cellsV
  have rV' := ht'.cellsV
  have rL := ht.lenV
  have rL' := ht'.lenV
  have k1 := ((ht.app [.cells [.i v, r]]).app [.cells [.i v', r']]).app [.cells [.i 0, .nils]]
  have k2 := ((ht'.app [.cells [.i v, r]]).app [.cells [.i v', r']]).app [.cells [.i 0, .nils]]
  have c0 : (H ++ [Blk.cells [.i v, r]] ++ [Blk.cells [.i v', r']] ++ [Blk.cells [.i 0, .nils]])[H.length]? = some (Blk.cells [.i v, r]) := by simp [List.getElem?_append]
  have c1 : (H ++ [Blk.cells [.i v, r]] ++ [Blk.cells [.i v', r']] ++ [Blk.cells [.i 0, .nils]])[H.length + 1]? = some (Blk.cells [.i v', r']) := by simp [List.getElem?_append]
  have c2 : (H ++ [Blk.cells [.i v, r]] ++ [Blk.cells [.i v', r']] ++ [Blk.cells [.i 0, .nils]])[H.length + 2]? = some (Blk.cells [.i 0, .nils]) := by simp [List.getElem?_append]
  have b3 : (H ++ [Blk.cells [.i v, r]] ++ [Blk.cells [.i v', r']] ++ [Blk.cells [.i 0, .nils]]).length = H.length + 3 := by simp
  have e2 : H.length + 1 + 1 = H.length + 2 := by omega
  by_cases h16 : t.length + t'.length ≤ 16
  · rw [if_pos h16]
    have d1 : decide (16 < (t.length : Int) + (t'.length : Int)) = false := decide_eq_false (by omega)
    simp (disch := (first | assumption | omega | (simp only [List.length_append, List.length_cons, List.length_nil]; omega))) only [↓wD,wU,Nat.reduceBEq,zx150,zx151,zx159,zx160,zx161,zx162,Nat.reduceAdd,Nat.reduceSub,Nat.reduceMul,Nat.reduceLeDiff,Nat.reduceLT,Nat.reduceEqDiff,Int.reduceAdd,Int.reduceSub,Int.reduceMul,Int.reduceNeg,Int.reduceLT,Int.reduceLE,Int.reduceEq,Int.reduceToNat,Int.cast_ofNat_Int,↓reduceIte, rV, rV', rL, rL', d1]
    refine lpI (wpC ?_)
    generalize H ++ [Blk.cells [.i v, r]] ++ [Blk.cells [.i v', r']] ++ [Blk.cells [.i 0, .nils]] = H3 at *
    simp (disch := (first | assumption | omega | (simp only [List.length_append, List.length_cons, List.length_nil]; omega))) only [↓wD,wU,Nat.reduceBEq,zx150,zx151,zx159,zx160,zx161,zx162,Nat.reduceAdd,Nat.reduceSub,Nat.reduceMul,Nat.reduceLeDiff,Nat.reduceLT,Nat.reduceEqDiff,Int.reduceAdd,Int.reduceSub,Int.reduceMul,Int.reduceNeg,Int.reduceLT,Int.reduceLE,Int.reduceEq,Int.reduceToNat,Int.cast_ofNat_Int,↓reduceIte, ld_of c0]
    refine (rcopied_ret k1 h1.ne (by omega)).toX fun w G1 x1 hw => ?_
    have tb1 := TB.of (L := H3.length) hw fun b hb => hb.elim (fun h => h.elim) id
    have g1 := x1.1
    have c01 := x1.get trivial c0
    have c11 := x1.get trivial c1
    have c21 := x1.get trivial c2
    have k2' := k2.kp (x1.all _).kp
    simp (disch := (first | assumption | omega | (simp only [List.length_append, List.length_cons, List.length_nil]; omega))) only [↓wD,wU,Nat.reduceBEq,zx150,zx151,zx159,zx160,zx161,zx162,Nat.reduceAdd,Nat.reduceSub,Nat.reduceMul,Nat.reduceLeDiff,Nat.reduceLT,Nat.reduceEqDiff,Int.reduceAdd,Int.reduceSub,Int.reduceMul,Int.reduceNeg,Int.reduceLT,Int.reduceLE,Int.reduceEq,Int.reduceToNat,Int.cast_ofNat_Int,↓reduceIte, ld_of c11]
    refine (rcopied_ret k2' h2.ne (by omega)).toX fun w' G2 x2 hw' => ?_
    have tb2 := TB.of (L := G1.length) hw' fun b hb => hb.elim (fun h => h.elim) id
    have g2 := x2.1
    have a1 := tb1.accL
    have a1' := a1.gr (x2.all _).kp
    have b1 := fun b e => a1.blk_lt (b := b) e
    have c02 := x2.get trivial c01
    have c22 := x2.get trivial c21
    simp (disch := (first | assumption | omega | (simp only [List.length_append, List.length_cons, List.length_nil]; omega))) only [↓wD,wU,Nat.reduceBEq,zx150,zx151,zx159,zx160,zx161,zx162,Nat.reduceAdd,Nat.reduceSub,Nat.reduceMul,Nat.reduceLeDiff,Nat.reduceLT,Nat.reduceEqDiff,Int.reduceAdd,Int.reduceSub,Int.reduceMul,Int.reduceNeg,Int.reduceLT,Int.reduceLE,Int.reduceEq,Int.reduceToNat,Int.cast_ofNat_Int,↓reduceIte]
    refine appX (a1'.extend (q := fun b => G1.length ≤ b) (bytes := 24) (by omega) (by omega) tb2.sl (fun b hb => ⟨by omega, fun e => by have := (b1 b e).2; omega⟩) (by omega) (by omega) fun z G3 A k3 x3 => ?_)
    have zV := A.cellsV
    have c03 := x3.get (fun e => by have := (b1 _ e).1; omega) c02
    have c23 := x3.get (fun e => by have := (b1 _ e).1; omega) c22
    simp (disch := (first | assumption | omega | (simp only [List.length_append, List.length_cons, List.length_nil]; omega))) only [↓wD,wU,Nat.reduceBEq,zx150,zx151,zx159,zx160,zx161,zx162,Nat.reduceAdd,Nat.reduceSub,Nat.reduceMul,Nat.reduceLeDiff,Nat.reduceLT,Nat.reduceEqDiff,Int.reduceAdd,Int.reduceSub,Int.reduceMul,Int.reduceNeg,Int.reduceLT,Int.reduceLE,Int.reduceEq,Int.reduceToNat,Int.cast_ofNat_Int,↓reduceIte, zV, e2, st_of c23]
    refine chkI ?_ ?_
    · simp [chk1, ev, Fr.upd, ld_of c02, ld_of c03, sameO, AV.same_refl]
    · simp (disch := (first | assumption | omega | (simp only [List.length_append, List.length_cons, List.length_nil]; omega))) only [↓wD,wU,Nat.reduceBEq,zx150,zx151,zx159,zx160,zx161,zx162,Nat.reduceAdd,Nat.reduceSub,Nat.reduceMul,Nat.reduceLeDiff,Nat.reduceLT,Nat.reduceEqDiff,Int.reduceAdd,Int.reduceSub,Int.reduceMul,Int.reduceNeg,Int.reduceLT,Int.reduceLE,Int.reduceEq,Int.reduceToNat,Int.cast_ofNat_Int,↓reduceIte, ldn_of (get_set c23), e2]
      exact rv_2 (rv_si ((A.mono ((Kp.set _ _ _).weak fun b hb => by omega) fun _ h => h).sl.weak fun b h => .inr (by omega))) rv_i
  · rw [if_neg h16]
    have d1 : decide (16 < (t.length : Int) + (t'.length : Int)) = true := decide_eq_true (by omega)
    simp (disch := (first | assumption | omega | (simp only [List.length_append, List.length_cons, List.length_nil]; omega))) only [↓wD,wU,Nat.reduceBEq,zx150,zx151,zx159,zx160,zx161,zx162,Nat.reduceAdd,Nat.reduceSub,Nat.reduceMul,Nat.reduceLeDiff,Nat.reduceLT,Nat.reduceEqDiff,Int.reduceAdd,Int.reduceSub,Int.reduceMul,Int.reduceNeg,Int.reduceLT,Int.reduceLE,Int.reduceEq,Int.reduceToNat,Int.cast_ofNat_Int,↓reduceIte, rV, rV', rL, rL', d1]
    exact rv_2 (rv_si Sl.nil) rv_i
end Go.Proofs.Ytalaadcbpjnglaa
namespace Go.Proofs.Ytalaadcbpjnglaa
open Go Go.AM Go.Proofs
abbrev AI2 := Int × List (List Int)
def bothX (v v' : Int) (t t' : List (List Int)) : AI2 := if alikeP v v' t t' then (if t.length + t'.length ≤ 16 then (v, t ++ t') else (0, [])) else (0, [])
def bothE (v v' : Int) (t t' : List (List Int)) : Int := if alikeP v v' t t' then (if t.length + t'.length ≤ 16 then 0 else 6) else 2
def dropX (v : Int) (t : List (List Int)) (c : Int) : AI2 := if colP v t c then (if wd t = 1 then (0, []) else (v, t.map (cutC c.toNat))) else (0, [])
def dropE (v : Int) (t : List (List Int)) (c : Int) : Int := if colP v t c then (if wd t = 1 then 4 else 0) else 2
def renX (v : Int) (t : List (List Int)) (c : Int) (to : List Int) : AI2 := if renP v t c to then (v, t.map (renC c.toNat to)) else (0, [])
def renE (v : Int) (t : List (List Int)) (c : Int) (to : List Int) : Int := if renP v t c to then 0 else 2
theorem alike_cut {v v' : Int} {t t' : List (List Int)} : alikeP v v' (cutA t) (cutA t') ↔ alikeP v v' t t' := by
  constructor
  · rintro ⟨h1, h2, h3, h4⟩
    have q1 := ArrP_cut.1 h1
    have q2 := ArrP_cut.1 h2
    rw [cutA_ok q1, cutA_ok q2] at h4
    exact ⟨q1, q2, h3, h4⟩
  · rintro ⟨h1, h2, h3, h4⟩
    rw [← cutA_ok h1, ← cutA_ok h2] at h4
    exact ⟨ArrP_cut.2 h1, ArrP_cut.2 h2, h3, h4⟩
theorem both_any {p q : Nat → Prop} {H : Heap} {u u' : AV} {v v' : Int} {t t' : List (List Int)} (h : Sl p H u (cutA t)) (h' : Sl q H u' (cutA t')) : Ret E 31 [.ag [.i v, u], .ag [.i v', u']] (fun _ => False) H (T2.mk (bothX v v' t t') (bothE v v' t t')) := by
  unfold bothX bothE
  by_cases ha : alikeP v v' t t'
  · rw [if_pos ha, if_pos ha]
    obtain ⟨h1, h2, rfl, h4⟩ := id ha
    rw [cutA_ok h1] at h
    rw [cutA_ok h2] at h'
    have := both_ret (p' := fun _ => False) h h' ha
    by_cases h16 : t.length + t'.length ≤ 16
    · rw [if_pos h16] at this ⊢
      rw [if_pos h16]; exact this
    · rw [if_neg h16] at this ⊢
      rw [if_neg h16]; exact this
  · rw [if_neg ha, if_neg ha]
    exact both_err h h' fun q => ha (alike_cut.1 q)
theorem colP_cut {v c : Int} {t : List (List Int)} : colP v (cutA t) c ↔ colP v t c := by
  constructor
  · rintro ⟨h1, h2⟩
    have q1 := ArrP_cut.1 h1
    rw [cutA_ok q1] at h2
    exact ⟨q1, h2⟩
  · rintro ⟨h1, h2⟩
    rw [← cutA_ok h1] at h2
    exact ⟨ArrP_cut.2 h1, h2⟩
theorem drop_any {p : Nat → Prop} {H : Heap} {u : AV} {v c : Int} {t : List (List Int)} (h : Sl p H u (cutA t)) : Ret E 33 [.ag [.i v, u], .i c] (fun _ => False) H (T2.mk (dropX v t c) (dropE v t c)) := by
  unfold dropX dropE
  by_cases hc : colP v t c
  · rw [if_pos hc, if_pos hc]
    rw [cutA_ok hc.1] at h
    by_cases h1 : wd t = 1
    · rw [if_pos h1, if_pos h1]
      exact drop_one h hc h1
    · rw [if_neg h1, if_neg h1]
      obtain ⟨hA, h2, h3⟩ := hc
      obtain ⟨C, rfl⟩ := Int.eq_ofNat_of_zero_le h2
      have := hA.wd
      exact drop_ret h hA (by omega) (by omega)
  · rw [if_neg hc, if_neg hc]
    exact drop_err h fun q => hc (colP_cut.1 q)
theorem namesC_cut {V : Nat} {to : List Int} (h : V ≤ 4) : namesC V (to.take 11) ↔ namesC V to := by
  by_cases hl : to.length ≤ 11
  · rw [List.take_of_length_le hl]
  · constructor
    · intro q; have := q.1; rw [List.length_take] at this; omega
    · intro q; have := q.1; omega
theorem rename_any {p q : Nat → Prop} {H : Heap} {u u' : AV} {v c : Int} {t : List (List Int)} {to : List Int} (h : Sl p H u (cutA t)) (h' : Sl q H u' (to.take 11)) : Ret E 34 [.ag [.i v, u], .i c, u'] (fun _ => False) H (T2.mk (renX v t c to) (renE v t c to)) := by
  unfold renX renE
  by_cases hc : renP v t c to
  · rw [if_pos hc, if_pos hc]
    obtain ⟨⟨hA, h2, h3⟩, hn⟩ := id hc
    have hl : to.length ≤ 11 := by have := hn.1; have := hA.2.1; omega
    rw [cutA_ok hA] at h
    rw [List.take_of_length_le hl] at h'
    obtain ⟨C, rfl⟩ := Int.eq_ofNat_of_zero_le h2
    exact rename_ret h h' hc
  · rw [if_neg hc, if_neg hc]
    refine rename_err h h' fun ⟨q1, q2⟩ => hc ⟨colP_cut.1 q1, ?_⟩
    exact (namesC_cut (by have := q1.1.2.1; omega)).1 q2
end Go.Proofs.Ytalaadcbpjnglaa
namespace Go.AM
open Go
/-- code that simp does not look into -/
def Hide (c : ACode) : ACode := c
/-- behind n statements -/
def tl : Nat → ACode → ACode
  | 0, c => c
  | n + 1, .seq _ y => tl n y
  | _ + 1, c => c
/-- the same code, put away from behind n statements on -/
def ins : Nat → ACode → ACode
  | 0, c => Hide c
  | n + 1, .seq x y => .seq x (ins n y)
  | _ + 1, c => c
theorem ins_eq : ∀ (n : Nat) (c : ACode), ins n c = c
  | 0, _ => rfl
  | n + 1, c => by
    cases c with
    | seq x y => simp only [ins, ins_eq n y]
    | _ => rfl
end Go.AM
namespace Go.Proofs.Ytalaadcbpjnglaa
open Go Go.AM Go.Proofs
theorem nothing_ret {p : Nat → Prop} {H : Heap} {rows : AV} {v : Int} {xs : List (List Int)} (hr : Sl p H rows xs) : RetP E 23 [.ag [.i v, rows]] H (.b (decide (v = 0 ∧ xs = []))) := by
  refine RetP.ro rfl fn23 rfl rfl ?_
  unfold f23A
  repeat' (first | refine condP_split (fun _ => ?_) (fun _ => ?_) | refine guardP_split (fun _ => ?_) (fun _ => ?_) | refine guardP_splitF (fun _ => ?_) (fun _ => ?_) | (simp (disch := (first | assumption | omega | (simp only [List.length_append, List.length_cons, List.length_nil]; omega))) only [↓wD,wU,Nat.reduceBEq,zx150,zx151,zx159,zx160,zx161,zx162,Nat.reduceAdd,Nat.reduceSub,Nat.reduceMul,Nat.reduceLeDiff,Nat.reduceLT,Nat.reduceEqDiff,Int.reduceAdd,Int.reduceSub,Int.reduceMul,Int.reduceNeg,Int.reduceLT,Int.reduceLE,Int.reduceEq,Int.reduceToNat,Int.cast_ofNat_Int,↓reduceIte, *, hr.L]))
  · cases xs with
    | nil => simp_all
    | cons x r => simp_all; omega
  · simp
end Go.Proofs.Ytalaadcbpjnglaa
namespace Go.Proofs.Ytalaadcbpjnglaa
open Go Go.AM Go.Proofs
theorem own_ret {p : Nat → Prop} {H : Heap} {rows : AV} {v : Int} {xs : List (List Int)} (hr : Sl p H rows xs) : Ret E 21 [.ag [.i v, rows]] p H ((v, xs) : Int × List (List Int)) := by
  refine Ret.ro rfl fn21 rfl ?_
  unfold f21A
  repeat' (first | refine condP_split (fun _ => ?_) (fun _ => ?_) | refine guardP_split (fun _ => ?_) (fun _ => ?_) | refine guardP_splitF (fun _ => ?_) (fun _ => ?_) | (simp (disch := (first | assumption | omega | (simp only [List.length_append, List.length_cons, List.length_nil]; omega))) only [↓wD,wU,Nat.reduceBEq,zx150,zx151,zx159,zx160,zx161,zx162,Nat.reduceAdd,Nat.reduceSub,Nat.reduceMul,Nat.reduceLeDiff,Nat.reduceLT,Nat.reduceEqDiff,Int.reduceAdd,Int.reduceSub,Int.reduceMul,Int.reduceNeg,Int.reduceLT,Int.reduceLE,Int.reduceEq,Int.reduceToNat,Int.cast_ofNat_Int,↓reduceIte, *, hr.L]))
  exact rv_si (((hr.app _).app _).weak fun _ h => .inl h)
theorem same_ret {p q : Nat → Prop} {H : Heap} {r1 r2 : AV} {v1 v2 : Int} {xs ys : List (List Int)} (h1 : Sl p H r1 xs) (h2 : Sl q H r2 ys) :
    RetP E 20 [.ag [.i v1, r1], .ag [.i v2, r2]] H (.b (decide (v1 = v2 ∧ xs = ys))) := by
  refine RetP.ro rfl fn20 rfl rfl ?_
  unfold f20A
  have hb1 := h1.bound
  have hb2 := h2.bound
  repeat' (first | refine condP_split (fun _ => ?_) (fun _ => ?_) | refine guardP_split (fun _ => ?_) (fun _ => ?_) | refine guardP_splitF (fun _ => ?_) (fun _ => ?_) | (simp (disch := (first | assumption | omega | (simp only [List.length_append, List.length_cons, List.length_nil]; omega))) only [↓wD,wU,Nat.reduceBEq,zx150,zx151,zx159,zx160,zx161,zx162,Nat.reduceAdd,Nat.reduceSub,Nat.reduceMul,Nat.reduceLeDiff,Nat.reduceLT,Nat.reduceEqDiff,Int.reduceAdd,Int.reduceSub,Int.reduceMul,Int.reduceNeg,Int.reduceLT,Int.reduceLE,Int.reduceEq,Int.reduceToNat,Int.cast_ofNat_Int,↓reduceIte, *, h1.L, h2.L]))
  · rename_i hl
    exact avb_f fun h => hl (by simp_all)
  · rename_i hv hl
    have hl : xs.length = ys.length := by omega
    obtain rfl : v1 = v2 := by omega
    clear hv
    have k1 := (h1.app [.cells [.i v1, r1]]).app [.cells [.i v1, r2]]
    have k2 := (h2.app [.cells [.i v1, r1]]).app [.cells [.i v1, r2]]
    refine Wp.for xs.length (fun i a H' => H' = H ++ [.cells [.i v1, r1]] ++ [.cells [.i v1, r2]] ∧ a 3 = .p (H.length + 1) 0 ∧ a 24 = r1 ∧ a 25 = .i xs.length ∧ a 26 = .i i ∧ xs.take i = ys.take i) ?_ ?_
    · rintro i a H' hi ⟨rfl, h3, h24, h25, h26, hh⟩ ih
      simp (disch := (first | assumption | omega | (simp only [List.length_append, List.length_cons, List.length_nil]; omega))) only [↓wD,wU,Nat.reduceBEq,zx150,zx151,zx159,zx160,zx161,zx162,Nat.reduceAdd,Nat.reduceSub,Nat.reduceMul,Nat.reduceLeDiff,Nat.reduceLT,Nat.reduceEqDiff,Int.reduceAdd,Int.reduceSub,Int.reduceMul,Int.reduceNeg,Int.reduceLT,Int.reduceLE,Int.reduceEq,Int.reduceToNat,Int.cast_ofNat_Int,↓reduceIte, *]
      refine condP_split (fun hlt => ?_) (fun hlt => ?_)
      · have hi1 : i < xs.length := by omega
        have g1 := k1.get (k := (i : Int)) (by omega) (by omega)
        have g2 := k2.get (k := (i : Int)) (by omega) (by omega)
        have gb1 := g1.bound
        repeat' (first | refine condP_split (fun _ => ?_) (fun _ => ?_) | refine guardP_split (fun _ => ?_) (fun _ => ?_) | refine guardP_splitF (fun _ => ?_) (fun _ => ?_) | (simp (disch := (first | assumption | omega | (simp only [List.length_append, List.length_cons, List.length_nil]; omega))) only [↓wD,wU,Nat.reduceBEq,zx150,zx151,zx159,zx160,zx161,zx162,Nat.reduceAdd,Nat.reduceSub,Nat.reduceMul,Nat.reduceLeDiff,Nat.reduceLT,Nat.reduceEqDiff,Int.reduceAdd,Int.reduceSub,Int.reduceMul,Int.reduceNeg,Int.reduceLT,Int.reduceLE,Int.reduceEq,Int.reduceToNat,Int.cast_ofNat_Int,↓reduceIte, *, k1.L, k2.L, g1.I, g2.I]))
        · rename_i hne
          exact avb_f fun h => hne (by simp_all)
        · rename_i hll
          have hll : (gi xs i).length = (gi ys i).length := by omega
          refine Wp.for (gi xs i).length (fun j a H' => H' = H ++ [.cells [.i v1, r1]] ++ [.cells [.i v1, r2]] ∧ a 3 = .p (H.length + 1) 0 ∧ a 24 = r1 ∧ a 25 = .i xs.length ∧ a 26 = .i i ∧ a 5 = .i i ∧ a 40 = r1.get (H ++ [.cells [.i v1, r1]] ++ [.cells [.i v1, r2]]) i ∧ a 41 = .i (gi xs i).length ∧ a 42 = .i j ∧ (gi xs i).take j = (gi ys i).take j) ?_ ?_
          · rintro j a H' hj ⟨rfl, h3, h24, h25, h26, h5, h40, h41, h42, hh2⟩ ih2
            simp (disch := (first | assumption | omega | (simp only [List.length_append, List.length_cons, List.length_nil]; omega))) only [↓wD,wU,Nat.reduceBEq,zx150,zx151,zx159,zx160,zx161,zx162,Nat.reduceAdd,Nat.reduceSub,Nat.reduceMul,Nat.reduceLeDiff,Nat.reduceLT,Nat.reduceEqDiff,Int.reduceAdd,Int.reduceSub,Int.reduceMul,Int.reduceNeg,Int.reduceLT,Int.reduceLE,Int.reduceEq,Int.reduceToNat,Int.cast_ofNat_Int,↓reduceIte, *]
            refine condP_split (fun hlt2 => ?_) (fun hlt2 => ?_)
            · have hj1 : j < (gi xs i).length := by omega
              repeat' (first | refine condP_split (fun _ => ?_) (fun _ => ?_) | refine guardP_split (fun _ => ?_) (fun _ => ?_) | refine guardP_splitF (fun _ => ?_) (fun _ => ?_) | (simp (disch := (first | assumption | omega | (simp only [List.length_append, List.length_cons, List.length_nil]; omega))) only [↓wD,wU,Nat.reduceBEq,zx150,zx151,zx159,zx160,zx161,zx162,Nat.reduceAdd,Nat.reduceSub,Nat.reduceMul,Nat.reduceLeDiff,Nat.reduceLT,Nat.reduceEqDiff,Int.reduceAdd,Int.reduceSub,Int.reduceMul,Int.reduceNeg,Int.reduceLT,Int.reduceLE,Int.reduceEq,Int.reduceToNat,Int.cast_ofNat_Int,↓reduceIte, *, k1.L, k2.L, g1.I, g2.I]))
              · rename_i hne
                exact avb_f fun h => hne (by simp_all)
              · rename_i hee
                refine (ih2 hj1).go ⟨rfl, ?_⟩
                simp (disch := (first | assumption | omega | (simp only [List.length_append, List.length_cons, List.length_nil]; omega))) only [↓wD,wU,Nat.reduceBEq,zx150,zx151,zx159,zx160,zx161,zx162,Nat.reduceAdd,Nat.reduceSub,Nat.reduceMul,Nat.reduceLeDiff,Nat.reduceLT,Nat.reduceEqDiff,Int.reduceAdd,Int.reduceSub,Int.reduceMul,Int.reduceNeg,Int.reduceLT,Int.reduceLE,Int.reduceEq,Int.reduceToNat,Int.cast_ofNat_Int,↓reduceIte, *]
                exact take_eq_succ hh2 hj1 (by omega) (by omega)
            · simp (disch := (first | assumption | omega | (simp only [List.length_append, List.length_cons, List.length_nil]; omega))) only [↓wD,wU,Nat.reduceBEq,zx150,zx151,zx159,zx160,zx161,zx162,Nat.reduceAdd,Nat.reduceSub,Nat.reduceMul,Nat.reduceLeDiff,Nat.reduceLT,Nat.reduceEqDiff,Int.reduceAdd,Int.reduceSub,Int.reduceMul,Int.reduceNeg,Int.reduceLT,Int.reduceLE,Int.reduceEq,Int.reduceToNat,Int.cast_ofNat_Int,↓reduceIte, *]
              refine (ih hi1).go ⟨rfl, ?_⟩
              simp (disch := (first | assumption | omega | (simp only [List.length_append, List.length_cons, List.length_nil]; omega))) only [↓wD,wU,Nat.reduceBEq,zx150,zx151,zx159,zx160,zx161,zx162,Nat.reduceAdd,Nat.reduceSub,Nat.reduceMul,Nat.reduceLeDiff,Nat.reduceLT,Nat.reduceEqDiff,Int.reduceAdd,Int.reduceSub,Int.reduceMul,Int.reduceNeg,Int.reduceLT,Int.reduceLE,Int.reduceEq,Int.reduceToNat,Int.cast_ofNat_Int,↓reduceIte, *]
              exact take_eq_succ hh hi1 (by omega) (take_all hh2 hll (by omega))
          · (simp (disch := (first | assumption | omega | (simp only [List.length_append, List.length_cons, List.length_nil]; omega))) only [↓wD,wU,Nat.reduceBEq,zx150,zx151,zx159,zx160,zx161,zx162,Nat.reduceAdd,Nat.reduceSub,Nat.reduceMul,Nat.reduceLeDiff,Nat.reduceLT,Nat.reduceEqDiff,Int.reduceAdd,Int.reduceSub,Int.reduceMul,Int.reduceNeg,Int.reduceLT,Int.reduceLE,Int.reduceEq,Int.reduceToNat,Int.cast_ofNat_Int,↓reduceIte, *]) <;> simp
      · simp (disch := (first | assumption | omega | (simp only [List.length_append, List.length_cons, List.length_nil]; omega))) only [↓wD,wU,Nat.reduceBEq,zx150,zx151,zx159,zx160,zx161,zx162,Nat.reduceAdd,Nat.reduceSub,Nat.reduceMul,Nat.reduceLeDiff,Nat.reduceLT,Nat.reduceEqDiff,Int.reduceAdd,Int.reduceSub,Int.reduceMul,Int.reduceNeg,Int.reduceLT,Int.reduceLE,Int.reduceEq,Int.reduceToNat,Int.cast_ofNat_Int,↓reduceIte, *]
        exact avb_t (take_all hh hl (by omega))
    · (simp (disch := (first | assumption | omega | (simp only [List.length_append, List.length_cons, List.length_nil]; omega))) only [↓wD,wU,Nat.reduceBEq,zx150,zx151,zx159,zx160,zx161,zx162,Nat.reduceAdd,Nat.reduceSub,Nat.reduceMul,Nat.reduceLeDiff,Nat.reduceLT,Nat.reduceEqDiff,Int.reduceAdd,Int.reduceSub,Int.reduceMul,Int.reduceNeg,Int.reduceLT,Int.reduceLE,Int.reduceEq,Int.reduceToNat,Int.cast_ofNat_Int,↓reduceIte, *]) <;> simp
  · rename_i hv
    exact avb_f fun h => h.1
end Go.Proofs.Ytalaadcbpjnglaa
namespace Go.Proofs.Ytalaadcbpjnglaa
open Go Go.AM Go.Proofs
/-- what stands in memory -/
structure Ch (H G : Heap) (v v' : Int) (r r' u xr yr zr : AV) (t t' : List (List Int)) (to : List Int) (X Y Z : AI2) (b9 b11 b13 : Nat) : Prop where
  ca : G[H.length]? = some (.cells [.i v, r])
  cb : G[H.length + 1]? = some (.cells [.i v', r'])
  cx : G[b9]? = some (.cells [.i X.1, xr])
  cy : G[b11]? = some (.cells [.i Y.1, yr])
  cz : G[b13]? = some (.cells [.i Z.1, zr])
  sa : Sl (fun _ => True) G r t
  sb : Sl (fun _ => True) G r' t'
  su : Sl (fun _ => True) G u to
  sx : Sl (fun _ => True) G xr X.2
  sy : Sl (fun _ => True) G yr Y.2
  sz : Sl (fun _ => True) G zr Z.2
  hl : H.length + 2 ≤ G.length
section
variable {H G : Heap} {v v' c : Int} {r r' u xr yr zr : AV} {t t' : List (List Int)} {to : List Int} {X Y Z : AI2} {b9 b11 b13 : Nat} {a : Fr}
theorem Ch.kx {G' : Heap} (h : Ch H G v v' r r' u xr yr zr t t' to X Y Z b9 b11 b13) (x : Kx (fun _ => True) G G') : Ch H G' v v' r r' u xr yr zr t t' to X Y Z b9 b11 b13 :=
  ⟨x.get trivial h.ca, x.get trivial h.cb, x.get trivial h.cx, x.get trivial h.cy, x.get trivial h.cz, h.sa.kp x.kp, h.sb.kp x.kp, h.su.kp x.kp, h.sx.kp x.kp, h.sy.kp x.kp, h.sz.kp x.kp, Nat.le_trans h.hl x.1⟩
theorem chg_d (h : Ch H G v v' r r' u xr yr zr t t' to X Y (renX v t c to) b9 b11 b13) (hc : colP v t c) (a2 : a 2 = .i c) (a3 : a 3 = u) (a4 : a 4 = .p H.length 0) (a13 : a 13 = .p b13 0) (a14 : a 14 = .i (renE v t c to)) :
    Wp E H.length none [.code (Hide (tl 7 f5A.body))] a G (RetQ [.t 8] fun v _ => v = .b true) := by
  unfold f5A
  simp only [tl, Hide]
  obtain ⟨hA, h2, h3⟩ := id hc
  have hv2 := hA.1
  have hv4 := hA.2.1
  obtain ⟨V, rfl⟩ := Int.eq_ofNat_of_zero_le (show 0 ≤ v by omega)
  obtain ⟨C, rfl⟩ := Int.eq_ofNat_of_zero_le h2
  have rn := rnames_ret (V := V) h.su (by omega) (by omega)
  have hz := h.sz
  have cz := h.cz
  by_cases hn : namesC V to
  · have hp : renP (V : Int) t (C : Int) to := ⟨hc, by simpa using hn⟩
    rw [decide_eq_true hn] at rn
    unfold renX at cz hz
    unfold renE at a14
    rw [if_pos hp] at cz hz a14
    simp only [Int.toNat_natCast] at cz hz
    simp (disch := (first | assumption | omega | (simp only [List.length_append, List.length_cons, List.length_nil]; omega))) only [↓wD,wU,Nat.reduceBEq,zx150,zx151,zx159,zx160,zx161,zx162,Nat.reduceAdd,Nat.reduceSub,Nat.reduceMul,Nat.reduceLeDiff,Nat.reduceLT,Nat.reduceEqDiff,Int.reduceAdd,Int.reduceSub,Int.reduceMul,Int.reduceNeg,Int.reduceLT,Int.reduceLE,Int.reduceEq,Int.reduceToNat,Int.cast_ofNat_Int,↓reduceIte, a2, a3, a4, a13, a14, ld_of h.ca, rn.call, ldn_of cz]
    refine (own_ret hz).toX fun w G1 x1 hw => ?_
    obtain ⟨z1, rfl, hz1⟩ := rv_si_elim hw
    have h1 := h.kx x1
    simp (disch := (first | assumption | omega | (simp only [List.length_append, List.length_cons, List.length_nil]; omega))) only [↓wD,wU,Nat.reduceBEq,zx150,zx151,zx159,zx160,zx161,zx162,Nat.reduceAdd,Nat.reduceSub,Nat.reduceMul,Nat.reduceLeDiff,Nat.reduceLT,Nat.reduceEqDiff,Int.reduceAdd,Int.reduceSub,Int.reduceMul,Int.reduceNeg,Int.reduceLT,Int.reduceLE,Int.reduceEq,Int.reduceToNat,Int.cast_ofNat_Int,↓reduceIte, a2, a3, a4, a13, a14, ldn_of h1.ca]
    refine (rrename_ret h1.sa h1.su hp).toX fun w G2 x2 hw => ?_
    obtain ⟨z2, rfl, hz2⟩ := rv_si_elim hw
    have sm := same_ret (v1 := (V : Int)) (v2 := (V : Int)) (hz1.kp (x2.all _).kp) hz2
    rw [decide_eq_true ⟨rfl, rfl⟩] at sm
    simp (disch := (first | assumption | omega | (simp only [List.length_append, List.length_cons, List.length_nil]; omega))) only [↓wD,wU,Nat.reduceBEq,zx150,zx151,zx159,zx160,zx161,zx162,Nat.reduceAdd,Nat.reduceSub,Nat.reduceMul,Nat.reduceLeDiff,Nat.reduceLT,Nat.reduceEqDiff,Int.reduceAdd,Int.reduceSub,Int.reduceMul,Int.reduceNeg,Int.reduceLT,Int.reduceLE,Int.reduceEq,Int.reduceToNat,Int.cast_ofNat_Int,↓reduceIte, a14, sm.call, awake_ret.call]
  · have hp : ¬ renP (V : Int) t (C : Int) to := fun q => hn (by simpa using q.2)
    rw [decide_eq_false hn] at rn
    unfold renX at cz hz
    unfold renE at a14
    rw [if_neg hp] at cz hz a14
    have nt := nothing_ret (v := 0) hz
    rw [decide_eq_true ⟨rfl, rfl⟩] at nt
    simp (disch := (first | assumption | omega | (simp only [List.length_append, List.length_cons, List.length_nil]; omega))) only [↓wD,wU,Nat.reduceBEq,zx150,zx151,zx159,zx160,zx161,zx162,Nat.reduceAdd,Nat.reduceSub,Nat.reduceMul,Nat.reduceLeDiff,Nat.reduceLT,Nat.reduceEqDiff,Int.reduceAdd,Int.reduceSub,Int.reduceMul,Int.reduceNeg,Int.reduceLT,Int.reduceLE,Int.reduceEq,Int.reduceToNat,Int.cast_ofNat_Int,↓reduceIte, a2, a3, a4, a13, a14, ld_of h.ca, rn.call, ldn_of cz, nt.call, awake_ret.call]
theorem chg_c (h : Ch H G v v' r r' u xr yr zr t t' to X (dropX v t c) (renX v t c to) b9 b11 b13) (hc : colP v t c) (a2 : a 2 = .i c) (a3 : a 3 = u) (a4 : a 4 = .p H.length 0) (a11 : a 11 = .p b11 0) (a12 : a 12 = .i (dropE v t c)) (a13 : a 13 = .p b13 0) (a14 : a 14 = .i (renE v t c to)) :
    Wp E H.length none [.code (Hide (tl 6 f5A.body))] a G (RetQ [.t 8] fun v _ => v = .b true) := by
  unfold Hide
  rw [← ins_eq 1 (tl 6 f5A.body)]
  unfold f5A
  simp only [tl, ins]
  obtain ⟨hA, h2, h3⟩ := id hc
  obtain ⟨C, rfl⟩ := Int.eq_ofNat_of_zero_le h2
  have hwd := hA.wd
  obtain ⟨Y, eY⟩ : ∃ Y, dropX v t (C : Int) = Y := ⟨_, rfl⟩
  obtain ⟨f, ef⟩ : ∃ f, dropE v t (C : Int) = f := ⟨_, rfl⟩
  have rd : Ret E 40 [.ag [.i v, r], .i (C : Int)] (fun _ => False) G (T2.mk Y f) := by
    rw [← eY, ← ef]
    unfold dropX dropE
    rw [if_pos hc, if_pos hc]
    by_cases h1 : wd t = 1
    · rw [if_pos h1, if_pos h1]; exact rdrop_one h.sa hA.2.2.1 h1
    · rw [if_neg h1, if_neg h1]; exact rdrop_ret h.sa hA (by omega) (by omega)
  rw [eY] at h
  rw [ef] at a12
  simp (disch := (first | assumption | omega | (simp only [List.length_append, List.length_cons, List.length_nil]; omega))) only [↓wD,wU,Nat.reduceBEq,zx150,zx151,zx159,zx160,zx161,zx162,Nat.reduceAdd,Nat.reduceSub,Nat.reduceMul,Nat.reduceLeDiff,Nat.reduceLT,Nat.reduceEqDiff,Int.reduceAdd,Int.reduceSub,Int.reduceMul,Int.reduceNeg,Int.reduceLT,Int.reduceLE,Int.reduceEq,Int.reduceToNat,Int.cast_ofNat_Int,↓reduceIte, a2, a3, a4, a11, a12, a13, a14, ldn_of h.ca]
  refine rd.toX fun w G1 x1 hw => ?_
  obtain ⟨w1, w2, rfl, hw1, hw2⟩ := rv2 hw
  obtain rfl := rvi hw2
  obtain ⟨z1, rfl, hz1⟩ := rv_si_elim (v := Y.1) (xs := Y.2) hw1
  have h1 := h.kx x1
  have zV := hz1.cellsV
  have s1 : st H.length (G1 ++ [Blk.cells [.i 0, .nils]]) G1.length 0 [.i Y.1, z1] = some (G1 ++ [Blk.cells [.i Y.1, z1]]) := by
    rw [st_of get_last (by have := h1.hl; omega) (by simp)]
    congr 1
    simp [wr]
  have x2 : Kx (fun _ => True) G1 (G1 ++ [Blk.cells [.i Y.1, z1]]) := Kx.app _ _ _
  have h2' := h1.kx x2
  have hz2 := hz1.kp (x2.all _).kp
  have cw : (G1 ++ [Blk.cells [.i Y.1, z1]])[G1.length]? = some (.cells [.i Y.1, z1]) := get_last
  simp (disch := (first | assumption | omega | (simp only [List.length_append, List.length_cons, List.length_nil]; omega))) only [↓wD,wU,Nat.reduceBEq,zx150,zx151,zx159,zx160,zx161,zx162,Nat.reduceAdd,Nat.reduceSub,Nat.reduceMul,Nat.reduceLeDiff,Nat.reduceLT,Nat.reduceEqDiff,Int.reduceAdd,Int.reduceSub,Int.reduceMul,Int.reduceNeg,Int.reduceLT,Int.reduceLE,Int.reduceEq,Int.reduceToNat,Int.cast_ofNat_Int,↓reduceIte, a2, a3, a4, a11, a12, a13, a14, zV, s1, ldn_of h2'.cy]
  generalize G1 ++ [Blk.cells [.i Y.1, z1]] = G2 at *
  refine (own_ret h2'.sy).toX fun w G3 x3 hw => ?_
  obtain ⟨z3, rfl, hz3⟩ := rv_si_elim hw
  have h3' := h2'.kx x3
  have cw3 := x3.get trivial cw
  have sm := same_ret (v1 := Y.1) (v2 := Y.1) hz3 (hz2.kp (x3.all _).kp)
  rw [decide_eq_true ⟨rfl, rfl⟩] at sm
  have d1 : decide (¬ f = f) = false := decide_eq_false fun q => q rfl
  simp (disch := (first | assumption | omega | (simp only [List.length_append, List.length_cons, List.length_nil]; omega))) only [↓wD,wU,Nat.reduceBEq,zx150,zx151,zx159,zx160,zx161,zx162,Nat.reduceAdd,Nat.reduceSub,Nat.reduceMul,Nat.reduceLeDiff,Nat.reduceLT,Nat.reduceEqDiff,Int.reduceAdd,Int.reduceSub,Int.reduceMul,Int.reduceNeg,Int.reduceLT,Int.reduceLE,Int.reduceEq,Int.reduceToNat,Int.cast_ofNat_Int,↓reduceIte, a2, a3, a4, a11, a12, a13, a14, ldn_of cw3, sm.call, d1]
  refine chg_d h3' hc ?_ ?_ ?_ ?_ ?_
  all_goals (simp (disch := (first | assumption | omega | (simp only [List.length_append, List.length_cons, List.length_nil]; omega))) only [↓wD,wU,Nat.reduceBEq,zx150,zx151,zx159,zx160,zx161,zx162,Nat.reduceAdd,Nat.reduceSub,Nat.reduceMul,Nat.reduceLeDiff,Nat.reduceLT,Nat.reduceEqDiff,Int.reduceAdd,Int.reduceSub,Int.reduceMul,Int.reduceNeg,Int.reduceLT,Int.reduceLE,Int.reduceEq,Int.reduceToNat,Int.cast_ofNat_Int,↓reduceIte, a2, a3, a4, a13, a14])
theorem chg_b (h : Ch H G v v' r r' u xr yr zr t t' to X (dropX v t c) (renX v t c to) b9 b11 b13) (a2 : a 2 = .i c) (a3 : a 3 = u) (a4 : a 4 = .p H.length 0) (a11 : a 11 = .p b11 0) (a12 : a 12 = .i (dropE v t c)) (a13 : a 13 = .p b13 0) (a14 : a 14 = .i (renE v t c to)) :
    Wp E H.length none [.code (Hide (tl 5 f5A.body))] a G (RetQ [.t 8] fun v _ => v = .b true) := by
  unfold Hide
  rw [← ins_eq 1 (tl 5 f5A.body)]
  unfold f5A
  simp only [tl, ins]
  have rv := rvalid_ret (v := v) h.sa
  by_cases hc : colP v t c
  · obtain ⟨hA, h2, h3⟩ := id hc
    have d2 : decide (c < 0) = false := decide_eq_false (by omega)
    have d3 : decide ((wd t : Int) ≤ c) = false := decide_eq_false (by omega)
    have wr := width_ret (v := v) h.sa hA.2.2.1
    rw [decide_eq_true hA] at rv
    simp (disch := (first | assumption | omega | (simp only [List.length_append, List.length_cons, List.length_nil]; omega))) only [↓wD,wU,Nat.reduceBEq,zx150,zx151,zx159,zx160,zx161,zx162,Nat.reduceAdd,Nat.reduceSub,Nat.reduceMul,Nat.reduceLeDiff,Nat.reduceLT,Nat.reduceEqDiff,Int.reduceAdd,Int.reduceSub,Int.reduceMul,Int.reduceNeg,Int.reduceLT,Int.reduceLE,Int.reduceEq,Int.reduceToNat,Int.cast_ofNat_Int,↓reduceIte, a2, a3, a4, a11, a12, a13, a14, ldn_of h.ca, rv.call, wr.call, d2, d3]
    refine chg_c h hc ?_ ?_ ?_ ?_ ?_ ?_ ?_
    all_goals (simp (disch := (first | assumption | omega | (simp only [List.length_append, List.length_cons, List.length_nil]; omega))) only [↓wD,wU,Nat.reduceBEq,zx150,zx151,zx159,zx160,zx161,zx162,Nat.reduceAdd,Nat.reduceSub,Nat.reduceMul,Nat.reduceLeDiff,Nat.reduceLT,Nat.reduceEqDiff,Int.reduceAdd,Int.reduceSub,Int.reduceMul,Int.reduceNeg,Int.reduceLT,Int.reduceLE,Int.reduceEq,Int.reduceToNat,Int.cast_ofNat_Int,↓reduceIte, a2, a3, a4, a11, a12, a13, a14])
  · have hp : ¬ renP v t c to := fun q => hc q.1
    have cy := h.cy
    have cz := h.cz
    have hy := h.sy
    have hz := h.sz
    unfold dropX at cy hy
    unfold renX at cz hz
    unfold dropE at a12
    unfold renE at a14
    rw [if_neg hc] at cy hy a12
    rw [if_neg hp] at cz hz a14
    have nty := nothing_ret (v := 0) hy
    rw [decide_eq_true ⟨rfl, rfl⟩] at nty
    have ntz := nothing_ret (v := 0) hz
    rw [decide_eq_true ⟨rfl, rfl⟩] at ntz
    by_cases hA : ArrP v t
    · rw [decide_eq_true hA] at rv
      have wr := width_ret (v := v) h.sa hA.2.2.1
      by_cases h2 : c < 0
      · have d2 : decide (c < 0) = true := decide_eq_true h2
        simp (disch := (first | assumption | omega | (simp only [List.length_append, List.length_cons, List.length_nil]; omega))) only [↓wD,wU,Nat.reduceBEq,zx150,zx151,zx159,zx160,zx161,zx162,Nat.reduceAdd,Nat.reduceSub,Nat.reduceMul,Nat.reduceLeDiff,Nat.reduceLT,Nat.reduceEqDiff,Int.reduceAdd,Int.reduceSub,Int.reduceMul,Int.reduceNeg,Int.reduceLT,Int.reduceLE,Int.reduceEq,Int.reduceToNat,Int.cast_ofNat_Int,↓reduceIte, a2, a3, a4, a11, a12, a13, a14, ldn_of h.ca, rv.call, d2, ldn_of cy, ldn_of cz, nty.call, ntz.call, awake_ret.call]
      · have d2 : decide (c < 0) = false := decide_eq_false h2
        have d3 : decide ((wd t : Int) ≤ c) = true := decide_eq_true (by
          have : ¬ c < wd t := fun q => hc ⟨hA, by omega, q⟩
          omega)
        simp (disch := (first | assumption | omega | (simp only [List.length_append, List.length_cons, List.length_nil]; omega))) only [↓wD,wU,Nat.reduceBEq,zx150,zx151,zx159,zx160,zx161,zx162,Nat.reduceAdd,Nat.reduceSub,Nat.reduceMul,Nat.reduceLeDiff,Nat.reduceLT,Nat.reduceEqDiff,Int.reduceAdd,Int.reduceSub,Int.reduceMul,Int.reduceNeg,Int.reduceLT,Int.reduceLE,Int.reduceEq,Int.reduceToNat,Int.cast_ofNat_Int,↓reduceIte, a2, a3, a4, a11, a12, a13, a14, ldn_of h.ca, rv.call, wr.call, d2, d3, ldn_of cy, ldn_of cz, nty.call, ntz.call, awake_ret.call]
    · rw [decide_eq_false hA] at rv
      simp (disch := (first | assumption | omega | (simp only [List.length_append, List.length_cons, List.length_nil]; omega))) only [↓wD,wU,Nat.reduceBEq,zx150,zx151,zx159,zx160,zx161,zx162,Nat.reduceAdd,Nat.reduceSub,Nat.reduceMul,Nat.reduceLeDiff,Nat.reduceLT,Nat.reduceEqDiff,Int.reduceAdd,Int.reduceSub,Int.reduceMul,Int.reduceNeg,Int.reduceLT,Int.reduceLE,Int.reduceEq,Int.reduceToNat,Int.cast_ofNat_Int,↓reduceIte, a2, a3, a4, a11, a12, a13, a14, ldn_of h.ca, rv.call, ldn_of cy, ldn_of cz, nty.call, ntz.call, awake_ret.call]
theorem chg_a (h : Ch H G v v' r r' u xr yr zr t t' to (bothX v v' t t') (dropX v t c) (renX v t c to) b9 b11 b13) (a2 : a 2 = .i c) (a3 : a 3 = u) (a4 : a 4 = .p H.length 0) (a5 : a 5 = .p (H.length + 1) 0) (a9 : a 9 = .p b9 0) (a10 : a 10 = .i (bothE v v' t t')) (a11 : a 11 = .p b11 0) (a12 : a 12 = .i (dropE v t c)) (a13 : a 13 = .p b13 0) (a14 : a 14 = .i (renE v t c to)) :
    Wp E H.length none [.code (Hide (tl 4 f5A.body))] a G (RetQ [.t 8] fun v _ => v = .b true) := by
  unfold Hide
  rw [← ins_eq 1 (tl 4 f5A.body)]
  unfold f5A
  simp only [tl, ins]
  have al := alike_ret (v := v) (v' := v') h.sa h.sb
  by_cases ha : alikeP v v' t t'
  · rw [decide_eq_true ha] at al
    obtain ⟨h1, h2, h3, h4⟩ := id ha
    obtain ⟨Y, eY⟩ : ∃ Y, bothX v v' t t' = Y := ⟨_, rfl⟩
    obtain ⟨f, ef⟩ : ∃ f, bothE v v' t t' = f := ⟨_, rfl⟩
    have rd : Ret E 37 [.ag [.i v, r], .ag [.i v', r']] (fun _ => False) G (T2.mk Y f) := by
      rw [← eY, ← ef]
      unfold bothX bothE
      rw [if_pos ha, if_pos ha]
      have := rboth_ret h.sa h.sb h1 h2
      by_cases h16 : t.length + t'.length ≤ 16
      · rw [if_pos h16] at this ⊢
        rw [if_pos h16]; exact this
      · rw [if_neg h16] at this ⊢
        rw [if_neg h16]; exact this
    rw [eY] at h
    rw [ef] at a10
    simp (disch := (first | assumption | omega | (simp only [List.length_append, List.length_cons, List.length_nil]; omega))) only [↓wD,wU,Nat.reduceBEq,zx150,zx151,zx159,zx160,zx161,zx162,Nat.reduceAdd,Nat.reduceSub,Nat.reduceMul,Nat.reduceLeDiff,Nat.reduceLT,Nat.reduceEqDiff,Int.reduceAdd,Int.reduceSub,Int.reduceMul,Int.reduceNeg,Int.reduceLT,Int.reduceLE,Int.reduceEq,Int.reduceToNat,Int.cast_ofNat_Int,↓reduceIte, a2, a3, a4, a5, a9, a10, a11, a12, a13, a14, ldn_of h.ca, ldn_of h.cb, al.call]
    refine rd.toX fun w G1 x1 hw => ?_
    obtain ⟨w1, w2, rfl, hw1, hw2⟩ := rv2 hw
    obtain rfl := rvi hw2
    obtain ⟨z1, rfl, hz1⟩ := rv_si_elim (v := Y.1) (xs := Y.2) hw1
    have h1' := h.kx x1
    have zV := hz1.cellsV
    have s1 : st H.length (G1 ++ [Blk.cells [.i 0, .nils]]) G1.length 0 [.i Y.1, z1] = some (G1 ++ [Blk.cells [.i Y.1, z1]]) := by
      rw [st_of get_last (by have := h1'.hl; omega) (by simp)]
      congr 1
      simp [wr]
    have x2 : Kx (fun _ => True) G1 (G1 ++ [Blk.cells [.i Y.1, z1]]) := Kx.app _ _ _
    have h2' := h1'.kx x2
    have hz2 := hz1.kp (x2.all _).kp
    have cw : (G1 ++ [Blk.cells [.i Y.1, z1]])[G1.length]? = some (.cells [.i Y.1, z1]) := get_last
    simp (disch := (first | assumption | omega | (simp only [List.length_append, List.length_cons, List.length_nil]; omega))) only [↓wD,wU,Nat.reduceBEq,zx150,zx151,zx159,zx160,zx161,zx162,Nat.reduceAdd,Nat.reduceSub,Nat.reduceMul,Nat.reduceLeDiff,Nat.reduceLT,Nat.reduceEqDiff,Int.reduceAdd,Int.reduceSub,Int.reduceMul,Int.reduceNeg,Int.reduceLT,Int.reduceLE,Int.reduceEq,Int.reduceToNat,Int.cast_ofNat_Int,↓reduceIte, a2, a3, a4, a5, a9, a10, a11, a12, a13, a14, zV, s1, ldn_of h2'.cx]
    generalize G1 ++ [Blk.cells [.i Y.1, z1]] = G2 at *
    refine (own_ret h2'.sx).toX fun w G3 x3 hw => ?_
    obtain ⟨z3, rfl, hz3⟩ := rv_si_elim hw
    have h3' := h2'.kx x3
    have cw3 := x3.get trivial cw
    have sm := same_ret (v1 := Y.1) (v2 := Y.1) hz3 (hz2.kp (x3.all _).kp)
    rw [decide_eq_true ⟨rfl, rfl⟩] at sm
    have d1 : decide (¬ f = f) = false := decide_eq_false fun q => q rfl
    simp (disch := (first | assumption | omega | (simp only [List.length_append, List.length_cons, List.length_nil]; omega))) only [↓wD,wU,Nat.reduceBEq,zx150,zx151,zx159,zx160,zx161,zx162,Nat.reduceAdd,Nat.reduceSub,Nat.reduceMul,Nat.reduceLeDiff,Nat.reduceLT,Nat.reduceEqDiff,Int.reduceAdd,Int.reduceSub,Int.reduceMul,Int.reduceNeg,Int.reduceLT,Int.reduceLE,Int.reduceEq,Int.reduceToNat,Int.cast_ofNat_Int,↓reduceIte, a2, a3, a4, a5, a9, a10, a11, a12, a13, a14, ldn_of cw3, sm.call, d1]
    refine chg_b h3' ?_ ?_ ?_ ?_ ?_ ?_ ?_
    all_goals (simp (disch := (first | assumption | omega | (simp only [List.length_append, List.length_cons, List.length_nil]; omega))) only [↓wD,wU,Nat.reduceBEq,zx150,zx151,zx159,zx160,zx161,zx162,Nat.reduceAdd,Nat.reduceSub,Nat.reduceMul,Nat.reduceLeDiff,Nat.reduceLT,Nat.reduceEqDiff,Int.reduceAdd,Int.reduceSub,Int.reduceMul,Int.reduceNeg,Int.reduceLT,Int.reduceLE,Int.reduceEq,Int.reduceToNat,Int.cast_ofNat_Int,↓reduceIte, a2, a3, a4, a11, a12, a13, a14])
  · rw [decide_eq_false ha] at al
    have cx := h.cx
    have hx := h.sx
    unfold bothX at cx hx
    unfold bothE at a10
    rw [if_neg ha] at cx hx a10
    have ntx := nothing_ret (v := 0) hx
    rw [decide_eq_true ⟨rfl, rfl⟩] at ntx
    simp (disch := (first | assumption | omega | (simp only [List.length_append, List.length_cons, List.length_nil]; omega))) only [↓wD,wU,Nat.reduceBEq,zx150,zx151,zx159,zx160,zx161,zx162,Nat.reduceAdd,Nat.reduceSub,Nat.reduceMul,Nat.reduceLeDiff,Nat.reduceLT,Nat.reduceEqDiff,Int.reduceAdd,Int.reduceSub,Int.reduceMul,Int.reduceNeg,Int.reduceLT,Int.reduceLE,Int.reduceEq,Int.reduceToNat,Int.cast_ofNat_Int,↓reduceIte, a2, a3, a4, a5, a9, a10, a11, a12, a13, a14, ldn_of h.ca, ldn_of h.cb, al.call, ldn_of cx, ntx.call]
    refine chg_b h ?_ ?_ ?_ ?_ ?_ ?_ ?_
    all_goals (simp (disch := (first | assumption | omega | (simp only [List.length_append, List.length_cons, List.length_nil]; omega))) only [↓wD,wU,Nat.reduceBEq,zx150,zx151,zx159,zx160,zx161,zx162,Nat.reduceAdd,Nat.reduceSub,Nat.reduceMul,Nat.reduceLeDiff,Nat.reduceLT,Nat.reduceEqDiff,Int.reduceAdd,Int.reduceSub,Int.reduceMul,Int.reduceNeg,Int.reduceLT,Int.reduceLE,Int.reduceEq,Int.reduceToNat,Int.cast_ofNat_Int,↓reduceIte, a2, a3, a4, a11, a12, a13, a14])
end
theorem Walk.ArraysChanges (H : Heap) (cs : List AV) (x : AI2) (h : Rep.rep (fun b => b < H.length) H cs x) (cs' : List AV) (x' : AI2) (h' : Rep.rep (fun b => b < H.length) H cs' x') (c : Int) (u : AV) (to : List Int) (hu : Sl (fun b => b < H.length) H u to) (sz : to.length * 8 ≤ 140737488351232) : WpF E H.length 5 [.ag cs, .ag cs', .i c, u] H fun v _ => v = .b true := by
  obtain ⟨r, rfl, hs⟩ := rep_si_elim h
  obtain ⟨r', rfl, hs'⟩ := rep_si_elim h'
  obtain ⟨v, t⟩ := x
  obtain ⟨v', t'⟩ := x'
  change Sl _ H r t at hs
  change Sl _ H r' t' at hs'
  refine law_of (RetP.ro rfl fn5 rfl rfl ?_)
  rw [← ins_eq 4 f5A.body]
  unfold f5A
  simp only [ins]
  simp (disch := (first | assumption | omega | (simp only [List.length_append, List.length_cons, List.length_nil]; omega))) only [↓wD,wU,Nat.reduceBEq,zx150,zx151,zx159,zx160,zx161,zx162,Nat.reduceAdd,Nat.reduceSub,Nat.reduceMul,Nat.reduceLeDiff,Nat.reduceLT,Nat.reduceEqDiff,Int.reduceAdd,Int.reduceSub,Int.reduceMul,Int.reduceNeg,Int.reduceLT,Int.reduceLE,Int.reduceEq,Int.reduceToNat,Int.cast_ofNat_Int,↓reduceIte, hs.cellsV, hs'.cellsV]
  have b0 : (H ++ [Blk.cells [.i v, r]] ++ [Blk.cells [.i v', r']]).length = H.length + 2 := by simp
  have ca0 : (H ++ [Blk.cells [.i v, r]] ++ [Blk.cells [.i v', r']])[H.length]? = some (Blk.cells [.i v, r]) := by simp [List.getElem?_append]
  have cb0 : (H ++ [Blk.cells [.i v, r]] ++ [Blk.cells [.i v', r']])[H.length + 1]? = some (Blk.cells [.i v', r']) := by simp [List.getElem?_append]
  have sa0 := (((hs.app [Blk.cells [.i v, r]]).app [Blk.cells [.i v', r']])).weak (q := fun _ => True) fun _ _ => trivial
  have sb0 := (((hs'.app [Blk.cells [.i v, r]]).app [Blk.cells [.i v', r']])).weak (q := fun _ => True) fun _ _ => trivial
  have su0 := (((hu.app [Blk.cells [.i v, r]]).app [Blk.cells [.i v', r']])).weak (q := fun _ => True) fun _ _ => trivial
  generalize H ++ [Blk.cells [.i v, r]] ++ [Blk.cells [.i v', r']] = H0 at *
  clear hs hs' h h' hu
  have stn : ∀ (K : Heap) (X : AI2) (z : AV), H.length ≤ K.length → st H.length (K ++ [Blk.cells [.i 0, .nils]]) K.length 0 [.i X.1, z] = some (K ++ [Blk.cells [.i X.1, z]]) := fun K X z hK => by
    rw [st_of get_last hK (by simp)]
    congr 1
    simp [wr]
  refine (of_ret sa0).toX fun w H1 x1 hw => ?_
  obtain ⟨u1, rfl, hu1⟩ := rv_si_elim hw
  have hl1 := x1.1
  have cb1 := x1.get trivial cb0
  have sb1 := sb0.kp (x1.all _).kp
  simp (disch := (first | assumption | omega | (simp only [List.length_append, List.length_cons, List.length_nil]; omega))) only [↓wD,wU,Nat.reduceBEq,zx150,zx151,zx159,zx160,zx161,zx162,Nat.reduceAdd,Nat.reduceSub,Nat.reduceMul,Nat.reduceLeDiff,Nat.reduceLT,Nat.reduceEqDiff,Int.reduceAdd,Int.reduceSub,Int.reduceMul,Int.reduceNeg,Int.reduceLT,Int.reduceLE,Int.reduceEq,Int.reduceToNat,Int.cast_ofNat_Int,↓reduceIte, ldn_of cb1]
  refine (of_ret sb1).toX fun w H2 x2 hw => ?_
  obtain ⟨u2, rfl, hu2⟩ := rv_si_elim hw
  have hl2 := x2.1
  have x02 : Kx (fun _ => True) H0 H2 := x1.trans x2 fun _ _ _ => trivial
  simp (disch := (first | assumption | omega | (simp only [List.length_append, List.length_cons, List.length_nil]; omega))) only [↓wD,wU,Nat.reduceBEq,zx150,zx151,zx159,zx160,zx161,zx162,Nat.reduceAdd,Nat.reduceSub,Nat.reduceMul,Nat.reduceLeDiff,Nat.reduceLT,Nat.reduceEqDiff,Int.reduceAdd,Int.reduceSub,Int.reduceMul,Int.reduceNeg,Int.reduceLT,Int.reduceLE,Int.reduceEq,Int.reduceToNat,Int.cast_ofNat_Int,↓reduceIte]
  obtain ⟨X, eX⟩ : ∃ X, bothX v v' t t' = X := ⟨_, rfl⟩
  have hbo := both_any (v := v) (v' := v') (hu1.kp (x2.all _).kp) hu2
  rw [eX] at hbo
  refine hbo.toX fun w H3 x3 hw => ?_
  obtain ⟨w1, w2, rfl, hw1, hw2⟩ := rv2 hw
  obtain rfl := rvi hw2
  obtain ⟨xr, rfl, hx1⟩ := rv_si_elim (v := X.1) (xs := X.2) hw1
  replace hx1 : Sl (fun _ => True) H3 xr X.2 := hx1.weak fun _ _ => trivial
  have hl3 := x3.1
  have x03 : Kx (fun _ => True) H0 H3 := x02.trans x3 fun _ _ _ => trivial
  have x34 : Kx (fun _ => True) H3 (H3 ++ [Blk.cells [.i X.1, xr]]) := Kx.app _ _ _
  have cx4 : (H3 ++ [Blk.cells [.i X.1, xr]])[H3.length]? = some (.cells [.i X.1, xr]) := get_last
  have x04 : Kx (fun _ => True) H0 (H3 ++ [Blk.cells [.i X.1, xr]]) := x03.trans x34 fun _ _ _ => trivial
  have ca4 := x04.get trivial ca0
  have s4 := stn H3 X xr (by omega)
  have hx4 := hx1.kp (x34.all _).kp
  have hl4 := x34.1
  simp (disch := (first | assumption | omega | (simp only [List.length_append, List.length_cons, List.length_nil]; omega))) only [↓wD,wU,Nat.reduceBEq,zx150,zx151,zx159,zx160,zx161,zx162,Nat.reduceAdd,Nat.reduceSub,Nat.reduceMul,Nat.reduceLeDiff,Nat.reduceLT,Nat.reduceEqDiff,Int.reduceAdd,Int.reduceSub,Int.reduceMul,Int.reduceNeg,Int.reduceLT,Int.reduceLE,Int.reduceEq,Int.reduceToNat,Int.cast_ofNat_Int,↓reduceIte, hx1.cellsV, s4, ldn_of ca4]
  generalize H3 ++ [Blk.cells [.i X.1, xr]] = H4 at *
  refine (of_ret (sa0.kp (x04.all _).kp)).toX fun w H5 x5 hw => ?_
  obtain ⟨u5, rfl, hu5⟩ := rv_si_elim hw
  have hl5 := x5.1
  obtain ⟨Y, eY⟩ : ∃ Y, dropX v t c = Y := ⟨_, rfl⟩
  have hdr := drop_any (v := v) (c := c) hu5
  rw [eY] at hdr
  simp (disch := (first | assumption | omega | (simp only [List.length_append, List.length_cons, List.length_nil]; omega))) only [↓wD,wU,Nat.reduceBEq,zx150,zx151,zx159,zx160,zx161,zx162,Nat.reduceAdd,Nat.reduceSub,Nat.reduceMul,Nat.reduceLeDiff,Nat.reduceLT,Nat.reduceEqDiff,Int.reduceAdd,Int.reduceSub,Int.reduceMul,Int.reduceNeg,Int.reduceLT,Int.reduceLE,Int.reduceEq,Int.reduceToNat,Int.cast_ofNat_Int,↓reduceIte]
  refine hdr.toX fun w H6 x6 hw => ?_
  obtain ⟨w1, w2, rfl, hw1, hw2⟩ := rv2 hw
  obtain rfl := rvi hw2
  obtain ⟨yr, rfl, hy1⟩ := rv_si_elim (v := Y.1) (xs := Y.2) hw1
  replace hy1 : Sl (fun _ => True) H6 yr Y.2 := hy1.weak fun _ _ => trivial
  have hl6 := x6.1
  have x46 : Kx (fun _ => True) H4 H6 := x5.trans x6 fun _ _ _ => trivial
  have x67 : Kx (fun _ => True) H6 (H6 ++ [Blk.cells [.i Y.1, yr]]) := Kx.app _ _ _
  have cy7 : (H6 ++ [Blk.cells [.i Y.1, yr]])[H6.length]? = some (.cells [.i Y.1, yr]) := get_last
  have x47 : Kx (fun _ => True) H4 (H6 ++ [Blk.cells [.i Y.1, yr]]) := x46.trans x67 fun _ _ _ => trivial
  have x07 : Kx (fun _ => True) H0 (H6 ++ [Blk.cells [.i Y.1, yr]]) := x04.trans x47 fun _ _ _ => trivial
  have ca7 := x07.get trivial ca0
  have s7 := stn H6 Y yr (by omega)
  have hy7 := hy1.kp (x67.all _).kp
  have hl7 := x67.1
  simp (disch := (first | assumption | omega | (simp only [List.length_append, List.length_cons, List.length_nil]; omega))) only [↓wD,wU,Nat.reduceBEq,zx150,zx151,zx159,zx160,zx161,zx162,Nat.reduceAdd,Nat.reduceSub,Nat.reduceMul,Nat.reduceLeDiff,Nat.reduceLT,Nat.reduceEqDiff,Int.reduceAdd,Int.reduceSub,Int.reduceMul,Int.reduceNeg,Int.reduceLT,Int.reduceLE,Int.reduceEq,Int.reduceToNat,Int.cast_ofNat_Int,↓reduceIte, hy1.cellsV, s7, ldn_of ca7]
  generalize H6 ++ [Blk.cells [.i Y.1, yr]] = H7 at *
  refine (of_ret (sa0.kp (x07.all _).kp)).toX fun w H8 x8 hw => ?_
  obtain ⟨u8, rfl, hu8⟩ := rv_si_elim hw
  have hl8 := x8.1
  have x08 : Kx (fun _ => True) H0 H8 := x07.trans x8 fun _ _ _ => trivial
  simp (disch := (first | assumption | omega | (simp only [List.length_append, List.length_cons, List.length_nil]; omega))) only [↓wD,wU,Nat.reduceBEq,zx150,zx151,zx159,zx160,zx161,zx162,Nat.reduceAdd,Nat.reduceSub,Nat.reduceMul,Nat.reduceLeDiff,Nat.reduceLT,Nat.reduceEqDiff,Int.reduceAdd,Int.reduceSub,Int.reduceMul,Int.reduceNeg,Int.reduceLT,Int.reduceLE,Int.reduceEq,Int.reduceToNat,Int.cast_ofNat_Int,↓reduceIte]
  refine (list_ret (su0.kp (x08.all _).kp)).toFX fun w9 H9 x9 hw9 => ?_
  have hl9 := x9.1
  obtain ⟨Z, eZ⟩ : ∃ Z, renX v t c to = Z := ⟨_, rfl⟩
  have hrn := rename_any (v := v) (c := c) (hu8.kp (x9.all _).kp) hw9
  rw [eZ] at hrn
  simp (disch := (first | assumption | omega | (simp only [List.length_append, List.length_cons, List.length_nil]; omega))) only [↓wD,wU,Nat.reduceBEq,zx150,zx151,zx159,zx160,zx161,zx162,Nat.reduceAdd,Nat.reduceSub,Nat.reduceMul,Nat.reduceLeDiff,Nat.reduceLT,Nat.reduceEqDiff,Int.reduceAdd,Int.reduceSub,Int.reduceMul,Int.reduceNeg,Int.reduceLT,Int.reduceLE,Int.reduceEq,Int.reduceToNat,Int.cast_ofNat_Int,↓reduceIte]
  refine hrn.toX fun w H10 x10 hw => ?_
  obtain ⟨w1, w2, rfl, hw1, hw2⟩ := rv2 hw
  obtain rfl := rvi hw2
  obtain ⟨zr, rfl, hz1⟩ := rv_si_elim (v := Z.1) (xs := Z.2) hw1
  replace hz1 : Sl (fun _ => True) H10 zr Z.2 := hz1.weak fun _ _ => trivial
  have hl10 := x10.1
  have x710 : Kx (fun _ => True) H7 H10 := (x8.trans x9 fun _ _ _ => trivial).trans x10 fun _ _ _ => trivial
  have xl : Kx (fun _ => True) H10 (H10 ++ [Blk.cells [.i Z.1, zr]]) := Kx.app _ _ _
  have czl : (H10 ++ [Blk.cells [.i Z.1, zr]])[H10.length]? = some (.cells [.i Z.1, zr]) := get_last
  have x7l : Kx (fun _ => True) H7 (H10 ++ [Blk.cells [.i Z.1, zr]]) := x710.trans xl fun _ _ _ => trivial
  have x4l : Kx (fun _ => True) H4 (H10 ++ [Blk.cells [.i Z.1, zr]]) := x47.trans x7l fun _ _ _ => trivial
  have x0l : Kx (fun _ => True) H0 (H10 ++ [Blk.cells [.i Z.1, zr]]) := x07.trans x7l fun _ _ _ => trivial
  have s10 := stn H10 Z zr (by omega)
  have hall := Ch.mk (H := H) (v' := v') (r' := r') (t' := t') (to := to) (X := X) (Y := Y) (Z := Z) (x0l.get trivial ca0) (x0l.get trivial cb0) (x4l.get trivial cx4) (x7l.get trivial cy7) czl (sa0.kp (x0l.all _).kp) (sb0.kp (x0l.all _).kp) (su0.kp (x0l.all _).kp) (hx4.kp (x4l.all _).kp) (hy7.kp (x7l.all _).kp) (hz1.kp (xl.all _).kp) (by have := x0l.1; omega)
  simp (disch := (first | assumption | omega | (simp only [List.length_append, List.length_cons, List.length_nil]; omega))) only [↓wD,wU,Nat.reduceBEq,zx150,zx151,zx159,zx160,zx161,zx162,Nat.reduceAdd,Nat.reduceSub,Nat.reduceMul,Nat.reduceLeDiff,Nat.reduceLT,Nat.reduceEqDiff,Int.reduceAdd,Int.reduceSub,Int.reduceMul,Int.reduceNeg,Int.reduceLT,Int.reduceLE,Int.reduceEq,Int.reduceToNat,Int.cast_ofNat_Int,↓reduceIte, hz1.cellsV, s10]
  subst eX eY eZ
  refine chg_a hall ?_ ?_ ?_ ?_ ?_ ?_ ?_ ?_ ?_ ?_
  all_goals (simp (disch := (first | assumption | omega | (simp only [List.length_append, List.length_cons, List.length_nil]; omega))) only [↓wD,wU,Nat.reduceBEq,zx150,zx151,zx159,zx160,zx161,zx162,Nat.reduceAdd,Nat.reduceSub,Nat.reduceMul,Nat.reduceLeDiff,Nat.reduceLT,Nat.reduceEqDiff,Int.reduceAdd,Int.reduceSub,Int.reduceMul,Int.reduceNeg,Int.reduceLT,Int.reduceLE,Int.reduceEq,Int.reduceToNat,Int.cast_ofNat_Int,↓reduceIte])
end Go.Proofs.Ytalaadcbpjnglaa
