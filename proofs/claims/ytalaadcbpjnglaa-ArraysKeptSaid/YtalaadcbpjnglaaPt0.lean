/- What the law needs: what its functions do, and the laws on lists behind it. No condition. -/
import Derived.Test.YtalaadcbpjnglaaPi
import Derived.Test.YtalaadcbpjnglaaBo
import Derived.Shelf.Slices.Delete
import Derived.KernelRfl
import Derived.WalkKit
import Derived.ProofKit
import Derived.OpenShut
import Derived.ShutString
import Derived.ChangeOld
import Derived.Below
import Derived.SizedLaws
import Derived.Carry
set_option linter.unusedSimpArgs false
set_option linter.unusedVariables false
namespace Go.Proofs.Ytalaadcbpjnglaa
open Go Go.AM Go.Proofs Go.Shelf Go.RowKit
def deRen : Ren where
  f n := if n = 23 then 80 else 109
  t n := if n = 0 then 0 else if n = 22 then 41 else n
  g n := n
theorem deLays : Lays2.n23 Try.prog deRen where
  mixed := by kernel_rfl
  f23 := by kernel_rfl
  t0 := by kernel_rfl
  a0 := fun w => by kernel_rfl
  z0 := fun w => by kernel_rfl
  v0 := fun w => by kernel_rfl
  t3 := by kernel_rfl
  a3 := fun w => by kernel_rfl
  z3 := fun w => by kernel_rfl
  v3 := fun w => by kernel_rfl
  t4 := by kernel_rfl
  a4 := fun w => by kernel_rfl
  z4 := fun w => by kernel_rfl
  v4 := fun w => by kernel_rfl
  t22 := by kernel_rfl
  a22 := fun w => by kernel_rfl
  z22 := fun w => by kernel_rfl
  v22 := fun w => by kernel_rfl
  i3 := by kernel_rfl
theorem lay_whole (xs : List Int) (d : Array Int) (h : xs.length = d.size) : Go.Lib.lay d 0 xs = xs.toArray := by
  apply Array.ext_getElem?
  intro j
  rw [Go.Lib.lay_get? xs d 0 j (by omega)]
  by_cases hj : j < xs.length
  · rw [if_pos ⟨by omega, by omega⟩]; simp
  · rw [if_neg (by omega), Array.getElem?_eq_none (by omega), Array.getElem?_eq_none (by simp; omega)]
theorem de_ok : Enters' Try.prog 80 ∧
  ∀ (blk off cap i j : Nat) (zs : List Int) (w : World), (∀ k (h : k < zs.length), w.cell? ⟨blk, off + k, none⟩ = some (.int .i64 zs[k]) ∧ w.frozen? ⟨blk, off + k, none⟩ = false) → zs.length ≤ cap → cap ≤ 9223372036854775807 → i ≤ j → j ≤ zs.length →
    ∀ cs, ∃ w1 : World, Rets Try.prog 80 #[.slice (some ⟨blk, off, none⟩) zs.length cap, .int .i64 i, .int .i64 j] cs w (.slice (some ⟨blk, off, none⟩) (zs.length - (j - i)) cap) (w1.setCells blk off ((zs.take i ++ zs.drop j ++ List.replicate (j - i) 0).map (Value.int .i64))) ∧
      w1.heap = w.heap ∧ w1.os = w.os ∧ w1.tape = w.tape ∧ w1.output = w.output := by
  refine ⟨enters_of deLays.f23 (by kernel_rfl) rfl, ?_⟩
  intro blk off cap i j zs w hz hc hm hij hj cs
  have hH : Go.Sort.Holds (Value.int .i64) w blk off zs.toArray := by
    intro k hk
    have hk' : k < zs.length := by simpa using hk
    have := hz k hk'
    refine ⟨?_, this.2⟩
    rw [this.1]; simp [hk']
  obtain ⟨e, w', fr, ⟨rfl, q, hq⟩, hcl, hf, hl⟩ := Any.slices_Delete_int deLays blk off cap i j zs w hH hc hm hij hj cs
  have e2 : w' = (Go.Sort.ahead w q).setCells blk off ((zs.take i ++ zs.drop j ++ List.replicate (j - i) 0).map (Value.int .i64)) := by
    rw [hq]
    have hl1 : (zs.take i ++ zs.drop j ++ List.replicate (j - i) 0).length = zs.toArray.size := by simp; omega
    have h1 := Go.Lib.putRow_setCells (Value.int .i64) (Go.Sort.ahead w q) blk off (zs.take i ++ zs.drop j ++ List.replicate (j - i) 0) zs.toArray 0 (by omega)
    rw [Go.Sort.putRow_self (Value.int .i64) (Go.Sort.ahead w q) blk off zs.toArray (Go.Sort.holds_ahead (Value.int .i64) w q blk off zs.toArray hH), lay_whole _ _ hl1] at h1
    exact h1.symm
  refine ⟨Go.Sort.ahead w q, ?_, rfl, rfl, rfl, rfl⟩
  rw [← e2]
  exact ⟨fr, hcl, hf, hl⟩
theorem eOk : EOk C (fun _ => True) E where
  kd := rfl
  fn := fun f af h => tab_ok (f, af) (lookup_mem h)
  prim := fun f g h => by
    simp only [C, kd] at h
    split at h
    · cases h
    · split at h
      · cases h
      · split at h <;> cases h
  del := fun f h => by
    simp only [C, kd] at h
    split at h
    · cases h
    · split at h
      · cases h
      · split at h
        · rename_i e
          subst e
          exact de_ok
        · cases h
  stable := fun _ _ _ _ => trivial
  eq := fun t n h => by cases h
  mixed := mixed
end Go.Proofs.Ytalaadcbpjnglaa
namespace Go.Proofs.Ytalaadcbpjnglaa
open Go Go.AM Go.Proofs
theorem clone_ret {p : Nat → Prop} {H : Heap} {v : AV} {xs : List Int} (hx : Sl p H v xs) (hs : xs.length * 8 ≤ 1099511627776) : Ret E 82 [v] (fun _ => False) H xs := by
  refine Ret.ro rfl fn82 rfl ?_
  unfold f82A
  have main : ∀ {Q : AV × Heap → Prop}, (∀ v' H', Sl (fun b => H.length ≤ b) H' v' xs → Q (v', H')) → @optP _ (appendV H.length 1 8 (.s 1 H.length 0 0 (some 0)) v (H ++ [.cells []])) ⟨Q⟩ := fun {Q} go => by
    have ha : Acc H.length (fun _ => True) (H ++ [.cells []]) (.s 1 H.length 0 0 (some 0)) ([] : List Int) := Acc.fresh0 (Nat.le_refl _)
    refine ha.extend (q := fun b => b < H.length) (Nat.le_refl _) (by simp) ((hx.low.app [.cells []]).weak fun b h => h.2) (fun b hb => ⟨trivial, ?_⟩) (by simpa using hs) (by omega) fun v' H' h' _ => go _ _ ?_
    · intro e; simp only [AV.blk, Option.some.injEq] at e; omega
    · rw [List.nil_append] at h'
      rcases h' with h' | ⟨b, o, c, k, e, hb, hk, h1, h2, h3⟩
      · exact .inl h'
      · exact .inr ⟨b, o, c, k, e, hb, hk, h1, h2, h3⟩
  rcases hx with ⟨rfl, rfl⟩ | ⟨b, o, c, k, e, hb, hk, h1, h2, h3⟩
  · simp (disch := (first | assumption | omega | (simp only [List.length_append, List.length_cons, List.length_nil]; omega))) only [↓wD,wU,Nat.reduceBEq,zx150,zx151,zx159,zx160,zx161,zx162,Nat.reduceAdd,Nat.reduceSub,Nat.reduceMul,Nat.reduceLeDiff,Nat.reduceLT,Nat.reduceEqDiff,Int.reduceAdd,Int.reduceSub,Int.reduceMul,Int.reduceNeg,Int.reduceLT,Int.reduceLE,Int.reduceEq,Int.reduceToNat,Int.cast_ofNat_Int,↓reduceIte, *]
    exact Sl.nil
  · subst e
    simp (disch := (first | assumption | omega | (simp only [List.length_append, List.length_cons, List.length_nil]; omega))) only [↓wD,wU,Nat.reduceBEq,zx150,zx151,zx159,zx160,zx161,zx162,Nat.reduceAdd,Nat.reduceSub,Nat.reduceMul,Nat.reduceLeDiff,Nat.reduceLT,Nat.reduceEqDiff,Int.reduceAdd,Int.reduceSub,Int.reduceMul,Int.reduceNeg,Int.reduceLT,Int.reduceLE,Int.reduceEq,Int.reduceToNat,Int.cast_ofNat_Int,↓reduceIte, *]
    refine main fun v' H' h' => ?_
    simp (disch := (first | assumption | omega | (simp only [List.length_append, List.length_cons, List.length_nil]; omega))) only [↓wD,wU,Nat.reduceBEq,zx150,zx151,zx159,zx160,zx161,zx162,Nat.reduceAdd,Nat.reduceSub,Nat.reduceMul,Nat.reduceLeDiff,Nat.reduceLT,Nat.reduceEqDiff,Int.reduceAdd,Int.reduceSub,Int.reduceMul,Int.reduceNeg,Int.reduceLT,Int.reduceLE,Int.reduceEq,Int.reduceToNat,Int.cast_ofNat_Int,↓reduceIte, *]
    exact h'.weak fun _ h => .inr h
end Go.Proofs.Ytalaadcbpjnglaa
namespace Go.Proofs.Ytalaadcbpjnglaa
open Go Go.AM Go.Proofs
def ChR (v : Int) (r : List Int) : Prop := ∀ x ∈ r, 0 ≤ x ∧ x < v
instance (v : Int) (r : List Int) : Decidable (ChR v r) := by unfold ChR; infer_instance
def RowP (v : Int) (k : Nat) (r : List Int) : Prop := r.length = k ∧ 1 ≤ r.length ∧ r.length ≤ 8 ∧ ChR v r
instance (v : Int) (k : Nat) (r : List Int) : Decidable (RowP v k r) := by unfold RowP; infer_instance
def ArrP (v : Int) (t : List (List Int)) : Prop := 2 ≤ v ∧ v ≤ 4 ∧ 1 ≤ t.length ∧ t.length ≤ 16 ∧ ∀ r ∈ t, RowP v (gi t 0).length r
instance (v : Int) (t : List (List Int)) : Decidable (ArrP v t) := by unfold ArrP; infer_instance
/-- how many columns -/
def wd (t : List (List Int)) : Nat := (gi t 0).length
theorem ArrP.row {v : Int} {t : List (List Int)} (h : ArrP v t) {r : List Int} (hr : r ∈ t) : r.length = wd t ∧ ChR v r := ⟨(h.2.2.2.2 r hr).1, (h.2.2.2.2 r hr).2.2.2⟩
theorem ArrP.wd {v : Int} {t : List (List Int)} (h : ArrP v t) : 1 ≤ wd t ∧ wd t ≤ 8 := by
  have := h.2.2.2.2 (gi t 0) (gi_mem (by omega) (by have := h.2.2.1; omega))
  exact ⟨this.2.1, this.2.2.1⟩
theorem foldl_min_le {xs : List Int} : ∀ {m : Int}, xs.foldl min m ≤ m ∧ ∀ x ∈ xs, xs.foldl min m ≤ x := by
  induction xs with
  | nil => simp
  | cons x xs ih =>
    intro m
    have := ih (m := min m x)
    simp only [List.foldl_cons, List.mem_cons, forall_eq_or_imp]
    exact ⟨by omega, by omega, this.2⟩
theorem foldl_max_ge {xs : List Int} : ∀ {m : Int}, m ≤ xs.foldl max m ∧ ∀ x ∈ xs, x ≤ xs.foldl max m := by
  induction xs with
  | nil => simp
  | cons x xs ih =>
    intro m
    have := ih (m := max m x)
    simp only [List.foldl_cons, List.mem_cons, forall_eq_or_imp]
    exact ⟨by omega, by omega, this.2⟩
theorem foldl_min_mem {xs : List Int} : ∀ {m : Int}, xs.foldl min m = m ∨ xs.foldl min m ∈ xs := by
  induction xs with
  | nil => simp
  | cons x xs ih =>
    intro m
    simp only [List.foldl_cons, List.mem_cons]
    rcases ih (m := min m x) with h | h
    · rw [h]; rcases Int.le_total m x with h1 | h1
      · left; omega
      · right; left; omega
    · exact .inr (.inr h)
theorem foldl_max_mem {xs : List Int} : ∀ {m : Int}, xs.foldl max m = m ∨ xs.foldl max m ∈ xs := by
  induction xs with
  | nil => simp
  | cons x xs ih =>
    intro m
    simp only [List.foldl_cons, List.mem_cons]
    rcases ih (m := max m x) with h | h
    · rw [h]; rcases Int.le_total m x with h1 | h1
      · right; left; omega
      · left; omega
    · exact .inr (.inr h)
def minL (xs : List Int) : Int := (xs.drop 1).foldl min (gi xs 0)
def maxL (xs : List Int) : Int := (xs.drop 1).foldl max (gi xs 0)
theorem minL_spec {xs : List Int} (h : 1 ≤ xs.length) : minL xs ∈ xs ∧ ∀ x ∈ xs, minL xs ≤ x := by
  cases xs with
  | nil => simp at h
  | cons x xs =>
    simp only [minL, zx181, List.drop_succ_cons, List.drop_zero]
    have h1 := foldl_min_le (xs := xs) (m := x)
    refine ⟨?_, fun y hy => ?_⟩
    · rcases foldl_min_mem (xs := xs) (m := x) with h | h
      · rw [h]; simp
      · exact List.mem_cons_of_mem _ h
    · rcases List.mem_cons.1 hy with rfl | hy
      · exact h1.1
      · exact h1.2 y hy
theorem maxL_spec {xs : List Int} (h : 1 ≤ xs.length) : maxL xs ∈ xs ∧ ∀ x ∈ xs, x ≤ maxL xs := by
  cases xs with
  | nil => simp at h
  | cons x xs =>
    simp only [maxL, zx181, List.drop_succ_cons, List.drop_zero]
    have h1 := foldl_max_ge (xs := xs) (m := x)
    refine ⟨?_, fun y hy => ?_⟩
    · rcases foldl_max_mem (xs := xs) (m := x) with h | h
      · rw [h]; simp
      · exact List.mem_cons_of_mem _ h
    · rcases List.mem_cons.1 hy with rfl | hy
      · exact h1.1
      · exact h1.2 y hy
theorem take_drop1 {xs : List Int} {i : Nat} (h1 : 1 ≤ i) (h : i < xs.length) : (xs.take (i + 1)).drop 1 = (xs.take i).drop 1 ++ [gi xs i] := by
  rw [take_gi h, List.drop_append_of_le_length (by rw [List.length_take]; omega)]
theorem minL_take {xs : List Int} {i : Nat} (h1 : 1 ≤ i) (h : i < xs.length) : minL (xs.take (i + 1)) = min (minL (xs.take i)) (gi xs i) := by
  have e : ∀ j, 1 ≤ j → gi (xs.take j) 0 = gi xs 0 := fun j hj => by cases xs with | nil => simp at h | cons x r => cases j with | zero => omega | succ j => rfl
  unfold minL
  rw [take_drop1 h1 h, List.foldl_append, e _ h1, e _ (by omega)]; rfl
theorem maxL_take {xs : List Int} {i : Nat} (h1 : 1 ≤ i) (h : i < xs.length) : maxL (xs.take (i + 1)) = max (maxL (xs.take i)) (gi xs i) := by
  have e : ∀ j, 1 ≤ j → gi (xs.take j) 0 = gi xs 0 := fun j hj => by cases xs with | nil => simp at h | cons x r => cases j with | zero => omega | succ j => rfl
  unfold maxL
  rw [take_drop1 h1 h, List.foldl_append, e _ h1, e _ (by omega)]; rfl
theorem min_ret {p : Nat → Prop} {H : Heap} {v : AV} {xs : List Int} (hx : Sl p H v xs) (h : 1 ≤ xs.length) : RetP E 98 [v] H (.i (minL xs)) := by
  refine RetP.ro rfl fn98 rfl rfl ?_
  unfold f98A
  have hb := hx.bound
  simp (disch := (first | assumption | omega | (simp only [List.length_append, List.length_cons, List.length_nil]; omega))) only [↓wD,wU,Nat.reduceBEq,zx150,zx151,zx159,zx160,zx161,zx162,Nat.reduceAdd,Nat.reduceSub,Nat.reduceMul,Nat.reduceLeDiff,Nat.reduceLT,Nat.reduceEqDiff,Int.reduceAdd,Int.reduceSub,Int.reduceMul,Int.reduceNeg,Int.reduceLT,Int.reduceLE,Int.reduceEq,Int.reduceToNat,Int.cast_ofNat_Int,↓reduceIte, *, hx.I]
  refine Wp.for (xs.length - 1) (fun i a H' => H' = H ∧ a 0 = v ∧ a 4 = .i (i + 1) ∧ a 3 = .i (minL (xs.take (i + 1)))) ?_ ?_
  · rintro i a H' hi ⟨rfl, a0, a4, a3⟩ ih
    simp (disch := (first | assumption | omega | (simp only [List.length_append, List.length_cons, List.length_nil]; omega))) only [↓wD,wU,Nat.reduceBEq,zx150,zx151,zx159,zx160,zx161,zx162,Nat.reduceAdd,Nat.reduceSub,Nat.reduceMul,Nat.reduceLeDiff,Nat.reduceLT,Nat.reduceEqDiff,Int.reduceAdd,Int.reduceSub,Int.reduceMul,Int.reduceNeg,Int.reduceLT,Int.reduceLE,Int.reduceEq,Int.reduceToNat,Int.cast_ofNat_Int,↓reduceIte, *, hx.I]
    refine condP_split (fun hlt => ?_) (fun hlt => ?_)
    · have hi' : i < xs.length - 1 := by omega
      have e := minL_take (xs := xs) (i := i + 1) (by omega) (by omega)
      simp only [Int.natCast_add, Int.natCast_one] at e
      simp (disch := (first | assumption | omega | (simp only [List.length_append, List.length_cons, List.length_nil]; omega))) only [↓wD,wU,Nat.reduceBEq,zx150,zx151,zx159,zx160,zx161,zx162,Nat.reduceAdd,Nat.reduceSub,Nat.reduceMul,Nat.reduceLeDiff,Nat.reduceLT,Nat.reduceEqDiff,Int.reduceAdd,Int.reduceSub,Int.reduceMul,Int.reduceNeg,Int.reduceLT,Int.reduceLE,Int.reduceEq,Int.reduceToNat,Int.cast_ofNat_Int,↓reduceIte, *, hx.I]
      refine (ih hi').go ⟨rfl, ?_⟩
      simp (disch := (first | assumption | omega | (simp only [List.length_append, List.length_cons, List.length_nil]; omega))) only [↓wD,wU,Nat.reduceBEq,zx150,zx151,zx159,zx160,zx161,zx162,Nat.reduceAdd,Nat.reduceSub,Nat.reduceMul,Nat.reduceLeDiff,Nat.reduceLT,Nat.reduceEqDiff,Int.reduceAdd,Int.reduceSub,Int.reduceMul,Int.reduceNeg,Int.reduceLT,Int.reduceLE,Int.reduceEq,Int.reduceToNat,Int.cast_ofNat_Int,↓reduceIte, *]
    · simp (disch := (first | assumption | omega | (simp only [List.length_append, List.length_cons, List.length_nil]; omega))) only [↓wD,wU,Nat.reduceBEq,zx150,zx151,zx159,zx160,zx161,zx162,Nat.reduceAdd,Nat.reduceSub,Nat.reduceMul,Nat.reduceLeDiff,Nat.reduceLT,Nat.reduceEqDiff,Int.reduceAdd,Int.reduceSub,Int.reduceMul,Int.reduceNeg,Int.reduceLT,Int.reduceLE,Int.reduceEq,Int.reduceToNat,Int.cast_ofNat_Int,↓reduceIte, *]
      rw [List.take_of_length_le (by omega)]
  · (simp (disch := (first | assumption | omega | (simp only [List.length_append, List.length_cons, List.length_nil]; omega))) only [↓wD,wU,Nat.reduceBEq,zx150,zx151,zx159,zx160,zx161,zx162,Nat.reduceAdd,Nat.reduceSub,Nat.reduceMul,Nat.reduceLeDiff,Nat.reduceLT,Nat.reduceEqDiff,Int.reduceAdd,Int.reduceSub,Int.reduceMul,Int.reduceNeg,Int.reduceLT,Int.reduceLE,Int.reduceEq,Int.reduceToNat,Int.cast_ofNat_Int,↓reduceIte, *]) <;> first | rfl | skip
    unfold minL
    cases xs with
    | nil => simp at h
    | cons x r => simp [zx181]
theorem max_ret {p : Nat → Prop} {H : Heap} {v : AV} {xs : List Int} (hx : Sl p H v xs) (h : 1 ≤ xs.length) : RetP E 99 [v] H (.i (maxL xs)) := by
  refine RetP.ro rfl fn99 rfl rfl ?_
  unfold f99A
  have hb := hx.bound
  simp (disch := (first | assumption | omega | (simp only [List.length_append, List.length_cons, List.length_nil]; omega))) only [↓wD,wU,Nat.reduceBEq,zx150,zx151,zx159,zx160,zx161,zx162,Nat.reduceAdd,Nat.reduceSub,Nat.reduceMul,Nat.reduceLeDiff,Nat.reduceLT,Nat.reduceEqDiff,Int.reduceAdd,Int.reduceSub,Int.reduceMul,Int.reduceNeg,Int.reduceLT,Int.reduceLE,Int.reduceEq,Int.reduceToNat,Int.cast_ofNat_Int,↓reduceIte, *, hx.I]
  refine Wp.for (xs.length - 1) (fun i a H' => H' = H ∧ a 0 = v ∧ a 4 = .i (i + 1) ∧ a 3 = .i (maxL (xs.take (i + 1)))) ?_ ?_
  · rintro i a H' hi ⟨rfl, a0, a4, a3⟩ ih
    simp (disch := (first | assumption | omega | (simp only [List.length_append, List.length_cons, List.length_nil]; omega))) only [↓wD,wU,Nat.reduceBEq,zx150,zx151,zx159,zx160,zx161,zx162,Nat.reduceAdd,Nat.reduceSub,Nat.reduceMul,Nat.reduceLeDiff,Nat.reduceLT,Nat.reduceEqDiff,Int.reduceAdd,Int.reduceSub,Int.reduceMul,Int.reduceNeg,Int.reduceLT,Int.reduceLE,Int.reduceEq,Int.reduceToNat,Int.cast_ofNat_Int,↓reduceIte, *, hx.I]
    refine condP_split (fun hlt => ?_) (fun hlt => ?_)
    · have hi' : i < xs.length - 1 := by omega
      have e := maxL_take (xs := xs) (i := i + 1) (by omega) (by omega)
      simp only [Int.natCast_add, Int.natCast_one] at e
      simp (disch := (first | assumption | omega | (simp only [List.length_append, List.length_cons, List.length_nil]; omega))) only [↓wD,wU,Nat.reduceBEq,zx150,zx151,zx159,zx160,zx161,zx162,Nat.reduceAdd,Nat.reduceSub,Nat.reduceMul,Nat.reduceLeDiff,Nat.reduceLT,Nat.reduceEqDiff,Int.reduceAdd,Int.reduceSub,Int.reduceMul,Int.reduceNeg,Int.reduceLT,Int.reduceLE,Int.reduceEq,Int.reduceToNat,Int.cast_ofNat_Int,↓reduceIte, *, hx.I]
      refine (ih hi').go ⟨rfl, ?_⟩
      simp (disch := (first | assumption | omega | (simp only [List.length_append, List.length_cons, List.length_nil]; omega))) only [↓wD,wU,Nat.reduceBEq,zx150,zx151,zx159,zx160,zx161,zx162,Nat.reduceAdd,Nat.reduceSub,Nat.reduceMul,Nat.reduceLeDiff,Nat.reduceLT,Nat.reduceEqDiff,Int.reduceAdd,Int.reduceSub,Int.reduceMul,Int.reduceNeg,Int.reduceLT,Int.reduceLE,Int.reduceEq,Int.reduceToNat,Int.cast_ofNat_Int,↓reduceIte, *]
    · simp (disch := (first | assumption | omega | (simp only [List.length_append, List.length_cons, List.length_nil]; omega))) only [↓wD,wU,Nat.reduceBEq,zx150,zx151,zx159,zx160,zx161,zx162,Nat.reduceAdd,Nat.reduceSub,Nat.reduceMul,Nat.reduceLeDiff,Nat.reduceLT,Nat.reduceEqDiff,Int.reduceAdd,Int.reduceSub,Int.reduceMul,Int.reduceNeg,Int.reduceLT,Int.reduceLE,Int.reduceEq,Int.reduceToNat,Int.cast_ofNat_Int,↓reduceIte, *]
      rw [List.take_of_length_le (by omega)]
  · (simp (disch := (first | assumption | omega | (simp only [List.length_append, List.length_cons, List.length_nil]; omega))) only [↓wD,wU,Nat.reduceBEq,zx150,zx151,zx159,zx160,zx161,zx162,Nat.reduceAdd,Nat.reduceSub,Nat.reduceMul,Nat.reduceLeDiff,Nat.reduceLT,Nat.reduceEqDiff,Int.reduceAdd,Int.reduceSub,Int.reduceMul,Int.reduceNeg,Int.reduceLT,Int.reduceLE,Int.reduceEq,Int.reduceToNat,Int.cast_ofNat_Int,↓reduceIte, *]) <;> first | rfl | skip
    unfold maxL
    cases xs with
    | nil => simp at h
    | cons x r => simp [zx181]
end Go.Proofs.Ytalaadcbpjnglaa
namespace Go.Proofs.Ytalaadcbpjnglaa
open Go Go.AM Go.Proofs
theorem chr_min {v : Int} {r : List Int} (h : 1 ≤ r.length) (h1 : 0 ≤ minL r) (h2 : maxL r < v) : ChR v r := fun x hx =>
  ⟨Int.le_trans h1 ((minL_spec h).2 x hx), Int.lt_of_le_of_lt ((maxL_spec h).2 x hx) h2⟩
theorem chr_of {v : Int} {r : List Int} (h : 1 ≤ r.length) (hc : ChR v r) : 0 ≤ minL r ∧ maxL r < v := ⟨(hc _ (minL_spec h).1).1, (hc _ (maxL_spec h).1).2⟩
theorem valid_ret {p : Nat → Prop} {H : Heap} {rows : AV} {v : Int} {t : List (List Int)} (ht : Sl p H rows t) : RetP E 74 [.ag [.i v, rows]] H (.b (decide (ArrP v t))) := by
  refine RetP.ro rfl fn74 rfl rfl ?_
  unfold f74A
  have hb := ht.bound
  by_cases h0 : 2 ≤ v ∧ v ≤ 4 ∧ 1 ≤ t.length ∧ t.length ≤ 16
  · obtain ⟨v1, v2, t1, t2⟩ := h0
    simp (disch := (first | assumption | omega | (simp only [List.length_append, List.length_cons, List.length_nil]; omega))) only [↓wD,wU,Nat.reduceBEq,zx150,zx151,zx159,zx160,zx161,zx162,Nat.reduceAdd,Nat.reduceSub,Nat.reduceMul,Nat.reduceLeDiff,Nat.reduceLT,Nat.reduceEqDiff,Int.reduceAdd,Int.reduceSub,Int.reduceMul,Int.reduceNeg,Int.reduceLT,Int.reduceLE,Int.reduceEq,Int.reduceToNat,Int.cast_ofNat_Int,↓reduceIte, *, ht.L]
    have k1 := ht.app [.cells [.i v, rows]]
    refine Wp.for t.length (fun i a H' => H' = H ++ [.cells [.i v, rows]] ∧ a 1 = .p H.length 0 ∧ a 26 = rows ∧ a 27 = .i t.length ∧ a 28 = .i i ∧ ∀ r ∈ t.take i, RowP v (gi t 0).length r) ?_ ?_
    · rintro i a H' hi ⟨rfl, a1, a26, a27, a28, hh⟩ ih
      simp (disch := (first | assumption | omega | (simp only [List.length_append, List.length_cons, List.length_nil]; omega))) only [↓wD,wU,Nat.reduceBEq,zx150,zx151,zx159,zx160,zx161,zx162,Nat.reduceAdd,Nat.reduceSub,Nat.reduceMul,Nat.reduceLeDiff,Nat.reduceLT,Nat.reduceEqDiff,Int.reduceAdd,Int.reduceSub,Int.reduceMul,Int.reduceNeg,Int.reduceLT,Int.reduceLE,Int.reduceEq,Int.reduceToNat,Int.cast_ofNat_Int,↓reduceIte, *]
      refine condP_split (fun hlt => ?_) (fun hlt => ?_)
      · have hi' : i < t.length := by omega
        have g1 := k1.get (k := (i : Int)) (by omega) (by omega)
        have g0 := k1.get (k := 0) (by omega) (by omega)
        have gb := g1.bound
        have gb0 := g0.bound
        have bad : ¬ RowP v (gi t 0).length (gi t i) → AV.b false = AV.b (decide (ArrP v t)) := fun h => avb_f fun hh => h (hh.2.2.2.2 _ (mem_gi hi'))
        by_cases q1 : 1 ≤ (gi t i).length
        · by_cases q2 : (gi t i).length ≤ 8
          · by_cases q3 : (gi t i).length = (gi t 0).length
            · by_cases q4 : 0 ≤ minL (gi t i)
              · by_cases q5 : maxL (gi t i) < v
                · have q3' : ((gi t i).length : Int) = (gi t 0).length := by omega
                  simp (disch := (first | assumption | omega | (simp only [List.length_append, List.length_cons, List.length_nil]; omega))) only [↓wD,wU,Nat.reduceBEq,zx150,zx151,zx159,zx160,zx161,zx162,Nat.reduceAdd,Nat.reduceSub,Nat.reduceMul,Nat.reduceLeDiff,Nat.reduceLT,Nat.reduceEqDiff,Int.reduceAdd,Int.reduceSub,Int.reduceMul,Int.reduceNeg,Int.reduceLT,Int.reduceLE,Int.reduceEq,Int.reduceToNat,Int.cast_ofNat_Int,↓reduceIte, *, k1.L, g1.I, g0.I, (min_ret g1 q1).call, (max_ret g1 q1).call]
                  refine (ih hi').go ⟨rfl, ?_⟩
                  simp (disch := (first | assumption | omega | (simp only [List.length_append, List.length_cons, List.length_nil]; omega))) only [↓wD,wU,Nat.reduceBEq,zx150,zx151,zx159,zx160,zx161,zx162,Nat.reduceAdd,Nat.reduceSub,Nat.reduceMul,Nat.reduceLeDiff,Nat.reduceLT,Nat.reduceEqDiff,Int.reduceAdd,Int.reduceSub,Int.reduceMul,Int.reduceNeg,Int.reduceLT,Int.reduceLE,Int.reduceEq,Int.reduceToNat,Int.cast_ofNat_Int,↓reduceIte, *]
                  exact mem_take_gi hh hi' ⟨q3, q1, q2, chr_min q1 q4 q5⟩
                · have q3' : ((gi t i).length : Int) = (gi t 0).length := by omega
                  simp (disch := (first | assumption | omega | (simp only [List.length_append, List.length_cons, List.length_nil]; omega))) only [↓wD,wU,Nat.reduceBEq,zx150,zx151,zx159,zx160,zx161,zx162,Nat.reduceAdd,Nat.reduceSub,Nat.reduceMul,Nat.reduceLeDiff,Nat.reduceLT,Nat.reduceEqDiff,Int.reduceAdd,Int.reduceSub,Int.reduceMul,Int.reduceNeg,Int.reduceLT,Int.reduceLE,Int.reduceEq,Int.reduceToNat,Int.cast_ofNat_Int,↓reduceIte, *, k1.L, g1.I, g0.I, (min_ret g1 q1).call, (max_ret g1 q1).call]
                  exact bad fun h => q5 (chr_of q1 h.2.2.2).2
              · have q3' : ((gi t i).length : Int) = (gi t 0).length := by omega
                simp (disch := (first | assumption | omega | (simp only [List.length_append, List.length_cons, List.length_nil]; omega))) only [↓wD,wU,Nat.reduceBEq,zx150,zx151,zx159,zx160,zx161,zx162,Nat.reduceAdd,Nat.reduceSub,Nat.reduceMul,Nat.reduceLeDiff,Nat.reduceLT,Nat.reduceEqDiff,Int.reduceAdd,Int.reduceSub,Int.reduceMul,Int.reduceNeg,Int.reduceLT,Int.reduceLE,Int.reduceEq,Int.reduceToNat,Int.cast_ofNat_Int,↓reduceIte, *, k1.L, g1.I, g0.I, (min_ret g1 q1).call, (max_ret g1 q1).call]
                exact bad fun h => q4 (chr_of q1 h.2.2.2).1
            · have q3' : ¬ ((gi t i).length : Int) = (gi t 0).length := by omega
              simp (disch := (first | assumption | omega | (simp only [List.length_append, List.length_cons, List.length_nil]; omega))) only [↓wD,wU,Nat.reduceBEq,zx150,zx151,zx159,zx160,zx161,zx162,Nat.reduceAdd,Nat.reduceSub,Nat.reduceMul,Nat.reduceLeDiff,Nat.reduceLT,Nat.reduceEqDiff,Int.reduceAdd,Int.reduceSub,Int.reduceMul,Int.reduceNeg,Int.reduceLT,Int.reduceLE,Int.reduceEq,Int.reduceToNat,Int.cast_ofNat_Int,↓reduceIte, *, k1.L, g1.I, g0.I]
              exact bad fun h => q3 h.1
          · simp (disch := (first | assumption | omega | (simp only [List.length_append, List.length_cons, List.length_nil]; omega))) only [↓wD,wU,Nat.reduceBEq,zx150,zx151,zx159,zx160,zx161,zx162,Nat.reduceAdd,Nat.reduceSub,Nat.reduceMul,Nat.reduceLeDiff,Nat.reduceLT,Nat.reduceEqDiff,Int.reduceAdd,Int.reduceSub,Int.reduceMul,Int.reduceNeg,Int.reduceLT,Int.reduceLE,Int.reduceEq,Int.reduceToNat,Int.cast_ofNat_Int,↓reduceIte, *, k1.L, g1.I, g0.I]
            exact bad fun h => q2 h.2.2.1
        · simp (disch := (first | assumption | omega | (simp only [List.length_append, List.length_cons, List.length_nil]; omega))) only [↓wD,wU,Nat.reduceBEq,zx150,zx151,zx159,zx160,zx161,zx162,Nat.reduceAdd,Nat.reduceSub,Nat.reduceMul,Nat.reduceLeDiff,Nat.reduceLT,Nat.reduceEqDiff,Int.reduceAdd,Int.reduceSub,Int.reduceMul,Int.reduceNeg,Int.reduceLT,Int.reduceLE,Int.reduceEq,Int.reduceToNat,Int.cast_ofNat_Int,↓reduceIte, *, k1.L, g1.I, g0.I]
          exact bad fun h => q1 h.2.1
      · simp (disch := (first | assumption | omega | (simp only [List.length_append, List.length_cons, List.length_nil]; omega))) only [↓wD,wU,Nat.reduceBEq,zx150,zx151,zx159,zx160,zx161,zx162,Nat.reduceAdd,Nat.reduceSub,Nat.reduceMul,Nat.reduceLeDiff,Nat.reduceLT,Nat.reduceEqDiff,Int.reduceAdd,Int.reduceSub,Int.reduceMul,Int.reduceNeg,Int.reduceLT,Int.reduceLE,Int.reduceEq,Int.reduceToNat,Int.cast_ofNat_Int,↓reduceIte, *]
        exact avb_t ⟨v1, v2, t1, t2, mem_take_all hh (by omega)⟩
    · (simp (disch := (first | assumption | omega | (simp only [List.length_append, List.length_cons, List.length_nil]; omega))) only [↓wD,wU,Nat.reduceBEq,zx150,zx151,zx159,zx160,zx161,zx162,Nat.reduceAdd,Nat.reduceSub,Nat.reduceMul,Nat.reduceLeDiff,Nat.reduceLT,Nat.reduceEqDiff,Int.reduceAdd,Int.reduceSub,Int.reduceMul,Int.reduceNeg,Int.reduceLT,Int.reduceLE,Int.reduceEq,Int.reduceToNat,Int.cast_ofNat_Int,↓reduceIte, *]) <;> simp
  · have bad : ¬ ArrP v t := fun h => h0 ⟨h.1, h.2.1, h.2.2.1, h.2.2.2.1⟩
    by_cases h1 : v < 2
    · clear h0
      simp (disch := (first | assumption | omega | (simp only [List.length_append, List.length_cons, List.length_nil]; omega))) only [↓wD,wU,Nat.reduceBEq,zx150,zx151,zx159,zx160,zx161,zx162,Nat.reduceAdd,Nat.reduceSub,Nat.reduceMul,Nat.reduceLeDiff,Nat.reduceLT,Nat.reduceEqDiff,Int.reduceAdd,Int.reduceSub,Int.reduceMul,Int.reduceNeg,Int.reduceLT,Int.reduceLE,Int.reduceEq,Int.reduceToNat,Int.cast_ofNat_Int,↓reduceIte, *, ht.L]
    by_cases h2 : 4 < v
    · clear h0
      simp (disch := (first | assumption | omega | (simp only [List.length_append, List.length_cons, List.length_nil]; omega))) only [↓wD,wU,Nat.reduceBEq,zx150,zx151,zx159,zx160,zx161,zx162,Nat.reduceAdd,Nat.reduceSub,Nat.reduceMul,Nat.reduceLeDiff,Nat.reduceLT,Nat.reduceEqDiff,Int.reduceAdd,Int.reduceSub,Int.reduceMul,Int.reduceNeg,Int.reduceLT,Int.reduceLE,Int.reduceEq,Int.reduceToNat,Int.cast_ofNat_Int,↓reduceIte, *, ht.L]
    by_cases h3 : t.length < 1
    · clear h0
      simp (disch := (first | assumption | omega | (simp only [List.length_append, List.length_cons, List.length_nil]; omega))) only [↓wD,wU,Nat.reduceBEq,zx150,zx151,zx159,zx160,zx161,zx162,Nat.reduceAdd,Nat.reduceSub,Nat.reduceMul,Nat.reduceLeDiff,Nat.reduceLT,Nat.reduceEqDiff,Int.reduceAdd,Int.reduceSub,Int.reduceMul,Int.reduceNeg,Int.reduceLT,Int.reduceLE,Int.reduceEq,Int.reduceToNat,Int.cast_ofNat_Int,↓reduceIte, *, ht.L]
    · have h4 : 16 < t.length := by omega
      clear h0
      simp (disch := (first | assumption | omega | (simp only [List.length_append, List.length_cons, List.length_nil]; omega))) only [↓wD,wU,Nat.reduceBEq,zx150,zx151,zx159,zx160,zx161,zx162,Nat.reduceAdd,Nat.reduceSub,Nat.reduceMul,Nat.reduceLeDiff,Nat.reduceLT,Nat.reduceEqDiff,Int.reduceAdd,Int.reduceSub,Int.reduceMul,Int.reduceNeg,Int.reduceLT,Int.reduceLE,Int.reduceEq,Int.reduceToNat,Int.cast_ofNat_Int,↓reduceIte, *, ht.L]
theorem columns_ret {p : Nat → Prop} {H : Heap} {rows : AV} {v : Int} {t : List (List Int)} (ht : Sl p H rows t) (h : 1 ≤ t.length) : RetP E 75 [.ag [.i v, rows]] H (.i (wd t)) := by
  refine RetP.ro rfl fn75 rfl rfl ?_
  unfold f75A
  have k1 := ht.app [.cells [.i v, rows]]
  have g0 := k1.get (k := 0) (by omega) (by omega)
  simp (disch := (first | assumption | omega | (simp only [List.length_append, List.length_cons, List.length_nil]; omega))) only [↓wD,wU,Nat.reduceBEq,zx150,zx151,zx159,zx160,zx161,zx162,Nat.reduceAdd,Nat.reduceSub,Nat.reduceMul,Nat.reduceLeDiff,Nat.reduceLT,Nat.reduceEqDiff,Int.reduceAdd,Int.reduceSub,Int.reduceMul,Int.reduceNeg,Int.reduceLT,Int.reduceLE,Int.reduceEq,Int.reduceToNat,Int.cast_ofNat_Int,↓reduceIte, *, k1.L, g0.I]
  rfl
theorem strong_ret {p : Nat → Prop} {H : Heap} {rows : AV} {v k m : Int} {t : List (List Int)} (ht : Sl p H rows t) : RetP E 86 [.ag [.i v, rows], .i k, .i m] H (.b (decide (ArrP v t ∧ 1 ≤ k ∧ k ≤ m ∧ k ≤ wd t))) := by
  refine RetP.ro rfl fn86 rfl rfl ?_
  unfold f86A
  have k1 := ht.app [.cells [.i v, rows]]
  by_cases h : ArrP v t
  · (repeat' (first | refine condP_split (fun _ => ?_) (fun _ => ?_) | refine guardP_split (fun _ => ?_) (fun _ => ?_) | refine guardP_splitF (fun _ => ?_) (fun _ => ?_) | (simp (disch := (first | assumption | omega | (simp only [List.length_append, List.length_cons, List.length_nil]; omega))) only [↓wD,wU,Nat.reduceBEq,zx150,zx151,zx159,zx160,zx161,zx162,Nat.reduceAdd,Nat.reduceSub,Nat.reduceMul,Nat.reduceLeDiff,Nat.reduceLT,Nat.reduceEqDiff,Int.reduceAdd,Int.reduceSub,Int.reduceMul,Int.reduceNeg,Int.reduceLT,Int.reduceLE,Int.reduceEq,Int.reduceToNat,Int.cast_ofNat_Int,↓reduceIte, *, false_and, and_false, ht.L, (valid_ret k1).call, (columns_ret k1 h.2.2.1).call]))) <;> simp_all
  · (repeat' (first | refine condP_split (fun _ => ?_) (fun _ => ?_) | refine guardP_split (fun _ => ?_) (fun _ => ?_) | refine guardP_splitF (fun _ => ?_) (fun _ => ?_) | (simp (disch := (first | assumption | omega | (simp only [List.length_append, List.length_cons, List.length_nil]; omega))) only [↓wD,wU,Nat.reduceBEq,zx150,zx151,zx159,zx160,zx161,zx162,Nat.reduceAdd,Nat.reduceSub,Nat.reduceMul,Nat.reduceLeDiff,Nat.reduceLT,Nat.reduceEqDiff,Int.reduceAdd,Int.reduceSub,Int.reduceMul,Int.reduceNeg,Int.reduceLT,Int.reduceLE,Int.reduceEq,Int.reduceToNat,Int.cast_ofNat_Int,↓reduceIte, *, false_and, and_false, ht.L, (valid_ret k1).call]))) <;> simp_all
theorem rvalid_ret {p : Nat → Prop} {H : Heap} {rows : AV} {v : Int} {t : List (List Int)} (ht : Sl p H rows t) : RetP E 38 [.ag [.i v, rows]] H (.b (decide (ArrP v t))) := by
  refine RetP.ro rfl fn38 rfl rfl ?_
  unfold f38A
  have hb := ht.bound
  by_cases h0 : 2 ≤ v ∧ v ≤ 4 ∧ 1 ≤ t.length ∧ t.length ≤ 16
  · obtain ⟨v1, v2, t1, t2⟩ := h0
    simp (disch := (first | assumption | omega | (simp only [List.length_append, List.length_cons, List.length_nil]; omega))) only [↓wD,wU,Nat.reduceBEq,zx150,zx151,zx159,zx160,zx161,zx162,Nat.reduceAdd,Nat.reduceSub,Nat.reduceMul,Nat.reduceLeDiff,Nat.reduceLT,Nat.reduceEqDiff,Int.reduceAdd,Int.reduceSub,Int.reduceMul,Int.reduceNeg,Int.reduceLT,Int.reduceLE,Int.reduceEq,Int.reduceToNat,Int.cast_ofNat_Int,↓reduceIte, *, ht.L]
    have k1 := ht.app [.cells [.i v, rows]]
    refine Wp.for t.length (fun i a H' => H' = H ++ [.cells [.i v, rows]] ∧ a 1 = .p H.length 0 ∧ a 28 = rows ∧ a 29 = .i t.length ∧ a 30 = .i i ∧ ∀ r ∈ t.take i, RowP v (gi t 0).length r) ?_ ?_
    · rintro i a H' hi ⟨rfl, a1, a28, a29, a30, hh⟩ ih
      simp (disch := (first | assumption | omega | (simp only [List.length_append, List.length_cons, List.length_nil]; omega))) only [↓wD,wU,Nat.reduceBEq,zx150,zx151,zx159,zx160,zx161,zx162,Nat.reduceAdd,Nat.reduceSub,Nat.reduceMul,Nat.reduceLeDiff,Nat.reduceLT,Nat.reduceEqDiff,Int.reduceAdd,Int.reduceSub,Int.reduceMul,Int.reduceNeg,Int.reduceLT,Int.reduceLE,Int.reduceEq,Int.reduceToNat,Int.cast_ofNat_Int,↓reduceIte, *]
      refine condP_split (fun hlt => ?_) (fun hlt => ?_)
      · have hi' : i < t.length := by omega
        have g1 := k1.get (k := (i : Int)) (by omega) (by omega)
        have g0 := k1.get (k := 0) (by omega) (by omega)
        have gb := g1.bound
        have gb0 := g0.bound
        have bad : ¬ RowP v (gi t 0).length (gi t i) → AV.b false = AV.b (decide (ArrP v t)) := fun h => avb_f fun hh => h (hh.2.2.2.2 _ (mem_gi hi'))
        by_cases q3 : (gi t i).length = (gi t 0).length
        · have q3' : ((gi t i).length : Int) = (gi t 0).length := by omega
          by_cases q1 : 1 ≤ (gi t i).length
          · by_cases q2 : (gi t i).length ≤ 8
            · simp (disch := (first | assumption | omega | (simp only [List.length_append, List.length_cons, List.length_nil]; omega))) only [↓wD,wU,Nat.reduceBEq,zx150,zx151,zx159,zx160,zx161,zx162,Nat.reduceAdd,Nat.reduceSub,Nat.reduceMul,Nat.reduceLeDiff,Nat.reduceLT,Nat.reduceEqDiff,Int.reduceAdd,Int.reduceSub,Int.reduceMul,Int.reduceNeg,Int.reduceLT,Int.reduceLE,Int.reduceEq,Int.reduceToNat,Int.cast_ofNat_Int,↓reduceIte, *, k1.L, g1.I, g0.I]
              refine Wp.for (gi t i).length (fun j a H' => H' = H ++ [.cells [.i v, rows]] ∧ a 1 = .p H.length 0 ∧ a 28 = rows ∧ a 29 = .i t.length ∧ a 30 = .i i ∧ a 52 = rows.get (H ++ [.cells [.i v, rows]]) i ∧ (∃ n : Int, a 53 = .i n ∧ n ≤ (gi t i).length ∧ (gi t i).length ≤ n) ∧ a 54 = .i j ∧ ChR v ((gi t i).take j)) ?_ ?_
              · rintro j a H' hj ⟨rfl, a1, a28, a29, a30, a52, ⟨n, a53, n1, n2⟩, a54, hh2⟩ ih2
                simp (disch := (first | assumption | omega | (simp only [List.length_append, List.length_cons, List.length_nil]; omega))) only [↓wD,wU,Nat.reduceBEq,zx150,zx151,zx159,zx160,zx161,zx162,Nat.reduceAdd,Nat.reduceSub,Nat.reduceMul,Nat.reduceLeDiff,Nat.reduceLT,Nat.reduceEqDiff,Int.reduceAdd,Int.reduceSub,Int.reduceMul,Int.reduceNeg,Int.reduceLT,Int.reduceLE,Int.reduceEq,Int.reduceToNat,Int.cast_ofNat_Int,↓reduceIte, *]
                refine condP_split (fun hlt2 => ?_) (fun hlt2 => ?_)
                · have hj' : j < (gi t i).length := by omega
                  have bad2 : ¬ (0 ≤ gi (gi t i) j ∧ gi (gi t i) j < v) → AV.b false = AV.b (decide (ArrP v t)) := fun h => bad fun hh => h (hh.2.2.2 _ (mem_gi hj'))
                  (repeat' (first | refine condP_split (fun _ => ?_) (fun _ => ?_) | refine guardP_split (fun _ => ?_) (fun _ => ?_) | refine guardP_splitF (fun _ => ?_) (fun _ => ?_) | (simp (disch := (first | assumption | omega | (simp only [List.length_append, List.length_cons, List.length_nil]; omega))) only [↓wD,wU,Nat.reduceBEq,zx150,zx151,zx159,zx160,zx161,zx162,Nat.reduceAdd,Nat.reduceSub,Nat.reduceMul,Nat.reduceLeDiff,Nat.reduceLT,Nat.reduceEqDiff,Int.reduceAdd,Int.reduceSub,Int.reduceMul,Int.reduceNeg,Int.reduceLT,Int.reduceLE,Int.reduceEq,Int.reduceToNat,Int.cast_ofNat_Int,↓reduceIte, *, g1.I]))) <;> first | exact bad2 (by omega) | skip
                  refine (ih2 hj').go ⟨rfl, ?_⟩
                  simp (disch := (first | assumption | omega | (simp only [List.length_append, List.length_cons, List.length_nil]; omega))) only [↓wD,wU,Nat.reduceBEq,zx150,zx151,zx159,zx160,zx161,zx162,Nat.reduceAdd,Nat.reduceSub,Nat.reduceMul,Nat.reduceLeDiff,Nat.reduceLT,Nat.reduceEqDiff,Int.reduceAdd,Int.reduceSub,Int.reduceMul,Int.reduceNeg,Int.reduceLT,Int.reduceLE,Int.reduceEq,Int.reduceToNat,Int.cast_ofNat_Int,↓reduceIte, *]
                  exact ⟨⟨n, rfl, by omega, by omega⟩, mem_take_gi (P := fun x => 0 ≤ x ∧ x < v) hh2 hj' (by omega)⟩
                · simp (disch := (first | assumption | omega | (simp only [List.length_append, List.length_cons, List.length_nil]; omega))) only [↓wD,wU,Nat.reduceBEq,zx150,zx151,zx159,zx160,zx161,zx162,Nat.reduceAdd,Nat.reduceSub,Nat.reduceMul,Nat.reduceLeDiff,Nat.reduceLT,Nat.reduceEqDiff,Int.reduceAdd,Int.reduceSub,Int.reduceMul,Int.reduceNeg,Int.reduceLT,Int.reduceLE,Int.reduceEq,Int.reduceToNat,Int.cast_ofNat_Int,↓reduceIte, *]
                  refine (ih hi').go ⟨rfl, ?_⟩
                  simp (disch := (first | assumption | omega | (simp only [List.length_append, List.length_cons, List.length_nil]; omega))) only [↓wD,wU,Nat.reduceBEq,zx150,zx151,zx159,zx160,zx161,zx162,Nat.reduceAdd,Nat.reduceSub,Nat.reduceMul,Nat.reduceLeDiff,Nat.reduceLT,Nat.reduceEqDiff,Int.reduceAdd,Int.reduceSub,Int.reduceMul,Int.reduceNeg,Int.reduceLT,Int.reduceLE,Int.reduceEq,Int.reduceToNat,Int.cast_ofNat_Int,↓reduceIte, *]
                  exact mem_take_gi hh hi' ⟨q3, q1, q2, mem_take_all hh2 (by omega)⟩
              · (simp (disch := (first | assumption | omega | (simp only [List.length_append, List.length_cons, List.length_nil]; omega))) only [↓wD,wU,Nat.reduceBEq,zx150,zx151,zx159,zx160,zx161,zx162,Nat.reduceAdd,Nat.reduceSub,Nat.reduceMul,Nat.reduceLeDiff,Nat.reduceLT,Nat.reduceEqDiff,Int.reduceAdd,Int.reduceSub,Int.reduceMul,Int.reduceNeg,Int.reduceLT,Int.reduceLE,Int.reduceEq,Int.reduceToNat,Int.cast_ofNat_Int,↓reduceIte, *]) <;> (first | exact ⟨⟨_, rfl, by omega, by omega⟩, by simp [ChR]⟩ | simp [ChR])
            · simp (disch := (first | assumption | omega | (simp only [List.length_append, List.length_cons, List.length_nil]; omega))) only [↓wD,wU,Nat.reduceBEq,zx150,zx151,zx159,zx160,zx161,zx162,Nat.reduceAdd,Nat.reduceSub,Nat.reduceMul,Nat.reduceLeDiff,Nat.reduceLT,Nat.reduceEqDiff,Int.reduceAdd,Int.reduceSub,Int.reduceMul,Int.reduceNeg,Int.reduceLT,Int.reduceLE,Int.reduceEq,Int.reduceToNat,Int.cast_ofNat_Int,↓reduceIte, *, k1.L, g1.I, g0.I]
              exact bad fun h => q2 h.2.2.1
          · simp (disch := (first | assumption | omega | (simp only [List.length_append, List.length_cons, List.length_nil]; omega))) only [↓wD,wU,Nat.reduceBEq,zx150,zx151,zx159,zx160,zx161,zx162,Nat.reduceAdd,Nat.reduceSub,Nat.reduceMul,Nat.reduceLeDiff,Nat.reduceLT,Nat.reduceEqDiff,Int.reduceAdd,Int.reduceSub,Int.reduceMul,Int.reduceNeg,Int.reduceLT,Int.reduceLE,Int.reduceEq,Int.reduceToNat,Int.cast_ofNat_Int,↓reduceIte, *, k1.L, g1.I, g0.I]
            exact bad fun h => q1 h.2.1
        · have q3' : ¬ ((gi t i).length : Int) = (gi t 0).length := by omega
          simp (disch := (first | assumption | omega | (simp only [List.length_append, List.length_cons, List.length_nil]; omega))) only [↓wD,wU,Nat.reduceBEq,zx150,zx151,zx159,zx160,zx161,zx162,Nat.reduceAdd,Nat.reduceSub,Nat.reduceMul,Nat.reduceLeDiff,Nat.reduceLT,Nat.reduceEqDiff,Int.reduceAdd,Int.reduceSub,Int.reduceMul,Int.reduceNeg,Int.reduceLT,Int.reduceLE,Int.reduceEq,Int.reduceToNat,Int.cast_ofNat_Int,↓reduceIte, *, k1.L, g1.I, g0.I]
          exact bad fun h => q3 h.1
      · simp (disch := (first | assumption | omega | (simp only [List.length_append, List.length_cons, List.length_nil]; omega))) only [↓wD,wU,Nat.reduceBEq,zx150,zx151,zx159,zx160,zx161,zx162,Nat.reduceAdd,Nat.reduceSub,Nat.reduceMul,Nat.reduceLeDiff,Nat.reduceLT,Nat.reduceEqDiff,Int.reduceAdd,Int.reduceSub,Int.reduceMul,Int.reduceNeg,Int.reduceLT,Int.reduceLE,Int.reduceEq,Int.reduceToNat,Int.cast_ofNat_Int,↓reduceIte, *]
        exact avb_t ⟨v1, v2, t1, t2, mem_take_all hh (by omega)⟩
    · (simp (disch := (first | assumption | omega | (simp only [List.length_append, List.length_cons, List.length_nil]; omega))) only [↓wD,wU,Nat.reduceBEq,zx150,zx151,zx159,zx160,zx161,zx162,Nat.reduceAdd,Nat.reduceSub,Nat.reduceMul,Nat.reduceLeDiff,Nat.reduceLT,Nat.reduceEqDiff,Int.reduceAdd,Int.reduceSub,Int.reduceMul,Int.reduceNeg,Int.reduceLT,Int.reduceLE,Int.reduceEq,Int.reduceToNat,Int.cast_ofNat_Int,↓reduceIte, *]) <;> simp
  · have bad : ¬ ArrP v t := fun h => h0 ⟨h.1, h.2.1, h.2.2.1, h.2.2.2.1⟩
    by_cases h1 : v < 2
    · clear h0
      simp (disch := (first | assumption | omega | (simp only [List.length_append, List.length_cons, List.length_nil]; omega))) only [↓wD,wU,Nat.reduceBEq,zx150,zx151,zx159,zx160,zx161,zx162,Nat.reduceAdd,Nat.reduceSub,Nat.reduceMul,Nat.reduceLeDiff,Nat.reduceLT,Nat.reduceEqDiff,Int.reduceAdd,Int.reduceSub,Int.reduceMul,Int.reduceNeg,Int.reduceLT,Int.reduceLE,Int.reduceEq,Int.reduceToNat,Int.cast_ofNat_Int,↓reduceIte, *, ht.L]
    by_cases h2 : 4 < v
    · clear h0
      simp (disch := (first | assumption | omega | (simp only [List.length_append, List.length_cons, List.length_nil]; omega))) only [↓wD,wU,Nat.reduceBEq,zx150,zx151,zx159,zx160,zx161,zx162,Nat.reduceAdd,Nat.reduceSub,Nat.reduceMul,Nat.reduceLeDiff,Nat.reduceLT,Nat.reduceEqDiff,Int.reduceAdd,Int.reduceSub,Int.reduceMul,Int.reduceNeg,Int.reduceLT,Int.reduceLE,Int.reduceEq,Int.reduceToNat,Int.cast_ofNat_Int,↓reduceIte, *, ht.L]
    by_cases h3 : t.length < 1
    · clear h0
      simp (disch := (first | assumption | omega | (simp only [List.length_append, List.length_cons, List.length_nil]; omega))) only [↓wD,wU,Nat.reduceBEq,zx150,zx151,zx159,zx160,zx161,zx162,Nat.reduceAdd,Nat.reduceSub,Nat.reduceMul,Nat.reduceLeDiff,Nat.reduceLT,Nat.reduceEqDiff,Int.reduceAdd,Int.reduceSub,Int.reduceMul,Int.reduceNeg,Int.reduceLT,Int.reduceLE,Int.reduceEq,Int.reduceToNat,Int.cast_ofNat_Int,↓reduceIte, *, ht.L]
    · have h4 : 16 < t.length := by omega
      clear h0
      simp (disch := (first | assumption | omega | (simp only [List.length_append, List.length_cons, List.length_nil]; omega))) only [↓wD,wU,Nat.reduceBEq,zx150,zx151,zx159,zx160,zx161,zx162,Nat.reduceAdd,Nat.reduceSub,Nat.reduceMul,Nat.reduceLeDiff,Nat.reduceLT,Nat.reduceEqDiff,Int.reduceAdd,Int.reduceSub,Int.reduceMul,Int.reduceNeg,Int.reduceLT,Int.reduceLE,Int.reduceEq,Int.reduceToNat,Int.cast_ofNat_Int,↓reduceIte, *, ht.L]
theorem width_ret {p : Nat → Prop} {H : Heap} {rows : AV} {v : Int} {t : List (List Int)} (ht : Sl p H rows t) (h : 1 ≤ t.length) : RetP E 39 [.ag [.i v, rows]] H (.i (wd t)) := by
  refine RetP.ro rfl fn39 rfl rfl ?_
  unfold f39A
  have k1 := ht.app [.cells [.i v, rows]]
  have g0 := k1.get (k := 0) (by omega) (by omega)
  simp (disch := (first | assumption | omega | (simp only [List.length_append, List.length_cons, List.length_nil]; omega))) only [↓wD,wU,Nat.reduceBEq,zx150,zx151,zx159,zx160,zx161,zx162,Nat.reduceAdd,Nat.reduceSub,Nat.reduceMul,Nat.reduceLeDiff,Nat.reduceLT,Nat.reduceEqDiff,Int.reduceAdd,Int.reduceSub,Int.reduceMul,Int.reduceNeg,Int.reduceLT,Int.reduceLE,Int.reduceEq,Int.reduceToNat,Int.cast_ofNat_Int,↓reduceIte, *, k1.L, g0.I]
  rfl
theorem deep_ret {p : Nat → Prop} {H : Heap} {rows : AV} {v k : Int} {t : List (List Int)} (ht : Sl p H rows t) : RetP E 52 [.ag [.i v, rows], .i k] H (.b (decide (ArrP v t ∧ 1 ≤ k ∧ k ≤ 3 ∧ k ≤ wd t))) := by
  refine RetP.ro rfl fn52 rfl rfl ?_
  unfold f52A
  have k1 := ht.app [.cells [.i v, rows]]
  by_cases h : ArrP v t
  · (repeat' (first | refine condP_split (fun _ => ?_) (fun _ => ?_) | refine guardP_split (fun _ => ?_) (fun _ => ?_) | refine guardP_splitF (fun _ => ?_) (fun _ => ?_) | (simp (disch := (first | assumption | omega | (simp only [List.length_append, List.length_cons, List.length_nil]; omega))) only [↓wD,wU,Nat.reduceBEq,zx150,zx151,zx159,zx160,zx161,zx162,Nat.reduceAdd,Nat.reduceSub,Nat.reduceMul,Nat.reduceLeDiff,Nat.reduceLT,Nat.reduceEqDiff,Int.reduceAdd,Int.reduceSub,Int.reduceMul,Int.reduceNeg,Int.reduceLT,Int.reduceLE,Int.reduceEq,Int.reduceToNat,Int.cast_ofNat_Int,↓reduceIte, *, false_and, and_false, ht.L, (rvalid_ret k1).call, (width_ret k1 h.2.2.1).call]))) <;> simp_all
  · (repeat' (first | refine condP_split (fun _ => ?_) (fun _ => ?_) | refine guardP_split (fun _ => ?_) (fun _ => ?_) | refine guardP_splitF (fun _ => ?_) (fun _ => ?_) | (simp (disch := (first | assumption | omega | (simp only [List.length_append, List.length_cons, List.length_nil]; omega))) only [↓wD,wU,Nat.reduceBEq,zx150,zx151,zx159,zx160,zx161,zx162,Nat.reduceAdd,Nat.reduceSub,Nat.reduceMul,Nat.reduceLeDiff,Nat.reduceLT,Nat.reduceEqDiff,Int.reduceAdd,Int.reduceSub,Int.reduceMul,Int.reduceNeg,Int.reduceLT,Int.reduceLE,Int.reduceEq,Int.reduceToNat,Int.cast_ofNat_Int,↓reduceIte, *, false_and, and_false, ht.L, (rvalid_ret k1).call]))) <;> simp_all
end Go.Proofs.Ytalaadcbpjnglaa
namespace Go.Proofs.Ytalaadcbpjnglaa
open Go Go.AM Go.Proofs
theorem list_ret {p : Nat → Prop} {H : Heap} {v : AV} {xs : List Int} (hx : Sl p H v xs) : Ret E 35 [v] (fun _ => False) H (xs.take 11) := by
  refine Ret.ro rfl fn35 rfl ?_
  unfold f35A
  have hb := hx.bound
  have hs : slV 1 v none (some (.i (min (xs.length : Int) 11))) none = some (v.cut 0 (min xs.length 11)) := by
    refine hx.slV_lh none _ (b := min xs.length 11) ?_ (bound_none (by omega)) (by omega) (by omega)
    rw [bound_some (by omega) (by omega)]
    congr 1
    omega
  simp (disch := (first | assumption | omega | (simp only [List.length_append, List.length_cons, List.length_nil]; omega))) only [↓wD,wU,Nat.reduceBEq,zx150,zx151,zx159,zx160,zx161,zx162,Nat.reduceAdd,Nat.reduceSub,Nat.reduceMul,Nat.reduceLeDiff,Nat.reduceLT,Nat.reduceEqDiff,Int.reduceAdd,Int.reduceSub,Int.reduceMul,Int.reduceNeg,Int.reduceLT,Int.reduceLE,Int.reduceEq,Int.reduceToNat,Int.cast_ofNat_Int,↓reduceIte, *, hx.I, hs]
  have hc := hx.cut (a := 0) (b := min xs.length 11) (by omega) (by omega)
  have e : (xs.drop 0).take (min xs.length 11 - 0) = xs.take 11 := by
    rw [List.drop_zero, Nat.sub_zero]
    by_cases hl : xs.length ≤ 11
    · rw [List.take_of_length_le (by omega), List.take_of_length_le hl]
    · congr 1; omega
  rw [e] at hc
  refine (clone_ret hc (by rw [List.length_take]; omega)).go fun u N hu => ?_
  simp (disch := (first | assumption | omega | (simp only [List.length_append, List.length_cons, List.length_nil]; omega))) only [↓wD,wU,Nat.reduceBEq,zx150,zx151,zx159,zx160,zx161,zx162,Nat.reduceAdd,Nat.reduceSub,Nat.reduceMul,Nat.reduceLeDiff,Nat.reduceLT,Nat.reduceEqDiff,Int.reduceAdd,Int.reduceSub,Int.reduceMul,Int.reduceNeg,Int.reduceLT,Int.reduceLE,Int.reduceEq,Int.reduceToNat,Int.cast_ofNat_Int,↓reduceIte]
  exact hu
def cutA (t : List (List Int)) : List (List Int) := (t.take 19).map fun r => r.take 11
theorem of_ret {p : Nat → Prop} {H : Heap} {rows : AV} {v : Int} {t : List (List Int)} (ht : Sl p H rows t) : Ret E 32 [.ag [.i v, rows]] (fun _ => False) H ((v, cutA t) : Int × List (List Int)) := by
  refine Ret.ro rfl fn32 rfl ?_
  unfold f32A
  have hb := ht.bound
  simp (disch := (first | assumption | omega | (simp only [List.length_append, List.length_cons, List.length_nil]; omega))) only [↓wD,wU,Nat.reduceBEq,zx150,zx151,zx159,zx160,zx161,zx162,Nat.reduceAdd,Nat.reduceSub,Nat.reduceMul,Nat.reduceLeDiff,Nat.reduceLT,Nat.reduceEqDiff,Int.reduceAdd,Int.reduceSub,Int.reduceMul,Int.reduceNeg,Int.reduceLT,Int.reduceLE,Int.reduceEq,Int.reduceToNat,Int.cast_ofNat_Int,↓reduceIte, *, ht.L]
  replace ht : Sl (fun b => b < H.length) H rows t := ht.low.weak fun _ h => h.2
  refine Wp.for t.length (fun i a H' => ∃ u, a 10 = rows ∧ a 11 = .i t.length ∧ a 12 = .i i ∧ a 2 = .p (H.length + 1) 0 ∧ a 3 = .p (H.length + 2) 0 ∧ Gr H H' ∧ H.length + 3 ≤ H'.length ∧
    H'[H.length + 1]? = some (.cells [.i 0, .nils]) ∧ H'[H.length + 2]? = some (.cells [.i v, u]) ∧ Acc (H.length + 3) (fun b => H.length + 3 ≤ b) H' u (((t.take i).take 19).map fun r => r.take 11)) ?_ ?_
  · rintro i a H1 hi ⟨u, a10, a11, a12, a2, a3, hg, hl, c2, c3, hu⟩ ih
    simp (disch := (first | assumption | omega | (simp only [List.length_append, List.length_cons, List.length_nil]; omega))) only [↓wD,wU,Nat.reduceBEq,zx150,zx151,zx159,zx160,zx161,zx162,Nat.reduceAdd,Nat.reduceSub,Nat.reduceMul,Nat.reduceLeDiff,Nat.reduceLT,Nat.reduceEqDiff,Int.reduceAdd,Int.reduceSub,Int.reduceMul,Int.reduceNeg,Int.reduceLT,Int.reduceLE,Int.reduceEq,Int.reduceToNat,Int.cast_ofNat_Int,↓reduceIte, *]
    refine condP_split (fun hlt => ?_) (fun hlt => ?_)
    · have hi' : i < t.length := by omega
      have ht1 := ht.gr hg
      have g := ht1.get (k := (i : Int)) (by omega) (by omega)
      simp (disch := (first | assumption | omega | (simp only [List.length_append, List.length_cons, List.length_nil]; omega))) only [↓wD,wU,Nat.reduceBEq,zx150,zx151,zx159,zx160,zx161,zx162,Nat.reduceAdd,Nat.reduceSub,Nat.reduceMul,Nat.reduceLeDiff,Nat.reduceLT,Nat.reduceEqDiff,Int.reduceAdd,Int.reduceSub,Int.reduceMul,Int.reduceNeg,Int.reduceLT,Int.reduceLE,Int.reduceEq,Int.reduceToNat,Int.cast_ofNat_Int,↓reduceIte, *, ht1.L]
      refine condP_split (fun h6 => ?_) (fun h6 => ?_)
      · simp (disch := (first | assumption | omega | (simp only [List.length_append, List.length_cons, List.length_nil]; omega))) only [↓wD,wU,Nat.reduceBEq,zx150,zx151,zx159,zx160,zx161,zx162,Nat.reduceAdd,Nat.reduceSub,Nat.reduceMul,Nat.reduceLeDiff,Nat.reduceLT,Nat.reduceEqDiff,Int.reduceAdd,Int.reduceSub,Int.reduceMul,Int.reduceNeg,Int.reduceLT,Int.reduceLE,Int.reduceEq,Int.reduceToNat,Int.cast_ofNat_Int,↓reduceIte, *, ld_of c3]
        refine (list_ret g).toF fun y H2 hg2 hy => ?_
        have hl2 := hg2.1
        simp (disch := (first | assumption | omega | (simp only [List.length_append, List.length_cons, List.length_nil]; omega))) only [↓wD,wU,Nat.reduceBEq,zx150,zx151,zx159,zx160,zx161,zx162,Nat.reduceAdd,Nat.reduceSub,Nat.reduceMul,Nat.reduceLeDiff,Nat.reduceLT,Nat.reduceEqDiff,Int.reduceAdd,Int.reduceSub,Int.reduceMul,Int.reduceNeg,Int.reduceLT,Int.reduceLE,Int.reduceEq,Int.reduceToNat,Int.cast_ofNat_Int,↓reduceIte, *, hy.cellsV]
        have hu2 := hu.gr hg2
        refine hu2.pushL (by omega) (by omega) hy (fun b hb => ⟨by omega, fun e => by have := hu.blk_lt e; omega⟩) ?_ fun u' H3 hu' hk3 hl3' _ => ?_
        · simp; omega
        · have c33 := hk3.get (b := H.length + 2) (fun e => by have := hu2.blk_lt e; omega) (hg2.get c3)
          have c23 := hk3.get (b := H.length + 1) (fun e => by have := hu2.blk_lt e; omega) (hg2.get c2)
          simp (disch := (first | assumption | omega | (simp only [List.length_append, List.length_cons, List.length_nil]; omega))) only [↓wD,wU,Nat.reduceBEq,zx150,zx151,zx159,zx160,zx161,zx162,Nat.reduceAdd,Nat.reduceSub,Nat.reduceMul,Nat.reduceLeDiff,Nat.reduceLT,Nat.reduceEqDiff,Int.reduceAdd,Int.reduceSub,Int.reduceMul,Int.reduceNeg,Int.reduceLT,Int.reduceLE,Int.reduceEq,Int.reduceToNat,Int.cast_ofNat_Int,↓reduceIte, *, st_of c33, hu'.cellsV]
          refine (ih hi').go ⟨u', ?_⟩
          simp (disch := (first | assumption | omega | (simp only [List.length_append, List.length_cons, List.length_nil]; omega))) only [↓wD,wU,Nat.reduceBEq,zx150,zx151,zx159,zx160,zx161,zx162,Nat.reduceAdd,Nat.reduceSub,Nat.reduceMul,Nat.reduceLeDiff,Nat.reduceLT,Nat.reduceEqDiff,Int.reduceAdd,Int.reduceSub,Int.reduceMul,Int.reduceNeg,Int.reduceLT,Int.reduceLE,Int.reduceEq,Int.reduceToNat,Int.cast_ofNat_Int,↓reduceIte, *]
          have e : ((t.take (i + 1)).take 19) = (t.take i).take 19 ++ [gi t i] := by
            rw [List.take_take, List.take_take, show min 19 (i + 1) = i + 1 by omega, show min 19 i = i by omega, take_gi hi']
          rw [e, List.map_append]
          refine ⟨((hg.trans hg2).push hu2 (by omega) hk3).set (by omega) _, by simp; omega, by rw [List.getElem?_set_ne (by omega)]; exact c23, get_set c33, ?_⟩
          exact hu'.mono ((Kp.set _ _ _).weak fun b hb => by omega) fun _ h => h
      · simp (disch := (first | assumption | omega | (simp only [List.length_append, List.length_cons, List.length_nil]; omega))) only [↓wD,wU,Nat.reduceBEq,zx150,zx151,zx159,zx160,zx161,zx162,Nat.reduceAdd,Nat.reduceSub,Nat.reduceMul,Nat.reduceLeDiff,Nat.reduceLT,Nat.reduceEqDiff,Int.reduceAdd,Int.reduceSub,Int.reduceMul,Int.reduceNeg,Int.reduceLT,Int.reduceLE,Int.reduceEq,Int.reduceToNat,Int.cast_ofNat_Int,↓reduceIte, *]
        refine (ih hi').go ⟨u, ?_⟩
        simp (disch := (first | assumption | omega | (simp only [List.length_append, List.length_cons, List.length_nil]; omega))) only [↓wD,wU,Nat.reduceBEq,zx150,zx151,zx159,zx160,zx161,zx162,Nat.reduceAdd,Nat.reduceSub,Nat.reduceMul,Nat.reduceLeDiff,Nat.reduceLT,Nat.reduceEqDiff,Int.reduceAdd,Int.reduceSub,Int.reduceMul,Int.reduceNeg,Int.reduceLT,Int.reduceLE,Int.reduceEq,Int.reduceToNat,Int.cast_ofNat_Int,↓reduceIte, *]
        have e : ((t.take (i + 1)).take 19) = (t.take i).take 19 := by
          rw [List.take_take, List.take_take]; congr 1; omega
        rw [e]; first | exact hu | exact ⟨hg, hu⟩ | exact ⟨hg, hl, hu⟩
    · have e : i = t.length := by omega
      subst e
      simp (disch := (first | assumption | omega | (simp only [List.length_append, List.length_cons, List.length_nil]; omega))) only [↓wD,wU,Nat.reduceBEq,zx150,zx151,zx159,zx160,zx161,zx162,Nat.reduceAdd,Nat.reduceSub,Nat.reduceMul,Nat.reduceLeDiff,Nat.reduceLT,Nat.reduceEqDiff,Int.reduceAdd,Int.reduceSub,Int.reduceMul,Int.reduceNeg,Int.reduceLT,Int.reduceLE,Int.reduceEq,Int.reduceToNat,Int.cast_ofNat_Int,↓reduceIte, *, ldn_of c3, st_of c2, hu.cellsV]
      simp (disch := (first | assumption | omega | (simp only [List.length_append, List.length_cons, List.length_nil]; omega))) only [↓wD,wU,Nat.reduceBEq,zx150,zx151,zx159,zx160,zx161,zx162,Nat.reduceAdd,Nat.reduceSub,Nat.reduceMul,Nat.reduceLeDiff,Nat.reduceLT,Nat.reduceEqDiff,Int.reduceAdd,Int.reduceSub,Int.reduceMul,Int.reduceNeg,Int.reduceLT,Int.reduceLE,Int.reduceEq,Int.reduceToNat,Int.cast_ofNat_Int,↓reduceIte, *, ldn_of (get_set c2)]
      rw [List.take_length] at hu
      exact rv_si ((hu.mono ((Kp.set _ _ _).weak fun b hb => by omega) fun _ h => h).sl.weak fun b h => .inr (by omega))
  · simp (disch := (first | assumption | omega | (simp only [List.length_append, List.length_cons, List.length_nil]; omega))) only [↓wD,wU,Nat.reduceBEq,zx150,zx151,zx159,zx160,zx161,zx162,Nat.reduceAdd,Nat.reduceSub,Nat.reduceMul,Nat.reduceLeDiff,Nat.reduceLT,Nat.reduceEqDiff,Int.reduceAdd,Int.reduceSub,Int.reduceMul,Int.reduceNeg,Int.reduceLT,Int.reduceLE,Int.reduceEq,Int.reduceToNat,Int.cast_ofNat_Int,↓reduceIte, *]
    refine ⟨.nils, ?_⟩
    simp (disch := (first | assumption | omega | (simp only [List.length_append, List.length_cons, List.length_nil]; omega))) only [↓wD,wU,Nat.reduceBEq,zx150,zx151,zx159,zx160,zx161,zx162,Nat.reduceAdd,Nat.reduceSub,Nat.reduceMul,Nat.reduceLeDiff,Nat.reduceLT,Nat.reduceEqDiff,Int.reduceAdd,Int.reduceSub,Int.reduceMul,Int.reduceNeg,Int.reduceLT,Int.reduceLE,Int.reduceEq,Int.reduceToNat,Int.cast_ofNat_Int,↓reduceIte, *]
    exact ⟨(((Gr.refl H).app _).app _).app _, Acc.nil⟩
theorem cutA_ok {v : Int} {t : List (List Int)} (h : ArrP v t) : cutA t = t := by
  unfold cutA
  rw [List.take_of_length_le (by have := h.2.2.2.1; omega)]
  conv => rhs; rw [← List.map_id t]
  apply List.map_congr_left
  intro r hr
  exact List.take_of_length_le (by have := (h.2.2.2.2 r hr).2.2.1; omega)
theorem ArrP_cut {v : Int} {t : List (List Int)} : ArrP v (cutA t) ↔ ArrP v t := by
  constructor
  · intro h
    have e : cutA t = t := by
      have h1 : t.length ≤ 16 := by have := h.2.2.2.1; simp [cutA] at this; omega
      unfold cutA
      rw [List.take_of_length_le (by omega)]
      conv => rhs; rw [← List.map_id t]
      apply List.map_congr_left
      intro r hr
      have hm : r.take 11 ∈ cutA t := by
        unfold cutA
        rw [List.take_of_length_le (by omega)]
        exact List.mem_map_of_mem hr
      have := (h.2.2.2.2 _ hm).2.2.1
      rw [List.length_take] at this
      exact List.take_of_length_le (by omega)
    rwa [e] at h
  · intro h
    rw [cutA_ok h]; exact h
end Go.Proofs.Ytalaadcbpjnglaa
namespace Go.Proofs.Ytalaadcbpjnglaa
open Go Go.AM Go.Proofs
def comesL (rs cs ks : List Int) : Bool := (cs.zip ks).all fun q => gi rs q.1 == q.2
theorem zip_take_succ {α : Type} [Inhabited α] {xs ys : List α} {i : Nat} (h1 : i < xs.length) (h2 : i < ys.length) : (xs.take (i + 1)).zip (ys.take (i + 1)) = (xs.take i).zip (ys.take i) ++ [(gi xs i, gi ys i)] := by
  rw [take_gi h1, take_gi h2, List.zip_append (by simp; omega)]; rfl
theorem comesL_succ {rs cs ks : List Int} {i : Nat} (h1 : i < cs.length) (h2 : i < ks.length) : comesL rs (cs.take (i + 1)) (ks.take (i + 1)) = (comesL rs (cs.take i) (ks.take i) && (gi rs (gi cs i) == gi ks i)) := by
  simp [comesL, zip_take_succ h1 h2, List.all_append]
theorem comesL_all {rs cs ks : List Int} {i : Nat} (h1 : cs.length ≤ i) (h2 : ks.length ≤ i) : comesL rs (cs.take i) (ks.take i) = comesL rs cs ks := by
  rw [List.take_of_length_le h1, List.take_of_length_le h2]
theorem comesL_f {rs cs ks : List Int} {i : Nat} (h1 : i < cs.length) (h2 : i < ks.length) (h : ¬ gi rs (gi cs i) = gi ks i) : comesL rs cs ks = false := by
  rw [← Bool.not_eq_true]
  intro hh
  unfold comesL at hh
  rw [List.all_eq_true] at hh
  have := hh (cs[i], ks[i]) (List.mem_iff_getElem.2 ⟨i, by simp; omega, by simp⟩)
  rw [gi_nat h1, gi_nat h2] at h
  simp at this
  exact h this
theorem comes_ret {p q p' : Nat → Prop} {H : Heap} {row cols ch : AV} {rs cs ks : List Int} (hr : Sl p H row rs) (hc : Sl q H cols cs) (hk : Sl p' H ch ks) (hl : cs.length = ks.length) (hb : ∀ c ∈ cs, 0 ≤ c ∧ c < rs.length) :
    RetP E 101 [row, cols, ch] H (.b (comesL rs cs ks)) := by
  refine RetP.ro rfl fn101 rfl rfl ?_
  unfold f101A
  simp (disch := (first | assumption | omega | (simp only [List.length_append, List.length_cons, List.length_nil]; omega))) only [↓wD,wU,Nat.reduceBEq,zx150,zx151,zx159,zx160,zx161,zx162,Nat.reduceAdd,Nat.reduceSub,Nat.reduceMul,Nat.reduceLeDiff,Nat.reduceLT,Nat.reduceEqDiff,Int.reduceAdd,Int.reduceSub,Int.reduceMul,Int.reduceNeg,Int.reduceLT,Int.reduceLE,Int.reduceEq,Int.reduceToNat,Int.cast_ofNat_Int,↓reduceIte, *, hc.I]
  have hbd := hc.bound
  refine Wp.for cs.length (fun i a H' => H' = H ∧ a 0 = row ∧ a 2 = ch ∧ a 9 = cols ∧ a 10 = .i cs.length ∧ a 11 = .i i ∧ comesL rs (cs.take i) (ks.take i) = true) ?_ ?_
  · rintro i a H' hi ⟨rfl, h0, h2, h9, h10, h11, hh⟩ ih
    simp (disch := (first | assumption | omega | (simp only [List.length_append, List.length_cons, List.length_nil]; omega))) only [↓wD,wU,Nat.reduceBEq,zx150,zx151,zx159,zx160,zx161,zx162,Nat.reduceAdd,Nat.reduceSub,Nat.reduceMul,Nat.reduceLeDiff,Nat.reduceLT,Nat.reduceEqDiff,Int.reduceAdd,Int.reduceSub,Int.reduceMul,Int.reduceNeg,Int.reduceLT,Int.reduceLE,Int.reduceEq,Int.reduceToNat,Int.cast_ofNat_Int,↓reduceIte, *]
    refine condP_split (fun hlt => ?_) (fun hlt => ?_)
    · have hlt' : i < cs.length := by omega
      have hbi := hb (gi cs i) (mem_gi hlt')
      simp (disch := (first | assumption | omega | (simp only [List.length_append, List.length_cons, List.length_nil]; omega))) only [↓wD,wU,Nat.reduceBEq,zx150,zx151,zx159,zx160,zx161,zx162,Nat.reduceAdd,Nat.reduceSub,Nat.reduceMul,Nat.reduceLeDiff,Nat.reduceLT,Nat.reduceEqDiff,Int.reduceAdd,Int.reduceSub,Int.reduceMul,Int.reduceNeg,Int.reduceLT,Int.reduceLE,Int.reduceEq,Int.reduceToNat,Int.cast_ofNat_Int,↓reduceIte, *, hc.I, hr.I, hk.I]
      refine condP_split (fun hne => ?_) (fun hne => ?_)
      · simp (disch := (first | assumption | omega | (simp only [List.length_append, List.length_cons, List.length_nil]; omega))) only [↓wD,wU,Nat.reduceBEq,zx150,zx151,zx159,zx160,zx161,zx162,Nat.reduceAdd,Nat.reduceSub,Nat.reduceMul,Nat.reduceLeDiff,Nat.reduceLT,Nat.reduceEqDiff,Int.reduceAdd,Int.reduceSub,Int.reduceMul,Int.reduceNeg,Int.reduceLT,Int.reduceLE,Int.reduceEq,Int.reduceToNat,Int.cast_ofNat_Int,↓reduceIte, *]
        rw [comesL_f hlt' (by omega) hne]
      · simp (disch := (first | assumption | omega | (simp only [List.length_append, List.length_cons, List.length_nil]; omega))) only [↓wD,wU,Nat.reduceBEq,zx150,zx151,zx159,zx160,zx161,zx162,Nat.reduceAdd,Nat.reduceSub,Nat.reduceMul,Nat.reduceLeDiff,Nat.reduceLT,Nat.reduceEqDiff,Int.reduceAdd,Int.reduceSub,Int.reduceMul,Int.reduceNeg,Int.reduceLT,Int.reduceLE,Int.reduceEq,Int.reduceToNat,Int.cast_ofNat_Int,↓reduceIte, *]
        refine (ih hlt').go ⟨rfl, ?_⟩
        simp (disch := (first | assumption | omega | (simp only [List.length_append, List.length_cons, List.length_nil]; omega))) only [↓wD,wU,Nat.reduceBEq,zx150,zx151,zx159,zx160,zx161,zx162,Nat.reduceAdd,Nat.reduceSub,Nat.reduceMul,Nat.reduceLeDiff,Nat.reduceLT,Nat.reduceEqDiff,Int.reduceAdd,Int.reduceSub,Int.reduceMul,Int.reduceNeg,Int.reduceLT,Int.reduceLE,Int.reduceEq,Int.reduceToNat,Int.cast_ofNat_Int,↓reduceIte, *]
        rw [comesL_succ hlt' (by omega), hh]
        simp; omega
    · simp (disch := (first | assumption | omega | (simp only [List.length_append, List.length_cons, List.length_nil]; omega))) only [↓wD,wU,Nat.reduceBEq,zx150,zx151,zx159,zx160,zx161,zx162,Nat.reduceAdd,Nat.reduceSub,Nat.reduceMul,Nat.reduceLeDiff,Nat.reduceLT,Nat.reduceEqDiff,Int.reduceAdd,Int.reduceSub,Int.reduceMul,Int.reduceNeg,Int.reduceLT,Int.reduceLE,Int.reduceEq,Int.reduceToNat,Int.cast_ofNat_Int,↓reduceIte, *]
      rw [← comesL_all (i := i) (cs := cs) (by omega) (by omega), hh]
  · (simp (disch := (first | assumption | omega | (simp only [List.length_append, List.length_cons, List.length_nil]; omega))) only [↓wD,wU,Nat.reduceBEq,zx150,zx151,zx159,zx160,zx161,zx162,Nat.reduceAdd,Nat.reduceSub,Nat.reduceMul,Nat.reduceLeDiff,Nat.reduceLT,Nat.reduceEqDiff,Int.reduceAdd,Int.reduceSub,Int.reduceMul,Int.reduceNeg,Int.reduceLT,Int.reduceLE,Int.reduceEq,Int.reduceToNat,Int.cast_ofNat_Int,↓reduceIte, *]) <;> simp [comesL]
/-- in how many rows they come -/
def oft (t : List (List Int)) (cs ks : List Int) : Nat := t.countP fun r => comesL r cs ks
theorem oft_succ {t : List (List Int)} {cs ks : List Int} {i : Nat} (h : i < t.length) : oft (t.take (i + 1)) cs ks = oft (t.take i) cs ks + if comesL (gi t i) cs ks = true then 1 else 0 := by
  unfold oft
  rw [take_gi h, List.countP_append]
  simp [List.countP_cons]
theorem oft_le {t : List (List Int)} {cs ks : List Int} : oft t cs ks ≤ t.length := List.countP_le_length
theorem often_ret {p q p' : Nat → Prop} {H : Heap} {rows cols ch : AV} {v : Int} {t : List (List Int)} {cs ks : List Int} (ht : Sl p H rows t) (hc : Sl q H cols cs) (hk : Sl p' H ch ks) (hl : cs.length = ks.length) (hb : ∀ c ∈ cs, 0 ≤ c ∧ ∀ r ∈ t, c < r.length) :
    RetP E 104 [.ag [.i v, rows], cols, ch] H (.i (oft t cs ks)) := by
  refine RetP.ro rfl fn104 rfl rfl ?_
  unfold f104A
  have hbd := ht.bound
  simp (disch := (first | assumption | omega | (simp only [List.length_append, List.length_cons, List.length_nil]; omega))) only [↓wD,wU,Nat.reduceBEq,zx150,zx151,zx159,zx160,zx161,zx162,Nat.reduceAdd,Nat.reduceSub,Nat.reduceMul,Nat.reduceLeDiff,Nat.reduceLT,Nat.reduceEqDiff,Int.reduceAdd,Int.reduceSub,Int.reduceMul,Int.reduceNeg,Int.reduceLT,Int.reduceLE,Int.reduceEq,Int.reduceToNat,Int.cast_ofNat_Int,↓reduceIte, *, ht.L]
  have k1 := ht.app [.cells [.i v, rows]]
  have kc := hc.app [.cells [.i v, rows]]
  have kk := hk.app [.cells [.i v, rows]]
  refine Wp.for t.length (fun i a H' => H' = H ++ [.cells [.i v, rows]] ∧ a 1 = cols ∧ a 2 = ch ∧ a 11 = rows ∧ a 12 = .i t.length ∧ a 13 = .i i ∧ a 7 = .i (oft (t.take i) cs ks)) ?_ ?_
  · rintro i a H' hi ⟨rfl, a1, a2, a11, a12, a13, a7⟩ ih
    have hle := oft_le (t := t.take i) (cs := cs) (ks := ks)
    rw [List.length_take] at hle
    simp (disch := (first | assumption | omega | (simp only [List.length_append, List.length_cons, List.length_nil]; omega))) only [↓wD,wU,Nat.reduceBEq,zx150,zx151,zx159,zx160,zx161,zx162,Nat.reduceAdd,Nat.reduceSub,Nat.reduceMul,Nat.reduceLeDiff,Nat.reduceLT,Nat.reduceEqDiff,Int.reduceAdd,Int.reduceSub,Int.reduceMul,Int.reduceNeg,Int.reduceLT,Int.reduceLE,Int.reduceEq,Int.reduceToNat,Int.cast_ofNat_Int,↓reduceIte, *]
    refine condP_split (fun hlt => ?_) (fun hlt => ?_)
    · have hi' : i < t.length := by omega
      have g := k1.get (k := (i : Int)) (by omega) (by omega)
      have hs := oft_succ (cs := cs) (ks := ks) hi'
      simp (disch := (first | assumption | omega | (simp only [List.length_append, List.length_cons, List.length_nil]; omega))) only [↓wD,wU,Nat.reduceBEq,zx150,zx151,zx159,zx160,zx161,zx162,Nat.reduceAdd,Nat.reduceSub,Nat.reduceMul,Nat.reduceLeDiff,Nat.reduceLT,Nat.reduceEqDiff,Int.reduceAdd,Int.reduceSub,Int.reduceMul,Int.reduceNeg,Int.reduceLT,Int.reduceLE,Int.reduceEq,Int.reduceToNat,Int.cast_ofNat_Int,↓reduceIte, *, k1.L, (comes_ret g kc kk hl fun c hc => ⟨(hb c hc).1, by have := (hb c hc).2 _ (mem_gi hi'); omega⟩).call]
      refine condP_bool (fun hne => ?_) (fun hne => ?_)
      · rw [if_pos hne] at hs
        clear hne
        simp (disch := (first | assumption | omega | (simp only [List.length_append, List.length_cons, List.length_nil]; omega))) only [↓wD,wU,Nat.reduceBEq,zx150,zx151,zx159,zx160,zx161,zx162,Nat.reduceAdd,Nat.reduceSub,Nat.reduceMul,Nat.reduceLeDiff,Nat.reduceLT,Nat.reduceEqDiff,Int.reduceAdd,Int.reduceSub,Int.reduceMul,Int.reduceNeg,Int.reduceLT,Int.reduceLE,Int.reduceEq,Int.reduceToNat,Int.cast_ofNat_Int,↓reduceIte, *]
        refine (ih hi').go ⟨rfl, ?_⟩
        simp (disch := (first | assumption | omega | (simp only [List.length_append, List.length_cons, List.length_nil]; omega))) only [↓wD,wU,Nat.reduceBEq,zx150,zx151,zx159,zx160,zx161,zx162,Nat.reduceAdd,Nat.reduceSub,Nat.reduceMul,Nat.reduceLeDiff,Nat.reduceLT,Nat.reduceEqDiff,Int.reduceAdd,Int.reduceSub,Int.reduceMul,Int.reduceNeg,Int.reduceLT,Int.reduceLE,Int.reduceEq,Int.reduceToNat,Int.cast_ofNat_Int,↓reduceIte, *]
      · rw [if_neg (by simp [hne])] at hs
        clear hne
        simp (disch := (first | assumption | omega | (simp only [List.length_append, List.length_cons, List.length_nil]; omega))) only [↓wD,wU,Nat.reduceBEq,zx150,zx151,zx159,zx160,zx161,zx162,Nat.reduceAdd,Nat.reduceSub,Nat.reduceMul,Nat.reduceLeDiff,Nat.reduceLT,Nat.reduceEqDiff,Int.reduceAdd,Int.reduceSub,Int.reduceMul,Int.reduceNeg,Int.reduceLT,Int.reduceLE,Int.reduceEq,Int.reduceToNat,Int.cast_ofNat_Int,↓reduceIte, *]
        refine (ih hi').go ⟨rfl, ?_⟩
        simp (disch := (first | assumption | omega | (simp only [List.length_append, List.length_cons, List.length_nil]; omega))) only [↓wD,wU,Nat.reduceBEq,zx150,zx151,zx159,zx160,zx161,zx162,Nat.reduceAdd,Nat.reduceSub,Nat.reduceMul,Nat.reduceLeDiff,Nat.reduceLT,Nat.reduceEqDiff,Int.reduceAdd,Int.reduceSub,Int.reduceMul,Int.reduceNeg,Int.reduceLT,Int.reduceLE,Int.reduceEq,Int.reduceToNat,Int.cast_ofNat_Int,↓reduceIte, *]
    · simp (disch := (first | assumption | omega | (simp only [List.length_append, List.length_cons, List.length_nil]; omega))) only [↓wD,wU,Nat.reduceBEq,zx150,zx151,zx159,zx160,zx161,zx162,Nat.reduceAdd,Nat.reduceSub,Nat.reduceMul,Nat.reduceLeDiff,Nat.reduceLT,Nat.reduceEqDiff,Int.reduceAdd,Int.reduceSub,Int.reduceMul,Int.reduceNeg,Int.reduceLT,Int.reduceLE,Int.reduceEq,Int.reduceToNat,Int.cast_ofNat_Int,↓reduceIte, *]
      rw [List.take_of_length_le (by omega)]
  · (simp (disch := (first | assumption | omega | (simp only [List.length_append, List.length_cons, List.length_nil]; omega))) only [↓wD,wU,Nat.reduceBEq,zx150,zx151,zx159,zx160,zx161,zx162,Nat.reduceAdd,Nat.reduceSub,Nat.reduceMul,Nat.reduceLeDiff,Nat.reduceLT,Nat.reduceEqDiff,Int.reduceAdd,Int.reduceSub,Int.reduceMul,Int.reduceNeg,Int.reduceLT,Int.reduceLE,Int.reduceEq,Int.reduceToNat,Int.cast_ofNat_Int,↓reduceIte, *]) <;> simp [oft]
end Go.Proofs.Ytalaadcbpjnglaa
namespace Go.Proofs.Ytalaadcbpjnglaa
open Go Go.AM Go.Proofs
theorem Acc_empty {α : Type} [Rep α] {L : Nat} {p q : Nat → Prop} {H : Heap} {v : AV} (h : Sl p H v ([] : List α)) (hp : ∀ b, p b → L ≤ b) : Acc L q H v ([] : List α) := by
  rcases h with h | ⟨b, o, c, k, e, hb, hk, h1, h2, h3⟩
  · exact .inl h
  · exact .inr ⟨b, o, c, k, e, hp _ hb, hk, h1, h2, fun i hi => by simp at hi⟩
theorem grow0_ret {H : Heap} {n : Int} (h0 : 0 ≤ n) (h1 : n ≤ 1000000) : Ret E 106 [.nils, .i n] (fun _ => False) H ([] : List Int) := by
  refine Ret.ro rfl fn106 rfl ?_
  unfold f106A
  have hc : zx162 .nils = some (.i 0) := rfl
  by_cases hn : 0 < n
  · have hmb : mostBytes = 1099511627776 := by decide
    have hs : slV 1 .nils none (some (.i 0)) none = some .nils := rfl
    have ha : appendzV H.length 1 8 [.int .i64 0] .nils (.i n) H = some (.s 1 H.length 0 n.toNat none, H ++ [.cells (reps n.toNat [.int .i64 0])]) := by
      simp only [appendzV]
      rw [if_pos ⟨h0, by omega, by rw [hmb]; omega, rfl⟩]
      simp only [appendA]
      rw [if_neg (by omega), if_pos (by rw [hmb]; omega)]
    have hs2 : slV 1 (.s 1 H.length 0 n.toNat none) none (some (.i 0)) none = some (.s 1 H.length 0 0 none) := by
      simp [slV, Go.AM.lenA, boundV, sliceA, show 0 ≤ max n 0 by omega]
    simp (disch := (first | assumption | omega | (simp only [List.length_append, List.length_cons, List.length_nil]; omega))) only [↓wD,wU,Nat.reduceBEq,zx150,zx151,zx159,zx160,zx161,zx162,Nat.reduceAdd,Nat.reduceSub,Nat.reduceMul,Nat.reduceLeDiff,Nat.reduceLT,Nat.reduceEqDiff,Int.reduceAdd,Int.reduceSub,Int.reduceMul,Int.reduceNeg,Int.reduceLT,Int.reduceLE,Int.reduceEq,Int.reduceToNat,Int.cast_ofNat_Int,↓reduceIte, *, hc, hs, Int.sub_zero, ha, hs2]
    exact .inr ⟨H.length, 0, none, reps n.toNat [.int .i64 0], rfl, by simp, by simp, by simp, by simp, fun i hi => by simp at hi⟩
  · simp (disch := (first | assumption | omega | (simp only [List.length_append, List.length_cons, List.length_nil]; omega))) only [↓wD,wU,Nat.reduceBEq,zx150,zx151,zx159,zx160,zx161,zx162,Nat.reduceAdd,Nat.reduceSub,Nat.reduceMul,Nat.reduceLeDiff,Nat.reduceLT,Nat.reduceEqDiff,Int.reduceAdd,Int.reduceSub,Int.reduceMul,Int.reduceNeg,Int.reduceLT,Int.reduceLE,Int.reduceEq,Int.reduceToNat,Int.cast_ofNat_Int,↓reduceIte, *, hc]
    exact Sl.nil
def lsum (ls : List (List Int)) : Nat := (ls.map List.length).sum
theorem lsum_take {ls : List (List Int)} {i : Nat} (h : i < ls.length) : lsum (ls.take (i + 1)) = lsum (ls.take i) + (gi ls i).length := by
  unfold lsum; rw [take_gi h]; simp [List.sum_append]
theorem lsum_le {ls : List (List Int)} {i : Nat} : lsum (ls.take i) ≤ lsum ls := by
  have e : lsum ls = lsum (ls.take i) + lsum (ls.drop i) := by
    conv => lhs; rw [← List.take_append_drop i ls]
    unfold lsum; rw [List.map_append, List.sum_append]
  omega
theorem len_flatten (ls : List (List Int)) : ls.flatten.length = lsum ls := by simp [lsum, List.length_flatten]
theorem concat_ret {p : Nat → Prop} {H : Heap} {v : AV} {ls : List (List Int)} (hl : Sl p H v ls) (hs : lsum ls ≤ 1000000) : Ret E 103 [v] (fun _ => False) H ls.flatten := by
  refine Ret.ro rfl fn103 rfl ?_
  unfold f103A
  have hb := hl.bound
  simp (disch := (first | assumption | omega | (simp only [List.length_append, List.length_cons, List.length_nil]; omega))) only [↓wD,wU,Nat.reduceBEq,zx150,zx151,zx159,zx160,zx161,zx162,Nat.reduceAdd,Nat.reduceSub,Nat.reduceMul,Nat.reduceLeDiff,Nat.reduceLT,Nat.reduceEqDiff,Int.reduceAdd,Int.reduceSub,Int.reduceMul,Int.reduceNeg,Int.reduceLT,Int.reduceLE,Int.reduceEq,Int.reduceToNat,Int.cast_ofNat_Int,↓reduceIte, *, hl.L]
  refine Wp.for ls.length (fun i a H' => H' = H ∧ a 0 = v ∧ a 9 = v ∧ a 10 = .i ls.length ∧ a 11 = .i i ∧ a 3 = .i (lsum (ls.take i))) ?_ ?_
  · rintro i a H' hi ⟨rfl, a0, a9, a10, a11, a3⟩ ih
    have hle := lsum_le (ls := ls) (i := i)
    simp (disch := (first | assumption | omega | (simp only [List.length_append, List.length_cons, List.length_nil]; omega))) only [↓wD,wU,Nat.reduceBEq,zx150,zx151,zx159,zx160,zx161,zx162,Nat.reduceAdd,Nat.reduceSub,Nat.reduceMul,Nat.reduceLeDiff,Nat.reduceLT,Nat.reduceEqDiff,Int.reduceAdd,Int.reduceSub,Int.reduceMul,Int.reduceNeg,Int.reduceLT,Int.reduceLE,Int.reduceEq,Int.reduceToNat,Int.cast_ofNat_Int,↓reduceIte, *]
    refine condP_split (fun hlt => ?_) (fun hlt => ?_)
    · have hi' : i < ls.length := by omega
      have g := hl.get (k := (i : Int)) (by omega) (by omega)
      have e := lsum_take hi'
      have hle2 := lsum_le (ls := ls) (i := i + 1)
      simp (disch := (first | assumption | omega | (simp only [List.length_append, List.length_cons, List.length_nil]; omega))) only [↓wD,wU,Nat.reduceBEq,zx150,zx151,zx159,zx160,zx161,zx162,Nat.reduceAdd,Nat.reduceSub,Nat.reduceMul,Nat.reduceLeDiff,Nat.reduceLT,Nat.reduceEqDiff,Int.reduceAdd,Int.reduceSub,Int.reduceMul,Int.reduceNeg,Int.reduceLT,Int.reduceLE,Int.reduceEq,Int.reduceToNat,Int.cast_ofNat_Int,↓reduceIte, *, hl.L, g.I]
      refine (ih hi').go ⟨rfl, ?_⟩
      simp (disch := (first | assumption | omega | (simp only [List.length_append, List.length_cons, List.length_nil]; omega))) only [↓wD,wU,Nat.reduceBEq,zx150,zx151,zx159,zx160,zx161,zx162,Nat.reduceAdd,Nat.reduceSub,Nat.reduceMul,Nat.reduceLeDiff,Nat.reduceLT,Nat.reduceEqDiff,Int.reduceAdd,Int.reduceSub,Int.reduceMul,Int.reduceNeg,Int.reduceLT,Int.reduceLE,Int.reduceEq,Int.reduceToNat,Int.cast_ofNat_Int,↓reduceIte, *]
    · obtain rfl : i = ls.length := by omega
      have e : ls.take ls.length = ls := List.take_length
      rw [e] at a3
      clear hlt hi ih
      simp (disch := (first | assumption | omega | (simp only [List.length_append, List.length_cons, List.length_nil]; omega))) only [↓wD,wU,Nat.reduceBEq,zx150,zx151,zx159,zx160,zx161,zx162,Nat.reduceAdd,Nat.reduceSub,Nat.reduceMul,Nat.reduceLeDiff,Nat.reduceLT,Nat.reduceEqDiff,Int.reduceAdd,Int.reduceSub,Int.reduceMul,Int.reduceNeg,Int.reduceLT,Int.reduceLE,Int.reduceEq,Int.reduceToNat,Int.cast_ofNat_Int,↓reduceIte, *]
      refine (grow0_ret (by omega) (by omega)).toF fun u H2 hg hu => ?_
      have hl2 := (hl.low.weak fun _ h => h.2).gr hg
      simp (disch := (first | assumption | omega | (simp only [List.length_append, List.length_cons, List.length_nil]; omega))) only [↓wD,wU,Nat.reduceBEq,zx150,zx151,zx159,zx160,zx161,zx162,Nat.reduceAdd,Nat.reduceSub,Nat.reduceMul,Nat.reduceLeDiff,Nat.reduceLT,Nat.reduceEqDiff,Int.reduceAdd,Int.reduceSub,Int.reduceMul,Int.reduceNeg,Int.reduceLT,Int.reduceLE,Int.reduceEq,Int.reduceToNat,Int.cast_ofNat_Int,↓reduceIte, *, hl.L, hl2.L]
      have ha0 : Acc H'.length (fun _ => True) H2 u ([] : List Int) := Acc_empty hu fun _ h => h
      refine Wp.for ls.length (fun i a H1 => ∃ u, a 6 = u ∧ a 25 = v ∧ a 26 = .i ls.length ∧ a 27 = .i i ∧ Gr H' H1 ∧ Acc H'.length (fun _ => True) H1 u (ls.take i).flatten) ?_ ?_
      · clear ha0 hu a0 a9 a10 a11 a3
        rintro i a H1 hi ⟨u, a6, a25, a26, a27, hg1, hu⟩ ih
        simp (disch := (first | assumption | omega | (simp only [List.length_append, List.length_cons, List.length_nil]; omega))) only [↓wD,wU,Nat.reduceBEq,zx150,zx151,zx159,zx160,zx161,zx162,Nat.reduceAdd,Nat.reduceSub,Nat.reduceMul,Nat.reduceLeDiff,Nat.reduceLT,Nat.reduceEqDiff,Int.reduceAdd,Int.reduceSub,Int.reduceMul,Int.reduceNeg,Int.reduceLT,Int.reduceLE,Int.reduceEq,Int.reduceToNat,Int.cast_ofNat_Int,↓reduceIte, *]
        refine condP_split (fun hlt => ?_) (fun hlt => ?_)
        · have hi' : i < ls.length := by omega
          have hl1 := (hl.low.weak fun _ h => h.2).gr hg1
          have g := hl1.get (k := (i : Int)) (by omega) (by omega)
          simp (disch := (first | assumption | omega | (simp only [List.length_append, List.length_cons, List.length_nil]; omega))) only [↓wD,wU,Nat.reduceBEq,zx150,zx151,zx159,zx160,zx161,zx162,Nat.reduceAdd,Nat.reduceSub,Nat.reduceMul,Nat.reduceLeDiff,Nat.reduceLT,Nat.reduceEqDiff,Int.reduceAdd,Int.reduceSub,Int.reduceMul,Int.reduceNeg,Int.reduceLT,Int.reduceLE,Int.reduceEq,Int.reduceToNat,Int.cast_ofNat_Int,↓reduceIte, *, hl1.L, g.I]
          refine hu.extend (Nat.le_refl _) (by have := hg1.1; omega) g (fun b hb => ⟨trivial, fun e => by have := hu.blk_lt e; omega⟩) ?_ (by omega) fun u' H3 hu' hk => ?_
          · have e := lsum_take hi'
            have hle2 := lsum_le (ls := ls) (i := i + 1)
            rw [len_flatten, ← e]; omega
          · simp (disch := (first | assumption | omega | (simp only [List.length_append, List.length_cons, List.length_nil]; omega))) only [↓wD,wU,Nat.reduceBEq,zx150,zx151,zx159,zx160,zx161,zx162,Nat.reduceAdd,Nat.reduceSub,Nat.reduceMul,Nat.reduceLeDiff,Nat.reduceLT,Nat.reduceEqDiff,Int.reduceAdd,Int.reduceSub,Int.reduceMul,Int.reduceNeg,Int.reduceLT,Int.reduceLE,Int.reduceEq,Int.reduceToNat,Int.cast_ofNat_Int,↓reduceIte, *]
            refine (ih hi').go ⟨u', ?_⟩
            simp (disch := (first | assumption | omega | (simp only [List.length_append, List.length_cons, List.length_nil]; omega))) only [↓wD,wU,Nat.reduceBEq,zx150,zx151,zx159,zx160,zx161,zx162,Nat.reduceAdd,Nat.reduceSub,Nat.reduceMul,Nat.reduceLeDiff,Nat.reduceLT,Nat.reduceEqDiff,Int.reduceAdd,Int.reduceSub,Int.reduceMul,Int.reduceNeg,Int.reduceLT,Int.reduceLE,Int.reduceEq,Int.reduceToNat,Int.cast_ofNat_Int,↓reduceIte, *]
            refine ⟨hg1.push hu (Nat.le_refl _) hk, ?_⟩
            rw [take_gi hi', List.flatten_append]
            simpa using hu'
        · obtain rfl : i = ls.length := by omega
          simp (disch := (first | assumption | omega | (simp only [List.length_append, List.length_cons, List.length_nil]; omega))) only [↓wD,wU,Nat.reduceBEq,zx150,zx151,zx159,zx160,zx161,zx162,Nat.reduceAdd,Nat.reduceSub,Nat.reduceMul,Nat.reduceLeDiff,Nat.reduceLT,Nat.reduceEqDiff,Int.reduceAdd,Int.reduceSub,Int.reduceMul,Int.reduceNeg,Int.reduceLT,Int.reduceLE,Int.reduceEq,Int.reduceToNat,Int.cast_ofNat_Int,↓reduceIte, *]
          rw [e] at hu
          rcases hu with h | ⟨b, o, c, k, e, hb, hk, h1, h2, h3⟩
          · exact .inl h
          · exact .inr ⟨b, o, c, k, e, .inr hb, hk, h1, h2, h3⟩
      · simp (disch := (first | assumption | omega | (simp only [List.length_append, List.length_cons, List.length_nil]; omega))) only [↓wD,wU,Nat.reduceBEq,zx150,zx151,zx159,zx160,zx161,zx162,Nat.reduceAdd,Nat.reduceSub,Nat.reduceMul,Nat.reduceLeDiff,Nat.reduceLT,Nat.reduceEqDiff,Int.reduceAdd,Int.reduceSub,Int.reduceMul,Int.reduceNeg,Int.reduceLT,Int.reduceLE,Int.reduceEq,Int.reduceToNat,Int.cast_ofNat_Int,↓reduceIte, *]
        exact ⟨u, rfl, by first | exact ha0 | exact ⟨hg, ha0⟩⟩
  · (simp (disch := (first | assumption | omega | (simp only [List.length_append, List.length_cons, List.length_nil]; omega))) only [↓wD,wU,Nat.reduceBEq,zx150,zx151,zx159,zx160,zx161,zx162,Nat.reduceAdd,Nat.reduceSub,Nat.reduceMul,Nat.reduceLeDiff,Nat.reduceLT,Nat.reduceEqDiff,Int.reduceAdd,Int.reduceSub,Int.reduceMul,Int.reduceNeg,Int.reduceLT,Int.reduceLE,Int.reduceEq,Int.reduceToNat,Int.cast_ofNat_Int,↓reduceIte, *]) <;> simp [lsum]
end Go.Proofs.Ytalaadcbpjnglaa
namespace Go.Proofs.Ytalaadcbpjnglaa
open Go Go.AM Go.Proofs
def rng (x n : Int) : List Int := (List.range (n - x).toNat).map fun i : Nat => x + (i : Int)
def sufs (r : Bool) (n : Int) : Nat → Int → List (List Int)
  | 0, _ => [[]]
  | t + 1, x => (rng x n).flatMap fun y => (sufs r n t (if r = true then y + 1 else 0)).map (y :: ·)
def frm (r : Bool) (l : List Int) : Int := if r = true ∧ 0 < l.length then gi l ((l.length : Int) - 1) + 1 else 0
theorem gi_last {l : List Int} {x : Int} : gi (l ++ [x]) (((l ++ [x]).length : Int) - 1) = x := by
  have e : (((l ++ [x]).length : Int) - 1) = ((l.length : Nat) : Int) := by simp
  rw [e, gi_nat (by simp)]; simp
theorem frm_app (r : Bool) (l : List Int) (x : Int) : frm r (l ++ [x]) = if r = true then x + 1 else 0 := by
  unfold frm
  rw [gi_last]
  cases r <;> simp
theorem rng_cons {x n : Int} (h : x < n) : rng x n = x :: rng (x + 1) n := by
  unfold rng
  have e : (n - x).toNat = (n - (x + 1)).toNat + 1 := by omega
  rw [e, List.range_succ_eq_map]
  simp only [List.map_cons, List.map_map]
  congr 1
  · simp
  · apply List.map_congr_left
    intro i _
    simp; omega
theorem rng_nil {x n : Int} (h : n ≤ x) : rng x n = [] := by
  unfold rng
  have e : (n - x).toNat = 0 := by omega
  rw [e]; rfl
/-- the items behind l, from x on -/
def rest (r : Bool) (n : Int) (t : Nat) (l : List Int) (x : Int) : List (List Int) := (rng x n).flatMap fun y => (sufs r n t (frm r (l ++ [y]))).map ((l ++ [y]) ++ ·)
theorem sufs_rest (r : Bool) (n : Int) (t : Nat) (l : List Int) : (sufs r n (t + 1) (frm r l)).map (l ++ ·) = rest r n t l (frm r l) := by
  simp only [sufs, rest, List.map_flatMap, List.map_map, frm_app]
  congr 1
  funext y
  apply List.map_congr_left
  intro s _
  simp
theorem rest_cons {r : Bool} {n : Int} {t : Nat} {l : List Int} {x : Int} (h : x < n) : rest r n t l x = (sufs r n t (frm r (l ++ [x]))).map ((l ++ [x]) ++ ·) ++ rest r n t l (x + 1) := by
  unfold rest; rw [rng_cons h]; rfl
theorem rest_nil {r : Bool} {n : Int} {t : Nat} {l : List Int} {x : Int} (h : n ≤ x) : rest r n t l x = [] := by
  unfold rest; rw [rng_nil h]; rfl
/-- what grow reads: its variables -/
structure Vars (K : Nat → Prop) (H : Heap) (y : AV) (r : Bool) (n t : Int) (bt bY br bn bg : Nat) : Prop where
  t : H[bt]? = some (.cells [.i t]) ∧ ¬ K bt
  y : H[bY]? = some (.cells [y]) ∧ ¬ K bY
  r : H[br]? = some (.cells [.b r]) ∧ ¬ K br
  n : H[bn]? = some (.cells [.i n]) ∧ ¬ K bn
  g : H[bg]? = some (.cells [.fn 97 [] [.p bt 0, .p bY 0, .p br 0, .p bn 0, .p bg 0]]) ∧ ¬ K bg
theorem Vars.mono {K K' : Nat → Prop} {H H' : Heap} {y : AV} {r : Bool} {n t : Int} {bt bY br bn bg : Nat} (h : Vars K H y r n t bt bY br bn bg) (hk : Kx (fun b => ¬ K b) H H') (hK : ∀ b, b < H.length → K' b → K b) : Vars K' H' y r n t bt bY br bn bg :=
  ⟨⟨hk.get h.t.2 h.t.1, fun q => h.t.2 (hK _ (List.getElem?_eq_some_iff.1 h.t.1).1 q)⟩, ⟨hk.get h.y.2 h.y.1, fun q => h.y.2 (hK _ (List.getElem?_eq_some_iff.1 h.y.1).1 q)⟩, ⟨hk.get h.r.2 h.r.1, fun q => h.r.2 (hK _ (List.getElem?_eq_some_iff.1 h.r.1).1 q)⟩, ⟨hk.get h.n.2 h.n.1, fun q => h.n.2 (hK _ (List.getElem?_eq_some_iff.1 h.n.1).1 q)⟩, ⟨hk.get h.g.2 h.g.1, fun q => h.g.2 (hK _ (List.getElem?_eq_some_iff.1 h.g.1).1 q)⟩⟩
theorem grow_ok {lo B : Nat} {y : AV} {r : Bool} {n : Int} {t : Nat} {bt bY br bn bg : Nat} (hlo : lo ≤ B) (ht : t ≤ 1000000) (hn : n ≤ 1000000) :
    ∀ (m : Nat) (l : List Int) (v : AV) (K : Nat → Prop) (H : Heap) (Q : Bool → (Nat → Prop) → Heap → Prop), l.length + m = t → (∀ x ∈ l, 0 ≤ x ∧ x < n) → Vars K H y r n t bt bY br bn bg → Sl (fun b => B ≤ b ∧ ¬ K b) H v l → (∀ b, K b → b < H.length) → B ≤ H.length →
      Its E lo y B ArgI Q ((sufs r n m (frm r l)).map (l ++ ·)) K H →
      WpF E lo 97 [v, .p bt 0, .p bY 0, .p br 0, .p bn 0, .p bg 0] H fun u H' => ∃ ok K', u = .b ok ∧ Q ok K' H' ∧ Kx (fun b => ¬ K b ∧ v.blk ≠ some b) H H' ∧ ∀ b, K' b → b < H'.length ∧ (b < H.length → K b ∨ v.blk = some b) := by
  intro m
  induction m with
  | zero =>
    intro l v K H Q hl hb hv hs hK hB hI
    refine WpF.wrt rfl fn97 rfl ?_
    unfold f97A
    have e : (l.length : Int) = t := by omega
    simp (disch := (first | assumption | omega | (simp only [List.length_append, List.length_cons, List.length_nil]; omega))) only [↓wD,wU,Nat.reduceBEq,zx150,zx151,zx159,zx160,zx161,zx162,Nat.reduceAdd,Nat.reduceSub,Nat.reduceMul,Nat.reduceLeDiff,Nat.reduceLT,Nat.reduceEqDiff,Int.reduceAdd,Int.reduceSub,Int.reduceMul,Int.reduceNeg,Int.reduceLT,Int.reduceLE,Int.reduceEq,Int.reduceToNat,Int.cast_ofNat_Int,↓reduceIte, *, hs.I, ld_of hv.t.1, ld_of hv.y.1]
    refine callvI ((hI H (fun b => v.blk = some b) [v] (Kx.refl _ _) ⟨v, rfl, ?_⟩ ?_).mono ?_)
    · simp only [List.append_nil]; exact hs.own
    · exact fun b e => ⟨(hs.blkp e).1.1, (hs.blkp e).2, (hs.blkp e).1.2⟩
    · rintro u H2 ⟨hx, hc⟩
      rcases hc with ⟨rfl, hc⟩ | ⟨rfl, hc⟩
      · simp (disch := (first | assumption | omega | (simp only [List.length_append, List.length_cons, List.length_nil]; omega))) only [↓wD,wU,Nat.reduceBEq,zx150,zx151,zx159,zx160,zx161,zx162,Nat.reduceAdd,Nat.reduceSub,Nat.reduceMul,Nat.reduceLeDiff,Nat.reduceLT,Nat.reduceEqDiff,Int.reduceAdd,Int.reduceSub,Int.reduceMul,Int.reduceNeg,Int.reduceLT,Int.reduceLE,Int.reduceEq,Int.reduceToNat,Int.cast_ofNat_Int,↓reduceIte, *]
        refine ⟨true, _, rfl, Its.none hc, hx.weak fun b _ h q => q.elim h.1 h.2, ?_⟩
        rintro b (h | h | h)
        · exact ⟨by have := hK b h; have := hx.1; omega, fun _ => .inl h⟩
        · exact ⟨by have := (hs.blkp h).2; have := hx.1; omega, fun _ => .inr h⟩
        · exact ⟨h.2, fun q => by omega⟩
      · simp (disch := (first | assumption | omega | (simp only [List.length_append, List.length_cons, List.length_nil]; omega))) only [↓wD,wU,Nat.reduceBEq,zx150,zx151,zx159,zx160,zx161,zx162,Nat.reduceAdd,Nat.reduceSub,Nat.reduceMul,Nat.reduceLeDiff,Nat.reduceLT,Nat.reduceEqDiff,Int.reduceAdd,Int.reduceSub,Int.reduceMul,Int.reduceNeg,Int.reduceLT,Int.reduceLE,Int.reduceEq,Int.reduceToNat,Int.cast_ofNat_Int,↓reduceIte, *]
        refine ⟨false, _, rfl, hc _ (Kx.refl _ _), hx.weak fun b _ h q => q.elim h.1 h.2, ?_⟩
        rintro b (h | h | h)
        · exact ⟨by have := hK b h; have := hx.1; omega, fun _ => .inl h⟩
        · exact ⟨by have := (hs.blkp h).2; have := hx.1; omega, fun _ => .inr h⟩
        · exact ⟨h.2, fun q => by omega⟩
  | succ m ihm =>
    intro l v K H Q hl hb hv hs hK hB hI
    refine WpF.wrt rfl fn97 rfl ?_
    unfold f97A
    have e : ¬ (l.length : Int) = t := by omega
    rw [sufs_rest] at hI
    obtain ⟨x0, hx0⟩ : ∃ x0, frm r l = x0 := ⟨_, rfl⟩
    rw [hx0] at hI
    have hg : 0 ≤ x0 ∧ x0 ≤ 1000000 ∧ ((r = false ∧ x0 ≤ 0) ∨ (r = true ∧ l.length ≤ 0 ∧ x0 ≤ 0) ∨ (r = true ∧ 0 < l.length ∧ 0 ≤ gi l ((l.length : Int) - 1) ∧ gi l ((l.length : Int) - 1) < n ∧ x0 ≤ gi l ((l.length : Int) - 1) + 1 ∧ gi l ((l.length : Int) - 1) + 1 ≤ x0)) := by
      subst hx0
      cases r
      · simp [frm]
      · by_cases h0 : l.length = 0
        · simp [frm, h0]
        · have := hb _ (gi_mem (xs := l) (k := (l.length : Int) - 1) (by omega) (by omega))
          have e : frm true l = gi l ((l.length : Int) - 1) + 1 := by unfold frm; rw [if_pos ⟨rfl, by omega⟩]
          rw [e]
          exact ⟨by omega, by omega, .inr (.inr ⟨rfl, by omega, this.1, this.2, Int.le_refl _, Int.le_refl _⟩)⟩
    clear hx0
    have hln := hs.bound
    obtain ⟨f1, f2, hg⟩ := hg
    rcases hg with ⟨hr, g1⟩ | ⟨hr, g1, g2⟩ | ⟨hr, g1, g2, g3, g4, g5⟩
    all_goals simp (disch := (first | assumption | omega | (simp only [List.length_append, List.length_cons, List.length_nil]; omega))) only [↓wD,wU,Nat.reduceBEq,zx150,zx151,zx159,zx160,zx161,zx162,Nat.reduceAdd,Nat.reduceSub,Nat.reduceMul,Nat.reduceLeDiff,Nat.reduceLT,Nat.reduceEqDiff,Int.reduceAdd,Int.reduceSub,Int.reduceMul,Int.reduceNeg,Int.reduceLT,Int.reduceLE,Int.reduceEq,Int.reduceToNat,Int.cast_ofNat_Int,↓reduceIte, *, hs.I, ld_of hv.t.1, ld_of hv.y.1, ld_of hv.r.1]
    all_goals clear hr
    all_goals
      refine Wp.for (n - x0).toNat (fun i a H1 => a 0 = v ∧ a 1 = .p bt 0 ∧ a 2 = .p bY 0 ∧ a 3 = .p br 0 ∧ a 4 = .p bn 0 ∧ a 5 = .p bg 0 ∧ (∃ x, a 9 = .i x ∧ x ≤ x0 + i ∧ x0 + i ≤ x) ∧ ∃ K1, Its E lo y B ArgI Q (rest r n m l (x0 + i)) K1 H1 ∧ Kx (fun b => ¬ K b) H H1 ∧ ∀ b, K1 b → b < H1.length ∧ (b < H.length → K b)) ?_ ?_
      · rintro i a H1 hi ⟨a0, a1, a2, a3, a4, a5, ⟨x, a9, hxa, hxb⟩, K1, hI1, hx1, hK1⟩ ih
        rw [Int.le_antisymm hxb hxa] at hI1
        have hv1 := hv.mono hx1 fun b h q => (hK1 b q).2 h
        have hs1 : Sl (fun b => B ≤ b ∧ ¬ K1 b) H1 v l := (hs.low.mono (hx1.weak fun b _ h => h.1.2).kp fun b h => ⟨h.1.1, fun q => h.1.2 ((hK1 b q).2 h.2)⟩)
        simp (disch := (first | assumption | omega | (simp only [List.length_append, List.length_cons, List.length_nil]; omega))) only [↓wD,wU,Nat.reduceBEq,zx150,zx151,zx159,zx160,zx161,zx162,Nat.reduceAdd,Nat.reduceSub,Nat.reduceMul,Nat.reduceLeDiff,Nat.reduceLT,Nat.reduceEqDiff,Int.reduceAdd,Int.reduceSub,Int.reduceMul,Int.reduceNeg,Int.reduceLT,Int.reduceLE,Int.reduceEq,Int.reduceToNat,Int.cast_ofNat_Int,↓reduceIte, *, ld_of hv1.n.1]
        refine condP_split (fun hlt => ?_) (fun hlt => ?_)
        · have hi' : i < (n - x0).toNat := by omega
          obtain ⟨u, hu1, hu2⟩ := hs1.clip (by omega)
          rw [rest_cons hlt] at hI1
          have hI2 := Its.append hI1
          simp (disch := (first | assumption | omega | (simp only [List.length_append, List.length_cons, List.length_nil]; omega))) only [↓wD,wU,Nat.reduceBEq,zx150,zx151,zx159,zx160,zx161,zx162,Nat.reduceAdd,Nat.reduceSub,Nat.reduceMul,Nat.reduceLeDiff,Nat.reduceLT,Nat.reduceEqDiff,Int.reduceAdd,Int.reduceSub,Int.reduceMul,Int.reduceNeg,Int.reduceLT,Int.reduceLE,Int.reduceEq,Int.reduceToNat,Int.cast_ofNat_Int,↓reduceIte, *]
          refine lpI (wpC ?_)
          simp (disch := (first | assumption | omega | (simp only [List.length_append, List.length_cons, List.length_nil]; omega))) only [↓wD,wU,Nat.reduceBEq,zx150,zx151,zx159,zx160,zx161,zx162,Nat.reduceAdd,Nat.reduceSub,Nat.reduceMul,Nat.reduceLeDiff,Nat.reduceLT,Nat.reduceEqDiff,Int.reduceAdd,Int.reduceSub,Int.reduceMul,Int.reduceNeg,Int.reduceLT,Int.reduceLE,Int.reduceEq,Int.reduceToNat,Int.cast_ofNat_Int,↓reduceIte, *, hs1.I, ld_of hv1.g.1, hu1 _ (.inl rfl), hu2 lo H1.length _ rfl]
          have e1 : (l ++ [x]).length = l.length + 1 := by simp
          have hv2 : Vars K1 (H1 ++ [Blk.cells [AV.i x], Blk.cells (List.map AV.i (l ++ [x]))]) y r n t bt bY br bn bg := hv1.mono (Kx.app _ _ _) fun _ _ h => h
          have hs2 : Sl (fun b => B ≤ b ∧ ¬ K1 b) (H1 ++ [Blk.cells [AV.i x], Blk.cells (List.map AV.i (l ++ [x]))]) (.s 1 (H1.length + 1) 0 (l.length + 1) none) (l ++ [x]) := by
            have hh1 := hx1.1
            have := Sl.litI (p := fun b => B ≤ b ∧ ¬ K1 b) (H := H1 ++ [Blk.cells [AV.i x], Blk.cells (List.map AV.i (l ++ [x]))]) (b := H1.length + 1) (c := none) (xs := l ++ [x]) (by simp) ⟨by omega, fun q => by have := (hK1 _ q).1; omega⟩ (by rw [e1]; omega)
            rwa [e1] at this
          refine callvI (WpV.fn (us := []) (vs := [_]) ((ihm (l ++ [x]) _ K1 _ _ (by rw [e1]; omega) ?_ hv2 hs2 (fun b q => by have := (hK1 b q).1; simp; omega) (by have := hx1.1; simp; omega) (hI2.keep (Kx.app _ _ _))).mono ?_))
          · intro z hz
            rcases List.mem_append.1 hz with hz | hz
            · exact hb z hz
            · simp at hz; subst hz; omega
          · rintro u' H' ⟨ok, K', rfl, hq, hx3, hK3⟩
            simp (disch := (first | assumption | omega | (simp only [List.length_append, List.length_cons, List.length_nil]; omega))) only [↓wD,wU,Nat.reduceBEq,zx150,zx151,zx159,zx160,zx161,zx162,Nat.reduceAdd,Nat.reduceSub,Nat.reduceMul,Nat.reduceLeDiff,Nat.reduceLT,Nat.reduceEqDiff,Int.reduceAdd,Int.reduceSub,Int.reduceMul,Int.reduceNeg,Int.reduceLT,Int.reduceLE,Int.reduceEq,Int.reduceToNat,Int.cast_ofNat_Int,↓reduceIte, *]
            refine chkI ?_ ?_
            · have q1 : (H1 ++ [Blk.cells [AV.i x]])[bg]? = _ := (Kx.app (fun _ => True) _ _).get trivial hv1.g.1
              have q2 : (H1 ++ [Blk.cells [AV.i x], Blk.cells (List.map AV.i l ++ [AV.i x])])[bg]? = _ := (Kx.app (fun _ => True) _ _).get trivial hv1.g.1
              simp [chk1, ev, Fr.upd, a5, ld_of q1, ld_of q2, sameO, AV.same_refl]
            · have hx2 : Kx (fun b => ¬ K b) H H' := by
                refine (hx1.app' [Blk.cells [AV.i x], Blk.cells (List.map AV.i (l ++ [x]))]).trans hx3 fun b hb h => ⟨fun q => h ((hK1 b q).2 hb), ?_⟩
                have hh1 := hx1.1
                intro e
                simp only [AV.blk, Option.some.injEq] at e
                omega
              have hK2 : ∀ b, K' b → b < H'.length ∧ (b < H.length → K b) := fun b q => ⟨(hK3 b q).1, fun hb => by
                have hh1 := hx1.1
                rcases (hK3 b q).2 (by simp only [List.length_append]; omega) with h | h
                · exact (hK1 b h).2 hb
                · simp only [AV.blk, Option.some.injEq] at h; omega⟩
              cases ok with
              | true =>
                simp (disch := (first | assumption | omega | (simp only [List.length_append, List.length_cons, List.length_nil]; omega))) only [↓wD,wU,Nat.reduceBEq,zx150,zx151,zx159,zx160,zx161,zx162,Nat.reduceAdd,Nat.reduceSub,Nat.reduceMul,Nat.reduceLeDiff,Nat.reduceLT,Nat.reduceEqDiff,Int.reduceAdd,Int.reduceSub,Int.reduceMul,Int.reduceNeg,Int.reduceLT,Int.reduceLE,Int.reduceEq,Int.reduceToNat,Int.cast_ofNat_Int,↓reduceIte, *]
                refine (ih hi').go ?_
                simp (disch := (first | assumption | omega | (simp only [List.length_append, List.length_cons, List.length_nil]; omega))) only [↓wD,wU,Nat.reduceBEq,zx150,zx151,zx159,zx160,zx161,zx162,Nat.reduceAdd,Nat.reduceSub,Nat.reduceMul,Nat.reduceLeDiff,Nat.reduceLT,Nat.reduceEqDiff,Int.reduceAdd,Int.reduceSub,Int.reduceMul,Int.reduceNeg,Int.reduceLT,Int.reduceLE,Int.reduceEq,Int.reduceToNat,Int.cast_ofNat_Int,↓reduceIte, *]
                exact ⟨⟨x + 1, rfl, by omega, by omega⟩, K', by rw [show x0 + ((i : Int) + 1) = x + 1 by omega]; exact hq.1 rfl, hK2⟩
              | false =>
                simp (disch := (first | assumption | omega | (simp only [List.length_append, List.length_cons, List.length_nil]; omega))) only [↓wD,wU,Nat.reduceBEq,zx150,zx151,zx159,zx160,zx161,zx162,Nat.reduceAdd,Nat.reduceSub,Nat.reduceMul,Nat.reduceLeDiff,Nat.reduceLT,Nat.reduceEqDiff,Int.reduceAdd,Int.reduceSub,Int.reduceMul,Int.reduceNeg,Int.reduceLT,Int.reduceLE,Int.reduceEq,Int.reduceToNat,Int.cast_ofNat_Int,↓reduceIte, *]
                exact ⟨false, K', rfl, hq.2 rfl, hx2.weak fun _ _ h => h.1, fun b q => ⟨(hK2 b q).1, fun hb => .inl ((hK2 b q).2 hb)⟩⟩
        · simp (disch := (first | assumption | omega | (simp only [List.length_append, List.length_cons, List.length_nil]; omega))) only [↓wD,wU,Nat.reduceBEq,zx150,zx151,zx159,zx160,zx161,zx162,Nat.reduceAdd,Nat.reduceSub,Nat.reduceMul,Nat.reduceLeDiff,Nat.reduceLT,Nat.reduceEqDiff,Int.reduceAdd,Int.reduceSub,Int.reduceMul,Int.reduceNeg,Int.reduceLT,Int.reduceLE,Int.reduceEq,Int.reduceToNat,Int.cast_ofNat_Int,↓reduceIte, *]
          rw [rest_nil (by omega)] at hI1
          exact ⟨true, K1, rfl, Its.none hI1, hx1.weak fun _ _ h => h.1, fun b q => ⟨(hK1 b q).1, fun hb => .inl ((hK1 b q).2 hb)⟩⟩
      · simp (disch := (first | assumption | omega | (simp only [List.length_append, List.length_cons, List.length_nil]; omega))) only [↓wD,wU,Nat.reduceBEq,zx150,zx151,zx159,zx160,zx161,zx162,Nat.reduceAdd,Nat.reduceSub,Nat.reduceMul,Nat.reduceLeDiff,Nat.reduceLT,Nat.reduceEqDiff,Int.reduceAdd,Int.reduceSub,Int.reduceMul,Int.reduceNeg,Int.reduceLT,Int.reduceLE,Int.reduceEq,Int.reduceToNat,Int.cast_ofNat_Int,↓reduceIte, *]
        rw [show x0 + 0 = x0 by omega]
        exact ⟨⟨_, rfl, by omega, by omega⟩, K, hI, Kx.refl _ _, fun b q => ⟨hK b q, fun _ => q⟩⟩
theorem tuples_it {lo : Nat} {y : AV} {r : Bool} {n : Int} {t : Nat} {bt br bn : Nat} {K : Nat → Prop} {H : Heap} {Q : Bool → (Nat → Prop) → Heap → Prop} (hlo : lo ≤ H.length) (ht : t ≤ 1000000) (hn : n ≤ 1000000) (hy : y.cells = [y] ∧ y.one = true)
    (h1 : H[bt]? = some (.cells [.i t]) ∧ ¬ K bt) (h2 : H[br]? = some (.cells [.b r]) ∧ ¬ K br) (h3 : H[bn]? = some (.cells [.i n]) ∧ ¬ K bn) (hK : ∀ b, K b → b < H.length)
    (hI : Its E lo y H.length ArgI Q (sufs r n t 0) K H) : WpF E lo 96 [y, .p bt 0, .p br 0, .p bn 0] H fun _ H' => ∃ ok K', Q ok K' H' := by
  refine WpF.wrt rfl fn96 rfl ?_
  unfold f96A
  simp (disch := (first | assumption | omega | (simp only [List.length_append, List.length_cons, List.length_nil]; omega))) only [↓wD,wU,Nat.reduceBEq,zx150,zx151,zx159,zx160,zx161,zx162,Nat.reduceAdd,Nat.reduceSub,Nat.reduceMul,Nat.reduceLeDiff,Nat.reduceLT,Nat.reduceEqDiff,Int.reduceAdd,Int.reduceSub,Int.reduceMul,Int.reduceNeg,Int.reduceLT,Int.reduceLE,Int.reduceEq,Int.reduceToNat,Int.cast_ofNat_Int,↓reduceIte, *]
  have hx : Kx (fun _ => True) H (H ++ [Blk.cells [y]] ++ [Blk.cells [AV.fn 97 [] [AV.p bt 0, AV.p (List.length H) 0, AV.p br 0, AV.p bn 0, AV.p (List.length H + 1) 0]]]) := (Kx.app _ _ _).app' _
  have hv : Vars K _ y r n t bt H.length br bn (H.length + 1) := ⟨⟨hx.get trivial h1.1, h1.2⟩, ⟨by simp, fun q => by have := hK _ q; omega⟩, ⟨hx.get trivial h2.1, h2.2⟩, ⟨hx.get trivial h3.1, h3.2⟩, ⟨by simp, fun q => by have := hK _ q; omega⟩⟩
  refine callvI (WpV.fn (us := []) (vs := [_]) ((grow_ok hlo ht hn t [] .nils K _ Q (by simp) nofun hv Sl.nil (fun b q => by have := hK b q; simp; omega) (by simp) ?_).mono ?_))
  · have e : (sufs r n t (frm r [])).map ([] ++ ·) = sufs r n t 0 := by
      rw [show frm r [] = 0 by simp [frm]]
      simp
    rw [e]
    exact hI.keep (hx.weak fun _ _ _ => trivial)
  · rintro u H' ⟨ok, K', rfl, hq, _⟩
    simp (disch := (first | assumption | omega | (simp only [List.length_append, List.length_cons, List.length_nil]; omega))) only [↓wD,wU,Nat.reduceBEq,zx150,zx151,zx159,zx160,zx161,zx162,Nat.reduceAdd,Nat.reduceSub,Nat.reduceMul,Nat.reduceLeDiff,Nat.reduceLT,Nat.reduceEqDiff,Int.reduceAdd,Int.reduceSub,Int.reduceMul,Int.reduceNeg,Int.reduceLT,Int.reduceLE,Int.reduceEq,Int.reduceToNat,Int.cast_ofNat_Int,↓reduceIte, *]
    exact ⟨ok, K', hq⟩
/-- what tuples returns -/
structure Tup where
  r : Bool
  n : Int
  t : Int
instance : RV Tup where
  rv p H v x := ∃ bt br bn, v = .fn 96 [] [.p bt 0, .p br 0, .p bn 0] ∧ (p bt ∧ p br ∧ p bn) ∧ H[bt]? = some (.cells [.i x.t]) ∧ H[br]? = some (.cells [.b x.r]) ∧ H[bn]? = some (.cells [.i x.n])
  mono := by
    rintro p q H H' v x ⟨bt, br, bn, rfl, hp, h1, h2, h3⟩ hk hq
    exact ⟨bt, br, bn, rfl, ⟨hq _ hp.1, hq _ hp.2.1, hq _ hp.2.2⟩, hk.2 _ _ hp.1 h1, hk.2 _ _ hp.2.1 h2, hk.2 _ _ hp.2.2 h3⟩
  pure := by
    rintro p q H H' v x ⟨bt, br, bn, rfl, _⟩ hp
    simp [AV.pure, AV.pureAll] at hp
theorem tuples_ret {H : Heap} {t n : Int} {r : Bool} : Ret E 72 [.i t, .i n, .b r] (fun _ => False) H (Tup.mk r n t) := by
  refine Ret.ro rfl fn72 rfl ?_
  unfold f72A
  simp (disch := (first | assumption | omega | (simp only [List.length_append, List.length_cons, List.length_nil]; omega))) only [↓wD,wU,Nat.reduceBEq,zx150,zx151,zx159,zx160,zx161,zx162,Nat.reduceAdd,Nat.reduceSub,Nat.reduceMul,Nat.reduceLeDiff,Nat.reduceLT,Nat.reduceEqDiff,Int.reduceAdd,Int.reduceSub,Int.reduceMul,Int.reduceNeg,Int.reduceLT,Int.reduceLE,Int.reduceEq,Int.reduceToNat,Int.cast_ofNat_Int,↓reduceIte, *]
  refine ⟨_, _, _, rfl, ?_, ?_⟩
  · simp; omega
  · refine ⟨by simp, ?_, by simp⟩
    rw [List.getElem?_append_right (by simp)]
    simp
end Go.Proofs.Ytalaadcbpjnglaa
namespace Go.Proofs.Ytalaadcbpjnglaa
open Go Go.AM Go.Proofs
/-- an item of all: a place, and how often it comes -/
def ArgA (Ki : Nat → Prop) (H : Heap) (args : List AV) (x : List Int × Nat) : Prop := ∃ u, args = [u, .i x.2] ∧ Sl Ki H u x.1
def allC (v : Int) (t : List (List Int)) (k : Nat) (cs : List Int) : List (List Int × Nat) := (sufs false v k 0).map fun ks => (cs ++ ks, oft t cs ks)
def allL (v : Int) (t : List (List Int)) (k : Nat) : List (List Int × Nat) := (sufs true (wd t) k 0).flatMap (allC v t k)
theorem rng_mem {x n y : Int} (h : y ∈ rng x n) : x ≤ y ∧ y < n := by
  simp only [rng, List.mem_map, List.mem_range] at h
  obtain ⟨i, hi, rfl⟩ := h
  omega
theorem sufs_len {r : Bool} {n : Int} : ∀ {t : Nat} {x : Int} {s : List Int}, s ∈ sufs r n t x → s.length = t
  | 0, x, s, h => by simp [sufs] at h; subst h; rfl
  | t + 1, x, s, h => by
    simp only [sufs, List.mem_flatMap, List.mem_map] at h
    obtain ⟨y, _, z, hz, rfl⟩ := h
    simp [sufs_len hz]
theorem sufs_in {r : Bool} {n : Int} : ∀ {t : Nat} {x : Int} {s : List Int}, 0 ≤ x → s ∈ sufs r n t x → ∀ c ∈ s, 0 ≤ c ∧ c < n
  | 0, x, s, _, h => by simp [sufs] at h; subst h; nofun
  | t + 1, x, s, hx, h => by
    simp only [sufs, List.mem_flatMap, List.mem_map] at h
    obtain ⟨y, hy, z, hz, rfl⟩ := h
    have h1 := rng_mem hy
    intro c hc
    rcases List.mem_cons.1 hc with rfl | hc
    · omega
    · exact sufs_in (by split <;> omega) hz c hc
theorem gset {b : Nat} {H H2 : Heap} {k k' : Blk} (e : H.set b k = H2) (h : H[b]? = some k') : H2[b]? = some k := by rw [← e]; exact get_set h
theorem all_it {lo : Nat} {y rows : AV} {v : Int} {t : List (List Int)} {k bt ba : Nat} {K : Nat → Prop} {H : Heap} {Q : Bool → (Nat → Prop) → Heap → Prop} (hlo : lo ≤ H.length) (hy : y.cells = [y] ∧ y.one = true)
    (h1 : H[bt]? = some (.cells [.i k]) ∧ ¬ K bt) (h2 : H[ba]? = some (.cells [.i v, rows]) ∧ ¬ K ba) (hr : Sl (fun b => ¬ K b) H rows t) (hA : ArrP v t) (hk : k ≤ 3) (hK : ∀ b, K b → b < H.length)
    (hI : Its E lo y H.length ArgA Q (allL v t k) K H) : WpF E lo 102 [y, .p bt 0, .p ba 0] H fun _ H' => ∃ ok K', Q ok K' H' := by
  refine WpF.wrt rfl fn102 rfl ?_
  unfold f102A
  have hwd := hA.wd
  have hv1 := hA.1
  have hv2 := hA.2.1
  have x1 : Kx (fun _ => True) H (H ++ [.cells [y]]) := Kx.app _ _ _
  have hr1 := hr.app [.cells [y]]
  simp (disch := (first | assumption | omega | (simp only [List.length_append, List.length_cons, List.length_nil]; omega))) only [↓wD,wU,Nat.reduceBEq,zx150,zx151,zx159,zx160,zx161,zx162,Nat.reduceAdd,Nat.reduceSub,Nat.reduceMul,Nat.reduceLeDiff,Nat.reduceLT,Nat.reduceEqDiff,Int.reduceAdd,Int.reduceSub,Int.reduceMul,Int.reduceNeg,Int.reduceLT,Int.reduceLE,Int.reduceEq,Int.reduceToNat,Int.cast_ofNat_Int,↓reduceIte, *, ld_of (x1.get trivial h1.1), ldn_of (x1.get trivial h2.1), (columns_ret hr1 hA.2.2.1).call]
  refine (tuples_ret).toX fun w Hr hg hw => ?_
  obtain ⟨b1, b2, b3, rfl, hp, c1, c2, c3⟩ := hw
  have hp1 : H.length < b1 := by have := hp.1; simp at this; omega
  have hp2 : H.length < b2 := by have := hp.2.1; simp at this; omega
  have hp3 : H.length < b3 := by have := hp.2.2; simp at this; omega
  clear hp
  have x2 : Kx (fun _ => True) H Hr := x1.trans hg fun _ _ _ => trivial
  have d1 := x2.get trivial h1.1
  have d2 := x2.get trivial h2.1
  have d3 : Hr[H.length]? = some (.cells [y]) := hg.get trivial (by simp)
  have hHr : H.length < Hr.length := (List.getElem?_eq_some_iff.1 d3).1
  have hr2 : Sl (fun b => b < H.length ∧ ¬ K b) Hr rows t := (hr.low.weak fun b h => ⟨h.2, h.1⟩).kp x2.kp.weakT
  clear hg hr1 x1
  simp (disch := (first | assumption | omega | (simp only [List.length_append, List.length_cons, List.length_nil]; omega))) only [↓wD,wU,Nat.reduceBEq,zx150,zx151,zx159,zx160,zx161,zx162,Nat.reduceAdd,Nat.reduceSub,Nat.reduceMul,Nat.reduceLeDiff,Nat.reduceLT,Nat.reduceEqDiff,Int.reduceAdd,Int.reduceSub,Int.reduceMul,Int.reduceNeg,Int.reduceLT,Int.reduceLE,Int.reduceEq,Int.reduceToNat,Int.cast_ofNat_Int,↓reduceIte, *]
  refine Wp.range (A := ArgI) (sufs true (wd t) k 0) K (fun i K1 H1 => ∃ Kc, Its E lo y H.length ArgA Q (((sufs true (wd t) k 0).drop i).flatMap (allC v t k)) Kc H1 ∧ ∀ b, Kc b → K1 b ∧ (b < Hr.length → K b))
    (fun j K1 H1 => j = .ret ∧ ∃ Kc, (∀ b, Kc b → K1 b) ∧ ∀ H3, Kx (fun b => b < H.length ∨ Kc b) H1 H3 → Q false Kc H3) (by (simp (disch := (first | assumption | omega | (simp only [List.length_append, List.length_cons, List.length_nil]; omega))) only [↓wD,wU,Nat.reduceBEq,zx150,zx151,zx159,zx160,zx161,zx162,Nat.reduceAdd,Nat.reduceSub,Nat.reduceMul,Nat.reduceLeDiff,Nat.reduceLT,Nat.reduceEqDiff,Int.reduceAdd,Int.reduceSub,Int.reduceMul,Int.reduceNeg,Int.reduceLT,Int.reduceLE,Int.reduceEq,Int.reduceToNat,Int.cast_ofNat_Int,↓reduceIte, *]) <;> rfl) rfl (by omega) (fun b h => by have := hK b h; omega) (by rintro _ _ _ _ ⟨u, rfl, _⟩; rfl) ?_ ?_ ?_ ?_ ?_ ?_ ?_
  · intro K' H1 Q' e hx hK' hI
    rw [← e] at hI
    have hne : ∀ b, H.length < b → b < Hr.length → ¬ K' b := fun b q1 q2 h => by
      rcases (hK' b).1 h with h | h
      · have := hK b h; omega
      · omega
    exact tuples_it (t := k) (n := (wd t : Int)) (by omega) (by omega) (by omega) ⟨rfl, rfl⟩ ⟨hx.get trivial c1, hne _ hp1 (List.getElem?_eq_some_iff.1 c1).1⟩ ⟨hx.get trivial c2, hne _ hp2 (List.getElem?_eq_some_iff.1 c2).1⟩ ⟨hx.get trivial c3, hne _ hp3 (List.getElem?_eq_some_iff.1 c3).1⟩ (fun b h => by
      rcases (hK' b).1 h with h | h
      · have := hK b h; omega
      · omega) hI
  · rintro i K1 H1 H2 ⟨Kc, q1, q2⟩ hx
    exact ⟨Kc, q1.keep (hx.weak fun b _ h => h.elim (fun h => .inl (by omega)) fun h => .inr (q2 b h).1), q2⟩
  · rintro j K1 H1 H2 ⟨rfl, Kc, q0, q1⟩ hx
    exact ⟨rfl, Kc, q0, fun H3 h3 => q1 H3 ((hx.weak fun b _ h => h.elim (fun h => .inl (by omega)) fun h => .inr (q0 b h)).trans h3 fun _ _ h => h)⟩
  · exact ⟨K, hI.keep (x2.all _), fun b h => ⟨h, fun _ => h⟩⟩
  · rintro i hi K1 Ki args H1 ⟨Kc, q1, q2⟩ ⟨cu, rfl, hcu⟩ hKi hK1 hx hl hl1 _
    rw [List.drop_eq_getElem_cons hi, List.flatMap_cons] at q1
    have q1' := Its.append q1
    clear q1
    have hcl := sufs_len (List.getElem_mem hi)
    have hcb := sufs_in (Int.le_refl 0) (List.getElem_mem hi)
    obtain ⟨cs, ecs⟩ : ∃ cs, (sufs true (wd t) k 0)[i] = cs := ⟨_, rfl⟩
    rw [ecs] at hcl hcb q1' hcu
    have f1 := hx.get ⟨(List.getElem?_eq_some_iff.1 d1).1, h1.2⟩ d1
    have f2 := hx.get ⟨(List.getElem?_eq_some_iff.1 d2).1, h2.2⟩ d2
    have f3 := hx.get ⟨hHr, fun q => by have := hK _ q; omega⟩ d3
    have e1 : (H1 ++ [Blk.cells [cu]])[Hr.length]? = _ := (Kx.app (fun _ => True) _ _).get trivial hl1
    simp (disch := (first | assumption | omega | (simp only [List.length_append, List.length_cons, List.length_nil]; omega))) only [↓wD,wU,Nat.reduceBEq,zx150,zx151,zx159,zx160,zx161,zx162,Nat.reduceAdd,Nat.reduceSub,Nat.reduceMul,Nat.reduceLeDiff,Nat.reduceLT,Nat.reduceEqDiff,Int.reduceAdd,Int.reduceSub,Int.reduceMul,Int.reduceNeg,Int.reduceLT,Int.reduceLE,Int.reduceEq,Int.reduceToNat,Int.cast_ofNat_Int,↓reduceIte, *, zx189, zx190, hcu.cellsV, zx188 (lo := lo) e1 (by omega)]
    generalize eH2 : (H1 ++ [Blk.cells [cu]]).set Hr.length _ = H2
    have x12 : Kx (fun b => b ≠ Hr.length) H1 H2 := by rw [← eH2]; exact Kx.set' (Kx.app _ _ _) (fun _ h => h rfl) _
    have n12 : H2.length = H1.length + 1 := by rw [← eH2]; simp
    have gl := gset eH2 e1
    have g4 : H2[H1.length]? = some (.cells [cu]) := by rw [← eH2, List.getElem?_set_ne (by omega)]; simp
    have lt1 := (List.getElem?_eq_some_iff.1 d1).1
    have ltb := (List.getElem?_eq_some_iff.1 h1.1).1
    have lta := (List.getElem?_eq_some_iff.1 h2.1).1
    have g1 := x12.get (by omega) f1
    have g2 := x12.get (by omega) f2
    have g3 := x12.get (by omega) f3
    clear eH2 e1
    simp (disch := (first | assumption | omega | (simp only [List.length_append, List.length_cons, List.length_nil]; omega))) only [↓wD,wU,Nat.reduceBEq,zx150,zx151,zx159,zx160,zx161,zx162,Nat.reduceAdd,Nat.reduceSub,Nat.reduceMul,Nat.reduceLeDiff,Nat.reduceLT,Nat.reduceEqDiff,Int.reduceAdd,Int.reduceSub,Int.reduceMul,Int.reduceNeg,Int.reduceLT,Int.reduceLE,Int.reduceEq,Int.reduceToNat,Int.cast_ofNat_Int,↓reduceIte, *, ld_of g1, ld_of g2]
    refine (tuples_ret).toX fun w3 H3 x23 hw => ?_
    obtain ⟨k1, k2, k3, rfl, hp, m1, m2, m3⟩ := hw
    have hp1 : H1.length < k1 := by have := hp.1; simp at this; omega
    have hp2 : H1.length < k2 := by have := hp.2.1; simp at this; omega
    have hp3 : H1.length < k3 := by have := hp.2.2; simp at this; omega
    clear hp
    have x13 : Kx (fun b => b ≠ Hr.length) H1 H3 := x12.trans x23 fun _ _ _ => trivial
    have gl3 := x23.get trivial gl
    have hl3 := x23.1
    have q2' : ∀ b, Kc b → b < H1.length ∧ b ≠ Hr.length ∧ (b < Hr.length → K b) ∧ ¬ Ki b := fun b h => ⟨(hK1 b (q2 b h).1).1, (hK1 b (q2 b h).1).2, (q2 b h).2, fun q => (hKi b q).2.2 (q2 b h).1⟩
    have hcu3 : Sl (fun b => b < H1.length ∧ Ki b) H3 cu cs := (hcu.low.weak fun b h => ⟨h.2, h.1⟩).kp (x13.weak fun b _ h => by have := (hKi b h.2).1; omega).kp
    have hr3 : Sl (fun b => b < H.length ∧ ¬ K b) H3 rows t := (hr2.kp (hx.weak fun b _ h => ⟨by omega, h.2⟩).kp).kp (x13.weak fun b _ h => by omega).kp
    have s1 := x23.get trivial g1
    have s2 := x23.get trivial g2
    have s3 := x23.get trivial g3
    have s4 := x23.get trivial g4
    simp (disch := (first | assumption | omega | (simp only [List.length_append, List.length_cons, List.length_nil]; omega))) only [↓wD,wU,Nat.reduceBEq,zx150,zx151,zx159,zx160,zx161,zx162,Nat.reduceAdd,Nat.reduceSub,Nat.reduceMul,Nat.reduceLeDiff,Nat.reduceLT,Nat.reduceEqDiff,Int.reduceAdd,Int.reduceSub,Int.reduceMul,Int.reduceNeg,Int.reduceLT,Int.reduceLE,Int.reduceEq,Int.reduceToNat,Int.cast_ofNat_Int,↓reduceIte, *]
    refine Wp.range (A := ArgI) (sufs false v k 0) Kc (fun j K2 H4 => ∃ Kc', Its E lo y H.length ArgA (fun ok K' H' => (ok = true → Its E lo y H.length ArgA Q (((sufs true (wd t) k 0).drop (i + 1)).flatMap (allC v t k)) K' H') ∧ (ok = false → Q false K' H')) ((allC v t k cs).drop j) Kc' H4 ∧ ∀ b, Kc' b → K2 b ∧ b < H4.length ∧ (b < H3.length → Kc b))
      (fun j K2 H4 => j = .ret ∧ ∃ Kc', (∀ b, Kc' b → K2 b ∧ b < H4.length ∧ (b < H3.length → Kc b)) ∧ ∀ H5, Kx (fun b => b < H.length ∨ Kc' b) H4 H5 → Q false Kc' H5) (by (simp (disch := (first | assumption | omega | (simp only [List.length_append, List.length_cons, List.length_nil]; omega))) only [↓wD,wU,Nat.reduceBEq,zx150,zx151,zx159,zx160,zx161,zx162,Nat.reduceAdd,Nat.reduceSub,Nat.reduceMul,Nat.reduceLeDiff,Nat.reduceLT,Nat.reduceEqDiff,Int.reduceAdd,Int.reduceSub,Int.reduceMul,Int.reduceNeg,Int.reduceLT,Int.reduceLE,Int.reduceEq,Int.reduceToNat,Int.cast_ofNat_Int,↓reduceIte, *]) <;> rfl) (mayL gl3 (by omega)) (by omega) (fun b h => by have := (q2' b h).1; omega) (by rintro _ _ _ _ ⟨u, rfl, _⟩; rfl) ?_ ?_ ?_ ?_ ?_ ?_ ?_
    · intro K' H4 Q' e hx' hK' hI
      rw [← e] at hI
      have hne : ∀ b, H1.length < b → b < H3.length → ¬ K' b := fun b q1 q2 h => by
        rcases (hK' b).1 h with h | h
        · have := (q2' b h).1; omega
        · omega
      exact tuples_it (t := k) (n := v) (by omega) (by omega) (by omega) ⟨rfl, rfl⟩ ⟨hx'.get trivial m1, hne _ hp1 (List.getElem?_eq_some_iff.1 m1).1⟩ ⟨hx'.get trivial m2, hne _ hp2 (List.getElem?_eq_some_iff.1 m2).1⟩ ⟨hx'.get trivial m3, hne _ hp3 (List.getElem?_eq_some_iff.1 m3).1⟩ (fun b h => by
        rcases (hK' b).1 h with h | h
        · have := (q2' b h).1; omega
        · omega) hI
    · rintro j K2 H4 H5 ⟨Kc', q1, q2⟩ hx
      exact ⟨Kc', q1.keep (hx.weak fun b _ h => h.elim (fun h => .inl (by omega)) fun h => .inr (q2 b h).1), fun b h => ⟨(q2 b h).1, by have := (q2 b h).2.1; have := hx.1; omega, (q2 b h).2.2⟩⟩
    · rintro j K2 H4 H5 ⟨rfl, Kc', q0, q1⟩ hx
      exact ⟨rfl, Kc', fun b h => ⟨(q0 b h).1, by have := (q0 b h).2.1; have := hx.1; omega, (q0 b h).2.2⟩, fun H6 h6 => q1 H6 ((hx.weak fun b _ h => h.elim (fun h => .inl (by omega)) fun h => .inr (q0 b h).1).trans h6 fun _ _ h => h)⟩
    · exact ⟨Kc, by rw [List.drop_zero]; exact q1'.keep (x13.weak fun b _ h => h.elim (fun h => by omega) fun h => (q2' b h).2.1), fun b h => ⟨h, by have := (q2' b h).1; omega, fun _ => h⟩⟩
    · rintro j hj K2 Ki2 args2 H4 ⟨Kc', q3, q4⟩ ⟨ku, rfl, hku⟩ hKi2 hK2 hx4 hl4 hl41 _
      have hj' : j < (allC v t k cs).length := by unfold allC; rw [List.length_map]; exact hj
      rw [List.drop_eq_getElem_cons hj'] at q3
      have hjl := sufs_len (List.getElem_mem hj)
      have ea : (allC v t k cs)[j] = (cs ++ (sufs false v k 0)[j], oft t cs (sufs false v k 0)[j]) := by simp [allC]
      rw [ea] at q3
      clear ea
      obtain ⟨ks, eks⟩ : ∃ ks, (sufs false v k 0)[j] = ks := ⟨_, rfl⟩
      rw [eks] at q3 hku hjl
      have u2 := hx4.get ⟨(List.getElem?_eq_some_iff.1 s2).1, fun q => h2.2 ((q2' _ q).2.2.1 (by omega))⟩ s2
      have u3 := hx4.get ⟨(List.getElem?_eq_some_iff.1 s3).1, fun q => by have := hK _ ((q2' _ q).2.2.1 hHr); omega⟩ s3
      have u4 := hx4.get ⟨(List.getElem?_eq_some_iff.1 s4).1, fun q => by have := (q2' _ q).1; omega⟩ s4
      have hcu4 := hcu3.kp (hx4.weak fun b _ h => ⟨by omega, fun q => (q2' _ q).2.2.2 h.2⟩).kp
      have hr4 := hr3.kp (hx4.weak fun b _ h => ⟨by omega, fun q => h.2 ((q2' _ q).2.2.1 (by omega))⟩).kp
      simp (disch := (first | assumption | omega | (simp only [List.length_append, List.length_cons, List.length_nil]; omega))) only [↓wD,wU,Nat.reduceBEq,zx150,zx151,zx159,zx160,zx161,zx162,Nat.reduceAdd,Nat.reduceSub,Nat.reduceMul,Nat.reduceLeDiff,Nat.reduceLT,Nat.reduceEqDiff,Int.reduceAdd,Int.reduceSub,Int.reduceMul,Int.reduceNeg,Int.reduceLT,Int.reduceLE,Int.reduceEq,Int.reduceToNat,Int.cast_ofNat_Int,↓reduceIte, *, zx188 (lo := lo) hl41 (by omega)]
      generalize e5 : H4.set H3.length _ = H5
      have x45 : Kx (fun b => b ≠ H3.length) H4 H5 := by rw [← e5]; exact Kx.set _ _ _
      have n45 : H5.length ≤ H4.length ∧ H4.length ≤ H5.length := by rw [← e5]; simp
      have gl5 := gset e5 hl41
      have w2 := x45.get (by omega) u2
      have w3 := x45.get (by omega) u3
      have w4 := x45.get (by omega) u4
      have hcu5 := hcu4.kp (x45.weak fun b _ h => by omega).kp
      have hku5 : Sl (fun b => b < H4.length ∧ Ki2 b) H5 ku ks := (hku.low.weak fun b h => ⟨h.2, h.1⟩).kp (x45.weak fun b _ h => by have := (hKi2 b h.2).1; omega).kp
      have hr5 := hr4.kp (x45.weak fun b _ h => by omega).kp
      clear e5
      simp (disch := (first | assumption | omega | (simp only [List.length_append, List.length_cons, List.length_nil]; omega))) only [↓wD,wU,Nat.reduceBEq,zx150,zx151,zx159,zx160,zx161,zx162,Nat.reduceAdd,Nat.reduceSub,Nat.reduceMul,Nat.reduceLeDiff,Nat.reduceLT,Nat.reduceEqDiff,Int.reduceAdd,Int.reduceSub,Int.reduceMul,Int.reduceNeg,Int.reduceLT,Int.reduceLE,Int.reduceEq,Int.reduceToNat,Int.cast_ofNat_Int,↓reduceIte, *, ld_of w2, ld_of w3, ld_of w4, hcu.cellsV, hku.cellsV]
      have hlit : Sl (fun _ => True) (H5 ++ [Blk.cells [cu, ku]]) (.s 1 H5.length 0 2 (some 2)) [cs, ks] := by
        refine Sl.litL (us := [cu, ku]) (xs := [cs, ks]) (b := H5.length) get_last trivial (show 2 ≤ 9223372036854775807 by omega) rfl fun i h1 h2 => ?_
        match i, h1, h2 with
        | 0, _, _ => exact (hcu5.app _).weak fun _ _ => trivial
        | 1, _, _ => exact (hku5.app _).weak fun _ _ => trivial
        | n + 2, h1, _ => exact absurd h1 (by simp)
      refine (concat_ret hlit (by simp [lsum]; omega)).toFX fun u H6 x56 hu => ?_
      have x56' : Kx (fun _ => True) H5 H6 := (Kx.app _ _ _).trans x56 fun _ _ _ => trivial
      have l56 : H5.length + 1 ≤ H6.length := by have := x56.1; simpa using this
      have v2 := x56'.get trivial w2
      have v3 := x56'.get trivial w3
      have v4 := x56'.get trivial w4
      have hcu6 := hcu5.kp (x56'.all _).kp
      have hku6 := hku5.kp (x56'.all _).kp
      have hr6 := hr5.kp (x56'.all _).kp
      have hu6 : Sl (fun b => H5.length + 1 ≤ b ∧ b < H6.length) H6 u (cs ++ ks) := by
        have := hu.low
        simp only [List.flatten_cons, List.flatten_nil, List.append_nil] at this
        exact this.weak fun b h => ⟨by have := h.1; simpa using this, h.2⟩
      have hof := often_ret (v := v) hr6 hcu6 hku6 (by omega) fun c hc => ⟨(hcb c hc).1, fun r hr => by rw [(hA.row hr).1]; exact (hcb c hc).2⟩
      simp (disch := (first | assumption | omega | (simp only [List.length_append, List.length_cons, List.length_nil]; omega))) only [↓wD,wU,Nat.reduceBEq,zx150,zx151,zx159,zx160,zx161,zx162,Nat.reduceAdd,Nat.reduceSub,Nat.reduceMul,Nat.reduceLeDiff,Nat.reduceLT,Nat.reduceEqDiff,Int.reduceAdd,Int.reduceSub,Int.reduceMul,Int.reduceNeg,Int.reduceLT,Int.reduceLE,Int.reduceEq,Int.reduceToNat,Int.cast_ofNat_Int,↓reduceIte, *, ld_of v2, ldn_of v2, ld_of v3, ld_of v4, hof.call]
      have hq4 : ∀ b, Kc' b → K2 b ∧ b < H4.length ∧ (b < H3.length → Kc b) := q4
      refine callvI ((q3 H6 (fun b => H5.length + 1 ≤ b ∧ b < H6.length) [u, .i (oft t cs ks)] ?_ ⟨u, rfl, hu6⟩ ?_).mono ?_)
      · exact x45.trans (x56'.all _) (fun _ _ _ => trivial) |>.weak fun b _ h => h.elim (fun h => by omega) fun h => (hK2 b (q4 b h).1).2
      · exact fun b h => ⟨by omega, h.2, fun q => by have := (q4 b q).2.1; omega⟩
      · rintro r H7 ⟨x67, hc⟩
        have x47 : Kx (fun b => ¬ (K2 b ∨ Ki2 b) ∧ b ≠ H3.length) H4 H7 := ((x45.trans (x56'.all _) fun _ _ _ => trivial).weak fun b _ h => h.2).trans x67 fun b hb h => fun q => q.elim (fun q => h.1 (.inl (q4 b q).1)) fun q => by omega
        have gl7 := x67.get (b := H3.length) (fun q => q.elim (fun q => (hK2 _ (q4 _ q).1).2 rfl) fun q => by omega) (x56'.get trivial gl5)
        have l67 := x67.1
        have hkn : ∀ b, Kn Kc' (fun b => H5.length + 1 ≤ b ∧ b < H6.length) H6 H7 b → Kn K2 Ki2 H4 H7 b ∧ b < H7.length ∧ (b < H3.length → Kc b) := by
          rintro b (h | h | h)
          · exact ⟨.inl (q4 b h).1, by have := (q4 b h).2.1; omega, (q4 b h).2.2⟩
          · exact ⟨.inr (.inr ⟨by omega, by omega⟩), by omega, fun q => by omega⟩
          · exact ⟨.inr (.inr ⟨by omega, by omega⟩), by omega, fun q => by omega⟩
        rcases hc with ⟨rfl, hc⟩ | ⟨rfl, hc⟩
        · simp (disch := (first | assumption | omega | (simp only [List.length_append, List.length_cons, List.length_nil]; omega))) only [↓wD,wU,Nat.reduceBEq,zx150,zx151,zx159,zx160,zx161,zx162,Nat.reduceAdd,Nat.reduceSub,Nat.reduceMul,Nat.reduceLeDiff,Nat.reduceLT,Nat.reduceEqDiff,Int.reduceAdd,Int.reduceSub,Int.reduceMul,Int.reduceNeg,Int.reduceLT,Int.reduceLE,Int.reduceEq,Int.reduceToNat,Int.cast_ofNat_Int,↓reduceIte, *]
          first | exact ⟨_, hc, hkn⟩ | exact ⟨gl7, x47, _, hc, hkn⟩
        · simp (disch := (first | assumption | omega | (simp only [List.length_append, List.length_cons, List.length_nil]; omega))) only [↓wD,wU,Nat.reduceBEq,zx150,zx151,zx159,zx160,zx161,zx162,Nat.reduceAdd,Nat.reduceSub,Nat.reduceMul,Nat.reduceLeDiff,Nat.reduceLT,Nat.reduceEqDiff,Int.reduceAdd,Int.reduceSub,Int.reduceMul,Int.reduceNeg,Int.reduceLT,Int.reduceLE,Int.reduceEq,Int.reduceToNat,Int.cast_ofNat_Int,↓reduceIte, *]
          first | exact ⟨_, hkn, fun H8 h8 => (hc H8 h8).2 rfl⟩ | exact ⟨gl7, x47, rfl, _, hkn, fun H8 h8 => (hc H8 h8).2 rfl⟩ | exact ⟨rfl, _, hkn, fun H8 h8 => (hc H8 h8).2 rfl⟩
    · rintro K2 H4 ⟨Kc', q3, q4⟩ hx4 hl4
      have gl4 := hx4.get ⟨(List.getElem?_eq_some_iff.1 gl3).1, fun q => (q2' _ q).2.1 rfl⟩ gl3
      rw [List.drop_of_length_le (l := allC v t k cs) (by unfold allC; rw [List.length_map]; exact Nat.le_refl _)] at q3
      have xx : Kx (fun b => ¬ (K1 b ∨ Ki b) ∧ b ≠ Hr.length) H1 H4 := (x13.weak fun b _ h => h.2).trans hx4 fun b hb h => ⟨by omega, fun q => h.1 (.inl (q2 b q).1)⟩
      have hkn : ∀ b, Kc' b → Kn K1 Ki H1 H4 b ∧ (b < Hr.length → K b) := fun b h => by
        by_cases hb : b < H3.length
        · exact ⟨.inl (q2 b ((q4 b h).2.2 hb)).1, fun q => (q2' b ((q4 b h).2.2 hb)).2.2.1 q⟩
        · exact ⟨.inr (.inr ⟨by omega, (q4 b h).2.1⟩), fun q => by omega⟩
      have q5 := q3.none.1 rfl
      simp (disch := (first | assumption | omega | (simp only [List.length_append, List.length_cons, List.length_nil]; omega))) only [↓wD,wU,Nat.reduceBEq,zx150,zx151,zx159,zx160,zx161,zx162,Nat.reduceAdd,Nat.reduceSub,Nat.reduceMul,Nat.reduceLeDiff,Nat.reduceLT,Nat.reduceEqDiff,Int.reduceAdd,Int.reduceSub,Int.reduceMul,Int.reduceNeg,Int.reduceLT,Int.reduceLE,Int.reduceEq,Int.reduceToNat,Int.cast_ofNat_Int,↓reduceIte, *]
      first | exact ⟨_, q5, hkn⟩ | exact ⟨gl4, xx, _, q5, hkn⟩
    · rintro j K2 H4 ⟨rfl, Kc', q3, q4⟩ hx4 hl4
      have gl4 := hx4.get ⟨(List.getElem?_eq_some_iff.1 gl3).1, fun q => (q2' _ q).2.1 rfl⟩ gl3
      have xx : Kx (fun b => ¬ (K1 b ∨ Ki b) ∧ b ≠ Hr.length) H1 H4 := (x13.weak fun b _ h => h.2).trans hx4 fun b hb h => ⟨by omega, fun q => h.1 (.inl (q2 b q).1)⟩
      have hkn : ∀ b, Kc' b → Kn K1 Ki H1 H4 b := fun b h => by
        by_cases hb : b < H3.length
        · exact .inl (q2 b ((q3 b h).2.2 hb)).1
        · exact .inr (.inr ⟨by omega, (q3 b h).2.1⟩)
      change Wp E lo _ (.code .ret :: _) _ _ _
      simp (disch := (first | assumption | omega | (simp only [List.length_append, List.length_cons, List.length_nil]; omega))) only [↓wD,wU,Nat.reduceBEq,zx150,zx151,zx159,zx160,zx161,zx162,Nat.reduceAdd,Nat.reduceSub,Nat.reduceMul,Nat.reduceLeDiff,Nat.reduceLT,Nat.reduceEqDiff,Int.reduceAdd,Int.reduceSub,Int.reduceMul,Int.reduceNeg,Int.reduceLT,Int.reduceLE,Int.reduceEq,Int.reduceToNat,Int.cast_ofNat_Int,↓reduceIte, *]
      first | exact ⟨_, hkn, q4⟩ | exact ⟨gl4, xx, rfl, _, hkn, q4⟩ | exact ⟨rfl, _, hkn, q4⟩
  · rintro K1 H1 ⟨Kc, q1, _⟩ hx hl
    simp (disch := (first | assumption | omega | (simp only [List.length_append, List.length_cons, List.length_nil]; omega))) only [↓wD,wU,Nat.reduceBEq,zx150,zx151,zx159,zx160,zx161,zx162,Nat.reduceAdd,Nat.reduceSub,Nat.reduceMul,Nat.reduceLeDiff,Nat.reduceLT,Nat.reduceEqDiff,Int.reduceAdd,Int.reduceSub,Int.reduceMul,Int.reduceNeg,Int.reduceLT,Int.reduceLE,Int.reduceEq,Int.reduceToNat,Int.cast_ofNat_Int,↓reduceIte, *]
    rw [List.drop_length] at q1
    exact ⟨true, Kc, q1.none⟩
  · rintro j K1 H1 ⟨rfl, Kc, q0, q1⟩ hx hl
    change Wp E lo none (.code .ret :: _) _ _ _
    simp (disch := (first | assumption | omega | (simp only [List.length_append, List.length_cons, List.length_nil]; omega))) only [↓wD,wU,Nat.reduceBEq,zx150,zx151,zx159,zx160,zx161,zx162,Nat.reduceAdd,Nat.reduceSub,Nat.reduceMul,Nat.reduceLeDiff,Nat.reduceLT,Nat.reduceEqDiff,Int.reduceAdd,Int.reduceSub,Int.reduceMul,Int.reduceNeg,Int.reduceLT,Int.reduceLE,Int.reduceEq,Int.reduceToNat,Int.cast_ofNat_Int,↓reduceIte, *]
    exact ⟨false, Kc, q1 _ (Kx.refl _ _)⟩
end Go.Proofs.Ytalaadcbpjnglaa
namespace Go.Proofs.Ytalaadcbpjnglaa
open Go Go.AM Go.Proofs
/-- what all returns -/
structure AllR where
  v : Int
  rows : AV
  k : Int
instance : RV AllR where
  rv p H w x := ∃ bt ba, w = .fn 102 [] [.p bt 0, .p ba 0] ∧ (p bt ∧ p ba) ∧ H[bt]? = some (.cells [.i x.k]) ∧ H[ba]? = some (.cells [.i x.v, x.rows])
  mono := by
    rintro p q H H' v x ⟨bt, ba, rfl, hp, h1, h2⟩ hk hq
    exact ⟨bt, ba, rfl, ⟨hq _ hp.1, hq _ hp.2⟩, hk.2 _ _ hp.1 h1, hk.2 _ _ hp.2 h2⟩
  pure := by
    rintro p q H H' v x ⟨bt, ba, rfl, _⟩ hp
    simp [AV.pure, AV.pureAll] at hp
theorem all_ret {H : Heap} {v k : Int} {rows : AV} (hr : rows.cells = [rows] ∧ rows.one = true) : Ret E 87 [.ag [.i v, rows], .i k] (fun _ => False) H (AllR.mk v rows k) := by
  refine Ret.ro rfl fn87 rfl ?_
  unfold f87A
  simp (disch := (first | assumption | omega | (simp only [List.length_append, List.length_cons, List.length_nil]; omega))) only [↓wD,wU,Nat.reduceBEq,zx150,zx151,zx159,zx160,zx161,zx162,Nat.reduceAdd,Nat.reduceSub,Nat.reduceMul,Nat.reduceLeDiff,Nat.reduceLT,Nat.reduceEqDiff,Int.reduceAdd,Int.reduceSub,Int.reduceMul,Int.reduceNeg,Int.reduceLT,Int.reduceLE,Int.reduceEq,Int.reduceToNat,Int.cast_ofNat_Int,↓reduceIte, *]
  refine ⟨_, _, rfl, ?_, ?_⟩
  · simp
  · simp
/-- the iterator, behind a range over it -/
theorem all_range {lo : Nat} {v : Int} {rows : AV} {t : List (List Int)} {k bt ba : Nat} {H0 Hr H1 : Heap} {K0 K : Nat → Prop} {Q : Bool → (Nat → Prop) → Heap → Prop} (hlo : lo ≤ Hr.length)
    (c1 : Hr[bt]? = some (.cells [.i k])) (c2 : Hr[ba]? = some (.cells [.i v, rows])) (n1 : ¬ K0 bt) (n2 : ¬ K0 ba) (hr : Sl (fun b => b < H0.length) H0 rows t) (hg : Kx (fun _ => True) H0 Hr) (hK0 : ∀ b, K0 b → H0.length ≤ b ∧ b < Hr.length)
    (hA : ArrP v t) (hk : k ≤ 3) (e : H1.length = Hr.length + 1) (hx : Kx (fun _ => True) Hr H1) (hK : ∀ b, K b ↔ K0 b ∨ b = Hr.length) (hI : Its E lo (.yl Hr.length) (Hr.length + 1) ArgA Q (allL v t k) K H1) :
    WpF E lo 102 ([] ++ .yl Hr.length :: [.p bt 0, .p ba 0]) H1 fun _ H' => ∃ ok K', Q ok K' H' := by
  rw [← e] at hI
  have b1 := (List.getElem?_eq_some_iff.1 c1).1
  have b2 := (List.getElem?_eq_some_iff.1 c2).1
  refine all_it (by omega) ⟨rfl, rfl⟩ ⟨hx.get trivial c1, fun q => ((hK _).1 q).elim n1 (by omega)⟩ ⟨hx.get trivial c2, fun q => ((hK _).1 q).elim n2 (by omega)⟩ (((hr.kp (hg.all _).kp).kp (hx.all _).kp).weak fun b h q => ?_) hA hk (fun b q => ?_) hI
  · rcases (hK b).1 q with q | q
    · have := (hK0 b q).1; omega
    · have := hg.1; omega
  · rcases (hK b).1 q with q | q
    · have := (hK0 b q).2; omega
    · omega
def coversB (v : Int) (t : List (List Int)) (k : Nat) : Bool := (allL v t k).all fun x => x.2 != 0
theorem argA_len : ∀ (Ki : Nat → Prop) (H1 : Heap) (args : List AV) (x : List Int × Nat), ArgA Ki H1 args x → args.length = 2 := by rintro _ _ _ _ ⟨u, rfl, _⟩; rfl
theorem covers_ret {p : Nat → Prop} {H : Heap} {rows : AV} {v : Int} {t : List (List Int)} {k : Nat} (ht : Sl p H rows t) (hA : ArrP v t) (h1 : 1 ≤ k) (h2 : k ≤ 3) (h3 : k ≤ wd t) :
    RetP E 46 [.ag [.i v, rows], .i k] H (.tp [.b (coversB v t k), .i 0]) := by
  refine RetP.ro rfl fn46 rfl rfl ?_
  unfold f46A
  have k1 := ((ht.app [.cells [.i v, rows]]).app [.cells [.b false]]).app [.cells [.i 0]]
  have hlow : Sl (fun b => b < H.length) H rows t := ht.low.weak fun _ h => h.2
  have g1 : ArrP v t ∧ 1 ≤ (k : Int) ∧ (k : Int) ≤ 3 ∧ (k : Int) ≤ wd t := ⟨hA, by omega, by omega, by omega⟩
  simp (disch := (first | assumption | omega | (simp only [List.length_append, List.length_cons, List.length_nil]; omega))) only [↓wD,wU,Nat.reduceBEq,zx150,zx151,zx159,zx160,zx161,zx162,Nat.reduceAdd,Nat.reduceSub,Nat.reduceMul,Nat.reduceLeDiff,Nat.reduceLT,Nat.reduceEqDiff,Int.reduceAdd,Int.reduceSub,Int.reduceMul,Int.reduceNeg,Int.reduceLT,Int.reduceLE,Int.reduceEq,Int.reduceToNat,Int.cast_ofNat_Int,↓reduceIte, *, ht.cellsV, (strong_ret k1).call, decide_eq_true g1]
  refine (all_ret ht.cellsV).toX fun w Hr x1 hw => ?_
  obtain ⟨bt, ba, rfl, hp, c1, c2⟩ := hw
  have hp1 : H.length + 3 ≤ bt := by have := hp.1; simp at this; omega
  have hp2 : H.length + 3 ≤ ba := by have := hp.2; simp at this; omega
  clear hp k1
  have d4 : Hr[H.length + 1]? = some (.cells [.b false]) := x1.get trivial (by simp [List.getElem?_append])
  have d5 : Hr[H.length + 2]? = some (.cells [.i 0]) := x1.get trivial (by simp [List.getElem?_append])
  have hx0 : Kx (fun _ => True) H Hr := (((Kx.app (fun _ => True) H _).app' _).app' _).trans x1 fun _ _ _ => trivial
  have hl := (List.getElem?_eq_some_iff.1 c1).1
  clear x1
  simp (disch := (first | assumption | omega | (simp only [List.length_append, List.length_cons, List.length_nil]; omega))) only [↓wD,wU,Nat.reduceBEq,zx150,zx151,zx159,zx160,zx161,zx162,Nat.reduceAdd,Nat.reduceSub,Nat.reduceMul,Nat.reduceLeDiff,Nat.reduceLT,Nat.reduceEqDiff,Int.reduceAdd,Int.reduceSub,Int.reduceMul,Int.reduceNeg,Int.reduceLT,Int.reduceLE,Int.reduceEq,Int.reduceToNat,Int.cast_ofNat_Int,↓reduceIte, *]
  refine Wp.range (A := ArgA) (allL v t k) (fun b => b = H.length + 1 ∨ b = H.length + 2) (fun i K H1 => H1[H.length + 1]? = some (.cells [.b false]) ∧ H1[H.length + 2]? = some (.cells [.i 0]) ∧ ((allL v t k).take i).all (fun x => x.2 != 0) = true)
    (fun j K H1 => j = .ret ∧ H1[H.length + 1]? = some (.cells [.b false]) ∧ H1[H.length + 2]? = some (.cells [.i 0]) ∧ coversB v t k = false) (by (simp (disch := (first | assumption | omega | (simp only [List.length_append, List.length_cons, List.length_nil]; omega))) only [↓wD,wU,Nat.reduceBEq,zx150,zx151,zx159,zx160,zx161,zx162,Nat.reduceAdd,Nat.reduceSub,Nat.reduceMul,Nat.reduceLeDiff,Nat.reduceLT,Nat.reduceEqDiff,Int.reduceAdd,Int.reduceSub,Int.reduceMul,Int.reduceNeg,Int.reduceLT,Int.reduceLE,Int.reduceEq,Int.reduceToNat,Int.cast_ofNat_Int,↓reduceIte, *]) <;> rfl) rfl (by omega) (fun b h => by omega) argA_len ?_ ?_ ?_ ?_ ?_ ?_ ?_
  · exact fun K' H1 Q' e hx hK' hI => all_range (by omega) c1 c2 (by omega) (by omega) hlow hx0 (fun b h => by omega) hA h2 e hx hK' hI
  · exact fun i K H1 H2 h hx => ⟨hx.get (.inl (by omega)) h.1, hx.get (.inl (by omega)) h.2.1, h.2.2⟩
  · exact fun j K H1 H2 h hx => ⟨h.1, hx.get (.inl (by omega)) h.2.1, hx.get (.inl (by omega)) h.2.2.1, h.2.2.2⟩
  · exact ⟨d4, d5, rfl⟩
  · rintro i hi K Ki args H1 ⟨q4, q5, q6⟩ ⟨u, rfl, hu⟩ hKi hK hx hl1 hlr hKK
    simp (disch := (first | assumption | omega | (simp only [List.length_append, List.length_cons, List.length_nil]; omega))) only [↓wD,wU,Nat.reduceBEq,zx150,zx151,zx159,zx160,zx161,zx162,Nat.reduceAdd,Nat.reduceSub,Nat.reduceMul,Nat.reduceLeDiff,Nat.reduceLT,Nat.reduceEqDiff,Int.reduceAdd,Int.reduceSub,Int.reduceMul,Int.reduceNeg,Int.reduceLT,Int.reduceLE,Int.reduceEq,Int.reduceToNat,Int.cast_ofNat_Int,↓reduceIte, *, zx188 (lo := H.length) hlr (by omega)]
    generalize e2 : H1.set Hr.length _ = H2
    have x12 : Kx (fun b => b ≠ Hr.length) H1 H2 := by rw [← e2]; exact Kx.set _ _ _
    have l12 : H2.length ≤ H1.length ∧ H1.length ≤ H2.length := by rw [← e2]; simp
    have gl := gset e2 hlr
    have r4 := x12.get (by omega) q4
    have r5 := x12.get (by omega) q5
    clear e2
    refine condP_split (fun h0 => ?_) (fun h0 => ?_)
    · have r5' : (H2.set (H.length + 1) (.cells [.b false]))[H.length + 2]? = some (.cells [.i 0]) := by rw [List.getElem?_set_ne (by omega)]; exact r5
      simp (disch := (first | assumption | omega | (simp only [List.length_append, List.length_cons, List.length_nil]; omega))) only [↓wD,wU,Nat.reduceBEq,zx150,zx151,zx159,zx160,zx161,zx162,Nat.reduceAdd,Nat.reduceSub,Nat.reduceMul,Nat.reduceLeDiff,Nat.reduceLT,Nat.reduceEqDiff,Int.reduceAdd,Int.reduceSub,Int.reduceMul,Int.reduceNeg,Int.reduceLT,Int.reduceLE,Int.reduceEq,Int.reduceToNat,Int.cast_ofNat_Int,↓reduceIte, *, st_of r4, st_of r5']
      have kc1 := (hKK (H.length + 1) (by omega)).2 (.inl rfl)
      have kc2 := (hKK (H.length + 2) (by omega)).2 (.inr rfl)
      refine ⟨?_, ?_, rfl, ?_, ?_, ?_⟩
      · rw [List.getElem?_set_ne (by omega), List.getElem?_set_ne (by omega)]; exact gl
      · exact ((x12.weak fun b _ h => h.2).set' (fun _ h => h.1 (.inl kc1)) _).set' (fun _ h => h.1 (.inl kc2)) _
      · rw [List.getElem?_set_ne (by omega)]; exact get_set r4
      · exact get_set r5'
      · rw [coversB, ← Bool.not_eq_true, List.all_eq_true]
        intro hh
        have := hh _ (List.getElem_mem hi)
        simp at this; omega
    · simp (disch := (first | assumption | omega | (simp only [List.length_append, List.length_cons, List.length_nil]; omega))) only [↓wD,wU,Nat.reduceBEq,zx150,zx151,zx159,zx160,zx161,zx162,Nat.reduceAdd,Nat.reduceSub,Nat.reduceMul,Nat.reduceLeDiff,Nat.reduceLT,Nat.reduceEqDiff,Int.reduceAdd,Int.reduceSub,Int.reduceMul,Int.reduceNeg,Int.reduceLT,Int.reduceLE,Int.reduceEq,Int.reduceToNat,Int.cast_ofNat_Int,↓reduceIte, *]
      first
        | refine ⟨x12.weak fun b _ h => h.2, ?_⟩
        | refine ⟨gl, x12.weak fun b _ h => h.2, ?_⟩
      have e : ((allL v t k).take (i + 1)).all (fun x => x.2 != 0) = true := by
        rw [List.take_succ_eq_append_getElem hi, List.all_append, q6]
        simp; omega
      first | exact e | exact ⟨r4, r5, e⟩
  · rintro K H1 ⟨q4, q5, q6⟩ hx hl1
    have r5' : (H1.set (H.length + 1) (.cells [.b true]))[H.length + 2]? = some (.cells [.i 0]) := by rw [List.getElem?_set_ne (by omega)]; exact q5
    have lt1 := (List.getElem?_eq_some_iff.1 q4).1
    have lt2 := (List.getElem?_eq_some_iff.1 q5).1
    have r4' : ((H1.set (H.length + 1) (.cells [.b true])).set (H.length + 2) (.cells [.i 0]))[H.length + 1]? = some (.cells [.b true]) := by rw [List.getElem?_set_ne (by omega)]; exact get_set q4
    simp (disch := (first | assumption | omega | (simp only [List.length_append, List.length_cons, List.length_nil]; omega))) only [↓wD,wU,Nat.reduceBEq,zx150,zx151,zx159,zx160,zx161,zx162,Nat.reduceAdd,Nat.reduceSub,Nat.reduceMul,Nat.reduceLeDiff,Nat.reduceLT,Nat.reduceEqDiff,Int.reduceAdd,Int.reduceSub,Int.reduceMul,Int.reduceNeg,Int.reduceLT,Int.reduceLE,Int.reduceEq,Int.reduceToNat,Int.cast_ofNat_Int,↓reduceIte, *, st_of q4, st_of r5', ld_of r4', ld_of (get_set r5')]
    rw [List.take_length] at q6
    rw [coversB, q6]
  · rintro j K H1 ⟨rfl, q4, q5, q6⟩ hx hl1
    change Wp E H.length none (.code .ret :: _) _ _ _
    simp (disch := (first | assumption | omega | (simp only [List.length_append, List.length_cons, List.length_nil]; omega))) only [↓wD,wU,Nat.reduceBEq,zx150,zx151,zx159,zx160,zx161,zx162,Nat.reduceAdd,Nat.reduceSub,Nat.reduceMul,Nat.reduceLeDiff,Nat.reduceLT,Nat.reduceEqDiff,Int.reduceAdd,Int.reduceSub,Int.reduceMul,Int.reduceNeg,Int.reduceLT,Int.reduceLE,Int.reduceEq,Int.reduceToNat,Int.cast_ofNat_Int,↓reduceIte, *, ld_of q4, ld_of q5]
end Go.Proofs.Ytalaadcbpjnglaa
namespace Go.Proofs.Ytalaadcbpjnglaa
open Go Go.AM Go.Proofs
def fstN (l : List (List Int × Nat)) : Nat := (l.head?.map Prod.snd).getD 0
def evenB (l : List (List Int × Nat)) : Bool := l.all fun x => x.2 == fstN l
def idxL (l : List (List Int × Nat)) : Int := if l.length = 0 then -1 else if evenB l = true then fstN l else 0
theorem index_ret {p : Nat → Prop} {H : Heap} {rows : AV} {v : Int} {t : List (List Int)} {k : Nat} (ht : Sl p H rows t) (hA : ArrP v t) (h2 : k ≤ 3) :
    RetP E 88 [.ag [.i v, rows], .i k] H (.i (idxL (allL v t k))) := by
  refine RetP.ro rfl fn88 rfl rfl ?_
  unfold f88A
  have hlow : Sl (fun b => b < H.length) H rows t := ht.low.weak fun _ h => h.2
  simp (disch := (first | assumption | omega | (simp only [List.length_append, List.length_cons, List.length_nil]; omega))) only [↓wD,wU,Nat.reduceBEq,zx150,zx151,zx159,zx160,zx161,zx162,Nat.reduceAdd,Nat.reduceSub,Nat.reduceMul,Nat.reduceLeDiff,Nat.reduceLT,Nat.reduceEqDiff,Int.reduceAdd,Int.reduceSub,Int.reduceMul,Int.reduceNeg,Int.reduceLT,Int.reduceLE,Int.reduceEq,Int.reduceToNat,Int.cast_ofNat_Int,↓reduceIte, *, ht.cellsV]
  refine (all_ret ht.cellsV).toX fun w Hr x1 hw => ?_
  obtain ⟨bt, ba, rfl, hp, c1, c2⟩ := hw
  have hp1 : H.length + 3 ≤ bt := by have := hp.1; simp at this; omega
  have hp2 : H.length + 3 ≤ ba := by have := hp.2; simp at this; omega
  clear hp
  have d4 : Hr[H.length + 1]? = some (.cells [.i 0]) := x1.get trivial (by simp [List.getElem?_append])
  have d5 : Hr[H.length + 2]? = some (.cells [.i (-1)]) := x1.get trivial (by simp [List.getElem?_append])
  have hx0 : Kx (fun _ => True) H Hr := (((Kx.app (fun _ => True) H _).app' _).app' _).trans x1 fun _ _ _ => trivial
  have hl := (List.getElem?_eq_some_iff.1 c1).1
  clear x1
  simp (disch := (first | assumption | omega | (simp only [List.length_append, List.length_cons, List.length_nil]; omega))) only [↓wD,wU,Nat.reduceBEq,zx150,zx151,zx159,zx160,zx161,zx162,Nat.reduceAdd,Nat.reduceSub,Nat.reduceMul,Nat.reduceLeDiff,Nat.reduceLT,Nat.reduceEqDiff,Int.reduceAdd,Int.reduceSub,Int.reduceMul,Int.reduceNeg,Int.reduceLT,Int.reduceLE,Int.reduceEq,Int.reduceToNat,Int.cast_ofNat_Int,↓reduceIte, *]
  obtain ⟨l, el⟩ : ∃ l, allL v t k = l := ⟨_, rfl⟩
  refine Wp.range (A := ArgA) l (fun b => b = H.length + 1 ∨ b = H.length + 2) (fun i K H1 => H1[H.length + 1]? = some (.cells [.i 0]) ∧ ∃ f, H1[H.length + 2]? = some (.cells [.i f]) ∧ ((i = 0 ∧ f = -1) ∨ (0 < i ∧ f = fstN l ∧ ∀ x ∈ l.take i, x.2 = fstN l)))
    (fun j K H1 => j = .ret ∧ H1[H.length + 1]? = some (.cells [.i 0]) ∧ 0 < l.length ∧ evenB l = false) (by (simp (disch := (first | assumption | omega | (simp only [List.length_append, List.length_cons, List.length_nil]; omega))) only [↓wD,wU,Nat.reduceBEq,zx150,zx151,zx159,zx160,zx161,zx162,Nat.reduceAdd,Nat.reduceSub,Nat.reduceMul,Nat.reduceLeDiff,Nat.reduceLT,Nat.reduceEqDiff,Int.reduceAdd,Int.reduceSub,Int.reduceMul,Int.reduceNeg,Int.reduceLT,Int.reduceLE,Int.reduceEq,Int.reduceToNat,Int.cast_ofNat_Int,↓reduceIte, *]) <;> rfl) rfl (by omega) (fun b h => by omega) argA_len ?_ ?_ ?_ ?_ ?_ ?_ ?_
  · exact fun K' H1 Q' e hx hK' hI => all_range (by omega) c1 c2 (by omega) (by omega) hlow hx0 (fun b h => by omega) hA h2 e hx hK' (by rw [el]; exact hI)
  · rintro i K H1 H2 ⟨q1, f, q2, q3⟩ hx
    exact ⟨hx.get (.inl (by omega)) q1, f, hx.get (.inl (by omega)) q2, q3⟩
  · exact fun j K H1 H2 h hx => ⟨h.1, hx.get (.inl (by omega)) h.2.1, h.2.2⟩
  · exact ⟨d4, -1, d5, .inl ⟨rfl, rfl⟩⟩
  · rintro i hi K Ki args H1 ⟨q4, f, q5, q6⟩ ⟨u, rfl, hu⟩ hKi hK hx hl1 hlr hKK
    have hfst : fstN l = (l[0]'(by omega)).2 := by unfold fstN; cases l with | nil => simp at hi | cons x r => rfl
    obtain ⟨n, en⟩ : ∃ n, (l[i]).2 = n := ⟨_, rfl⟩
    rw [en]
    have kc1 := (hKK (H.length + 1) (by omega)).2 (.inl rfl)
    have kc2 := (hKK (H.length + 2) (by omega)).2 (.inr rfl)
    simp (disch := (first | assumption | omega | (simp only [List.length_append, List.length_cons, List.length_nil]; omega))) only [↓wD,wU,Nat.reduceBEq,zx150,zx151,zx159,zx160,zx161,zx162,Nat.reduceAdd,Nat.reduceSub,Nat.reduceMul,Nat.reduceLeDiff,Nat.reduceLT,Nat.reduceEqDiff,Int.reduceAdd,Int.reduceSub,Int.reduceMul,Int.reduceNeg,Int.reduceLT,Int.reduceLE,Int.reduceEq,Int.reduceToNat,Int.cast_ofNat_Int,↓reduceIte, *, zx188 (lo := H.length) hlr (by omega)]
    generalize e2 : H1.set Hr.length _ = H2
    have x12 : Kx (fun b => b ≠ Hr.length) H1 H2 := by rw [← e2]; exact Kx.set _ _ _
    have l12 : H2.length ≤ H1.length ∧ H1.length ≤ H2.length := by rw [← e2]; simp
    have gl := gset e2 hlr
    have r4 := x12.get (by omega) q4
    have r5 := x12.get (by omega) q5
    clear e2
    have bad : ∀ (x : Nat), 0 < i → x = n → ¬ (x = fstN l) → 0 < l.length ∧ evenB l = false := fun x _ hx hne => ⟨by omega, by
      rw [evenB, ← Bool.not_eq_true, List.all_eq_true]
      intro hh
      have := hh _ (List.getElem_mem hi)
      simp at this; omega⟩
    rcases q6 with ⟨i0, f0⟩ | ⟨i1, f1, q7⟩
    · subst f0
      have en' : n ≤ fstN l ∧ fstN l ≤ n := by rw [hfst, ← en]; subst i0; exact ⟨Nat.le_refl _, Nat.le_refl _⟩
      clear hfst en bad
      simp (disch := (first | assumption | omega | (simp only [List.length_append, List.length_cons, List.length_nil]; omega))) only [↓wD,wU,Nat.reduceBEq,zx150,zx151,zx159,zx160,zx161,zx162,Nat.reduceAdd,Nat.reduceSub,Nat.reduceMul,Nat.reduceLeDiff,Nat.reduceLT,Nat.reduceEqDiff,Int.reduceAdd,Int.reduceSub,Int.reduceMul,Int.reduceNeg,Int.reduceLT,Int.reduceLE,Int.reduceEq,Int.reduceToNat,Int.cast_ofNat_Int,↓reduceIte, *, ld_of r5, st_of r5, ld_of (get_set r5)]
      have e : ∀ x ∈ l.take (i + 1), x.2 = fstN l := by
        subst i0
        intro x hx
        cases l with
        | nil => simp at hi
        | cons y r => simp at hx; subst hx; rfl
      refine ⟨?_, ?_, ?_, n, get_set r5, ?_⟩
      · rw [List.getElem?_set_ne (by omega)]; exact gl
      · exact (x12.weak fun b _ h => h.2).set' (fun _ h => h.1 (.inl kc2)) _
      · rw [List.getElem?_set_ne (by omega)]; exact r4
      · subst i0; first | exact e | exact .inr ⟨by omega, e⟩
    · have f2 : 0 ≤ f ∧ f ≤ fstN l ∧ fstN l ≤ f := by omega
      clear f1 hfst
      simp (disch := (first | assumption | omega | (simp only [List.length_append, List.length_cons, List.length_nil]; omega))) only [↓wD,wU,Nat.reduceBEq,zx150,zx151,zx159,zx160,zx161,zx162,Nat.reduceAdd,Nat.reduceSub,Nat.reduceMul,Nat.reduceLeDiff,Nat.reduceLT,Nat.reduceEqDiff,Int.reduceAdd,Int.reduceSub,Int.reduceMul,Int.reduceNeg,Int.reduceLT,Int.reduceLE,Int.reduceEq,Int.reduceToNat,Int.cast_ofNat_Int,↓reduceIte, *, ld_of r5]
      refine condP_split (fun h0 => ?_) (fun h0 => ?_)
      · have hb := bad n i1 rfl (by omega)
        clear en bad
        simp (disch := (first | assumption | omega | (simp only [List.length_append, List.length_cons, List.length_nil]; omega))) only [↓wD,wU,Nat.reduceBEq,zx150,zx151,zx159,zx160,zx161,zx162,Nat.reduceAdd,Nat.reduceSub,Nat.reduceMul,Nat.reduceLeDiff,Nat.reduceLT,Nat.reduceEqDiff,Int.reduceAdd,Int.reduceSub,Int.reduceMul,Int.reduceNeg,Int.reduceLT,Int.reduceLE,Int.reduceEq,Int.reduceToNat,Int.cast_ofNat_Int,↓reduceIte, h0, st_of r4]
        refine ⟨?_, ((x12.weak fun b _ h => h.2).set' (fun _ h => h.1 (.inl kc1)) _), rfl, get_set r4, hb⟩
        rw [List.getElem?_set_ne (by omega)]; exact gl
      · simp (disch := (first | assumption | omega | (simp only [List.length_append, List.length_cons, List.length_nil]; omega))) only [↓wD,wU,Nat.reduceBEq,zx150,zx151,zx159,zx160,zx161,zx162,Nat.reduceAdd,Nat.reduceSub,Nat.reduceMul,Nat.reduceLeDiff,Nat.reduceLT,Nat.reduceEqDiff,Int.reduceAdd,Int.reduceSub,Int.reduceMul,Int.reduceNeg,Int.reduceLT,Int.reduceLE,Int.reduceEq,Int.reduceToNat,Int.cast_ofNat_Int,↓reduceIte, *]
        have e : ∀ x ∈ l.take (i + 1), x.2 = fstN l := by
          rw [List.take_succ_eq_append_getElem hi]
          intro x hx
          rcases List.mem_append.1 hx with hx | hx
          · exact q7 x hx
          · simp at hx; subst hx; omega
        refine ⟨x12.weak fun b _ h => h.2, f, rfl, .inr ⟨by omega, by omega, e⟩⟩
  · rintro K H1 ⟨q4, f, q5, q6⟩ hx hl1
    simp (disch := (first | assumption | omega | (simp only [List.length_append, List.length_cons, List.length_nil]; omega))) only [↓wD,wU,Nat.reduceBEq,zx150,zx151,zx159,zx160,zx161,zx162,Nat.reduceAdd,Nat.reduceSub,Nat.reduceMul,Nat.reduceLeDiff,Nat.reduceLT,Nat.reduceEqDiff,Int.reduceAdd,Int.reduceSub,Int.reduceMul,Int.reduceNeg,Int.reduceLT,Int.reduceLE,Int.reduceEq,Int.reduceToNat,Int.cast_ofNat_Int,↓reduceIte, *, ld_of q5, st_of q4, ld_of (get_set q4)]
    rcases q6 with ⟨i0, f0⟩ | ⟨i1, f1, q7⟩
    · rw [idxL, if_pos i0, f0]
    · rw [List.take_length] at q7
      have hev : evenB l = true := by
        rw [evenB, List.all_eq_true]
        intro x hx
        simp [q7 x hx]
      rw [idxL, if_neg (by omega), if_pos hev, f1]
  · rintro j K H1 ⟨rfl, q4, q5, q6⟩ hx hl1
    change Wp E H.length none (.code .ret :: _) _ _ _
    simp (disch := (first | assumption | omega | (simp only [List.length_append, List.length_cons, List.length_nil]; omega))) only [↓wD,wU,Nat.reduceBEq,zx150,zx151,zx159,zx160,zx161,zx162,Nat.reduceAdd,Nat.reduceSub,Nat.reduceMul,Nat.reduceLeDiff,Nat.reduceLT,Nat.reduceEqDiff,Int.reduceAdd,Int.reduceSub,Int.reduceMul,Int.reduceNeg,Int.reduceLT,Int.reduceLE,Int.reduceEq,Int.reduceToNat,Int.cast_ofNat_Int,↓reduceIte, *, ld_of q4]
    rw [idxL, if_neg (by omega), q6]; rfl
theorem fair_ret {p : Nat → Prop} {H : Heap} {rows : AV} {v : Int} {t : List (List Int)} {k : Nat} (ht : Sl p H rows t) (hA : ArrP v t) (h1 : 1 ≤ k) (h2 : k ≤ 3) (h3 : k ≤ wd t) :
    RetP E 57 [.ag [.i v, rows], .i k] H (.tp [.b (decide (0 < idxL (allL v t k))), .i 0]) := by
  refine RetP.ro rfl fn57 rfl rfl ?_
  unfold f57A
  have k1 := ht.app [.cells [.i v, rows]]
  have g1 : ArrP v t ∧ 1 ≤ (k : Int) ∧ (k : Int) ≤ 3 ∧ (k : Int) ≤ wd t := ⟨hA, by omega, by omega, by omega⟩
  simp (disch := (first | assumption | omega | (simp only [List.length_append, List.length_cons, List.length_nil]; omega))) only [↓wD,wU,Nat.reduceBEq,zx150,zx151,zx159,zx160,zx161,zx162,Nat.reduceAdd,Nat.reduceSub,Nat.reduceMul,Nat.reduceLeDiff,Nat.reduceLT,Nat.reduceEqDiff,Int.reduceAdd,Int.reduceSub,Int.reduceMul,Int.reduceNeg,Int.reduceLT,Int.reduceLE,Int.reduceEq,Int.reduceToNat,Int.cast_ofNat_Int,↓reduceIte, *, ht.cellsV, (strong_ret k1).call, decide_eq_true g1, (index_ret k1 hA h2).call]
end Go.Proofs.Ytalaadcbpjnglaa
namespace Go.Proofs.Ytalaadcbpjnglaa
open Go Go.AM Go.Proofs
theorem Acc.int {L : Nat} {q : Nat → Prop} {H : Heap} {v : AV} {xs : List Int} (h : Acc L q H v xs) : Sl (fun b => L ≤ b) H v xs := by
  rcases h with h | ⟨b, o, c, k, e, hb, hk, h1, h2, h3⟩
  · exact .inl h
  · exact .inr ⟨b, o, c, k, e, hb, hk, h1, h2, h3⟩
end Go.Proofs.Ytalaadcbpjnglaa
namespace Go.Proofs.Ytalaadcbpjnglaa
open Go Go.AM Go.Proofs
theorem coversX_err {p : Nat → Prop} {H : Heap} {rows : AV} {v k : Int} {t : List (List Int)} (ht : Sl p H rows t) (h : ¬ (ArrP v t ∧ 1 ≤ k ∧ k ≤ 3 ∧ k ≤ wd t)) :
    RetP E 46 [.ag [.i v, rows], .i k] H (.tp [.b false, .i 2]) := by
  refine RetP.ro rfl fn46 rfl rfl ?_
  unfold f46A
  have k1 := ((ht.app [.cells [.i v, rows]]).app [.cells [.b false]]).app [.cells [.i 0]]
  simp (disch := (first | assumption | omega | (simp only [List.length_append, List.length_cons, List.length_nil]; omega))) only [↓wD,wU,Nat.reduceBEq,zx150,zx151,zx159,zx160,zx161,zx162,Nat.reduceAdd,Nat.reduceSub,Nat.reduceMul,Nat.reduceLeDiff,Nat.reduceLT,Nat.reduceEqDiff,Int.reduceAdd,Int.reduceSub,Int.reduceMul,Int.reduceNeg,Int.reduceLT,Int.reduceLE,Int.reduceEq,Int.reduceToNat,Int.cast_ofNat_Int,↓reduceIte, *, ht.cellsV, (strong_ret k1).call, decide_eq_false h]
theorem fairX_err {p : Nat → Prop} {H : Heap} {rows : AV} {v k : Int} {t : List (List Int)} (ht : Sl p H rows t) (h : ¬ (ArrP v t ∧ 1 ≤ k ∧ k ≤ 3 ∧ k ≤ wd t)) :
    RetP E 57 [.ag [.i v, rows], .i k] H (.tp [.b false, .i 2]) := by
  refine RetP.ro rfl fn57 rfl rfl ?_
  unfold f57A
  have k1 := ht.app [.cells [.i v, rows]]
  simp (disch := (first | assumption | omega | (simp only [List.length_append, List.length_cons, List.length_nil]; omega))) only [↓wD,wU,Nat.reduceBEq,zx150,zx151,zx159,zx160,zx161,zx162,Nat.reduceAdd,Nat.reduceSub,Nat.reduceMul,Nat.reduceLeDiff,Nat.reduceLT,Nat.reduceEqDiff,Int.reduceAdd,Int.reduceSub,Int.reduceMul,Int.reduceNeg,Int.reduceLT,Int.reduceLE,Int.reduceEq,Int.reduceToNat,Int.cast_ofNat_Int,↓reduceIte, *, ht.cellsV, (strong_ret k1).call, decide_eq_false h]
end Go.Proofs.Ytalaadcbpjnglaa
namespace Go.Proofs.Ytalaadcbpjnglaa
open Go Go.AM Go.Proofs
def rfairB (l : List (List Int × Nat)) : Bool := l.all fun x => x.2 == fstN l && x.2 != 0
/-- what is known behind P: f the first number, or -1 -/
def FSt (l P : List (List Int × Nat)) (f : Int) : Prop := (P = [] ∧ f = -1) ∨ (P ≠ [] ∧ f = fstN l ∧ ∀ x ∈ P, x.2 = fstN l ∧ x.2 ≠ 0)
theorem FSt.good {l P : List (List Int × Nat)} {f : Int} {x : List Int × Nat} (h : FSt l P f) (h1 : x.2 = fstN l) (h2 : x.2 ≠ 0) : FSt l (P ++ [x]) (fstN l) := by
  refine .inr ⟨by simp, rfl, fun y hy => ?_⟩
  rcases List.mem_append.1 hy with hy | hy
  · rcases h with ⟨rfl, _⟩ | ⟨_, _, h⟩
    · cases hy
    · exact h y hy
  · simp at hy; subst hy; exact ⟨h1, h2⟩
end Go.Proofs.Ytalaadcbpjnglaa
namespace Go.Proofs.Ytalaadcbpjnglaa
open Go Go.AM Go.Proofs
def dstT (r s : List Int) (c : Nat) : Nat := (List.range c).countP fun x : Nat => !decide (gi r (x : Int) = gi s (x : Int))
theorem dstT_succ {r s : List Int} {c : Nat} : dstT r s (c + 1) = dstT r s c + if gi r (c : Int) = gi s (c : Int) then 0 else 1 := by
  unfold dstT
  rw [List.range_succ, List.countP_append]
  congr 1
  by_cases h : gi r (c : Int) = gi s (c : Int) <;> simp [h]
theorem dstT_le {r s : List Int} {c : Nat} : dstT r s c ≤ c := by
  unfold dstT
  exact Nat.le_trans List.countP_le_length (by simp)
/-- how far two rows are apart -/
def dst (r s : List Int) : Nat := dstT r s r.length
def dstP (t : List (List Int)) (i j : Nat) : List Int := (List.range j).map fun j : Nat => (dst (gi t (i : Int)) (gi t (j : Int)) : Int)
def dstA (t : List (List Int)) (n : Nat) : List Int := (List.range n).flatMap fun i => dstP t i i
theorem dstP_succ {t : List (List Int)} {i j : Nat} : dstP t i (j + 1) = dstP t i j ++ [(dst (gi t (i : Int)) (gi t (j : Int)) : Int)] := by
  unfold dstP; rw [List.range_succ, List.map_append]; rfl
theorem dstA_succ {t : List (List Int)} {i : Nat} : dstA t (i + 1) = dstA t i ++ dstP t i i := by
  unfold dstA; rw [List.range_succ, List.flatMap_append]; simp
def minF (m : Int) (l : List Int) : Int := l.foldl min m
theorem minF_app {m x : Int} {l : List Int} : minF m (l ++ [x]) = min (minF m l) x := by simp [minF]
theorem take_cut {α : Type} [Rep α] {p : Nat → Prop} {H : Heap} {v : AV} {xs : List α} (h : Sl p H v xs) {i : Nat} (hi : i ≤ xs.length) : Sl p H (v.cut 0 i) (xs.take i) ∧ (xs.take i).length = i ∧ slV (Rep.sz α) v none (some (.i i)) none = some (v.cut 0 i) := by
  refine ⟨by simpa using h.cut (a := 0) (b := i) (by omega) hi, by rw [List.length_take]; omega, h.slV_lh none _ ?_ (bound_none (by omega)) (by omega) hi⟩
  rw [bound_some (by omega) (by omega)]; simp
theorem gi_take {α : Type} [Inhabited α] {xs : List α} {i j : Nat} (h : j < i) (hi : i ≤ xs.length) : gi (xs.take i) (j : Int) = gi xs (j : Int) := by
  rw [gi_nat (by rw [List.length_take]; omega), gi_nat (by omega)]; simp
theorem distance_ret {p : Nat → Prop} {H : Heap} {rows : AV} {v : Int} {t : List (List Int)} (ht : Sl p H rows t) (hA : ArrP v t) (h2 : 2 ≤ t.length) :
    RetP E 47 [.ag [.i v, rows]] H (.tp [.i (minF (wd t) (dstA t t.length)), .i 0]) := by
  refine RetP.ro rfl fn47 rfl rfl ?_
  unfold f47A
  have k1 := ht.app [.cells [.i v, rows]]
  have hw := hA.wd
  have hb := hA.2.2.2.1
  have hn1 : ¬ (t.length : Int) = 1 := by omega
  simp (disch := (first | assumption | omega | (simp only [List.length_append, List.length_cons, List.length_nil]; omega))) only [↓wD,wU,Nat.reduceBEq,zx150,zx151,zx159,zx160,zx161,zx162,Nat.reduceAdd,Nat.reduceSub,Nat.reduceMul,Nat.reduceLeDiff,Nat.reduceLT,Nat.reduceEqDiff,Int.reduceAdd,Int.reduceSub,Int.reduceMul,Int.reduceNeg,Int.reduceLT,Int.reduceLE,Int.reduceEq,Int.reduceToNat,Int.cast_ofNat_Int,↓reduceIte, *, ht.L, (valid_ret k1).call, decide_eq_true hA, (columns_ret k1 (by omega)).call]
  refine Wp.for t.length (fun i a H' => H' = H ++ [.cells [.i v, rows]] ∧ a 1 = .p H.length 0 ∧ a 23 = rows ∧ a 24 = .i t.length ∧ a 25 = .i i ∧ a 4 = .i (minF (wd t) (dstA t i))) ?_ ?_
  · rintro i a H' hi ⟨rfl, a1, a23, a24, a25, a4⟩ ih
    simp (disch := (first | assumption | omega | (simp only [List.length_append, List.length_cons, List.length_nil]; omega))) only [↓wD,wU,Nat.reduceBEq,zx150,zx151,zx159,zx160,zx161,zx162,Nat.reduceAdd,Nat.reduceSub,Nat.reduceMul,Nat.reduceLeDiff,Nat.reduceLT,Nat.reduceEqDiff,Int.reduceAdd,Int.reduceSub,Int.reduceMul,Int.reduceNeg,Int.reduceLT,Int.reduceLE,Int.reduceEq,Int.reduceToNat,Int.cast_ofNat_Int,↓reduceIte, *]
    refine condP_split (fun hlt => ?_) (fun hlt => ?_)
    · have hi' : i < t.length := by omega
      have g := k1.get (k := (i : Int)) (by omega) (by omega)
      have gl := (hA.row (mem_gi hi')).1
      obtain ⟨kc, kl, hs⟩ := take_cut k1 (i := i) (by omega)
      have hs' : slV 1 rows none (some (.i i)) none = some (rows.cut 0 i) := hs
      have kcL := kc.L
      rw [kl] at kcL
      simp (disch := (first | assumption | omega | (simp only [List.length_append, List.length_cons, List.length_nil]; omega))) only [↓wD,wU,Nat.reduceBEq,zx150,zx151,zx159,zx160,zx161,zx162,Nat.reduceAdd,Nat.reduceSub,Nat.reduceMul,Nat.reduceLeDiff,Nat.reduceLT,Nat.reduceEqDiff,Int.reduceAdd,Int.reduceSub,Int.reduceMul,Int.reduceNeg,Int.reduceLT,Int.reduceLE,Int.reduceEq,Int.reduceToNat,Int.cast_ofNat_Int,↓reduceIte, *, k1.L, g.I, hs', kcL]
      refine Wp.for i (fun j a H' => H' = H ++ [.cells [.i v, rows]] ∧ a 1 = .p H.length 0 ∧ a 23 = rows ∧ a 24 = .i t.length ∧ a 25 = .i i ∧ a 6 = rows.get (H ++ [.cells [.i v, rows]]) i ∧ a 33 = rows.cut 0 i ∧ a 34 = .i i ∧ a 35 = .i j ∧ a 4 = .i (minF (wd t) (dstA t i ++ dstP t i j))) ?_ ?_
      · clear a1 a23 a24 a25 a4
        rintro j a H' hj ⟨rfl, a1, a23, a24, a25, a6, a33, a34, a35, a4⟩ ih2
        simp (disch := (first | assumption | omega | (simp only [List.length_append, List.length_cons, List.length_nil]; omega))) only [↓wD,wU,Nat.reduceBEq,zx150,zx151,zx159,zx160,zx161,zx162,Nat.reduceAdd,Nat.reduceSub,Nat.reduceMul,Nat.reduceLeDiff,Nat.reduceLT,Nat.reduceEqDiff,Int.reduceAdd,Int.reduceSub,Int.reduceMul,Int.reduceNeg,Int.reduceLT,Int.reduceLE,Int.reduceEq,Int.reduceToNat,Int.cast_ofNat_Int,↓reduceIte, *]
        refine condP_split (fun hlt2 => ?_) (fun hlt2 => ?_)
        · have hj' : j < i := by omega
          have g2 := kc.get (k := (j : Int)) (by omega) (by omega)
          rw [gi_take hj' (by omega)] at g2
          have gl2 := (hA.row (mem_gi (show j < t.length by omega))).1
          have hd : minF (wd t) (dstA t i ++ dstP t i (j + 1)) = min (minF (wd t) (dstA t i ++ dstP t i j)) (dst (gi t (i : Int)) (gi t (j : Int))) := by
            rw [dstP_succ, ← List.append_assoc, minF_app]
          simp (disch := (first | assumption | omega | (simp only [List.length_append, List.length_cons, List.length_nil]; omega))) only [↓wD,wU,Nat.reduceBEq,zx150,zx151,zx159,zx160,zx161,zx162,Nat.reduceAdd,Nat.reduceSub,Nat.reduceMul,Nat.reduceLeDiff,Nat.reduceLT,Nat.reduceEqDiff,Int.reduceAdd,Int.reduceSub,Int.reduceMul,Int.reduceNeg,Int.reduceLT,Int.reduceLE,Int.reduceEq,Int.reduceToNat,Int.cast_ofNat_Int,↓reduceIte, *, kcL, g.I]
          refine Wp.for (gi t i).length (fun c a H' => H' = H ++ [.cells [.i v, rows]] ∧ a 1 = .p H.length 0 ∧ a 23 = rows ∧ a 24 = .i t.length ∧ a 25 = .i i ∧ a 6 = rows.get (H ++ [.cells [.i v, rows]]) i ∧ a 33 = rows.cut 0 i ∧ a 34 = .i i ∧ a 35 = .i j ∧ a 4 = .i (minF (wd t) (dstA t i ++ dstP t i j)) ∧ a 8 = (rows.cut 0 i).get (H ++ [.cells [.i v, rows]]) j ∧ a 40 = .i (gi t i).length ∧ a 41 = .i c ∧ a 9 = .i (dstT (gi t i) (gi t j) c)) ?_ ?_
          · clear a1 a23 a24 a25 a6 a33 a34 a35 a4 hd
            rintro c a H' hc ⟨rfl, a1, a23, a24, a25, a6, a33, a34, a35, a4, a8, a40, a41, a9⟩ ih3
            simp (disch := (first | assumption | omega | (simp only [List.length_append, List.length_cons, List.length_nil]; omega))) only [↓wD,wU,Nat.reduceBEq,zx150,zx151,zx159,zx160,zx161,zx162,Nat.reduceAdd,Nat.reduceSub,Nat.reduceMul,Nat.reduceLeDiff,Nat.reduceLT,Nat.reduceEqDiff,Int.reduceAdd,Int.reduceSub,Int.reduceMul,Int.reduceNeg,Int.reduceLT,Int.reduceLE,Int.reduceEq,Int.reduceToNat,Int.cast_ofNat_Int,↓reduceIte, *]
            refine condP_split (fun hlt3 => ?_) (fun hlt3 => ?_)
            · have hc' : c < (gi t i).length := by omega
              have hdl := dstT_le (r := gi t i) (s := gi t j) (c := c)
              have hds := dstT_succ (r := gi t i) (s := gi t j) (c := c)
              simp (disch := (first | assumption | omega | (simp only [List.length_append, List.length_cons, List.length_nil]; omega))) only [↓wD,wU,Nat.reduceBEq,zx150,zx151,zx159,zx160,zx161,zx162,Nat.reduceAdd,Nat.reduceSub,Nat.reduceMul,Nat.reduceLeDiff,Nat.reduceLT,Nat.reduceEqDiff,Int.reduceAdd,Int.reduceSub,Int.reduceMul,Int.reduceNeg,Int.reduceLT,Int.reduceLE,Int.reduceEq,Int.reduceToNat,Int.cast_ofNat_Int,↓reduceIte, *, g.I, g2.I]
              refine condP_split (fun hne => ?_) (fun hne => ?_)
              · rw [if_neg hne] at hds
                clear hne
                simp (disch := (first | assumption | omega | (simp only [List.length_append, List.length_cons, List.length_nil]; omega))) only [↓wD,wU,Nat.reduceBEq,zx150,zx151,zx159,zx160,zx161,zx162,Nat.reduceAdd,Nat.reduceSub,Nat.reduceMul,Nat.reduceLeDiff,Nat.reduceLT,Nat.reduceEqDiff,Int.reduceAdd,Int.reduceSub,Int.reduceMul,Int.reduceNeg,Int.reduceLT,Int.reduceLE,Int.reduceEq,Int.reduceToNat,Int.cast_ofNat_Int,↓reduceIte, *]
                refine (ih3 hc').go ⟨rfl, ?_⟩
                simp (disch := (first | assumption | omega | (simp only [List.length_append, List.length_cons, List.length_nil]; omega))) only [↓wD,wU,Nat.reduceBEq,zx150,zx151,zx159,zx160,zx161,zx162,Nat.reduceAdd,Nat.reduceSub,Nat.reduceMul,Nat.reduceLeDiff,Nat.reduceLT,Nat.reduceEqDiff,Int.reduceAdd,Int.reduceSub,Int.reduceMul,Int.reduceNeg,Int.reduceLT,Int.reduceLE,Int.reduceEq,Int.reduceToNat,Int.cast_ofNat_Int,↓reduceIte, *]
              · rw [if_pos (Classical.not_not.1 hne)] at hds
                clear hne
                simp (disch := (first | assumption | omega | (simp only [List.length_append, List.length_cons, List.length_nil]; omega))) only [↓wD,wU,Nat.reduceBEq,zx150,zx151,zx159,zx160,zx161,zx162,Nat.reduceAdd,Nat.reduceSub,Nat.reduceMul,Nat.reduceLeDiff,Nat.reduceLT,Nat.reduceEqDiff,Int.reduceAdd,Int.reduceSub,Int.reduceMul,Int.reduceNeg,Int.reduceLT,Int.reduceLE,Int.reduceEq,Int.reduceToNat,Int.cast_ofNat_Int,↓reduceIte, *]
                refine (ih3 hc').go ⟨rfl, ?_⟩
                simp (disch := (first | assumption | omega | (simp only [List.length_append, List.length_cons, List.length_nil]; omega))) only [↓wD,wU,Nat.reduceBEq,zx150,zx151,zx159,zx160,zx161,zx162,Nat.reduceAdd,Nat.reduceSub,Nat.reduceMul,Nat.reduceLeDiff,Nat.reduceLT,Nat.reduceEqDiff,Int.reduceAdd,Int.reduceSub,Int.reduceMul,Int.reduceNeg,Int.reduceLT,Int.reduceLE,Int.reduceEq,Int.reduceToNat,Int.cast_ofNat_Int,↓reduceIte, *]
            · obtain rfl : c = (gi t i).length := by omega
              have hd : minF (wd t) (dstA t i ++ dstP t i (j + 1)) = min (minF (wd t) (dstA t i ++ dstP t i j)) (dstT (gi t (i : Int)) (gi t (j : Int)) (gi t (i : Int)).length) := by
                rw [dstP_succ, ← List.append_assoc, minF_app]; rfl
              simp (disch := (first | assumption | omega | (simp only [List.length_append, List.length_cons, List.length_nil]; omega))) only [↓wD,wU,Nat.reduceBEq,zx150,zx151,zx159,zx160,zx161,zx162,Nat.reduceAdd,Nat.reduceSub,Nat.reduceMul,Nat.reduceLeDiff,Nat.reduceLT,Nat.reduceEqDiff,Int.reduceAdd,Int.reduceSub,Int.reduceMul,Int.reduceNeg,Int.reduceLT,Int.reduceLE,Int.reduceEq,Int.reduceToNat,Int.cast_ofNat_Int,↓reduceIte, *]
              refine (ih2 hj').go ⟨rfl, ?_⟩
              simp (disch := (first | assumption | omega | (simp only [List.length_append, List.length_cons, List.length_nil]; omega))) only [↓wD,wU,Nat.reduceBEq,zx150,zx151,zx159,zx160,zx161,zx162,Nat.reduceAdd,Nat.reduceSub,Nat.reduceMul,Nat.reduceLeDiff,Nat.reduceLT,Nat.reduceEqDiff,Int.reduceAdd,Int.reduceSub,Int.reduceMul,Int.reduceNeg,Int.reduceLT,Int.reduceLE,Int.reduceEq,Int.reduceToNat,Int.cast_ofNat_Int,↓reduceIte, *]
          · (simp (disch := (first | assumption | omega | (simp only [List.length_append, List.length_cons, List.length_nil]; omega))) only [↓wD,wU,Nat.reduceBEq,zx150,zx151,zx159,zx160,zx161,zx162,Nat.reduceAdd,Nat.reduceSub,Nat.reduceMul,Nat.reduceLeDiff,Nat.reduceLT,Nat.reduceEqDiff,Int.reduceAdd,Int.reduceSub,Int.reduceMul,Int.reduceNeg,Int.reduceLT,Int.reduceLE,Int.reduceEq,Int.reduceToNat,Int.cast_ofNat_Int,↓reduceIte, *]) <;> simp [dstT]
        · obtain rfl : j = i := by omega
          have hd := dstA_succ (t := t) (i := j)
          simp (disch := (first | assumption | omega | (simp only [List.length_append, List.length_cons, List.length_nil]; omega))) only [↓wD,wU,Nat.reduceBEq,zx150,zx151,zx159,zx160,zx161,zx162,Nat.reduceAdd,Nat.reduceSub,Nat.reduceMul,Nat.reduceLeDiff,Nat.reduceLT,Nat.reduceEqDiff,Int.reduceAdd,Int.reduceSub,Int.reduceMul,Int.reduceNeg,Int.reduceLT,Int.reduceLE,Int.reduceEq,Int.reduceToNat,Int.cast_ofNat_Int,↓reduceIte, *]
          refine (ih hi').go ⟨rfl, ?_⟩
          simp (disch := (first | assumption | omega | (simp only [List.length_append, List.length_cons, List.length_nil]; omega))) only [↓wD,wU,Nat.reduceBEq,zx150,zx151,zx159,zx160,zx161,zx162,Nat.reduceAdd,Nat.reduceSub,Nat.reduceMul,Nat.reduceLeDiff,Nat.reduceLT,Nat.reduceEqDiff,Int.reduceAdd,Int.reduceSub,Int.reduceMul,Int.reduceNeg,Int.reduceLT,Int.reduceLE,Int.reduceEq,Int.reduceToNat,Int.cast_ofNat_Int,↓reduceIte, *]
      · (simp (disch := (first | assumption | omega | (simp only [List.length_append, List.length_cons, List.length_nil]; omega))) only [↓wD,wU,Nat.reduceBEq,zx150,zx151,zx159,zx160,zx161,zx162,Nat.reduceAdd,Nat.reduceSub,Nat.reduceMul,Nat.reduceLeDiff,Nat.reduceLT,Nat.reduceEqDiff,Int.reduceAdd,Int.reduceSub,Int.reduceMul,Int.reduceNeg,Int.reduceLT,Int.reduceLE,Int.reduceEq,Int.reduceToNat,Int.cast_ofNat_Int,↓reduceIte, *]) <;> simp [dstP]
    · obtain rfl : i = t.length := by omega
      simp (disch := (first | assumption | omega | (simp only [List.length_append, List.length_cons, List.length_nil]; omega))) only [↓wD,wU,Nat.reduceBEq,zx150,zx151,zx159,zx160,zx161,zx162,Nat.reduceAdd,Nat.reduceSub,Nat.reduceMul,Nat.reduceLeDiff,Nat.reduceLT,Nat.reduceEqDiff,Int.reduceAdd,Int.reduceSub,Int.reduceMul,Int.reduceNeg,Int.reduceLT,Int.reduceLE,Int.reduceEq,Int.reduceToNat,Int.cast_ofNat_Int,↓reduceIte, *]
  · (simp (disch := (first | assumption | omega | (simp only [List.length_append, List.length_cons, List.length_nil]; omega))) only [↓wD,wU,Nat.reduceBEq,zx150,zx151,zx159,zx160,zx161,zx162,Nat.reduceAdd,Nat.reduceSub,Nat.reduceMul,Nat.reduceLeDiff,Nat.reduceLT,Nat.reduceEqDiff,Int.reduceAdd,Int.reduceSub,Int.reduceMul,Int.reduceNeg,Int.reduceLT,Int.reduceLE,Int.reduceEq,Int.reduceToNat,Int.cast_ofNat_Int,↓reduceIte, *]) <;> simp [dstA, minF]
theorem distance_one {p : Nat → Prop} {H : Heap} {rows : AV} {v : Int} {t : List (List Int)} (ht : Sl p H rows t) (hA : ArrP v t) (h2 : t.length = 1) :
    RetP E 47 [.ag [.i v, rows]] H (.tp [.i 0, .i 4]) := by
  refine RetP.ro rfl fn47 rfl rfl ?_
  unfold f47A
  have k1 := ht.app [.cells [.i v, rows]]
  have hn1 : (t.length : Int) = 1 := by omega
  have htL := ht.L
  rw [hn1] at htL
  clear hn1
  simp (disch := (first | assumption | omega | (simp only [List.length_append, List.length_cons, List.length_nil]; omega))) only [↓wD,wU,Nat.reduceBEq,zx150,zx151,zx159,zx160,zx161,zx162,Nat.reduceAdd,Nat.reduceSub,Nat.reduceMul,Nat.reduceLeDiff,Nat.reduceLT,Nat.reduceEqDiff,Int.reduceAdd,Int.reduceSub,Int.reduceMul,Int.reduceNeg,Int.reduceLT,Int.reduceLE,Int.reduceEq,Int.reduceToNat,Int.cast_ofNat_Int,↓reduceIte, *, htL, (valid_ret k1).call, decide_eq_true hA]
end Go.Proofs.Ytalaadcbpjnglaa
namespace Go.Proofs.Ytalaadcbpjnglaa
open Go Go.AM Go.Proofs
theorem sufs_ne_t {n : Int} : ∀ {t : Nat} {x : Int}, x + t ≤ n → 0 < (sufs true n t x).length
  | 0, x, _ => by simp [sufs]
  | t + 1, x, h => by
    have : x < n := by omega
    simp only [sufs, rng_cons this, List.flatMap_cons, List.length_append, List.length_map, if_true]
    have := sufs_ne_t (n := n) (t := t) (x := x + 1) (by omega)
    omega
theorem sufs_ne_f {n : Int} (h : 0 < n) : ∀ {t : Nat} {x : Int}, x = 0 → 0 < (sufs false n t x).length
  | 0, x, _ => by simp [sufs]
  | t + 1, x, hx => by
    subst hx
    simp only [sufs, rng_cons h, List.flatMap_cons, List.length_append, List.length_map, Bool.false_eq_true, if_false]
    have := sufs_ne_f h (t := t) (x := 0) rfl
    omega
theorem allL_ne {v : Int} {t : List (List Int)} {k : Nat} (hA : ArrP v t) (h3 : k ≤ wd t) : 0 < (allL v t k).length := by
  have h1 := sufs_ne_t (n := wd t) (t := k) (x := 0) (by omega)
  have h2 := sufs_ne_f (n := v) (by have := hA.1; omega) (t := k) (x := 0) rfl
  unfold allL
  cases hc : sufs true (wd t) k 0 with
  | nil => rw [hc] at h1; simp at h1
  | cons c cs =>
    simp only [List.flatMap_cons, List.length_append]
    have : (allC v t k c).length = (sufs false v k 0).length := by simp [allC]
    omega
theorem rfair_idx {l : List (List Int × Nat)} (h : 0 < l.length) : decide (0 < idxL l) = rfairB l := by
  have h0 : ¬ l.length = 0 := by omega
  unfold idxL
  rw [if_neg h0]
  cases he : evenB l with
  | false =>
    have : rfairB l = false := by
      rw [← Bool.not_eq_true] at he ⊢
      intro hh
      apply he
      unfold rfairB at hh; unfold evenB
      rw [List.all_eq_true] at hh ⊢
      intro x hx
      have := hh x hx
      simp at this ⊢; exact this.1
    rw [this]; simp
  | true =>
    simp only [if_true]
    unfold evenB at he
    rw [List.all_eq_true] at he
    by_cases h2 : fstN l = 0
    · have : rfairB l = false := by
        rw [← Bool.not_eq_true]
        intro hh
        unfold rfairB at hh
        rw [List.all_eq_true] at hh
        cases l with
        | nil => simp at h
        | cons x r =>
          have := hh x (by simp)
          have e : fstN (x :: r) = x.2 := rfl
          rw [e] at h2
          simp at this; omega
      rw [this, h2]; simp
    · have : rfairB l = true := by
        unfold rfairB
        rw [List.all_eq_true]
        intro x hx
        have := he x hx
        simp at this
        simp [this]; exact h2
      rw [this]; simp; omega
def fairK (v : Int) (t : List (List Int)) (k : Nat) : Bool := decide (0 < idxL (allL v t k))
end Go.Proofs.Ytalaadcbpjnglaa
namespace Go.Proofs.Ytalaadcbpjnglaa
open Go Go.AM Go.Proofs
theorem awake_ret {H : Heap} : RetP E 25 [] H (.b true) :=
  RetP.closed (n := 300) rfl fn25 rfl rfl (by kernel_rfl)
end Go.Proofs.Ytalaadcbpjnglaa
namespace Go.Proofs.Ytalaadcbpjnglaa
open Go Go.AM Go.Proofs
theorem idx_all {l : List (List Int × Nat)} {m : Nat} (h : 0 < l.length) (hm : ∀ x ∈ l, x.2 = m) : idxL l = m := by
  have hf : fstN l = m := by
    cases l with
    | nil => simp at h
    | cons x r => exact hm x (by simp)
  have he : evenB l = true := by
    unfold evenB
    rw [List.all_eq_true]
    intro x hx
    simp [hm x hx, hf]
  unfold idxL
  rw [if_neg (by omega), if_pos he, hf]
theorem fairK_iff {v : Int} {t : List (List Int)} {k : Nat} (hA : ArrP v t) (h3 : k ≤ wd t) : fairK v t k = true ↔ ∃ m, 0 < m ∧ ∀ x ∈ allL v t k, x.2 = m := by
  have hne := allL_ne hA h3
  constructor
  · intro h
    unfold fairK at h
    rw [rfair_idx hne] at h
    unfold rfairB at h
    rw [List.all_eq_true] at h
    refine ⟨fstN (allL v t k), ?_, fun x hx => ?_⟩
    · cases hl : allL v t k with
      | nil => rw [hl] at hne; simp at hne
      | cons y r =>
        have := h y (by rw [hl]; simp)
        rw [hl] at this
        simp at this
        have e : fstN (y :: r) = y.2 := rfl
        omega
    · have := h x hx
      simp at this
      exact this.1
  · rintro ⟨m, hm, h⟩
    unfold fairK
    rw [idx_all hne h]
    simp; omega
theorem mem_rng {x n y : Int} : y ∈ rng x n ↔ x ≤ y ∧ y < n :=
  ⟨rng_mem, fun ⟨h1, h2⟩ => by simp only [rng, List.mem_map, List.mem_range]; exact ⟨(y - x).toNat, by omega, by omega⟩⟩
theorem mem_sufs_f {n : Int} : ∀ {t : Nat} {s : List Int}, s ∈ sufs false n t 0 ↔ s.length = t ∧ ∀ c ∈ s, 0 ≤ c ∧ c < n
  | 0, s => by
    simp only [sufs, List.mem_singleton]
    constructor
    · rintro rfl; exact ⟨rfl, nofun⟩
    · rintro ⟨h, _⟩; exact List.length_eq_zero_iff.1 h
  | t + 1, s => by
    simp only [sufs, List.mem_flatMap, List.mem_map, Bool.false_eq_true, if_false]
    constructor
    · rintro ⟨y, hy, z, hz, rfl⟩
      have h1 := mem_rng.1 hy
      have h2 := mem_sufs_f.1 hz
      refine ⟨by simp [h2.1], fun c hc => ?_⟩
      rcases List.mem_cons.1 hc with rfl | hc
      · exact h1
      · exact h2.2 c hc
    · rintro ⟨h1, h2⟩
      cases s with
      | nil => simp at h1
      | cons y z => exact ⟨y, mem_rng.2 (h2 y (by simp)), z, mem_sufs_f.2 ⟨by simpa using h1, fun c hc => h2 c (by simp [hc])⟩, rfl⟩
theorem mem_allL {v : Int} {t : List (List Int)} {k : Nat} {cs ks : List Int} (h1 : cs ∈ sufs true (wd t) k 0) (h2 : ks ∈ sufs false v k 0) : (cs ++ ks, oft t cs ks) ∈ allL v t k := by
  unfold allL
  rw [List.mem_flatMap]
  refine ⟨cs, h1, ?_⟩
  unfold allC
  rw [List.mem_map]
  exact ⟨ks, h2, rfl⟩
theorem allL_mem {v : Int} {t : List (List Int)} {k : Nat} {x : List Int × Nat} (h : x ∈ allL v t k) : ∃ cs ks, cs ∈ sufs true (wd t) k 0 ∧ ks ∈ sufs false v k 0 ∧ x = (cs ++ ks, oft t cs ks) := by
  unfold allL at h
  rw [List.mem_flatMap] at h
  obtain ⟨cs, h1, h⟩ := h
  unfold allC at h
  rw [List.mem_map] at h
  obtain ⟨ks, h2, rfl⟩ := h
  exact ⟨cs, ks, h1, h2, rfl⟩
end Go.Proofs.Ytalaadcbpjnglaa
namespace Go.AM
theorem Acc.low {α : Type} [Rep α] {L : Nat} {p : Nat → Prop} {H : Heap} {v : AV} {xs : List α} (h : Acc L p H v xs) : Acc L (fun b => p b ∧ b < H.length) H v xs := by
  rcases h with h | ⟨b, o, c, k, rfl, hb, hk1, h1, h2, h3⟩
  · exact .inl h
  · exact .inr ⟨b, o, c, k, rfl, hb, hk1, h1, h2, fun i hi => Rep.mono (Rep.low (h3 i hi)) (Kp.refl _ _) fun b h => ⟨⟨h.1.1, h.2⟩, h.1.2⟩⟩
end Go.AM
namespace Go.Proofs.Ytalaadcbpjnglaa
open Go Go.AM Go.Proofs
theorem each_ret {p : Nat → Prop} {H : Heap} {rows : AV} {v : Int} {t : List (List Int)} {f : Nat} {us caps : List AV} {g : List Int → List Int} (ht : Sl p H rows t) (hlen : t.length ≤ 1000000) (hrl : ∀ x ∈ t, x.length ≤ 1000000)
    (hto : ∀ x ∈ t, ∀ (y : AV) (Hc : Heap) (L : Nat), Gr H Hc → H.length ≤ L → L ≤ Hc.length → Sl (fun b => L ≤ b) Hc y x → WpF E H.length f (us ++ [y] ++ caps) Hc fun w H'' => Sl (fun b => L ≤ b) H'' w (g x) ∧ Kx (fun b => b < L) Hc H'') :
    Ret E 77 [.ag [.i v, rows], .fn f us caps] (fun _ => False) H ((v, t.map g) : Int × List (List Int)) := by
  refine Ret.ro rfl fn77 rfl ?_
  unfold f77A
  have hlow : Sl (fun b => b < H.length) H rows t := ht.low.weak fun _ h => h.2
  have hbr := ht.bound
  simp (disch := (first | assumption | omega | (simp only [List.length_append, List.length_cons, List.length_nil]; omega))) only [↓wD,wU,Nat.reduceBEq,zx150,zx151,zx159,zx160,zx161,zx162,Nat.reduceAdd,Nat.reduceSub,Nat.reduceMul,Nat.reduceLeDiff,Nat.reduceLT,Nat.reduceEqDiff,Int.reduceAdd,Int.reduceSub,Int.reduceMul,Int.reduceNeg,Int.reduceLT,Int.reduceLE,Int.reduceEq,Int.reduceToNat,Int.cast_ofNat_Int,↓reduceIte, ht.L]
  refine Wp.for t.length (fun i a H1 => ∃ u, a 1 = .fn f us caps ∧ a 4 = .p (H.length + 1) 0 ∧ a 5 = .p (H.length + 2) 0 ∧ a 12 = rows ∧ a 13 = .i t.length ∧ a 14 = .i i ∧ Gr H H1 ∧ H.length + 3 ≤ H1.length ∧
    H1[H.length + 1]? = some (.cells [.i 0, .nils]) ∧ H1[H.length + 2]? = some (.cells [.i v, u]) ∧ Acc (H.length + 3) (fun b => H.length + 3 ≤ b) H1 u ((t.take i).map g)) ?_ ?_
  · rintro i a H1 hi ⟨u, a1, a4, a5, a12, a13, a14, hg, hl, c4, c5, hu⟩ ih
    simp (disch := (first | assumption | omega | (simp only [List.length_append, List.length_cons, List.length_nil]; omega))) only [↓wD,wU,Nat.reduceBEq,zx150,zx151,zx159,zx160,zx161,zx162,Nat.reduceAdd,Nat.reduceSub,Nat.reduceMul,Nat.reduceLeDiff,Nat.reduceLT,Nat.reduceEqDiff,Int.reduceAdd,Int.reduceSub,Int.reduceMul,Int.reduceNeg,Int.reduceLT,Int.reduceLE,Int.reduceEq,Int.reduceToNat,Int.cast_ofNat_Int,↓reduceIte, a1, a4, a5, a12, a13, a14]
    refine condP_split (fun hlt => ?_) (fun hlt => ?_)
    · have hi' : i < t.length := by omega
      have ht1 := hlow.gr hg
      have gr := ht1.get (k := (i : Int)) (by omega) (by omega)
      have hx := hrl _ (mem_gi hi')
      simp (disch := (first | assumption | omega | (simp only [List.length_append, List.length_cons, List.length_nil]; omega))) only [↓wD,wU,Nat.reduceBEq,zx150,zx151,zx159,zx160,zx161,zx162,Nat.reduceAdd,Nat.reduceSub,Nat.reduceMul,Nat.reduceLeDiff,Nat.reduceLT,Nat.reduceEqDiff,Int.reduceAdd,Int.reduceSub,Int.reduceMul,Int.reduceNeg,Int.reduceLT,Int.reduceLE,Int.reduceEq,Int.reduceToNat,Int.cast_ofNat_Int,↓reduceIte, a1, a4, a5, a12, a13, a14, ht1.L]
      refine lpI (wpC ?_)
      simp (disch := (first | assumption | omega | (simp only [List.length_append, List.length_cons, List.length_nil]; omega))) only [↓wD,wU,Nat.reduceBEq,zx150,zx151,zx159,zx160,zx161,zx162,Nat.reduceAdd,Nat.reduceSub,Nat.reduceMul,Nat.reduceLeDiff,Nat.reduceLT,Nat.reduceEqDiff,Int.reduceAdd,Int.reduceSub,Int.reduceMul,Int.reduceNeg,Int.reduceLT,Int.reduceLE,Int.reduceEq,Int.reduceToNat,Int.cast_ofNat_Int,↓reduceIte, a1, a4, a5, a12, a13, a14, ld_of c5]
      refine (clone_ret gr (by omega)).toFX fun y H2 x12 hy => ?_
      have hg2 := hg.trans x12.kp.weakT
      simp (disch := (first | assumption | omega | (simp only [List.length_append, List.length_cons, List.length_nil]; omega))) only [↓wD,wU,Nat.reduceBEq,zx150,zx151,zx159,zx160,zx161,zx162,Nat.reduceAdd,Nat.reduceSub,Nat.reduceMul,Nat.reduceLeDiff,Nat.reduceLT,Nat.reduceEqDiff,Int.reduceAdd,Int.reduceSub,Int.reduceMul,Int.reduceNeg,Int.reduceLT,Int.reduceLE,Int.reduceEq,Int.reduceToNat,Int.cast_ofNat_Int,↓reduceIte, a1, a4, a5, a12, a13, a14]
      have hw0 := hto _ (mem_gi hi') y H2 H1.length hg2 (by omega) x12.1 hy
      refine callvI (WpV.fn ((hw0.mono ?_)))
      rintro w H3 ⟨hw, x23⟩
      have x13 : Kx (fun b => b < H1.length) H1 H3 := (x12.all (fun b => b < H1.length)).trans x23 fun b _ h => h
      have l13 := x13.1
      have hu3 : Acc (H.length + 3) (fun b => H.length + 3 ≤ b ∧ b < H1.length) H3 u ((t.take i).map g) := hu.low.kp x13.kp (fun b e => (hu.blk_lt e).2) (fun b h => h.2)
      have hw3 : Sl (fun b => H1.length ≤ b ∧ b < H3.length) H3 w (g (gi t (i : Int))) := hw.low
      have hwV := hw.cellsV
      have d4 := x13.get (by omega) c4
      have d5 := x13.get (by omega) c5
      simp (disch := (first | assumption | omega | (simp only [List.length_append, List.length_cons, List.length_nil]; omega))) only [↓wD,wU,Nat.reduceBEq,zx150,zx151,zx159,zx160,zx161,zx162,Nat.reduceAdd,Nat.reduceSub,Nat.reduceMul,Nat.reduceLeDiff,Nat.reduceLT,Nat.reduceEqDiff,Int.reduceAdd,Int.reduceSub,Int.reduceMul,Int.reduceNeg,Int.reduceLT,Int.reduceLE,Int.reduceEq,Int.reduceToNat,Int.cast_ofNat_Int,↓reduceIte, a1, a4, a5, a12, a13, a14, hwV]
      refine appX ((hu3.mono (q := fun b => H.length + 3 ≤ b) (Kp.refl _ _) fun b h => h.1).pushL (by omega) (by omega) hw3 (fun b hb => ⟨by omega, fun e => by have := (hu.blk_lt e).2; omega⟩) ?_ fun u' H4 hu4 hk4 hl4 hb4 => fun x34 => ?_)
      · simp; omega
      · have a34 : Kx (fun b => u.blk ≠ some b) H3 H4 := ((Kx.app (fun b => u.blk ≠ some b) H3 _).trans x34 fun b _ h => h)
        have n4 : u.blk ≠ some (H.length + 1) := fun e => by have := (hu.blk_lt e).1; omega
        have n5 : u.blk ≠ some (H.length + 2) := fun e => by have := (hu.blk_lt e).1; omega
        have e4 := a34.get n4 d4
        have e5 := a34.get n5 d5
        have huV := hu4.cellsV
        have hg4 : Gr H (H4.set (H.length + 2) (.cells [.i v, u'])) := ((hg.trans' x13.kp fun b hb => by omega).trans' a34.kp fun b hb e => by have := (hu.blk_lt e).1; omega).set (by omega) _
        have q4 : (H4.set (H.length + 2) (.cells [.i v, u']))[H.length + 1]? = some (.cells [.i 0, .nils]) := by rw [List.getElem?_set_ne (by omega)]; exact e4
        have q5 := get_set (k := .cells [.i v, u']) e5
        have hu5 : Acc (H.length + 3) (fun b => H.length + 3 ≤ b) (H4.set (H.length + 2) (.cells [.i v, u'])) u' ((t.take (i + 1)).map g) := by
          rw [take_gi hi', List.map_append]
          exact hu4.mono ((Kp.set _ _ _).weak fun b hb => by omega) fun _ h => h
        simp (disch := (first | assumption | omega | (simp only [List.length_append, List.length_cons, List.length_nil]; omega))) only [↓wD,wU,Nat.reduceBEq,zx150,zx151,zx159,zx160,zx161,zx162,Nat.reduceAdd,Nat.reduceSub,Nat.reduceMul,Nat.reduceLeDiff,Nat.reduceLT,Nat.reduceEqDiff,Int.reduceAdd,Int.reduceSub,Int.reduceMul,Int.reduceNeg,Int.reduceLT,Int.reduceLE,Int.reduceEq,Int.reduceToNat,Int.cast_ofNat_Int,↓reduceIte, a1, a4, a5, a12, a13, a14, huV, st_of e5]
        refine chkI ?_ ?_
        · have z2 := x12.get trivial c5
          simp [chk1, ev, Fr.upd, a5, ld_of z2, ld_of d5, sameO, AV.same_refl]
        · simp (disch := (first | assumption | omega | (simp only [List.length_append, List.length_cons, List.length_nil]; omega))) only [↓wD,wU,Nat.reduceBEq,zx150,zx151,zx159,zx160,zx161,zx162,Nat.reduceAdd,Nat.reduceSub,Nat.reduceMul,Nat.reduceLeDiff,Nat.reduceLT,Nat.reduceEqDiff,Int.reduceAdd,Int.reduceSub,Int.reduceMul,Int.reduceNeg,Int.reduceLT,Int.reduceLE,Int.reduceEq,Int.reduceToNat,Int.cast_ofNat_Int,↓reduceIte, a1, a4, a5, a12, a13, a14]
          refine (ih hi').go ⟨u', ?_⟩
          simp (disch := (first | assumption | omega | (simp only [List.length_append, List.length_cons, List.length_nil]; omega))) only [↓wD,wU,Nat.reduceBEq,zx150,zx151,zx159,zx160,zx161,zx162,Nat.reduceAdd,Nat.reduceSub,Nat.reduceMul,Nat.reduceLeDiff,Nat.reduceLT,Nat.reduceEqDiff,Int.reduceAdd,Int.reduceSub,Int.reduceMul,Int.reduceNeg,Int.reduceLT,Int.reduceLE,Int.reduceEq,Int.reduceToNat,Int.cast_ofNat_Int,↓reduceIte, a1, a4, a5, a12, a13, a14]
          exact ⟨hg4, by simp; omega, q4, q5, hu5⟩
    · obtain rfl : i = t.length := by omega
      have huV := hu.cellsV
      rw [List.take_length] at hu
      simp (disch := (first | assumption | omega | (simp only [List.length_append, List.length_cons, List.length_nil]; omega))) only [↓wD,wU,Nat.reduceBEq,zx150,zx151,zx159,zx160,zx161,zx162,Nat.reduceAdd,Nat.reduceSub,Nat.reduceMul,Nat.reduceLeDiff,Nat.reduceLT,Nat.reduceEqDiff,Int.reduceAdd,Int.reduceSub,Int.reduceMul,Int.reduceNeg,Int.reduceLT,Int.reduceLE,Int.reduceEq,Int.reduceToNat,Int.cast_ofNat_Int,↓reduceIte, a1, a4, a5, a12, a13, a14, ldn_of c5, huV, st_of c4]
      simp (disch := (first | assumption | omega | (simp only [List.length_append, List.length_cons, List.length_nil]; omega))) only [↓wD,wU,Nat.reduceBEq,zx150,zx151,zx159,zx160,zx161,zx162,Nat.reduceAdd,Nat.reduceSub,Nat.reduceMul,Nat.reduceLeDiff,Nat.reduceLT,Nat.reduceEqDiff,Int.reduceAdd,Int.reduceSub,Int.reduceMul,Int.reduceNeg,Int.reduceLT,Int.reduceLE,Int.reduceEq,Int.reduceToNat,Int.cast_ofNat_Int,↓reduceIte, ldn_of (get_set c4)]
      exact rv_si ((hu.mono ((Kp.set _ _ _).weak fun b hb => by omega) fun _ h => h).sl.weak fun b h => .inr (by omega))
  · simp (disch := (first | assumption | omega | (simp only [List.length_append, List.length_cons, List.length_nil]; omega))) only [↓wD,wU,Nat.reduceBEq,zx150,zx151,zx159,zx160,zx161,zx162,Nat.reduceAdd,Nat.reduceSub,Nat.reduceMul,Nat.reduceLeDiff,Nat.reduceLT,Nat.reduceEqDiff,Int.reduceAdd,Int.reduceSub,Int.reduceMul,Int.reduceNeg,Int.reduceLT,Int.reduceLE,Int.reduceEq,Int.reduceToNat,Int.cast_ofNat_Int,↓reduceIte]
    refine ⟨.nils, ?_⟩
    simp (disch := (first | assumption | omega | (simp only [List.length_append, List.length_cons, List.length_nil]; omega))) only [↓wD,wU,Nat.reduceBEq,zx150,zx151,zx159,zx160,zx161,zx162,Nat.reduceAdd,Nat.reduceSub,Nat.reduceMul,Nat.reduceLeDiff,Nat.reduceLT,Nat.reduceEqDiff,Int.reduceAdd,Int.reduceSub,Int.reduceMul,Int.reduceNeg,Int.reduceLT,Int.reduceLE,Int.reduceEq,Int.reduceToNat,Int.cast_ofNat_Int,↓reduceIte]
    exact ⟨(((Gr.refl H).app _).app _).app _, Acc.nil⟩
/-- two Arrays may be put together -/
def alikeP (v v' : Int) (t t' : List (List Int)) : Prop := ArrP v t ∧ ArrP v' t' ∧ v = v' ∧ wd t = wd t'
instance (v v' : Int) (t t' : List (List Int)) : Decidable (alikeP v v' t t') := by unfold alikeP; infer_instance
theorem alike_ret {p q : Nat → Prop} {H : Heap} {r r' : AV} {v v' : Int} {t t' : List (List Int)} (ht : Sl p H r t) (ht' : Sl q H r' t') : RetP E 36 [.ag [.i v, r], .ag [.i v', r']] H (.b (decide (alikeP v v' t t'))) := by
  refine RetP.ro rfl fn36 rfl rfl ?_
  unfold f36A
  have k1 := (ht.app [.cells [.i v, r]]).app [.cells [.i v', r']]
  have k2 := (ht'.app [.cells [.i v, r]]).app [.cells [.i v', r']]
  by_cases h1 : ArrP v t
  · by_cases h2 : ArrP v' t'
    · by_cases h3 : v = v'
      · subst h3
        by_cases h4 : wd t = wd t'
        · have h4' : decide ((wd t : Int) = wd t') = true := decide_eq_true (by omega)
          rw [decide_eq_true (show alikeP v v t t' from ⟨h1, h2, rfl, h4⟩)]
          clear h4
          simp (disch := (first | assumption | omega | (simp only [List.length_append, List.length_cons, List.length_nil]; omega))) only [↓wD,wU,Nat.reduceBEq,zx150,zx151,zx159,zx160,zx161,zx162,Nat.reduceAdd,Nat.reduceSub,Nat.reduceMul,Nat.reduceLeDiff,Nat.reduceLT,Nat.reduceEqDiff,Int.reduceAdd,Int.reduceSub,Int.reduceMul,Int.reduceNeg,Int.reduceLT,Int.reduceLE,Int.reduceEq,Int.reduceToNat,Int.cast_ofNat_Int,↓reduceIte, ht.cellsV, ht'.cellsV, (rvalid_ret k1).call, (rvalid_ret k2).call, decide_eq_true h1, decide_eq_true h2, (width_ret k1 h1.2.2.1).call, (width_ret k2 h2.2.2.1).call, h4']
        · have h4' : decide ((wd t : Int) = wd t') = false := decide_eq_false (by omega)
          rw [decide_eq_false (show ¬ alikeP v v t t' from fun h => h4 h.2.2.2)]
          clear h4
          simp (disch := (first | assumption | omega | (simp only [List.length_append, List.length_cons, List.length_nil]; omega))) only [↓wD,wU,Nat.reduceBEq,zx150,zx151,zx159,zx160,zx161,zx162,Nat.reduceAdd,Nat.reduceSub,Nat.reduceMul,Nat.reduceLeDiff,Nat.reduceLT,Nat.reduceEqDiff,Int.reduceAdd,Int.reduceSub,Int.reduceMul,Int.reduceNeg,Int.reduceLT,Int.reduceLE,Int.reduceEq,Int.reduceToNat,Int.cast_ofNat_Int,↓reduceIte, ht.cellsV, ht'.cellsV, (rvalid_ret k1).call, (rvalid_ret k2).call, decide_eq_true h1, decide_eq_true h2, (width_ret k1 h1.2.2.1).call, (width_ret k2 h2.2.2.1).call, h4']
      · have h3' : decide (v = v') = false := decide_eq_false h3
        rw [decide_eq_false (show ¬ alikeP v v' t t' from fun h => h3 h.2.2.1)]
        simp (disch := (first | assumption | omega | (simp only [List.length_append, List.length_cons, List.length_nil]; omega))) only [↓wD,wU,Nat.reduceBEq,zx150,zx151,zx159,zx160,zx161,zx162,Nat.reduceAdd,Nat.reduceSub,Nat.reduceMul,Nat.reduceLeDiff,Nat.reduceLT,Nat.reduceEqDiff,Int.reduceAdd,Int.reduceSub,Int.reduceMul,Int.reduceNeg,Int.reduceLT,Int.reduceLE,Int.reduceEq,Int.reduceToNat,Int.cast_ofNat_Int,↓reduceIte, ht.cellsV, ht'.cellsV, (rvalid_ret k1).call, (rvalid_ret k2).call, decide_eq_true h1, decide_eq_true h2, h3']
    · rw [decide_eq_false (show ¬ alikeP v v' t t' from fun h => h2 h.2.1)]
      simp (disch := (first | assumption | omega | (simp only [List.length_append, List.length_cons, List.length_nil]; omega))) only [↓wD,wU,Nat.reduceBEq,zx150,zx151,zx159,zx160,zx161,zx162,Nat.reduceAdd,Nat.reduceSub,Nat.reduceMul,Nat.reduceLeDiff,Nat.reduceLT,Nat.reduceEqDiff,Int.reduceAdd,Int.reduceSub,Int.reduceMul,Int.reduceNeg,Int.reduceLT,Int.reduceLE,Int.reduceEq,Int.reduceToNat,Int.cast_ofNat_Int,↓reduceIte, ht.cellsV, ht'.cellsV, (rvalid_ret k1).call, (rvalid_ret k2).call, decide_eq_true h1, decide_eq_false h2]
  · rw [decide_eq_false (show ¬ alikeP v v' t t' from fun h => h1 h.1)]
    simp (disch := (first | assumption | omega | (simp only [List.length_append, List.length_cons, List.length_nil]; omega))) only [↓wD,wU,Nat.reduceBEq,zx150,zx151,zx159,zx160,zx161,zx162,Nat.reduceAdd,Nat.reduceSub,Nat.reduceMul,Nat.reduceLeDiff,Nat.reduceLT,Nat.reduceEqDiff,Int.reduceAdd,Int.reduceSub,Int.reduceMul,Int.reduceNeg,Int.reduceLT,Int.reduceLE,Int.reduceEq,Int.reduceToNat,Int.cast_ofNat_Int,↓reduceIte, ht.cellsV, ht'.cellsV, (rvalid_ret k1).call, decide_eq_false h1]
end Go.Proofs.Ytalaadcbpjnglaa
namespace Go.AM
open Go
theorem Sl.storeI {p : Nat → Prop} {lo : Nat} {H : Heap} {v : AV} {xs : List Int} {k x : Int} {Q : Heap → Prop} (h : Sl p H v xs) (hlo : ∀ b, p b → lo ≤ b) (h0 : 0 ≤ k) (h1 : k < xs.length)
    (go : ∀ H', Sl p H' v (xs.set k.toNat x) → Kx (fun b => v.blk ≠ some b) H H' → H'.length = H.length → Q H') : @optP _ (stA lo H 1 (v.at 1 k) (.i x)) ⟨Q⟩ := by
  rcases h with ⟨rfl, rfl⟩ | ⟨b, o, c, ks, rfl, hb, hk, h2, h3, h4⟩
  · simp at h1; omega
  · change o + xs.length * 1 ≤ ks.length at h2
    have hkl : k.toNat < xs.length := by omega
    have hst : stA lo H 1 (AV.at 1 (.s (Rep.sz Int) b o xs.length c) k) (.i x) = some (H.set b (.cells (ks.set (o + k.toNat) (.i x)))) := by
      simp only [stA, AV.at, Nat.mul_one, zx130, List.length_singleton, List.all_cons, List.all_nil, zx140, Bool.and_self, and_self, if_true]
      rw [st_of hk (hlo b hb) (by simp; omega)]
      simp [wr]
    refine ⟨_, hst, go _ (.inr ⟨b, o, c, ks.set (o + k.toNat) (.i x), by simp, hb, get_set hk, by simp; change o + xs.length * 1 ≤ _; omega, by simpa using h3, fun i hi => ?_⟩) ?_ (by simp)⟩
    · have hi' : i < xs.length := by simpa using hi
      have h5 := h4 i hi'
      change (ks.drop (o + i * 1)).take 1 = [.i xs[i]] at h5
      change ((ks.set (o + k.toNat) (.i x)).drop (o + i * 1)).take 1 = [.i _]
      rw [Nat.mul_one] at h5 ⊢
      have h6 := take1 h5
      have hlt : o + i < ks.length := by omega
      rw [List.drop_eq_getElem_cons (by simp; omega)]
      by_cases e : k.toNat = i
      · subst e; simp
      · have : ks[o + i]'hlt = .i xs[i] := by
          rw [List.getElem?_eq_getElem hlt] at h6; simpa using h6
        rw [List.getElem_set_ne (by omega), this, List.getElem_set_ne e]
        simp
    · exact (Kx.set _ _ _).weak fun b' _ hb' e => hb' (by simp [AV.blk, e])
def OAcc (p : Nat → Prop) (H : Heap) (u : AV) (xs : List (List Int)) : Prop :=
  (u = .nils ∧ xs = []) ∨ ∃ b o c k, u = .s 1 b o xs.length c ∧ p b ∧ H[b]? = some (.cells k) ∧ o + xs.length ≤ k.length ∧ xs.length ≤ 9223372036854775807 ∧ ∀ (i : Nat) (h : i < xs.length), Rep.rep (fun b' => p b' ∧ b' ≠ b) H ((k.drop (o + i)).take 1) xs[i]
theorem OAcc.of {L : Nat} {p q : Nat → Prop} {H : Heap} {u : AV} {xs : List (List Int)} (h : Acc L p H u xs) (hL : ∀ b, L ≤ b → q b) (hp : ∀ b, p b → q b) : OAcc q H u xs := by
  rcases h with h | ⟨b, o, c, k, rfl, hb, hk1, h1, h2, h3⟩
  · exact .inl h
  · refine .inr ⟨b, o, c, k, rfl, hL b hb, hk1, by change o + xs.length * 1 ≤ _ at h1; omega, h2, fun i hi => ?_⟩
    have := h3 i hi
    change Rep.rep _ H ((k.drop (o + i * 1)).take 1) _ at this
    rw [Nat.mul_one] at this
    exact Rep.mono this (Kp.refl _ _) fun b h => ⟨hp b h.1, h.2⟩
theorem OAcc.acc {L : Nat} {q : Nat → Prop} {H : Heap} {u : AV} {xs : List (List Int)} (h : OAcc q H u xs) (hL : ∀ b, q b → L ≤ b) : Acc L q H u xs := by
  rcases h with h | ⟨b, o, c, k, rfl, hb, hk1, h1, h2, h3⟩
  · exact .inl h
  · refine .inr ⟨b, o, c, k, rfl, hL b hb, hk1, by change o + xs.length * 1 ≤ _; omega, h2, fun i hi => ?_⟩
    change Rep.rep _ H ((k.drop (o + i * 1)).take 1) _
    rw [Nat.mul_one]
    exact h3 i hi
end Go.AM
namespace Go.AM
open Go
theorem wr_get : ∀ {us cs : List AV} {o t : Nat}, t < us.length → o + us.length ≤ cs.length → (wr cs o us)[o + t]? = us[t]?
  | [], _, _, _, h, _ => by simp at h
  | u :: us, cs, o, 0, _, h2 => by
    simp only [wr, List.length_cons] at h2 ⊢
    have key : ∀ (us cs : List AV) (o j : Nat), j < o → (wr cs o us)[j]? = cs[j]? := by
      intro us
      induction us with
      | nil => intro cs o j _; rfl
      | cons u us ih => intro cs o j hj; rw [wr, ih _ _ _ (by omega), List.getElem?_set_ne (by omega)]
    rw [key _ _ _ _ (by omega), Nat.add_zero, List.getElem?_set_self (by omega)]; rfl
  | u :: us, cs, o, t + 1, h1, h2 => by
    simp only [wr, List.length_cons] at h1 h2 ⊢
    rw [show o + (t + 1) = o + 1 + t by omega, wr_get (by omega) (by simp; omega)]; rfl
theorem intsOf_ints : ∀ xs : List Int, intsOf (xs.map AV.i) = some xs
  | [] => rfl
  | x :: xs => by
    show (intsOf (xs.map AV.i)).map (x :: ·) = _
    rw [intsOf_ints xs]; rfl
/-- elements are taken out of a slice of the call's own -/
theorem WpF.del {E : Tab} {lo L f : Nat} {H : Heap} {v : AV} {xs : List Int} {i j : Nat} (hk : E.kd f = .del) (hv : Sl (fun b => L ≤ b) H v xs) (hlo : lo ≤ L) (hn : 0 < xs.length) (hij : i ≤ j) (hj : j ≤ xs.length) :
    WpF E lo f [v, .i i, .i j] H fun w H' => Sl (fun b => L ≤ b) H' w (xs.take i ++ xs.drop j) ∧ Kx (fun b => v.blk ≠ some b) H H' := by
  have hc := hv.ints
  rcases hv with ⟨rfl, rfl⟩ | ⟨b, o, c, k, rfl, hb, hk1, h1, h2, h3⟩
  · simp at hn
  change o + xs.length * 1 ≤ k.length at h1
  rw [Nat.mul_one] at h1
  have e3 : (k.drop o).take xs.length = xs.map AV.i := by
    change (if xs.length ≤ xs.length ∧ 1 = 1 then (if xs.length = 0 then some [] else ldn H b o (xs.length * 1)) else none) = _ at hc
    rw [if_pos ⟨Nat.le_refl _, rfl⟩, if_neg (by omega), ldn_of hk1, Nat.mul_one, if_pos h1] at hc
    exact Option.some.inj hc
  have hz : (xs.take i ++ xs.drop j ++ List.replicate (j - i) 0).length = xs.length := by simp; omega
  have hd : delV lo [.s 1 b o xs.length c, .i i, .i j] H = some (.s 1 b o (xs.length - (j - i)) c, H.set b (.cells (wr k o ((xs.take i ++ xs.drop j ++ List.replicate (j - i) 0).map AV.i)))) := by
    unfold delV
    simp only [hk1, e3, intsOf_ints, Int.toNat_natCast, if_true]
    rw [if_pos ⟨trivial, by omega, by omega, by omega, by omega, hn⟩]
  refine ⟨0, .s 1 b o (xs.length - (j - i)) c, H.set b (.cells (wr k o ((xs.take i ++ xs.drop j ++ List.replicate (j - i) 0).map AV.i))), ?_, ?_, ?_⟩
  rotate_left
  · have hl : (xs.take i ++ xs.drop j).length = xs.length - (j - i) := by simp; omega
    refine .inr ⟨b, o, c, _, by rw [hl]; rfl, hb, get_set hk1, ?_, by omega, fun t ht => ?_⟩
    · rw [wr_length]; change o + (xs.take i ++ xs.drop j).length * 1 ≤ _; omega
    · have hg := wr_get (us := (xs.take i ++ xs.drop j ++ List.replicate (j - i) 0).map AV.i) (cs := k) (o := o) (t := t) (by rw [List.length_map, hz]; omega) (by rw [List.length_map, hz]; omega)
      rw [List.getElem?_map, List.getElem?_append_left ht, List.getElem?_eq_getElem ht] at hg
      change (List.drop (o + t * 1) _).take 1 = [AV.i _]
      rw [Nat.mul_one, List.take_one, List.head?_drop, hg]; rfl
  · exact (Kx.set b H _).weak fun b' _ h e => h (by simp [AV.blk, e])
  · unfold callF
    simp only [hk]
    exact hd
end Go.AM
namespace Go.Proofs.Ytalaadcbpjnglaa
open Go Go.AM Go.Proofs
theorem kd80 : E.kd 80 = .del := by kernel_rfl
theorem drop1_wp {lo L b c : Nat} {H : Heap} {y : AV} {x : List Int} (hy : Sl (fun b => L ≤ b) H y x) (hlo : lo ≤ L) (hb : H[b]? = some (.cells [.i c])) (hc : c < x.length) (hx : x.length ≤ 1000000) :
    WpF E lo 79 [y, .p b 0] H fun w H' => Sl (fun b => L ≤ b) H' w (x.take c ++ x.drop (c + 1)) ∧ Kx (fun b => b < L) H H' := by
  refine WpF.wrt rfl fn79 rfl ?_
  unfold f79A
  have hd := WpF.del (lo := lo) kd80 hy hlo (by omega) (i := c) (j := c + 1) (by omega) (by omega)
  have e1 : ((c + 1 : Nat) : Int) = (c : Int) + 1 := by omega
  rw [e1] at hd
  simp (disch := (first | assumption | omega | (simp only [List.length_append, List.length_cons, List.length_nil]; omega))) only [↓wD,wU,Nat.reduceBEq,zx150,zx151,zx159,zx160,zx161,zx162,Nat.reduceAdd,Nat.reduceSub,Nat.reduceMul,Nat.reduceLeDiff,Nat.reduceLT,Nat.reduceEqDiff,Int.reduceAdd,Int.reduceSub,Int.reduceMul,Int.reduceNeg,Int.reduceLT,Int.reduceLE,Int.reduceEq,Int.reduceToNat,Int.cast_ofNat_Int,↓reduceIte, ld_of hb]
  refine callI (hd.mono ?_)
  rintro w H' ⟨h1, h2⟩
  simp (disch := (first | assumption | omega | (simp only [List.length_append, List.length_cons, List.length_nil]; omega))) only [↓wD,wU,Nat.reduceBEq,zx150,zx151,zx159,zx160,zx161,zx162,Nat.reduceAdd,Nat.reduceSub,Nat.reduceMul,Nat.reduceLeDiff,Nat.reduceLT,Nat.reduceEqDiff,Int.reduceAdd,Int.reduceSub,Int.reduceMul,Int.reduceNeg,Int.reduceLT,Int.reduceLE,Int.reduceEq,Int.reduceToNat,Int.cast_ofNat_Int,↓reduceIte]
  exact ⟨h1, h2.weak fun b' _ hb' e => by have := (hy.blkp e).1; omega⟩
end Go.Proofs.Ytalaadcbpjnglaa
namespace Go.Proofs.Ytalaadcbpjnglaa
open Go Go.AM Go.Proofs
def cutC (c : Nat) (r : List Int) : List Int := r.take c ++ r.drop (c + 1)
/-- a column of an Array -/
def colP (v : Int) (t : List (List Int)) (c : Int) : Prop := ArrP v t ∧ 0 ≤ c ∧ c < wd t
instance (v : Int) (t : List (List Int)) (c : Int) : Decidable (colP v t c) := by unfold colP; infer_instance
theorem drop_err {p q : Nat → Prop} {H : Heap} {r : AV} {v c : Int} {t : List (List Int)} (ht : Sl p H r t) (h : ¬ colP v t c) : Ret E 33 [.ag [.i v, r], .i c] q H (T2.mk ((0, []) : Int × List (List Int)) (2 : Int)) := by
  refine Ret.ro rfl fn33 rfl ?_
  unfold f33A
  have k1 := ((ht.app [.cells [.i v, r]]).app [.cells [.i c]]).app [.cells [.i 0, .nils]]
  by_cases h1 : ArrP v t
  · by_cases h2 : c < 0
    · have d2 : decide (c < 0) = true := decide_eq_true h2
      clear h
      simp (disch := (first | assumption | omega | (simp only [List.length_append, List.length_cons, List.length_nil]; omega))) only [↓wD,wU,Nat.reduceBEq,zx150,zx151,zx159,zx160,zx161,zx162,Nat.reduceAdd,Nat.reduceSub,Nat.reduceMul,Nat.reduceLeDiff,Nat.reduceLT,Nat.reduceEqDiff,Int.reduceAdd,Int.reduceSub,Int.reduceMul,Int.reduceNeg,Int.reduceLT,Int.reduceLE,Int.reduceEq,Int.reduceToNat,Int.cast_ofNat_Int,↓reduceIte, ht.cellsV, (valid_ret k1).call, decide_eq_true h1, d2]
      exact rv_2 (rv_si Sl.nil) rv_i
    · have d2 : decide (c < 0) = false := decide_eq_false h2
      have d3 : decide ((wd t : Int) ≤ c) = true := decide_eq_true (by
        have : ¬ c < wd t := fun q => h ⟨h1, by omega, q⟩
        omega)
      clear h
      simp (disch := (first | assumption | omega | (simp only [List.length_append, List.length_cons, List.length_nil]; omega))) only [↓wD,wU,Nat.reduceBEq,zx150,zx151,zx159,zx160,zx161,zx162,Nat.reduceAdd,Nat.reduceSub,Nat.reduceMul,Nat.reduceLeDiff,Nat.reduceLT,Nat.reduceEqDiff,Int.reduceAdd,Int.reduceSub,Int.reduceMul,Int.reduceNeg,Int.reduceLT,Int.reduceLE,Int.reduceEq,Int.reduceToNat,Int.cast_ofNat_Int,↓reduceIte, ht.cellsV, (valid_ret k1).call, decide_eq_true h1, d2, (columns_ret k1 h1.2.2.1).call, d3]
      exact rv_2 (rv_si Sl.nil) rv_i
  · clear h
    simp (disch := (first | assumption | omega | (simp only [List.length_append, List.length_cons, List.length_nil]; omega))) only [↓wD,wU,Nat.reduceBEq,zx150,zx151,zx159,zx160,zx161,zx162,Nat.reduceAdd,Nat.reduceSub,Nat.reduceMul,Nat.reduceLeDiff,Nat.reduceLT,Nat.reduceEqDiff,Int.reduceAdd,Int.reduceSub,Int.reduceMul,Int.reduceNeg,Int.reduceLT,Int.reduceLE,Int.reduceEq,Int.reduceToNat,Int.cast_ofNat_Int,↓reduceIte, ht.cellsV, (valid_ret k1).call, decide_eq_false h1]
    exact rv_2 (rv_si Sl.nil) rv_i
theorem drop_one {p q : Nat → Prop} {H : Heap} {r : AV} {v c : Int} {t : List (List Int)} (ht : Sl p H r t) (h : colP v t c) (h1 : wd t = 1) : Ret E 33 [.ag [.i v, r], .i c] q H (T2.mk ((0, []) : Int × List (List Int)) (4 : Int)) := by
  refine Ret.ro rfl fn33 rfl ?_
  unfold f33A
  have k1 := ((ht.app [.cells [.i v, r]]).app [.cells [.i c]]).app [.cells [.i 0, .nils]]
  obtain ⟨hA, h2, h3⟩ := h
  have d2 : decide (c < 0) = false := decide_eq_false (by omega)
  have d3 : decide ((wd t : Int) ≤ c) = false := decide_eq_false (by omega)
  have d4 : decide ((wd t : Int) = 1) = true := decide_eq_true (by omega)
  simp (disch := (first | assumption | omega | (simp only [List.length_append, List.length_cons, List.length_nil]; omega))) only [↓wD,wU,Nat.reduceBEq,zx150,zx151,zx159,zx160,zx161,zx162,Nat.reduceAdd,Nat.reduceSub,Nat.reduceMul,Nat.reduceLeDiff,Nat.reduceLT,Nat.reduceEqDiff,Int.reduceAdd,Int.reduceSub,Int.reduceMul,Int.reduceNeg,Int.reduceLT,Int.reduceLE,Int.reduceEq,Int.reduceToNat,Int.cast_ofNat_Int,↓reduceIte, ht.cellsV, (valid_ret k1).call, decide_eq_true hA, d2, (columns_ret k1 hA.2.2.1).call, d3, d4]
  exact rv_2 (rv_si Sl.nil) rv_i
theorem drop_ret {p q : Nat → Prop} {H : Heap} {r : AV} {v : Int} {c : Nat} {t : List (List Int)} (ht : Sl p H r t) (hA : ArrP v t) (hc : c < wd t) (h1 : 1 < wd t) : Ret E 33 [.ag [.i v, r], .i c] q H (T2.mk ((v, t.map (cutC c)) : Int × List (List Int)) (0 : Int)) := by
  refine Ret.ro rfl fn33 rfl ?_
  unfold f33A
  have k1 := ((ht.app [.cells [.i v, r]]).app [.cells [.i c]]).app [.cells [.i 0, .nils]]
  have d2 : decide ((c : Int) < 0) = false := decide_eq_false (by omega)
  have d3 : decide ((wd t : Int) ≤ (c : Int)) = false := decide_eq_false (by omega)
  have d4 : decide ((wd t : Int) = 1) = false := decide_eq_false (by omega)
  have c1 : (H ++ [Blk.cells [.i v, r]] ++ [Blk.cells [.i c]] ++ [Blk.cells [.i 0, .nils]])[H.length + 1]? = some (Blk.cells [.i c]) := by simp [List.getElem?_append]
  have c2 : (H ++ [Blk.cells [.i v, r]] ++ [Blk.cells [.i c]] ++ [Blk.cells [.i 0, .nils]])[H.length + 2]? = some (Blk.cells [.i 0, .nils]) := by simp [List.getElem?_append]
  have b3 : (H ++ [Blk.cells [.i v, r]] ++ [Blk.cells [.i c]] ++ [Blk.cells [.i 0, .nils]]).length = H.length + 3 := by simp
  have e2 : H.length + 1 + 1 = H.length + 2 := by omega
  simp (disch := (first | assumption | omega | (simp only [List.length_append, List.length_cons, List.length_nil]; omega))) only [↓wD,wU,Nat.reduceBEq,zx150,zx151,zx159,zx160,zx161,zx162,Nat.reduceAdd,Nat.reduceSub,Nat.reduceMul,Nat.reduceLeDiff,Nat.reduceLT,Nat.reduceEqDiff,Int.reduceAdd,Int.reduceSub,Int.reduceMul,Int.reduceNeg,Int.reduceLT,Int.reduceLE,Int.reduceEq,Int.reduceToNat,Int.cast_ofNat_Int,↓reduceIte, ht.cellsV, (valid_ret k1).call, decide_eq_true hA, d2, (columns_ret k1 hA.2.2.1).call, d3, d4]
  generalize H ++ [Blk.cells [.i v, r]] ++ [Blk.cells [.i c]] ++ [Blk.cells [.i 0, .nils]] = H3 at *
  refine (each_ret (g := cutC c) (us := []) (caps := [.p (H.length + 1) 0]) k1 (by have := hA.2.2.2.1; omega) (fun x hx => ?_) fun x hx y Hc L hg hL hLc hy => ?_).toX fun w H6 x56 hw => ?_
  · have := (hA.2.2.2.2 x hx).2.2.1; omega
  · have hxr := hA.row hx
    have hx8 := (hA.2.2.2.2 x hx).2.2.1
    exact drop1_wp hy (by omega) (hg.get c1) (by omega) (by omega)
  · obtain ⟨u, rfl, hu⟩ := rv_si_elim hw
    have c6 := x56.get trivial c2
    have huV := hu.cellsV
    have hl56 := x56.1
    simp (disch := (first | assumption | omega | (simp only [List.length_append, List.length_cons, List.length_nil]; omega))) only [↓wD,wU,Nat.reduceBEq,zx150,zx151,zx159,zx160,zx161,zx162,Nat.reduceAdd,Nat.reduceSub,Nat.reduceMul,Nat.reduceLeDiff,Nat.reduceLT,Nat.reduceEqDiff,Int.reduceAdd,Int.reduceSub,Int.reduceMul,Int.reduceNeg,Int.reduceLT,Int.reduceLE,Int.reduceEq,Int.reduceToNat,Int.cast_ofNat_Int,↓reduceIte, huV, st_of c6, e2]
    simp (disch := (first | assumption | omega | (simp only [List.length_append, List.length_cons, List.length_nil]; omega))) only [↓wD,wU,Nat.reduceBEq,zx150,zx151,zx159,zx160,zx161,zx162,Nat.reduceAdd,Nat.reduceSub,Nat.reduceMul,Nat.reduceLeDiff,Nat.reduceLT,Nat.reduceEqDiff,Int.reduceAdd,Int.reduceSub,Int.reduceMul,Int.reduceNeg,Int.reduceLT,Int.reduceLE,Int.reduceEq,Int.reduceToNat,Int.cast_ofNat_Int,↓reduceIte, ldn_of (get_set c6), e2]
    exact rv_2 (rv_si (((hu.low.kp (Kx.set (H.length + 2) H6 (Blk.cells [.i v, u]) |>.weak fun b _ h => by have := h.1.resolve_left (fun h => h); omega).kp).weak fun b h => .inr (by have := h.1.resolve_left (fun h => h); omega)))) rv_i
end Go.Proofs.Ytalaadcbpjnglaa
namespace Go.Proofs.Ytalaadcbpjnglaa
open Go Go.AM Go.Proofs
theorem _root_.Go.AM.RetP.prim {E : Tab} {f : Nat} {g : List AV → Option AV} {vs : List AV} {v : AV} {H : Heap} (hk : E.kd f = .prim g) (h : g vs = some v) (hv : v.pure = true) (ha : AV.pureAll vs = true) : RetP E f vs H v := fun lo => by
  refine ⟨0, v, H, ?_, rfl, rfl⟩
  unfold callF
  simp [hk, h, hv, ha]
/-! ### Bits -/
theorem ofI {a : Nat} (h : a ≤ 9223372036854775807) : (BitVec.ofInt 64 (a : Int)).toNat = a := by
  rw [BitVec.ofInt_natCast, BitVec.toNat_ofNat]; exact Nat.mod_eq_of_lt (by omega)
theorem and_le {a b : Nat} (h : a ≤ 9223372036854775807) : a &&& b ≤ 9223372036854775807 := Nat.le_trans Nat.and_le_left h
theorem or_le {a b : Nat} (h : a ≤ 9223372036854775807) (h' : b ≤ 9223372036854775807) : a ||| b ≤ 9223372036854775807 := by
  have : a ||| b < 2 ^ 63 := Nat.or_lt_two_pow (by omega) (by omega)
  omega
theorem b_and {a b : Nat} (h : a ≤ 9223372036854775807) (h' : b ≤ 9223372036854775807) : binA .and (.i (a : Int)) (.i (b : Int)) = some (.i ((a &&& b : Nat) : Int)) := by
  have e : (BitVec.ofInt 64 (a : Int) &&& BitVec.ofInt 64 (b : Int)).toNat = a &&& b := by rw [BitVec.toNat_and, ofI h, ofI h']
  show some (AV.int .i64 (IntKind.wrap .i64 ((BitVec.ofInt 64 (a : Int) &&& BitVec.ofInt 64 (b : Int)).toNat : Int))) = _
  have := and_le (b := b) h
  rw [e, zx172 (by omega) (by omega)]
theorem b_or {a b : Nat} (h : a ≤ 9223372036854775807) (h' : b ≤ 9223372036854775807) : binA .or (.i (a : Int)) (.i (b : Int)) = some (.i ((a ||| b : Nat) : Int)) := by
  have e : (BitVec.ofInt 64 (a : Int) ||| BitVec.ofInt 64 (b : Int)).toNat = a ||| b := by rw [BitVec.toNat_or, ofI h, ofI h']
  show some (AV.int .i64 (IntKind.wrap .i64 ((BitVec.ofInt 64 (a : Int) ||| BitVec.ofInt 64 (b : Int)).toNat : Int))) = _
  have := or_le h h'
  rw [e, zx172 (by omega) (by omega)]
theorem b_shr {a b : Nat} (h' : b ≤ 63) : binA .shr (.i (a : Int)) (.i (b : Int)) = some (.i ((a >>> b : Nat) : Int)) := by
  show (if (b : Int) < 0 then none else some (AV.int .i64 ((a : Int).fdiv (2 ^ (min (b : Int).toNat 64))))) = _
  rw [if_neg (by omega), show min (b : Int).toNat 64 = b by omega, Nat.shiftRight_eq_div_pow]
  congr 2
  rw [Int.fdiv_eq_ediv_of_nonneg _ (by exact_mod_cast Nat.zero_le (2 ^ b))]
  simp
theorem b_shl {a b : Nat} (h' : b ≤ 63) (h : a <<< b ≤ 9223372036854775807) : binA .shl (.i (a : Int)) (.i (b : Int)) = some (.i ((a <<< b : Nat) : Int)) := by
  show (if (b : Int) < 0 then none else some (AV.int .i64 (IntKind.wrap .i64 ((a : Int) * 2 ^ (min (b : Int).toNat 64))))) = _
  have e : (a : Int) * 2 ^ b = ((a <<< b : Nat) : Int) := by rw [Nat.shiftLeft_eq]; simp
  rw [if_neg (by omega), show min (b : Int).toNat 64 = b by omega, e]
  generalize a <<< b = c at h
  rw [zx172 (by omega) (by omega)]
end Go.Proofs.Ytalaadcbpjnglaa
namespace Go.Proofs.Ytalaadcbpjnglaa
open Go Go.AM Go.Proofs
def findI (x : Int) : List Int → Nat → Int
  | [], _ => -1
  | y :: ys, i => if x = y then i else findI x ys (i + 1)
theorem findI_ge {x : Int} : ∀ {xs : List Int} {i : Nat}, 0 ≤ findI x xs i ↔ x ∈ xs
  | [], i => by simp [findI]
  | y :: ys, i => by
    unfold findI
    by_cases h : x = y
    · simp [h]
    · rw [if_neg h, findI_ge]; simp [h]
theorem sindex_ret {p : Nat → Prop} {H : Heap} {v : AV} {xs : List Int} {x : Int} (hx : Sl p H v xs) : RetP E 92 [v, .i x] H (.i (findI x xs 0)) := by
  refine RetP.ro rfl fn92 rfl rfl ?_
  unfold f92A
  have hb := hx.bound
  obtain ⟨r, er⟩ : ∃ r, findI x xs 0 = r := ⟨_, rfl⟩
  rw [er]
  simp (disch := (first | assumption | omega | (simp only [List.length_append, List.length_cons, List.length_nil]; omega))) only [↓wD,wU,Nat.reduceBEq,zx150,zx151,zx159,zx160,zx161,zx162,Nat.reduceAdd,Nat.reduceSub,Nat.reduceMul,Nat.reduceLeDiff,Nat.reduceLT,Nat.reduceEqDiff,Int.reduceAdd,Int.reduceSub,Int.reduceMul,Int.reduceNeg,Int.reduceLT,Int.reduceLE,Int.reduceEq,Int.reduceToNat,Int.cast_ofNat_Int,↓reduceIte, *, hx.I]
  refine Wp.for xs.length (fun i a H' => H' = H ∧ a 0 = v ∧ a 1 = .i x ∧ a 7 = .i xs.length ∧ a 8 = .i i ∧ findI x (xs.drop i) i = r) ?_ ?_
  · clear er
    rintro i a H' hi ⟨rfl, h0, h1, h7, h8, hh⟩ ih
    simp (disch := (first | assumption | omega | (simp only [List.length_append, List.length_cons, List.length_nil]; omega))) only [↓wD,wU,Nat.reduceBEq,zx150,zx151,zx159,zx160,zx161,zx162,Nat.reduceAdd,Nat.reduceSub,Nat.reduceMul,Nat.reduceLeDiff,Nat.reduceLT,Nat.reduceEqDiff,Int.reduceAdd,Int.reduceSub,Int.reduceMul,Int.reduceNeg,Int.reduceLT,Int.reduceLE,Int.reduceEq,Int.reduceToNat,Int.cast_ofNat_Int,↓reduceIte, *]
    refine condP_split (fun hlt => ?_) (fun hlt => ?_)
    · have hi' : i < xs.length := by omega
      have e : xs.drop i = gi xs (i : Int) :: xs.drop (i + 1) := by rw [gi_nat hi']; exact List.drop_eq_getElem_cons hi'
      rw [e, findI] at hh
      clear e
      simp (disch := (first | assumption | omega | (simp only [List.length_append, List.length_cons, List.length_nil]; omega))) only [↓wD,wU,Nat.reduceBEq,zx150,zx151,zx159,zx160,zx161,zx162,Nat.reduceAdd,Nat.reduceSub,Nat.reduceMul,Nat.reduceLeDiff,Nat.reduceLT,Nat.reduceEqDiff,Int.reduceAdd,Int.reduceSub,Int.reduceMul,Int.reduceNeg,Int.reduceLT,Int.reduceLE,Int.reduceEq,Int.reduceToNat,Int.cast_ofNat_Int,↓reduceIte, h0, h1, h7, h8, hx.I]
      refine condP_split (fun he => ?_) (fun he => ?_)
      · rw [if_pos he] at hh
        simp (disch := (first | assumption | omega | (simp only [List.length_append, List.length_cons, List.length_nil]; omega))) only [↓wD,wU,Nat.reduceBEq,zx150,zx151,zx159,zx160,zx161,zx162,Nat.reduceAdd,Nat.reduceSub,Nat.reduceMul,Nat.reduceLeDiff,Nat.reduceLT,Nat.reduceEqDiff,Int.reduceAdd,Int.reduceSub,Int.reduceMul,Int.reduceNeg,Int.reduceLT,Int.reduceLE,Int.reduceEq,Int.reduceToNat,Int.cast_ofNat_Int,↓reduceIte, h0, h1, h7, h8, hx.I]
        rw [hh]
      · rw [if_neg he] at hh
        simp (disch := (first | assumption | omega | (simp only [List.length_append, List.length_cons, List.length_nil]; omega))) only [↓wD,wU,Nat.reduceBEq,zx150,zx151,zx159,zx160,zx161,zx162,Nat.reduceAdd,Nat.reduceSub,Nat.reduceMul,Nat.reduceLeDiff,Nat.reduceLT,Nat.reduceEqDiff,Int.reduceAdd,Int.reduceSub,Int.reduceMul,Int.reduceNeg,Int.reduceLT,Int.reduceLE,Int.reduceEq,Int.reduceToNat,Int.cast_ofNat_Int,↓reduceIte, h0, h1, h7, h8, hx.I]
        refine (ih hi').go ⟨rfl, ?_⟩
        simp (disch := (first | assumption | omega | (simp only [List.length_append, List.length_cons, List.length_nil]; omega))) only [↓wD,wU,Nat.reduceBEq,zx150,zx151,zx159,zx160,zx161,zx162,Nat.reduceAdd,Nat.reduceSub,Nat.reduceMul,Nat.reduceLeDiff,Nat.reduceLT,Nat.reduceEqDiff,Int.reduceAdd,Int.reduceSub,Int.reduceMul,Int.reduceNeg,Int.reduceLT,Int.reduceLE,Int.reduceEq,Int.reduceToNat,Int.cast_ofNat_Int,↓reduceIte, h0, h1, h7, h8, hx.I]
        exact hh
    · rw [List.drop_of_length_le (by omega), findI] at hh
      subst hh
      simp (disch := (first | assumption | omega | (simp only [List.length_append, List.length_cons, List.length_nil]; omega))) only [↓wD,wU,Nat.reduceBEq,zx150,zx151,zx159,zx160,zx161,zx162,Nat.reduceAdd,Nat.reduceSub,Nat.reduceMul,Nat.reduceLeDiff,Nat.reduceLT,Nat.reduceEqDiff,Int.reduceAdd,Int.reduceSub,Int.reduceMul,Int.reduceNeg,Int.reduceLT,Int.reduceLE,Int.reduceEq,Int.reduceToNat,Int.cast_ofNat_Int,↓reduceIte, *]
  · simp (disch := (first | assumption | omega | (simp only [List.length_append, List.length_cons, List.length_nil]; omega))) only [↓wD,wU,Nat.reduceBEq,zx150,zx151,zx159,zx160,zx161,zx162,Nat.reduceAdd,Nat.reduceSub,Nat.reduceMul,Nat.reduceLeDiff,Nat.reduceLT,Nat.reduceEqDiff,Int.reduceAdd,Int.reduceSub,Int.reduceMul,Int.reduceNeg,Int.reduceLT,Int.reduceLE,Int.reduceEq,Int.reduceToNat,Int.cast_ofNat_Int,↓reduceIte, *]
theorem contains_ret {p : Nat → Prop} {H : Heap} {v : AV} {xs : List Int} {x : Int} (hx : Sl p H v xs) : RetP E 62 [v, .i x] H (.b (decide (x ∈ xs))) := by
  refine RetP.ro rfl fn62 rfl rfl ?_
  unfold f62A
  have hg := findI_ge (x := x) (xs := xs) (i := 0)
  by_cases h : x ∈ xs
  · have h1 := hg.2 h
    simp (disch := (first | assumption | omega | (simp only [List.length_append, List.length_cons, List.length_nil]; omega))) only [↓wD,wU,Nat.reduceBEq,zx150,zx151,zx159,zx160,zx161,zx162,Nat.reduceAdd,Nat.reduceSub,Nat.reduceMul,Nat.reduceLeDiff,Nat.reduceLT,Nat.reduceEqDiff,Int.reduceAdd,Int.reduceSub,Int.reduceMul,Int.reduceNeg,Int.reduceLT,Int.reduceLE,Int.reduceEq,Int.reduceToNat,Int.cast_ofNat_Int,↓reduceIte, *, (sindex_ret hx).call]
  · have h1 : ¬ 0 ≤ findI x xs 0 := fun hh => h (hg.1 hh)
    clear hg
    simp (disch := (first | assumption | omega | (simp only [List.length_append, List.length_cons, List.length_nil]; omega))) only [↓wD,wU,Nat.reduceBEq,zx150,zx151,zx159,zx160,zx161,zx162,Nat.reduceAdd,Nat.reduceSub,Nat.reduceMul,Nat.reduceLeDiff,Nat.reduceLT,Nat.reduceEqDiff,Int.reduceAdd,Int.reduceSub,Int.reduceMul,Int.reduceNeg,Int.reduceLT,Int.reduceLE,Int.reduceEq,Int.reduceToNat,Int.cast_ofNat_Int,↓reduceIte, *, (sindex_ret hx).call]
end Go.Proofs.Ytalaadcbpjnglaa
namespace Go.Proofs.Ytalaadcbpjnglaa
open Go Go.AM Go.Proofs
/-- as the reference looks -/
def namesF (V : Nat) : List Int → Nat → Bool
  | [], _ => true
  | x :: xs, met => if decide (x < 0) || decide ((V : Int) ≤ x) then false else if Nat.beq ((met >>> x.toNat) &&& 1) 1 then false else namesF V xs (met ||| 1 <<< x.toNat)
/-- as the program looks -/
def namesC (V : Nat) (to : List Int) : Prop := to.length = V ∧ ∀ x : Nat, x < V → (x : Int) ∈ to
instance (V : Nat) (to : List Int) : Decidable (namesC V to) := by unfold namesC; infer_instance
def hasB (V : Nat) (to : List Int) : Bool := (List.range V).all fun x : Nat => to.any fun y => decide (y = (x : Int))
theorem hasB_iff {V : Nat} {to : List Int} : hasB V to = true ↔ ∀ x : Nat, x < V → (x : Int) ∈ to := by
  unfold hasB
  simp only [List.all_eq_true, List.mem_range, List.any_eq_true, decide_eq_true_eq]
  constructor
  · intro h x hx
    obtain ⟨y, hy, e⟩ := h x hx
    rwa [← e]
  · intro h x hx
    exact ⟨_, h x hx, rfl⟩
/-- a number out of range is as good as any other one -/
def sent (V : Nat) (x : Int) : Int := if 0 ≤ x ∧ x < V then x else V
theorem namesF_sent {V : Nat} : ∀ {xs : List Int} {met : Nat}, namesF V (xs.map (sent V)) met = namesF V xs met
  | [], _ => rfl
  | x :: xs, met => by
    simp only [List.map_cons, namesF]
    unfold sent
    by_cases h : 0 ≤ x ∧ x < V
    · rw [if_pos h]
      have := namesF_sent (V := V) (xs := xs) (met := met ||| 1 <<< x.toNat)
      rw [show xs.map (sent V) = xs.map fun x => if 0 ≤ x ∧ x < (V : Int) then x else (V : Int) from rfl] at this
      rw [this]
    · rw [if_neg h, if_pos (by simp), if_pos (by simp; omega)]
theorem hasB_sent {V : Nat} {to : List Int} : hasB V (to.map (sent V)) = hasB V to := by
  rw [Bool.eq_iff_iff, hasB_iff, hasB_iff]
  refine forall_congr' fun x => forall_congr' fun hx => ?_
  rw [List.mem_map]
  constructor
  · rintro ⟨y, hy, e⟩
    unfold sent at e
    split at e
    · rwa [← e]
    · omega
  · intro h
    exact ⟨x, h, by unfold sent; rw [if_pos ⟨by omega, by omega⟩]⟩
/-- all lists of some length over numbers up to n -/
def tupB (P : List Int → Bool) : Nat → Nat → List Int → Bool
  | 0, _, l => P l
  | k + 1, n, l => (List.range n).all fun x : Nat => tupB P k n ((x : Int) :: l)
theorem tupB_all {P : List Int → Bool} {n : Nat} : ∀ {k : Nat} {l to : List Int}, tupB P k n l = true → to.length = k → (∀ x ∈ to, 0 ≤ x ∧ x < n) → P (to.reverse ++ l) = true
  | 0, l, to, h, hl, _ => by
    rw [List.length_eq_zero_iff] at hl
    subst hl
    exact h
  | k + 1, l, [], _, hl, _ => by simp at hl
  | k + 1, l, x :: to, h, hl, hx => by
    have h0 := hx x (by simp)
    obtain ⟨X, rfl⟩ := Int.eq_ofNat_of_zero_le h0.1
    rw [tupB, List.all_eq_true] at h
    have := tupB_all (h X (List.mem_range.2 (by omega))) (by simpa using hl) fun y hy => hx y (by simp [hy])
    simpa using this
theorem chk_2 : tupB (fun l => namesF 2 l 0 == hasB 2 l) 2 3 [] = true := by decide +kernel
theorem chk_3 : tupB (fun l => namesF 3 l 0 == hasB 3 l) 3 4 [] = true := by decide +kernel
theorem chk_4 : tupB (fun l => namesF 4 l 0 == hasB 4 l) 4 5 [] = true := by decide +kernel
theorem names_eq {V : Nat} (h2 : 2 ≤ V) (h4 : V ≤ 4) {to : List Int} (hl : to.length = V) : namesF V to 0 = hasB V to := by
  rw [← namesF_sent, ← hasB_sent]
  have hin : ∀ x ∈ (to.map (sent V)).reverse, 0 ≤ x ∧ x < ((V + 1 : Nat) : Int) := by
    intro x hx
    rw [List.mem_reverse, List.mem_map] at hx
    obtain ⟨y, _, rfl⟩ := hx
    unfold sent
    split <;> omega
  have hll : (to.map (sent V)).reverse.length = V := by simpa using hl
  have : V = 2 ∨ V = 3 ∨ V = 4 := by omega
  rcases this with rfl | rfl | rfl
  · have := tupB_all chk_2 hll hin
    simpa using this
  · have := tupB_all chk_3 hll hin
    simpa using this
  · have := tupB_all chk_4 hll hin
    simpa using this
theorem names_dec {V : Nat} (h2 : 2 ≤ V) (h4 : V ≤ 4) {to : List Int} : (namesF V to 0 && decide ((to.length : Int) = (V : Int))) = decide (namesC V to) := by
  by_cases hl : to.length = V
  · rw [names_eq h2 h4 hl, decide_eq_true (show (to.length : Int) = (V : Int) by omega), Bool.and_true, Bool.eq_iff_iff, hasB_iff, decide_eq_true_eq]
    exact ⟨fun h => ⟨hl, h⟩, fun h => h.2⟩
  · rw [decide_eq_false (show ¬ (to.length : Int) = (V : Int) by omega), Bool.and_false, decide_eq_false fun h => hl h.1]
theorem shl_le {j : Nat} (h : j < 4) : 1 <<< j ≤ 8 := by
  have : j = 0 ∨ j = 1 ∨ j = 2 ∨ j = 3 := by omega
  rcases this with rfl | rfl | rfl | rfl <;> decide
theorem or_lt16 {a b : Nat} (h : a < 16) (h' : b < 16) : a ||| b < 16 := Nat.or_lt_two_pow (n := 4) h h'
theorem rnames_ret {p : Nat → Prop} {H : Heap} {u : AV} {to : List Int} {V : Nat} (hx : Sl p H u to) (h2 : 2 ≤ V) (h4 : V ≤ 4) : RetP E 41 [.i V, u] H (.b (decide (namesC V to))) := by
  rw [← names_dec h2 h4]
  refine RetP.ro rfl fn41 rfl rfl ?_
  unfold f41A
  have hb := hx.bound
  obtain ⟨R, eR⟩ : ∃ R, (namesF V to 0 && decide ((to.length : Int) = (V : Int))) = R := ⟨_, rfl⟩
  rw [eR]
  simp (disch := (first | assumption | omega | (simp only [List.length_append, List.length_cons, List.length_nil]; omega))) only [↓wD,wU,Nat.reduceBEq,zx150,zx151,zx159,zx160,zx161,zx162,Nat.reduceAdd,Nat.reduceSub,Nat.reduceMul,Nat.reduceLeDiff,Nat.reduceLT,Nat.reduceEqDiff,Int.reduceAdd,Int.reduceSub,Int.reduceMul,Int.reduceNeg,Int.reduceLT,Int.reduceLE,Int.reduceEq,Int.reduceToNat,Int.cast_ofNat_Int,↓reduceIte, hx.I]
  refine Wp.for to.length (fun i a H' => H' = H ∧ a 0 = .i V ∧ a 1 = u ∧ a 8 = u ∧ a 9 = .i to.length ∧ a 10 = .i i ∧ ∃ met, a 5 = .i (met : Nat) ∧ met < 16 ∧ (namesF V (to.drop i) met && decide ((to.length : Int) = (V : Int))) = R) ?_ ?_
  · clear eR
    rintro i a H' hi ⟨rfl, a0, a1, a8, a9, a10, met, a5, hm, hR⟩ ih
    simp (disch := (first | assumption | omega | (simp only [List.length_append, List.length_cons, List.length_nil]; omega))) only [↓wD,wU,Nat.reduceBEq,zx150,zx151,zx159,zx160,zx161,zx162,Nat.reduceAdd,Nat.reduceSub,Nat.reduceMul,Nat.reduceLeDiff,Nat.reduceLT,Nat.reduceEqDiff,Int.reduceAdd,Int.reduceSub,Int.reduceMul,Int.reduceNeg,Int.reduceLT,Int.reduceLE,Int.reduceEq,Int.reduceToNat,Int.cast_ofNat_Int,↓reduceIte, a0, a1, a8, a9, a10, a5]
    refine condP_split (fun hlt => ?_) (fun hlt => ?_)
    · have hi' : i < to.length := by omega
      have e : to.drop i = gi to (i : Int) :: to.drop (i + 1) := by rw [gi_nat hi']; exact List.drop_eq_getElem_cons hi'
      rw [e, namesF] at hR
      obtain ⟨x, ex⟩ : ∃ x, gi to (i : Int) = x := ⟨_, rfl⟩
      rw [ex] at hR
      have hxI := hx.I
      by_cases q1 : x < 0
      · have d1 : decide (x < 0) = true := decide_eq_true q1
        rw [if_pos (by simp [q1]), Bool.false_and] at hR
        simp (disch := (first | assumption | omega | (simp only [List.length_append, List.length_cons, List.length_nil]; omega))) only [↓wD,wU,Nat.reduceBEq,zx150,zx151,zx159,zx160,zx161,zx162,Nat.reduceAdd,Nat.reduceSub,Nat.reduceMul,Nat.reduceLeDiff,Nat.reduceLT,Nat.reduceEqDiff,Int.reduceAdd,Int.reduceSub,Int.reduceMul,Int.reduceNeg,Int.reduceLT,Int.reduceLE,Int.reduceEq,Int.reduceToNat,Int.cast_ofNat_Int,↓reduceIte, a0, a1, a8, a9, a10, a5, hxI, ex, d1]
        rw [hR]
      have d1 : decide (x < 0) = false := decide_eq_false q1
      by_cases q2 : (V : Int) ≤ x
      · have d2 : decide ((V : Int) ≤ x) = true := decide_eq_true q2
        rw [if_pos (by simp [q2]), Bool.false_and] at hR
        simp (disch := (first | assumption | omega | (simp only [List.length_append, List.length_cons, List.length_nil]; omega))) only [↓wD,wU,Nat.reduceBEq,zx150,zx151,zx159,zx160,zx161,zx162,Nat.reduceAdd,Nat.reduceSub,Nat.reduceMul,Nat.reduceLeDiff,Nat.reduceLT,Nat.reduceEqDiff,Int.reduceAdd,Int.reduceSub,Int.reduceMul,Int.reduceNeg,Int.reduceLT,Int.reduceLE,Int.reduceEq,Int.reduceToNat,Int.cast_ofNat_Int,↓reduceIte, a0, a1, a8, a9, a10, a5, hxI, ex, d1, d2]
        rw [hR]
      have d2 : decide ((V : Int) ≤ x) = false := decide_eq_false q2
      rw [if_neg (by simp; omega)] at hR
      obtain ⟨J, rfl⟩ := Int.eq_ofNat_of_zero_le (show 0 ≤ x by omega)
      simp only [Int.toNat_natCast] at hR
      have hJ : J < 4 := by omega
      have bsr := b_shr (a := met) (b := J) (by omega)
      have hsh : met >>> J ≤ met := by rw [Nat.shiftRight_eq_div_pow]; exact Nat.div_le_self _ _
      have ban := b_and (a := met >>> J) (b := 1) (by omega) (by omega)
      have sl5 := shl_le hJ
      have bsl := b_shl (a := 1) (b := J) (by omega) (by omega)
      have e1 : ((1 : Nat) : Int) = 1 := rfl
      rw [e1] at ban bsl
      have bor := b_or (a := met) (b := 1 <<< J) (by omega) (by omega)
      have hm2 := or_lt16 hm (show 1 <<< J < 16 by omega)
      by_cases q3 : (met >>> J) &&& 1 = 1
      · have d3 : decide (((met >>> J &&& 1 : Nat) : Int) = 1) = true := decide_eq_true (by omega)
        rw [if_pos (by rw [q3]; rfl), Bool.false_and] at hR
        simp (disch := (first | assumption | omega | (simp only [List.length_append, List.length_cons, List.length_nil]; omega))) only [↓wD,wU,Nat.reduceBEq,zx150,zx151,zx159,zx160,zx161,zx162,Nat.reduceAdd,Nat.reduceSub,Nat.reduceMul,Nat.reduceLeDiff,Nat.reduceLT,Nat.reduceEqDiff,Int.reduceAdd,Int.reduceSub,Int.reduceMul,Int.reduceNeg,Int.reduceLT,Int.reduceLE,Int.reduceEq,Int.reduceToNat,Int.cast_ofNat_Int,↓reduceIte, a0, a1, a8, a9, a10, a5, hxI, ex, d1, d2, bsr, ban, d3]
        rw [hR]
      · have d3 : decide (((met >>> J &&& 1 : Nat) : Int) = 1) = false := decide_eq_false (by omega)
        rw [if_neg (fun q => q3 (Nat.eq_of_beq_eq_true q))] at hR
        simp (disch := (first | assumption | omega | (simp only [List.length_append, List.length_cons, List.length_nil]; omega))) only [↓wD,wU,Nat.reduceBEq,zx150,zx151,zx159,zx160,zx161,zx162,Nat.reduceAdd,Nat.reduceSub,Nat.reduceMul,Nat.reduceLeDiff,Nat.reduceLT,Nat.reduceEqDiff,Int.reduceAdd,Int.reduceSub,Int.reduceMul,Int.reduceNeg,Int.reduceLT,Int.reduceLE,Int.reduceEq,Int.reduceToNat,Int.cast_ofNat_Int,↓reduceIte, a0, a1, a8, a9, a10, a5, hxI, ex, d1, d2, bsr, ban, d3, bsl, bor]
        refine (ih hi').go ⟨rfl, ?_⟩
        simp (disch := (first | assumption | omega | (simp only [List.length_append, List.length_cons, List.length_nil]; omega))) only [↓wD,wU,Nat.reduceBEq,zx150,zx151,zx159,zx160,zx161,zx162,Nat.reduceAdd,Nat.reduceSub,Nat.reduceMul,Nat.reduceLeDiff,Nat.reduceLT,Nat.reduceEqDiff,Int.reduceAdd,Int.reduceSub,Int.reduceMul,Int.reduceNeg,Int.reduceLT,Int.reduceLE,Int.reduceEq,Int.reduceToNat,Int.cast_ofNat_Int,↓reduceIte, a0, a1, a8, a9, a10, a5]
        exact ⟨_, rfl, hm2, hR⟩
    · rw [List.drop_of_length_le (by omega), namesF, Bool.true_and] at hR
      simp (disch := (first | assumption | omega | (simp only [List.length_append, List.length_cons, List.length_nil]; omega))) only [↓wD,wU,Nat.reduceBEq,zx150,zx151,zx159,zx160,zx161,zx162,Nat.reduceAdd,Nat.reduceSub,Nat.reduceMul,Nat.reduceLeDiff,Nat.reduceLT,Nat.reduceEqDiff,Int.reduceAdd,Int.reduceSub,Int.reduceMul,Int.reduceNeg,Int.reduceLT,Int.reduceLE,Int.reduceEq,Int.reduceToNat,Int.cast_ofNat_Int,↓reduceIte, a0, a1, a8, a9, a10, a5, hx.I]
      rw [hR]
  · simp (disch := (first | assumption | omega | (simp only [List.length_append, List.length_cons, List.length_nil]; omega))) only [↓wD,wU,Nat.reduceBEq,zx150,zx151,zx159,zx160,zx161,zx162,Nat.reduceAdd,Nat.reduceSub,Nat.reduceMul,Nat.reduceLeDiff,Nat.reduceLT,Nat.reduceEqDiff,Int.reduceAdd,Int.reduceSub,Int.reduceMul,Int.reduceNeg,Int.reduceLT,Int.reduceLE,Int.reduceEq,Int.reduceToNat,Int.cast_ofNat_Int,↓reduceIte]
    exact ⟨0, by simpa using eR⟩
end Go.Proofs.Ytalaadcbpjnglaa
namespace Go.Proofs.Ytalaadcbpjnglaa
open Go Go.AM Go.Proofs
def renC (c : Nat) (to : List Int) (r : List Int) : List Int := r.set c (gi to (gi r (c : Int)))
theorem rename1_wp {q : Nat → Prop} {lo L b1 b2 c : Nat} {H : Heap} {y tv : AV} {x to : List Int} (hy : Sl (fun b => L ≤ b) H y x) (ht : Sl q H tv to) (hlo : lo ≤ L) (hb1 : H[b1]? = some (.cells [tv])) (hb2 : H[b2]? = some (.cells [.i c])) (hc : c < x.length) (hg : 0 ≤ gi x (c : Int) ∧ gi x (c : Int) < to.length) :
    WpF E lo 81 [y, .p b1 0, .p b2 0] H fun w H' => Sl (fun b => L ≤ b) H' w (renC c to x) ∧ Kx (fun b => b < L) H H' := by
  refine WpF.wrt rfl fn81 rfl ?_
  unfold f81A
  have yI := hy.I
  have tI := ht.I
  obtain ⟨g, eg⟩ := Int.eq_ofNat_of_zero_le hg.1
  rw [eg] at hg
  have hg2 : g < to.length := by omega
  simp (disch := (first | assumption | omega | (simp only [List.length_append, List.length_cons, List.length_nil]; omega))) only [↓wD,wU,Nat.reduceBEq,zx150,zx151,zx159,zx160,zx161,zx162,Nat.reduceAdd,Nat.reduceSub,Nat.reduceMul,Nat.reduceLeDiff,Nat.reduceLT,Nat.reduceEqDiff,Int.reduceAdd,Int.reduceSub,Int.reduceMul,Int.reduceNeg,Int.reduceLT,Int.reduceLE,Int.reduceEq,Int.reduceToNat,Int.cast_ofNat_Int,↓reduceIte, ld_of hb1, ld_of hb2, yI, eg, tI]
  refine hy.storeI (k := (c : Int)) (fun b hb => by omega) (by omega) (by omega) fun H' hs hx hl => ?_
  rw [Int.toNat_natCast] at hs
  simp (disch := (first | assumption | omega | (simp only [List.length_append, List.length_cons, List.length_nil]; omega))) only [↓wD,wU,Nat.reduceBEq,zx150,zx151,zx159,zx160,zx161,zx162,Nat.reduceAdd,Nat.reduceSub,Nat.reduceMul,Nat.reduceLeDiff,Nat.reduceLT,Nat.reduceEqDiff,Int.reduceAdd,Int.reduceSub,Int.reduceMul,Int.reduceNeg,Int.reduceLT,Int.reduceLE,Int.reduceEq,Int.reduceToNat,Int.cast_ofNat_Int,↓reduceIte]
  refine ⟨?_, hx.weak fun b _ hb e => by have := (hy.blkp e).1; omega⟩
  unfold renC
  rw [eg]; exact hs
/-- a column, and names for its choices -/
def renP (v : Int) (t : List (List Int)) (c : Int) (to : List Int) : Prop := colP v t c ∧ namesC v.toNat to
instance (v : Int) (t : List (List Int)) (c : Int) (to : List Int) : Decidable (renP v t c to) := by unfold renP; infer_instance
theorem rename_err {p q q' : Nat → Prop} {H : Heap} {r u : AV} {v c : Int} {t : List (List Int)} {to : List Int} (ht : Sl p H r t) (hto : Sl q H u to) (h : ¬ renP v t c to) : Ret E 34 [.ag [.i v, r], .i c, u] q' H (T2.mk ((0, []) : Int × List (List Int)) (2 : Int)) := by
  refine Ret.ro rfl fn34 rfl ?_
  unfold f34A
  have k1 := (((ht.app [.cells [.i v, r]]).app [.cells [.i c]]).app [.cells [u]]).app [.cells [.i 0, .nils]]
  have k2 := (((hto.app [.cells [.i v, r]]).app [.cells [.i c]]).app [.cells [u]]).app [.cells [.i 0, .nils]]
  have uV := hto.cellsV
  have uL := hto.lenV
  have htb := hto.bound
  by_cases h1 : ArrP v t
  case neg =>
    clear h
    simp (disch := (first | assumption | omega | (simp only [List.length_append, List.length_cons, List.length_nil]; omega))) only [↓wD,wU,Nat.reduceBEq,zx150,zx151,zx159,zx160,zx161,zx162,Nat.reduceAdd,Nat.reduceSub,Nat.reduceMul,Nat.reduceLeDiff,Nat.reduceLT,Nat.reduceEqDiff,Int.reduceAdd,Int.reduceSub,Int.reduceMul,Int.reduceNeg,Int.reduceLT,Int.reduceLE,Int.reduceEq,Int.reduceToNat,Int.cast_ofNat_Int,↓reduceIte, ht.cellsV, uV, (valid_ret k1).call, decide_eq_false h1]
    exact rv_2 (rv_si Sl.nil) rv_i
  by_cases h2 : c < 0
  · have d2 : decide (c < 0) = true := decide_eq_true h2
    clear h
    simp (disch := (first | assumption | omega | (simp only [List.length_append, List.length_cons, List.length_nil]; omega))) only [↓wD,wU,Nat.reduceBEq,zx150,zx151,zx159,zx160,zx161,zx162,Nat.reduceAdd,Nat.reduceSub,Nat.reduceMul,Nat.reduceLeDiff,Nat.reduceLT,Nat.reduceEqDiff,Int.reduceAdd,Int.reduceSub,Int.reduceMul,Int.reduceNeg,Int.reduceLT,Int.reduceLE,Int.reduceEq,Int.reduceToNat,Int.cast_ofNat_Int,↓reduceIte, ht.cellsV, uV, (valid_ret k1).call, decide_eq_true h1, d2]
    exact rv_2 (rv_si Sl.nil) rv_i
  have d2 : decide (c < 0) = false := decide_eq_false h2
  by_cases h3 : (wd t : Int) ≤ c
  · have d3 : decide ((wd t : Int) ≤ c) = true := decide_eq_true h3
    clear h
    simp (disch := (first | assumption | omega | (simp only [List.length_append, List.length_cons, List.length_nil]; omega))) only [↓wD,wU,Nat.reduceBEq,zx150,zx151,zx159,zx160,zx161,zx162,Nat.reduceAdd,Nat.reduceSub,Nat.reduceMul,Nat.reduceLeDiff,Nat.reduceLT,Nat.reduceEqDiff,Int.reduceAdd,Int.reduceSub,Int.reduceMul,Int.reduceNeg,Int.reduceLT,Int.reduceLE,Int.reduceEq,Int.reduceToNat,Int.cast_ofNat_Int,↓reduceIte, ht.cellsV, uV, (valid_ret k1).call, decide_eq_true h1, d2, (columns_ret k1 h1.2.2.1).call, d3]
    exact rv_2 (rv_si Sl.nil) rv_i
  have d3 : decide ((wd t : Int) ≤ c) = false := decide_eq_false h3
  by_cases h4 : (to.length : Int) = v
  case neg =>
    have d4 : decide (¬ (to.length : Int) = v) = true := decide_eq_true h4
    clear h
    simp (disch := (first | assumption | omega | (simp only [List.length_append, List.length_cons, List.length_nil]; omega))) only [↓wD,wU,Nat.reduceBEq,zx150,zx151,zx159,zx160,zx161,zx162,Nat.reduceAdd,Nat.reduceSub,Nat.reduceMul,Nat.reduceLeDiff,Nat.reduceLT,Nat.reduceEqDiff,Int.reduceAdd,Int.reduceSub,Int.reduceMul,Int.reduceNeg,Int.reduceLT,Int.reduceLE,Int.reduceEq,Int.reduceToNat,Int.cast_ofNat_Int,↓reduceIte, ht.cellsV, uV, (valid_ret k1).call, decide_eq_true h1, d2, (columns_ret k1 h1.2.2.1).call, d3, uL, d4]
    exact rv_2 (rv_si Sl.nil) rv_i
  have d4 : decide (¬ (to.length : Int) = v) = false := decide_eq_false fun q => q h4
  have hno : ¬ ∀ x : Nat, x < to.length → (x : Int) ∈ to := fun q => h ⟨⟨h1, by omega, by omega⟩, by omega, fun x hx => q x (by omega)⟩
  clear h
  have c0 : (H ++ [Blk.cells [.i v, r]] ++ [Blk.cells [.i c]] ++ [Blk.cells [u]] ++ [Blk.cells [.i 0, .nils]])[H.length + 2]? = some (Blk.cells [u]) := by simp [List.getElem?_append]
  have c3 : (H ++ [Blk.cells [.i v, r]] ++ [Blk.cells [.i c]] ++ [Blk.cells [u]] ++ [Blk.cells [.i 0, .nils]])[H.length + 3]? = some (Blk.cells [.i 0, .nils]) := by simp [List.getElem?_append]
  have b4 : (H ++ [Blk.cells [.i v, r]] ++ [Blk.cells [.i c]] ++ [Blk.cells [u]] ++ [Blk.cells [.i 0, .nils]]).length = H.length + 4 := by simp
  simp (disch := (first | assumption | omega | (simp only [List.length_append, List.length_cons, List.length_nil]; omega))) only [↓wD,wU,Nat.reduceBEq,zx150,zx151,zx159,zx160,zx161,zx162,Nat.reduceAdd,Nat.reduceSub,Nat.reduceMul,Nat.reduceLeDiff,Nat.reduceLT,Nat.reduceEqDiff,Int.reduceAdd,Int.reduceSub,Int.reduceMul,Int.reduceNeg,Int.reduceLT,Int.reduceLE,Int.reduceEq,Int.reduceToNat,Int.cast_ofNat_Int,↓reduceIte, ht.cellsV, uV, (valid_ret k1).call, decide_eq_true h1, d2, (columns_ret k1 h1.2.2.1).call, d3, uL, d4]
  generalize H ++ [Blk.cells [.i v, r]] ++ [Blk.cells [.i c]] ++ [Blk.cells [u]] ++ [Blk.cells [.i 0, .nils]] = H4 at *
  refine Wp.for to.length (fun i a G => G = H4 ∧ a 5 = .p (H.length + 2) 0 ∧ a 6 = .p (H.length + 3) 0 ∧ a 31 = .i to.length ∧ a 32 = .i i ∧ ∀ x : Nat, x < i → (x : Int) ∈ to) ?_ ?_
  · rintro i a G hi ⟨rfl, a5, a6, a31, a32, hh⟩ ih
    simp (disch := (first | assumption | omega | (simp only [List.length_append, List.length_cons, List.length_nil]; omega))) only [↓wD,wU,Nat.reduceBEq,zx150,zx151,zx159,zx160,zx161,zx162,Nat.reduceAdd,Nat.reduceSub,Nat.reduceMul,Nat.reduceLeDiff,Nat.reduceLT,Nat.reduceEqDiff,Int.reduceAdd,Int.reduceSub,Int.reduceMul,Int.reduceNeg,Int.reduceLT,Int.reduceLE,Int.reduceEq,Int.reduceToNat,Int.cast_ofNat_Int,↓reduceIte, a5, a6, a31, a32]
    refine condP_split (fun hlt => ?_) (fun hlt => ?_)
    · have hi' : i < to.length := by omega
      have cr := contains_ret (x := (i : Int)) k2
      by_cases hin : (i : Int) ∈ to
      · rw [decide_eq_true hin] at cr
        clear hno
        simp (disch := (first | assumption | omega | (simp only [List.length_append, List.length_cons, List.length_nil]; omega))) only [↓wD,wU,Nat.reduceBEq,zx150,zx151,zx159,zx160,zx161,zx162,Nat.reduceAdd,Nat.reduceSub,Nat.reduceMul,Nat.reduceLeDiff,Nat.reduceLT,Nat.reduceEqDiff,Int.reduceAdd,Int.reduceSub,Int.reduceMul,Int.reduceNeg,Int.reduceLT,Int.reduceLE,Int.reduceEq,Int.reduceToNat,Int.cast_ofNat_Int,↓reduceIte, a5, a6, a31, a32, ld_of c0, cr.call]
        refine (ih hi').go ⟨rfl, ?_⟩
        simp (disch := (first | assumption | omega | (simp only [List.length_append, List.length_cons, List.length_nil]; omega))) only [↓wD,wU,Nat.reduceBEq,zx150,zx151,zx159,zx160,zx161,zx162,Nat.reduceAdd,Nat.reduceSub,Nat.reduceMul,Nat.reduceLeDiff,Nat.reduceLT,Nat.reduceEqDiff,Int.reduceAdd,Int.reduceSub,Int.reduceMul,Int.reduceNeg,Int.reduceLT,Int.reduceLE,Int.reduceEq,Int.reduceToNat,Int.cast_ofNat_Int,↓reduceIte, a5, a6, a31, a32]
        intro x hx
        by_cases e : x = i
        · rw [e]; exact hin
        · exact hh x (by omega)
      · rw [decide_eq_false hin] at cr
        clear hno hh ih
        simp (disch := (first | assumption | omega | (simp only [List.length_append, List.length_cons, List.length_nil]; omega))) only [↓wD,wU,Nat.reduceBEq,zx150,zx151,zx159,zx160,zx161,zx162,Nat.reduceAdd,Nat.reduceSub,Nat.reduceMul,Nat.reduceLeDiff,Nat.reduceLT,Nat.reduceEqDiff,Int.reduceAdd,Int.reduceSub,Int.reduceMul,Int.reduceNeg,Int.reduceLT,Int.reduceLE,Int.reduceEq,Int.reduceToNat,Int.cast_ofNat_Int,↓reduceIte, a5, a6, a31, a32, ld_of c0, cr.call, st_of c3]
        simp (disch := (first | assumption | omega | (simp only [List.length_append, List.length_cons, List.length_nil]; omega))) only [↓wD,wU,Nat.reduceBEq,zx150,zx151,zx159,zx160,zx161,zx162,Nat.reduceAdd,Nat.reduceSub,Nat.reduceMul,Nat.reduceLeDiff,Nat.reduceLT,Nat.reduceEqDiff,Int.reduceAdd,Int.reduceSub,Int.reduceMul,Int.reduceNeg,Int.reduceLT,Int.reduceLE,Int.reduceEq,Int.reduceToNat,Int.cast_ofNat_Int,↓reduceIte, ldn_of (get_set c3)]
        exact rv_2 (rv_si Sl.nil) rv_i
    · exact absurd (fun x hx => hh x (by omega)) hno
  · clear hno
    simp (disch := (first | assumption | omega | (simp only [List.length_append, List.length_cons, List.length_nil]; omega))) only [↓wD,wU,Nat.reduceBEq,zx150,zx151,zx159,zx160,zx161,zx162,Nat.reduceAdd,Nat.reduceSub,Nat.reduceMul,Nat.reduceLeDiff,Nat.reduceLT,Nat.reduceEqDiff,Int.reduceAdd,Int.reduceSub,Int.reduceMul,Int.reduceNeg,Int.reduceLT,Int.reduceLE,Int.reduceEq,Int.reduceToNat,Int.cast_ofNat_Int,↓reduceIte]
    exact fun x hx => by omega
theorem rename_ret {p q q' : Nat → Prop} {H : Heap} {r u : AV} {v : Int} {c : Nat} {t : List (List Int)} {to : List Int} (ht : Sl p H r t) (hto : Sl q H u to) (h : renP v t c to) : Ret E 34 [.ag [.i v, r], .i c, u] q' H (T2.mk ((v, t.map (renC c to)) : Int × List (List Int)) (0 : Int)) := by
  refine Ret.ro rfl fn34 rfl ?_
  unfold f34A
  obtain ⟨⟨hA, h2, h3⟩, h4, h5⟩ := h
  have k1 := (((ht.app [.cells [.i v, r]]).app [.cells [.i c]]).app [.cells [u]]).app [.cells [.i 0, .nils]]
  have k2 := (((hto.app [.cells [.i v, r]]).app [.cells [.i c]]).app [.cells [u]]).app [.cells [.i 0, .nils]]
  have uV := hto.cellsV
  have uL := hto.lenV
  have htb := hto.bound
  have hv2 := hA.1
  have d2 : decide ((c : Int) < 0) = false := decide_eq_false (by omega)
  have d3 : decide ((wd t : Int) ≤ (c : Int)) = false := decide_eq_false (by omega)
  have d4 : decide (¬ (to.length : Int) = v) = false := decide_eq_false fun q => q (by omega)
  have e2 : H.length + 1 + 1 = H.length + 2 := by omega
  have e3 : H.length + 1 + 1 + 1 = H.length + 3 := by omega
  have c0 : (H ++ [Blk.cells [.i v, r]] ++ [Blk.cells [.i c]] ++ [Blk.cells [u]] ++ [Blk.cells [.i 0, .nils]])[H.length]? = some (Blk.cells [.i v, r]) := by simp [List.getElem?_append]
  have c1 : (H ++ [Blk.cells [.i v, r]] ++ [Blk.cells [.i c]] ++ [Blk.cells [u]] ++ [Blk.cells [.i 0, .nils]])[H.length + 1]? = some (Blk.cells [.i c]) := by simp [List.getElem?_append]
  have c2 : (H ++ [Blk.cells [.i v, r]] ++ [Blk.cells [.i c]] ++ [Blk.cells [u]] ++ [Blk.cells [.i 0, .nils]])[H.length + 2]? = some (Blk.cells [u]) := by simp [List.getElem?_append]
  have c3 : (H ++ [Blk.cells [.i v, r]] ++ [Blk.cells [.i c]] ++ [Blk.cells [u]] ++ [Blk.cells [.i 0, .nils]])[H.length + 3]? = some (Blk.cells [.i 0, .nils]) := by simp [List.getElem?_append]
  have b4 : (H ++ [Blk.cells [.i v, r]] ++ [Blk.cells [.i c]] ++ [Blk.cells [u]] ++ [Blk.cells [.i 0, .nils]]).length = H.length + 4 := by simp
  simp (disch := (first | assumption | omega | (simp only [List.length_append, List.length_cons, List.length_nil]; omega))) only [↓wD,wU,Nat.reduceBEq,zx150,zx151,zx159,zx160,zx161,zx162,Nat.reduceAdd,Nat.reduceSub,Nat.reduceMul,Nat.reduceLeDiff,Nat.reduceLT,Nat.reduceEqDiff,Int.reduceAdd,Int.reduceSub,Int.reduceMul,Int.reduceNeg,Int.reduceLT,Int.reduceLE,Int.reduceEq,Int.reduceToNat,Int.cast_ofNat_Int,↓reduceIte, ht.cellsV, uV, (valid_ret k1).call, decide_eq_true hA, d2, (columns_ret k1 hA.2.2.1).call, d3, uL, d4]
  generalize H ++ [Blk.cells [.i v, r]] ++ [Blk.cells [.i c]] ++ [Blk.cells [u]] ++ [Blk.cells [.i 0, .nils]] = H4 at *
  refine Wp.for to.length (fun i a G => G = H4 ∧ a 3 = .p H.length 0 ∧ a 4 = .p (H.length + 1) 0 ∧ a 5 = .p (H.length + 2) 0 ∧ a 6 = .p (H.length + 3) 0 ∧ a 31 = .i to.length ∧ a 32 = .i i) ?_ ?_
  · rintro i a G hi ⟨rfl, a3, a4, a5, a6, a31, a32⟩ ih
    simp (disch := (first | assumption | omega | (simp only [List.length_append, List.length_cons, List.length_nil]; omega))) only [↓wD,wU,Nat.reduceBEq,zx150,zx151,zx159,zx160,zx161,zx162,Nat.reduceAdd,Nat.reduceSub,Nat.reduceMul,Nat.reduceLeDiff,Nat.reduceLT,Nat.reduceEqDiff,Int.reduceAdd,Int.reduceSub,Int.reduceMul,Int.reduceNeg,Int.reduceLT,Int.reduceLE,Int.reduceEq,Int.reduceToNat,Int.cast_ofNat_Int,↓reduceIte, a3, a4, a5, a6, a31, a32]
    refine condP_split (fun hlt => ?_) (fun hlt => ?_)
    · have hi' : i < to.length := by omega
      have cr := contains_ret (x := (i : Int)) k2
      rw [decide_eq_true (h5 i (by omega))] at cr
      simp (disch := (first | assumption | omega | (simp only [List.length_append, List.length_cons, List.length_nil]; omega))) only [↓wD,wU,Nat.reduceBEq,zx150,zx151,zx159,zx160,zx161,zx162,Nat.reduceAdd,Nat.reduceSub,Nat.reduceMul,Nat.reduceLeDiff,Nat.reduceLT,Nat.reduceEqDiff,Int.reduceAdd,Int.reduceSub,Int.reduceMul,Int.reduceNeg,Int.reduceLT,Int.reduceLE,Int.reduceEq,Int.reduceToNat,Int.cast_ofNat_Int,↓reduceIte, a3, a4, a5, a6, a31, a32, ld_of c2, cr.call]
      refine (ih hi').go ⟨rfl, ?_⟩
      simp (disch := (first | assumption | omega | (simp only [List.length_append, List.length_cons, List.length_nil]; omega))) only [↓wD,wU,Nat.reduceBEq,zx150,zx151,zx159,zx160,zx161,zx162,Nat.reduceAdd,Nat.reduceSub,Nat.reduceMul,Nat.reduceLeDiff,Nat.reduceLT,Nat.reduceEqDiff,Int.reduceAdd,Int.reduceSub,Int.reduceMul,Int.reduceNeg,Int.reduceLT,Int.reduceLE,Int.reduceEq,Int.reduceToNat,Int.cast_ofNat_Int,↓reduceIte, a3, a4, a5, a6, a31, a32]
    · simp (disch := (first | assumption | omega | (simp only [List.length_append, List.length_cons, List.length_nil]; omega))) only [↓wD,wU,Nat.reduceBEq,zx150,zx151,zx159,zx160,zx161,zx162,Nat.reduceAdd,Nat.reduceSub,Nat.reduceMul,Nat.reduceLeDiff,Nat.reduceLT,Nat.reduceEqDiff,Int.reduceAdd,Int.reduceSub,Int.reduceMul,Int.reduceNeg,Int.reduceLT,Int.reduceLE,Int.reduceEq,Int.reduceToNat,Int.cast_ofNat_Int,↓reduceIte, a3, a4, a5, a6, a31, a32, ldn_of c0]
      refine (each_ret (g := renC c to) (us := []) (caps := [.p (H.length + 2) 0, .p (H.length + 1) 0]) k1 (by have := hA.2.2.2.1; omega) (fun x hx => ?_) fun x hx y Hc L hg hL hLc hy => ?_).toX fun w H6 x56 hw => ?_
      · have := (hA.2.2.2.2 x hx).2.2.1; omega
      · have hxr := hA.row hx
        have hx8 := (hA.2.2.2.2 x hx).2.2.1
        have hgx := hxr.2 _ (gi_mem (xs := x) (k := (c : Int)) (by omega) (by omega))
        exact rename1_wp hy (k2.gr hg) (by omega) (hg.get c2) (hg.get c1) (by omega) (by omega)
      · obtain ⟨u', rfl, hu⟩ := rv_si_elim hw
        have c6 := x56.get trivial c3
        have huV := hu.cellsV
        have hl56 := x56.1
        simp (disch := (first | assumption | omega | (simp only [List.length_append, List.length_cons, List.length_nil]; omega))) only [↓wD,wU,Nat.reduceBEq,zx150,zx151,zx159,zx160,zx161,zx162,Nat.reduceAdd,Nat.reduceSub,Nat.reduceMul,Nat.reduceLeDiff,Nat.reduceLT,Nat.reduceEqDiff,Int.reduceAdd,Int.reduceSub,Int.reduceMul,Int.reduceNeg,Int.reduceLT,Int.reduceLE,Int.reduceEq,Int.reduceToNat,Int.cast_ofNat_Int,↓reduceIte, a6, huV, st_of c6]
        simp (disch := (first | assumption | omega | (simp only [List.length_append, List.length_cons, List.length_nil]; omega))) only [↓wD,wU,Nat.reduceBEq,zx150,zx151,zx159,zx160,zx161,zx162,Nat.reduceAdd,Nat.reduceSub,Nat.reduceMul,Nat.reduceLeDiff,Nat.reduceLT,Nat.reduceEqDiff,Int.reduceAdd,Int.reduceSub,Int.reduceMul,Int.reduceNeg,Int.reduceLT,Int.reduceLE,Int.reduceEq,Int.reduceToNat,Int.cast_ofNat_Int,↓reduceIte, ldn_of (get_set c6)]
        exact rv_2 (rv_si (((hu.low.kp (Kx.set (H.length + 3) H6 (Blk.cells [.i v, u']) |>.weak fun b _ h => by have := h.1.resolve_left (fun h => h); omega).kp).weak fun b h => .inr (by have := h.1.resolve_left (fun h => h); omega)))) rv_i
  · simp (disch := (first | assumption | omega | (simp only [List.length_append, List.length_cons, List.length_nil]; omega))) only [↓wD,wU,Nat.reduceBEq,zx150,zx151,zx159,zx160,zx161,zx162,Nat.reduceAdd,Nat.reduceSub,Nat.reduceMul,Nat.reduceLeDiff,Nat.reduceLT,Nat.reduceEqDiff,Int.reduceAdd,Int.reduceSub,Int.reduceMul,Int.reduceNeg,Int.reduceLT,Int.reduceLE,Int.reduceEq,Int.reduceToNat,Int.cast_ofNat_Int,↓reduceIte]
end Go.Proofs.Ytalaadcbpjnglaa
namespace Go.AM
open Go
/-- a row, and the value that stands for it -/
structure RW where
  v : AV
  xs : List Int
instance : Inhabited RW := ⟨⟨.nils, []⟩⟩
instance : Rep RW where
  sz := 1
  pos := Nat.one_pos
  rep p H cs r := cs = [r.v] ∧ Sl p H r.v r.xs
  len := by rintro p H cs x ⟨rfl, _⟩; rfl
  one := by rintro p H cs x ⟨rfl, h⟩; simp [h.one]
  mono := by rintro p q H H' cs x ⟨rfl, h⟩ hk hq; exact ⟨rfl, h.mono hk hq⟩
  pure := by rintro p q H H' cs x ⟨rfl, h⟩ hp; exact ⟨rfl, h.pure (by simpa [AV.pureAll] using hp)⟩
  low := by rintro p H cs x ⟨rfl, h⟩; exact ⟨rfl, h.low⟩
/-- in no block of the other one's -/
def Apart (a b : AV) : Prop := ∀ c, a.blk = some c → b.blk ≠ some c
/-- a table of the call's own, from L on; its rows apart -/
def TB (L : Nat) (H : Heap) (v : AV) (t : List (List Int)) : Prop :=
  ∃ rs : List RW, rs.map (·.xs) = t ∧ rs.Pairwise (fun a b => Apart a.v b.v) ∧ Acc L (fun b => L ≤ b) H v rs
section
variable {L lo : Nat} {p : Nat → Prop} {H H' : Heap} {v : AV} {t : List (List Int)}
theorem TB.nil : TB L H .nils [] := ⟨[], rfl, List.Pairwise.nil, Acc.nil⟩
theorem TB.accL (h : TB L H v t) : Acc L (fun b => L ≤ b) H v t := by
  obtain ⟨rs, rfl, _, h⟩ := h
  rcases h with ⟨rfl, rfl⟩ | ⟨b, o, c, k, rfl, hb, hk, h1, h2, h3⟩
  · exact .inl ⟨rfl, rfl⟩
  · refine .inr ⟨b, o, c, k, by rw [List.length_map]; rfl, hb, hk, by rw [List.length_map]; exact h1, by rwa [List.length_map], fun i hi => ?_⟩
    have hi' : i < rs.length := by simpa using hi
    obtain ⟨e, hs⟩ := h3 i hi'
    refine ⟨_, e, ?_⟩
    have e2 : (rs.map (·.xs))[i]'hi = rs[i].xs := by simp
    rw [e2]; exact hs
theorem TB.sl (h : TB L H v t) : Sl (fun b => L ≤ b) H v t := h.accL.sl.weak fun b h => h.elim id id
theorem TB.kp (h : TB L H v t) (hk : Kp (fun b => L ≤ b) H H') : TB L H' v t := by
  obtain ⟨rs, e, hn, h⟩ := h
  exact ⟨rs, e, hn, h.mono (hk.weak fun b hb => hb.elim id id) fun _ h => h⟩
theorem TB.gr (h : TB L H v t) (hg : Gr H H') : TB L H' v t := h.kp hg.all.weakT
theorem TB.blk_lt (h : TB L H v t) {b : Nat} (e : v.blk = some b) : L ≤ b ∧ b < H.length := h.accL.blk_lt e
theorem RW.lt {rs : List RW} (h : Acc L p H v rs) : ∀ r ∈ rs, ∀ c, r.v.blk = some c → c < H.length := by
  intro r hr c hc
  rcases h with ⟨rfl, rfl⟩ | ⟨b, o, c', k, rfl, hb, hk, h1, h2, h3⟩
  · cases hr
  · obtain ⟨i, hi, rfl⟩ := List.mem_iff_getElem.1 hr
    obtain ⟨_, h4⟩ := h3 i hi
    exact (h4.blkp hc).2
theorem TB.push {n : Nat} {y : AV} {x : List Int} {Q : AV × Heap → Prop} {H0 : Heap} (h : TB L H0 v t) (hg : Gr H0 H) (hlo : lo ≤ L) (hL : L ≤ H0.length) (hy : Sl (fun b => H0.length ≤ b) H y x) (hb : (t.length + 1) * 24 ≤ 1099511627776)
    (go : ∀ v' H', TB L H' v' (t ++ [x]) → Kp (fun b => v.blk ≠ some b) H H' → Q (v', H')) (hn : n = H.length := by first | rfl | simp) :
    @optP _ (appendV lo 1 24 v (.s 1 n 0 1 (some 1)) (H ++ [.cells [y]])) ⟨Q⟩ := by
  subst hn
  obtain ⟨rs, rfl, hn, ha⟩ := h
  have hrl := RW.lt ha
  refine Acc.push1 (α := RW) (q := fun b => H0.length ≤ b) (cs := [y]) (x := ⟨y, x⟩) (bytes := 24) (ha.gr hg) hlo (Nat.le_trans hL hg.1) ⟨rfl, hy⟩ (fun b hb => ⟨by omega, fun e => ?_⟩) (by simpa using hb) (by omega) fun v' H' h1 h2 _ _ => go v' H' ⟨rs ++ [⟨y, x⟩], by simp, ?_, h1⟩ h2
  · have := (ha.blk_lt e).2; omega
  · rw [List.pairwise_append]
    refine ⟨hn, List.pairwise_singleton _ _, ?_⟩
    intro a ha' b hb c hc e
    simp at hb
    subst hb
    have h1 := hrl a ha' c hc
    have h2 := (hy.blkp e).1
    omega
/-- row i, written in place -/
theorem TB.row (h : TB L H v t) {i : Nat} (hi : i < t.length) : ∃ y, v.get H (i : Int) = y ∧ ldA H none (v.at 1 (i : Int)) = some y ∧ Sl (fun b => L ≤ b) H y (gi t (i : Int)) ∧ (∀ b, v.blk = some b → y.blk ≠ some b) ∧
    ∀ H' x', Kx (fun b => y.blk ≠ some b) H H' → Sl (fun b => L ≤ b) H' y x' → TB L H' v (t.set i x') := by
  have g := h.sl.get (k := (i : Int)) (by omega) (by omega)
  have gl := (h.sl.ld_get (k := (i : Int)) (by omega) (by omega)).1
  refine ⟨_, rfl, gl, g, ?_, ?_⟩
  · intro b hb
    obtain ⟨rs, rfl, hn, ha⟩ := h
    rcases ha with ⟨rfl, rfl⟩ | ⟨b1, o, c, k, rfl, hb1, hk, h1, h2, h3⟩
    · simp at hi
    · have hi' : i < rs.length := by simpa using hi
      obtain ⟨e, h4⟩ := h3 i hi'
      change (k.drop (o + i * 1)).take 1 = _ at e
      have e2 := take1 e
      have eg : AV.get H (.s (Rep.sz RW) b1 o rs.length c) (i : Int) = rs[i].v := by
        change (ld H b1 (o + i * 1)).getD .un = _
        simp only [ld, hk, e2]; rfl
      rw [eg]
      cases hb
      intro q
      exact (h4.blkp q).1.2 rfl
  · intro H' x' hx hs
    obtain ⟨rs, rfl, hn, ha⟩ := h
    rcases ha with ⟨rfl, rfl⟩ | ⟨b1, o, c, k, rfl, hb1, hk, h1, h2, h3⟩
    · simp at hi
    · have hi' : i < rs.length := by simpa using hi
      obtain ⟨e, h4⟩ := h3 i hi'
      change (k.drop (o + i * 1)).take 1 = _ at e
      have e2 := take1 e
      have eg : AV.get H (.s (Rep.sz RW) b1 o rs.length c) (i : Int) = rs[i].v := by
        change (ld H b1 (o + i * 1)).getD .un = _
        simp only [ld, hk, e2]; rfl
      rw [eg] at hx hs
      have hne : ∀ q, rs[i].v.blk = some q → q ≠ b1 := fun q hq => (h4.blkp hq).1.2
      refine ⟨rs.set i ⟨rs[i].v, x'⟩, by simp [List.map_set], ?_, .inr ⟨b1, o, c, k, by rw [List.length_set], hb1, hx.get (fun q => hne _ q rfl) hk, by rw [List.length_set]; exact h1, by rw [List.length_set]; exact h2, fun j hj => ?_⟩⟩
      · rw [List.pairwise_iff_getElem] at hn ⊢
        intro a b ha hb hab
        have e1 : ∀ m (hm : m < (rs.set i ⟨rs[i].v, x'⟩).length), (rs.set i ⟨rs[i].v, x'⟩)[m].v = (rs[m]'(by simpa using hm)).v := by
          intro m hm
          simp only [List.getElem_set]
          split
          · rename_i q; subst q; rfl
          · rfl
        rw [e1 a ha, e1 b hb]
        exact hn a b _ _ hab
      · have hj' : j < rs.length := by simpa using hj
        by_cases q : i = j
        · subst q
          simp only [List.getElem_set_self]
          exact ⟨e, hs.own.weak (q := fun b => rs[i].v.blk = some b) (fun _ h => h) |>.weak fun b hb => ⟨(hs.blkp hb).1, hne b hb⟩⟩
        · rw [List.getElem_set_ne q]
          obtain ⟨ej, hj4⟩ := h3 j hj'
          refine ⟨ej, (hj4.own.kp (hx.weak (q := fun b => rs[j].v.blk = some b) fun b _ hb => ?_).kp).weak fun b hb => (hj4.blkp hb).1⟩
          rw [List.pairwise_iff_getElem] at hn
          rcases Nat.lt_or_gt_of_ne q with ql | ql
          · exact fun e => hn i j hi' hj' ql b e hb
          · exact fun e => hn j i hj' hi' ql b hb e
/-- a table of the call's own, as a result -/
structure TW where
  t : List (List Int)
instance : RV TW where
  rv p H v x := ∃ rs : List RW, rs.map (·.xs) = x.t ∧ rs.Pairwise (fun a b => Apart a.v b.v) ∧ ((v = .nils ∧ rs = []) ∨ ∃ b o c k, v = .s 1 b o rs.length c ∧ p b ∧ H[b]? = some (.cells k) ∧ o + rs.length ≤ k.length ∧ rs.length ≤ 9223372036854775807 ∧ ∀ (i : Nat) (h : i < rs.length), Rep.rep (fun b' => p b' ∧ b' ≠ b) H ((k.drop (o + i)).take 1) rs[i])
  mono := by
    rintro p q H H' v x ⟨rs, e, hn, h⟩ hk hq
    refine ⟨rs, e, hn, ?_⟩
    rcases h with h | ⟨b, o, c, k, rfl, hb, hk1, h1, h2, h3⟩
    · exact .inl h
    · exact .inr ⟨b, o, c, k, rfl, hq b hb, hk.2 b k hb hk1, h1, h2, fun i hi => Rep.mono (h3 i hi) (hk.weak fun _ h => h.1) fun b h => ⟨hq b h.1, h.2⟩⟩
  pure := by
    rintro p q H H' v x ⟨rs, e, hn, h⟩ hp
    rcases h with h | ⟨b, o, c, k, rfl, _⟩
    · exact ⟨rs, e, hn, .inl h⟩
    · simp [AV.pure] at hp
theorem TB.rv (h : TB L H v t) (hp : ∀ b, L ≤ b → p b) : RV.rv p H v (TW.mk t) := by
  obtain ⟨rs, e, hn, h⟩ := h
  refine ⟨rs, e, hn, ?_⟩
  rcases h with h | ⟨b, o, c, k, rfl, hb, hk1, h1, h2, h3⟩
  · exact .inl h
  · refine .inr ⟨b, o, c, k, rfl, hp b hb, hk1, by change o + rs.length * 1 ≤ _ at h1; simpa using h1, h2, fun i hi => ?_⟩
    have := h3 i hi
    change Rep.rep _ H ((k.drop (o + i * 1)).take 1) _ at this
    rw [Nat.mul_one] at this
    exact Rep.mono this (Kp.refl _ _) fun b h => ⟨hp b h.1, h.2⟩
theorem TB.of (h : RV.rv p H v (TW.mk t)) (hp : ∀ b, p b → L ≤ b) : TB L H v t := by
  obtain ⟨rs, e, hn, h⟩ := h
  refine ⟨rs, e, hn, ?_⟩
  rcases h with h | ⟨b, o, c, k, rfl, hb, hk1, h1, h2, h3⟩
  · exact .inl h
  · refine .inr ⟨b, o, c, k, rfl, hp b hb, hk1, by change o + rs.length * 1 ≤ _; simpa using h1, h2, fun i hi => ?_⟩
    change Rep.rep _ H ((k.drop (o + i * 1)).take 1) _
    rw [Nat.mul_one]
    exact Rep.mono (h3 i hi) (Kp.refl _ _) fun b h => ⟨hp b h.1, h.2⟩
end
section
variable {k : List AV} {o n i j : Nat}
end
end Go.AM
namespace Go.Proofs.Ytalaadcbpjnglaa
open Go Go.AM Go.Proofs
end Go.Proofs.Ytalaadcbpjnglaa
namespace Go.AM
open Go
/-- a table of the call's own, from L on and below M; its rows apart -/
def TBm (L M : Nat) (H : Heap) (v : AV) (t : List (List Int)) : Prop :=
  ∃ rs : List RW, rs.map (·.xs) = t ∧ rs.Pairwise (fun a b => Apart a.v b.v) ∧ Acc L (fun b => L ≤ b ∧ b < M) H v rs ∧ ∀ b, v.blk = some b → b < M
section
variable {L M lo : Nat} {p : Nat → Prop} {H H' : Heap} {v : AV} {t : List (List Int)}
theorem TBm.tb (h : TBm L M H v t) : TB L H v t := by
  obtain ⟨rs, e, hn, h, _⟩ := h
  exact ⟨rs, e, hn, h.mono (Kp.refl _ _) fun _ h => h.1⟩
theorem TB.tbm (h : TB L H v t) : TBm L H.length H v t := by
  have hb := fun b e => (h.blk_lt (b := b) e).2
  obtain ⟨rs, e, hn, h⟩ := h
  refine ⟨rs, e, hn, ?_, hb⟩
  rcases h with h | ⟨b, o, c, k, rfl, hb, hk, h1, h2, h3⟩
  · exact .inl h
  · exact .inr ⟨b, o, c, k, rfl, hb, hk, h1, h2, fun i hi => Rep.mono (Rep.low (h3 i hi)) (Kp.refl _ _) fun b h => ⟨⟨h.1.1, h.2⟩, h.1.2⟩⟩
theorem TBm.kp (h : TBm L M H v t) (hk : Kp (fun b => L ≤ b ∧ b < M) H H') : TBm L M H' v t := by
  obtain ⟨rs, e, hn, h, hb⟩ := h
  exact ⟨rs, e, hn, Acc.kp h hk (fun b e => ⟨(h.blk_lt e).1, hb b e⟩) fun _ h => h, hb⟩
theorem TBm.sl (h : TBm L M H v t) : Sl (fun b => L ≤ b ∧ b < M) H v t := by
  obtain ⟨rs, rfl, hn, h, hb⟩ := h
  rcases h with ⟨rfl, rfl⟩ | ⟨b, o, c, k, rfl, hb0, hk, h1, h2, h3⟩
  · exact .inl ⟨rfl, rfl⟩
  · refine .inr ⟨b, o, c, k, by rw [List.length_map]; rfl, ⟨hb0, hb b rfl⟩, hk, by rw [List.length_map]; exact h1, by rwa [List.length_map], fun i hi => ?_⟩
    have hi' : i < rs.length := by simpa using hi
    obtain ⟨e, hs⟩ := h3 i hi'
    refine ⟨_, e, ?_⟩
    have e2 : (rs.map (·.xs))[i]'hi = rs[i].xs := by simp
    rw [e2]; exact hs.weak fun _ h => h.1
theorem TBm.set (h : TBm L M H v t) {i : Nat} (hi : i < t.length) {x' : List Int} (hx : Kx (fun b => (v.get H (i : Int)).blk ≠ some b) H H') (hs : Sl (fun b => L ≤ b ∧ b < M) H' (v.get H (i : Int)) x') : TBm L M H' v (t.set i x') := by
  obtain ⟨rs, rfl, hn, ha, hbM⟩ := h
  rcases ha with ⟨rfl, rfl⟩ | ⟨b1, o, c, k, rfl, hb1, hk, h1, h2, h3⟩
  · simp at hi
  · have hi' : i < rs.length := by simpa using hi
    obtain ⟨e, h4⟩ := h3 i hi'
    change (k.drop (o + i * 1)).take 1 = _ at e
    have e2 := take1 e
    have eg : AV.get H (.s (Rep.sz RW) b1 o rs.length c) (i : Int) = rs[i].v := by
      change (ld H b1 (o + i * 1)).getD .un = _
      simp only [ld, hk, e2]; rfl
    rw [eg] at hx hs
    have hne : ∀ q, rs[i].v.blk = some q → q ≠ b1 := fun q hq => (h4.blkp hq).1.2
    refine ⟨rs.set i ⟨rs[i].v, x'⟩, by simp [List.map_set], ?_, .inr ⟨b1, o, c, k, by rw [List.length_set], hb1, hx.get (fun q => hne _ q rfl) hk, by rw [List.length_set]; exact h1, by rw [List.length_set]; exact h2, fun j hj => ?_⟩, hbM⟩
    · rw [List.pairwise_iff_getElem] at hn ⊢
      intro a b ha hb hab
      have e1 : ∀ m (hm : m < (rs.set i ⟨rs[i].v, x'⟩).length), (rs.set i ⟨rs[i].v, x'⟩)[m].v = (rs[m]'(by simpa using hm)).v := by
        intro m hm
        simp only [List.getElem_set]
        split
        · rename_i q; subst q; rfl
        · rfl
      rw [e1 a ha, e1 b hb]
      exact hn a b _ _ hab
    · have hj' : j < rs.length := by simpa using hj
      by_cases q : i = j
      · subst q
        simp only [List.getElem_set_self]
        exact ⟨e, hs.own.weak (q := fun b => rs[i].v.blk = some b) (fun _ h => h) |>.weak fun b hb => ⟨(hs.blkp hb).1, hne b hb⟩⟩
      · rw [List.getElem_set_ne q]
        obtain ⟨ej, hj4⟩ := h3 j hj'
        refine ⟨ej, (hj4.own.kp (hx.weak (q := fun b => rs[j].v.blk = some b) fun b _ hb => ?_).kp).weak fun b hb => (hj4.blkp hb).1⟩
        rw [List.pairwise_iff_getElem] at hn
        rcases Nat.lt_or_gt_of_ne q with ql | ql
        · exact fun e => hn i j hi' hj' ql b e hb
        · exact fun e => hn j i hj' hi' ql b hb e
theorem TBm.apart (h : TBm L M H v t) {i : Nat} (hi : i < t.length) : ∀ b, v.blk = some b → (v.get H (i : Int)).blk ≠ some b := by
  obtain ⟨y, e, _, _, h1, _⟩ := h.tb.row hi
  rw [e]; exact h1
theorem TBm.get_keep (h : TBm L M H v t) {i : Nat} (hi : i < t.length) (hx : Kx (fun b => (v.get H (i : Int)).blk ≠ some b) H H') : v.get H' (i : Int) = v.get H (i : Int) := by
  have ha := h.apart hi
  have hb := h.sl.bd
  cases v <;> try rfl
  rename_i es b o n c
  have hlt : b < H.length := hb
  have h1 := ha b rfl
  have e : H'[b]? = H[b]? := hx.2 b hlt h1
  simp only [AV.get, ld, e]
/-- .. and the row's value is the same -/
theorem TBm.storeG {Q : Heap → Prop} {i k : Nat} {x : Int} (h : TBm L M H v t) (hlo : lo ≤ L) (hi : i < t.length) (hk : k < (gi t (i : Int)).length)
    (go : ∀ H', TBm L M H' v (t.set i ((gi t (i : Int)).set k x)) → Kx (fun b => b < L ∨ M ≤ b) H H' → H'.length = H.length → v.get H' (i : Int) = v.get H (i : Int) → Q H') : @optP _ (stA lo H 1 ((v.get H (i : Int)).at 1 (k : Int)) (.i x)) ⟨Q⟩ := by
  have g := h.sl.get (k := (i : Int)) (by omega) (by omega)
  refine g.storeI (k := (k : Int)) (fun b hb => by omega) (by omega) (by omega) fun H' hs hx hl => ?_
  rw [Int.toNat_natCast] at hs
  exact go H' (h.set hi hx hs) (hx.weak fun b _ hb e => by have := (g.blkp e).1; omega) hl (h.get_keep hi hx)
theorem TBm.accL (h : TBm L M H v t) : Acc L (fun b => L ≤ b ∧ b < M) H v t ∧ ∀ b, v.blk = some b → L ≤ b ∧ b < M := by
  obtain ⟨rs, rfl, _, h, hb⟩ := h
  refine ⟨?_, fun b e => ⟨(h.blk_lt e).1, hb b e⟩⟩
  rcases h with ⟨rfl, rfl⟩ | ⟨b, o, c, k, rfl, hb, hk, h1, h2, h3⟩
  · exact .inl ⟨rfl, rfl⟩
  · refine .inr ⟨b, o, c, k, by rw [List.length_map]; rfl, hb, hk, by rw [List.length_map]; exact h1, by rwa [List.length_map], fun i hi => ?_⟩
    have hi' : i < rs.length := by simpa using hi
    obtain ⟨e, hs⟩ := h3 i hi'
    refine ⟨_, e, ?_⟩
    have e2 : (rs.map (·.xs))[i]'hi = rs[i].xs := by simp
    rw [e2]; exact hs
theorem Acc.slb {α : Type} [Rep α] {p : Nat → Prop} {xs : List α} (h : Acc L p H v xs) : Sl (fun b => p b ∨ v.blk = some b) H v xs := by
  rcases h with h | ⟨b, o, c, k, rfl, hb, hk1, h1, h2, h3⟩
  · exact .inl h
  · exact .inr ⟨b, o, c, k, rfl, .inr rfl, hk1, h1, h2, fun i hi => Rep.mono (h3 i hi) (Kp.refl _ _) fun _ h => .inl h.1⟩
end
end Go.AM
namespace Go.Proofs.Ytalaadcbpjnglaa
open Go Go.AM Go.Proofs
/-- behind i rows -/
def renI (g : List Int → List Int) (t : List (List Int)) (i : Nat) : List (List Int) := (t.take i).map g ++ t.drop i
section
variable {g : List Int → List Int} {t : List (List Int)} {i : Nat}
theorem renI_0 : renI g t 0 = t := by simp [renI]
theorem renI_n : renI g t t.length = t.map g := by simp [renI]
theorem renI_len (h : i ≤ t.length) : (renI g t i).length = t.length := by simp [renI]; omega
theorem renI_gi (h : i < t.length) : gi (renI g t i) (i : Int) = gi t (i : Int) := by
  rw [gi_nat (by rw [renI_len (by omega)]; exact h), gi_nat h]
  unfold renI
  have e : ((t.take i).map g).length = i := by simp; omega
  rw [List.getElem_append_right (by omega)]
  simp only [e, Nat.sub_self, List.getElem_drop, Nat.add_zero]
theorem renI_s (h : i < t.length) : (renI g t i).set i (g (gi t (i : Int))) = renI g t (i + 1) := by
  unfold renI
  have e : ((t.take i).map g).length = i := by simp; omega
  rw [take_gi h, List.map_append, List.set_append_right _ _ (by omega), e, Nat.sub_self, List.append_assoc]
  congr 1
  rw [List.drop_eq_getElem_cons h]
  rfl
end
end Go.Proofs.Ytalaadcbpjnglaa
namespace Go.Proofs.Ytalaadcbpjnglaa
open Go Go.AM Go.Proofs
abbrev AI2 := Int × List (List Int)
def dropX (v : Int) (t : List (List Int)) (c : Int) : AI2 := if colP v t c then (if wd t = 1 then (0, []) else (v, t.map (cutC c.toNat))) else (0, [])
def dropE (v : Int) (t : List (List Int)) (c : Int) : Int := if colP v t c then (if wd t = 1 then 4 else 0) else 2
def renX (v : Int) (t : List (List Int)) (c : Int) (to : List Int) : AI2 := if renP v t c to then (v, t.map (renC c.toNat to)) else (0, [])
def renE (v : Int) (t : List (List Int)) (c : Int) (to : List Int) : Int := if renP v t c to then 0 else 2
theorem colP_cut {v c : Int} {t : List (List Int)} : colP v (cutA t) c ↔ colP v t c := by
  constructor
  · rintro ⟨h1, h2⟩
    have q1 := ArrP_cut.1 h1
    rw [cutA_ok q1] at h2
    exact ⟨q1, h2⟩
  · rintro ⟨h1, h2⟩
    rw [← cutA_ok h1] at h2
    exact ⟨ArrP_cut.2 h1, h2⟩
theorem drop_any {p : Nat → Prop} {H : Heap} {u : AV} {v c : Int} {t : List (List Int)} (h : Sl p H u (cutA t)) : Ret E 33 [.ag [.i v, u], .i c] (fun _ => False) H (T2.mk (dropX v t c) (dropE v t c)) := by
  unfold dropX dropE
  by_cases hc : colP v t c
  · rw [if_pos hc, if_pos hc]
    rw [cutA_ok hc.1] at h
    by_cases h1 : wd t = 1
    · rw [if_pos h1, if_pos h1]
      exact drop_one h hc h1
    · rw [if_neg h1, if_neg h1]
      obtain ⟨hA, h2, h3⟩ := hc
      obtain ⟨C, rfl⟩ := Int.eq_ofNat_of_zero_le h2
      have := hA.wd
      exact drop_ret h hA (by omega) (by omega)
  · rw [if_neg hc, if_neg hc]
    exact drop_err h fun q => hc (colP_cut.1 q)
theorem namesC_cut {V : Nat} {to : List Int} (h : V ≤ 4) : namesC V (to.take 11) ↔ namesC V to := by
  by_cases hl : to.length ≤ 11
  · rw [List.take_of_length_le hl]
  · constructor
    · intro q; have := q.1; rw [List.length_take] at this; omega
    · intro q; have := q.1; omega
theorem rename_any {p q : Nat → Prop} {H : Heap} {u u' : AV} {v c : Int} {t : List (List Int)} {to : List Int} (h : Sl p H u (cutA t)) (h' : Sl q H u' (to.take 11)) : Ret E 34 [.ag [.i v, u], .i c, u'] (fun _ => False) H (T2.mk (renX v t c to) (renE v t c to)) := by
  unfold renX renE
  by_cases hc : renP v t c to
  · rw [if_pos hc, if_pos hc]
    obtain ⟨⟨hA, h2, h3⟩, hn⟩ := id hc
    have hl : to.length ≤ 11 := by have := hn.1; have := hA.2.1; omega
    rw [cutA_ok hA] at h
    rw [List.take_of_length_le hl] at h'
    obtain ⟨C, rfl⟩ := Int.eq_ofNat_of_zero_le h2
    exact rename_ret h h' hc
  · rw [if_neg hc, if_neg hc]
    refine rename_err h h' fun ⟨q1, q2⟩ => hc ⟨colP_cut.1 q1, ?_⟩
    exact (namesC_cut (by have := q1.1.2.1; omega)).1 q2
end Go.Proofs.Ytalaadcbpjnglaa
namespace Go.Proofs.Ytalaadcbpjnglaa
open Go Go.AM Go.Proofs
theorem own_ret {p : Nat → Prop} {H : Heap} {rows : AV} {v : Int} {xs : List (List Int)} (hr : Sl p H rows xs) : Ret E 21 [.ag [.i v, rows]] p H ((v, xs) : Int × List (List Int)) := by
  refine Ret.ro rfl fn21 rfl ?_
  unfold f21A
  repeat' (first | refine condP_split (fun _ => ?_) (fun _ => ?_) | refine guardP_split (fun _ => ?_) (fun _ => ?_) | refine guardP_splitF (fun _ => ?_) (fun _ => ?_) | (simp (disch := (first | assumption | omega | (simp only [List.length_append, List.length_cons, List.length_nil]; omega))) only [↓wD,wU,Nat.reduceBEq,zx150,zx151,zx159,zx160,zx161,zx162,Nat.reduceAdd,Nat.reduceSub,Nat.reduceMul,Nat.reduceLeDiff,Nat.reduceLT,Nat.reduceEqDiff,Int.reduceAdd,Int.reduceSub,Int.reduceMul,Int.reduceNeg,Int.reduceLT,Int.reduceLE,Int.reduceEq,Int.reduceToNat,Int.cast_ofNat_Int,↓reduceIte, *, hr.L]))
  exact rv_si (((hr.app _).app _).weak fun _ h => .inl h)
end Go.Proofs.Ytalaadcbpjnglaa
namespace Go.Proofs.Ytalaadcbpjnglaa
open Go Go.AM Go.Proofs
abbrev PL := List (Int × Int)
/-- how often choices (column, choice) come -/
def cnt (t : List (List Int)) (ps : PL) : Nat := t.countP fun r => ps.all fun q => gi r q.1 == q.2
def InR (v n : Int) (q : Int × Int) : Prop := (0 ≤ q.1 ∧ q.1 < n) ∧ 0 ≤ q.2 ∧ q.2 < v
/-- k choices in different columns -/
def Cho (v n : Int) (k : Nat) (ps : PL) : Prop := ps.length = k ∧ (ps.map (·.1)).Nodup ∧ ∀ q ∈ ps, InR v n q
theorem cnt_oft {t : List (List Int)} {cs ks : List Int} : oft t cs ks = cnt t (cs.zip ks) := rfl
theorem mem_sufs_t {n : Int} : ∀ {t : Nat} {x : Int} {s : List Int}, s ∈ sufs true n t x ↔ s.length = t ∧ s.Pairwise (· < ·) ∧ ∀ c ∈ s, x ≤ c ∧ c < n
  | 0, x, s => by
    simp only [sufs, List.mem_singleton]
    constructor
    · rintro rfl; exact ⟨rfl, List.Pairwise.nil, nofun⟩
    · rintro ⟨h, _⟩; exact List.length_eq_zero_iff.1 h
  | t + 1, x, s => by
    simp only [sufs, List.mem_flatMap, List.mem_map, if_true]
    constructor
    · rintro ⟨y, hy, z, hz, rfl⟩
      have h1 := mem_rng.1 hy
      obtain ⟨h2, h3, h4⟩ := mem_sufs_t.1 hz
      refine ⟨by simp [h2], List.pairwise_cons.2 ⟨fun c hc => by have := h4 c hc; omega, h3⟩, fun c hc => ?_⟩
      rcases List.mem_cons.1 hc with rfl | hc
      · exact h1
      · have := h4 c hc; omega
    · rintro ⟨h1, h2, h3⟩
      cases s with
      | nil => simp at h1
      | cons y z =>
        obtain ⟨q1, q2⟩ := List.pairwise_cons.1 h2
        exact ⟨y, mem_rng.2 (h3 y (by simp)), z, mem_sufs_t.2 ⟨by simpa using h1, q2, fun c hc => ⟨by have := q1 c hc; omega, (h3 c (by simp [hc])).2⟩⟩, rfl⟩
theorem cnt_perm {t : List (List Int)} {ps qs : PL} (h : ps.Perm qs) : cnt t ps = cnt t qs := by
  unfold cnt
  congr 1
  funext r
  exact h.all_eq
/-- in order -/
theorem cho_sort {v n : Int} {k : Nat} {ps : PL} (h : Cho v n k ps) : ∃ cs ks, cs ∈ sufs true n k 0 ∧ ks ∈ sufs false v k 0 ∧ (cs.zip ks).Perm ps := by
  obtain ⟨h1, h2, h3⟩ := h
  let le : Int × Int → Int × Int → Bool := fun a b => decide (a.1 ≤ b.1)
  have hp : (ps.mergeSort le).Perm ps := List.mergeSort_perm ps le
  have hs : (ps.mergeSort le).Pairwise (fun a b => le a b = true) := List.pairwise_mergeSort (fun a b c h h' => by simp only [le, decide_eq_true_eq] at *; omega) (fun a b => by simp only [le, Bool.or_eq_true, decide_eq_true_eq]; omega) ps
  obtain ⟨qs, eq⟩ : ∃ qs, ps.mergeSort le = qs := ⟨_, rfl⟩
  rw [eq] at hp hs
  have hn : (qs.map (·.1)).Nodup := (hp.map (·.1)).nodup_iff.2 h2
  have hl : qs.length = k := by rw [hp.length_eq, h1]
  have hz : (qs.map (·.1)).zip (qs.map (·.2)) = qs := by
    rw [List.zip_map', List.map_id'']
    intro a; rfl
  refine ⟨qs.map (·.1), qs.map (·.2), mem_sufs_t.2 ⟨by simpa using hl, ?_, fun c hc => ?_⟩, mem_sufs_f.2 ⟨by simpa using hl, fun c hc => ?_⟩, by rw [hz]; exact hp⟩
  · rw [List.pairwise_map]
    unfold List.Nodup at hn
    rw [List.pairwise_map] at hn
    refine (hs.and hn).imp ?_
    rintro a b ⟨q1, q2⟩
    simp only [le, decide_eq_true_eq] at q1
    omega
  · obtain ⟨q, hq, rfl⟩ := List.mem_map.1 hc
    exact (h3 q (hp.mem_iff.1 hq)).1
  · obtain ⟨q, hq, rfl⟩ := List.mem_map.1 hc
    exact (h3 q (hp.mem_iff.1 hq)).2
theorem sort_cho {v n : Int} {k : Nat} {cs ks : List Int} (h1 : cs ∈ sufs true n k 0) (h2 : ks ∈ sufs false v k 0) : Cho v n k (cs.zip ks) := by
  obtain ⟨a1, a2, a3⟩ := mem_sufs_t.1 h1
  obtain ⟨b1, b2⟩ := mem_sufs_f.1 h2
  refine ⟨by simp [a1, b1], ?_, fun q hq => ?_⟩
  · rw [List.map_fst_zip (by omega)]
    exact a2.imp fun h => by omega
  · obtain ⟨q1, q2⟩ := List.of_mem_zip hq
    exact ⟨a3 _ q1, b2 _ q2⟩
theorem covers_iff {v : Int} {t : List (List Int)} {k : Nat} : coversB v t k = true ↔ ∀ ps, Cho v (wd t) k ps → 0 < cnt t ps := by
  unfold coversB
  rw [List.all_eq_true]
  constructor
  · intro h ps hp
    obtain ⟨cs, ks, h1, h2, h3⟩ := cho_sort hp
    have := h _ (mem_allL h1 h2)
    rw [← cnt_perm h3, ← cnt_oft]
    simp at this; omega
  · intro h x hx
    obtain ⟨cs, ks, h1, h2, rfl⟩ := allL_mem hx
    have := h _ (sort_cho h1 h2)
    rw [← cnt_oft] at this
    simp; omega
theorem fair_iff {v : Int} {t : List (List Int)} {k : Nat} (hA : ArrP v t) (hk : k ≤ wd t) : fairK v t k = true ↔ ∃ m, 0 < m ∧ ∀ ps, Cho v (wd t) k ps → cnt t ps = m := by
  rw [fairK_iff hA hk]
  refine exists_congr fun m => and_congr_right fun _ => ?_
  constructor
  · intro h ps hp
    obtain ⟨cs, ks, h1, h2, h3⟩ := cho_sort hp
    have := h _ (mem_allL h1 h2)
    rw [← cnt_perm h3, ← cnt_oft]
    exact this
  · intro h x hx
    obtain ⟨cs, ks, h1, h2, rfl⟩ := allL_mem hx
    have := h _ (sort_cho h1 h2)
    rw [← cnt_oft] at this
    exact this
/-- choices of one Array as choices of another one -/
structure Emb (v : Int) (t t' : List (List Int)) (φ : Int × Int → Int × Int) : Prop where
  rng : ∀ q, InR v (wd t') q → InR v (wd t) (φ q)
  inj : ∀ p q, InR v (wd t') p → InR v (wd t') q → (φ p).1 = (φ q).1 → p.1 = q.1
  cnt : ∀ ps : PL, (∀ q ∈ ps, InR v (wd t') q) → cnt t' ps = cnt t (ps.map φ)
section
variable {v : Int} {t t' : List (List Int)} {φ : Int × Int → Int × Int} {k : Nat}
theorem Emb.cho (h : Emb v t t' φ) {ps : PL} (hp : Cho v (wd t') k ps) : Cho v (wd t) k (ps.map φ) := by
  obtain ⟨h1, h2, h3⟩ := hp
  refine ⟨by simpa using h1, ?_, fun q hq => ?_⟩
  · unfold List.Nodup at h2 ⊢
    rw [List.pairwise_map] at h2
    rw [List.map_map, List.pairwise_map]
    refine List.Pairwise.imp_of_mem ?_ h2
    intro a b ha hb hne e
    exact hne (h.inj a b (h3 a ha) (h3 b hb) e)
  · obtain ⟨p, hp, rfl⟩ := List.mem_map.1 hq
    exact h.rng p (h3 p hp)
theorem Emb.covers (h : Emb v t t' φ) (hc : coversB v t k = true) : coversB v t' k = true := by
  rw [covers_iff] at hc ⊢
  intro ps hp
  rw [h.cnt ps hp.2.2]
  exact hc _ (h.cho hp)
theorem Emb.fair (h : Emb v t t' φ) (hA : ArrP v t) (hA' : ArrP v t') (hk : k ≤ wd t) (hk' : k ≤ wd t') (hc : fairK v t k = true) : fairK v t' k = true := by
  rw [fair_iff hA hk] at hc
  rw [fair_iff hA' hk']
  obtain ⟨m, hm, hc⟩ := hc
  exact ⟨m, hm, fun ps hp => by rw [h.cnt ps hp.2.2]; exact hc _ (h.cho hp)⟩
end
theorem bool_eq {a b : Bool} (h : a = true → b = true) (h' : b = true → a = true) : a = b := by
  cases a <;> cases b <;> simp_all
/-- rows changed one by one -/
theorem cnt_map {t : List (List Int)} {g : List Int → List Int} {ps : PL} {φ : Int × Int → Int × Int} (h : ∀ r ∈ t, ∀ q ∈ ps, gi (g r) q.1 = q.2 ↔ gi r (φ q).1 = (φ q).2) : cnt (t.map g) ps = cnt t (ps.map φ) := by
  unfold cnt
  rw [List.countP_map]
  refine List.countP_congr fun r hr => ?_
  simp only [Function.comp, List.all_eq_true, beq_iff_eq, List.mem_map, forall_exists_index, and_imp, forall_apply_eq_imp_iff₂]
  exact forall_congr' fun q => forall_congr' fun hq => h r hr q hq
theorem wd_map {t : List (List Int)} {g : List Int → List Int} (h : 1 ≤ t.length) : wd (t.map g) = (g (gi t 0)).length := by
  cases t with
  | nil => simp at h
  | cons x t => rfl
/-- an Array whose rows are changed -/
theorem ArrP_map {v : Int} {t : List (List Int)} {g : List Int → List Int} {n : Nat} (hA : ArrP v t) (hn1 : 1 ≤ n) (hn8 : n ≤ 8) (hg : ∀ r ∈ t, (g r).length = n ∧ ChR v (g r)) : ArrP v (t.map g) ∧ wd (t.map g) = n := by
  have h0 := mem_gi (xs := t) (i := 0) hA.2.2.1
  have hw : wd (t.map g) = n := by rw [wd_map hA.2.2.1]; exact (hg _ h0).1
  refine ⟨⟨hA.1, hA.2.1, by simpa using hA.2.2.1, by simpa using hA.2.2.2.1, fun r hr => ?_⟩, hw⟩
  obtain ⟨x, hx, rfl⟩ := List.mem_map.1 hr
  have := hg x hx
  exact ⟨by rw [this.1]; exact hw.symm, by omega, by omega, this.2⟩
/-! ### A column left out -/
theorem cut_gi {c : Nat} {r : List Int} {x : Int} (hc : c < r.length) (h0 : 0 ≤ x) (h1 : x < (r.length : Int) - 1) : gi (cutC c r) x = gi r (if x < c then x else x + 1) := by
  obtain ⟨X, rfl⟩ := Int.eq_ofNat_of_zero_le h0
  have hl : (cutC c r).length = r.length - 1 := by simp [cutC]; omega
  rw [gi_nat (by omega)]
  unfold cutC
  by_cases h : X < c
  · rw [if_pos (by omega), gi_nat (by omega), List.getElem_append_left (by simp; omega)]
    simp
  · have e : ((X : Int) + 1) = ((X + 1 : Nat) : Int) := by omega
    rw [if_neg (by omega), e, gi_nat (by omega), List.getElem_append_right (by simp; omega)]
    simp only [List.length_take, List.getElem_drop]
    congr 1
    omega
theorem drop_arr {v : Int} {t : List (List Int)} {c : Nat} (hA : ArrP v t) (hc : c < wd t) (h1 : 1 < wd t) : ArrP v (t.map (cutC c)) ∧ wd (t.map (cutC c)) = wd t - 1 := by
  have hw := hA.wd
  refine ArrP_map hA (by omega) (by omega) fun r hr => ?_
  have := hA.row hr
  refine ⟨by simp [cutC]; omega, fun x hx => ?_⟩
  unfold cutC at hx
  rcases List.mem_append.1 hx with h | h
  · exact this.2 x (List.mem_of_mem_take h)
  · exact this.2 x (List.mem_of_mem_drop h)
theorem drop_emb {v : Int} {t : List (List Int)} {c : Nat} (hA : ArrP v t) (hc : c < wd t) (h1 : 1 < wd t) : Emb v t (t.map (cutC c)) fun q => (if q.1 < c then q.1 else q.1 + 1, q.2) := by
  have hd := drop_arr hA hc h1
  rw [← Int.natCast_inj] at hd
  refine ⟨fun q hq => ?_, fun p q hp hq e => ?_, fun ps hp => ?_⟩
  · unfold InR at hq ⊢
    simp only
    split <;> omega
  · simp only at e
    split at e <;> split at e <;> omega
  · refine cnt_map fun r hr q hq => ?_
    have h2 := hp q hq
    unfold InR at h2
    have := (hA.row hr).1
    rw [cut_gi (by omega) h2.1.1 (by omega)]
end Go.Proofs.Ytalaadcbpjnglaa
