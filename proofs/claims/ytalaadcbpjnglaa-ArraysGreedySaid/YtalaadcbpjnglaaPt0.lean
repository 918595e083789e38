/- What the law needs: what its functions do, and the laws on lists behind it. No condition. -/
import Derived.Test.YtalaadcbpjnglaaPi
import Derived.Test.YtalaadcbpjnglaaBo
import Derived.KernelRfl
import Derived.WalkKit
import Derived.ProofKit
import Derived.OpenShut
import Derived.ShutString
import Derived.ChangeOld
import Derived.Below
import Derived.SizedLaws
import Derived.Carry
set_option linter.unusedSimpArgs false
set_option linter.unusedVariables false
namespace Go.Proofs.Ytalaadcbpjnglaa
open Go Go.AM Go.Proofs
def ChR (v : Int) (r : List Int) : Prop := ∀ x ∈ r, 0 ≤ x ∧ x < v
instance (v : Int) (r : List Int) : Decidable (ChR v r) := by unfold ChR; infer_instance
def RowP (v : Int) (k : Nat) (r : List Int) : Prop := r.length = k ∧ 1 ≤ r.length ∧ r.length ≤ 8 ∧ ChR v r
instance (v : Int) (k : Nat) (r : List Int) : Decidable (RowP v k r) := by unfold RowP; infer_instance
def ArrP (v : Int) (t : List (List Int)) : Prop := 2 ≤ v ∧ v ≤ 4 ∧ 1 ≤ t.length ∧ t.length ≤ 16 ∧ ∀ r ∈ t, RowP v (gi t 0).length r
instance (v : Int) (t : List (List Int)) : Decidable (ArrP v t) := by unfold ArrP; infer_instance
/-- how many columns -/
def wd (t : List (List Int)) : Nat := (gi t 0).length
theorem ArrP.row {v : Int} {t : List (List Int)} (h : ArrP v t) {r : List Int} (hr : r ∈ t) : r.length = wd t ∧ ChR v r := ⟨(h.2.2.2.2 r hr).1, (h.2.2.2.2 r hr).2.2.2⟩
theorem ArrP.wd {v : Int} {t : List (List Int)} (h : ArrP v t) : 1 ≤ wd t ∧ wd t ≤ 8 := by
  have := h.2.2.2.2 (gi t 0) (gi_mem (by omega) (by have := h.2.2.1; omega))
  exact ⟨this.2.1, this.2.2.1⟩
end Go.Proofs.Ytalaadcbpjnglaa
namespace Go.Proofs.Ytalaadcbpjnglaa
open Go Go.AM Go.Proofs
theorem columns_ret {p : Nat → Prop} {H : Heap} {rows : AV} {v : Int} {t : List (List Int)} (ht : Sl p H rows t) (h : 1 ≤ t.length) : RetP E 75 [.ag [.i v, rows]] H (.i (wd t)) := by
  refine RetP.ro rfl fn75 rfl rfl ?_
  unfold f75A
  have k1 := ht.app [.cells [.i v, rows]]
  have g0 := k1.get (k := 0) (by omega) (by omega)
  simp (disch := (first | assumption | omega | (simp only [List.length_append, List.length_cons, List.length_nil]; omega))) only [↓wD,wU,Nat.reduceBEq,zx150,zx151,zx159,zx160,zx161,zx162,Nat.reduceAdd,Nat.reduceSub,Nat.reduceMul,Nat.reduceLeDiff,Nat.reduceLT,Nat.reduceEqDiff,Int.reduceAdd,Int.reduceSub,Int.reduceMul,Int.reduceNeg,Int.reduceLT,Int.reduceLE,Int.reduceEq,Int.reduceToNat,Int.cast_ofNat_Int,↓reduceIte, *, k1.L, g0.I]
  rfl
theorem width_ret {p : Nat → Prop} {H : Heap} {rows : AV} {v : Int} {t : List (List Int)} (ht : Sl p H rows t) (h : 1 ≤ t.length) : RetP E 39 [.ag [.i v, rows]] H (.i (wd t)) := by
  refine RetP.ro rfl fn39 rfl rfl ?_
  unfold f39A
  have k1 := ht.app [.cells [.i v, rows]]
  have g0 := k1.get (k := 0) (by omega) (by omega)
  simp (disch := (first | assumption | omega | (simp only [List.length_append, List.length_cons, List.length_nil]; omega))) only [↓wD,wU,Nat.reduceBEq,zx150,zx151,zx159,zx160,zx161,zx162,Nat.reduceAdd,Nat.reduceSub,Nat.reduceMul,Nat.reduceLeDiff,Nat.reduceLT,Nat.reduceEqDiff,Int.reduceAdd,Int.reduceSub,Int.reduceMul,Int.reduceNeg,Int.reduceLT,Int.reduceLE,Int.reduceEq,Int.reduceToNat,Int.cast_ofNat_Int,↓reduceIte, *, k1.L, g0.I]
  rfl
end Go.Proofs.Ytalaadcbpjnglaa
namespace Go.Proofs.Ytalaadcbpjnglaa
open Go Go.AM Go.Proofs
def comesL (rs cs ks : List Int) : Bool := (cs.zip ks).all fun q => gi rs q.1 == q.2
theorem zip_take_succ {α : Type} [Inhabited α] {xs ys : List α} {i : Nat} (h1 : i < xs.length) (h2 : i < ys.length) : (xs.take (i + 1)).zip (ys.take (i + 1)) = (xs.take i).zip (ys.take i) ++ [(gi xs i, gi ys i)] := by
  rw [take_gi h1, take_gi h2, List.zip_append (by simp; omega)]; rfl
theorem comesL_succ {rs cs ks : List Int} {i : Nat} (h1 : i < cs.length) (h2 : i < ks.length) : comesL rs (cs.take (i + 1)) (ks.take (i + 1)) = (comesL rs (cs.take i) (ks.take i) && (gi rs (gi cs i) == gi ks i)) := by
  simp [comesL, zip_take_succ h1 h2, List.all_append]
theorem comesL_all {rs cs ks : List Int} {i : Nat} (h1 : cs.length ≤ i) (h2 : ks.length ≤ i) : comesL rs (cs.take i) (ks.take i) = comesL rs cs ks := by
  rw [List.take_of_length_le h1, List.take_of_length_le h2]
theorem comesL_f {rs cs ks : List Int} {i : Nat} (h1 : i < cs.length) (h2 : i < ks.length) (h : ¬ gi rs (gi cs i) = gi ks i) : comesL rs cs ks = false := by
  rw [← Bool.not_eq_true]
  intro hh
  unfold comesL at hh
  rw [List.all_eq_true] at hh
  have := hh (cs[i], ks[i]) (List.mem_iff_getElem.2 ⟨i, by simp; omega, by simp⟩)
  rw [gi_nat h1, gi_nat h2] at h
  simp at this
  exact h this
theorem comes_ret {p q p' : Nat → Prop} {H : Heap} {row cols ch : AV} {rs cs ks : List Int} (hr : Sl p H row rs) (hc : Sl q H cols cs) (hk : Sl p' H ch ks) (hl : cs.length = ks.length) (hb : ∀ c ∈ cs, 0 ≤ c ∧ c < rs.length) :
    RetP E 101 [row, cols, ch] H (.b (comesL rs cs ks)) := by
  refine RetP.ro rfl fn101 rfl rfl ?_
  unfold f101A
  simp (disch := (first | assumption | omega | (simp only [List.length_append, List.length_cons, List.length_nil]; omega))) only [↓wD,wU,Nat.reduceBEq,zx150,zx151,zx159,zx160,zx161,zx162,Nat.reduceAdd,Nat.reduceSub,Nat.reduceMul,Nat.reduceLeDiff,Nat.reduceLT,Nat.reduceEqDiff,Int.reduceAdd,Int.reduceSub,Int.reduceMul,Int.reduceNeg,Int.reduceLT,Int.reduceLE,Int.reduceEq,Int.reduceToNat,Int.cast_ofNat_Int,↓reduceIte, *, hc.I]
  have hbd := hc.bound
  refine Wp.for cs.length (fun i a H' => H' = H ∧ a 0 = row ∧ a 2 = ch ∧ a 9 = cols ∧ a 10 = .i cs.length ∧ a 11 = .i i ∧ comesL rs (cs.take i) (ks.take i) = true) ?_ ?_
  · rintro i a H' hi ⟨rfl, h0, h2, h9, h10, h11, hh⟩ ih
    simp (disch := (first | assumption | omega | (simp only [List.length_append, List.length_cons, List.length_nil]; omega))) only [↓wD,wU,Nat.reduceBEq,zx150,zx151,zx159,zx160,zx161,zx162,Nat.reduceAdd,Nat.reduceSub,Nat.reduceMul,Nat.reduceLeDiff,Nat.reduceLT,Nat.reduceEqDiff,Int.reduceAdd,Int.reduceSub,Int.reduceMul,Int.reduceNeg,Int.reduceLT,Int.reduceLE,Int.reduceEq,Int.reduceToNat,Int.cast_ofNat_Int,↓reduceIte, *]
    refine condP_split (fun hlt => ?_) (fun hlt => ?_)
    · have hlt' : i < cs.length := by omega
      have hbi := hb (gi cs i) (mem_gi hlt')
      simp (disch := (first | assumption | omega | (simp only [List.length_append, List.length_cons, List.length_nil]; omega))) only [↓wD,wU,Nat.reduceBEq,zx150,zx151,zx159,zx160,zx161,zx162,Nat.reduceAdd,Nat.reduceSub,Nat.reduceMul,Nat.reduceLeDiff,Nat.reduceLT,Nat.reduceEqDiff,Int.reduceAdd,Int.reduceSub,Int.reduceMul,Int.reduceNeg,Int.reduceLT,Int.reduceLE,Int.reduceEq,Int.reduceToNat,Int.cast_ofNat_Int,↓reduceIte, *, hc.I, hr.I, hk.I]
      refine condP_split (fun hne => ?_) (fun hne => ?_)
      · simp (disch := (first | assumption | omega | (simp only [List.length_append, List.length_cons, List.length_nil]; omega))) only [↓wD,wU,Nat.reduceBEq,zx150,zx151,zx159,zx160,zx161,zx162,Nat.reduceAdd,Nat.reduceSub,Nat.reduceMul,Nat.reduceLeDiff,Nat.reduceLT,Nat.reduceEqDiff,Int.reduceAdd,Int.reduceSub,Int.reduceMul,Int.reduceNeg,Int.reduceLT,Int.reduceLE,Int.reduceEq,Int.reduceToNat,Int.cast_ofNat_Int,↓reduceIte, *]
        rw [comesL_f hlt' (by omega) hne]
      · simp (disch := (first | assumption | omega | (simp only [List.length_append, List.length_cons, List.length_nil]; omega))) only [↓wD,wU,Nat.reduceBEq,zx150,zx151,zx159,zx160,zx161,zx162,Nat.reduceAdd,Nat.reduceSub,Nat.reduceMul,Nat.reduceLeDiff,Nat.reduceLT,Nat.reduceEqDiff,Int.reduceAdd,Int.reduceSub,Int.reduceMul,Int.reduceNeg,Int.reduceLT,Int.reduceLE,Int.reduceEq,Int.reduceToNat,Int.cast_ofNat_Int,↓reduceIte, *]
        refine (ih hlt').go ⟨rfl, ?_⟩
        simp (disch := (first | assumption | omega | (simp only [List.length_append, List.length_cons, List.length_nil]; omega))) only [↓wD,wU,Nat.reduceBEq,zx150,zx151,zx159,zx160,zx161,zx162,Nat.reduceAdd,Nat.reduceSub,Nat.reduceMul,Nat.reduceLeDiff,Nat.reduceLT,Nat.reduceEqDiff,Int.reduceAdd,Int.reduceSub,Int.reduceMul,Int.reduceNeg,Int.reduceLT,Int.reduceLE,Int.reduceEq,Int.reduceToNat,Int.cast_ofNat_Int,↓reduceIte, *]
        rw [comesL_succ hlt' (by omega), hh]
        simp; omega
    · simp (disch := (first | assumption | omega | (simp only [List.length_append, List.length_cons, List.length_nil]; omega))) only [↓wD,wU,Nat.reduceBEq,zx150,zx151,zx159,zx160,zx161,zx162,Nat.reduceAdd,Nat.reduceSub,Nat.reduceMul,Nat.reduceLeDiff,Nat.reduceLT,Nat.reduceEqDiff,Int.reduceAdd,Int.reduceSub,Int.reduceMul,Int.reduceNeg,Int.reduceLT,Int.reduceLE,Int.reduceEq,Int.reduceToNat,Int.cast_ofNat_Int,↓reduceIte, *]
      rw [← comesL_all (i := i) (cs := cs) (by omega) (by omega), hh]
  · (simp (disch := (first | assumption | omega | (simp only [List.length_append, List.length_cons, List.length_nil]; omega))) only [↓wD,wU,Nat.reduceBEq,zx150,zx151,zx159,zx160,zx161,zx162,Nat.reduceAdd,Nat.reduceSub,Nat.reduceMul,Nat.reduceLeDiff,Nat.reduceLT,Nat.reduceEqDiff,Int.reduceAdd,Int.reduceSub,Int.reduceMul,Int.reduceNeg,Int.reduceLT,Int.reduceLE,Int.reduceEq,Int.reduceToNat,Int.cast_ofNat_Int,↓reduceIte, *]) <;> simp [comesL]
/-- in how many rows they come -/
def oft (t : List (List Int)) (cs ks : List Int) : Nat := t.countP fun r => comesL r cs ks
theorem oft_succ {t : List (List Int)} {cs ks : List Int} {i : Nat} (h : i < t.length) : oft (t.take (i + 1)) cs ks = oft (t.take i) cs ks + if comesL (gi t i) cs ks = true then 1 else 0 := by
  unfold oft
  rw [take_gi h, List.countP_append]
  simp [List.countP_cons]
theorem oft_le {t : List (List Int)} {cs ks : List Int} : oft t cs ks ≤ t.length := List.countP_le_length
theorem often_ret {p q p' : Nat → Prop} {H : Heap} {rows cols ch : AV} {v : Int} {t : List (List Int)} {cs ks : List Int} (ht : Sl p H rows t) (hc : Sl q H cols cs) (hk : Sl p' H ch ks) (hl : cs.length = ks.length) (hb : ∀ c ∈ cs, 0 ≤ c ∧ ∀ r ∈ t, c < r.length) :
    RetP E 104 [.ag [.i v, rows], cols, ch] H (.i (oft t cs ks)) := by
  refine RetP.ro rfl fn104 rfl rfl ?_
  unfold f104A
  have hbd := ht.bound
  simp (disch := (first | assumption | omega | (simp only [List.length_append, List.length_cons, List.length_nil]; omega))) only [↓wD,wU,Nat.reduceBEq,zx150,zx151,zx159,zx160,zx161,zx162,Nat.reduceAdd,Nat.reduceSub,Nat.reduceMul,Nat.reduceLeDiff,Nat.reduceLT,Nat.reduceEqDiff,Int.reduceAdd,Int.reduceSub,Int.reduceMul,Int.reduceNeg,Int.reduceLT,Int.reduceLE,Int.reduceEq,Int.reduceToNat,Int.cast_ofNat_Int,↓reduceIte, *, ht.L]
  have k1 := ht.app [.cells [.i v, rows]]
  have kc := hc.app [.cells [.i v, rows]]
  have kk := hk.app [.cells [.i v, rows]]
  refine Wp.for t.length (fun i a H' => H' = H ++ [.cells [.i v, rows]] ∧ a 1 = cols ∧ a 2 = ch ∧ a 11 = rows ∧ a 12 = .i t.length ∧ a 13 = .i i ∧ a 7 = .i (oft (t.take i) cs ks)) ?_ ?_
  · rintro i a H' hi ⟨rfl, a1, a2, a11, a12, a13, a7⟩ ih
    have hle := oft_le (t := t.take i) (cs := cs) (ks := ks)
    rw [List.length_take] at hle
    simp (disch := (first | assumption | omega | (simp only [List.length_append, List.length_cons, List.length_nil]; omega))) only [↓wD,wU,Nat.reduceBEq,zx150,zx151,zx159,zx160,zx161,zx162,Nat.reduceAdd,Nat.reduceSub,Nat.reduceMul,Nat.reduceLeDiff,Nat.reduceLT,Nat.reduceEqDiff,Int.reduceAdd,Int.reduceSub,Int.reduceMul,Int.reduceNeg,Int.reduceLT,Int.reduceLE,Int.reduceEq,Int.reduceToNat,Int.cast_ofNat_Int,↓reduceIte, *]
    refine condP_split (fun hlt => ?_) (fun hlt => ?_)
    · have hi' : i < t.length := by omega
      have g := k1.get (k := (i : Int)) (by omega) (by omega)
      have hs := oft_succ (cs := cs) (ks := ks) hi'
      simp (disch := (first | assumption | omega | (simp only [List.length_append, List.length_cons, List.length_nil]; omega))) only [↓wD,wU,Nat.reduceBEq,zx150,zx151,zx159,zx160,zx161,zx162,Nat.reduceAdd,Nat.reduceSub,Nat.reduceMul,Nat.reduceLeDiff,Nat.reduceLT,Nat.reduceEqDiff,Int.reduceAdd,Int.reduceSub,Int.reduceMul,Int.reduceNeg,Int.reduceLT,Int.reduceLE,Int.reduceEq,Int.reduceToNat,Int.cast_ofNat_Int,↓reduceIte, *, k1.L, (comes_ret g kc kk hl fun c hc => ⟨(hb c hc).1, by have := (hb c hc).2 _ (mem_gi hi'); omega⟩).call]
      refine condP_bool (fun hne => ?_) (fun hne => ?_)
      · rw [if_pos hne] at hs
        clear hne
        simp (disch := (first | assumption | omega | (simp only [List.length_append, List.length_cons, List.length_nil]; omega))) only [↓wD,wU,Nat.reduceBEq,zx150,zx151,zx159,zx160,zx161,zx162,Nat.reduceAdd,Nat.reduceSub,Nat.reduceMul,Nat.reduceLeDiff,Nat.reduceLT,Nat.reduceEqDiff,Int.reduceAdd,Int.reduceSub,Int.reduceMul,Int.reduceNeg,Int.reduceLT,Int.reduceLE,Int.reduceEq,Int.reduceToNat,Int.cast_ofNat_Int,↓reduceIte, *]
        refine (ih hi').go ⟨rfl, ?_⟩
        simp (disch := (first | assumption | omega | (simp only [List.length_append, List.length_cons, List.length_nil]; omega))) only [↓wD,wU,Nat.reduceBEq,zx150,zx151,zx159,zx160,zx161,zx162,Nat.reduceAdd,Nat.reduceSub,Nat.reduceMul,Nat.reduceLeDiff,Nat.reduceLT,Nat.reduceEqDiff,Int.reduceAdd,Int.reduceSub,Int.reduceMul,Int.reduceNeg,Int.reduceLT,Int.reduceLE,Int.reduceEq,Int.reduceToNat,Int.cast_ofNat_Int,↓reduceIte, *]
      · rw [if_neg (by simp [hne])] at hs
        clear hne
        simp (disch := (first | assumption | omega | (simp only [List.length_append, List.length_cons, List.length_nil]; omega))) only [↓wD,wU,Nat.reduceBEq,zx150,zx151,zx159,zx160,zx161,zx162,Nat.reduceAdd,Nat.reduceSub,Nat.reduceMul,Nat.reduceLeDiff,Nat.reduceLT,Nat.reduceEqDiff,Int.reduceAdd,Int.reduceSub,Int.reduceMul,Int.reduceNeg,Int.reduceLT,Int.reduceLE,Int.reduceEq,Int.reduceToNat,Int.cast_ofNat_Int,↓reduceIte, *]
        refine (ih hi').go ⟨rfl, ?_⟩
        simp (disch := (first | assumption | omega | (simp only [List.length_append, List.length_cons, List.length_nil]; omega))) only [↓wD,wU,Nat.reduceBEq,zx150,zx151,zx159,zx160,zx161,zx162,Nat.reduceAdd,Nat.reduceSub,Nat.reduceMul,Nat.reduceLeDiff,Nat.reduceLT,Nat.reduceEqDiff,Int.reduceAdd,Int.reduceSub,Int.reduceMul,Int.reduceNeg,Int.reduceLT,Int.reduceLE,Int.reduceEq,Int.reduceToNat,Int.cast_ofNat_Int,↓reduceIte, *]
    · simp (disch := (first | assumption | omega | (simp only [List.length_append, List.length_cons, List.length_nil]; omega))) only [↓wD,wU,Nat.reduceBEq,zx150,zx151,zx159,zx160,zx161,zx162,Nat.reduceAdd,Nat.reduceSub,Nat.reduceMul,Nat.reduceLeDiff,Nat.reduceLT,Nat.reduceEqDiff,Int.reduceAdd,Int.reduceSub,Int.reduceMul,Int.reduceNeg,Int.reduceLT,Int.reduceLE,Int.reduceEq,Int.reduceToNat,Int.cast_ofNat_Int,↓reduceIte, *]
      rw [List.take_of_length_le (by omega)]
  · (simp (disch := (first | assumption | omega | (simp only [List.length_append, List.length_cons, List.length_nil]; omega))) only [↓wD,wU,Nat.reduceBEq,zx150,zx151,zx159,zx160,zx161,zx162,Nat.reduceAdd,Nat.reduceSub,Nat.reduceMul,Nat.reduceLeDiff,Nat.reduceLT,Nat.reduceEqDiff,Int.reduceAdd,Int.reduceSub,Int.reduceMul,Int.reduceNeg,Int.reduceLT,Int.reduceLE,Int.reduceEq,Int.reduceToNat,Int.cast_ofNat_Int,↓reduceIte, *]) <;> simp [oft]
theorem times_ret {p q p' : Nat → Prop} {H : Heap} {rows cols ch : AV} {t : List (List Int)} {cs ks : List Int} (ht : Sl p H rows t) (hc : Sl q H cols cs) (hk : Sl p' H ch ks) (hl : cs.length = ks.length) (hb : ∀ c ∈ cs, 0 ≤ c ∧ ∀ r ∈ t, c < r.length) :
    RetP E 89 [rows, cols, ch] H (.i (oft t cs ks)) := by
  refine RetP.ro rfl fn89 rfl rfl ?_
  unfold f89A
  have hbd := ht.bound
  have hbc := hc.bound
  simp (disch := (first | assumption | omega | (simp only [List.length_append, List.length_cons, List.length_nil]; omega))) only [↓wD,wU,Nat.reduceBEq,zx150,zx151,zx159,zx160,zx161,zx162,Nat.reduceAdd,Nat.reduceSub,Nat.reduceMul,Nat.reduceLeDiff,Nat.reduceLT,Nat.reduceEqDiff,Int.reduceAdd,Int.reduceSub,Int.reduceMul,Int.reduceNeg,Int.reduceLT,Int.reduceLE,Int.reduceEq,Int.reduceToNat,Int.cast_ofNat_Int,↓reduceIte, *, ht.L]
  refine Wp.for t.length (fun i a H' => H' = H ∧ a 1 = cols ∧ a 2 = ch ∧ a 13 = rows ∧ a 14 = .i t.length ∧ a 15 = .i i ∧ a 7 = .i (oft (t.take i) cs ks)) ?_ ?_
  · rintro i a H' hi ⟨rfl, a1, a2, a13, a14, a15, a7⟩ ih
    have hle := oft_le (t := t.take i) (cs := cs) (ks := ks)
    rw [List.length_take] at hle
    simp (disch := (first | assumption | omega | (simp only [List.length_append, List.length_cons, List.length_nil]; omega))) only [↓wD,wU,Nat.reduceBEq,zx150,zx151,zx159,zx160,zx161,zx162,Nat.reduceAdd,Nat.reduceSub,Nat.reduceMul,Nat.reduceLeDiff,Nat.reduceLT,Nat.reduceEqDiff,Int.reduceAdd,Int.reduceSub,Int.reduceMul,Int.reduceNeg,Int.reduceLT,Int.reduceLE,Int.reduceEq,Int.reduceToNat,Int.cast_ofNat_Int,↓reduceIte, *]
    refine condP_split (fun hlt => ?_) (fun hlt => ?_)
    · have hi' : i < t.length := by omega
      have g := ht.get (k := (i : Int)) (by omega) (by omega)
      have hs := oft_succ (cs := cs) (ks := ks) hi'
      simp (disch := (first | assumption | omega | (simp only [List.length_append, List.length_cons, List.length_nil]; omega))) only [↓wD,wU,Nat.reduceBEq,zx150,zx151,zx159,zx160,zx161,zx162,Nat.reduceAdd,Nat.reduceSub,Nat.reduceMul,Nat.reduceLeDiff,Nat.reduceLT,Nat.reduceEqDiff,Int.reduceAdd,Int.reduceSub,Int.reduceMul,Int.reduceNeg,Int.reduceLT,Int.reduceLE,Int.reduceEq,Int.reduceToNat,Int.cast_ofNat_Int,↓reduceIte, *, ht.L, hc.I]
      refine Wp.for cs.length (fun j a H1 => H1 = H' ∧ a 1 = cols ∧ a 2 = ch ∧ a 13 = rows ∧ a 14 = .i t.length ∧ a 15 = .i i ∧ a 7 = .i (oft (t.take i) cs ks) ∧ a 9 = rows.get H' i ∧ a 19 = cols ∧ a 20 = .i cs.length ∧ a 21 = .i j ∧ a 10 = .b (comesL (gi t i) (cs.take j) (ks.take j))) ?_ ?_
      · rintro j a H1 hj ⟨rfl, a1, a2, a13, a14, a15, a7, a9, a19, a20, a21, a10⟩ ih2
        simp (disch := (first | assumption | omega | (simp only [List.length_append, List.length_cons, List.length_nil]; omega))) only [↓wD,wU,Nat.reduceBEq,zx150,zx151,zx159,zx160,zx161,zx162,Nat.reduceAdd,Nat.reduceSub,Nat.reduceMul,Nat.reduceLeDiff,Nat.reduceLT,Nat.reduceEqDiff,Int.reduceAdd,Int.reduceSub,Int.reduceMul,Int.reduceNeg,Int.reduceLT,Int.reduceLE,Int.reduceEq,Int.reduceToNat,Int.cast_ofNat_Int,↓reduceIte, *]
        refine condP_split (fun hlt2 => ?_) (fun hlt2 => ?_)
        · have hj' : j < cs.length := by omega
          have hbi := hb (gi cs j) (mem_gi hj')
          have hbi2 := hbi.2 _ (mem_gi hi')
          have hcs := comesL_succ (rs := gi t i) hj' (show j < ks.length by omega)
          cases hcj : comesL (gi t i) (cs.take j) (ks.take j)
          · rw [hcj] at hcs a10
            simp (disch := (first | assumption | omega | (simp only [List.length_append, List.length_cons, List.length_nil]; omega))) only [↓wD,wU,Nat.reduceBEq,zx150,zx151,zx159,zx160,zx161,zx162,Nat.reduceAdd,Nat.reduceSub,Nat.reduceMul,Nat.reduceLeDiff,Nat.reduceLT,Nat.reduceEqDiff,Int.reduceAdd,Int.reduceSub,Int.reduceMul,Int.reduceNeg,Int.reduceLT,Int.reduceLE,Int.reduceEq,Int.reduceToNat,Int.cast_ofNat_Int,↓reduceIte, *, hc.I, g.I, hk.I]
            refine (ih2 hj').go ⟨rfl, ?_⟩
            simp (disch := (first | assumption | omega | (simp only [List.length_append, List.length_cons, List.length_nil]; omega))) only [↓wD,wU,Nat.reduceBEq,zx150,zx151,zx159,zx160,zx161,zx162,Nat.reduceAdd,Nat.reduceSub,Nat.reduceMul,Nat.reduceLeDiff,Nat.reduceLT,Nat.reduceEqDiff,Int.reduceAdd,Int.reduceSub,Int.reduceMul,Int.reduceNeg,Int.reduceLT,Int.reduceLE,Int.reduceEq,Int.reduceToNat,Int.cast_ofNat_Int,↓reduceIte, *]
          · rw [hcj] at hcs a10
            simp (disch := (first | assumption | omega | (simp only [List.length_append, List.length_cons, List.length_nil]; omega))) only [↓wD,wU,Nat.reduceBEq,zx150,zx151,zx159,zx160,zx161,zx162,Nat.reduceAdd,Nat.reduceSub,Nat.reduceMul,Nat.reduceLeDiff,Nat.reduceLT,Nat.reduceEqDiff,Int.reduceAdd,Int.reduceSub,Int.reduceMul,Int.reduceNeg,Int.reduceLT,Int.reduceLE,Int.reduceEq,Int.reduceToNat,Int.cast_ofNat_Int,↓reduceIte, *, hc.I, g.I, hk.I]
            refine (ih2 hj').go ⟨rfl, ?_⟩
            (simp (disch := (first | assumption | omega | (simp only [List.length_append, List.length_cons, List.length_nil]; omega))) only [↓wD,wU,Nat.reduceBEq,zx150,zx151,zx159,zx160,zx161,zx162,Nat.reduceAdd,Nat.reduceSub,Nat.reduceMul,Nat.reduceLeDiff,Nat.reduceLT,Nat.reduceEqDiff,Int.reduceAdd,Int.reduceSub,Int.reduceMul,Int.reduceNeg,Int.reduceLT,Int.reduceLE,Int.reduceEq,Int.reduceToNat,Int.cast_ofNat_Int,↓reduceIte, *]) <;> rfl
        · obtain rfl : j = cs.length := by omega
          rw [comesL_all (Nat.le_refl _) (by omega)] at a10
          simp (disch := (first | assumption | omega | (simp only [List.length_append, List.length_cons, List.length_nil]; omega))) only [↓wD,wU,Nat.reduceBEq,zx150,zx151,zx159,zx160,zx161,zx162,Nat.reduceAdd,Nat.reduceSub,Nat.reduceMul,Nat.reduceLeDiff,Nat.reduceLT,Nat.reduceEqDiff,Int.reduceAdd,Int.reduceSub,Int.reduceMul,Int.reduceNeg,Int.reduceLT,Int.reduceLE,Int.reduceEq,Int.reduceToNat,Int.cast_ofNat_Int,↓reduceIte, *]
          refine condP_bool (fun hne => ?_) (fun hne => ?_)
          · rw [if_pos hne] at hs
            clear hne
            simp (disch := (first | assumption | omega | (simp only [List.length_append, List.length_cons, List.length_nil]; omega))) only [↓wD,wU,Nat.reduceBEq,zx150,zx151,zx159,zx160,zx161,zx162,Nat.reduceAdd,Nat.reduceSub,Nat.reduceMul,Nat.reduceLeDiff,Nat.reduceLT,Nat.reduceEqDiff,Int.reduceAdd,Int.reduceSub,Int.reduceMul,Int.reduceNeg,Int.reduceLT,Int.reduceLE,Int.reduceEq,Int.reduceToNat,Int.cast_ofNat_Int,↓reduceIte, *]
            refine (ih hi').go ⟨rfl, ?_⟩
            simp (disch := (first | assumption | omega | (simp only [List.length_append, List.length_cons, List.length_nil]; omega))) only [↓wD,wU,Nat.reduceBEq,zx150,zx151,zx159,zx160,zx161,zx162,Nat.reduceAdd,Nat.reduceSub,Nat.reduceMul,Nat.reduceLeDiff,Nat.reduceLT,Nat.reduceEqDiff,Int.reduceAdd,Int.reduceSub,Int.reduceMul,Int.reduceNeg,Int.reduceLT,Int.reduceLE,Int.reduceEq,Int.reduceToNat,Int.cast_ofNat_Int,↓reduceIte, *]
          · rw [if_neg (by simp [hne])] at hs
            clear hne
            simp (disch := (first | assumption | omega | (simp only [List.length_append, List.length_cons, List.length_nil]; omega))) only [↓wD,wU,Nat.reduceBEq,zx150,zx151,zx159,zx160,zx161,zx162,Nat.reduceAdd,Nat.reduceSub,Nat.reduceMul,Nat.reduceLeDiff,Nat.reduceLT,Nat.reduceEqDiff,Int.reduceAdd,Int.reduceSub,Int.reduceMul,Int.reduceNeg,Int.reduceLT,Int.reduceLE,Int.reduceEq,Int.reduceToNat,Int.cast_ofNat_Int,↓reduceIte, *]
            refine (ih hi').go ⟨rfl, ?_⟩
            simp (disch := (first | assumption | omega | (simp only [List.length_append, List.length_cons, List.length_nil]; omega))) only [↓wD,wU,Nat.reduceBEq,zx150,zx151,zx159,zx160,zx161,zx162,Nat.reduceAdd,Nat.reduceSub,Nat.reduceMul,Nat.reduceLeDiff,Nat.reduceLT,Nat.reduceEqDiff,Int.reduceAdd,Int.reduceSub,Int.reduceMul,Int.reduceNeg,Int.reduceLT,Int.reduceLE,Int.reduceEq,Int.reduceToNat,Int.cast_ofNat_Int,↓reduceIte, *]
      · (simp (disch := (first | assumption | omega | (simp only [List.length_append, List.length_cons, List.length_nil]; omega))) only [↓wD,wU,Nat.reduceBEq,zx150,zx151,zx159,zx160,zx161,zx162,Nat.reduceAdd,Nat.reduceSub,Nat.reduceMul,Nat.reduceLeDiff,Nat.reduceLT,Nat.reduceEqDiff,Int.reduceAdd,Int.reduceSub,Int.reduceMul,Int.reduceNeg,Int.reduceLT,Int.reduceLE,Int.reduceEq,Int.reduceToNat,Int.cast_ofNat_Int,↓reduceIte, *]) <;> simp [comesL]
    · simp (disch := (first | assumption | omega | (simp only [List.length_append, List.length_cons, List.length_nil]; omega))) only [↓wD,wU,Nat.reduceBEq,zx150,zx151,zx159,zx160,zx161,zx162,Nat.reduceAdd,Nat.reduceSub,Nat.reduceMul,Nat.reduceLeDiff,Nat.reduceLT,Nat.reduceEqDiff,Int.reduceAdd,Int.reduceSub,Int.reduceMul,Int.reduceNeg,Int.reduceLT,Int.reduceLE,Int.reduceEq,Int.reduceToNat,Int.cast_ofNat_Int,↓reduceIte, *]
      rw [List.take_of_length_le (by omega)]
  · (simp (disch := (first | assumption | omega | (simp only [List.length_append, List.length_cons, List.length_nil]; omega))) only [↓wD,wU,Nat.reduceBEq,zx150,zx151,zx159,zx160,zx161,zx162,Nat.reduceAdd,Nat.reduceSub,Nat.reduceMul,Nat.reduceLeDiff,Nat.reduceLT,Nat.reduceEqDiff,Int.reduceAdd,Int.reduceSub,Int.reduceMul,Int.reduceNeg,Int.reduceLT,Int.reduceLE,Int.reduceEq,Int.reduceToNat,Int.cast_ofNat_Int,↓reduceIte, *]) <;> simp [oft]
end Go.Proofs.Ytalaadcbpjnglaa
namespace Go.Proofs.Ytalaadcbpjnglaa
open Go Go.AM Go.Proofs
theorem Acc_empty {α : Type} [Rep α] {L : Nat} {p q : Nat → Prop} {H : Heap} {v : AV} (h : Sl p H v ([] : List α)) (hp : ∀ b, p b → L ≤ b) : Acc L q H v ([] : List α) := by
  rcases h with h | ⟨b, o, c, k, e, hb, hk, h1, h2, h3⟩
  · exact .inl h
  · exact .inr ⟨b, o, c, k, e, hp _ hb, hk, h1, h2, fun i hi => by simp at hi⟩
theorem grow0_ret {H : Heap} {n : Int} (h0 : 0 ≤ n) (h1 : n ≤ 1000000) : Ret E 106 [.nils, .i n] (fun _ => False) H ([] : List Int) := by
  refine Ret.ro rfl fn106 rfl ?_
  unfold f106A
  have hc : zx162 .nils = some (.i 0) := rfl
  by_cases hn : 0 < n
  · have hmb : mostBytes = 1099511627776 := by decide
    have hs : slV 1 .nils none (some (.i 0)) none = some .nils := rfl
    have ha : appendzV H.length 1 8 [.int .i64 0] .nils (.i n) H = some (.s 1 H.length 0 n.toNat none, H ++ [.cells (reps n.toNat [.int .i64 0])]) := by
      simp only [appendzV]
      rw [if_pos ⟨h0, by omega, by rw [hmb]; omega, rfl⟩]
      simp only [appendA]
      rw [if_neg (by omega), if_pos (by rw [hmb]; omega)]
    have hs2 : slV 1 (.s 1 H.length 0 n.toNat none) none (some (.i 0)) none = some (.s 1 H.length 0 0 none) := by
      simp [slV, Go.AM.lenA, boundV, sliceA, show 0 ≤ max n 0 by omega]
    simp (disch := (first | assumption | omega | (simp only [List.length_append, List.length_cons, List.length_nil]; omega))) only [↓wD,wU,Nat.reduceBEq,zx150,zx151,zx159,zx160,zx161,zx162,Nat.reduceAdd,Nat.reduceSub,Nat.reduceMul,Nat.reduceLeDiff,Nat.reduceLT,Nat.reduceEqDiff,Int.reduceAdd,Int.reduceSub,Int.reduceMul,Int.reduceNeg,Int.reduceLT,Int.reduceLE,Int.reduceEq,Int.reduceToNat,Int.cast_ofNat_Int,↓reduceIte, *, hc, hs, Int.sub_zero, ha, hs2]
    exact .inr ⟨H.length, 0, none, reps n.toNat [.int .i64 0], rfl, by simp, by simp, by simp, by simp, fun i hi => by simp at hi⟩
  · simp (disch := (first | assumption | omega | (simp only [List.length_append, List.length_cons, List.length_nil]; omega))) only [↓wD,wU,Nat.reduceBEq,zx150,zx151,zx159,zx160,zx161,zx162,Nat.reduceAdd,Nat.reduceSub,Nat.reduceMul,Nat.reduceLeDiff,Nat.reduceLT,Nat.reduceEqDiff,Int.reduceAdd,Int.reduceSub,Int.reduceMul,Int.reduceNeg,Int.reduceLT,Int.reduceLE,Int.reduceEq,Int.reduceToNat,Int.cast_ofNat_Int,↓reduceIte, *, hc]
    exact Sl.nil
def lsum (ls : List (List Int)) : Nat := (ls.map List.length).sum
theorem lsum_take {ls : List (List Int)} {i : Nat} (h : i < ls.length) : lsum (ls.take (i + 1)) = lsum (ls.take i) + (gi ls i).length := by
  unfold lsum; rw [take_gi h]; simp [List.sum_append]
theorem lsum_le {ls : List (List Int)} {i : Nat} : lsum (ls.take i) ≤ lsum ls := by
  have e : lsum ls = lsum (ls.take i) + lsum (ls.drop i) := by
    conv => lhs; rw [← List.take_append_drop i ls]
    unfold lsum; rw [List.map_append, List.sum_append]
  omega
theorem len_flatten (ls : List (List Int)) : ls.flatten.length = lsum ls := by simp [lsum, List.length_flatten]
theorem concat_ret {p : Nat → Prop} {H : Heap} {v : AV} {ls : List (List Int)} (hl : Sl p H v ls) (hs : lsum ls ≤ 1000000) : Ret E 103 [v] (fun _ => False) H ls.flatten := by
  refine Ret.ro rfl fn103 rfl ?_
  unfold f103A
  have hb := hl.bound
  simp (disch := (first | assumption | omega | (simp only [List.length_append, List.length_cons, List.length_nil]; omega))) only [↓wD,wU,Nat.reduceBEq,zx150,zx151,zx159,zx160,zx161,zx162,Nat.reduceAdd,Nat.reduceSub,Nat.reduceMul,Nat.reduceLeDiff,Nat.reduceLT,Nat.reduceEqDiff,Int.reduceAdd,Int.reduceSub,Int.reduceMul,Int.reduceNeg,Int.reduceLT,Int.reduceLE,Int.reduceEq,Int.reduceToNat,Int.cast_ofNat_Int,↓reduceIte, *, hl.L]
  refine Wp.for ls.length (fun i a H' => H' = H ∧ a 0 = v ∧ a 9 = v ∧ a 10 = .i ls.length ∧ a 11 = .i i ∧ a 3 = .i (lsum (ls.take i))) ?_ ?_
  · rintro i a H' hi ⟨rfl, a0, a9, a10, a11, a3⟩ ih
    have hle := lsum_le (ls := ls) (i := i)
    simp (disch := (first | assumption | omega | (simp only [List.length_append, List.length_cons, List.length_nil]; omega))) only [↓wD,wU,Nat.reduceBEq,zx150,zx151,zx159,zx160,zx161,zx162,Nat.reduceAdd,Nat.reduceSub,Nat.reduceMul,Nat.reduceLeDiff,Nat.reduceLT,Nat.reduceEqDiff,Int.reduceAdd,Int.reduceSub,Int.reduceMul,Int.reduceNeg,Int.reduceLT,Int.reduceLE,Int.reduceEq,Int.reduceToNat,Int.cast_ofNat_Int,↓reduceIte, *]
    refine condP_split (fun hlt => ?_) (fun hlt => ?_)
    · have hi' : i < ls.length := by omega
      have g := hl.get (k := (i : Int)) (by omega) (by omega)
      have e := lsum_take hi'
      have hle2 := lsum_le (ls := ls) (i := i + 1)
      simp (disch := (first | assumption | omega | (simp only [List.length_append, List.length_cons, List.length_nil]; omega))) only [↓wD,wU,Nat.reduceBEq,zx150,zx151,zx159,zx160,zx161,zx162,Nat.reduceAdd,Nat.reduceSub,Nat.reduceMul,Nat.reduceLeDiff,Nat.reduceLT,Nat.reduceEqDiff,Int.reduceAdd,Int.reduceSub,Int.reduceMul,Int.reduceNeg,Int.reduceLT,Int.reduceLE,Int.reduceEq,Int.reduceToNat,Int.cast_ofNat_Int,↓reduceIte, *, hl.L, g.I]
      refine (ih hi').go ⟨rfl, ?_⟩
      simp (disch := (first | assumption | omega | (simp only [List.length_append, List.length_cons, List.length_nil]; omega))) only [↓wD,wU,Nat.reduceBEq,zx150,zx151,zx159,zx160,zx161,zx162,Nat.reduceAdd,Nat.reduceSub,Nat.reduceMul,Nat.reduceLeDiff,Nat.reduceLT,Nat.reduceEqDiff,Int.reduceAdd,Int.reduceSub,Int.reduceMul,Int.reduceNeg,Int.reduceLT,Int.reduceLE,Int.reduceEq,Int.reduceToNat,Int.cast_ofNat_Int,↓reduceIte, *]
    · obtain rfl : i = ls.length := by omega
      have e : ls.take ls.length = ls := List.take_length
      rw [e] at a3
      clear hlt hi ih
      simp (disch := (first | assumption | omega | (simp only [List.length_append, List.length_cons, List.length_nil]; omega))) only [↓wD,wU,Nat.reduceBEq,zx150,zx151,zx159,zx160,zx161,zx162,Nat.reduceAdd,Nat.reduceSub,Nat.reduceMul,Nat.reduceLeDiff,Nat.reduceLT,Nat.reduceEqDiff,Int.reduceAdd,Int.reduceSub,Int.reduceMul,Int.reduceNeg,Int.reduceLT,Int.reduceLE,Int.reduceEq,Int.reduceToNat,Int.cast_ofNat_Int,↓reduceIte, *]
      refine (grow0_ret (by omega) (by omega)).toF fun u H2 hg hu => ?_
      have hl2 := (hl.low.weak fun _ h => h.2).gr hg
      simp (disch := (first | assumption | omega | (simp only [List.length_append, List.length_cons, List.length_nil]; omega))) only [↓wD,wU,Nat.reduceBEq,zx150,zx151,zx159,zx160,zx161,zx162,Nat.reduceAdd,Nat.reduceSub,Nat.reduceMul,Nat.reduceLeDiff,Nat.reduceLT,Nat.reduceEqDiff,Int.reduceAdd,Int.reduceSub,Int.reduceMul,Int.reduceNeg,Int.reduceLT,Int.reduceLE,Int.reduceEq,Int.reduceToNat,Int.cast_ofNat_Int,↓reduceIte, *, hl.L, hl2.L]
      have ha0 : Acc H'.length (fun _ => True) H2 u ([] : List Int) := Acc_empty hu fun _ h => h
      refine Wp.for ls.length (fun i a H1 => ∃ u, a 6 = u ∧ a 25 = v ∧ a 26 = .i ls.length ∧ a 27 = .i i ∧ Gr H' H1 ∧ Acc H'.length (fun _ => True) H1 u (ls.take i).flatten) ?_ ?_
      · clear ha0 hu a0 a9 a10 a11 a3
        rintro i a H1 hi ⟨u, a6, a25, a26, a27, hg1, hu⟩ ih
        simp (disch := (first | assumption | omega | (simp only [List.length_append, List.length_cons, List.length_nil]; omega))) only [↓wD,wU,Nat.reduceBEq,zx150,zx151,zx159,zx160,zx161,zx162,Nat.reduceAdd,Nat.reduceSub,Nat.reduceMul,Nat.reduceLeDiff,Nat.reduceLT,Nat.reduceEqDiff,Int.reduceAdd,Int.reduceSub,Int.reduceMul,Int.reduceNeg,Int.reduceLT,Int.reduceLE,Int.reduceEq,Int.reduceToNat,Int.cast_ofNat_Int,↓reduceIte, *]
        refine condP_split (fun hlt => ?_) (fun hlt => ?_)
        · have hi' : i < ls.length := by omega
          have hl1 := (hl.low.weak fun _ h => h.2).gr hg1
          have g := hl1.get (k := (i : Int)) (by omega) (by omega)
          simp (disch := (first | assumption | omega | (simp only [List.length_append, List.length_cons, List.length_nil]; omega))) only [↓wD,wU,Nat.reduceBEq,zx150,zx151,zx159,zx160,zx161,zx162,Nat.reduceAdd,Nat.reduceSub,Nat.reduceMul,Nat.reduceLeDiff,Nat.reduceLT,Nat.reduceEqDiff,Int.reduceAdd,Int.reduceSub,Int.reduceMul,Int.reduceNeg,Int.reduceLT,Int.reduceLE,Int.reduceEq,Int.reduceToNat,Int.cast_ofNat_Int,↓reduceIte, *, hl1.L, g.I]
          refine hu.extend (Nat.le_refl _) (by have := hg1.1; omega) g (fun b hb => ⟨trivial, fun e => by have := hu.blk_lt e; omega⟩) ?_ (by omega) fun u' H3 hu' hk => ?_
          · have e := lsum_take hi'
            have hle2 := lsum_le (ls := ls) (i := i + 1)
            rw [len_flatten, ← e]; omega
          · simp (disch := (first | assumption | omega | (simp only [List.length_append, List.length_cons, List.length_nil]; omega))) only [↓wD,wU,Nat.reduceBEq,zx150,zx151,zx159,zx160,zx161,zx162,Nat.reduceAdd,Nat.reduceSub,Nat.reduceMul,Nat.reduceLeDiff,Nat.reduceLT,Nat.reduceEqDiff,Int.reduceAdd,Int.reduceSub,Int.reduceMul,Int.reduceNeg,Int.reduceLT,Int.reduceLE,Int.reduceEq,Int.reduceToNat,Int.cast_ofNat_Int,↓reduceIte, *]
            refine (ih hi').go ⟨u', ?_⟩
            simp (disch := (first | assumption | omega | (simp only [List.length_append, List.length_cons, List.length_nil]; omega))) only [↓wD,wU,Nat.reduceBEq,zx150,zx151,zx159,zx160,zx161,zx162,Nat.reduceAdd,Nat.reduceSub,Nat.reduceMul,Nat.reduceLeDiff,Nat.reduceLT,Nat.reduceEqDiff,Int.reduceAdd,Int.reduceSub,Int.reduceMul,Int.reduceNeg,Int.reduceLT,Int.reduceLE,Int.reduceEq,Int.reduceToNat,Int.cast_ofNat_Int,↓reduceIte, *]
            refine ⟨hg1.push hu (Nat.le_refl _) hk, ?_⟩
            rw [take_gi hi', List.flatten_append]
            simpa using hu'
        · obtain rfl : i = ls.length := by omega
          simp (disch := (first | assumption | omega | (simp only [List.length_append, List.length_cons, List.length_nil]; omega))) only [↓wD,wU,Nat.reduceBEq,zx150,zx151,zx159,zx160,zx161,zx162,Nat.reduceAdd,Nat.reduceSub,Nat.reduceMul,Nat.reduceLeDiff,Nat.reduceLT,Nat.reduceEqDiff,Int.reduceAdd,Int.reduceSub,Int.reduceMul,Int.reduceNeg,Int.reduceLT,Int.reduceLE,Int.reduceEq,Int.reduceToNat,Int.cast_ofNat_Int,↓reduceIte, *]
          rw [e] at hu
          rcases hu with h | ⟨b, o, c, k, e, hb, hk, h1, h2, h3⟩
          · exact .inl h
          · exact .inr ⟨b, o, c, k, e, .inr hb, hk, h1, h2, h3⟩
      · simp (disch := (first | assumption | omega | (simp only [List.length_append, List.length_cons, List.length_nil]; omega))) only [↓wD,wU,Nat.reduceBEq,zx150,zx151,zx159,zx160,zx161,zx162,Nat.reduceAdd,Nat.reduceSub,Nat.reduceMul,Nat.reduceLeDiff,Nat.reduceLT,Nat.reduceEqDiff,Int.reduceAdd,Int.reduceSub,Int.reduceMul,Int.reduceNeg,Int.reduceLT,Int.reduceLE,Int.reduceEq,Int.reduceToNat,Int.cast_ofNat_Int,↓reduceIte, *]
        exact ⟨u, rfl, by first | exact ha0 | exact ⟨hg, ha0⟩⟩
  · (simp (disch := (first | assumption | omega | (simp only [List.length_append, List.length_cons, List.length_nil]; omega))) only [↓wD,wU,Nat.reduceBEq,zx150,zx151,zx159,zx160,zx161,zx162,Nat.reduceAdd,Nat.reduceSub,Nat.reduceMul,Nat.reduceLeDiff,Nat.reduceLT,Nat.reduceEqDiff,Int.reduceAdd,Int.reduceSub,Int.reduceMul,Int.reduceNeg,Int.reduceLT,Int.reduceLE,Int.reduceEq,Int.reduceToNat,Int.cast_ofNat_Int,↓reduceIte, *]) <;> simp [lsum]
end Go.Proofs.Ytalaadcbpjnglaa
namespace Go.Proofs.Ytalaadcbpjnglaa
open Go Go.AM Go.Proofs
def rng (x n : Int) : List Int := (List.range (n - x).toNat).map fun i : Nat => x + (i : Int)
def sufs (r : Bool) (n : Int) : Nat → Int → List (List Int)
  | 0, _ => [[]]
  | t + 1, x => (rng x n).flatMap fun y => (sufs r n t (if r = true then y + 1 else 0)).map (y :: ·)
def frm (r : Bool) (l : List Int) : Int := if r = true ∧ 0 < l.length then gi l ((l.length : Int) - 1) + 1 else 0
theorem gi_last {l : List Int} {x : Int} : gi (l ++ [x]) (((l ++ [x]).length : Int) - 1) = x := by
  have e : (((l ++ [x]).length : Int) - 1) = ((l.length : Nat) : Int) := by simp
  rw [e, gi_nat (by simp)]; simp
theorem frm_app (r : Bool) (l : List Int) (x : Int) : frm r (l ++ [x]) = if r = true then x + 1 else 0 := by
  unfold frm
  rw [gi_last]
  cases r <;> simp
theorem rng_cons {x n : Int} (h : x < n) : rng x n = x :: rng (x + 1) n := by
  unfold rng
  have e : (n - x).toNat = (n - (x + 1)).toNat + 1 := by omega
  rw [e, List.range_succ_eq_map]
  simp only [List.map_cons, List.map_map]
  congr 1
  · simp
  · apply List.map_congr_left
    intro i _
    simp; omega
theorem rng_nil {x n : Int} (h : n ≤ x) : rng x n = [] := by
  unfold rng
  have e : (n - x).toNat = 0 := by omega
  rw [e]; rfl
/-- the items behind l, from x on -/
def rest (r : Bool) (n : Int) (t : Nat) (l : List Int) (x : Int) : List (List Int) := (rng x n).flatMap fun y => (sufs r n t (frm r (l ++ [y]))).map ((l ++ [y]) ++ ·)
theorem sufs_rest (r : Bool) (n : Int) (t : Nat) (l : List Int) : (sufs r n (t + 1) (frm r l)).map (l ++ ·) = rest r n t l (frm r l) := by
  simp only [sufs, rest, List.map_flatMap, List.map_map, frm_app]
  congr 1
  funext y
  apply List.map_congr_left
  intro s _
  simp
theorem rest_cons {r : Bool} {n : Int} {t : Nat} {l : List Int} {x : Int} (h : x < n) : rest r n t l x = (sufs r n t (frm r (l ++ [x]))).map ((l ++ [x]) ++ ·) ++ rest r n t l (x + 1) := by
  unfold rest; rw [rng_cons h]; rfl
theorem rest_nil {r : Bool} {n : Int} {t : Nat} {l : List Int} {x : Int} (h : n ≤ x) : rest r n t l x = [] := by
  unfold rest; rw [rng_nil h]; rfl
/-- what grow reads: its variables -/
structure Vars (K : Nat → Prop) (H : Heap) (y : AV) (r : Bool) (n t : Int) (bt bY br bn bg : Nat) : Prop where
  t : H[bt]? = some (.cells [.i t]) ∧ ¬ K bt
  y : H[bY]? = some (.cells [y]) ∧ ¬ K bY
  r : H[br]? = some (.cells [.b r]) ∧ ¬ K br
  n : H[bn]? = some (.cells [.i n]) ∧ ¬ K bn
  g : H[bg]? = some (.cells [.fn 97 [] [.p bt 0, .p bY 0, .p br 0, .p bn 0, .p bg 0]]) ∧ ¬ K bg
theorem Vars.mono {K K' : Nat → Prop} {H H' : Heap} {y : AV} {r : Bool} {n t : Int} {bt bY br bn bg : Nat} (h : Vars K H y r n t bt bY br bn bg) (hk : Kx (fun b => ¬ K b) H H') (hK : ∀ b, b < H.length → K' b → K b) : Vars K' H' y r n t bt bY br bn bg :=
  ⟨⟨hk.get h.t.2 h.t.1, fun q => h.t.2 (hK _ (List.getElem?_eq_some_iff.1 h.t.1).1 q)⟩, ⟨hk.get h.y.2 h.y.1, fun q => h.y.2 (hK _ (List.getElem?_eq_some_iff.1 h.y.1).1 q)⟩, ⟨hk.get h.r.2 h.r.1, fun q => h.r.2 (hK _ (List.getElem?_eq_some_iff.1 h.r.1).1 q)⟩, ⟨hk.get h.n.2 h.n.1, fun q => h.n.2 (hK _ (List.getElem?_eq_some_iff.1 h.n.1).1 q)⟩, ⟨hk.get h.g.2 h.g.1, fun q => h.g.2 (hK _ (List.getElem?_eq_some_iff.1 h.g.1).1 q)⟩⟩
theorem grow_ok {lo B : Nat} {y : AV} {r : Bool} {n : Int} {t : Nat} {bt bY br bn bg : Nat} (hlo : lo ≤ B) (ht : t ≤ 1000000) (hn : n ≤ 1000000) :
    ∀ (m : Nat) (l : List Int) (v : AV) (K : Nat → Prop) (H : Heap) (Q : Bool → (Nat → Prop) → Heap → Prop), l.length + m = t → (∀ x ∈ l, 0 ≤ x ∧ x < n) → Vars K H y r n t bt bY br bn bg → Sl (fun b => B ≤ b ∧ ¬ K b) H v l → (∀ b, K b → b < H.length) → B ≤ H.length →
      Its E lo y B ArgI Q ((sufs r n m (frm r l)).map (l ++ ·)) K H →
      WpF E lo 97 [v, .p bt 0, .p bY 0, .p br 0, .p bn 0, .p bg 0] H fun u H' => ∃ ok K', u = .b ok ∧ Q ok K' H' ∧ Kx (fun b => ¬ K b ∧ v.blk ≠ some b) H H' ∧ ∀ b, K' b → b < H'.length ∧ (b < H.length → K b ∨ v.blk = some b) := by
  intro m
  induction m with
  | zero =>
    intro l v K H Q hl hb hv hs hK hB hI
    refine WpF.wrt rfl fn97 rfl ?_
    unfold f97A
    have e : (l.length : Int) = t := by omega
    simp (disch := (first | assumption | omega | (simp only [List.length_append, List.length_cons, List.length_nil]; omega))) only [↓wD,wU,Nat.reduceBEq,zx150,zx151,zx159,zx160,zx161,zx162,Nat.reduceAdd,Nat.reduceSub,Nat.reduceMul,Nat.reduceLeDiff,Nat.reduceLT,Nat.reduceEqDiff,Int.reduceAdd,Int.reduceSub,Int.reduceMul,Int.reduceNeg,Int.reduceLT,Int.reduceLE,Int.reduceEq,Int.reduceToNat,Int.cast_ofNat_Int,↓reduceIte, *, hs.I, ld_of hv.t.1, ld_of hv.y.1]
    refine callvI ((hI H (fun b => v.blk = some b) [v] (Kx.refl _ _) ⟨v, rfl, ?_⟩ ?_).mono ?_)
    · simp only [List.append_nil]; exact hs.own
    · exact fun b e => ⟨(hs.blkp e).1.1, (hs.blkp e).2, (hs.blkp e).1.2⟩
    · rintro u H2 ⟨hx, hc⟩
      rcases hc with ⟨rfl, hc⟩ | ⟨rfl, hc⟩
      · simp (disch := (first | assumption | omega | (simp only [List.length_append, List.length_cons, List.length_nil]; omega))) only [↓wD,wU,Nat.reduceBEq,zx150,zx151,zx159,zx160,zx161,zx162,Nat.reduceAdd,Nat.reduceSub,Nat.reduceMul,Nat.reduceLeDiff,Nat.reduceLT,Nat.reduceEqDiff,Int.reduceAdd,Int.reduceSub,Int.reduceMul,Int.reduceNeg,Int.reduceLT,Int.reduceLE,Int.reduceEq,Int.reduceToNat,Int.cast_ofNat_Int,↓reduceIte, *]
        refine ⟨true, _, rfl, Its.none hc, hx.weak fun b _ h q => q.elim h.1 h.2, ?_⟩
        rintro b (h | h | h)
        · exact ⟨by have := hK b h; have := hx.1; omega, fun _ => .inl h⟩
        · exact ⟨by have := (hs.blkp h).2; have := hx.1; omega, fun _ => .inr h⟩
        · exact ⟨h.2, fun q => by omega⟩
      · simp (disch := (first | assumption | omega | (simp only [List.length_append, List.length_cons, List.length_nil]; omega))) only [↓wD,wU,Nat.reduceBEq,zx150,zx151,zx159,zx160,zx161,zx162,Nat.reduceAdd,Nat.reduceSub,Nat.reduceMul,Nat.reduceLeDiff,Nat.reduceLT,Nat.reduceEqDiff,Int.reduceAdd,Int.reduceSub,Int.reduceMul,Int.reduceNeg,Int.reduceLT,Int.reduceLE,Int.reduceEq,Int.reduceToNat,Int.cast_ofNat_Int,↓reduceIte, *]
        refine ⟨false, _, rfl, hc _ (Kx.refl _ _), hx.weak fun b _ h q => q.elim h.1 h.2, ?_⟩
        rintro b (h | h | h)
        · exact ⟨by have := hK b h; have := hx.1; omega, fun _ => .inl h⟩
        · exact ⟨by have := (hs.blkp h).2; have := hx.1; omega, fun _ => .inr h⟩
        · exact ⟨h.2, fun q => by omega⟩
  | succ m ihm =>
    intro l v K H Q hl hb hv hs hK hB hI
    refine WpF.wrt rfl fn97 rfl ?_
    unfold f97A
    have e : ¬ (l.length : Int) = t := by omega
    rw [sufs_rest] at hI
    obtain ⟨x0, hx0⟩ : ∃ x0, frm r l = x0 := ⟨_, rfl⟩
    rw [hx0] at hI
    have hg : 0 ≤ x0 ∧ x0 ≤ 1000000 ∧ ((r = false ∧ x0 ≤ 0) ∨ (r = true ∧ l.length ≤ 0 ∧ x0 ≤ 0) ∨ (r = true ∧ 0 < l.length ∧ 0 ≤ gi l ((l.length : Int) - 1) ∧ gi l ((l.length : Int) - 1) < n ∧ x0 ≤ gi l ((l.length : Int) - 1) + 1 ∧ gi l ((l.length : Int) - 1) + 1 ≤ x0)) := by
      subst hx0
      cases r
      · simp [frm]
      · by_cases h0 : l.length = 0
        · simp [frm, h0]
        · have := hb _ (gi_mem (xs := l) (k := (l.length : Int) - 1) (by omega) (by omega))
          have e : frm true l = gi l ((l.length : Int) - 1) + 1 := by unfold frm; rw [if_pos ⟨rfl, by omega⟩]
          rw [e]
          exact ⟨by omega, by omega, .inr (.inr ⟨rfl, by omega, this.1, this.2, Int.le_refl _, Int.le_refl _⟩)⟩
    clear hx0
    have hln := hs.bound
    obtain ⟨f1, f2, hg⟩ := hg
    rcases hg with ⟨hr, g1⟩ | ⟨hr, g1, g2⟩ | ⟨hr, g1, g2, g3, g4, g5⟩
    all_goals simp (disch := (first | assumption | omega | (simp only [List.length_append, List.length_cons, List.length_nil]; omega))) only [↓wD,wU,Nat.reduceBEq,zx150,zx151,zx159,zx160,zx161,zx162,Nat.reduceAdd,Nat.reduceSub,Nat.reduceMul,Nat.reduceLeDiff,Nat.reduceLT,Nat.reduceEqDiff,Int.reduceAdd,Int.reduceSub,Int.reduceMul,Int.reduceNeg,Int.reduceLT,Int.reduceLE,Int.reduceEq,Int.reduceToNat,Int.cast_ofNat_Int,↓reduceIte, *, hs.I, ld_of hv.t.1, ld_of hv.y.1, ld_of hv.r.1]
    all_goals clear hr
    all_goals
      refine Wp.for (n - x0).toNat (fun i a H1 => a 0 = v ∧ a 1 = .p bt 0 ∧ a 2 = .p bY 0 ∧ a 3 = .p br 0 ∧ a 4 = .p bn 0 ∧ a 5 = .p bg 0 ∧ (∃ x, a 9 = .i x ∧ x ≤ x0 + i ∧ x0 + i ≤ x) ∧ ∃ K1, Its E lo y B ArgI Q (rest r n m l (x0 + i)) K1 H1 ∧ Kx (fun b => ¬ K b) H H1 ∧ ∀ b, K1 b → b < H1.length ∧ (b < H.length → K b)) ?_ ?_
      · rintro i a H1 hi ⟨a0, a1, a2, a3, a4, a5, ⟨x, a9, hxa, hxb⟩, K1, hI1, hx1, hK1⟩ ih
        rw [Int.le_antisymm hxb hxa] at hI1
        have hv1 := hv.mono hx1 fun b h q => (hK1 b q).2 h
        have hs1 : Sl (fun b => B ≤ b ∧ ¬ K1 b) H1 v l := (hs.low.mono (hx1.weak fun b _ h => h.1.2).kp fun b h => ⟨h.1.1, fun q => h.1.2 ((hK1 b q).2 h.2)⟩)
        simp (disch := (first | assumption | omega | (simp only [List.length_append, List.length_cons, List.length_nil]; omega))) only [↓wD,wU,Nat.reduceBEq,zx150,zx151,zx159,zx160,zx161,zx162,Nat.reduceAdd,Nat.reduceSub,Nat.reduceMul,Nat.reduceLeDiff,Nat.reduceLT,Nat.reduceEqDiff,Int.reduceAdd,Int.reduceSub,Int.reduceMul,Int.reduceNeg,Int.reduceLT,Int.reduceLE,Int.reduceEq,Int.reduceToNat,Int.cast_ofNat_Int,↓reduceIte, *, ld_of hv1.n.1]
        refine condP_split (fun hlt => ?_) (fun hlt => ?_)
        · have hi' : i < (n - x0).toNat := by omega
          obtain ⟨u, hu1, hu2⟩ := hs1.clip (by omega)
          rw [rest_cons hlt] at hI1
          have hI2 := Its.append hI1
          simp (disch := (first | assumption | omega | (simp only [List.length_append, List.length_cons, List.length_nil]; omega))) only [↓wD,wU,Nat.reduceBEq,zx150,zx151,zx159,zx160,zx161,zx162,Nat.reduceAdd,Nat.reduceSub,Nat.reduceMul,Nat.reduceLeDiff,Nat.reduceLT,Nat.reduceEqDiff,Int.reduceAdd,Int.reduceSub,Int.reduceMul,Int.reduceNeg,Int.reduceLT,Int.reduceLE,Int.reduceEq,Int.reduceToNat,Int.cast_ofNat_Int,↓reduceIte, *]
          refine lpI (wpC ?_)
          simp (disch := (first | assumption | omega | (simp only [List.length_append, List.length_cons, List.length_nil]; omega))) only [↓wD,wU,Nat.reduceBEq,zx150,zx151,zx159,zx160,zx161,zx162,Nat.reduceAdd,Nat.reduceSub,Nat.reduceMul,Nat.reduceLeDiff,Nat.reduceLT,Nat.reduceEqDiff,Int.reduceAdd,Int.reduceSub,Int.reduceMul,Int.reduceNeg,Int.reduceLT,Int.reduceLE,Int.reduceEq,Int.reduceToNat,Int.cast_ofNat_Int,↓reduceIte, *, hs1.I, ld_of hv1.g.1, hu1 _ (.inl rfl), hu2 lo H1.length _ rfl]
          have e1 : (l ++ [x]).length = l.length + 1 := by simp
          have hv2 : Vars K1 (H1 ++ [Blk.cells [AV.i x], Blk.cells (List.map AV.i (l ++ [x]))]) y r n t bt bY br bn bg := hv1.mono (Kx.app _ _ _) fun _ _ h => h
          have hs2 : Sl (fun b => B ≤ b ∧ ¬ K1 b) (H1 ++ [Blk.cells [AV.i x], Blk.cells (List.map AV.i (l ++ [x]))]) (.s 1 (H1.length + 1) 0 (l.length + 1) none) (l ++ [x]) := by
            have hh1 := hx1.1
            have := Sl.litI (p := fun b => B ≤ b ∧ ¬ K1 b) (H := H1 ++ [Blk.cells [AV.i x], Blk.cells (List.map AV.i (l ++ [x]))]) (b := H1.length + 1) (c := none) (xs := l ++ [x]) (by simp) ⟨by omega, fun q => by have := (hK1 _ q).1; omega⟩ (by rw [e1]; omega)
            rwa [e1] at this
          refine callvI (WpV.fn (us := []) (vs := [_]) ((ihm (l ++ [x]) _ K1 _ _ (by rw [e1]; omega) ?_ hv2 hs2 (fun b q => by have := (hK1 b q).1; simp; omega) (by have := hx1.1; simp; omega) (hI2.keep (Kx.app _ _ _))).mono ?_))
          · intro z hz
            rcases List.mem_append.1 hz with hz | hz
            · exact hb z hz
            · simp at hz; subst hz; omega
          · rintro u' H' ⟨ok, K', rfl, hq, hx3, hK3⟩
            simp (disch := (first | assumption | omega | (simp only [List.length_append, List.length_cons, List.length_nil]; omega))) only [↓wD,wU,Nat.reduceBEq,zx150,zx151,zx159,zx160,zx161,zx162,Nat.reduceAdd,Nat.reduceSub,Nat.reduceMul,Nat.reduceLeDiff,Nat.reduceLT,Nat.reduceEqDiff,Int.reduceAdd,Int.reduceSub,Int.reduceMul,Int.reduceNeg,Int.reduceLT,Int.reduceLE,Int.reduceEq,Int.reduceToNat,Int.cast_ofNat_Int,↓reduceIte, *]
            refine chkI ?_ ?_
            · have q1 : (H1 ++ [Blk.cells [AV.i x]])[bg]? = _ := (Kx.app (fun _ => True) _ _).get trivial hv1.g.1
              have q2 : (H1 ++ [Blk.cells [AV.i x], Blk.cells (List.map AV.i l ++ [AV.i x])])[bg]? = _ := (Kx.app (fun _ => True) _ _).get trivial hv1.g.1
              simp [chk1, ev, Fr.upd, a5, ld_of q1, ld_of q2, sameO, AV.same_refl]
            · have hx2 : Kx (fun b => ¬ K b) H H' := by
                refine (hx1.app' [Blk.cells [AV.i x], Blk.cells (List.map AV.i (l ++ [x]))]).trans hx3 fun b hb h => ⟨fun q => h ((hK1 b q).2 hb), ?_⟩
                have hh1 := hx1.1
                intro e
                simp only [AV.blk, Option.some.injEq] at e
                omega
              have hK2 : ∀ b, K' b → b < H'.length ∧ (b < H.length → K b) := fun b q => ⟨(hK3 b q).1, fun hb => by
                have hh1 := hx1.1
                rcases (hK3 b q).2 (by simp only [List.length_append]; omega) with h | h
                · exact (hK1 b h).2 hb
                · simp only [AV.blk, Option.some.injEq] at h; omega⟩
              cases ok with
              | true =>
                simp (disch := (first | assumption | omega | (simp only [List.length_append, List.length_cons, List.length_nil]; omega))) only [↓wD,wU,Nat.reduceBEq,zx150,zx151,zx159,zx160,zx161,zx162,Nat.reduceAdd,Nat.reduceSub,Nat.reduceMul,Nat.reduceLeDiff,Nat.reduceLT,Nat.reduceEqDiff,Int.reduceAdd,Int.reduceSub,Int.reduceMul,Int.reduceNeg,Int.reduceLT,Int.reduceLE,Int.reduceEq,Int.reduceToNat,Int.cast_ofNat_Int,↓reduceIte, *]
                refine (ih hi').go ?_
                simp (disch := (first | assumption | omega | (simp only [List.length_append, List.length_cons, List.length_nil]; omega))) only [↓wD,wU,Nat.reduceBEq,zx150,zx151,zx159,zx160,zx161,zx162,Nat.reduceAdd,Nat.reduceSub,Nat.reduceMul,Nat.reduceLeDiff,Nat.reduceLT,Nat.reduceEqDiff,Int.reduceAdd,Int.reduceSub,Int.reduceMul,Int.reduceNeg,Int.reduceLT,Int.reduceLE,Int.reduceEq,Int.reduceToNat,Int.cast_ofNat_Int,↓reduceIte, *]
                exact ⟨⟨x + 1, rfl, by omega, by omega⟩, K', by rw [show x0 + ((i : Int) + 1) = x + 1 by omega]; exact hq.1 rfl, hK2⟩
              | false =>
                simp (disch := (first | assumption | omega | (simp only [List.length_append, List.length_cons, List.length_nil]; omega))) only [↓wD,wU,Nat.reduceBEq,zx150,zx151,zx159,zx160,zx161,zx162,Nat.reduceAdd,Nat.reduceSub,Nat.reduceMul,Nat.reduceLeDiff,Nat.reduceLT,Nat.reduceEqDiff,Int.reduceAdd,Int.reduceSub,Int.reduceMul,Int.reduceNeg,Int.reduceLT,Int.reduceLE,Int.reduceEq,Int.reduceToNat,Int.cast_ofNat_Int,↓reduceIte, *]
                exact ⟨false, K', rfl, hq.2 rfl, hx2.weak fun _ _ h => h.1, fun b q => ⟨(hK2 b q).1, fun hb => .inl ((hK2 b q).2 hb)⟩⟩
        · simp (disch := (first | assumption | omega | (simp only [List.length_append, List.length_cons, List.length_nil]; omega))) only [↓wD,wU,Nat.reduceBEq,zx150,zx151,zx159,zx160,zx161,zx162,Nat.reduceAdd,Nat.reduceSub,Nat.reduceMul,Nat.reduceLeDiff,Nat.reduceLT,Nat.reduceEqDiff,Int.reduceAdd,Int.reduceSub,Int.reduceMul,Int.reduceNeg,Int.reduceLT,Int.reduceLE,Int.reduceEq,Int.reduceToNat,Int.cast_ofNat_Int,↓reduceIte, *]
          rw [rest_nil (by omega)] at hI1
          exact ⟨true, K1, rfl, Its.none hI1, hx1.weak fun _ _ h => h.1, fun b q => ⟨(hK1 b q).1, fun hb => .inl ((hK1 b q).2 hb)⟩⟩
      · simp (disch := (first | assumption | omega | (simp only [List.length_append, List.length_cons, List.length_nil]; omega))) only [↓wD,wU,Nat.reduceBEq,zx150,zx151,zx159,zx160,zx161,zx162,Nat.reduceAdd,Nat.reduceSub,Nat.reduceMul,Nat.reduceLeDiff,Nat.reduceLT,Nat.reduceEqDiff,Int.reduceAdd,Int.reduceSub,Int.reduceMul,Int.reduceNeg,Int.reduceLT,Int.reduceLE,Int.reduceEq,Int.reduceToNat,Int.cast_ofNat_Int,↓reduceIte, *]
        rw [show x0 + 0 = x0 by omega]
        exact ⟨⟨_, rfl, by omega, by omega⟩, K, hI, Kx.refl _ _, fun b q => ⟨hK b q, fun _ => q⟩⟩
theorem tuples_it {lo : Nat} {y : AV} {r : Bool} {n : Int} {t : Nat} {bt br bn : Nat} {K : Nat → Prop} {H : Heap} {Q : Bool → (Nat → Prop) → Heap → Prop} (hlo : lo ≤ H.length) (ht : t ≤ 1000000) (hn : n ≤ 1000000) (hy : y.cells = [y] ∧ y.one = true)
    (h1 : H[bt]? = some (.cells [.i t]) ∧ ¬ K bt) (h2 : H[br]? = some (.cells [.b r]) ∧ ¬ K br) (h3 : H[bn]? = some (.cells [.i n]) ∧ ¬ K bn) (hK : ∀ b, K b → b < H.length)
    (hI : Its E lo y H.length ArgI Q (sufs r n t 0) K H) : WpF E lo 96 [y, .p bt 0, .p br 0, .p bn 0] H fun _ H' => ∃ ok K', Q ok K' H' := by
  refine WpF.wrt rfl fn96 rfl ?_
  unfold f96A
  simp (disch := (first | assumption | omega | (simp only [List.length_append, List.length_cons, List.length_nil]; omega))) only [↓wD,wU,Nat.reduceBEq,zx150,zx151,zx159,zx160,zx161,zx162,Nat.reduceAdd,Nat.reduceSub,Nat.reduceMul,Nat.reduceLeDiff,Nat.reduceLT,Nat.reduceEqDiff,Int.reduceAdd,Int.reduceSub,Int.reduceMul,Int.reduceNeg,Int.reduceLT,Int.reduceLE,Int.reduceEq,Int.reduceToNat,Int.cast_ofNat_Int,↓reduceIte, *]
  have hx : Kx (fun _ => True) H (H ++ [Blk.cells [y]] ++ [Blk.cells [AV.fn 97 [] [AV.p bt 0, AV.p (List.length H) 0, AV.p br 0, AV.p bn 0, AV.p (List.length H + 1) 0]]]) := (Kx.app _ _ _).app' _
  have hv : Vars K _ y r n t bt H.length br bn (H.length + 1) := ⟨⟨hx.get trivial h1.1, h1.2⟩, ⟨by simp, fun q => by have := hK _ q; omega⟩, ⟨hx.get trivial h2.1, h2.2⟩, ⟨hx.get trivial h3.1, h3.2⟩, ⟨by simp, fun q => by have := hK _ q; omega⟩⟩
  refine callvI (WpV.fn (us := []) (vs := [_]) ((grow_ok hlo ht hn t [] .nils K _ Q (by simp) nofun hv Sl.nil (fun b q => by have := hK b q; simp; omega) (by simp) ?_).mono ?_))
  · have e : (sufs r n t (frm r [])).map ([] ++ ·) = sufs r n t 0 := by
      rw [show frm r [] = 0 by simp [frm]]
      simp
    rw [e]
    exact hI.keep (hx.weak fun _ _ _ => trivial)
  · rintro u H' ⟨ok, K', rfl, hq, _⟩
    simp (disch := (first | assumption | omega | (simp only [List.length_append, List.length_cons, List.length_nil]; omega))) only [↓wD,wU,Nat.reduceBEq,zx150,zx151,zx159,zx160,zx161,zx162,Nat.reduceAdd,Nat.reduceSub,Nat.reduceMul,Nat.reduceLeDiff,Nat.reduceLT,Nat.reduceEqDiff,Int.reduceAdd,Int.reduceSub,Int.reduceMul,Int.reduceNeg,Int.reduceLT,Int.reduceLE,Int.reduceEq,Int.reduceToNat,Int.cast_ofNat_Int,↓reduceIte, *]
    exact ⟨ok, K', hq⟩
/-- what tuples returns -/
structure Tup where
  r : Bool
  n : Int
  t : Int
instance : RV Tup where
  rv p H v x := ∃ bt br bn, v = .fn 96 [] [.p bt 0, .p br 0, .p bn 0] ∧ (p bt ∧ p br ∧ p bn) ∧ H[bt]? = some (.cells [.i x.t]) ∧ H[br]? = some (.cells [.b x.r]) ∧ H[bn]? = some (.cells [.i x.n])
  mono := by
    rintro p q H H' v x ⟨bt, br, bn, rfl, hp, h1, h2, h3⟩ hk hq
    exact ⟨bt, br, bn, rfl, ⟨hq _ hp.1, hq _ hp.2.1, hq _ hp.2.2⟩, hk.2 _ _ hp.1 h1, hk.2 _ _ hp.2.1 h2, hk.2 _ _ hp.2.2 h3⟩
  pure := by
    rintro p q H H' v x ⟨bt, br, bn, rfl, _⟩ hp
    simp [AV.pure, AV.pureAll] at hp
theorem tuples_ret {H : Heap} {t n : Int} {r : Bool} : Ret E 72 [.i t, .i n, .b r] (fun _ => False) H (Tup.mk r n t) := by
  refine Ret.ro rfl fn72 rfl ?_
  unfold f72A
  simp (disch := (first | assumption | omega | (simp only [List.length_append, List.length_cons, List.length_nil]; omega))) only [↓wD,wU,Nat.reduceBEq,zx150,zx151,zx159,zx160,zx161,zx162,Nat.reduceAdd,Nat.reduceSub,Nat.reduceMul,Nat.reduceLeDiff,Nat.reduceLT,Nat.reduceEqDiff,Int.reduceAdd,Int.reduceSub,Int.reduceMul,Int.reduceNeg,Int.reduceLT,Int.reduceLE,Int.reduceEq,Int.reduceToNat,Int.cast_ofNat_Int,↓reduceIte, *]
  refine ⟨_, _, _, rfl, ?_, ?_⟩
  · simp; omega
  · refine ⟨by simp, ?_, by simp⟩
    rw [List.getElem?_append_right (by simp)]
    simp
end Go.Proofs.Ytalaadcbpjnglaa
namespace Go.Proofs.Ytalaadcbpjnglaa
open Go Go.AM Go.Proofs
/-- an item of all: a place, and how often it comes -/
def ArgA (Ki : Nat → Prop) (H : Heap) (args : List AV) (x : List Int × Nat) : Prop := ∃ u, args = [u, .i x.2] ∧ Sl Ki H u x.1
def allC (v : Int) (t : List (List Int)) (k : Nat) (cs : List Int) : List (List Int × Nat) := (sufs false v k 0).map fun ks => (cs ++ ks, oft t cs ks)
def allL (v : Int) (t : List (List Int)) (k : Nat) : List (List Int × Nat) := (sufs true (wd t) k 0).flatMap (allC v t k)
theorem rng_mem {x n y : Int} (h : y ∈ rng x n) : x ≤ y ∧ y < n := by
  simp only [rng, List.mem_map, List.mem_range] at h
  obtain ⟨i, hi, rfl⟩ := h
  omega
theorem sufs_len {r : Bool} {n : Int} : ∀ {t : Nat} {x : Int} {s : List Int}, s ∈ sufs r n t x → s.length = t
  | 0, x, s, h => by simp [sufs] at h; subst h; rfl
  | t + 1, x, s, h => by
    simp only [sufs, List.mem_flatMap, List.mem_map] at h
    obtain ⟨y, _, z, hz, rfl⟩ := h
    simp [sufs_len hz]
theorem sufs_in {r : Bool} {n : Int} : ∀ {t : Nat} {x : Int} {s : List Int}, 0 ≤ x → s ∈ sufs r n t x → ∀ c ∈ s, 0 ≤ c ∧ c < n
  | 0, x, s, _, h => by simp [sufs] at h; subst h; nofun
  | t + 1, x, s, hx, h => by
    simp only [sufs, List.mem_flatMap, List.mem_map] at h
    obtain ⟨y, hy, z, hz, rfl⟩ := h
    have h1 := rng_mem hy
    intro c hc
    rcases List.mem_cons.1 hc with rfl | hc
    · omega
    · exact sufs_in (by split <;> omega) hz c hc
theorem gset {b : Nat} {H H2 : Heap} {k k' : Blk} (e : H.set b k = H2) (h : H[b]? = some k') : H2[b]? = some k := by rw [← e]; exact get_set h
theorem all_it {lo : Nat} {y rows : AV} {v : Int} {t : List (List Int)} {k bt ba : Nat} {K : Nat → Prop} {H : Heap} {Q : Bool → (Nat → Prop) → Heap → Prop} (hlo : lo ≤ H.length) (hy : y.cells = [y] ∧ y.one = true)
    (h1 : H[bt]? = some (.cells [.i k]) ∧ ¬ K bt) (h2 : H[ba]? = some (.cells [.i v, rows]) ∧ ¬ K ba) (hr : Sl (fun b => ¬ K b) H rows t) (hA : ArrP v t) (hk : k ≤ 3) (hK : ∀ b, K b → b < H.length)
    (hI : Its E lo y H.length ArgA Q (allL v t k) K H) : WpF E lo 102 [y, .p bt 0, .p ba 0] H fun _ H' => ∃ ok K', Q ok K' H' := by
  refine WpF.wrt rfl fn102 rfl ?_
  unfold f102A
  have hwd := hA.wd
  have hv1 := hA.1
  have hv2 := hA.2.1
  have x1 : Kx (fun _ => True) H (H ++ [.cells [y]]) := Kx.app _ _ _
  have hr1 := hr.app [.cells [y]]
  simp (disch := (first | assumption | omega | (simp only [List.length_append, List.length_cons, List.length_nil]; omega))) only [↓wD,wU,Nat.reduceBEq,zx150,zx151,zx159,zx160,zx161,zx162,Nat.reduceAdd,Nat.reduceSub,Nat.reduceMul,Nat.reduceLeDiff,Nat.reduceLT,Nat.reduceEqDiff,Int.reduceAdd,Int.reduceSub,Int.reduceMul,Int.reduceNeg,Int.reduceLT,Int.reduceLE,Int.reduceEq,Int.reduceToNat,Int.cast_ofNat_Int,↓reduceIte, *, ld_of (x1.get trivial h1.1), ldn_of (x1.get trivial h2.1), (columns_ret hr1 hA.2.2.1).call]
  refine (tuples_ret).toX fun w Hr hg hw => ?_
  obtain ⟨b1, b2, b3, rfl, hp, c1, c2, c3⟩ := hw
  have hp1 : H.length < b1 := by have := hp.1; simp at this; omega
  have hp2 : H.length < b2 := by have := hp.2.1; simp at this; omega
  have hp3 : H.length < b3 := by have := hp.2.2; simp at this; omega
  clear hp
  have x2 : Kx (fun _ => True) H Hr := x1.trans hg fun _ _ _ => trivial
  have d1 := x2.get trivial h1.1
  have d2 := x2.get trivial h2.1
  have d3 : Hr[H.length]? = some (.cells [y]) := hg.get trivial (by simp)
  have hHr : H.length < Hr.length := (List.getElem?_eq_some_iff.1 d3).1
  have hr2 : Sl (fun b => b < H.length ∧ ¬ K b) Hr rows t := (hr.low.weak fun b h => ⟨h.2, h.1⟩).kp x2.kp.weakT
  clear hg hr1 x1
  simp (disch := (first | assumption | omega | (simp only [List.length_append, List.length_cons, List.length_nil]; omega))) only [↓wD,wU,Nat.reduceBEq,zx150,zx151,zx159,zx160,zx161,zx162,Nat.reduceAdd,Nat.reduceSub,Nat.reduceMul,Nat.reduceLeDiff,Nat.reduceLT,Nat.reduceEqDiff,Int.reduceAdd,Int.reduceSub,Int.reduceMul,Int.reduceNeg,Int.reduceLT,Int.reduceLE,Int.reduceEq,Int.reduceToNat,Int.cast_ofNat_Int,↓reduceIte, *]
  refine Wp.range (A := ArgI) (sufs true (wd t) k 0) K (fun i K1 H1 => ∃ Kc, Its E lo y H.length ArgA Q (((sufs true (wd t) k 0).drop i).flatMap (allC v t k)) Kc H1 ∧ ∀ b, Kc b → K1 b ∧ (b < Hr.length → K b))
    (fun j K1 H1 => j = .ret ∧ ∃ Kc, (∀ b, Kc b → K1 b) ∧ ∀ H3, Kx (fun b => b < H.length ∨ Kc b) H1 H3 → Q false Kc H3) (by (simp (disch := (first | assumption | omega | (simp only [List.length_append, List.length_cons, List.length_nil]; omega))) only [↓wD,wU,Nat.reduceBEq,zx150,zx151,zx159,zx160,zx161,zx162,Nat.reduceAdd,Nat.reduceSub,Nat.reduceMul,Nat.reduceLeDiff,Nat.reduceLT,Nat.reduceEqDiff,Int.reduceAdd,Int.reduceSub,Int.reduceMul,Int.reduceNeg,Int.reduceLT,Int.reduceLE,Int.reduceEq,Int.reduceToNat,Int.cast_ofNat_Int,↓reduceIte, *]) <;> rfl) rfl (by omega) (fun b h => by have := hK b h; omega) (by rintro _ _ _ _ ⟨u, rfl, _⟩; rfl) ?_ ?_ ?_ ?_ ?_ ?_ ?_
  · intro K' H1 Q' e hx hK' hI
    rw [← e] at hI
    have hne : ∀ b, H.length < b → b < Hr.length → ¬ K' b := fun b q1 q2 h => by
      rcases (hK' b).1 h with h | h
      · have := hK b h; omega
      · omega
    exact tuples_it (t := k) (n := (wd t : Int)) (by omega) (by omega) (by omega) ⟨rfl, rfl⟩ ⟨hx.get trivial c1, hne _ hp1 (List.getElem?_eq_some_iff.1 c1).1⟩ ⟨hx.get trivial c2, hne _ hp2 (List.getElem?_eq_some_iff.1 c2).1⟩ ⟨hx.get trivial c3, hne _ hp3 (List.getElem?_eq_some_iff.1 c3).1⟩ (fun b h => by
      rcases (hK' b).1 h with h | h
      · have := hK b h; omega
      · omega) hI
  · rintro i K1 H1 H2 ⟨Kc, q1, q2⟩ hx
    exact ⟨Kc, q1.keep (hx.weak fun b _ h => h.elim (fun h => .inl (by omega)) fun h => .inr (q2 b h).1), q2⟩
  · rintro j K1 H1 H2 ⟨rfl, Kc, q0, q1⟩ hx
    exact ⟨rfl, Kc, q0, fun H3 h3 => q1 H3 ((hx.weak fun b _ h => h.elim (fun h => .inl (by omega)) fun h => .inr (q0 b h)).trans h3 fun _ _ h => h)⟩
  · exact ⟨K, hI.keep (x2.all _), fun b h => ⟨h, fun _ => h⟩⟩
  · rintro i hi K1 Ki args H1 ⟨Kc, q1, q2⟩ ⟨cu, rfl, hcu⟩ hKi hK1 hx hl hl1 _
    rw [List.drop_eq_getElem_cons hi, List.flatMap_cons] at q1
    have q1' := Its.append q1
    clear q1
    have hcl := sufs_len (List.getElem_mem hi)
    have hcb := sufs_in (Int.le_refl 0) (List.getElem_mem hi)
    obtain ⟨cs, ecs⟩ : ∃ cs, (sufs true (wd t) k 0)[i] = cs := ⟨_, rfl⟩
    rw [ecs] at hcl hcb q1' hcu
    have f1 := hx.get ⟨(List.getElem?_eq_some_iff.1 d1).1, h1.2⟩ d1
    have f2 := hx.get ⟨(List.getElem?_eq_some_iff.1 d2).1, h2.2⟩ d2
    have f3 := hx.get ⟨hHr, fun q => by have := hK _ q; omega⟩ d3
    have e1 : (H1 ++ [Blk.cells [cu]])[Hr.length]? = _ := (Kx.app (fun _ => True) _ _).get trivial hl1
    simp (disch := (first | assumption | omega | (simp only [List.length_append, List.length_cons, List.length_nil]; omega))) only [↓wD,wU,Nat.reduceBEq,zx150,zx151,zx159,zx160,zx161,zx162,Nat.reduceAdd,Nat.reduceSub,Nat.reduceMul,Nat.reduceLeDiff,Nat.reduceLT,Nat.reduceEqDiff,Int.reduceAdd,Int.reduceSub,Int.reduceMul,Int.reduceNeg,Int.reduceLT,Int.reduceLE,Int.reduceEq,Int.reduceToNat,Int.cast_ofNat_Int,↓reduceIte, *, zx189, zx190, hcu.cellsV, zx188 (lo := lo) e1 (by omega)]
    generalize eH2 : (H1 ++ [Blk.cells [cu]]).set Hr.length _ = H2
    have x12 : Kx (fun b => b ≠ Hr.length) H1 H2 := by rw [← eH2]; exact Kx.set' (Kx.app _ _ _) (fun _ h => h rfl) _
    have n12 : H2.length = H1.length + 1 := by rw [← eH2]; simp
    have gl := gset eH2 e1
    have g4 : H2[H1.length]? = some (.cells [cu]) := by rw [← eH2, List.getElem?_set_ne (by omega)]; simp
    have lt1 := (List.getElem?_eq_some_iff.1 d1).1
    have ltb := (List.getElem?_eq_some_iff.1 h1.1).1
    have lta := (List.getElem?_eq_some_iff.1 h2.1).1
    have g1 := x12.get (by omega) f1
    have g2 := x12.get (by omega) f2
    have g3 := x12.get (by omega) f3
    clear eH2 e1
    simp (disch := (first | assumption | omega | (simp only [List.length_append, List.length_cons, List.length_nil]; omega))) only [↓wD,wU,Nat.reduceBEq,zx150,zx151,zx159,zx160,zx161,zx162,Nat.reduceAdd,Nat.reduceSub,Nat.reduceMul,Nat.reduceLeDiff,Nat.reduceLT,Nat.reduceEqDiff,Int.reduceAdd,Int.reduceSub,Int.reduceMul,Int.reduceNeg,Int.reduceLT,Int.reduceLE,Int.reduceEq,Int.reduceToNat,Int.cast_ofNat_Int,↓reduceIte, *, ld_of g1, ld_of g2]
    refine (tuples_ret).toX fun w3 H3 x23 hw => ?_
    obtain ⟨k1, k2, k3, rfl, hp, m1, m2, m3⟩ := hw
    have hp1 : H1.length < k1 := by have := hp.1; simp at this; omega
    have hp2 : H1.length < k2 := by have := hp.2.1; simp at this; omega
    have hp3 : H1.length < k3 := by have := hp.2.2; simp at this; omega
    clear hp
    have x13 : Kx (fun b => b ≠ Hr.length) H1 H3 := x12.trans x23 fun _ _ _ => trivial
    have gl3 := x23.get trivial gl
    have hl3 := x23.1
    have q2' : ∀ b, Kc b → b < H1.length ∧ b ≠ Hr.length ∧ (b < Hr.length → K b) ∧ ¬ Ki b := fun b h => ⟨(hK1 b (q2 b h).1).1, (hK1 b (q2 b h).1).2, (q2 b h).2, fun q => (hKi b q).2.2 (q2 b h).1⟩
    have hcu3 : Sl (fun b => b < H1.length ∧ Ki b) H3 cu cs := (hcu.low.weak fun b h => ⟨h.2, h.1⟩).kp (x13.weak fun b _ h => by have := (hKi b h.2).1; omega).kp
    have hr3 : Sl (fun b => b < H.length ∧ ¬ K b) H3 rows t := (hr2.kp (hx.weak fun b _ h => ⟨by omega, h.2⟩).kp).kp (x13.weak fun b _ h => by omega).kp
    have s1 := x23.get trivial g1
    have s2 := x23.get trivial g2
    have s3 := x23.get trivial g3
    have s4 := x23.get trivial g4
    simp (disch := (first | assumption | omega | (simp only [List.length_append, List.length_cons, List.length_nil]; omega))) only [↓wD,wU,Nat.reduceBEq,zx150,zx151,zx159,zx160,zx161,zx162,Nat.reduceAdd,Nat.reduceSub,Nat.reduceMul,Nat.reduceLeDiff,Nat.reduceLT,Nat.reduceEqDiff,Int.reduceAdd,Int.reduceSub,Int.reduceMul,Int.reduceNeg,Int.reduceLT,Int.reduceLE,Int.reduceEq,Int.reduceToNat,Int.cast_ofNat_Int,↓reduceIte, *]
    refine Wp.range (A := ArgI) (sufs false v k 0) Kc (fun j K2 H4 => ∃ Kc', Its E lo y H.length ArgA (fun ok K' H' => (ok = true → Its E lo y H.length ArgA Q (((sufs true (wd t) k 0).drop (i + 1)).flatMap (allC v t k)) K' H') ∧ (ok = false → Q false K' H')) ((allC v t k cs).drop j) Kc' H4 ∧ ∀ b, Kc' b → K2 b ∧ b < H4.length ∧ (b < H3.length → Kc b))
      (fun j K2 H4 => j = .ret ∧ ∃ Kc', (∀ b, Kc' b → K2 b ∧ b < H4.length ∧ (b < H3.length → Kc b)) ∧ ∀ H5, Kx (fun b => b < H.length ∨ Kc' b) H4 H5 → Q false Kc' H5) (by (simp (disch := (first | assumption | omega | (simp only [List.length_append, List.length_cons, List.length_nil]; omega))) only [↓wD,wU,Nat.reduceBEq,zx150,zx151,zx159,zx160,zx161,zx162,Nat.reduceAdd,Nat.reduceSub,Nat.reduceMul,Nat.reduceLeDiff,Nat.reduceLT,Nat.reduceEqDiff,Int.reduceAdd,Int.reduceSub,Int.reduceMul,Int.reduceNeg,Int.reduceLT,Int.reduceLE,Int.reduceEq,Int.reduceToNat,Int.cast_ofNat_Int,↓reduceIte, *]) <;> rfl) (mayL gl3 (by omega)) (by omega) (fun b h => by have := (q2' b h).1; omega) (by rintro _ _ _ _ ⟨u, rfl, _⟩; rfl) ?_ ?_ ?_ ?_ ?_ ?_ ?_
    · intro K' H4 Q' e hx' hK' hI
      rw [← e] at hI
      have hne : ∀ b, H1.length < b → b < H3.length → ¬ K' b := fun b q1 q2 h => by
        rcases (hK' b).1 h with h | h
        · have := (q2' b h).1; omega
        · omega
      exact tuples_it (t := k) (n := v) (by omega) (by omega) (by omega) ⟨rfl, rfl⟩ ⟨hx'.get trivial m1, hne _ hp1 (List.getElem?_eq_some_iff.1 m1).1⟩ ⟨hx'.get trivial m2, hne _ hp2 (List.getElem?_eq_some_iff.1 m2).1⟩ ⟨hx'.get trivial m3, hne _ hp3 (List.getElem?_eq_some_iff.1 m3).1⟩ (fun b h => by
        rcases (hK' b).1 h with h | h
        · have := (q2' b h).1; omega
        · omega) hI
    · rintro j K2 H4 H5 ⟨Kc', q1, q2⟩ hx
      exact ⟨Kc', q1.keep (hx.weak fun b _ h => h.elim (fun h => .inl (by omega)) fun h => .inr (q2 b h).1), fun b h => ⟨(q2 b h).1, by have := (q2 b h).2.1; have := hx.1; omega, (q2 b h).2.2⟩⟩
    · rintro j K2 H4 H5 ⟨rfl, Kc', q0, q1⟩ hx
      exact ⟨rfl, Kc', fun b h => ⟨(q0 b h).1, by have := (q0 b h).2.1; have := hx.1; omega, (q0 b h).2.2⟩, fun H6 h6 => q1 H6 ((hx.weak fun b _ h => h.elim (fun h => .inl (by omega)) fun h => .inr (q0 b h).1).trans h6 fun _ _ h => h)⟩
    · exact ⟨Kc, by rw [List.drop_zero]; exact q1'.keep (x13.weak fun b _ h => h.elim (fun h => by omega) fun h => (q2' b h).2.1), fun b h => ⟨h, by have := (q2' b h).1; omega, fun _ => h⟩⟩
    · rintro j hj K2 Ki2 args2 H4 ⟨Kc', q3, q4⟩ ⟨ku, rfl, hku⟩ hKi2 hK2 hx4 hl4 hl41 _
      have hj' : j < (allC v t k cs).length := by unfold allC; rw [List.length_map]; exact hj
      rw [List.drop_eq_getElem_cons hj'] at q3
      have hjl := sufs_len (List.getElem_mem hj)
      have ea : (allC v t k cs)[j] = (cs ++ (sufs false v k 0)[j], oft t cs (sufs false v k 0)[j]) := by simp [allC]
      rw [ea] at q3
      clear ea
      obtain ⟨ks, eks⟩ : ∃ ks, (sufs false v k 0)[j] = ks := ⟨_, rfl⟩
      rw [eks] at q3 hku hjl
      have u2 := hx4.get ⟨(List.getElem?_eq_some_iff.1 s2).1, fun q => h2.2 ((q2' _ q).2.2.1 (by omega))⟩ s2
      have u3 := hx4.get ⟨(List.getElem?_eq_some_iff.1 s3).1, fun q => by have := hK _ ((q2' _ q).2.2.1 hHr); omega⟩ s3
      have u4 := hx4.get ⟨(List.getElem?_eq_some_iff.1 s4).1, fun q => by have := (q2' _ q).1; omega⟩ s4
      have hcu4 := hcu3.kp (hx4.weak fun b _ h => ⟨by omega, fun q => (q2' _ q).2.2.2 h.2⟩).kp
      have hr4 := hr3.kp (hx4.weak fun b _ h => ⟨by omega, fun q => h.2 ((q2' _ q).2.2.1 (by omega))⟩).kp
      simp (disch := (first | assumption | omega | (simp only [List.length_append, List.length_cons, List.length_nil]; omega))) only [↓wD,wU,Nat.reduceBEq,zx150,zx151,zx159,zx160,zx161,zx162,Nat.reduceAdd,Nat.reduceSub,Nat.reduceMul,Nat.reduceLeDiff,Nat.reduceLT,Nat.reduceEqDiff,Int.reduceAdd,Int.reduceSub,Int.reduceMul,Int.reduceNeg,Int.reduceLT,Int.reduceLE,Int.reduceEq,Int.reduceToNat,Int.cast_ofNat_Int,↓reduceIte, *, zx188 (lo := lo) hl41 (by omega)]
      generalize e5 : H4.set H3.length _ = H5
      have x45 : Kx (fun b => b ≠ H3.length) H4 H5 := by rw [← e5]; exact Kx.set _ _ _
      have n45 : H5.length ≤ H4.length ∧ H4.length ≤ H5.length := by rw [← e5]; simp
      have gl5 := gset e5 hl41
      have w2 := x45.get (by omega) u2
      have w3 := x45.get (by omega) u3
      have w4 := x45.get (by omega) u4
      have hcu5 := hcu4.kp (x45.weak fun b _ h => by omega).kp
      have hku5 : Sl (fun b => b < H4.length ∧ Ki2 b) H5 ku ks := (hku.low.weak fun b h => ⟨h.2, h.1⟩).kp (x45.weak fun b _ h => by have := (hKi2 b h.2).1; omega).kp
      have hr5 := hr4.kp (x45.weak fun b _ h => by omega).kp
      clear e5
      simp (disch := (first | assumption | omega | (simp only [List.length_append, List.length_cons, List.length_nil]; omega))) only [↓wD,wU,Nat.reduceBEq,zx150,zx151,zx159,zx160,zx161,zx162,Nat.reduceAdd,Nat.reduceSub,Nat.reduceMul,Nat.reduceLeDiff,Nat.reduceLT,Nat.reduceEqDiff,Int.reduceAdd,Int.reduceSub,Int.reduceMul,Int.reduceNeg,Int.reduceLT,Int.reduceLE,Int.reduceEq,Int.reduceToNat,Int.cast_ofNat_Int,↓reduceIte, *, ld_of w2, ld_of w3, ld_of w4, hcu.cellsV, hku.cellsV]
      have hlit : Sl (fun _ => True) (H5 ++ [Blk.cells [cu, ku]]) (.s 1 H5.length 0 2 (some 2)) [cs, ks] := by
        refine Sl.litL (us := [cu, ku]) (xs := [cs, ks]) (b := H5.length) get_last trivial (show 2 ≤ 9223372036854775807 by omega) rfl fun i h1 h2 => ?_
        match i, h1, h2 with
        | 0, _, _ => exact (hcu5.app _).weak fun _ _ => trivial
        | 1, _, _ => exact (hku5.app _).weak fun _ _ => trivial
        | n + 2, h1, _ => exact absurd h1 (by simp)
      refine (concat_ret hlit (by simp [lsum]; omega)).toFX fun u H6 x56 hu => ?_
      have x56' : Kx (fun _ => True) H5 H6 := (Kx.app _ _ _).trans x56 fun _ _ _ => trivial
      have l56 : H5.length + 1 ≤ H6.length := by have := x56.1; simpa using this
      have v2 := x56'.get trivial w2
      have v3 := x56'.get trivial w3
      have v4 := x56'.get trivial w4
      have hcu6 := hcu5.kp (x56'.all _).kp
      have hku6 := hku5.kp (x56'.all _).kp
      have hr6 := hr5.kp (x56'.all _).kp
      have hu6 : Sl (fun b => H5.length + 1 ≤ b ∧ b < H6.length) H6 u (cs ++ ks) := by
        have := hu.low
        simp only [List.flatten_cons, List.flatten_nil, List.append_nil] at this
        exact this.weak fun b h => ⟨by have := h.1; simpa using this, h.2⟩
      have hof := often_ret (v := v) hr6 hcu6 hku6 (by omega) fun c hc => ⟨(hcb c hc).1, fun r hr => by rw [(hA.row hr).1]; exact (hcb c hc).2⟩
      simp (disch := (first | assumption | omega | (simp only [List.length_append, List.length_cons, List.length_nil]; omega))) only [↓wD,wU,Nat.reduceBEq,zx150,zx151,zx159,zx160,zx161,zx162,Nat.reduceAdd,Nat.reduceSub,Nat.reduceMul,Nat.reduceLeDiff,Nat.reduceLT,Nat.reduceEqDiff,Int.reduceAdd,Int.reduceSub,Int.reduceMul,Int.reduceNeg,Int.reduceLT,Int.reduceLE,Int.reduceEq,Int.reduceToNat,Int.cast_ofNat_Int,↓reduceIte, *, ld_of v2, ldn_of v2, ld_of v3, ld_of v4, hof.call]
      have hq4 : ∀ b, Kc' b → K2 b ∧ b < H4.length ∧ (b < H3.length → Kc b) := q4
      refine callvI ((q3 H6 (fun b => H5.length + 1 ≤ b ∧ b < H6.length) [u, .i (oft t cs ks)] ?_ ⟨u, rfl, hu6⟩ ?_).mono ?_)
      · exact x45.trans (x56'.all _) (fun _ _ _ => trivial) |>.weak fun b _ h => h.elim (fun h => by omega) fun h => (hK2 b (q4 b h).1).2
      · exact fun b h => ⟨by omega, h.2, fun q => by have := (q4 b q).2.1; omega⟩
      · rintro r H7 ⟨x67, hc⟩
        have x47 : Kx (fun b => ¬ (K2 b ∨ Ki2 b) ∧ b ≠ H3.length) H4 H7 := ((x45.trans (x56'.all _) fun _ _ _ => trivial).weak fun b _ h => h.2).trans x67 fun b hb h => fun q => q.elim (fun q => h.1 (.inl (q4 b q).1)) fun q => by omega
        have gl7 := x67.get (b := H3.length) (fun q => q.elim (fun q => (hK2 _ (q4 _ q).1).2 rfl) fun q => by omega) (x56'.get trivial gl5)
        have l67 := x67.1
        have hkn : ∀ b, Kn Kc' (fun b => H5.length + 1 ≤ b ∧ b < H6.length) H6 H7 b → Kn K2 Ki2 H4 H7 b ∧ b < H7.length ∧ (b < H3.length → Kc b) := by
          rintro b (h | h | h)
          · exact ⟨.inl (q4 b h).1, by have := (q4 b h).2.1; omega, (q4 b h).2.2⟩
          · exact ⟨.inr (.inr ⟨by omega, by omega⟩), by omega, fun q => by omega⟩
          · exact ⟨.inr (.inr ⟨by omega, by omega⟩), by omega, fun q => by omega⟩
        rcases hc with ⟨rfl, hc⟩ | ⟨rfl, hc⟩
        · simp (disch := (first | assumption | omega | (simp only [List.length_append, List.length_cons, List.length_nil]; omega))) only [↓wD,wU,Nat.reduceBEq,zx150,zx151,zx159,zx160,zx161,zx162,Nat.reduceAdd,Nat.reduceSub,Nat.reduceMul,Nat.reduceLeDiff,Nat.reduceLT,Nat.reduceEqDiff,Int.reduceAdd,Int.reduceSub,Int.reduceMul,Int.reduceNeg,Int.reduceLT,Int.reduceLE,Int.reduceEq,Int.reduceToNat,Int.cast_ofNat_Int,↓reduceIte, *]
          first | exact ⟨_, hc, hkn⟩ | exact ⟨gl7, x47, _, hc, hkn⟩
        · simp (disch := (first | assumption | omega | (simp only [List.length_append, List.length_cons, List.length_nil]; omega))) only [↓wD,wU,Nat.reduceBEq,zx150,zx151,zx159,zx160,zx161,zx162,Nat.reduceAdd,Nat.reduceSub,Nat.reduceMul,Nat.reduceLeDiff,Nat.reduceLT,Nat.reduceEqDiff,Int.reduceAdd,Int.reduceSub,Int.reduceMul,Int.reduceNeg,Int.reduceLT,Int.reduceLE,Int.reduceEq,Int.reduceToNat,Int.cast_ofNat_Int,↓reduceIte, *]
          first | exact ⟨_, hkn, fun H8 h8 => (hc H8 h8).2 rfl⟩ | exact ⟨gl7, x47, rfl, _, hkn, fun H8 h8 => (hc H8 h8).2 rfl⟩ | exact ⟨rfl, _, hkn, fun H8 h8 => (hc H8 h8).2 rfl⟩
    · rintro K2 H4 ⟨Kc', q3, q4⟩ hx4 hl4
      have gl4 := hx4.get ⟨(List.getElem?_eq_some_iff.1 gl3).1, fun q => (q2' _ q).2.1 rfl⟩ gl3
      rw [List.drop_of_length_le (l := allC v t k cs) (by unfold allC; rw [List.length_map]; exact Nat.le_refl _)] at q3
      have xx : Kx (fun b => ¬ (K1 b ∨ Ki b) ∧ b ≠ Hr.length) H1 H4 := (x13.weak fun b _ h => h.2).trans hx4 fun b hb h => ⟨by omega, fun q => h.1 (.inl (q2 b q).1)⟩
      have hkn : ∀ b, Kc' b → Kn K1 Ki H1 H4 b ∧ (b < Hr.length → K b) := fun b h => by
        by_cases hb : b < H3.length
        · exact ⟨.inl (q2 b ((q4 b h).2.2 hb)).1, fun q => (q2' b ((q4 b h).2.2 hb)).2.2.1 q⟩
        · exact ⟨.inr (.inr ⟨by omega, (q4 b h).2.1⟩), fun q => by omega⟩
      have q5 := q3.none.1 rfl
      simp (disch := (first | assumption | omega | (simp only [List.length_append, List.length_cons, List.length_nil]; omega))) only [↓wD,wU,Nat.reduceBEq,zx150,zx151,zx159,zx160,zx161,zx162,Nat.reduceAdd,Nat.reduceSub,Nat.reduceMul,Nat.reduceLeDiff,Nat.reduceLT,Nat.reduceEqDiff,Int.reduceAdd,Int.reduceSub,Int.reduceMul,Int.reduceNeg,Int.reduceLT,Int.reduceLE,Int.reduceEq,Int.reduceToNat,Int.cast_ofNat_Int,↓reduceIte, *]
      first | exact ⟨_, q5, hkn⟩ | exact ⟨gl4, xx, _, q5, hkn⟩
    · rintro j K2 H4 ⟨rfl, Kc', q3, q4⟩ hx4 hl4
      have gl4 := hx4.get ⟨(List.getElem?_eq_some_iff.1 gl3).1, fun q => (q2' _ q).2.1 rfl⟩ gl3
      have xx : Kx (fun b => ¬ (K1 b ∨ Ki b) ∧ b ≠ Hr.length) H1 H4 := (x13.weak fun b _ h => h.2).trans hx4 fun b hb h => ⟨by omega, fun q => h.1 (.inl (q2 b q).1)⟩
      have hkn : ∀ b, Kc' b → Kn K1 Ki H1 H4 b := fun b h => by
        by_cases hb : b < H3.length
        · exact .inl (q2 b ((q3 b h).2.2 hb)).1
        · exact .inr (.inr ⟨by omega, (q3 b h).2.1⟩)
      change Wp E lo _ (.code .ret :: _) _ _ _
      simp (disch := (first | assumption | omega | (simp only [List.length_append, List.length_cons, List.length_nil]; omega))) only [↓wD,wU,Nat.reduceBEq,zx150,zx151,zx159,zx160,zx161,zx162,Nat.reduceAdd,Nat.reduceSub,Nat.reduceMul,Nat.reduceLeDiff,Nat.reduceLT,Nat.reduceEqDiff,Int.reduceAdd,Int.reduceSub,Int.reduceMul,Int.reduceNeg,Int.reduceLT,Int.reduceLE,Int.reduceEq,Int.reduceToNat,Int.cast_ofNat_Int,↓reduceIte, *]
      first | exact ⟨_, hkn, q4⟩ | exact ⟨gl4, xx, rfl, _, hkn, q4⟩ | exact ⟨rfl, _, hkn, q4⟩
  · rintro K1 H1 ⟨Kc, q1, _⟩ hx hl
    simp (disch := (first | assumption | omega | (simp only [List.length_append, List.length_cons, List.length_nil]; omega))) only [↓wD,wU,Nat.reduceBEq,zx150,zx151,zx159,zx160,zx161,zx162,Nat.reduceAdd,Nat.reduceSub,Nat.reduceMul,Nat.reduceLeDiff,Nat.reduceLT,Nat.reduceEqDiff,Int.reduceAdd,Int.reduceSub,Int.reduceMul,Int.reduceNeg,Int.reduceLT,Int.reduceLE,Int.reduceEq,Int.reduceToNat,Int.cast_ofNat_Int,↓reduceIte, *]
    rw [List.drop_length] at q1
    exact ⟨true, Kc, q1.none⟩
  · rintro j K1 H1 ⟨rfl, Kc, q0, q1⟩ hx hl
    change Wp E lo none (.code .ret :: _) _ _ _
    simp (disch := (first | assumption | omega | (simp only [List.length_append, List.length_cons, List.length_nil]; omega))) only [↓wD,wU,Nat.reduceBEq,zx150,zx151,zx159,zx160,zx161,zx162,Nat.reduceAdd,Nat.reduceSub,Nat.reduceMul,Nat.reduceLeDiff,Nat.reduceLT,Nat.reduceEqDiff,Int.reduceAdd,Int.reduceSub,Int.reduceMul,Int.reduceNeg,Int.reduceLT,Int.reduceLE,Int.reduceEq,Int.reduceToNat,Int.cast_ofNat_Int,↓reduceIte, *]
    exact ⟨false, Kc, q1 _ (Kx.refl _ _)⟩
end Go.Proofs.Ytalaadcbpjnglaa
namespace Go.Proofs.Ytalaadcbpjnglaa
open Go Go.AM Go.Proofs
/-- what all returns -/
structure AllR where
  v : Int
  rows : AV
  k : Int
instance : RV AllR where
  rv p H w x := ∃ bt ba, w = .fn 102 [] [.p bt 0, .p ba 0] ∧ (p bt ∧ p ba) ∧ H[bt]? = some (.cells [.i x.k]) ∧ H[ba]? = some (.cells [.i x.v, x.rows])
  mono := by
    rintro p q H H' v x ⟨bt, ba, rfl, hp, h1, h2⟩ hk hq
    exact ⟨bt, ba, rfl, ⟨hq _ hp.1, hq _ hp.2⟩, hk.2 _ _ hp.1 h1, hk.2 _ _ hp.2 h2⟩
  pure := by
    rintro p q H H' v x ⟨bt, ba, rfl, _⟩ hp
    simp [AV.pure, AV.pureAll] at hp
theorem all_ret {H : Heap} {v k : Int} {rows : AV} (hr : rows.cells = [rows] ∧ rows.one = true) : Ret E 87 [.ag [.i v, rows], .i k] (fun _ => False) H (AllR.mk v rows k) := by
  refine Ret.ro rfl fn87 rfl ?_
  unfold f87A
  simp (disch := (first | assumption | omega | (simp only [List.length_append, List.length_cons, List.length_nil]; omega))) only [↓wD,wU,Nat.reduceBEq,zx150,zx151,zx159,zx160,zx161,zx162,Nat.reduceAdd,Nat.reduceSub,Nat.reduceMul,Nat.reduceLeDiff,Nat.reduceLT,Nat.reduceEqDiff,Int.reduceAdd,Int.reduceSub,Int.reduceMul,Int.reduceNeg,Int.reduceLT,Int.reduceLE,Int.reduceEq,Int.reduceToNat,Int.cast_ofNat_Int,↓reduceIte, *]
  refine ⟨_, _, rfl, ?_, ?_⟩
  · simp
  · simp
/-- the iterator, behind a range over it -/
theorem all_range {lo : Nat} {v : Int} {rows : AV} {t : List (List Int)} {k bt ba : Nat} {H0 Hr H1 : Heap} {K0 K : Nat → Prop} {Q : Bool → (Nat → Prop) → Heap → Prop} (hlo : lo ≤ Hr.length)
    (c1 : Hr[bt]? = some (.cells [.i k])) (c2 : Hr[ba]? = some (.cells [.i v, rows])) (n1 : ¬ K0 bt) (n2 : ¬ K0 ba) (hr : Sl (fun b => b < H0.length) H0 rows t) (hg : Kx (fun _ => True) H0 Hr) (hK0 : ∀ b, K0 b → H0.length ≤ b ∧ b < Hr.length)
    (hA : ArrP v t) (hk : k ≤ 3) (e : H1.length = Hr.length + 1) (hx : Kx (fun _ => True) Hr H1) (hK : ∀ b, K b ↔ K0 b ∨ b = Hr.length) (hI : Its E lo (.yl Hr.length) (Hr.length + 1) ArgA Q (allL v t k) K H1) :
    WpF E lo 102 ([] ++ .yl Hr.length :: [.p bt 0, .p ba 0]) H1 fun _ H' => ∃ ok K', Q ok K' H' := by
  rw [← e] at hI
  have b1 := (List.getElem?_eq_some_iff.1 c1).1
  have b2 := (List.getElem?_eq_some_iff.1 c2).1
  refine all_it (by omega) ⟨rfl, rfl⟩ ⟨hx.get trivial c1, fun q => ((hK _).1 q).elim n1 (by omega)⟩ ⟨hx.get trivial c2, fun q => ((hK _).1 q).elim n2 (by omega)⟩ (((hr.kp (hg.all _).kp).kp (hx.all _).kp).weak fun b h q => ?_) hA hk (fun b q => ?_) hI
  · rcases (hK b).1 q with q | q
    · have := (hK0 b q).1; omega
    · have := hg.1; omega
  · rcases (hK b).1 q with q | q
    · have := (hK0 b q).2; omega
    · omega
theorem argA_len : ∀ (Ki : Nat → Prop) (H1 : Heap) (args : List AV) (x : List Int × Nat), ArgA Ki H1 args x → args.length = 2 := by rintro _ _ _ _ ⟨u, rfl, _⟩; rfl
end Go.Proofs.Ytalaadcbpjnglaa
namespace Go.Proofs.Ytalaadcbpjnglaa
open Go Go.AM Go.Proofs
def zeros (l : List (List Int × Nat)) : List (List Int) := (l.filter fun x => x.2 == 0).map Prod.fst
theorem zeros_take {l : List (List Int × Nat)} {i : Nat} (h : i < l.length) : zeros (l.take (i + 1)) = zeros (l.take i) ++ if l[i].2 = 0 then [l[i].1] else [] := by
  unfold zeros
  rw [List.take_succ_eq_append_getElem h, List.filter_append, List.map_append]
  congr 1
  by_cases h0 : l[i].2 = 0 <;> simp [h0]
theorem zeros_len (l : List (List Int × Nat)) : (zeros l).length ≤ l.length := by
  unfold zeros; rw [List.length_map]; exact List.length_filter_le _ _
theorem missing_ret {p : Nat → Prop} {H : Heap} {rows : AV} {v : Int} {t : List (List Int)} {k : Nat} (ht : Sl p H rows t) (hA : ArrP v t) (h2 : k ≤ 3) (hlen : (allL v t k).length ≤ 1000000) :
    Ret E 84 [.ag [.i v, rows], .i k] (fun _ => False) H (zeros (allL v t k)) := by
  refine Ret.ro rfl fn84 rfl ?_
  unfold f84A
  have hlow : Sl (fun b => b < H.length) H rows t := ht.low.weak fun _ h => h.2
  simp (disch := (first | assumption | omega | (simp only [List.length_append, List.length_cons, List.length_nil]; omega))) only [↓wD,wU,Nat.reduceBEq,zx150,zx151,zx159,zx160,zx161,zx162,Nat.reduceAdd,Nat.reduceSub,Nat.reduceMul,Nat.reduceLeDiff,Nat.reduceLT,Nat.reduceEqDiff,Int.reduceAdd,Int.reduceSub,Int.reduceMul,Int.reduceNeg,Int.reduceLT,Int.reduceLE,Int.reduceEq,Int.reduceToNat,Int.cast_ofNat_Int,↓reduceIte, *, ht.cellsV]
  refine (all_ret ht.cellsV).toX fun w Hr x1 hw => ?_
  obtain ⟨bt, ba, rfl, hp, c1, c2⟩ := hw
  have hp1 : H.length + 2 ≤ bt := by have := hp.1; simp at this; omega
  have hp2 : H.length + 2 ≤ ba := by have := hp.2; simp at this; omega
  clear hp
  have d5 : Hr[H.length + 1]? = some (.cells [.nils]) := x1.get trivial (by simp [List.getElem?_append])
  have hx0 : Kx (fun _ => True) H Hr := ((Kx.app (fun _ => True) H _).app' _).trans x1 fun _ _ _ => trivial
  have hl := (List.getElem?_eq_some_iff.1 c1).1
  clear x1
  simp (disch := (first | assumption | omega | (simp only [List.length_append, List.length_cons, List.length_nil]; omega))) only [↓wD,wU,Nat.reduceBEq,zx150,zx151,zx159,zx160,zx161,zx162,Nat.reduceAdd,Nat.reduceSub,Nat.reduceMul,Nat.reduceLeDiff,Nat.reduceLT,Nat.reduceEqDiff,Int.reduceAdd,Int.reduceSub,Int.reduceMul,Int.reduceNeg,Int.reduceLT,Int.reduceLE,Int.reduceEq,Int.reduceToNat,Int.cast_ofNat_Int,↓reduceIte, *]
  obtain ⟨l, el⟩ : ∃ l, allL v t k = l := ⟨_, rfl⟩
  rw [el] at hlen ⊢
  refine Wp.range (A := ArgA) l (fun b => b = H.length + 1) (fun i K H1 => ∃ w, H1[H.length + 1]? = some (.cells [w]) ∧ Acc H.length (fun b => K b ∧ b ≠ H.length + 1) H1 w (zeros (l.take i)) ∧ (∀ b, w.blk = some b → K b ∧ b ≠ H.length + 1) ∧ (∀ b, K b → H.length ≤ b))
    (fun j K H1 => False) (by (simp (disch := (first | assumption | omega | (simp only [List.length_append, List.length_cons, List.length_nil]; omega))) only [↓wD,wU,Nat.reduceBEq,zx150,zx151,zx159,zx160,zx161,zx162,Nat.reduceAdd,Nat.reduceSub,Nat.reduceMul,Nat.reduceLeDiff,Nat.reduceLT,Nat.reduceEqDiff,Int.reduceAdd,Int.reduceSub,Int.reduceMul,Int.reduceNeg,Int.reduceLT,Int.reduceLE,Int.reduceEq,Int.reduceToNat,Int.cast_ofNat_Int,↓reduceIte, *]) <;> rfl) rfl (by omega) (fun b h => by omega) argA_len ?_ ?_ ?_ ?_ ?_ ?_ ?_
  · exact fun K' H1 Q' e hx hK' hI => all_range (by omega) c1 c2 (by omega) (by omega) hlow hx0 (fun b h => by omega) hA h2 e hx hK' (by rw [el]; exact hI)
  · rintro i K H1 H2 ⟨w, q1, q2, q3, q8⟩ hx
    exact ⟨w, hx.get (.inl (by omega)) q1, q2.kp hx.kp (fun b e => .inr (q3 b e).1) fun b h => .inr h.1, q3, q8⟩
  · exact fun j K H1 H2 h hx => h
  · exact ⟨.nils, d5, Acc.nil, nofun, fun b h => by omega⟩
  · rintro i hi K Ki args H1 ⟨w, q4, q5, q6, q8⟩ ⟨u, rfl, hu⟩ hKi hK hx hl1 hlr hKK
    have kc := (hKK (H.length + 1) (by omega)).2 rfl
    have ez := zeros_take hi
    obtain ⟨n, en⟩ : ∃ n, (l[i]).2 = n := ⟨_, rfl⟩
    obtain ⟨x, ex⟩ : ∃ x, (l[i]).1 = x := ⟨_, rfl⟩
    rw [ex] at hu ez
    rw [en] at ez ⊢
    simp (disch := (first | assumption | omega | (simp only [List.length_append, List.length_cons, List.length_nil]; omega))) only [↓wD,wU,Nat.reduceBEq,zx150,zx151,zx159,zx160,zx161,zx162,Nat.reduceAdd,Nat.reduceSub,Nat.reduceMul,Nat.reduceLeDiff,Nat.reduceLT,Nat.reduceEqDiff,Int.reduceAdd,Int.reduceSub,Int.reduceMul,Int.reduceNeg,Int.reduceLT,Int.reduceLE,Int.reduceEq,Int.reduceToNat,Int.cast_ofNat_Int,↓reduceIte, *, zx188 (lo := H.length) hlr (by omega)]
    generalize e2 : H1.set Hr.length _ = H2
    have x12 : Kx (fun b => b ≠ Hr.length) H1 H2 := by rw [← e2]; exact Kx.set _ _ _
    have l12 : H2.length ≤ H1.length ∧ H1.length ≤ H2.length := by rw [← e2]; simp
    have gl := gset e2 hlr
    have r4 := x12.get (by omega) q4
    have hu2 : Sl (fun b => b < H1.length ∧ Ki b) H2 u x := (hu.low.weak fun b h => ⟨h.2, h.1⟩).kp (x12.weak fun b _ h => by have := (hKi b h.2).1; omega).kp
    have q52 := q5.kp x12.kp (fun b e => (hK b (q6 b e).1).2) (fun b h => (hK b h.1).2)
    clear e2
    refine condP_split (fun h0 => ?_) (fun h0 => ?_)
    · simp (disch := (first | assumption | omega | (simp only [List.length_append, List.length_cons, List.length_nil]; omega))) only [↓wD,wU,Nat.reduceBEq,zx150,zx151,zx159,zx160,zx161,zx162,Nat.reduceAdd,Nat.reduceSub,Nat.reduceMul,Nat.reduceLeDiff,Nat.reduceLT,Nat.reduceEqDiff,Int.reduceAdd,Int.reduceSub,Int.reduceMul,Int.reduceNeg,Int.reduceLT,Int.reduceLE,Int.reduceEq,Int.reduceToNat,Int.cast_ofNat_Int,↓reduceIte, *, ld_of r4, hu.cellsV]
      refine appX ((q52.mono (q := fun b => (K b ∨ Ki b) ∧ b ≠ H.length + 1) (Kx.refl _ _).kp fun b h => ⟨.inl h.1, h.2⟩).pushL (Nat.le_refl _) (by omega) hu2 (fun b hb => ⟨⟨.inr hb.2, by have := (hKi b hb.2).1; omega⟩, fun e => (hKi b hb.2).2.2 (q6 b e).1⟩) ?_ fun w' H3 hw' _ hl3 hb3 => fun x23 => ?_)
      · have := zeros_len (l.take i); rw [List.length_take] at this; omega
      · have a23 : Kx (fun b => w.blk ≠ some b) H2 H3 := ((Kx.app (fun b => w.blk ≠ some b) H2 _).trans x23 fun b _ h => h)
        have l23 := a23.1
        have hc : w.blk ≠ some (H.length + 1) := fun e => (q6 _ e).2 rfl
        have hcr : w.blk ≠ some Hr.length := fun e => (hK _ (q6 _ e).1).2 rfl
        have r4' := a23.get hc r4
        have gl' := a23.get hcr gl
        have hn0 : n = 0 := by omega
        rw [if_pos hn0] at ez
        simp (disch := (first | assumption | omega | (simp only [List.length_append, List.length_cons, List.length_nil]; omega))) only [↓wD,wU,Nat.reduceBEq,zx150,zx151,zx159,zx160,zx161,zx162,Nat.reduceAdd,Nat.reduceSub,Nat.reduceMul,Nat.reduceLeDiff,Nat.reduceLT,Nat.reduceEqDiff,Int.reduceAdd,Int.reduceSub,Int.reduceMul,Int.reduceNeg,Int.reduceLT,Int.reduceLE,Int.reduceEq,Int.reduceToNat,Int.cast_ofNat_Int,↓reduceIte, *, hw'.cellsV, st_of r4']
        refine ⟨?_, ?_, w', get_set r4', ?_, ?_, ?_⟩
        · rw [List.getElem?_set_ne (by omega)]; exact gl'
        · exact (((x12.weak fun b _ h => h.2).trans a23 fun b _ h e => h.1 (.inl (q6 b e).1)).set' (fun _ h => h.1 (.inl kc)) _)
        · have hne : ∀ b, w'.blk = some b → b ≠ H.length + 1 := fun b e => by rw [hb3] at e; simp at e; omega
          have h9 := hw'.kp (Kx.set (H.length + 1) H3 (.cells [w'])).kp hne fun b h => h.2
          exact h9.mono (Kx.refl _ _).kp fun b h => ⟨h.1.elim .inl fun h => .inr (.inl h), h.2⟩
        · intro b e
          rw [hb3] at e
          simp only [Option.some.injEq] at e
          exact ⟨.inr (.inr ⟨by omega, by simp; omega⟩), by omega⟩
        · rintro b (h | h | h)
          · exact q8 b h
          · have := (hKi b h).1; omega
          · omega
    · rw [if_neg (by omega), List.append_nil] at ez
      have q53 := q52.mono (q := fun b => Kn K Ki H1 H2 b ∧ b ≠ H.length + 1) (Kx.refl _ _).kp fun b h => ⟨.inl h.1, h.2⟩
      rw [← ez] at q53
      have q7 : ∀ b, w.blk = some b → Kn K Ki H1 H2 b ∧ b ≠ H.length + 1 := fun b e => ⟨.inl (q6 b e).1, (q6 b e).2⟩
      have q9 : ∀ b, Kn K Ki H1 H2 b → H.length ≤ b := by
        rintro b (h | h | h)
        · exact q8 b h
        · have := (hKi b h).1; omega
        · omega
      clear ez
      simp (disch := (first | assumption | omega | (simp only [List.length_append, List.length_cons, List.length_nil]; omega))) only [↓wD,wU,Nat.reduceBEq,zx150,zx151,zx159,zx160,zx161,zx162,Nat.reduceAdd,Nat.reduceSub,Nat.reduceMul,Nat.reduceLeDiff,Nat.reduceLT,Nat.reduceEqDiff,Int.reduceAdd,Int.reduceSub,Int.reduceMul,Int.reduceNeg,Int.reduceLT,Int.reduceLE,Int.reduceEq,Int.reduceToNat,Int.cast_ofNat_Int,↓reduceIte, h0]
      exact ⟨gl, x12.weak fun b _ h => h.2, w, r4, q53, q7, q9⟩
  · rintro K H1 ⟨w, q4, q5, q6, q8⟩ hx hl1
    simp (disch := (first | assumption | omega | (simp only [List.length_append, List.length_cons, List.length_nil]; omega))) only [↓wD,wU,Nat.reduceBEq,zx150,zx151,zx159,zx160,zx161,zx162,Nat.reduceAdd,Nat.reduceSub,Nat.reduceMul,Nat.reduceLeDiff,Nat.reduceLT,Nat.reduceEqDiff,Int.reduceAdd,Int.reduceSub,Int.reduceMul,Int.reduceNeg,Int.reduceLT,Int.reduceLE,Int.reduceEq,Int.reduceToNat,Int.cast_ofNat_Int,↓reduceIte, *, ld_of q4]
    rw [List.take_length] at q5
    exact q5.sl.weak fun b h => by
      rcases h with h | h
      · exact .inr (q8 b h.1)
      · exact .inr h
  · exact fun j K H1 h => h.elim
end Go.Proofs.Ytalaadcbpjnglaa
namespace Go.Proofs.Ytalaadcbpjnglaa
open Go Go.AM Go.Proofs
/-- one element, and a slice behind it -/
theorem app_lit {q : Nat → Prop} {H : Heap} {lo n : Nat} {x : Int} {y : AV} {ys : List Int} {Q : AV × Heap → Prop} (hy : Sl q H y ys) (hlo : lo ≤ H.length) (hb : (1 + ys.length) * 8 ≤ 1099511627776) (hn : n = H.length)
    (go : ∀ v' H', Sl (fun b => H.length ≤ b) H' v' (x :: ys) → Gr H H' → Q (v', H')) : @optP _ (appendV lo 1 8 (.s 1 n 0 1 (some 1)) y (H ++ [.cells [.i x]])) ⟨Q⟩ := by
  subst hn
  have ha : Acc H.length (fun _ => True) (H ++ [.cells [.i x]]) (.s 1 H.length 0 1 (some 1)) [x] := by
    refine .inr ⟨H.length, 0, some 1, [.i x], rfl, Nat.le_refl _, get_last, by simp; decide, by simp, fun i hi => ?_⟩
    have : i = 0 := by simp at hi; omega
    subst this; rfl
  refine ha.extend (q := fun b => b < H.length) hlo (by simp) ((hy.low.app [.cells [.i x]]).weak fun b h => h.2) (fun b hb => ⟨trivial, fun e => ?_⟩) hb (by omega) fun v' H' h1 h2 => go v' H' ?_ ?_
  · simp only [AV.blk, Option.some.injEq] at e; omega
  · rcases h1 with ⟨_, h⟩ | ⟨b, o, c, k, e, hb, hk, h1, h2, h3⟩
    · simp at h
    · exact .inr ⟨b, o, c, k, e, hb, hk, h1, h2, h3⟩
  · exact ((Gr.refl H).app _).trans' h2 fun b hb e => by simp only [AV.blk, Option.some.injEq] at e; omega
def wordsL (v : Int) (t : Nat) : List (List Int) := sufs false v t 0
def preL (ls : List (List Int)) (y : Int) : List (List Int) := ls.map (y :: ·)
theorem rng_len {x n : Int} : (rng x n).length = (n - x).toNat := by simp [rng]
theorem rng_at {x n : Int} {i : Nat} (h : i < (rng x n).length) : gi (rng x n) i = x + i := by
  rw [gi_nat h]; simp [rng]
theorem pre_len {ls : List (List Int)} (ys : List Int) : (ys.flatMap (preL ls)).length = ys.length * ls.length := by
  induction ys with
  | nil => simp
  | cons y ys ih => simp [List.flatMap_cons, ih, preL, Nat.succ_mul]; omega
theorem words_ret {v : Int} (hv : 0 ≤ v) (hv2 : v ≤ 100) (hs : ∀ t, t ≤ 4 → (wordsL v t).length ≤ 1000000) : ∀ (t : Nat), t ≤ 4 → ∀ (H : Heap), Ret E 90 [.i v, .i t] (fun _ => False) H (wordsL v t) := by
  intro t
  induction t with
  | zero =>
    intro _ H
    refine Ret.ro rfl fn90 rfl ?_
    unfold f90A
    simp (disch := (first | assumption | omega | (simp only [List.length_append, List.length_cons, List.length_nil]; omega))) only [↓wD,wU,Nat.reduceBEq,zx150,zx151,zx159,zx160,zx161,zx162,Nat.reduceAdd,Nat.reduceSub,Nat.reduceMul,Nat.reduceLeDiff,Nat.reduceLT,Nat.reduceEqDiff,Int.reduceAdd,Int.reduceSub,Int.reduceMul,Int.reduceNeg,Int.reduceLT,Int.reduceLE,Int.reduceEq,Int.reduceToNat,Int.cast_ofNat_Int,↓reduceIte, *]
    exact Sl.litL (us := [.nils]) (xs := [[]]) get_last (.inr (Nat.le_refl _)) (show 1 ≤ 9223372036854775807 by omega) rfl fun i h1 h2 => by
      have : i = 0 := by simp at h2; omega
      subst this; exact Sl.nil
  | succ t ih =>
    intro ht H
    refine Ret.ro rfl fn90 rfl ?_
    unfold f90A
    simp (disch := (first | assumption | omega | (simp only [List.length_append, List.length_cons, List.length_nil]; omega))) only [↓wD,wU,Nat.reduceBEq,zx150,zx151,zx159,zx160,zx161,zx162,Nat.reduceAdd,Nat.reduceSub,Nat.reduceMul,Nat.reduceLeDiff,Nat.reduceLT,Nat.reduceEqDiff,Int.reduceAdd,Int.reduceSub,Int.reduceMul,Int.reduceNeg,Int.reduceLT,Int.reduceLE,Int.reduceEq,Int.reduceToNat,Int.cast_ofNat_Int,↓reduceIte, *]
    have hrl : (rng 0 v).length = v.toNat := by rw [rng_len]; simp
    have hsl := hs t (by omega)
    obtain ⟨ls, els⟩ : ∃ ls, wordsL v t = ls := ⟨_, rfl⟩
    have eall : wordsL v (t + 1) = (rng 0 v).flatMap (preL ls) := by rw [← els]; rfl
    rw [eall]
    have hlb : ∀ l ∈ wordsL v t, l.length ≤ 100 := fun l hl => by have := sufs_len hl; omega
    rw [els] at hsl ih hlb
    clear eall els hs
    refine Wp.for v.toNat (fun i a H' => ∃ u, a 0 = .i v ∧ a 1 = .i (t + 1) ∧ a 12 = .i v ∧ a 13 = .i i ∧ a 5 = u ∧ Gr H H' ∧ Acc H.length (fun b => H.length ≤ b) H' u (((rng 0 v).take i).flatMap (preL ls))) ?_ ?_
    · rintro i a H1 hi ⟨u, a0, a1, a12, a13, a5, hg, hu⟩ ihl
      simp (disch := (first | assumption | omega | (simp only [List.length_append, List.length_cons, List.length_nil]; omega))) only [↓wD,wU,Nat.reduceBEq,zx150,zx151,zx159,zx160,zx161,zx162,Nat.reduceAdd,Nat.reduceSub,Nat.reduceMul,Nat.reduceLeDiff,Nat.reduceLT,Nat.reduceEqDiff,Int.reduceAdd,Int.reduceSub,Int.reduceMul,Int.reduceNeg,Int.reduceLT,Int.reduceLE,Int.reduceEq,Int.reduceToNat,Int.cast_ofNat_Int,↓reduceIte, *]
      refine condP_split (fun hlt => ?_) (fun hlt => ?_)
      · have hi' : i < v.toNat := by omega
        have e1 : (t : Int) + 1 - 1 = t := by omega
        simp (disch := (first | assumption | omega | (simp only [List.length_append, List.length_cons, List.length_nil]; omega))) only [↓wD,wU,Nat.reduceBEq,zx150,zx151,zx159,zx160,zx161,zx162,Nat.reduceAdd,Nat.reduceSub,Nat.reduceMul,Nat.reduceLeDiff,Nat.reduceLT,Nat.reduceEqDiff,Int.reduceAdd,Int.reduceSub,Int.reduceMul,Int.reduceNeg,Int.reduceLT,Int.reduceLE,Int.reduceEq,Int.reduceToNat,Int.cast_ofNat_Int,↓reduceIte, *, e1]
        refine (ih (by omega) H1).toFX fun w H2 x12 hw => ?_
        have hg2 : Gr H H2 := hg.trans (x12.kp.weakT)
        have hu2 := hu.gr (x12.kp.weakT)
        simp (disch := (first | assumption | omega | (simp only [List.length_append, List.length_cons, List.length_nil]; omega))) only [↓wD,wU,Nat.reduceBEq,zx150,zx151,zx159,zx160,zx161,zx162,Nat.reduceAdd,Nat.reduceSub,Nat.reduceMul,Nat.reduceLeDiff,Nat.reduceLT,Nat.reduceEqDiff,Int.reduceAdd,Int.reduceSub,Int.reduceMul,Int.reduceNeg,Int.reduceLT,Int.reduceLE,Int.reduceEq,Int.reduceToNat,Int.cast_ofNat_Int,↓reduceIte, *, hw.L]
        refine Wp.for ls.length (fun j a H' => ∃ u, a 0 = .i v ∧ a 1 = .i (t + 1) ∧ a 12 = .i v ∧ a 13 = .i i ∧ a 6 = .i i ∧ a 5 = u ∧ a 19 = w ∧ a 20 = .i ls.length ∧ a 21 = .i j ∧ Gr H H' ∧ Sl (fun b => H1.length ≤ b ∧ b < H2.length) H' w ls ∧ (∀ b, u.blk = some b → b < H1.length ∨ H2.length ≤ b) ∧ H2.length ≤ H'.length ∧ Acc H.length (fun b => H.length ≤ b) H' u (((rng 0 v).take i).flatMap (preL ls) ++ preL (ls.take j) i)) ?_ ?_
        · clear a0 a1 a12 a13 a5
          rintro j a H3 hj ⟨u, a0, a1, a12, a13, a6, a5, a19, a20, a21, hg3, hw3, hub, hl3, hu3⟩ ih2
          simp (disch := (first | assumption | omega | (simp only [List.length_append, List.length_cons, List.length_nil]; omega))) only [↓wD,wU,Nat.reduceBEq,zx150,zx151,zx159,zx160,zx161,zx162,Nat.reduceAdd,Nat.reduceSub,Nat.reduceMul,Nat.reduceLeDiff,Nat.reduceLT,Nat.reduceEqDiff,Int.reduceAdd,Int.reduceSub,Int.reduceMul,Int.reduceNeg,Int.reduceLT,Int.reduceLE,Int.reduceEq,Int.reduceToNat,Int.cast_ofNat_Int,↓reduceIte, *]
          refine condP_split (fun hlt2 => ?_) (fun hlt2 => ?_)
          · have hj' : j < ls.length := by omega
            have g := hw3.get (k := (j : Int)) (by omega) (by omega)
            have hgl : (gi ls (j : Int)).length ≤ 100 := hlb _ (mem_gi hj')
            simp (disch := (first | assumption | omega | (simp only [List.length_append, List.length_cons, List.length_nil]; omega))) only [↓wD,wU,Nat.reduceBEq,zx150,zx151,zx159,zx160,zx161,zx162,Nat.reduceAdd,Nat.reduceSub,Nat.reduceMul,Nat.reduceLeDiff,Nat.reduceLT,Nat.reduceEqDiff,Int.reduceAdd,Int.reduceSub,Int.reduceMul,Int.reduceNeg,Int.reduceLT,Int.reduceLE,Int.reduceEq,Int.reduceToNat,Int.cast_ofNat_Int,↓reduceIte, *, hw3.L]
            refine app_lit g (by have := hg3.1; omega) (by omega) rfl fun y H4 hy hg4 => ?_
            simp (disch := (first | assumption | omega | (simp only [List.length_append, List.length_cons, List.length_nil]; omega))) only [↓wD,wU,Nat.reduceBEq,zx150,zx151,zx159,zx160,zx161,zx162,Nat.reduceAdd,Nat.reduceSub,Nat.reduceMul,Nat.reduceLeDiff,Nat.reduceLT,Nat.reduceEqDiff,Int.reduceAdd,Int.reduceSub,Int.reduceMul,Int.reduceNeg,Int.reduceLT,Int.reduceLE,Int.reduceEq,Int.reduceToNat,Int.cast_ofNat_Int,↓reduceIte, *, hy.cellsV]
            have hu4 := hu3.gr hg4
            have h34 := hg4.1
            have h03 := hg3.1
            have h01 := hg.1
            refine hu4.pushL (by omega) (by omega) hy (fun b hb => ⟨by omega, fun e => by have := (hu3.blk_lt e).2; omega⟩) ?_ fun u' H5 hu5 hk hl5 hb5 => ?_
            · rw [List.length_append, pre_len, List.length_take, hrl]
              have : (min i v.toNat) * ls.length ≤ 100 * 1000000 := Nat.mul_le_mul (by omega) hsl
              simp [preL]; omega
            · simp (disch := (first | assumption | omega | (simp only [List.length_append, List.length_cons, List.length_nil]; omega))) only [↓wD,wU,Nat.reduceBEq,zx150,zx151,zx159,zx160,zx161,zx162,Nat.reduceAdd,Nat.reduceSub,Nat.reduceMul,Nat.reduceLeDiff,Nat.reduceLT,Nat.reduceEqDiff,Int.reduceAdd,Int.reduceSub,Int.reduceMul,Int.reduceNeg,Int.reduceLT,Int.reduceLE,Int.reduceEq,Int.reduceToNat,Int.cast_ofNat_Int,↓reduceIte, *]
              refine (ih2 hj').go ⟨u', ?_⟩
              simp (disch := (first | assumption | omega | (simp only [List.length_append, List.length_cons, List.length_nil]; omega))) only [↓wD,wU,Nat.reduceBEq,zx150,zx151,zx159,zx160,zx161,zx162,Nat.reduceAdd,Nat.reduceSub,Nat.reduceMul,Nat.reduceLeDiff,Nat.reduceLT,Nat.reduceEqDiff,Int.reduceAdd,Int.reduceSub,Int.reduceMul,Int.reduceNeg,Int.reduceLT,Int.reduceLE,Int.reduceEq,Int.reduceToNat,Int.cast_ofNat_Int,↓reduceIte, *]
              refine ⟨(hg3.trans hg4).push hu4 (Nat.le_refl _) hk, ?_, ?_, by omega, ?_⟩
              · exact (hw3.gr hg4).kp (hk.weak fun b hb e => by have := hub b e; omega)
              · intro b e
                first | rw [hb5] at e | skip
                simp only [Option.some.injEq] at e
                omega
              · rw [take_gi hj']
                simpa [preL] using hu5
          · obtain rfl : j = ls.length := by omega
            simp (disch := (first | assumption | omega | (simp only [List.length_append, List.length_cons, List.length_nil]; omega))) only [↓wD,wU,Nat.reduceBEq,zx150,zx151,zx159,zx160,zx161,zx162,Nat.reduceAdd,Nat.reduceSub,Nat.reduceMul,Nat.reduceLeDiff,Nat.reduceLT,Nat.reduceEqDiff,Int.reduceAdd,Int.reduceSub,Int.reduceMul,Int.reduceNeg,Int.reduceLT,Int.reduceLE,Int.reduceEq,Int.reduceToNat,Int.cast_ofNat_Int,↓reduceIte, *]
            refine (ihl hi').go ⟨u, ?_⟩
            simp (disch := (first | assumption | omega | (simp only [List.length_append, List.length_cons, List.length_nil]; omega))) only [↓wD,wU,Nat.reduceBEq,zx150,zx151,zx159,zx160,zx161,zx162,Nat.reduceAdd,Nat.reduceSub,Nat.reduceMul,Nat.reduceLeDiff,Nat.reduceLT,Nat.reduceEqDiff,Int.reduceAdd,Int.reduceSub,Int.reduceMul,Int.reduceNeg,Int.reduceLT,Int.reduceLE,Int.reduceEq,Int.reduceToNat,Int.cast_ofNat_Int,↓reduceIte, *]
            rw [List.take_length] at hu3
            have hi2 : i < (rng 0 v).length := by omega
            rw [take_gi hi2, rng_at hi2, Int.zero_add, List.flatMap_append]
            first | exact ⟨hg3, by simpa using hu3⟩ | simpa using hu3
        · simp (disch := (first | assumption | omega | (simp only [List.length_append, List.length_cons, List.length_nil]; omega))) only [↓wD,wU,Nat.reduceBEq,zx150,zx151,zx159,zx160,zx161,zx162,Nat.reduceAdd,Nat.reduceSub,Nat.reduceMul,Nat.reduceLeDiff,Nat.reduceLT,Nat.reduceEqDiff,Int.reduceAdd,Int.reduceSub,Int.reduceMul,Int.reduceNeg,Int.reduceLT,Int.reduceLE,Int.reduceEq,Int.reduceToNat,Int.cast_ofNat_Int,↓reduceIte, *]
          refine ⟨u, rfl, ?_⟩
          have q1 : Sl (fun b => H1.length ≤ b ∧ b < H2.length) H2 w ls := hw.low
          have q2 : ∀ b, u.blk = some b → b < H1.length ∨ H2.length ≤ b := fun b e => .inl (hu.blk_lt e).2
          exact ⟨q1, q2, by simpa [preL] using hu2⟩
      · simp (disch := (first | assumption | omega | (simp only [List.length_append, List.length_cons, List.length_nil]; omega))) only [↓wD,wU,Nat.reduceBEq,zx150,zx151,zx159,zx160,zx161,zx162,Nat.reduceAdd,Nat.reduceSub,Nat.reduceMul,Nat.reduceLeDiff,Nat.reduceLT,Nat.reduceEqDiff,Int.reduceAdd,Int.reduceSub,Int.reduceMul,Int.reduceNeg,Int.reduceLT,Int.reduceLE,Int.reduceEq,Int.reduceToNat,Int.cast_ofNat_Int,↓reduceIte, *]
        rw [List.take_of_length_le (by omega)] at hu
        exact hu.sl.weak fun b h => .inr (by omega)
    · simp (disch := (first | assumption | omega | (simp only [List.length_append, List.length_cons, List.length_nil]; omega))) only [↓wD,wU,Nat.reduceBEq,zx150,zx151,zx159,zx160,zx161,zx162,Nat.reduceAdd,Nat.reduceSub,Nat.reduceMul,Nat.reduceLeDiff,Nat.reduceLT,Nat.reduceEqDiff,Int.reduceAdd,Int.reduceSub,Int.reduceMul,Int.reduceNeg,Int.reduceLT,Int.reduceLE,Int.reduceEq,Int.reduceToNat,Int.cast_ofNat_Int,↓reduceIte, *]
      exact ⟨.nils, rfl, Gr.refl _, Acc.nil⟩
theorem flat_le {ys : List Int} {f : Int → List (List Int)} {m : Nat} (h : ∀ y ∈ ys, (f y).length ≤ m) : (ys.flatMap f).length ≤ ys.length * m := by
  induction ys with
  | nil => simp
  | cons y ys ih =>
    have h1 := h y (by simp)
    have h2 := ih fun z hz => h z (by simp [hz])
    simp only [List.flatMap_cons, List.length_append, List.length_cons, Nat.succ_mul]; omega
theorem choose_ret {n : Int} (hn : 0 ≤ n) (hn2 : n ≤ 100) (hs : ∀ t x, t ≤ 4 → 0 ≤ x → (sufs true n t x).length ≤ 1000000) : ∀ (t : Nat), t ≤ 4 → ∀ (x : Int), 0 ≤ x → x ≤ 101 → ∀ (H : Heap), Ret E 73 [.i n, .i t, .i x] (fun _ => False) H (sufs true n t x) := by
  intro t
  induction t with
  | zero =>
    intro _ x _ _ H
    refine Ret.ro rfl fn73 rfl ?_
    unfold f73A
    simp (disch := (first | assumption | omega | (simp only [List.length_append, List.length_cons, List.length_nil]; omega))) only [↓wD,wU,Nat.reduceBEq,zx150,zx151,zx159,zx160,zx161,zx162,Nat.reduceAdd,Nat.reduceSub,Nat.reduceMul,Nat.reduceLeDiff,Nat.reduceLT,Nat.reduceEqDiff,Int.reduceAdd,Int.reduceSub,Int.reduceMul,Int.reduceNeg,Int.reduceLT,Int.reduceLE,Int.reduceEq,Int.reduceToNat,Int.cast_ofNat_Int,↓reduceIte, *]
    exact Sl.litL (us := [.nils]) (xs := [[]]) get_last (.inr (Nat.le_refl _)) (show 1 ≤ 9223372036854775807 by omega) rfl fun i h1 h2 => by
      have : i = 0 := by simp at h2; omega
      subst this; exact Sl.nil
  | succ t ih =>
    intro ht x hx0 hx1 H
    refine Ret.ro rfl fn73 rfl ?_
    unfold f73A
    simp (disch := (first | assumption | omega | (simp only [List.length_append, List.length_cons, List.length_nil]; omega))) only [↓wD,wU,Nat.reduceBEq,zx150,zx151,zx159,zx160,zx161,zx162,Nat.reduceAdd,Nat.reduceSub,Nat.reduceMul,Nat.reduceLeDiff,Nat.reduceLT,Nat.reduceEqDiff,Int.reduceAdd,Int.reduceSub,Int.reduceMul,Int.reduceNeg,Int.reduceLT,Int.reduceLE,Int.reduceEq,Int.reduceToNat,Int.cast_ofNat_Int,↓reduceIte, *]
    have hrl : (rng x n).length = (n - x).toNat := by rw [rng_len]
    have eall : sufs true n (t + 1) x = (rng x n).flatMap fun y => preL (sufs true n t (y + 1)) y := rfl
    rw [eall]
    clear eall
    refine Wp.for (n - x).toNat (fun i a H' => ∃ u z, a 0 = .i n ∧ a 1 = .i (t + 1) ∧ a 8 = .i z ∧ (z ≤ x + i ∧ x + i ≤ z) ∧ a 7 = u ∧ Gr H H' ∧ Acc H.length (fun b => H.length ≤ b) H' u (((rng x n).take i).flatMap fun y => preL (sufs true n t (y + 1)) y)) ?_ ?_
    · rintro i a H1 hi ⟨u, z, a0, a1, a8, hz, a7, hg, hu⟩ ihl
      simp (disch := (first | assumption | omega | (simp only [List.length_append, List.length_cons, List.length_nil]; omega))) only [↓wD,wU,Nat.reduceBEq,zx150,zx151,zx159,zx160,zx161,zx162,Nat.reduceAdd,Nat.reduceSub,Nat.reduceMul,Nat.reduceLeDiff,Nat.reduceLT,Nat.reduceEqDiff,Int.reduceAdd,Int.reduceSub,Int.reduceMul,Int.reduceNeg,Int.reduceLT,Int.reduceLE,Int.reduceEq,Int.reduceToNat,Int.cast_ofNat_Int,↓reduceIte, *]
      refine condP_split (fun hlt => ?_) (fun hlt => ?_)
      · have hi' : i < (n - x).toNat := by omega
        have e1 : (t : Int) + 1 - 1 = t := by omega
        have hsl := hs t (z + 1) (by omega) (by omega)
        have hlb : ∀ l ∈ sufs true n t (z + 1), l.length ≤ 100 := fun l hl => by have := sufs_len hl; omega
        have hrec := ih (by omega) (z + 1) (by omega) (by omega) H1
        have hpre : (((rng x n).take i).flatMap fun y => preL (sufs true n t (y + 1)) y).length ≤ 100 * 1000000 := by
          refine Nat.le_trans (flat_le (m := 1000000) fun y hy => by unfold preL; rw [List.length_map]; exact hs t _ (by omega) (by have := (rng_mem (List.mem_of_mem_take hy)).1; omega)) ?_
          rw [List.length_take, hrl]
          exact Nat.mul_le_mul (by omega) (Nat.le_refl _)
        have hnext : ((rng x n).take (i + 1)).flatMap (fun y => preL (sufs true n t (y + 1)) y) = (((rng x n).take i).flatMap fun y => preL (sufs true n t (y + 1)) y) ++ preL (sufs true n t (z + 1)) z := by
          have hi2 : i < (rng x n).length := by omega
          have ez : x + (i : Int) = z := by omega
          rw [take_gi hi2, rng_at hi2, ez, List.flatMap_append]
          simp
        obtain ⟨ls, els⟩ : ∃ ls, sufs true n t (z + 1) = ls := ⟨_, rfl⟩
        obtain ⟨pre, epre⟩ : ∃ pre, (((rng x n).take i).flatMap fun y => preL (sufs true n t (y + 1)) y) = pre := ⟨_, rfl⟩
        rw [els] at hsl hlb hrec hnext
        rw [epre] at hpre hnext hu
        clear els epre
        simp (disch := (first | assumption | omega | (simp only [List.length_append, List.length_cons, List.length_nil]; omega))) only [↓wD,wU,Nat.reduceBEq,zx150,zx151,zx159,zx160,zx161,zx162,Nat.reduceAdd,Nat.reduceSub,Nat.reduceMul,Nat.reduceLeDiff,Nat.reduceLT,Nat.reduceEqDiff,Int.reduceAdd,Int.reduceSub,Int.reduceMul,Int.reduceNeg,Int.reduceLT,Int.reduceLE,Int.reduceEq,Int.reduceToNat,Int.cast_ofNat_Int,↓reduceIte, *, e1]
        refine hrec.toFX fun w H2 x12 hw => ?_
        have hg2 : Gr H H2 := hg.trans (x12.kp.weakT)
        have hu2 := hu.gr (x12.kp.weakT)
        simp (disch := (first | assumption | omega | (simp only [List.length_append, List.length_cons, List.length_nil]; omega))) only [↓wD,wU,Nat.reduceBEq,zx150,zx151,zx159,zx160,zx161,zx162,Nat.reduceAdd,Nat.reduceSub,Nat.reduceMul,Nat.reduceLeDiff,Nat.reduceLT,Nat.reduceEqDiff,Int.reduceAdd,Int.reduceSub,Int.reduceMul,Int.reduceNeg,Int.reduceLT,Int.reduceLE,Int.reduceEq,Int.reduceToNat,Int.cast_ofNat_Int,↓reduceIte, *, hw.L]
        refine Wp.for ls.length (fun j a H' => ∃ u, a 0 = .i n ∧ a 1 = .i (t + 1) ∧ a 8 = .i z ∧ a 7 = u ∧ a 25 = w ∧ a 26 = .i ls.length ∧ a 27 = .i j ∧ Gr H H' ∧ Sl (fun b => H1.length ≤ b ∧ b < H2.length) H' w ls ∧ (∀ b, u.blk = some b → b < H1.length ∨ H2.length ≤ b) ∧ H2.length ≤ H'.length ∧ Acc H.length (fun b => H.length ≤ b) H' u (pre ++ preL (ls.take j) z)) ?_ ?_
        · clear a0 a1 a7 a8
          rintro j a H3 hj ⟨u, a0, a1, a8, a7, a25, a26, a27, hg3, hw3, hub, hl3, hu3⟩ ih2
          simp (disch := (first | assumption | omega | (simp only [List.length_append, List.length_cons, List.length_nil]; omega))) only [↓wD,wU,Nat.reduceBEq,zx150,zx151,zx159,zx160,zx161,zx162,Nat.reduceAdd,Nat.reduceSub,Nat.reduceMul,Nat.reduceLeDiff,Nat.reduceLT,Nat.reduceEqDiff,Int.reduceAdd,Int.reduceSub,Int.reduceMul,Int.reduceNeg,Int.reduceLT,Int.reduceLE,Int.reduceEq,Int.reduceToNat,Int.cast_ofNat_Int,↓reduceIte, *]
          refine condP_split (fun hlt2 => ?_) (fun hlt2 => ?_)
          · have hj' : j < ls.length := by omega
            have g := hw3.get (k := (j : Int)) (by omega) (by omega)
            have hgl : (gi ls (j : Int)).length ≤ 100 := hlb _ (mem_gi hj')
            simp (disch := (first | assumption | omega | (simp only [List.length_append, List.length_cons, List.length_nil]; omega))) only [↓wD,wU,Nat.reduceBEq,zx150,zx151,zx159,zx160,zx161,zx162,Nat.reduceAdd,Nat.reduceSub,Nat.reduceMul,Nat.reduceLeDiff,Nat.reduceLT,Nat.reduceEqDiff,Int.reduceAdd,Int.reduceSub,Int.reduceMul,Int.reduceNeg,Int.reduceLT,Int.reduceLE,Int.reduceEq,Int.reduceToNat,Int.cast_ofNat_Int,↓reduceIte, *, hw3.L]
            refine app_lit g (by have := hg3.1; omega) (by omega) rfl fun y H4 hy hg4 => ?_
            simp (disch := (first | assumption | omega | (simp only [List.length_append, List.length_cons, List.length_nil]; omega))) only [↓wD,wU,Nat.reduceBEq,zx150,zx151,zx159,zx160,zx161,zx162,Nat.reduceAdd,Nat.reduceSub,Nat.reduceMul,Nat.reduceLeDiff,Nat.reduceLT,Nat.reduceEqDiff,Int.reduceAdd,Int.reduceSub,Int.reduceMul,Int.reduceNeg,Int.reduceLT,Int.reduceLE,Int.reduceEq,Int.reduceToNat,Int.cast_ofNat_Int,↓reduceIte, *, hy.cellsV]
            have hu4 := hu3.gr hg4
            have h34 := hg4.1
            have h03 := hg3.1
            have h01 := hg.1
            refine hu4.pushL (by omega) (by omega) hy (fun b hb => ⟨by omega, fun e => by have := (hu3.blk_lt e).2; omega⟩) ?_ fun u' H5 hu5 hk hl5 hb5 => ?_
            · rw [List.length_append]
              simp [preL]; omega
            · simp (disch := (first | assumption | omega | (simp only [List.length_append, List.length_cons, List.length_nil]; omega))) only [↓wD,wU,Nat.reduceBEq,zx150,zx151,zx159,zx160,zx161,zx162,Nat.reduceAdd,Nat.reduceSub,Nat.reduceMul,Nat.reduceLeDiff,Nat.reduceLT,Nat.reduceEqDiff,Int.reduceAdd,Int.reduceSub,Int.reduceMul,Int.reduceNeg,Int.reduceLT,Int.reduceLE,Int.reduceEq,Int.reduceToNat,Int.cast_ofNat_Int,↓reduceIte, *]
              refine (ih2 hj').go ⟨u', ?_⟩
              simp (disch := (first | assumption | omega | (simp only [List.length_append, List.length_cons, List.length_nil]; omega))) only [↓wD,wU,Nat.reduceBEq,zx150,zx151,zx159,zx160,zx161,zx162,Nat.reduceAdd,Nat.reduceSub,Nat.reduceMul,Nat.reduceLeDiff,Nat.reduceLT,Nat.reduceEqDiff,Int.reduceAdd,Int.reduceSub,Int.reduceMul,Int.reduceNeg,Int.reduceLT,Int.reduceLE,Int.reduceEq,Int.reduceToNat,Int.cast_ofNat_Int,↓reduceIte, *]
              refine ⟨(hg3.trans hg4).push hu4 (Nat.le_refl _) hk, ?_, ?_, by omega, ?_⟩
              · exact (hw3.gr hg4).kp (hk.weak fun b hb e => by have := hub b e; omega)
              · intro b e
                first | rw [hb5] at e | skip
                simp only [Option.some.injEq] at e
                omega
              · rw [take_gi hj']
                simpa [preL] using hu5
          · obtain rfl : j = ls.length := by omega
            simp (disch := (first | assumption | omega | (simp only [List.length_append, List.length_cons, List.length_nil]; omega))) only [↓wD,wU,Nat.reduceBEq,zx150,zx151,zx159,zx160,zx161,zx162,Nat.reduceAdd,Nat.reduceSub,Nat.reduceMul,Nat.reduceLeDiff,Nat.reduceLT,Nat.reduceEqDiff,Int.reduceAdd,Int.reduceSub,Int.reduceMul,Int.reduceNeg,Int.reduceLT,Int.reduceLE,Int.reduceEq,Int.reduceToNat,Int.cast_ofNat_Int,↓reduceIte, *]
            refine (ihl hi').go ⟨u, z + 1, ?_⟩
            rw [List.take_length] at hu3
            rw [← hnext] at hu3
            clear hnext
            simp (disch := (first | assumption | omega | (simp only [List.length_append, List.length_cons, List.length_nil]; omega))) only [↓wD,wU,Nat.reduceBEq,zx150,zx151,zx159,zx160,zx161,zx162,Nat.reduceAdd,Nat.reduceSub,Nat.reduceMul,Nat.reduceLeDiff,Nat.reduceLT,Nat.reduceEqDiff,Int.reduceAdd,Int.reduceSub,Int.reduceMul,Int.reduceNeg,Int.reduceLT,Int.reduceLE,Int.reduceEq,Int.reduceToNat,Int.cast_ofNat_Int,↓reduceIte, *]
            omega
        · clear hnext
          simp (disch := (first | assumption | omega | (simp only [List.length_append, List.length_cons, List.length_nil]; omega))) only [↓wD,wU,Nat.reduceBEq,zx150,zx151,zx159,zx160,zx161,zx162,Nat.reduceAdd,Nat.reduceSub,Nat.reduceMul,Nat.reduceLeDiff,Nat.reduceLT,Nat.reduceEqDiff,Int.reduceAdd,Int.reduceSub,Int.reduceMul,Int.reduceNeg,Int.reduceLT,Int.reduceLE,Int.reduceEq,Int.reduceToNat,Int.cast_ofNat_Int,↓reduceIte, *]
          refine ⟨u, rfl, ?_⟩
          have q1 : Sl (fun b => H1.length ≤ b ∧ b < H2.length) H2 w ls := hw.low
          have q2 : ∀ b, u.blk = some b → b < H1.length ∨ H2.length ≤ b := fun b e => .inl (hu.blk_lt e).2
          exact ⟨q1, q2, by simpa [preL] using hu2⟩
      · simp (disch := (first | assumption | omega | (simp only [List.length_append, List.length_cons, List.length_nil]; omega))) only [↓wD,wU,Nat.reduceBEq,zx150,zx151,zx159,zx160,zx161,zx162,Nat.reduceAdd,Nat.reduceSub,Nat.reduceMul,Nat.reduceLeDiff,Nat.reduceLT,Nat.reduceEqDiff,Int.reduceAdd,Int.reduceSub,Int.reduceMul,Int.reduceNeg,Int.reduceLT,Int.reduceLE,Int.reduceEq,Int.reduceToNat,Int.cast_ofNat_Int,↓reduceIte, *]
        rw [List.take_of_length_le (by omega)] at hu
        exact hu.sl.weak fun b h => .inr (by omega)
    · simp (disch := (first | assumption | omega | (simp only [List.length_append, List.length_cons, List.length_nil]; omega))) only [↓wD,wU,Nat.reduceBEq,zx150,zx151,zx159,zx160,zx161,zx162,Nat.reduceAdd,Nat.reduceSub,Nat.reduceMul,Nat.reduceLeDiff,Nat.reduceLT,Nat.reduceEqDiff,Int.reduceAdd,Int.reduceSub,Int.reduceMul,Int.reduceNeg,Int.reduceLT,Int.reduceLE,Int.reduceEq,Int.reduceToNat,Int.cast_ofNat_Int,↓reduceIte, *]
      exact ⟨.nils, x, rfl, by omega, rfl, Gr.refl _, Acc.nil⟩
end Go.Proofs.Ytalaadcbpjnglaa
namespace Go.Proofs.Ytalaadcbpjnglaa
open Go Go.AM Go.Proofs
theorem sufs_count {r : Bool} {n : Int} : ∀ {t : Nat} {x : Int}, 0 ≤ x → (sufs r n t x).length ≤ n.toNat ^ t
  | 0, x, _ => by simp [sufs]
  | t + 1, x, hx => by
    simp only [sufs]
    refine Nat.le_trans (flat_le (m := n.toNat ^ t) fun y hy => ?_) ?_
    · rw [List.length_map]
      exact sufs_count (by have := (rng_mem hy).1; split <;> omega)
    · rw [rng_len, Nat.pow_succ, Nat.mul_comm]
      exact Nat.mul_le_mul_left _ (by omega)
theorem pow_small {a b t m : Nat} (h : a ≤ b) (ht : t ≤ m) (hb : 1 ≤ b) : a ^ t ≤ b ^ m := Nat.le_trans (Nat.pow_le_pow_left h t) (Nat.pow_le_pow_right hb ht)
theorem sufs_small {r : Bool} {n : Int} {t : Nat} {x : Int} (hx : 0 ≤ x) (hn : n ≤ 8) (ht : t ≤ 4) : (sufs r n t x).length ≤ 4096 :=
  Nat.le_trans (sufs_count hx) (Nat.le_trans (pow_small (b := 8) (m := 4) (by omega) ht (by omega)) (by decide))
theorem allL_len {v : Int} {t : List (List Int)} {k : Nat} (hA : ArrP v t) (hk : k ≤ 3) : (allL v t k).length ≤ 1000000 := by
  have hw := hA.wd
  have h1 := sufs_count (r := true) (n := wd t) (t := k) (x := 0) (by omega)
  have h2 := sufs_count (r := false) (n := v) (t := k) (x := 0) (by omega)
  have h3 : (wd t : Int).toNat ^ k ≤ 8 ^ 3 := pow_small (by omega) hk (by omega)
  have h4 : v.toNat ^ k ≤ 4 ^ 3 := pow_small (by have := hA.2.1; omega) hk (by omega)
  have h5 : (allL v t k).length ≤ (sufs true (wd t) k 0).length * 64 := by
    unfold allL
    generalize sufs true (wd t) k 0 = cs
    induction cs with
    | nil => simp
    | cons c cs ih =>
      simp only [List.flatMap_cons, List.length_append, List.length_cons, Nat.succ_mul]
      have : (allC v t k c).length ≤ 64 := by unfold allC; rw [List.length_map]; omega
      omega
  omega
end Go.Proofs.Ytalaadcbpjnglaa
namespace Go.Proofs.Ytalaadcbpjnglaa
open Go Go.AM Go.Proofs
theorem zeros_append (l m : List (List Int × Nat)) : zeros (l ++ m) = zeros l ++ zeros m := by simp [zeros]
/-- a slice in new memory -/
theorem app_one {q : Nat → Prop} {H : Heap} {lo n : Nat} {y : AV} {ys : List Int} {Q : AV × Heap → Prop} (hy : Sl q H y ys) (hlo : lo ≤ H.length) (hb : ys.length * 8 ≤ 1099511627776) (hn : n = H.length)
    (go : ∀ v' H', Acc H.length (fun _ => True) H' v' ys → Gr H H' → Q (v', H')) : @optP _ (appendV lo 1 8 (.s 1 n 0 0 (some 0)) y (H ++ [.cells []])) ⟨Q⟩ := by
  subst hn
  have ha : Acc H.length (fun _ => True) (H ++ [.cells []]) (.s 1 H.length 0 0 (some 0)) ([] : List Int) := Acc.fresh0 (Nat.le_refl _)
  refine ha.extend (q := fun b => b < H.length) hlo (by simp) ((hy.low.app [.cells []]).weak fun b h => h.2) (fun b hb => ⟨trivial, fun e => ?_⟩) (by simp; omega) (by omega) fun v' H' h1 h2 => go v' H' (by simpa using h1) ?_
  · simp only [AV.blk, Option.some.injEq] at e; omega
  · exact ((Gr.refl H).app _).trans' h2 fun b hb e => by simp only [AV.blk, Option.some.injEq] at e; omega
theorem Acc.int {L : Nat} {q : Nat → Prop} {H : Heap} {v : AV} {xs : List Int} (h : Acc L q H v xs) : Sl (fun b => L ≤ b) H v xs := by
  rcases h with h | ⟨b, o, c, k, e, hb, hk, h1, h2, h3⟩
  · exact .inl h
  · exact .inr ⟨b, o, c, k, e, hb, hk, h1, h2, h3⟩
theorem rmissing_ret {p : Nat → Prop} {H : Heap} {rows : AV} {v : Int} {t : List (List Int)} {k : Nat} (ht : Sl p H rows t) (hA : ArrP v t) (h2 : k ≤ 3) :
    Ret E 66 [.ag [.i v, rows], .i k] (fun _ => False) H (zeros (allL v t k)) := by
  refine Ret.ro rfl fn66 rfl ?_
  unfold f66A
  have hw := hA.wd
  have hlow : Sl (fun b => b < H.length) H rows t := ht.low.weak fun _ h => h.2
  have k1 := ht.app [.cells [.i v, rows]]
  have v1 := hA.1
  have v2 := hA.2.1
  have hlen := allL_len hA h2
  simp (disch := (first | assumption | omega | (simp only [List.length_append, List.length_cons, List.length_nil]; omega))) only [↓wD,wU,Nat.reduceBEq,zx150,zx151,zx159,zx160,zx161,zx162,Nat.reduceAdd,Nat.reduceSub,Nat.reduceMul,Nat.reduceLeDiff,Nat.reduceLT,Nat.reduceEqDiff,Int.reduceAdd,Int.reduceSub,Int.reduceMul,Int.reduceNeg,Int.reduceLT,Int.reduceLE,Int.reduceEq,Int.reduceToNat,Int.cast_ofNat_Int,↓reduceIte, *, ht.cellsV, (width_ret k1 hA.2.2.1).call]
  refine (choose_ret (n := wd t) (by omega) (by omega) (fun t' x ht' hx => by have := sufs_small (r := true) (n := wd t) (t := t') hx (by omega) ht'; omega) k (by omega) 0 (by omega) (by omega) _).toFX fun cv H1 x01 hcv => ?_
  · have c1 : H1[H.length]? = some (.cells [.i v, rows]) := x01.get trivial (by simp)
    have hx1 : Kx (fun _ => True) H H1 := (Kx.app _ _ _).trans x01 fun _ _ _ => trivial
    obtain ⟨cl, ecl⟩ : ∃ cl, sufs true (wd t) k 0 = cl := ⟨_, rfl⟩
    rw [ecl] at hcv
    simp (disch := (first | assumption | omega | (simp only [List.length_append, List.length_cons, List.length_nil]; omega))) only [↓wD,wU,Nat.reduceBEq,zx150,zx151,zx159,zx160,zx161,zx162,Nat.reduceAdd,Nat.reduceSub,Nat.reduceMul,Nat.reduceLeDiff,Nat.reduceLT,Nat.reduceEqDiff,Int.reduceAdd,Int.reduceSub,Int.reduceMul,Int.reduceNeg,Int.reduceLT,Int.reduceLE,Int.reduceEq,Int.reduceToNat,Int.cast_ofNat_Int,↓reduceIte, *, hcv.L]
    refine Wp.for cl.length (fun i a H' => ∃ u, a 1 = .i k ∧ a 2 = .p H.length 0 ∧ a 5 = u ∧ a 13 = cv ∧ a 14 = .i cl.length ∧ a 15 = .i i ∧ Gr H1 H' ∧ (∀ b, u.blk = some b → H1.length ≤ b) ∧ Acc H1.length (fun b => H1.length ≤ b) H' u (zeros ((cl.take i).flatMap (allC v t k)))) ?_ ?_
    · rintro i a H2 hi ⟨u, a1, a2, a5, a13, a14, a15, hg, hub, hu⟩ ih
      simp (disch := (first | assumption | omega | (simp only [List.length_append, List.length_cons, List.length_nil]; omega))) only [↓wD,wU,Nat.reduceBEq,zx150,zx151,zx159,zx160,zx161,zx162,Nat.reduceAdd,Nat.reduceSub,Nat.reduceMul,Nat.reduceLeDiff,Nat.reduceLT,Nat.reduceEqDiff,Int.reduceAdd,Int.reduceSub,Int.reduceMul,Int.reduceNeg,Int.reduceLT,Int.reduceLE,Int.reduceEq,Int.reduceToNat,Int.cast_ofNat_Int,↓reduceIte, *]
      refine condP_split (fun hlt => ?_) (fun hlt => ?_)
      · have hi' : i < cl.length := by omega
        have hcv2 := (hcv.low.gr hg).weak (q := fun b => b < H1.length) fun b h => h.2
        have g := hcv2.get (k := (i : Int)) (by omega) (by omega)
        have c2 := hg.get c1
        have hgi : gi cl (i : Int) ∈ sufs true (wd t) k 0 := by rw [ecl]; exact mem_gi hi'
        have hcl := sufs_len hgi
        have hcb := sufs_in (Int.le_refl 0) hgi
        have hnext : (cl.take (i + 1)).flatMap (allC v t k) = (cl.take i).flatMap (allC v t k) ++ allC v t k (gi cl (i : Int)) := by
          rw [take_gi hi', List.flatMap_append]; simp
        have hpl : ((cl.take i).flatMap (allC v t k)).length + (allC v t k (gi cl (i : Int))).length ≤ 1000000 := by
          rw [← List.length_append, ← hnext]
          refine Nat.le_trans ?_ hlen
          unfold allL; rw [ecl]
          conv => rhs; rw [← List.take_append_drop (i + 1) cl]
          rw [List.flatMap_append, List.length_append]; omega
        clear hgi
        simp (disch := (first | assumption | omega | (simp only [List.length_append, List.length_cons, List.length_nil]; omega))) only [↓wD,wU,Nat.reduceBEq,zx150,zx151,zx159,zx160,zx161,zx162,Nat.reduceAdd,Nat.reduceSub,Nat.reduceMul,Nat.reduceLeDiff,Nat.reduceLT,Nat.reduceEqDiff,Int.reduceAdd,Int.reduceSub,Int.reduceMul,Int.reduceNeg,Int.reduceLT,Int.reduceLE,Int.reduceEq,Int.reduceToNat,Int.cast_ofNat_Int,↓reduceIte, *, hcv2.L, ld_of c2]
        obtain ⟨cs, ecs⟩ : ∃ cs, gi cl (i : Int) = cs := ⟨_, rfl⟩
        obtain ⟨cu, ecu⟩ : ∃ cu, cv.get H2 i = cu := ⟨_, rfl⟩
        obtain ⟨pre, epre⟩ : ∃ pre, (cl.take i).flatMap (allC v t k) = pre := ⟨_, rfl⟩
        rw [ecs] at g hcl hcb hnext hpl
        rw [epre] at hnext hpl hu
        rw [ecu] at g ⊢
        clear ecs ecu epre
        refine (words_ret (v := v) (by omega) (by omega) (fun t' ht' => by have := sufs_small (r := false) (n := v) (t := t') (Int.le_refl 0) (by omega) ht'; unfold wordsL; omega) k (by omega) H2).toFX fun wv H3 x23 hwv => ?_
        obtain ⟨wl, ewl⟩ : ∃ wl, wordsL v k = wl := ⟨_, rfl⟩
        have eC : allC v t k cs = wl.map fun ks => (cs ++ ks, oft t cs ks) := by rw [← ewl]; rfl
        have hwlen : ∀ l ∈ wl, l.length = k := by rw [← ewl]; exact fun l hl => sufs_len hl
        rw [ewl] at hwv
        clear ewl
        rw [eC] at hnext hpl
        clear eC
        simp (disch := (first | assumption | omega | (simp only [List.length_append, List.length_cons, List.length_nil]; omega))) only [↓wD,wU,Nat.reduceBEq,zx150,zx151,zx159,zx160,zx161,zx162,Nat.reduceAdd,Nat.reduceSub,Nat.reduceMul,Nat.reduceLeDiff,Nat.reduceLT,Nat.reduceEqDiff,Int.reduceAdd,Int.reduceSub,Int.reduceMul,Int.reduceNeg,Int.reduceLT,Int.reduceLE,Int.reduceEq,Int.reduceToNat,Int.cast_ofNat_Int,↓reduceIte, *, hwv.L]
        have hg3 : Gr H1 H3 := hg.trans x23.kp.weakT
        refine Wp.for wl.length (fun j a H' => ∃ u, a 1 = .i k ∧ a 2 = .p H.length 0 ∧ a 5 = u ∧ a 7 = cu ∧ a 13 = cv ∧ a 14 = .i cl.length ∧ a 15 = .i i ∧ a 22 = wv ∧ a 23 = .i wl.length ∧ a 24 = .i j ∧ Gr H1 H' ∧ Sl (fun b => b < H1.length) H' cu cs ∧ Sl (fun b => H2.length ≤ b ∧ b < H3.length) H' wv wl ∧ (∀ b, u.blk = some b → H1.length ≤ b ∧ (b < H2.length ∨ H3.length ≤ b)) ∧ H3.length ≤ H'.length ∧ Acc H1.length (fun b => H1.length ≤ b) H' u (zeros (pre ++ (wl.take j).map fun ks => (cs ++ ks, oft t cs ks)))) ?_ ?_
        · clear a1 a2 a5 a13 a14 a15
          rintro j a H4 hj ⟨u, a1, a2, a5, a7, a13, a14, a15, a22, a23, a24, hg4, hcu4, hwv4, hub4, hl4, hu4⟩ ih2
          simp (disch := (first | assumption | omega | (simp only [List.length_append, List.length_cons, List.length_nil]; omega))) only [↓wD,wU,Nat.reduceBEq,zx150,zx151,zx159,zx160,zx161,zx162,Nat.reduceAdd,Nat.reduceSub,Nat.reduceMul,Nat.reduceLeDiff,Nat.reduceLT,Nat.reduceEqDiff,Int.reduceAdd,Int.reduceSub,Int.reduceMul,Int.reduceNeg,Int.reduceLT,Int.reduceLE,Int.reduceEq,Int.reduceToNat,Int.cast_ofNat_Int,↓reduceIte, *]
          refine condP_split (fun hlt2 => ?_) (fun hlt2 => ?_)
          · have hj' : j < wl.length := by omega
            have hbw := hwv4.bound
            have gk := hwv4.get (k := (j : Int)) (by omega) (by omega)
            have c4 := hg4.get c1
            have hkl := hwlen _ (mem_gi hj')
            have hrow := (hlow.kp hx1.kp.weakT).gr hg4
            have htm := times_ret hrow hcu4 gk (by omega) fun c hc => ⟨(hcb c hc).1, fun r hr => by rw [(hA.row hr).1]; exact (hcb c hc).2⟩
            have hz : zeros (pre ++ (wl.take (j + 1)).map fun ks => (cs ++ ks, oft t cs ks)) = zeros (pre ++ (wl.take j).map fun ks => (cs ++ ks, oft t cs ks)) ++ if oft t cs (gi wl j) = 0 then [cs ++ gi wl j] else [] := by
              rw [take_gi hj', List.map_append, ← List.append_assoc, zeros_append]
              congr 1
              by_cases h0 : oft t cs (gi wl (j : Int)) = 0 <;> simp [zeros, h0]
            have hll : (zeros (pre ++ (wl.take j).map fun ks => (cs ++ ks, oft t cs ks))).length ≤ 1000000 := by
              refine Nat.le_trans (zeros_len _) ?_
              rw [List.length_append, List.length_map, List.length_take]
              rw [List.length_map] at hpl
              omega
            simp (disch := (first | assumption | omega | (simp only [List.length_append, List.length_cons, List.length_nil]; omega))) only [↓wD,wU,Nat.reduceBEq,zx150,zx151,zx159,zx160,zx161,zx162,Nat.reduceAdd,Nat.reduceSub,Nat.reduceMul,Nat.reduceLeDiff,Nat.reduceLT,Nat.reduceEqDiff,Int.reduceAdd,Int.reduceSub,Int.reduceMul,Int.reduceNeg,Int.reduceLT,Int.reduceLE,Int.reduceEq,Int.reduceToNat,Int.cast_ofNat_Int,↓reduceIte, *, hwv4.L, ld_of c4, htm.call]
            refine condP_split (fun h0 => ?_) (fun h0 => ?_)
            · rw [if_pos (by omega)] at hz
              simp (disch := (first | assumption | omega | (simp only [List.length_append, List.length_cons, List.length_nil]; omega))) only [↓wD,wU,Nat.reduceBEq,zx150,zx151,zx159,zx160,zx161,zx162,Nat.reduceAdd,Nat.reduceSub,Nat.reduceMul,Nat.reduceLeDiff,Nat.reduceLT,Nat.reduceEqDiff,Int.reduceAdd,Int.reduceSub,Int.reduceMul,Int.reduceNeg,Int.reduceLT,Int.reduceLE,Int.reduceEq,Int.reduceToNat,Int.cast_ofNat_Int,↓reduceIte, *]
              have lc : cs.length + (gi wl (j : Int)).length ≤ 6 := by omega
              refine app_one hcu4 (by have := hx1.1; have := hg4.1; omega) (by omega) rfl fun y0 H5' hy0 hg5' => ?_
              simp (disch := (first | assumption | omega | (simp only [List.length_append, List.length_cons, List.length_nil]; omega))) only [↓wD,wU,Nat.reduceBEq,zx150,zx151,zx159,zx160,zx161,zx162,Nat.reduceAdd,Nat.reduceSub,Nat.reduceMul,Nat.reduceLeDiff,Nat.reduceLT,Nat.reduceEqDiff,Int.reduceAdd,Int.reduceSub,Int.reduceMul,Int.reduceNeg,Int.reduceLT,Int.reduceLE,Int.reduceEq,Int.reduceToNat,Int.cast_ofNat_Int,↓reduceIte, *]
              refine hy0.extend (q := fun b => b < H4.length) (by have := hx1.1; have := hg4.1; omega) hg5'.1 ((gk.low.gr hg5').weak fun b h => h.2) (fun b hb => ⟨trivial, fun e => by have := (hy0.blk_lt e).1; omega⟩) (by omega) (by omega) fun y H5 hy hk5 => ?_
              replace hy := Acc.int hy
              have hg5 : Gr H4 H5 := hg5'.trans' hk5 fun b hb e => by have := (hy0.blk_lt e).1; omega
              simp (disch := (first | assumption | omega | (simp only [List.length_append, List.length_cons, List.length_nil]; omega))) only [↓wD,wU,Nat.reduceBEq,zx150,zx151,zx159,zx160,zx161,zx162,Nat.reduceAdd,Nat.reduceSub,Nat.reduceMul,Nat.reduceLeDiff,Nat.reduceLT,Nat.reduceEqDiff,Int.reduceAdd,Int.reduceSub,Int.reduceMul,Int.reduceNeg,Int.reduceLT,Int.reduceLE,Int.reduceEq,Int.reduceToNat,Int.cast_ofNat_Int,↓reduceIte, *, hy.cellsV]
              have l45 := hg5.1
              have l14 := hg4.1
              have l01 := hx1.1
              have hu5 := hu4.gr hg5
              refine hu5.pushL (by omega) (by omega) hy (fun b hb => ⟨by omega, fun e => by have := (hu4.blk_lt e).2; omega⟩) (by omega) fun u' H6 hu6 hk hl6 hb6 => ?_
              simp (disch := (first | assumption | omega | (simp only [List.length_append, List.length_cons, List.length_nil]; omega))) only [↓wD,wU,Nat.reduceBEq,zx150,zx151,zx159,zx160,zx161,zx162,Nat.reduceAdd,Nat.reduceSub,Nat.reduceMul,Nat.reduceLeDiff,Nat.reduceLT,Nat.reduceEqDiff,Int.reduceAdd,Int.reduceSub,Int.reduceMul,Int.reduceNeg,Int.reduceLT,Int.reduceLE,Int.reduceEq,Int.reduceToNat,Int.cast_ofNat_Int,↓reduceIte, *]
              refine (ih2 hj').go ⟨u', ?_⟩
              rw [← hz] at hu6
              have q1 : Gr H1 H6 := (hg4.trans hg5).push hu5 (Nat.le_refl _) hk
              have q2 : Sl (fun b => b < H1.length) H6 cu cs := (hcu4.gr hg5).kp (hk.weak fun b hb e => by have := (hub4 b e).1; omega)
              have q3 : Sl (fun b => H2.length ≤ b ∧ b < H3.length) H6 wv wl := (hwv4.gr hg5).kp (hk.weak fun b hb e => by have := (hub4 b e).2; omega)
              have q4 : ∀ b, u'.blk = some b → H1.length ≤ b ∧ (b < H2.length ∨ H3.length ≤ b) := fun b e => by rw [hb6] at e; simp only [Option.some.injEq] at e; omega
              have q5 : H3.length ≤ H6.length := by omega
              clear hz hb6
              simp (disch := (first | assumption | omega | (simp only [List.length_append, List.length_cons, List.length_nil]; omega))) only [↓wD,wU,Nat.reduceBEq,zx150,zx151,zx159,zx160,zx161,zx162,Nat.reduceAdd,Nat.reduceSub,Nat.reduceMul,Nat.reduceLeDiff,Nat.reduceLT,Nat.reduceEqDiff,Int.reduceAdd,Int.reduceSub,Int.reduceMul,Int.reduceNeg,Int.reduceLT,Int.reduceLE,Int.reduceEq,Int.reduceToNat,Int.cast_ofNat_Int,↓reduceIte, a1, a2, a7, a13, a14, a15, a22, a23, a24]
              exact ⟨q1, q2, q3, q4, q5, hu6⟩
            · rw [if_neg (by omega), List.append_nil] at hz
              simp (disch := (first | assumption | omega | (simp only [List.length_append, List.length_cons, List.length_nil]; omega))) only [↓wD,wU,Nat.reduceBEq,zx150,zx151,zx159,zx160,zx161,zx162,Nat.reduceAdd,Nat.reduceSub,Nat.reduceMul,Nat.reduceLeDiff,Nat.reduceLT,Nat.reduceEqDiff,Int.reduceAdd,Int.reduceSub,Int.reduceMul,Int.reduceNeg,Int.reduceLT,Int.reduceLE,Int.reduceEq,Int.reduceToNat,Int.cast_ofNat_Int,↓reduceIte, *]
              refine (ih2 hj').go ⟨u, ?_⟩
              rw [← hz] at hu4
              clear hz
              simp (disch := (first | assumption | omega | (simp only [List.length_append, List.length_cons, List.length_nil]; omega))) only [↓wD,wU,Nat.reduceBEq,zx150,zx151,zx159,zx160,zx161,zx162,Nat.reduceAdd,Nat.reduceSub,Nat.reduceMul,Nat.reduceLeDiff,Nat.reduceLT,Nat.reduceEqDiff,Int.reduceAdd,Int.reduceSub,Int.reduceMul,Int.reduceNeg,Int.reduceLT,Int.reduceLE,Int.reduceEq,Int.reduceToNat,Int.cast_ofNat_Int,↓reduceIte, a1, a2, a5, a7, a13, a14, a15, a22, a23, a24]
              exact ⟨hg4, hcu4, hwv4, hub4, hl4, hu4⟩
          · obtain rfl : j = wl.length := by omega
            simp (disch := (first | assumption | omega | (simp only [List.length_append, List.length_cons, List.length_nil]; omega))) only [↓wD,wU,Nat.reduceBEq,zx150,zx151,zx159,zx160,zx161,zx162,Nat.reduceAdd,Nat.reduceSub,Nat.reduceMul,Nat.reduceLeDiff,Nat.reduceLT,Nat.reduceEqDiff,Int.reduceAdd,Int.reduceSub,Int.reduceMul,Int.reduceNeg,Int.reduceLT,Int.reduceLE,Int.reduceEq,Int.reduceToNat,Int.cast_ofNat_Int,↓reduceIte, *]
            refine (ih hi').go ⟨u, ?_⟩
            rw [List.take_length, ← hnext] at hu4
            clear hnext
            have q1 : ∀ b, u.blk = some b → H1.length ≤ b := fun b e => (hub4 b e).1
            have hbc := hcv2.bound
            simp (disch := (first | assumption | omega | (simp only [List.length_append, List.length_cons, List.length_nil]; omega))) only [↓wD,wU,Nat.reduceBEq,zx150,zx151,zx159,zx160,zx161,zx162,Nat.reduceAdd,Nat.reduceSub,Nat.reduceMul,Nat.reduceLeDiff,Nat.reduceLT,Nat.reduceEqDiff,Int.reduceAdd,Int.reduceSub,Int.reduceMul,Int.reduceNeg,Int.reduceLT,Int.reduceLE,Int.reduceEq,Int.reduceToNat,Int.cast_ofNat_Int,↓reduceIte, a1, a2, a5, a7, a13, a14, a15, a22, a23, a24]
            exact ⟨hg4, q1, hu4⟩
        · have q1 := hu.gr x23.kp.weakT
          have q2 : ∀ b, u.blk = some b → H1.length ≤ b ∧ (b < H2.length ∨ H3.length ≤ b) := fun b e => ⟨hub b e, .inl (hu.blk_lt e).2⟩
          have q3 : Sl (fun b => b < H1.length) H3 cu cs := g.kp x23.kp.weakT
          have q4 : Sl (fun b => H2.length ≤ b ∧ b < H3.length) H3 wv wl := hwv.low
          simp (disch := (first | assumption | omega | (simp only [List.length_append, List.length_cons, List.length_nil]; omega))) only [↓wD,wU,Nat.reduceBEq,zx150,zx151,zx159,zx160,zx161,zx162,Nat.reduceAdd,Nat.reduceSub,Nat.reduceMul,Nat.reduceLeDiff,Nat.reduceLT,Nat.reduceEqDiff,Int.reduceAdd,Int.reduceSub,Int.reduceMul,Int.reduceNeg,Int.reduceLT,Int.reduceLE,Int.reduceEq,Int.reduceToNat,Int.cast_ofNat_Int,↓reduceIte, *]
          exact ⟨u, rfl, q2, q1⟩
      · simp (disch := (first | assumption | omega | (simp only [List.length_append, List.length_cons, List.length_nil]; omega))) only [↓wD,wU,Nat.reduceBEq,zx150,zx151,zx159,zx160,zx161,zx162,Nat.reduceAdd,Nat.reduceSub,Nat.reduceMul,Nat.reduceLeDiff,Nat.reduceLT,Nat.reduceEqDiff,Int.reduceAdd,Int.reduceSub,Int.reduceMul,Int.reduceNeg,Int.reduceLT,Int.reduceLE,Int.reduceEq,Int.reduceToNat,Int.cast_ofNat_Int,↓reduceIte, *]
        rw [List.take_of_length_le (by omega)] at hu
        unfold allL
        rw [ecl]
        exact hu.sl.weak fun b h => .inr (by have := hx1.1; omega)
    · simp (disch := (first | assumption | omega | (simp only [List.length_append, List.length_cons, List.length_nil]; omega))) only [↓wD,wU,Nat.reduceBEq,zx150,zx151,zx159,zx160,zx161,zx162,Nat.reduceAdd,Nat.reduceSub,Nat.reduceMul,Nat.reduceLeDiff,Nat.reduceLT,Nat.reduceEqDiff,Int.reduceAdd,Int.reduceSub,Int.reduceMul,Int.reduceNeg,Int.reduceLT,Int.reduceLE,Int.reduceEq,Int.reduceToNat,Int.cast_ofNat_Int,↓reduceIte, *]
      exact ⟨.nils, rfl, Gr.refl _, nofun, Acc.nil⟩
end Go.Proofs.Ytalaadcbpjnglaa
namespace Go.Proofs.Ytalaadcbpjnglaa
open Go Go.AM Go.Proofs
theorem rcovers_ret {p : Nat → Prop} {H : Heap} {rows : AV} {v : Int} {t : List (List Int)} {k : Nat} (ht : Sl p H rows t) (hA : ArrP v t) (h2 : k ≤ 3) :
    RetP E 63 [.ag [.i v, rows], .i k] H (.b (decide ((zeros (allL v t k)).length = 0))) := by
  refine RetP.ro rfl fn63 rfl rfl ?_
  unfold f63A
  have k1 := ht.app [.cells [.i v, rows]]
  simp (disch := (first | assumption | omega | (simp only [List.length_append, List.length_cons, List.length_nil]; omega))) only [↓wD,wU,Nat.reduceBEq,zx150,zx151,zx159,zx160,zx161,zx162,Nat.reduceAdd,Nat.reduceSub,Nat.reduceMul,Nat.reduceLeDiff,Nat.reduceLT,Nat.reduceEqDiff,Int.reduceAdd,Int.reduceSub,Int.reduceMul,Int.reduceNeg,Int.reduceLT,Int.reduceLE,Int.reduceEq,Int.reduceToNat,Int.cast_ofNat_Int,↓reduceIte, *, ht.cellsV]
  refine (rmissing_ret k1 hA h2).toFX fun u H1 x1 hu => ?_
  simp (disch := (first | assumption | omega | (simp only [List.length_append, List.length_cons, List.length_nil]; omega))) only [↓wD,wU,Nat.reduceBEq,zx150,zx151,zx159,zx160,zx161,zx162,Nat.reduceAdd,Nat.reduceSub,Nat.reduceMul,Nat.reduceLeDiff,Nat.reduceLT,Nat.reduceEqDiff,Int.reduceAdd,Int.reduceSub,Int.reduceMul,Int.reduceNeg,Int.reduceLT,Int.reduceLE,Int.reduceEq,Int.reduceToNat,Int.cast_ofNat_Int,↓reduceIte, *, hu.L]
  simp
end Go.Proofs.Ytalaadcbpjnglaa
namespace Go.Proofs.Ytalaadcbpjnglaa
open Go Go.AM Go.Proofs
theorem take_cut {α : Type} [Rep α] {p : Nat → Prop} {H : Heap} {v : AV} {xs : List α} (h : Sl p H v xs) {i : Nat} (hi : i ≤ xs.length) : Sl p H (v.cut 0 i) (xs.take i) ∧ (xs.take i).length = i ∧ slV (Rep.sz α) v none (some (.i i)) none = some (v.cut 0 i) := by
  refine ⟨by simpa using h.cut (a := 0) (b := i) (by omega) hi, by rw [List.length_take]; omega, h.slV_lh none _ ?_ (bound_none (by omega)) (by omega) hi⟩
  rw [bound_some (by omega) (by omega)]; simp
end Go.Proofs.Ytalaadcbpjnglaa
namespace Go.Proofs.Ytalaadcbpjnglaa
open Go Go.AM Go.Proofs
theorem sufs_ne_f {n : Int} (h : 0 < n) : ∀ {t : Nat} {x : Int}, x = 0 → 0 < (sufs false n t x).length
  | 0, x, _ => by simp [sufs]
  | t + 1, x, hx => by
    subst hx
    simp only [sufs, rng_cons h, List.flatMap_cons, List.length_append, List.length_map, Bool.false_eq_true, if_false]
    have := sufs_ne_f h (t := t) (x := 0) rfl
    omega
end Go.Proofs.Ytalaadcbpjnglaa
namespace Go.Proofs.Ytalaadcbpjnglaa
open Go Go.AM Go.Proofs
theorem awake_ret {H : Heap} : RetP E 25 [] H (.b true) :=
  RetP.closed (n := 300) rfl fn25 rfl rfl (by kernel_rfl)
end Go.Proofs.Ytalaadcbpjnglaa
namespace Go.Proofs.Ytalaadcbpjnglaa
open Go Go.AM Go.Proofs
theorem mem_rng {x n y : Int} : y ∈ rng x n ↔ x ≤ y ∧ y < n :=
  ⟨rng_mem, fun ⟨h1, h2⟩ => by simp only [rng, List.mem_map, List.mem_range]; exact ⟨(y - x).toNat, by omega, by omega⟩⟩
theorem mem_sufs_f {n : Int} : ∀ {t : Nat} {s : List Int}, s ∈ sufs false n t 0 ↔ s.length = t ∧ ∀ c ∈ s, 0 ≤ c ∧ c < n
  | 0, s => by
    simp only [sufs, List.mem_singleton]
    constructor
    · rintro rfl; exact ⟨rfl, nofun⟩
    · rintro ⟨h, _⟩; exact List.length_eq_zero_iff.1 h
  | t + 1, s => by
    simp only [sufs, List.mem_flatMap, List.mem_map, Bool.false_eq_true, if_false]
    constructor
    · rintro ⟨y, hy, z, hz, rfl⟩
      have h1 := mem_rng.1 hy
      have h2 := mem_sufs_f.1 hz
      refine ⟨by simp [h2.1], fun c hc => ?_⟩
      rcases List.mem_cons.1 hc with rfl | hc
      · exact h1
      · exact h2.2 c hc
    · rintro ⟨h1, h2⟩
      cases s with
      | nil => simp at h1
      | cons y z => exact ⟨y, mem_rng.2 (h2 y (by simp)), z, mem_sufs_f.2 ⟨by simpa using h1, fun c hc => h2 c (by simp [hc])⟩, rfl⟩
theorem allL_mem {v : Int} {t : List (List Int)} {k : Nat} {x : List Int × Nat} (h : x ∈ allL v t k) : ∃ cs ks, cs ∈ sufs true (wd t) k 0 ∧ ks ∈ sufs false v k 0 ∧ x = (cs ++ ks, oft t cs ks) := by
  unfold allL at h
  rw [List.mem_flatMap] at h
  obtain ⟨cs, h1, h⟩ := h
  unfold allC at h
  rw [List.mem_map] at h
  obtain ⟨ks, h2, rfl⟩ := h
  exact ⟨cs, ks, h1, h2, rfl⟩
theorem comesL_cons {r cs ks : List Int} {c k : Int} : comesL r (c :: cs) (k :: ks) = ((gi r c == k) && comesL r cs ks) := rfl
theorem sum_zero {α : Type} {l : List α} {f : α → Nat} (h : ∀ x ∈ l, f x = 0) : (l.map f).sum = 0 := by
  induction l with
  | nil => rfl
  | cons x l ih => rw [List.map_cons, List.sum_cons, h x (by simp), ih fun y hy => h y (by simp [hy])]
theorem rng_succ {x n : Int} (h : x ≤ n) : rng x (n + 1) = rng x n ++ [n] := by
  unfold rng
  have e : (n + 1 - x).toNat = (n - x).toNat + 1 := by omega
  rw [e, List.range_succ, List.map_append]
  simp; omega
end Go.Proofs.Ytalaadcbpjnglaa
namespace Go.Proofs.Ytalaadcbpjnglaa
open Go Go.AM Go.Proofs
/-- how many of some places a row has -/
def gain (k : Nat) (miss : List (List Int)) (row : List Int) : Nat := miss.countP fun pl => comesL row (pl.take k) (pl.drop k)
theorem gain_le {k : Nat} {miss : List (List Int)} {row : List Int} : gain k miss row ≤ miss.length := List.countP_le_length
theorem gain_succ {k : Nat} {miss : List (List Int)} {row : List Int} {i : Nat} (h : i < miss.length) : gain k (miss.take (i + 1)) row = gain k (miss.take i) row + if comesL row ((gi miss i).take k) ((gi miss i).drop k) = true then 1 else 0 := by
  unfold gain
  rw [take_gi h, List.countP_append]
  simp [List.countP_cons]
/-- the first row with the most -/
def bestF (g : List Int → Nat) (l : List (List Int)) : List Int × Int := l.foldl (fun b r => if b.2 < (g r : Int) then (r, (g r : Int)) else b) ([], -1)
theorem bestF_succ {g : List Int → Nat} {l : List (List Int)} {i : Nat} (h : i < l.length) : bestF g (l.take (i + 1)) = if (bestF g (l.take i)).2 < (g (gi l i) : Int) then (gi l i, (g (gi l i) : Int)) else bestF g (l.take i) := by
  unfold bestF
  rw [take_gi h, List.foldl_append]; rfl
theorem bestF_congr {g g' : List Int → Nat} : ∀ {l : List (List Int)}, (∀ r ∈ l, g r = g' r) → bestF g l = bestF g' l := by
  have : ∀ (l : List (List Int)) (b : List Int × Int), (∀ r ∈ l, g r = g' r) → l.foldl (fun b r => if b.2 < (g r : Int) then (r, (g r : Int)) else b) b = l.foldl (fun b r => if b.2 < (g' r : Int) then (r, (g' r : Int)) else b) b := by
    intro l
    induction l with
    | nil => intros; rfl
    | cons r l ih =>
      intro b h
      simp only [List.foldl_cons, h r (by simp)]
      exact ih _ fun x hx => h x (by simp [hx])
  exact fun {l} h => this l _ h
/-- what it is: a row of them, with the most -/
theorem bestF_spec {g : List Int → Nat} {l : List (List Int)} (hne : 0 < l.length) : (bestF g l).1 ∈ l ∧ (bestF g l).2 = g (bestF g l).1 ∧ ∀ r ∈ l, g r ≤ g (bestF g l).1 := by
  have key : ∀ n, n ≤ l.length → ((n = 0 ∧ bestF g (l.take n) = ([], -1)) ∨ (0 < n ∧ (bestF g (l.take n)).1 ∈ l ∧ (bestF g (l.take n)).2 = g (bestF g (l.take n)).1 ∧ ∀ r ∈ l.take n, g r ≤ g (bestF g (l.take n)).1)) := by
    intro n
    induction n with
    | zero => intro _; exact .inl ⟨rfl, by simp [bestF]⟩
    | succ n ih =>
      intro hn
      right
      refine ⟨by omega, ?_⟩
      have hm := mem_gi (xs := l) (show n < l.length by omega)
      rw [bestF_succ (by omega)]
      have hmem : ∀ r ∈ l.take (n + 1), r ∈ l.take n ∨ r = gi l n := fun r hr => by
        rw [take_gi (by omega)] at hr
        rcases List.mem_append.1 hr with h | h
        · exact .inl h
        · simp at h; exact .inr h
      rcases ih (by omega) with ⟨rfl, e⟩ | ⟨h0, h1, h2, h3⟩
      · rw [e]
        rw [if_pos (by simp; omega)]
        refine ⟨hm, rfl, fun r hr => ?_⟩
        rcases hmem r hr with h | h
        · simp at h
        · rw [h]; exact Nat.le_refl _
      · split
        · rename_i hlt
          refine ⟨hm, rfl, fun r hr => ?_⟩
          rcases hmem r hr with h | h
          · have := h3 r h
            rw [h2] at hlt
            change g r ≤ g (gi l n)
            omega
          · rw [h]; exact Nat.le_refl _
        · rename_i hlt
          refine ⟨h1, h2, fun r hr => ?_⟩
          rcases hmem r hr with h | h
          · exact h3 r h
          · rw [h]; rw [h2] at hlt; omega
  rcases key l.length (Nat.le_refl _) with ⟨h, _⟩ | ⟨_, h1, h2, h3⟩
  · omega
  · rw [List.take_length] at h1 h2 h3
    exact ⟨h1, h2, h3⟩
theorem countP_flatMap {α β : Type} {p : β → Bool} {f : α → List β} : ∀ {l : List α}, (l.flatMap f).countP p = (l.map fun x => (f x).countP p).sum
  | [] => rfl
  | x :: l => by rw [List.flatMap_cons, List.countP_append, List.map_cons, List.sum_cons, countP_flatMap]
theorem sum_ite {f : Int → Nat} : ∀ {m : Nat} {y : Int}, 0 ≤ y → y < m → ((rng 0 m).map fun x => if y = x then f x else 0).sum = f y
  | 0, y, h0, h1 => by omega
  | m + 1, y, h0, h1 => by
    have e : ((m + 1 : Nat) : Int) = (m : Int) + 1 := by omega
    rw [e, rng_succ (by omega), List.map_append, List.sum_append]
    by_cases hy : y = m
    · subst hy
      rw [sum_zero fun x hx => ?_]
      · simp
      · have := mem_rng.1 hx
        rw [if_neg (by omega)]
    · rw [sum_ite h0 (by omega)]
      simp [hy]
/-- just one choice comes in a row -/
theorem count_one {v : Int} {row : List Int} (hv : 0 ≤ v) : ∀ {cs : List Int} {P : List Int → Bool}, (∀ c ∈ cs, 0 ≤ gi row c ∧ gi row c < v) → (sufs false v cs.length 0).countP (fun ks => comesL row cs ks && P ks) = if P (cs.map (gi row)) = true then 1 else 0
  | [], P, _ => by simp [sufs, comesL, List.countP_cons]
  | c :: cs, P, h => by
    have hc := h c (by simp)
    simp only [List.length_cons, sufs, Bool.false_eq_true, if_false]
    rw [countP_flatMap]
    have e : (fun y : Int => ((sufs false v cs.length 0).map (y :: ·)).countP fun ks => comesL row (c :: cs) ks && P ks) = fun y => if gi row c = y then (if P (y :: cs.map (gi row)) = true then 1 else 0) else 0 := by
      funext y
      rw [List.countP_map]
      by_cases hy : gi row c = y
      · rw [if_pos hy, ← count_one hv (P := fun ks => P (y :: ks)) fun d hd => h d (by simp [hd])]
        apply List.countP_congr
        intro ks _
        simp [comesL_cons, hy]
      · rw [if_neg hy]
        apply List.countP_eq_zero.2
        intro ks _
        simp [comesL_cons, hy]
    rw [e]
    have := sum_ite (f := fun y => if P (y :: cs.map (gi row)) = true then 1 else 0) (m := v.toNat) (y := gi row c) hc.1 (by omega)
    rw [show ((v.toNat : Nat) : Int) = v by omega] at this
    exact this
def rgain (t : List (List Int)) (k : Nat) (row : List Int) : Nat := (sufs true (wd t) k 0).countP fun cs => decide (oft t cs (cs.map (gi row)) = 0)
theorem zeros_flat {α : Type} (f : α → List (List Int × Nat)) : ∀ l : List α, zeros (l.flatMap f) = l.flatMap fun x => zeros (f x)
  | [] => rfl
  | x :: l => by
    rw [List.flatMap_cons, List.flatMap_cons, ← zeros_flat f l]
    simp [zeros]
theorem gain_same {v : Int} {t : List (List Int)} {k : Nat} {row : List Int} (hv : 0 ≤ v) (hr : row.length = wd t) (hc : ChR v row) : gain k (zeros (allL v t k)) row = rgain t k row := by
  unfold gain rgain allL
  rw [zeros_flat, countP_flatMap, show (sufs true (wd t) k 0).countP (fun cs => decide (oft t cs (cs.map (gi row)) = 0)) = ((sufs true (wd t) k 0).map fun cs => if decide (oft t cs (cs.map (gi row)) = 0) = true then 1 else 0).sum from ?_]
  · congr 1
    apply List.map_congr_left
    intro cs hcs
    have hl := sufs_len hcs
    have hin := sufs_in (Int.le_refl 0) hcs
    rw [← count_one (v := v) (row := row) (P := fun ks => decide (oft t cs ks = 0)) hv fun c hc' => hc _ (gi_mem (hin c hc').1 (by rw [hr]; exact (hin c hc').2)), hl]
    unfold zeros allC
    rw [List.filter_map, List.map_map, List.countP_map, List.countP_filter]
    apply List.countP_congr
    intro ks hks
    simp [← hl]
  · generalize sufs true (wd t) k 0 = l
    induction l with
    | nil => rfl
    | cons x l ih => rw [List.countP_cons, List.map_cons, List.sum_cons, ih]; omega
end Go.Proofs.Ytalaadcbpjnglaa
namespace Go.Proofs.Ytalaadcbpjnglaa
open Go Go.AM Go.Proofs
theorem argI_len : ∀ (Ki : Nat → Prop) (H1 : Heap) (args : List AV) (x : List Int), ArgI Ki H1 args x → args.length = 1 := by rintro _ _ _ _ ⟨u, rfl, _⟩; rfl
/-- tuples, behind a range over it -/
theorem tuples_range {lo : Nat} {r : Bool} {n : Int} {t bt br bn : Nat} {Hr H1 : Heap} {K0 K : Nat → Prop} {Q : Bool → (Nat → Prop) → Heap → Prop} (hlo : lo ≤ Hr.length) (ht : t ≤ 1000000) (hn : n ≤ 1000000)
    (c1 : Hr[bt]? = some (.cells [.i t])) (c2 : Hr[br]? = some (.cells [.b r])) (c3 : Hr[bn]? = some (.cells [.i n])) (n1 : ¬ K0 bt) (n2 : ¬ K0 br) (n3 : ¬ K0 bn) (hK0 : ∀ b, K0 b → b < Hr.length)
    (e : H1.length = Hr.length + 1) (hx : Kx (fun _ => True) Hr H1) (hK : ∀ b, K b ↔ K0 b ∨ b = Hr.length) (hI : Its E lo (.yl Hr.length) (Hr.length + 1) ArgI Q (sufs r n t 0) K H1) :
    WpF E lo 96 ([] ++ .yl Hr.length :: [.p bt 0, .p br 0, .p bn 0]) H1 fun _ H' => ∃ ok K', Q ok K' H' := by
  rw [← e] at hI
  have b1 := (List.getElem?_eq_some_iff.1 c1).1
  have b2 := (List.getElem?_eq_some_iff.1 c2).1
  have b3 := (List.getElem?_eq_some_iff.1 c3).1
  refine tuples_it (t := t) (n := n) (r := r) (by omega) ht hn ⟨rfl, rfl⟩ ⟨hx.get trivial c1, fun q => ((hK _).1 q).elim n1 (by omega)⟩ ⟨hx.get trivial c2, fun q => ((hK _).1 q).elim n2 (by omega)⟩ ⟨hx.get trivial c3, fun q => ((hK _).1 q).elim n3 (by omega)⟩ (fun b q => ?_) hI
  rcases (hK b).1 q with q | q
  · have := hK0 b q; omega
  · omega
theorem cut_lo {α : Type} [Rep α] {p : Nat → Prop} {H : Heap} {v : AV} {xs : List α} (h : Sl p H v xs) {i : Nat} (hi : i ≤ xs.length) : Sl p H (v.cut i xs.length) (xs.drop i) ∧ slV (Rep.sz α) v (some (.i i)) none none = some (v.cut i xs.length) := by
  refine ⟨by have := h.cut (a := i) (b := xs.length) hi (Nat.le_refl _); rwa [List.take_of_length_le (by rw [List.length_drop]; omega)] at this, h.slV_lh _ _ (bound_none (Nat.le_refl _)) ?_ hi (Nat.le_refl _)⟩
  rw [bound_some (by omega) (by omega)]; simp
theorem zeros_mem {l : List (List Int × Nat)} {x : List Int} : x ∈ zeros l ↔ (x, 0) ∈ l := by
  unfold zeros
  rw [List.mem_map]
  constructor
  · rintro ⟨y, hy, rfl⟩
    rw [List.mem_filter] at hy
    have : y.2 = 0 := by simpa using hy.2
    rw [← this]; exact hy.1
  · intro h
    exact ⟨_, List.mem_filter.2 ⟨h, rfl⟩, rfl⟩
/-- what is missing: columns, and choices -/
theorem miss_mem {v : Int} {t : List (List Int)} {k : Nat} {x : List Int} (h : x ∈ zeros (allL v t k)) : ∃ cs ks, x = cs ++ ks ∧ cs ∈ sufs true (wd t) k 0 ∧ ks ∈ sufs false v k 0 ∧ oft t cs ks = 0 := by
  obtain ⟨cs, ks, h1, h2, e⟩ := allL_mem (zeros_mem.1 h)
  rw [Prod.mk.injEq] at e
  exact ⟨cs, ks, e.1, h1, h2, e.2.symm⟩
theorem add_ret {p : Nat → Prop} {H : Heap} {rows : AV} {v : Int} {t : List (List Int)} {k : Nat} (ht : Sl p H rows t) (hA : ArrP v t) (h2 : k ≤ 3) :
    Ret E 85 [.ag [.i v, rows], .i k] (fun _ => False) H (bestF (gain k (zeros (allL v t k))) (sufs false v (wd t) 0)).1 := by
  refine Ret.ro rfl fn85 rfl ?_
  unfold f85A
  have hw := hA.wd
  have hv1 := hA.1
  have hv2 := hA.2.1
  have hlow : Sl (fun b => b < H.length) H rows t := ht.low.weak fun _ h => h.2
  have k1 := (hlow.app [.cells [.i v, rows]]).app [.cells [.i k]]
  have hmlen : (zeros (allL v t k)).length ≤ 1000000 := Nat.le_trans (zeros_len _) (allL_len hA h2)
  have hml : ∀ x ∈ zeros (allL v t k), ∃ cs ks, x = cs ++ ks ∧ cs.length = k ∧ ks.length = k ∧ ∀ c ∈ cs, 0 ≤ c ∧ c < wd t := fun x hx => by
    obtain ⟨cs, ks, e, h1, h2, _⟩ := miss_mem hx
    exact ⟨cs, ks, e, sufs_len h1, sufs_len h2, sufs_in (Int.le_refl 0) h1⟩
  simp (disch := (first | assumption | omega | (simp only [List.length_append, List.length_cons, List.length_nil]; omega))) only [↓wD,wU,Nat.reduceBEq,zx150,zx151,zx159,zx160,zx161,zx162,Nat.reduceAdd,Nat.reduceSub,Nat.reduceMul,Nat.reduceLeDiff,Nat.reduceLT,Nat.reduceEqDiff,Int.reduceAdd,Int.reduceSub,Int.reduceMul,Int.reduceNeg,Int.reduceLT,Int.reduceLE,Int.reduceEq,Int.reduceToNat,Int.cast_ofNat_Int,↓reduceIte, *, ht.cellsV]
  refine (missing_ret k1 hA h2 (allL_len hA h2)).toFX fun mv H1 x01 hmv => ?_
  obtain ⟨miss, em⟩ : ∃ miss, zeros (allL v t k) = miss := ⟨_, rfl⟩
  rw [em] at hmv hml hmlen ⊢
  have hx0 : Kx (fun _ => True) H H1 := ((Kx.app (fun _ => True) H _).app' _).trans x01 fun _ _ _ => trivial
  have c0 : H1[H.length]? = some (.cells [.i v, rows]) := x01.get trivial (by simp [List.getElem?_append])
  have c1 : H1[H.length + 1]? = some (.cells [.i k]) := x01.get trivial (by simp [List.getElem?_append])
  have l01 := (List.getElem?_eq_some_iff.1 c1).1
  have hmv1 : Sl (fun b => H.length + 2 ≤ b ∧ b < H1.length) H1 mv miss := hmv.low.weak fun b h => ⟨by have := h.1; simp at this; omega, h.2⟩
  have hr1 := hlow.kp hx0.kp.weakT
  clear x01 hmv k1
  have y1 : Kx (fun _ => True) H1 (H1 ++ [.cells [mv]] ++ [.cells [.nils]] ++ [.cells [.i (-1)]]) := ((Kx.app _ _ _).app' _).app' _
  have hr2 := ((hr1.app [.cells [mv]]).app [.cells [.nils]]).app [.cells [.i (-1)]]
  simp (disch := (first | assumption | omega | (simp only [List.length_append, List.length_cons, List.length_nil]; omega))) only [↓wD,wU,Nat.reduceBEq,zx150,zx151,zx159,zx160,zx161,zx162,Nat.reduceAdd,Nat.reduceSub,Nat.reduceMul,Nat.reduceLeDiff,Nat.reduceLT,Nat.reduceEqDiff,Int.reduceAdd,Int.reduceSub,Int.reduceMul,Int.reduceNeg,Int.reduceLT,Int.reduceLE,Int.reduceEq,Int.reduceToNat,Int.cast_ofNat_Int,↓reduceIte, *, hmv1.cellsV, ldn_of (y1.get trivial c0), ld_of (y1.get trivial c0), (columns_ret hr2 hA.2.2.1).call]
  refine (tuples_ret).toX fun w Hr x1 hw' => ?_
  obtain ⟨bt, br, bn, rfl, hp, d1, d2, d3⟩ := hw'
  have hp1 : H1.length + 3 ≤ bt := by have := hp.1; simp at this; omega
  have hp2 : H1.length + 3 ≤ br := by have := hp.2.1; simp at this; omega
  have hp3 : H1.length + 3 ≤ bn := by have := hp.2.2; simp at this; omega
  clear hp
  have d5 : Hr[H1.length]? = some (.cells [mv]) := x1.get trivial (by simp [List.getElem?_append])
  have d6 : Hr[H1.length + 1]? = some (.cells [.nils]) := x1.get trivial (by simp [List.getElem?_append])
  have d7 : Hr[H1.length + 2]? = some (.cells [.i (-1)]) := x1.get trivial (by simp [List.getElem?_append])
  have hx1 : Kx (fun _ => True) H1 Hr := y1.trans x1 fun _ _ _ => trivial
  have dk : Hr[H.length + 1]? = some (.cells [.i k]) := hx1.get trivial c1
  have hl := (List.getElem?_eq_some_iff.1 d1).1
  have hmv2 := hmv1.kp (hx1.all _).kp
  clear x1 y1 hr2 c0 c1 hmv1
  simp (disch := (first | assumption | omega | (simp only [List.length_append, List.length_cons, List.length_nil]; omega))) only [↓wD,wU,Nat.reduceBEq,zx150,zx151,zx159,zx160,zx161,zx162,Nat.reduceAdd,Nat.reduceSub,Nat.reduceMul,Nat.reduceLeDiff,Nat.reduceLT,Nat.reduceEqDiff,Int.reduceAdd,Int.reduceSub,Int.reduceMul,Int.reduceNeg,Int.reduceLT,Int.reduceLE,Int.reduceEq,Int.reduceToNat,Int.cast_ofNat_Int,↓reduceIte, *]
  obtain ⟨l, el⟩ : ∃ l, sufs false v (wd t) 0 = l := ⟨_, rfl⟩
  have hll : ∀ r ∈ l, r.length = wd t := by rw [← el]; exact fun r hr => sufs_len hr
  rw [el]
  refine Wp.range (A := ArgI) l (fun b => b = H1.length + 1 ∨ b = H1.length + 2) (fun i K Hc => ∃ u, Hc[H1.length + 1]? = some (.cells [u]) ∧ Hc[H1.length + 2]? = some (.cells [.i (bestF (gain k miss) (l.take i)).2]) ∧ Sl (fun b => K b ∧ H.length ≤ b ∧ b ≠ H1.length + 1 ∧ b ≠ H1.length + 2) Hc u (bestF (gain k miss) (l.take i)).1)
    (fun j K H1 => False) (by (simp (disch := (first | assumption | omega | (simp only [List.length_append, List.length_cons, List.length_nil]; omega))) only [↓wD,wU,Nat.reduceBEq,zx150,zx151,zx159,zx160,zx161,zx162,Nat.reduceAdd,Nat.reduceSub,Nat.reduceMul,Nat.reduceLeDiff,Nat.reduceLT,Nat.reduceEqDiff,Int.reduceAdd,Int.reduceSub,Int.reduceMul,Int.reduceNeg,Int.reduceLT,Int.reduceLE,Int.reduceEq,Int.reduceToNat,Int.cast_ofNat_Int,↓reduceIte, *]) <;> rfl) rfl (by omega) (fun b h => by omega) argI_len ?_ ?_ ?_ ?_ ?_ ?_ ?_
  · exact fun K' Hc Q' e hx hK' hI => tuples_range (r := false) (n := v) (t := wd t) (by omega) (by omega) (by omega) d1 d2 d3 (by omega) (by omega) (by omega) (fun b h => by omega) e hx hK' (by rw [el]; exact hI)
  · rintro i K Hc Hd ⟨u, q1, q2, q3⟩ hx
    exact ⟨u, hx.get (.inl (by omega)) q1, hx.get (.inl (by omega)) q2, q3.kp (hx.weak fun b _ h => .inr h.1).kp⟩
  · exact fun j K H1 H2 h hx => h
  · exact ⟨.nils, d6, by simpa [bestF] using d7, Sl.nil⟩
  · rintro i hi K Ki args Hc ⟨u, q6, q7, q8⟩ ⟨cu, rfl, hcu⟩ hKi hK hx hl1 hlr hKK
    have kc1 := (hKK (H1.length + 1) (by omega)).2 (.inl rfl)
    have kc2 := (hKK (H1.length + 2) (by omega)).2 (.inr rfl)
    have ebs := bestF_succ (g := gain k miss) hi
    obtain ⟨x, ex⟩ : ∃ x, l[i] = x := ⟨_, rfl⟩
    have ex2 : gi l (i : Int) = x := by rw [gi_nat hi, ex]
    have hxl : x.length = wd t := by rw [← ex]; exact hll _ (List.getElem_mem hi)
    rw [ex] at hcu
    rw [ex2] at ebs
    clear ex ex2
    obtain ⟨B, eB⟩ : ∃ B, bestF (gain k miss) (l.take i) = B := ⟨_, rfl⟩
    obtain ⟨B', eB'⟩ : ∃ B', bestF (gain k miss) (l.take (i + 1)) = B' := ⟨_, rfl⟩
    rw [eB] at q7 q8 ebs
    rw [eB'] at ebs
    obtain ⟨B1, B2⟩ := B
    simp only at q7 q8 ebs
    simp (disch := (first | assumption | omega | (simp only [List.length_append, List.length_cons, List.length_nil]; omega))) only [↓wD,wU,Nat.reduceBEq,zx150,zx151,zx159,zx160,zx161,zx162,Nat.reduceAdd,Nat.reduceSub,Nat.reduceMul,Nat.reduceLeDiff,Nat.reduceLT,Nat.reduceEqDiff,Int.reduceAdd,Int.reduceSub,Int.reduceMul,Int.reduceNeg,Int.reduceLT,Int.reduceLE,Int.reduceEq,Int.reduceToNat,Int.cast_ofNat_Int,↓reduceIte, *, zx188 (lo := H.length) hlr (by omega)]
    generalize e2 : Hc.set Hr.length _ = H2
    have x12 : Kx (fun b => b ≠ Hr.length) Hc H2 := by rw [← e2]; exact Kx.set _ _ _
    have l12 : H2.length ≤ Hc.length ∧ Hc.length ≤ H2.length := by rw [← e2]; simp
    have gl := gset e2 hlr
    have r6 := x12.get (by omega) q6
    have r7 := x12.get (by omega) q7
    have xr2 : Kx (fun b => b < Hr.length ∧ ¬ (b = H1.length + 1 ∨ b = H1.length + 2)) Hr H2 := hx.trans x12 fun b _ h => by omega
    have r5 := xr2.get (by omega) d5
    have rk := xr2.get (by omega) dk
    have hmv3 : Sl (fun b => H.length + 2 ≤ b ∧ b < H1.length) H2 mv miss := hmv2.kp (xr2.weak fun b _ h => by omega).kp
    have hcu2 : Sl (fun b => b < Hc.length ∧ Ki b) H2 cu x := (hcu.low.weak fun b h => ⟨h.2, h.1⟩).kp (x12.weak fun b _ h => by have := (hKi b h.2).1; omega).kp
    have hu2 := q8.kp (x12.weak fun b _ h => (hK b h.1).2).kp
    clear e2 eB
    simp (disch := (first | assumption | omega | (simp only [List.length_append, List.length_cons, List.length_nil]; omega))) only [↓wD,wU,Nat.reduceBEq,zx150,zx151,zx159,zx160,zx161,zx162,Nat.reduceAdd,Nat.reduceSub,Nat.reduceMul,Nat.reduceLeDiff,Nat.reduceLT,Nat.reduceEqDiff,Int.reduceAdd,Int.reduceSub,Int.reduceMul,Int.reduceNeg,Int.reduceLT,Int.reduceLE,Int.reduceEq,Int.reduceToNat,Int.cast_ofNat_Int,↓reduceIte, *, ld_of r5, hmv3.L]
    have hbm := hmv3.bound
    refine Wp.for miss.length (fun j a Hd => Hd = H2 ∧ a 3 = .p (H.length + 1) 0 ∧ a 6 = .p (H1.length + 1) 0 ∧ a 7 = .p (H1.length + 2) 0 ∧ a 8 = cu ∧ a 21 = mv ∧ a 22 = .i miss.length ∧ a 23 = .i j ∧ a 9 = .i (gain k (miss.take j) x)) ?_ ?_
    · rintro j a Hd hj ⟨rfl, a3, a6, a7, a8, a21, a22, a23, a9⟩ ih
      simp (disch := (first | assumption | omega | (simp only [List.length_append, List.length_cons, List.length_nil]; omega))) only [↓wD,wU,Nat.reduceBEq,zx150,zx151,zx159,zx160,zx161,zx162,Nat.reduceAdd,Nat.reduceSub,Nat.reduceMul,Nat.reduceLeDiff,Nat.reduceLT,Nat.reduceEqDiff,Int.reduceAdd,Int.reduceSub,Int.reduceMul,Int.reduceNeg,Int.reduceLT,Int.reduceLE,Int.reduceEq,Int.reduceToNat,Int.cast_ofNat_Int,↓reduceIte, *]
      refine condP_split (fun hlt => ?_) (fun hlt => ?_)
      · have hj' : j < miss.length := by omega
        have g := hmv3.get (k := (j : Int)) (by omega) (by omega)
        obtain ⟨cs, ks, ecs, lcs, lks, hcs⟩ := hml _ (mem_gi hj')
        have hgs := gain_succ (k := k) (row := x) hj'
        have hgl := gain_le (k := k) (miss := miss.take j) (row := x)
        rw [List.length_take] at hgl
        have glen : (gi miss (j : Int)).length = k + k := by rw [ecs, List.length_append]; omega
        obtain ⟨kc, kl, hs⟩ := take_cut g (i := k) (by omega)
        obtain ⟨kd, hs2⟩ := cut_lo g (i := k) (by omega)
        have etk : (gi miss (j : Int)).take k = cs := by rw [ecs, ← lcs, List.take_left]
        have edk : (gi miss (j : Int)).drop k = ks := by rw [ecs, ← lcs, List.drop_left]
        rw [etk] at kc hgs
        rw [edk] at kd hgs
        have hs' : slV 1 (mv.get Hd j) none (some (.i k)) none = some ((mv.get Hd j).cut 0 k) := hs
        have hs2' : slV 1 (mv.get Hd j) (some (.i k)) none none = some ((mv.get Hd j).cut k (gi miss (j : Int)).length) := hs2
        have hcm := comes_ret hcu2 kc kd (by omega) fun c hc => ⟨(hcs c hc).1, by rw [hxl]; exact (hcs c hc).2⟩
        clear ecs etk edk glen kl hs hs2
        obtain ⟨cb, ecb⟩ : ∃ cb, comesL x cs ks = cb := ⟨_, rfl⟩
        rw [ecb] at hgs hcm
        clear ecb ebs
        cases cb
        · rw [if_neg (by simp)] at hgs
          simp (disch := (first | assumption | omega | (simp only [List.length_append, List.length_cons, List.length_nil]; omega))) only [↓wD,wU,Nat.reduceBEq,zx150,zx151,zx159,zx160,zx161,zx162,Nat.reduceAdd,Nat.reduceSub,Nat.reduceMul,Nat.reduceLeDiff,Nat.reduceLT,Nat.reduceEqDiff,Int.reduceAdd,Int.reduceSub,Int.reduceMul,Int.reduceNeg,Int.reduceLT,Int.reduceLE,Int.reduceEq,Int.reduceToNat,Int.cast_ofNat_Int,↓reduceIte, *, ld_of rk, hs', hs2', hmv3.L, hcm.call]
          refine (ih hj').go ⟨rfl, ?_⟩
          simp (disch := (first | assumption | omega | (simp only [List.length_append, List.length_cons, List.length_nil]; omega))) only [↓wD,wU,Nat.reduceBEq,zx150,zx151,zx159,zx160,zx161,zx162,Nat.reduceAdd,Nat.reduceSub,Nat.reduceMul,Nat.reduceLeDiff,Nat.reduceLT,Nat.reduceEqDiff,Int.reduceAdd,Int.reduceSub,Int.reduceMul,Int.reduceNeg,Int.reduceLT,Int.reduceLE,Int.reduceEq,Int.reduceToNat,Int.cast_ofNat_Int,↓reduceIte, *]
        · rw [if_pos rfl] at hgs
          simp (disch := (first | assumption | omega | (simp only [List.length_append, List.length_cons, List.length_nil]; omega))) only [↓wD,wU,Nat.reduceBEq,zx150,zx151,zx159,zx160,zx161,zx162,Nat.reduceAdd,Nat.reduceSub,Nat.reduceMul,Nat.reduceLeDiff,Nat.reduceLT,Nat.reduceEqDiff,Int.reduceAdd,Int.reduceSub,Int.reduceMul,Int.reduceNeg,Int.reduceLT,Int.reduceLE,Int.reduceEq,Int.reduceToNat,Int.cast_ofNat_Int,↓reduceIte, *, ld_of rk, hs', hs2', hmv3.L, hcm.call]
          refine (ih hj').go ⟨rfl, ?_⟩
          simp (disch := (first | assumption | omega | (simp only [List.length_append, List.length_cons, List.length_nil]; omega))) only [↓wD,wU,Nat.reduceBEq,zx150,zx151,zx159,zx160,zx161,zx162,Nat.reduceAdd,Nat.reduceSub,Nat.reduceMul,Nat.reduceLeDiff,Nat.reduceLT,Nat.reduceEqDiff,Int.reduceAdd,Int.reduceSub,Int.reduceMul,Int.reduceNeg,Int.reduceLT,Int.reduceLE,Int.reduceEq,Int.reduceToNat,Int.cast_ofNat_Int,↓reduceIte, *]
      · obtain rfl : j = miss.length := by omega
        rw [List.take_length] at a9
        obtain ⟨G, eG⟩ : ∃ G, gain k miss x = G := ⟨_, rfl⟩
        rw [eG] at a9 ebs
        clear eG
        by_cases hb : B2 < (G : Int)
        · rw [if_pos hb] at ebs
          subst ebs
          have r7' : (Hd.set (H1.length + 1) (.cells [cu]))[H1.length + 2]? = some (.cells [.i B2]) := by rw [List.getElem?_set_ne (by omega)]; exact r7
          simp (disch := (first | assumption | omega | (simp only [List.length_append, List.length_cons, List.length_nil]; omega))) only [↓wD,wU,Nat.reduceBEq,zx150,zx151,zx159,zx160,zx161,zx162,Nat.reduceAdd,Nat.reduceSub,Nat.reduceMul,Nat.reduceLeDiff,Nat.reduceLT,Nat.reduceEqDiff,Int.reduceAdd,Int.reduceSub,Int.reduceMul,Int.reduceNeg,Int.reduceLT,Int.reduceLE,Int.reduceEq,Int.reduceToNat,Int.cast_ofNat_Int,↓reduceIte, *, ld_of r7, st_of r6, st_of r7', hcu2.cellsV]
          refine ⟨?_, ?_, cu, ?_, get_set r7', ?_⟩
          · rw [List.getElem?_set_ne (by omega), List.getElem?_set_ne (by omega)]; exact gl
          · exact ((x12.weak fun b _ h => h.2).set' (fun _ h => h.1 (.inl kc1)) _).set' (fun _ h => h.1 (.inl kc2)) _
          · rw [List.getElem?_set_ne (by omega)]; exact get_set r6
          · refine ((hcu2.kp (Kx.set' (b := H1.length + 1) (p := fun b => b < Hc.length ∧ Ki b) (Kx.refl _ _) (fun _ h => by have := (hKi _ h.2).1; omega) _).kp).kp (Kx.set' (b := H1.length + 2) (p := fun b => b < Hc.length ∧ Ki b) (Kx.refl _ _) (fun _ h => by have := (hKi _ h.2).1; omega) _).kp).weak fun b h => ?_
            have := (hKi b h.2).1
            exact ⟨.inr (.inl h.2), by omega⟩
        · rw [if_neg hb] at ebs
          subst ebs
          have hu3 : Sl (fun b => Kn K Ki Hc Hd b ∧ H.length ≤ b ∧ b ≠ H1.length + 1 ∧ b ≠ H1.length + 2) Hd u B1 := hu2.weak fun b h => ⟨.inl h.1, h.2⟩
          have x12' : Kx (fun b => ¬ (K b ∨ Ki b) ∧ b ≠ Hr.length) Hc Hd := x12.weak fun b _ h => h.2
          simp (disch := (first | assumption | omega | (simp only [List.length_append, List.length_cons, List.length_nil]; omega))) only [↓wD,wU,Nat.reduceBEq,zx150,zx151,zx159,zx160,zx161,zx162,Nat.reduceAdd,Nat.reduceSub,Nat.reduceMul,Nat.reduceLeDiff,Nat.reduceLT,Nat.reduceEqDiff,Int.reduceAdd,Int.reduceSub,Int.reduceMul,Int.reduceNeg,Int.reduceLT,Int.reduceLE,Int.reduceEq,Int.reduceToNat,Int.cast_ofNat_Int,↓reduceIte, a3, a6, a7, a8, a9, ld_of r7, zx171 hb, eB']
          exact ⟨gl, x12', u, r6, r7, hu3⟩
    · clear ebs
      (simp (disch := (first | assumption | omega | (simp only [List.length_append, List.length_cons, List.length_nil]; omega))) only [↓wD,wU,Nat.reduceBEq,zx150,zx151,zx159,zx160,zx161,zx162,Nat.reduceAdd,Nat.reduceSub,Nat.reduceMul,Nat.reduceLeDiff,Nat.reduceLT,Nat.reduceEqDiff,Int.reduceAdd,Int.reduceSub,Int.reduceMul,Int.reduceNeg,Int.reduceLT,Int.reduceLE,Int.reduceEq,Int.reduceToNat,Int.cast_ofNat_Int,↓reduceIte, *]) <;> simp [gain]
  · rintro K Hc ⟨u, q6, q7, q8⟩ hx hl1
    simp (disch := (first | assumption | omega | (simp only [List.length_append, List.length_cons, List.length_nil]; omega))) only [↓wD,wU,Nat.reduceBEq,zx150,zx151,zx159,zx160,zx161,zx162,Nat.reduceAdd,Nat.reduceSub,Nat.reduceMul,Nat.reduceLeDiff,Nat.reduceLT,Nat.reduceEqDiff,Int.reduceAdd,Int.reduceSub,Int.reduceMul,Int.reduceNeg,Int.reduceLT,Int.reduceLE,Int.reduceEq,Int.reduceToNat,Int.cast_ofNat_Int,↓reduceIte, *, ld_of q6]
    rw [List.take_length] at q8
    exact q8.weak fun b h => .inr h.2.1
  · exact fun j K H1 h => h.elim
end Go.Proofs.Ytalaadcbpjnglaa
namespace Go.Proofs.Ytalaadcbpjnglaa
open Go Go.AM Go.Proofs
def rgainT (t : List (List Int)) (cl : List (List Int)) (row : List Int) : Nat := cl.countP fun cs => decide (oft t cs (cs.map (gi row)) = 0)
theorem rgainT_succ {t cl : List (List Int)} {row : List Int} {i : Nat} (h : i < cl.length) : rgainT t (cl.take (i + 1)) row = rgainT t (cl.take i) row + if oft t (gi cl i) ((gi cl i).map (gi row)) = 0 then 1 else 0 := by
  unfold rgainT
  rw [take_gi h, List.countP_append]
  simp [List.countP_cons]
theorem rgainT_le {t cl : List (List Int)} {row : List Int} : rgainT t cl row ≤ cl.length := List.countP_le_length
theorem radd_ret {p : Nat → Prop} {H : Heap} {rows : AV} {v : Int} {t : List (List Int)} {k : Nat} (ht : Sl p H rows t) (hA : ArrP v t) (h2 : k ≤ 3) (hw4 : wd t ≤ 4) :
    Ret E 56 [.ag [.i v, rows], .i k] (fun _ => False) H (bestF (rgain t k) (sufs false v (wd t) 0)).1 := by
  refine Ret.ro rfl fn56 rfl ?_
  unfold f56A
  have hw := hA.wd
  have hv1 := hA.1
  have hv2 := hA.2.1
  have hlow : Sl (fun b => b < H.length) H rows t := ht.low.weak fun _ h => h.2
  have k1 := hlow.app [.cells [.i v, rows]]
  simp (disch := (first | assumption | omega | (simp only [List.length_append, List.length_cons, List.length_nil]; omega))) only [↓wD,wU,Nat.reduceBEq,zx150,zx151,zx159,zx160,zx161,zx162,Nat.reduceAdd,Nat.reduceSub,Nat.reduceMul,Nat.reduceLeDiff,Nat.reduceLT,Nat.reduceEqDiff,Int.reduceAdd,Int.reduceSub,Int.reduceMul,Int.reduceNeg,Int.reduceLT,Int.reduceLE,Int.reduceEq,Int.reduceToNat,Int.cast_ofNat_Int,↓reduceIte, *, ht.cellsV, (width_ret k1 hA.2.2.1).call]
  refine (words_ret (v := v) (by omega) (by omega) (fun t' ht' => by have := sufs_small (r := false) (n := v) (t := t') (Int.le_refl 0) (by omega) ht'; unfold wordsL; omega) (wd t) hw4 _).toFX fun wv H1 x01 hwv => ?_
  have c1 : H1[H.length]? = some (.cells [.i v, rows]) := x01.get trivial (by simp)
  have hx1 : Kx (fun _ => True) H H1 := (Kx.app _ _ _).trans x01 fun _ _ _ => trivial
  have l01 := (List.getElem?_eq_some_iff.1 c1).1
  have hr1 := hlow.kp hx1.kp.weakT
  have hwv1 : Sl (fun b => H.length ≤ b ∧ b < H1.length) H1 wv (sufs false v (wd t) 0) := hwv.low.weak fun b h => ⟨by have := h.1; simp at this; omega, h.2⟩
  obtain ⟨l, el⟩ : ∃ l, sufs false v (wd t) 0 = l := ⟨_, rfl⟩
  have hll : ∀ r ∈ l, r.length = wd t := by rw [← el]; exact fun r hr => sufs_len hr
  rw [el] at hwv1 ⊢
  clear el hwv x01 k1
  simp (disch := (first | assumption | omega | (simp only [List.length_append, List.length_cons, List.length_nil]; omega))) only [↓wD,wU,Nat.reduceBEq,zx150,zx151,zx159,zx160,zx161,zx162,Nat.reduceAdd,Nat.reduceSub,Nat.reduceMul,Nat.reduceLeDiff,Nat.reduceLT,Nat.reduceEqDiff,Int.reduceAdd,Int.reduceSub,Int.reduceMul,Int.reduceNeg,Int.reduceLT,Int.reduceLE,Int.reduceEq,Int.reduceToNat,Int.cast_ofNat_Int,↓reduceIte, *, hwv1.L]
  refine Wp.for l.length (fun i a H' => ∃ u, a 1 = .i k ∧ a 2 = .p H.length 0 ∧ a 5 = u ∧ a 6 = .i (bestF (rgain t k) (l.take i)).2 ∧ a 19 = wv ∧ a 20 = .i l.length ∧ a 21 = .i i ∧ Gr H1 H' ∧ Sl (fun b => H.length ≤ b ∧ b < H1.length) H' u (bestF (rgain t k) (l.take i)).1) ?_ ?_
  · rintro i a H2 hi ⟨u, a1, a2, a5, a6, a19, a20, a21, hg, hu⟩ ih
    have hbw := hwv1.bound
    simp (disch := (first | assumption | omega | (simp only [List.length_append, List.length_cons, List.length_nil]; omega))) only [↓wD,wU,Nat.reduceBEq,zx150,zx151,zx159,zx160,zx161,zx162,Nat.reduceAdd,Nat.reduceSub,Nat.reduceMul,Nat.reduceLeDiff,Nat.reduceLT,Nat.reduceEqDiff,Int.reduceAdd,Int.reduceSub,Int.reduceMul,Int.reduceNeg,Int.reduceLT,Int.reduceLE,Int.reduceEq,Int.reduceToNat,Int.cast_ofNat_Int,↓reduceIte, *]
    refine condP_split (fun hlt => ?_) (fun hlt => ?_)
    · have hi' : i < l.length := by omega
      have hwv2 := hwv1.gr hg
      have g := hwv2.get (k := (i : Int)) (by omega) (by omega)
      have c2 := hg.get c1
      have ebs := bestF_succ (g := rgain t k) hi'
      have hxl := hll _ (mem_gi hi')
      have hrow2 := hr1.gr hg
      obtain ⟨x, ex⟩ : ∃ x, gi l (i : Int) = x := ⟨_, rfl⟩
      obtain ⟨xu, exu⟩ : ∃ xu, wv.get H2 i = xu := ⟨_, rfl⟩
      obtain ⟨B, eB⟩ : ∃ B, bestF (rgain t k) (l.take i) = B := ⟨_, rfl⟩
      obtain ⟨B', eB'⟩ : ∃ B', bestF (rgain t k) (l.take (i + 1)) = B' := ⟨_, rfl⟩
      rw [ex, exu] at g
      rw [ex] at ebs hxl
      rw [eB'] at ebs
      rw [eB] at ebs hu a6
      obtain ⟨B1, B2⟩ := B
      simp only at hu a6 ebs
      clear eB ex
      simp (disch := (first | assumption | omega | (simp only [List.length_append, List.length_cons, List.length_nil]; omega))) only [↓wD,wU,Nat.reduceBEq,zx150,zx151,zx159,zx160,zx161,zx162,Nat.reduceAdd,Nat.reduceSub,Nat.reduceMul,Nat.reduceLeDiff,Nat.reduceLT,Nat.reduceEqDiff,Int.reduceAdd,Int.reduceSub,Int.reduceMul,Int.reduceNeg,Int.reduceLT,Int.reduceLE,Int.reduceEq,Int.reduceToNat,Int.cast_ofNat_Int,↓reduceIte, *, hwv2.L, ldn_of c2, (width_ret hrow2 hA.2.2.1).call]
      clear exu
      refine (choose_ret (n := wd t) (by omega) (by omega) (fun t' x ht' hx => by have := sufs_small (r := true) (n := wd t) (t := t') hx (by omega) ht'; omega) k (by omega) 0 (by omega) (by omega) H2).toFX fun cv H3 x23 hcv => ?_
      have eg : rgain t k x = rgainT t (sufs true (wd t) k 0) x := rfl
      have hcl0 : ∀ c ∈ sufs true (wd t) k 0, c.length = k ∧ ∀ z ∈ c, 0 ≤ z ∧ z < wd t := fun c hc => ⟨sufs_len hc, sufs_in (Int.le_refl 0) hc⟩
      obtain ⟨cl, ecl⟩ : ∃ cl, sufs true (wd t) k 0 = cl := ⟨_, rfl⟩
      rw [ecl] at hcv eg hcl0
      rw [eg] at ebs
      clear ecl eg
      have hcv3 := hcv.low.weak (q := fun b => b < H3.length) fun b h => h.2
      have hg3 : Gr H1 H3 := hg.trans x23.kp.weakT
      have hx3 := g.kp x23.kp.weakT
      have hu3 := hu.kp x23.kp.weakT
      have hbc := hcv3.bound
      simp (disch := (first | assumption | omega | (simp only [List.length_append, List.length_cons, List.length_nil]; omega))) only [↓wD,wU,Nat.reduceBEq,zx150,zx151,zx159,zx160,zx161,zx162,Nat.reduceAdd,Nat.reduceSub,Nat.reduceMul,Nat.reduceLeDiff,Nat.reduceLT,Nat.reduceEqDiff,Int.reduceAdd,Int.reduceSub,Int.reduceMul,Int.reduceNeg,Int.reduceLT,Int.reduceLE,Int.reduceEq,Int.reduceToNat,Int.cast_ofNat_Int,↓reduceIte, *, hcv3.L]
      refine Wp.for cl.length (fun j a H' => a 1 = .i k ∧ a 2 = .p H.length 0 ∧ a 5 = u ∧ a 6 = .i B2 ∧ a 19 = wv ∧ a 20 = .i l.length ∧ a 21 = .i i ∧ a 8 = xu ∧ a 28 = cv ∧ a 29 = .i cl.length ∧ a 30 = .i j ∧ Gr H3 H' ∧ a 9 = .i (rgainT t (cl.take j) x)) ?_ ?_
      · clear a1 a2 a5 a6 a19 a20 a21
        rintro j a H4 hj ⟨a1, a2, a5, a6, a19, a20, a21, a8, a28, a29, a30, hg4, a9⟩ ih2
        simp (disch := (first | assumption | omega | (simp only [List.length_append, List.length_cons, List.length_nil]; omega))) only [↓wD,wU,Nat.reduceBEq,zx150,zx151,zx159,zx160,zx161,zx162,Nat.reduceAdd,Nat.reduceSub,Nat.reduceMul,Nat.reduceLeDiff,Nat.reduceLT,Nat.reduceEqDiff,Int.reduceAdd,Int.reduceSub,Int.reduceMul,Int.reduceNeg,Int.reduceLT,Int.reduceLE,Int.reduceEq,Int.reduceToNat,Int.cast_ofNat_Int,↓reduceIte, *]
        refine condP_split (fun hlt2 => ?_) (fun hlt2 => ?_)
        · have hj' : j < cl.length := by omega
          have hcv4 := hcv3.gr hg4
          have gc := hcv4.get (k := (j : Int)) (by omega) (by omega)
          have hcs := hcl0 _ (mem_gi hj')
          have hgs := rgainT_succ (t := t) (row := x) hj'
          have hgl := rgainT_le (t := t) (cl := cl.take j) (row := x)
          rw [List.length_take] at hgl
          obtain ⟨cs, ecs⟩ : ∃ cs, gi cl (j : Int) = cs := ⟨_, rfl⟩
          obtain ⟨cu, ecu⟩ : ∃ cu, cv.get H4 j = cu := ⟨_, rfl⟩
          rw [ecs, ecu] at gc
          rw [ecs] at hcs hgs
          clear ecs
          have hx4 := hx3.gr hg4
          clear ebs
          simp (disch := (first | assumption | omega | (simp only [List.length_append, List.length_cons, List.length_nil]; omega))) only [↓wD,wU,Nat.reduceBEq,zx150,zx151,zx159,zx160,zx161,zx162,Nat.reduceAdd,Nat.reduceSub,Nat.reduceMul,Nat.reduceLeDiff,Nat.reduceLT,Nat.reduceEqDiff,Int.reduceAdd,Int.reduceSub,Int.reduceMul,Int.reduceNeg,Int.reduceLT,Int.reduceLE,Int.reduceEq,Int.reduceToNat,Int.cast_ofNat_Int,↓reduceIte, *, hcv4.L, gc.I]
          clear ecu
          have gclow := gc.low.weak (q := fun b => b < H4.length) fun b h => h.2
          have hx4low := hx4.low.weak (q := fun b => b < H4.length) fun b h => h.2
          refine Wp.for cs.length (fun c a H' => ∃ w, a 1 = .i k ∧ a 2 = .p H.length 0 ∧ a 5 = u ∧ a 6 = .i B2 ∧ a 19 = wv ∧ a 20 = .i l.length ∧ a 21 = .i i ∧ a 8 = xu ∧ a 28 = cv ∧ a 29 = .i cl.length ∧ a 30 = .i j ∧ a 9 = .i (rgainT t (cl.take j) x) ∧ a 11 = cu ∧ a 34 = cu ∧ a 35 = .i cs.length ∧ a 36 = .i c ∧ a 12 = w ∧ Gr H4 H' ∧ Acc H4.length (fun _ => True) H' w ((cs.take c).map (gi x))) ?_ ?_
          · clear a1 a2 a5 a6 a19 a20 a21 a8 a28 a29 a30 a9
            rintro c a H5 hc ⟨w, a1, a2, a5, a6, a19, a20, a21, a8, a28, a29, a30, a9, a11, a34, a35, a36, a12, hg5, hw5⟩ ih3
            simp (disch := (first | assumption | omega | (simp only [List.length_append, List.length_cons, List.length_nil]; omega))) only [↓wD,wU,Nat.reduceBEq,zx150,zx151,zx159,zx160,zx161,zx162,Nat.reduceAdd,Nat.reduceSub,Nat.reduceMul,Nat.reduceLeDiff,Nat.reduceLT,Nat.reduceEqDiff,Int.reduceAdd,Int.reduceSub,Int.reduceMul,Int.reduceNeg,Int.reduceLT,Int.reduceLE,Int.reduceEq,Int.reduceToNat,Int.cast_ofNat_Int,↓reduceIte, *]
            refine condP_split (fun hlt3 => ?_) (fun hlt3 => ?_)
            · have hc' : c < cs.length := by omega
              have gc5 := gclow.gr hg5
              have hx5 := hx4low.gr hg5
              have hcin := hcs.2 _ (mem_gi hc')
              have h45 := hg5.1
              simp (disch := (first | assumption | omega | (simp only [List.length_append, List.length_cons, List.length_nil]; omega))) only [↓wD,wU,Nat.reduceBEq,zx150,zx151,zx159,zx160,zx161,zx162,Nat.reduceAdd,Nat.reduceSub,Nat.reduceMul,Nat.reduceLeDiff,Nat.reduceLT,Nat.reduceEqDiff,Int.reduceAdd,Int.reduceSub,Int.reduceMul,Int.reduceNeg,Int.reduceLT,Int.reduceLE,Int.reduceEq,Int.reduceToNat,Int.cast_ofNat_Int,↓reduceIte, *, gc5.I, hx5.I]
              refine hw5.pushI (by have := hx1.1; have := hg3.1; have := hg4.1; omega) hg5.1 (by simp; omega) fun w' H6 hw6 hk6 hl6 _ => ?_
              simp (disch := (first | assumption | omega | (simp only [List.length_append, List.length_cons, List.length_nil]; omega))) only [↓wD,wU,Nat.reduceBEq,zx150,zx151,zx159,zx160,zx161,zx162,Nat.reduceAdd,Nat.reduceSub,Nat.reduceMul,Nat.reduceLeDiff,Nat.reduceLT,Nat.reduceEqDiff,Int.reduceAdd,Int.reduceSub,Int.reduceMul,Int.reduceNeg,Int.reduceLT,Int.reduceLE,Int.reduceEq,Int.reduceToNat,Int.cast_ofNat_Int,↓reduceIte, *]
              refine (ih3 hc').go ⟨w', ?_⟩
              simp (disch := (first | assumption | omega | (simp only [List.length_append, List.length_cons, List.length_nil]; omega))) only [↓wD,wU,Nat.reduceBEq,zx150,zx151,zx159,zx160,zx161,zx162,Nat.reduceAdd,Nat.reduceSub,Nat.reduceMul,Nat.reduceLeDiff,Nat.reduceLT,Nat.reduceEqDiff,Int.reduceAdd,Int.reduceSub,Int.reduceMul,Int.reduceNeg,Int.reduceLT,Int.reduceLE,Int.reduceEq,Int.reduceToNat,Int.cast_ofNat_Int,↓reduceIte, *]
              rw [take_gi hc', List.map_append]
              exact ⟨hg5.push hw5 (Nat.le_refl _) hk6, hw6⟩
            · obtain rfl : c = cs.length := by omega
              rw [List.take_length] at hw5
              have hg35 : Gr H3 H5 := hg4.trans hg5
              have hg15 : Gr H1 H5 := hg3.trans hg35
              have c5 := hg15.get c1
              have hrow5 := hr1.gr hg15
              have gc5 := gclow.gr hg5
              have htm := times_ret hrow5 gc5 (Acc.int hw5) (by simp) fun z hz => ⟨(hcs.2 z hz).1, fun r hr => by rw [(hA.row hr).1]; exact (hcs.2 z hz).2⟩
              obtain ⟨n, en⟩ : ∃ n, oft t cs (cs.map (gi x)) = n := ⟨_, rfl⟩
              rw [en] at htm hgs
              clear en
              simp (disch := (first | assumption | omega | (simp only [List.length_append, List.length_cons, List.length_nil]; omega))) only [↓wD,wU,Nat.reduceBEq,zx150,zx151,zx159,zx160,zx161,zx162,Nat.reduceAdd,Nat.reduceSub,Nat.reduceMul,Nat.reduceLeDiff,Nat.reduceLT,Nat.reduceEqDiff,Int.reduceAdd,Int.reduceSub,Int.reduceMul,Int.reduceNeg,Int.reduceLT,Int.reduceLE,Int.reduceEq,Int.reduceToNat,Int.cast_ofNat_Int,↓reduceIte, *, ld_of c5, htm.call]
              refine condP_split (fun h0 => ?_) (fun h0 => ?_)
              · rw [if_pos (by omega)] at hgs
                clear h0
                simp (disch := (first | assumption | omega | (simp only [List.length_append, List.length_cons, List.length_nil]; omega))) only [↓wD,wU,Nat.reduceBEq,zx150,zx151,zx159,zx160,zx161,zx162,Nat.reduceAdd,Nat.reduceSub,Nat.reduceMul,Nat.reduceLeDiff,Nat.reduceLT,Nat.reduceEqDiff,Int.reduceAdd,Int.reduceSub,Int.reduceMul,Int.reduceNeg,Int.reduceLT,Int.reduceLE,Int.reduceEq,Int.reduceToNat,Int.cast_ofNat_Int,↓reduceIte, *]
                refine (ih2 hj').go ?_
                simp (disch := (first | assumption | omega | (simp only [List.length_append, List.length_cons, List.length_nil]; omega))) only [↓wD,wU,Nat.reduceBEq,zx150,zx151,zx159,zx160,zx161,zx162,Nat.reduceAdd,Nat.reduceSub,Nat.reduceMul,Nat.reduceLeDiff,Nat.reduceLT,Nat.reduceEqDiff,Int.reduceAdd,Int.reduceSub,Int.reduceMul,Int.reduceNeg,Int.reduceLT,Int.reduceLE,Int.reduceEq,Int.reduceToNat,Int.cast_ofNat_Int,↓reduceIte, *]
              · rw [if_neg (by omega)] at hgs
                clear h0
                simp (disch := (first | assumption | omega | (simp only [List.length_append, List.length_cons, List.length_nil]; omega))) only [↓wD,wU,Nat.reduceBEq,zx150,zx151,zx159,zx160,zx161,zx162,Nat.reduceAdd,Nat.reduceSub,Nat.reduceMul,Nat.reduceLeDiff,Nat.reduceLT,Nat.reduceEqDiff,Int.reduceAdd,Int.reduceSub,Int.reduceMul,Int.reduceNeg,Int.reduceLT,Int.reduceLE,Int.reduceEq,Int.reduceToNat,Int.cast_ofNat_Int,↓reduceIte, *]
                refine (ih2 hj').go ?_
                simp (disch := (first | assumption | omega | (simp only [List.length_append, List.length_cons, List.length_nil]; omega))) only [↓wD,wU,Nat.reduceBEq,zx150,zx151,zx159,zx160,zx161,zx162,Nat.reduceAdd,Nat.reduceSub,Nat.reduceMul,Nat.reduceLeDiff,Nat.reduceLT,Nat.reduceEqDiff,Int.reduceAdd,Int.reduceSub,Int.reduceMul,Int.reduceNeg,Int.reduceLT,Int.reduceLE,Int.reduceEq,Int.reduceToNat,Int.cast_ofNat_Int,↓reduceIte, *]
          · simp (disch := (first | assumption | omega | (simp only [List.length_append, List.length_cons, List.length_nil]; omega))) only [↓wD,wU,Nat.reduceBEq,zx150,zx151,zx159,zx160,zx161,zx162,Nat.reduceAdd,Nat.reduceSub,Nat.reduceMul,Nat.reduceLeDiff,Nat.reduceLT,Nat.reduceEqDiff,Int.reduceAdd,Int.reduceSub,Int.reduceMul,Int.reduceNeg,Int.reduceLT,Int.reduceLE,Int.reduceEq,Int.reduceToNat,Int.cast_ofNat_Int,↓reduceIte, *]
            exact ⟨.nils, rfl, Gr.refl _, Acc.nil⟩
        · obtain rfl : j = cl.length := by omega
          rw [List.take_length] at a9
          obtain ⟨G, eG⟩ : ∃ G, rgainT t cl x = G := ⟨_, rfl⟩
          rw [eG] at a9 ebs
          clear eG
          by_cases hb : B2 < (G : Int)
          · rw [if_pos hb] at ebs
            subst ebs
            have q2 : Sl (fun b => H.length ≤ b ∧ b < H1.length) H4 xu x := hx3.gr hg4
            have q1 : Gr H1 H4 := hg3.trans hg4
            simp (disch := (first | assumption | omega | (simp only [List.length_append, List.length_cons, List.length_nil]; omega))) only [↓wD,wU,Nat.reduceBEq,zx150,zx151,zx159,zx160,zx161,zx162,Nat.reduceAdd,Nat.reduceSub,Nat.reduceMul,Nat.reduceLeDiff,Nat.reduceLT,Nat.reduceEqDiff,Int.reduceAdd,Int.reduceSub,Int.reduceMul,Int.reduceNeg,Int.reduceLT,Int.reduceLE,Int.reduceEq,Int.reduceToNat,Int.cast_ofNat_Int,↓reduceIte, *]
            refine (ih hi').go ⟨xu, ?_⟩
            simp (disch := (first | assumption | omega | (simp only [List.length_append, List.length_cons, List.length_nil]; omega))) only [↓wD,wU,Nat.reduceBEq,zx150,zx151,zx159,zx160,zx161,zx162,Nat.reduceAdd,Nat.reduceSub,Nat.reduceMul,Nat.reduceLeDiff,Nat.reduceLT,Nat.reduceEqDiff,Int.reduceAdd,Int.reduceSub,Int.reduceMul,Int.reduceNeg,Int.reduceLT,Int.reduceLE,Int.reduceEq,Int.reduceToNat,Int.cast_ofNat_Int,↓reduceIte, *]
          · rw [if_neg hb] at ebs
            subst ebs
            have q2 : Sl (fun b => H.length ≤ b ∧ b < H1.length) H4 u B1 := hu3.gr hg4
            have q1 : Gr H1 H4 := hg3.trans hg4
            simp (disch := (first | assumption | omega | (simp only [List.length_append, List.length_cons, List.length_nil]; omega))) only [↓wD,wU,Nat.reduceBEq,zx150,zx151,zx159,zx160,zx161,zx162,Nat.reduceAdd,Nat.reduceSub,Nat.reduceMul,Nat.reduceLeDiff,Nat.reduceLT,Nat.reduceEqDiff,Int.reduceAdd,Int.reduceSub,Int.reduceMul,Int.reduceNeg,Int.reduceLT,Int.reduceLE,Int.reduceEq,Int.reduceToNat,Int.cast_ofNat_Int,↓reduceIte, *]
            refine (ih hi').go ⟨u, ?_⟩
            simp (disch := (first | assumption | omega | (simp only [List.length_append, List.length_cons, List.length_nil]; omega))) only [↓wD,wU,Nat.reduceBEq,zx150,zx151,zx159,zx160,zx161,zx162,Nat.reduceAdd,Nat.reduceSub,Nat.reduceMul,Nat.reduceLeDiff,Nat.reduceLT,Nat.reduceEqDiff,Int.reduceAdd,Int.reduceSub,Int.reduceMul,Int.reduceNeg,Int.reduceLT,Int.reduceLE,Int.reduceEq,Int.reduceToNat,Int.cast_ofNat_Int,↓reduceIte, *]
      · clear ebs
        (simp (disch := (first | assumption | omega | (simp only [List.length_append, List.length_cons, List.length_nil]; omega))) only [↓wD,wU,Nat.reduceBEq,zx150,zx151,zx159,zx160,zx161,zx162,Nat.reduceAdd,Nat.reduceSub,Nat.reduceMul,Nat.reduceLeDiff,Nat.reduceLT,Nat.reduceEqDiff,Int.reduceAdd,Int.reduceSub,Int.reduceMul,Int.reduceNeg,Int.reduceLT,Int.reduceLE,Int.reduceEq,Int.reduceToNat,Int.cast_ofNat_Int,↓reduceIte, *]) <;> first | exact ⟨Gr.refl _, by simp [rgainT]⟩ | simp [rgainT]
    · rw [List.take_of_length_le (by omega)] at hu
      simp (disch := (first | assumption | omega | (simp only [List.length_append, List.length_cons, List.length_nil]; omega))) only [↓wD,wU,Nat.reduceBEq,zx150,zx151,zx159,zx160,zx161,zx162,Nat.reduceAdd,Nat.reduceSub,Nat.reduceMul,Nat.reduceLeDiff,Nat.reduceLT,Nat.reduceEqDiff,Int.reduceAdd,Int.reduceSub,Int.reduceMul,Int.reduceNeg,Int.reduceLT,Int.reduceLE,Int.reduceEq,Int.reduceToNat,Int.cast_ofNat_Int,↓reduceIte, *]
      exact hu.weak fun b h => .inr h.1
  · simp (disch := (first | assumption | omega | (simp only [List.length_append, List.length_cons, List.length_nil]; omega))) only [↓wD,wU,Nat.reduceBEq,zx150,zx151,zx159,zx160,zx161,zx162,Nat.reduceAdd,Nat.reduceSub,Nat.reduceMul,Nat.reduceLeDiff,Nat.reduceLT,Nat.reduceEqDiff,Int.reduceAdd,Int.reduceSub,Int.reduceMul,Int.reduceNeg,Int.reduceLT,Int.reduceLE,Int.reduceEq,Int.reduceToNat,Int.cast_ofNat_Int,↓reduceIte, *]
    exact ⟨.nils, rfl, by simp [bestF], Gr.refl _, Sl.nil⟩
end Go.Proofs.Ytalaadcbpjnglaa
namespace Go.Proofs.Ytalaadcbpjnglaa
open Go Go.AM Go.Proofs
def addL (v : Int) (t : List (List Int)) (k : Nat) : List Int := (bestF (gain k (zeros (allL v t k))) (sufs false v (wd t) 0)).1
theorem radd_same {v : Int} {t : List (List Int)} {k : Nat} (hA : ArrP v t) : (bestF (rgain t k) (sufs false v (wd t) 0)).1 = addL v t k := by
  unfold addL
  rw [bestF_congr fun r hr => ?_]
  have := mem_sufs_f.1 hr
  exact (gain_same (v := v) (by have := hA.1; omega) this.1 this.2).symm
end Go.Proofs.Ytalaadcbpjnglaa
namespace Go.Proofs.Ytalaadcbpjnglaa
open Go Go.AM Go.Proofs
theorem nothing_ret {p : Nat → Prop} {H : Heap} {rows : AV} {v : Int} {xs : List (List Int)} (hr : Sl p H rows xs) : RetP E 23 [.ag [.i v, rows]] H (.b (decide (v = 0 ∧ xs = []))) := by
  refine RetP.ro rfl fn23 rfl rfl ?_
  unfold f23A
  repeat' (first | refine condP_split (fun _ => ?_) (fun _ => ?_) | refine guardP_split (fun _ => ?_) (fun _ => ?_) | refine guardP_splitF (fun _ => ?_) (fun _ => ?_) | (simp (disch := (first | assumption | omega | (simp only [List.length_append, List.length_cons, List.length_nil]; omega))) only [↓wD,wU,Nat.reduceBEq,zx150,zx151,zx159,zx160,zx161,zx162,Nat.reduceAdd,Nat.reduceSub,Nat.reduceMul,Nat.reduceLeDiff,Nat.reduceLT,Nat.reduceEqDiff,Int.reduceAdd,Int.reduceSub,Int.reduceMul,Int.reduceNeg,Int.reduceLT,Int.reduceLE,Int.reduceEq,Int.reduceToNat,Int.cast_ofNat_Int,↓reduceIte, *, hr.L]))
  · cases xs with
    | nil => simp_all
    | cons x r => simp_all; omega
  · simp
end Go.Proofs.Ytalaadcbpjnglaa
namespace Go.Proofs.Ytalaadcbpjnglaa
open Go Go.AM Go.Proofs
theorem own_ret {p : Nat → Prop} {H : Heap} {rows : AV} {v : Int} {xs : List (List Int)} (hr : Sl p H rows xs) : Ret E 21 [.ag [.i v, rows]] p H ((v, xs) : Int × List (List Int)) := by
  refine Ret.ro rfl fn21 rfl ?_
  unfold f21A
  repeat' (first | refine condP_split (fun _ => ?_) (fun _ => ?_) | refine guardP_split (fun _ => ?_) (fun _ => ?_) | refine guardP_splitF (fun _ => ?_) (fun _ => ?_) | (simp (disch := (first | assumption | omega | (simp only [List.length_append, List.length_cons, List.length_nil]; omega))) only [↓wD,wU,Nat.reduceBEq,zx150,zx151,zx159,zx160,zx161,zx162,Nat.reduceAdd,Nat.reduceSub,Nat.reduceMul,Nat.reduceLeDiff,Nat.reduceLT,Nat.reduceEqDiff,Int.reduceAdd,Int.reduceSub,Int.reduceMul,Int.reduceNeg,Int.reduceLT,Int.reduceLE,Int.reduceEq,Int.reduceToNat,Int.cast_ofNat_Int,↓reduceIte, *, hr.L]))
  exact rv_si (((hr.app _).app _).weak fun _ h => .inl h)
theorem same_ret {p q : Nat → Prop} {H : Heap} {r1 r2 : AV} {v1 v2 : Int} {xs ys : List (List Int)} (h1 : Sl p H r1 xs) (h2 : Sl q H r2 ys) :
    RetP E 20 [.ag [.i v1, r1], .ag [.i v2, r2]] H (.b (decide (v1 = v2 ∧ xs = ys))) := by
  refine RetP.ro rfl fn20 rfl rfl ?_
  unfold f20A
  have hb1 := h1.bound
  have hb2 := h2.bound
  repeat' (first | refine condP_split (fun _ => ?_) (fun _ => ?_) | refine guardP_split (fun _ => ?_) (fun _ => ?_) | refine guardP_splitF (fun _ => ?_) (fun _ => ?_) | (simp (disch := (first | assumption | omega | (simp only [List.length_append, List.length_cons, List.length_nil]; omega))) only [↓wD,wU,Nat.reduceBEq,zx150,zx151,zx159,zx160,zx161,zx162,Nat.reduceAdd,Nat.reduceSub,Nat.reduceMul,Nat.reduceLeDiff,Nat.reduceLT,Nat.reduceEqDiff,Int.reduceAdd,Int.reduceSub,Int.reduceMul,Int.reduceNeg,Int.reduceLT,Int.reduceLE,Int.reduceEq,Int.reduceToNat,Int.cast_ofNat_Int,↓reduceIte, *, h1.L, h2.L]))
  · rename_i hl
    exact avb_f fun h => hl (by simp_all)
  · rename_i hv hl
    have hl : xs.length = ys.length := by omega
    obtain rfl : v1 = v2 := by omega
    clear hv
    have k1 := (h1.app [.cells [.i v1, r1]]).app [.cells [.i v1, r2]]
    have k2 := (h2.app [.cells [.i v1, r1]]).app [.cells [.i v1, r2]]
    refine Wp.for xs.length (fun i a H' => H' = H ++ [.cells [.i v1, r1]] ++ [.cells [.i v1, r2]] ∧ a 3 = .p (H.length + 1) 0 ∧ a 24 = r1 ∧ a 25 = .i xs.length ∧ a 26 = .i i ∧ xs.take i = ys.take i) ?_ ?_
    · rintro i a H' hi ⟨rfl, h3, h24, h25, h26, hh⟩ ih
      simp (disch := (first | assumption | omega | (simp only [List.length_append, List.length_cons, List.length_nil]; omega))) only [↓wD,wU,Nat.reduceBEq,zx150,zx151,zx159,zx160,zx161,zx162,Nat.reduceAdd,Nat.reduceSub,Nat.reduceMul,Nat.reduceLeDiff,Nat.reduceLT,Nat.reduceEqDiff,Int.reduceAdd,Int.reduceSub,Int.reduceMul,Int.reduceNeg,Int.reduceLT,Int.reduceLE,Int.reduceEq,Int.reduceToNat,Int.cast_ofNat_Int,↓reduceIte, *]
      refine condP_split (fun hlt => ?_) (fun hlt => ?_)
      · have hi1 : i < xs.length := by omega
        have g1 := k1.get (k := (i : Int)) (by omega) (by omega)
        have g2 := k2.get (k := (i : Int)) (by omega) (by omega)
        have gb1 := g1.bound
        repeat' (first | refine condP_split (fun _ => ?_) (fun _ => ?_) | refine guardP_split (fun _ => ?_) (fun _ => ?_) | refine guardP_splitF (fun _ => ?_) (fun _ => ?_) | (simp (disch := (first | assumption | omega | (simp only [List.length_append, List.length_cons, List.length_nil]; omega))) only [↓wD,wU,Nat.reduceBEq,zx150,zx151,zx159,zx160,zx161,zx162,Nat.reduceAdd,Nat.reduceSub,Nat.reduceMul,Nat.reduceLeDiff,Nat.reduceLT,Nat.reduceEqDiff,Int.reduceAdd,Int.reduceSub,Int.reduceMul,Int.reduceNeg,Int.reduceLT,Int.reduceLE,Int.reduceEq,Int.reduceToNat,Int.cast_ofNat_Int,↓reduceIte, *, k1.L, k2.L, g1.I, g2.I]))
        · rename_i hne
          exact avb_f fun h => hne (by simp_all)
        · rename_i hll
          have hll : (gi xs i).length = (gi ys i).length := by omega
          refine Wp.for (gi xs i).length (fun j a H' => H' = H ++ [.cells [.i v1, r1]] ++ [.cells [.i v1, r2]] ∧ a 3 = .p (H.length + 1) 0 ∧ a 24 = r1 ∧ a 25 = .i xs.length ∧ a 26 = .i i ∧ a 5 = .i i ∧ a 40 = r1.get (H ++ [.cells [.i v1, r1]] ++ [.cells [.i v1, r2]]) i ∧ a 41 = .i (gi xs i).length ∧ a 42 = .i j ∧ (gi xs i).take j = (gi ys i).take j) ?_ ?_
          · rintro j a H' hj ⟨rfl, h3, h24, h25, h26, h5, h40, h41, h42, hh2⟩ ih2
            simp (disch := (first | assumption | omega | (simp only [List.length_append, List.length_cons, List.length_nil]; omega))) only [↓wD,wU,Nat.reduceBEq,zx150,zx151,zx159,zx160,zx161,zx162,Nat.reduceAdd,Nat.reduceSub,Nat.reduceMul,Nat.reduceLeDiff,Nat.reduceLT,Nat.reduceEqDiff,Int.reduceAdd,Int.reduceSub,Int.reduceMul,Int.reduceNeg,Int.reduceLT,Int.reduceLE,Int.reduceEq,Int.reduceToNat,Int.cast_ofNat_Int,↓reduceIte, *]
            refine condP_split (fun hlt2 => ?_) (fun hlt2 => ?_)
            · have hj1 : j < (gi xs i).length := by omega
              repeat' (first | refine condP_split (fun _ => ?_) (fun _ => ?_) | refine guardP_split (fun _ => ?_) (fun _ => ?_) | refine guardP_splitF (fun _ => ?_) (fun _ => ?_) | (simp (disch := (first | assumption | omega | (simp only [List.length_append, List.length_cons, List.length_nil]; omega))) only [↓wD,wU,Nat.reduceBEq,zx150,zx151,zx159,zx160,zx161,zx162,Nat.reduceAdd,Nat.reduceSub,Nat.reduceMul,Nat.reduceLeDiff,Nat.reduceLT,Nat.reduceEqDiff,Int.reduceAdd,Int.reduceSub,Int.reduceMul,Int.reduceNeg,Int.reduceLT,Int.reduceLE,Int.reduceEq,Int.reduceToNat,Int.cast_ofNat_Int,↓reduceIte, *, k1.L, k2.L, g1.I, g2.I]))
              · rename_i hne
                exact avb_f fun h => hne (by simp_all)
              · rename_i hee
                refine (ih2 hj1).go ⟨rfl, ?_⟩
                simp (disch := (first | assumption | omega | (simp only [List.length_append, List.length_cons, List.length_nil]; omega))) only [↓wD,wU,Nat.reduceBEq,zx150,zx151,zx159,zx160,zx161,zx162,Nat.reduceAdd,Nat.reduceSub,Nat.reduceMul,Nat.reduceLeDiff,Nat.reduceLT,Nat.reduceEqDiff,Int.reduceAdd,Int.reduceSub,Int.reduceMul,Int.reduceNeg,Int.reduceLT,Int.reduceLE,Int.reduceEq,Int.reduceToNat,Int.cast_ofNat_Int,↓reduceIte, *]
                exact take_eq_succ hh2 hj1 (by omega) (by omega)
            · simp (disch := (first | assumption | omega | (simp only [List.length_append, List.length_cons, List.length_nil]; omega))) only [↓wD,wU,Nat.reduceBEq,zx150,zx151,zx159,zx160,zx161,zx162,Nat.reduceAdd,Nat.reduceSub,Nat.reduceMul,Nat.reduceLeDiff,Nat.reduceLT,Nat.reduceEqDiff,Int.reduceAdd,Int.reduceSub,Int.reduceMul,Int.reduceNeg,Int.reduceLT,Int.reduceLE,Int.reduceEq,Int.reduceToNat,Int.cast_ofNat_Int,↓reduceIte, *]
              refine (ih hi1).go ⟨rfl, ?_⟩
              simp (disch := (first | assumption | omega | (simp only [List.length_append, List.length_cons, List.length_nil]; omega))) only [↓wD,wU,Nat.reduceBEq,zx150,zx151,zx159,zx160,zx161,zx162,Nat.reduceAdd,Nat.reduceSub,Nat.reduceMul,Nat.reduceLeDiff,Nat.reduceLT,Nat.reduceEqDiff,Int.reduceAdd,Int.reduceSub,Int.reduceMul,Int.reduceNeg,Int.reduceLT,Int.reduceLE,Int.reduceEq,Int.reduceToNat,Int.cast_ofNat_Int,↓reduceIte, *]
              exact take_eq_succ hh hi1 (by omega) (take_all hh2 hll (by omega))
          · (simp (disch := (first | assumption | omega | (simp only [List.length_append, List.length_cons, List.length_nil]; omega))) only [↓wD,wU,Nat.reduceBEq,zx150,zx151,zx159,zx160,zx161,zx162,Nat.reduceAdd,Nat.reduceSub,Nat.reduceMul,Nat.reduceLeDiff,Nat.reduceLT,Nat.reduceEqDiff,Int.reduceAdd,Int.reduceSub,Int.reduceMul,Int.reduceNeg,Int.reduceLT,Int.reduceLE,Int.reduceEq,Int.reduceToNat,Int.cast_ofNat_Int,↓reduceIte, *]) <;> simp
      · simp (disch := (first | assumption | omega | (simp only [List.length_append, List.length_cons, List.length_nil]; omega))) only [↓wD,wU,Nat.reduceBEq,zx150,zx151,zx159,zx160,zx161,zx162,Nat.reduceAdd,Nat.reduceSub,Nat.reduceMul,Nat.reduceLeDiff,Nat.reduceLT,Nat.reduceEqDiff,Int.reduceAdd,Int.reduceSub,Int.reduceMul,Int.reduceNeg,Int.reduceLT,Int.reduceLE,Int.reduceEq,Int.reduceToNat,Int.cast_ofNat_Int,↓reduceIte, *]
        exact avb_t (take_all hh hl (by omega))
    · (simp (disch := (first | assumption | omega | (simp only [List.length_append, List.length_cons, List.length_nil]; omega))) only [↓wD,wU,Nat.reduceBEq,zx150,zx151,zx159,zx160,zx161,zx162,Nat.reduceAdd,Nat.reduceSub,Nat.reduceMul,Nat.reduceLeDiff,Nat.reduceLT,Nat.reduceEqDiff,Int.reduceAdd,Int.reduceSub,Int.reduceMul,Int.reduceNeg,Int.reduceLT,Int.reduceLE,Int.reduceEq,Int.reduceToNat,Int.cast_ofNat_Int,↓reduceIte, *]) <;> simp
  · rename_i hv
    exact avb_f fun h => h.1
end Go.Proofs.Ytalaadcbpjnglaa
namespace Go.Proofs.Ytalaadcbpjnglaa
open Go Go.AM Go.Proofs
/-- rows are added until nothing is missing, while there are less than 16 -/
def greedyG (v : Int) (k : Nat) : Nat → List (List Int) → Option (List (List Int))
  | 0, t => if (zeros (allL v t k)).length = 0 then some t else none
  | n + 1, t => if (zeros (allL v t k)).length = 0 then some t else greedyG v k n (t ++ [addL v t k])
/-- what Greedy is told -/
def greedyT (v : Int) : Option (List (List Int)) → T2 (Int × List (List Int)) Int
  | some t => T2.mk (v, t) 0
  | none => T2.mk (0, []) 6
def smallP (v k t : Int) : Prop := (v = 2 ∨ v = 3) ∧ (t = 1 ∨ t = 2) ∧ t ≤ k ∧ k ≤ 4
instance (v k t : Int) : Decidable (smallP v k t) := by unfold smallP; infer_instance
theorem words_ne {v : Int} (hv : 1 ≤ v) (n : Nat) : 0 < (sufs false v n 0).length := sufs_ne_f (by omega) rfl
theorem addL_row {v : Int} {t : List (List Int)} {k : Nat} (hA : ArrP v t) : (addL v t k).length = wd t ∧ ChR v (addL v t k) := by
  have := (bestF_spec (g := gain k (zeros (allL v t k))) (words_ne (show 1 ≤ v by have := hA.1; omega) (wd t))).1
  exact mem_sufs_f.1 this
theorem wd_app {t : List (List Int)} {r : List Int} (h : 1 ≤ t.length) : wd (t ++ [r]) = wd t := by
  unfold wd
  cases t with
  | nil => simp at h
  | cons x t => rfl
theorem ArrP_app {v : Int} {t : List (List Int)} {r : List Int} (hA : ArrP v t) (h16 : t.length < 16) (hr : r.length = wd t ∧ ChR v r) : ArrP v (t ++ [r]) := by
  refine ⟨hA.1, hA.2.1, by simp, by simp; omega, fun x hx => ?_⟩
  have e : (gi (t ++ [r]) 0).length = wd t := wd_app (r := r) hA.2.2.1
  have hw := hA.wd
  rw [e]
  rcases List.mem_append.1 hx with h | h
  · exact hA.2.2.2.2 x h
  · simp at h; subst h
    exact ⟨hr.1, by omega, by omega, hr.2⟩
theorem start_ok {v : Int} {k : Nat} (hv : v = 2 ∨ v = 3) (hk : 1 ≤ k) (h4 : k ≤ 4) : ArrP v [List.replicate k 0] ∧ wd [List.replicate k (0 : Int)] = k := by
  refine ⟨⟨by omega, by omega, by simp, by simp, fun x hx => ?_⟩, ?_⟩
  · simp at hx
    subst hx
    refine ⟨rfl, by simp; omega, by simp; omega, fun z hz => ?_⟩
    have := List.eq_of_mem_replicate hz
    omega
  · simp [wd, gi]
theorem start_acc {H : Heap} {k : Nat} {b : Nat} (hb : H.length + 2 ≠ b) (hb1 : H.length + 1 ≠ b) (hk : k ≤ 4) (N : Heap) (w : Blk) :
    Acc (H.length + 1) (fun c => c ≠ b ∧ H.length < c) (H ++ [w] ++ [.cells (reps k [.int .i64 0])] ++ [.cells [.s 1 (H.length + 1) 0 k (some k)]] ++ N) (.s 1 (H.length + 2) 0 1 (some 1)) [List.replicate k (0 : Int)] := by
  refine .inr ⟨H.length + 2, 0, some 1, [.s 1 (H.length + 1) 0 k (some k)], rfl, by omega, ?_, by simp; decide, by simp, fun i hi => ?_⟩
  · simp [List.getElem?_append]
  · have : i = 0 := by simp at hi; omega
    subst this
    refine ⟨_, rfl, ?_⟩
    have hm := (MI.mk (L := (H ++ [w]).length) (H := H ++ [w]) (n := k) (Nat.le_refl _) (by omega)).sl
    have hl : (H ++ [w]).length = H.length + 1 := by simp
    rw [hl] at hm
    refine ((hm.low.app [.cells [.s 1 (H.length + 1) 0 k (some k)]]).app N).weak fun c hc => ?_
    simp at hc
    omega
theorem greedy_ret {p : Nat → Prop} {H : Heap} {v : Int} {k n : Nat} (hv : v = 2 ∨ v = 3) (h1 : 1 ≤ k) (h2 : k ≤ 2) (hn : k ≤ n) (h4 : n ≤ 4) :
    Ret E 43 [.i v, .i n, .i k] p H (greedyT v (greedyG v k 15 [List.replicate n 0])) := by
  refine Ret.ro rfl fn43 rfl ?_
  unfold f43A
  have hv2 : 2 ≤ v ∧ v ≤ 3 := by omega
  obtain ⟨sA, sw⟩ := start_ok hv (show 1 ≤ n by omega) h4
  obtain ⟨R, eR⟩ : ∃ R, greedyG v k 15 [List.replicate n 0] = R := ⟨_, rfl⟩
  rw [eR]
  simp (disch := (first | assumption | omega | (simp only [List.length_append, List.length_cons, List.length_nil]; omega))) only [↓wD,wU,Nat.reduceBEq,zx150,zx151,zx159,zx160,zx161,zx162,Nat.reduceAdd,Nat.reduceSub,Nat.reduceMul,Nat.reduceLeDiff,Nat.reduceLT,Nat.reduceEqDiff,Int.reduceAdd,Int.reduceSub,Int.reduceMul,Int.reduceNeg,Int.reduceLT,Int.reduceLE,Int.reduceEq,Int.reduceToNat,Int.cast_ofNat_Int,↓reduceIte, *]
  refine Wp.dec (fun i a H' => ∃ u t, a 2 = .i k ∧ a 6 = .p H.length 0 ∧ a 8 = .p (H.length + 3) 0 ∧ Gr H H' ∧ H'[H.length]? = some (.cells [.i 0, .nils]) ∧ H'[H.length + 3]? = some (.cells [.i v, u]) ∧ Acc (H.length + 1) (fun c => c ≠ H.length + 3 ∧ H.length < c) H' u t ∧ (∀ b, u.blk = some b → b ≠ H.length + 3) ∧ ArrP v t ∧ wd t = n ∧ t.length + i = 16 ∧ greedyG v k i t = R) 15 ?_ ?_
  · clear sA sw eR
    rintro i a H1 ⟨u, t, a2, a6, a8, hg, c6, c8, hu, hub, hA, hw, hl, eR⟩ ih
    have hlr := hg.1
    have b8 := (List.getElem?_eq_some_iff.1 c8).1
    have b6 := (List.getElem?_eq_some_iff.1 c6).1
    have k1 := hu.sl
    have key0 : (zeros (allL v t k)).length = 0 → R = some t := fun h => by
      rw [← eR]
      cases i with
      | zero => unfold greedyG; rw [if_pos h]
      | succ i => unfold greedyG; rw [if_pos h]
    have key1 : ¬ (zeros (allL v t k)).length = 0 → i = 0 → R = none := fun h h0 => by
      rw [← eR, h0]
      unfold greedyG; rw [if_neg h]
    have key2 : ¬ (zeros (allL v t k)).length = 0 → ∀ m, i = m + 1 → greedyG v k m (t ++ [addL v t k]) = R := fun h m h0 => by
      rw [← eR, h0]
      conv => rhs; unfold greedyG
      rw [if_neg h]
    have hzl : (zeros (allL v t k)).length ≤ 1000000 := Nat.le_trans (zeros_len _) (allL_len hA (by omega))
    clear eR
    simp (disch := (first | assumption | omega | (simp only [List.length_append, List.length_cons, List.length_nil]; omega))) only [↓wD,wU,Nat.reduceBEq,zx150,zx151,zx159,zx160,zx161,zx162,Nat.reduceAdd,Nat.reduceSub,Nat.reduceMul,Nat.reduceLeDiff,Nat.reduceLT,Nat.reduceEqDiff,Int.reduceAdd,Int.reduceSub,Int.reduceMul,Int.reduceNeg,Int.reduceLT,Int.reduceLE,Int.reduceEq,Int.reduceToNat,Int.cast_ofNat_Int,↓reduceIte, *, ldn_of c8]
    refine (missing_ret k1 hA (by omega) (allL_len hA (by omega))).toFX fun mv H2 x12 hmv => ?_
    have d6 := x12.get trivial c6
    have d8 := x12.get trivial c8
    have hu2 := hu.kp x12.kp (fun _ _ => trivial) (fun _ _ => trivial)
    have hg2 := hg.trans x12.kp.weakT
    have k2 := hu2.sl
    have hl2 := x12.1
    generalize zeros (allL v t k) = Z at hmv key0 key1 key2 hzl
    clear hu k1 c6 c8 hg x12
    simp (disch := (first | assumption | omega | (simp only [List.length_append, List.length_cons, List.length_nil]; omega))) only [↓wD,wU,Nat.reduceBEq,zx150,zx151,zx159,zx160,zx161,zx162,Nat.reduceAdd,Nat.reduceSub,Nat.reduceMul,Nat.reduceLeDiff,Nat.reduceLT,Nat.reduceEqDiff,Int.reduceAdd,Int.reduceSub,Int.reduceMul,Int.reduceNeg,Int.reduceLT,Int.reduceLE,Int.reduceEq,Int.reduceToNat,Int.cast_ofNat_Int,↓reduceIte, *, hmv.L]
    refine condP_split (fun hpos => ?_) (fun hpos => ?_)
    · simp (disch := (first | assumption | omega | (simp only [List.length_append, List.length_cons, List.length_nil]; omega))) only [↓wD,wU,Nat.reduceBEq,zx150,zx151,zx159,zx160,zx161,zx162,Nat.reduceAdd,Nat.reduceSub,Nat.reduceMul,Nat.reduceLeDiff,Nat.reduceLT,Nat.reduceEqDiff,Int.reduceAdd,Int.reduceSub,Int.reduceMul,Int.reduceNeg,Int.reduceLT,Int.reduceLE,Int.reduceEq,Int.reduceToNat,Int.cast_ofNat_Int,↓reduceIte, *, ld_of d8, hu2.sl.L]
      refine condP_split (fun h16 => ?_) (fun h16 => ?_)
      · have := key1 (by omega) (by omega)
        subst this
        clear key0 key1 key2
        simp (disch := (first | assumption | omega | (simp only [List.length_append, List.length_cons, List.length_nil]; omega))) only [↓wD,wU,Nat.reduceBEq,zx150,zx151,zx159,zx160,zx161,zx162,Nat.reduceAdd,Nat.reduceSub,Nat.reduceMul,Nat.reduceLeDiff,Nat.reduceLT,Nat.reduceEqDiff,Int.reduceAdd,Int.reduceSub,Int.reduceMul,Int.reduceNeg,Int.reduceLT,Int.reduceLE,Int.reduceEq,Int.reduceToNat,Int.cast_ofNat_Int,↓reduceIte, *, st_of d6]
        simp (disch := (first | assumption | omega | (simp only [List.length_append, List.length_cons, List.length_nil]; omega))) only [↓wD,wU,Nat.reduceBEq,zx150,zx151,zx159,zx160,zx161,zx162,Nat.reduceAdd,Nat.reduceSub,Nat.reduceMul,Nat.reduceLeDiff,Nat.reduceLT,Nat.reduceEqDiff,Int.reduceAdd,Int.reduceSub,Int.reduceMul,Int.reduceNeg,Int.reduceLT,Int.reduceLE,Int.reduceEq,Int.reduceToNat,Int.cast_ofNat_Int,↓reduceIte, *, ldn_of (get_set d6)]
        exact rv_2 (rv_si Sl.nil) rv_i
      · obtain ⟨m, rfl⟩ : ∃ m, i = m + 1 := ⟨i - 1, by omega⟩
        have hR := key2 (by omega) m rfl
        clear key0 key1 key2
        simp (disch := (first | assumption | omega | (simp only [List.length_append, List.length_cons, List.length_nil]; omega))) only [↓wD,wU,Nat.reduceBEq,zx150,zx151,zx159,zx160,zx161,zx162,Nat.reduceAdd,Nat.reduceSub,Nat.reduceMul,Nat.reduceLeDiff,Nat.reduceLT,Nat.reduceEqDiff,Int.reduceAdd,Int.reduceSub,Int.reduceMul,Int.reduceNeg,Int.reduceLT,Int.reduceLE,Int.reduceEq,Int.reduceToNat,Int.cast_ofNat_Int,↓reduceIte, *, ld_of d8, ldn_of d8]
        refine (add_ret k2 hA (by omega)).toFX fun y H3 x23 hy => ?_
        change Sl _ H3 y (addL v t k) at hy
        have f6 := x23.get trivial d6
        have f8 := x23.get trivial d8
        have hu3 := hu2.kp x23.kp (fun _ _ => trivial) (fun _ _ => trivial)
        have hg3 := hg2.trans x23.kp.weakT
        have hl3 := x23.1
        have hrow := addL_row (k := k) hA
        have hA' := ArrP_app (r := addL v t k) hA (by omega) hrow
        have hw' : wd (t ++ [addL v t k]) = n := by rw [wd_app hA.2.2.1, hw]
        simp (disch := (first | assumption | omega | (simp only [List.length_append, List.length_cons, List.length_nil]; omega))) only [↓wD,wU,Nat.reduceBEq,zx150,zx151,zx159,zx160,zx161,zx162,Nat.reduceAdd,Nat.reduceSub,Nat.reduceMul,Nat.reduceLeDiff,Nat.reduceLT,Nat.reduceEqDiff,Int.reduceAdd,Int.reduceSub,Int.reduceMul,Int.reduceNeg,Int.reduceLT,Int.reduceLE,Int.reduceEq,Int.reduceToNat,Int.cast_ofNat_Int,↓reduceIte, *, hy.cellsV]
        refine appX (hu3.pushL (by omega) (by omega) hy.low (fun b hb => ⟨by omega, fun e => by have := (hu2.blk_lt e).2; omega⟩) (by omega) fun u' H4 hu' _ hl4 hb4 => fun x34 => ?_)
        have a34 : Kx (fun b => u.blk ≠ some b) H3 H4 := ((Kx.app (fun b => u.blk ≠ some b) H3 _).trans x34 fun b _ h => h)
        have n6 : u.blk ≠ some H.length := fun e => by have := (hu3.blk_lt e).1; omega
        have n8 : u.blk ≠ some (H.length + 3) := fun e => hub _ e rfl
        have g6 := a34.get n6 f6
        have g8 := a34.get n8 f8
        have hub' : ∀ b, u'.blk = some b → b ≠ H.length + 3 := fun b e => by rw [hb4] at e; simp only [Option.some.injEq] at e; omega
        have hu5 := hu'.kp (Kx.set (H.length + 3) H4 (.cells [.i v, u'])).kp hub' (fun b h => h.1)
        have hg5 : Gr H (H4.set (H.length + 3) (.cells [.i v, u'])) := (hg3.push hu3 (by omega) a34.kp).set (by omega) _
        have q6 : (H4.set (H.length + 3) (.cells [.i v, u']))[H.length]? = some (.cells [.i 0, .nils]) := by rw [List.getElem?_set_ne (by omega)]; exact g6
        have q8 := get_set (k := .cells [.i v, u']) g8
        have hlen : t.length + 1 + m = 16 := by omega
        clear hw hrow hb4
        simp (disch := (first | assumption | omega | (simp only [List.length_append, List.length_cons, List.length_nil]; omega))) only [↓wD,wU,Nat.reduceBEq,zx150,zx151,zx159,zx160,zx161,zx162,Nat.reduceAdd,Nat.reduceSub,Nat.reduceMul,Nat.reduceLeDiff,Nat.reduceLT,Nat.reduceEqDiff,Int.reduceAdd,Int.reduceSub,Int.reduceMul,Int.reduceNeg,Int.reduceLT,Int.reduceLE,Int.reduceEq,Int.reduceToNat,Int.cast_ofNat_Int,↓reduceIte, *, hu'.cellsV, st_of g8]
        refine ih.go ⟨m, by omega, u', t ++ [addL v t k], ?_⟩
        simp (disch := (first | assumption | omega | (simp only [List.length_append, List.length_cons, List.length_nil]; omega))) only [↓wD,wU,Nat.reduceBEq,zx150,zx151,zx159,zx160,zx161,zx162,Nat.reduceAdd,Nat.reduceSub,Nat.reduceMul,Nat.reduceLeDiff,Nat.reduceLT,Nat.reduceEqDiff,Int.reduceAdd,Int.reduceSub,Int.reduceMul,Int.reduceNeg,Int.reduceLT,Int.reduceLE,Int.reduceEq,Int.reduceToNat,Int.cast_ofNat_Int,↓reduceIte, a2, a6, a8]
        exact ⟨hg5, q6, q8, hu5, hub', hA', hw', hlen, hR⟩
    · have := key0 (by omega)
      subst this
      clear key0 key1 key2
      simp (disch := (first | assumption | omega | (simp only [List.length_append, List.length_cons, List.length_nil]; omega))) only [↓wD,wU,Nat.reduceBEq,zx150,zx151,zx159,zx160,zx161,zx162,Nat.reduceAdd,Nat.reduceSub,Nat.reduceMul,Nat.reduceLeDiff,Nat.reduceLT,Nat.reduceEqDiff,Int.reduceAdd,Int.reduceSub,Int.reduceMul,Int.reduceNeg,Int.reduceLT,Int.reduceLE,Int.reduceEq,Int.reduceToNat,Int.cast_ofNat_Int,↓reduceIte, *, ldn_of d8, st_of d6, hu2.cellsV]
      simp (disch := (first | assumption | omega | (simp only [List.length_append, List.length_cons, List.length_nil]; omega))) only [↓wD,wU,Nat.reduceBEq,zx150,zx151,zx159,zx160,zx161,zx162,Nat.reduceAdd,Nat.reduceSub,Nat.reduceMul,Nat.reduceLeDiff,Nat.reduceLT,Nat.reduceEqDiff,Int.reduceAdd,Int.reduceSub,Int.reduceMul,Int.reduceNeg,Int.reduceLT,Int.reduceLE,Int.reduceEq,Int.reduceToNat,Int.cast_ofNat_Int,↓reduceIte, *, ldn_of (get_set d6)]
      exact rv_2 (rv_si ((hu2.kp (Kx.set H.length H2 (.cells [.i v, u])).kp (fun b e => by have := (hu2.blk_lt e).1; omega) (fun b h => by omega)).sl.weak fun b h => .inr (by omega))) rv_i
  · have hst := start_acc (H := H) (k := n) (b := H.length + 3) (by omega) (by omega) h4 [.cells [.i v, .s 1 (H.length + 2) 0 1 (some 1)]] (.cells [.i 0, .nils])
    simp (disch := (first | assumption | omega | (simp only [List.length_append, List.length_cons, List.length_nil]; omega))) only [↓wD,wU,Nat.reduceBEq,zx150,zx151,zx159,zx160,zx161,zx162,Nat.reduceAdd,Nat.reduceSub,Nat.reduceMul,Nat.reduceLeDiff,Nat.reduceLT,Nat.reduceEqDiff,Int.reduceAdd,Int.reduceSub,Int.reduceMul,Int.reduceNeg,Int.reduceLT,Int.reduceLE,Int.reduceEq,Int.reduceToNat,Int.cast_ofNat_Int,↓reduceIte, *]
    refine ⟨.s 1 (H.length + 2) 0 1 (some 1), [List.replicate n 0], ?_⟩
    refine ⟨(((Gr.refl H).app _).app _).app _ |>.app _, ?_, hst, (fun b e => by simp only [AV.blk, Option.some.injEq] at e; omega), sA, sw, rfl, eR⟩
    simp [List.getElem?_append]
theorem greedy_err {p : Nat → Prop} {H : Heap} {v k n : Int} (h : ¬ smallP v n k) : Ret E 43 [.i v, .i n, .i k] p H (T2.mk ((0, []) : Int × List (List Int)) (2 : Int)) := by
  refine Ret.ro rfl fn43 rfl ?_
  unfold f43A
  by_cases h1 : v < 2
  · clear h
    simp (disch := (first | assumption | omega | (simp only [List.length_append, List.length_cons, List.length_nil]; omega))) only [↓wD,wU,Nat.reduceBEq,zx150,zx151,zx159,zx160,zx161,zx162,Nat.reduceAdd,Nat.reduceSub,Nat.reduceMul,Nat.reduceLeDiff,Nat.reduceLT,Nat.reduceEqDiff,Int.reduceAdd,Int.reduceSub,Int.reduceMul,Int.reduceNeg,Int.reduceLT,Int.reduceLE,Int.reduceEq,Int.reduceToNat,Int.cast_ofNat_Int,↓reduceIte, *]
    exact rv_2 (rv_si Sl.nil) rv_i
  by_cases h2 : 3 < v
  · clear h
    simp (disch := (first | assumption | omega | (simp only [List.length_append, List.length_cons, List.length_nil]; omega))) only [↓wD,wU,Nat.reduceBEq,zx150,zx151,zx159,zx160,zx161,zx162,Nat.reduceAdd,Nat.reduceSub,Nat.reduceMul,Nat.reduceLeDiff,Nat.reduceLT,Nat.reduceEqDiff,Int.reduceAdd,Int.reduceSub,Int.reduceMul,Int.reduceNeg,Int.reduceLT,Int.reduceLE,Int.reduceEq,Int.reduceToNat,Int.cast_ofNat_Int,↓reduceIte, *]
    exact rv_2 (rv_si Sl.nil) rv_i
  by_cases h3 : k < 1
  · clear h
    simp (disch := (first | assumption | omega | (simp only [List.length_append, List.length_cons, List.length_nil]; omega))) only [↓wD,wU,Nat.reduceBEq,zx150,zx151,zx159,zx160,zx161,zx162,Nat.reduceAdd,Nat.reduceSub,Nat.reduceMul,Nat.reduceLeDiff,Nat.reduceLT,Nat.reduceEqDiff,Int.reduceAdd,Int.reduceSub,Int.reduceMul,Int.reduceNeg,Int.reduceLT,Int.reduceLE,Int.reduceEq,Int.reduceToNat,Int.cast_ofNat_Int,↓reduceIte, *]
    exact rv_2 (rv_si Sl.nil) rv_i
  by_cases h4 : 2 < k
  · clear h
    simp (disch := (first | assumption | omega | (simp only [List.length_append, List.length_cons, List.length_nil]; omega))) only [↓wD,wU,Nat.reduceBEq,zx150,zx151,zx159,zx160,zx161,zx162,Nat.reduceAdd,Nat.reduceSub,Nat.reduceMul,Nat.reduceLeDiff,Nat.reduceLT,Nat.reduceEqDiff,Int.reduceAdd,Int.reduceSub,Int.reduceMul,Int.reduceNeg,Int.reduceLT,Int.reduceLE,Int.reduceEq,Int.reduceToNat,Int.cast_ofNat_Int,↓reduceIte, *]
    exact rv_2 (rv_si Sl.nil) rv_i
  by_cases h5 : n < k
  · clear h
    simp (disch := (first | assumption | omega | (simp only [List.length_append, List.length_cons, List.length_nil]; omega))) only [↓wD,wU,Nat.reduceBEq,zx150,zx151,zx159,zx160,zx161,zx162,Nat.reduceAdd,Nat.reduceSub,Nat.reduceMul,Nat.reduceLeDiff,Nat.reduceLT,Nat.reduceEqDiff,Int.reduceAdd,Int.reduceSub,Int.reduceMul,Int.reduceNeg,Int.reduceLT,Int.reduceLE,Int.reduceEq,Int.reduceToNat,Int.cast_ofNat_Int,↓reduceIte, *]
    exact rv_2 (rv_si Sl.nil) rv_i
  · have h6 : 4 < n := by unfold smallP at h; omega
    clear h
    simp (disch := (first | assumption | omega | (simp only [List.length_append, List.length_cons, List.length_nil]; omega))) only [↓wD,wU,Nat.reduceBEq,zx150,zx151,zx159,zx160,zx161,zx162,Nat.reduceAdd,Nat.reduceSub,Nat.reduceMul,Nat.reduceLeDiff,Nat.reduceLT,Nat.reduceEqDiff,Int.reduceAdd,Int.reduceSub,Int.reduceMul,Int.reduceNeg,Int.reduceLT,Int.reduceLE,Int.reduceEq,Int.reduceToNat,Int.cast_ofNat_Int,↓reduceIte, *]
    exact rv_2 (rv_si Sl.nil) rv_i
theorem small_ret {H : Heap} {v k n : Int} : RetP E 44 [.i v, .i n, .i k] H (.b (decide (smallP v n k))) := by
  refine RetP.ro rfl fn44 rfl rfl ?_
  unfold f44A smallP
  (repeat' (first | refine condP_split (fun _ => ?_) (fun _ => ?_) | refine guardP_split (fun _ => ?_) (fun _ => ?_) | refine guardP_splitF (fun _ => ?_) (fun _ => ?_) | (simp (disch := (first | assumption | omega | (simp only [List.length_append, List.length_cons, List.length_nil]; omega))) only [↓wD,wU,Nat.reduceBEq,zx150,zx151,zx159,zx160,zx161,zx162,Nat.reduceAdd,Nat.reduceSub,Nat.reduceMul,Nat.reduceLeDiff,Nat.reduceLT,Nat.reduceEqDiff,Int.reduceAdd,Int.reduceSub,Int.reduceMul,Int.reduceNeg,Int.reduceLT,Int.reduceLE,Int.reduceEq,Int.reduceToNat,Int.cast_ofNat_Int,↓reduceIte, *]))) <;> (simp; try omega)
theorem rgreedy_ret {p : Nat → Prop} {H : Heap} {v : Int} {k n : Nat} (hv : v = 2 ∨ v = 3) (h1 : 1 ≤ k) (h2 : k ≤ 2) (hn : k ≤ n) (h4 : n ≤ 4) :
    Ret E 45 [.i v, .i n, .i k] p H (greedyT v (greedyG v k 15 [List.replicate n 0])) := by
  refine Ret.ro rfl fn45 rfl ?_
  unfold f45A
  have hv2 : 2 ≤ v ∧ v ≤ 3 := by omega
  obtain ⟨sA, sw⟩ := start_ok hv (show 1 ≤ n by omega) h4
  obtain ⟨R, eR⟩ : ∃ R, greedyG v k 15 [List.replicate n 0] = R := ⟨_, rfl⟩
  rw [eR]
  simp (disch := (first | assumption | omega | (simp only [List.length_append, List.length_cons, List.length_nil]; omega))) only [↓wD,wU,Nat.reduceBEq,zx150,zx151,zx159,zx160,zx161,zx162,Nat.reduceAdd,Nat.reduceSub,Nat.reduceMul,Nat.reduceLeDiff,Nat.reduceLT,Nat.reduceEqDiff,Int.reduceAdd,Int.reduceSub,Int.reduceMul,Int.reduceNeg,Int.reduceLT,Int.reduceLE,Int.reduceEq,Int.reduceToNat,Int.cast_ofNat_Int,↓reduceIte, *]
  refine Wp.dec (fun i a H' => ∃ u t, a 2 = .i k ∧ a 6 = .p H.length 0 ∧ a 8 = .p (H.length + 3) 0 ∧ Gr H H' ∧ H'[H.length]? = some (.cells [.i 0, .nils]) ∧ H'[H.length + 3]? = some (.cells [.i v, u]) ∧ Acc (H.length + 1) (fun c => c ≠ H.length + 3 ∧ H.length < c) H' u t ∧ (∀ b, u.blk = some b → b ≠ H.length + 3) ∧ ArrP v t ∧ wd t = n ∧ t.length + i = 16 ∧ greedyG v k i t = R) 15 ?_ ?_
  · clear sA sw eR
    rintro i a H1 ⟨u, t, a2, a6, a8, hg, c6, c8, hu, hub, hA, hw, hl, eR⟩ ih
    have hlr := hg.1
    have b8 := (List.getElem?_eq_some_iff.1 c8).1
    have b6 := (List.getElem?_eq_some_iff.1 c6).1
    have k1 := hu.sl
    have key0 : (zeros (allL v t k)).length = 0 → R = some t := fun h => by
      rw [← eR]
      cases i with
      | zero => unfold greedyG; rw [if_pos h]
      | succ i => unfold greedyG; rw [if_pos h]
    have key1 : ¬ (zeros (allL v t k)).length = 0 → i = 0 → R = none := fun h h0 => by
      rw [← eR, h0]
      unfold greedyG; rw [if_neg h]
    have key2 : ¬ (zeros (allL v t k)).length = 0 → ∀ m, i = m + 1 → greedyG v k m (t ++ [addL v t k]) = R := fun h m h0 => by
      rw [← eR, h0]
      conv => rhs; unfold greedyG
      rw [if_neg h]
    have hrc := rcovers_ret (k := k) k1 hA (by omega)
    clear eR
    generalize zeros (allL v t k) = Z at hrc key0 key1 key2
    by_cases hZ : Z.length = 0
    · have := key0 hZ
      subst this
      rw [decide_eq_true hZ] at hrc
      clear key0 key1 key2 hZ
      simp (disch := (first | assumption | omega | (simp only [List.length_append, List.length_cons, List.length_nil]; omega))) only [↓wD,wU,Nat.reduceBEq,zx150,zx151,zx159,zx160,zx161,zx162,Nat.reduceAdd,Nat.reduceSub,Nat.reduceMul,Nat.reduceLeDiff,Nat.reduceLT,Nat.reduceEqDiff,Int.reduceAdd,Int.reduceSub,Int.reduceMul,Int.reduceNeg,Int.reduceLT,Int.reduceLE,Int.reduceEq,Int.reduceToNat,Int.cast_ofNat_Int,↓reduceIte, *, ldn_of c8, hrc.call]
      simp (disch := (first | assumption | omega | (simp only [List.length_append, List.length_cons, List.length_nil]; omega))) only [↓wD,wU,Nat.reduceBEq,zx150,zx151,zx159,zx160,zx161,zx162,Nat.reduceAdd,Nat.reduceSub,Nat.reduceMul,Nat.reduceLeDiff,Nat.reduceLT,Nat.reduceEqDiff,Int.reduceAdd,Int.reduceSub,Int.reduceMul,Int.reduceNeg,Int.reduceLT,Int.reduceLE,Int.reduceEq,Int.reduceToNat,Int.cast_ofNat_Int,↓reduceIte, *, ldn_of c8, st_of c6, hu.cellsV]
      simp (disch := (first | assumption | omega | (simp only [List.length_append, List.length_cons, List.length_nil]; omega))) only [↓wD,wU,Nat.reduceBEq,zx150,zx151,zx159,zx160,zx161,zx162,Nat.reduceAdd,Nat.reduceSub,Nat.reduceMul,Nat.reduceLeDiff,Nat.reduceLT,Nat.reduceEqDiff,Int.reduceAdd,Int.reduceSub,Int.reduceMul,Int.reduceNeg,Int.reduceLT,Int.reduceLE,Int.reduceEq,Int.reduceToNat,Int.cast_ofNat_Int,↓reduceIte, *, ldn_of (get_set c6)]
      exact rv_2 (rv_si ((hu.kp (Kx.set H.length H1 (.cells [.i v, u])).kp (fun b e => by have := (hu.blk_lt e).1; omega) (fun b h => by omega)).sl.weak fun b h => .inr (by omega))) rv_i
    · rw [decide_eq_false hZ] at hrc
      by_cases h16 : t.length = 16
      · have := key1 hZ (by omega)
        subst this
        have h16' : 16 ≤ (t.length : Int) := by omega
        clear key0 key1 key2 hZ h16
        simp (disch := (first | assumption | omega | (simp only [List.length_append, List.length_cons, List.length_nil]; omega))) only [↓wD,wU,Nat.reduceBEq,zx150,zx151,zx159,zx160,zx161,zx162,Nat.reduceAdd,Nat.reduceSub,Nat.reduceMul,Nat.reduceLeDiff,Nat.reduceLT,Nat.reduceEqDiff,Int.reduceAdd,Int.reduceSub,Int.reduceMul,Int.reduceNeg,Int.reduceLT,Int.reduceLE,Int.reduceEq,Int.reduceToNat,Int.cast_ofNat_Int,↓reduceIte, *, ldn_of c8, hrc.call, ld_of c8, hu.sl.L, st_of c6]
        simp (disch := (first | assumption | omega | (simp only [List.length_append, List.length_cons, List.length_nil]; omega))) only [↓wD,wU,Nat.reduceBEq,zx150,zx151,zx159,zx160,zx161,zx162,Nat.reduceAdd,Nat.reduceSub,Nat.reduceMul,Nat.reduceLeDiff,Nat.reduceLT,Nat.reduceEqDiff,Int.reduceAdd,Int.reduceSub,Int.reduceMul,Int.reduceNeg,Int.reduceLT,Int.reduceLE,Int.reduceEq,Int.reduceToNat,Int.cast_ofNat_Int,↓reduceIte, *, ldn_of (get_set c6)]
        exact rv_2 (rv_si Sl.nil) rv_i
      · obtain ⟨m, rfl⟩ : ∃ m, i = m + 1 := ⟨i - 1, by have := hA.2.2.2.1; omega⟩
        have hR := key2 hZ m rfl
        have h16' : ¬ 16 ≤ (t.length : Int) := by have := hA.2.2.2.1; omega
        clear key0 key1 key2 hZ h16
        simp (disch := (first | assumption | omega | (simp only [List.length_append, List.length_cons, List.length_nil]; omega))) only [↓wD,wU,Nat.reduceBEq,zx150,zx151,zx159,zx160,zx161,zx162,Nat.reduceAdd,Nat.reduceSub,Nat.reduceMul,Nat.reduceLeDiff,Nat.reduceLT,Nat.reduceEqDiff,Int.reduceAdd,Int.reduceSub,Int.reduceMul,Int.reduceNeg,Int.reduceLT,Int.reduceLE,Int.reduceEq,Int.reduceToNat,Int.cast_ofNat_Int,↓reduceIte, *, ldn_of c8, hrc.call, ld_of c8, hu.sl.L]
        refine (radd_ret k1 hA (by omega) (by omega)).toFX fun y H3 x23 hy => ?_
        rw [radd_same hA] at hy
        have f6 := x23.get trivial c6
        have f8 := x23.get trivial c8
        have hu3 := hu.kp x23.kp (fun _ _ => trivial) (fun _ _ => trivial)
        have hg3 := hg.trans x23.kp.weakT
        have hl3 := x23.1
        have hrow := addL_row (k := k) hA
        have hA' := ArrP_app (r := addL v t k) hA (by omega) hrow
        have hw' : wd (t ++ [addL v t k]) = n := by rw [wd_app hA.2.2.1, hw]
        simp (disch := (first | assumption | omega | (simp only [List.length_append, List.length_cons, List.length_nil]; omega))) only [↓wD,wU,Nat.reduceBEq,zx150,zx151,zx159,zx160,zx161,zx162,Nat.reduceAdd,Nat.reduceSub,Nat.reduceMul,Nat.reduceLeDiff,Nat.reduceLT,Nat.reduceEqDiff,Int.reduceAdd,Int.reduceSub,Int.reduceMul,Int.reduceNeg,Int.reduceLT,Int.reduceLE,Int.reduceEq,Int.reduceToNat,Int.cast_ofNat_Int,↓reduceIte, *, hy.cellsV]
        refine appX (hu3.pushL (by omega) (by omega) hy.low (fun b hb => ⟨by omega, fun e => by have := (hu.blk_lt e).2; omega⟩) (by omega) fun u' H4 hu' _ hl4 hb4 => fun x34 => ?_)
        have a34 : Kx (fun b => u.blk ≠ some b) H3 H4 := ((Kx.app (fun b => u.blk ≠ some b) H3 _).trans x34 fun b _ h => h)
        have n6 : u.blk ≠ some H.length := fun e => by have := (hu3.blk_lt e).1; omega
        have n8 : u.blk ≠ some (H.length + 3) := fun e => hub _ e rfl
        have g6 := a34.get n6 f6
        have g8 := a34.get n8 f8
        have hub' : ∀ b, u'.blk = some b → b ≠ H.length + 3 := fun b e => by rw [hb4] at e; simp only [Option.some.injEq] at e; omega
        have hu5 := hu'.kp (Kx.set (H.length + 3) H4 (.cells [.i v, u'])).kp hub' (fun b h => h.1)
        have hg5 : Gr H (H4.set (H.length + 3) (.cells [.i v, u'])) := (hg3.push hu3 (by omega) a34.kp).set (by omega) _
        have q6 : (H4.set (H.length + 3) (.cells [.i v, u']))[H.length]? = some (.cells [.i 0, .nils]) := by rw [List.getElem?_set_ne (by omega)]; exact g6
        have q8 := get_set (k := .cells [.i v, u']) g8
        have hlen : t.length + 1 + m = 16 := by omega
        clear hw hrow hb4
        simp (disch := (first | assumption | omega | (simp only [List.length_append, List.length_cons, List.length_nil]; omega))) only [↓wD,wU,Nat.reduceBEq,zx150,zx151,zx159,zx160,zx161,zx162,Nat.reduceAdd,Nat.reduceSub,Nat.reduceMul,Nat.reduceLeDiff,Nat.reduceLT,Nat.reduceEqDiff,Int.reduceAdd,Int.reduceSub,Int.reduceMul,Int.reduceNeg,Int.reduceLT,Int.reduceLE,Int.reduceEq,Int.reduceToNat,Int.cast_ofNat_Int,↓reduceIte, *, hu'.cellsV, st_of g8]
        refine ih.go ⟨m, by omega, u', t ++ [addL v t k], ?_⟩
        simp (disch := (first | assumption | omega | (simp only [List.length_append, List.length_cons, List.length_nil]; omega))) only [↓wD,wU,Nat.reduceBEq,zx150,zx151,zx159,zx160,zx161,zx162,Nat.reduceAdd,Nat.reduceSub,Nat.reduceMul,Nat.reduceLeDiff,Nat.reduceLT,Nat.reduceEqDiff,Int.reduceAdd,Int.reduceSub,Int.reduceMul,Int.reduceNeg,Int.reduceLT,Int.reduceLE,Int.reduceEq,Int.reduceToNat,Int.cast_ofNat_Int,↓reduceIte, a2, a6, a8]
        exact ⟨hg5, q6, q8, hu5, hub', hA', hw', hlen, hR⟩
  · have hst := start_acc (H := H) (k := n) (b := H.length + 3) (by omega) (by omega) h4 [.cells [.i v, .s 1 (H.length + 2) 0 1 (some 1)]] (.cells [.i 0, .nils])
    simp (disch := (first | assumption | omega | (simp only [List.length_append, List.length_cons, List.length_nil]; omega))) only [↓wD,wU,Nat.reduceBEq,zx150,zx151,zx159,zx160,zx161,zx162,Nat.reduceAdd,Nat.reduceSub,Nat.reduceMul,Nat.reduceLeDiff,Nat.reduceLT,Nat.reduceEqDiff,Int.reduceAdd,Int.reduceSub,Int.reduceMul,Int.reduceNeg,Int.reduceLT,Int.reduceLE,Int.reduceEq,Int.reduceToNat,Int.cast_ofNat_Int,↓reduceIte, *]
    refine ⟨.s 1 (H.length + 2) 0 1 (some 1), [List.replicate n 0], ?_⟩
    refine ⟨(((Gr.refl H).app _).app _).app _ |>.app _, ?_, hst, (fun b e => by simp only [AV.blk, Option.some.injEq] at e; omega), sA, sw, rfl, eR⟩
    simp [List.getElem?_append]
end Go.Proofs.Ytalaadcbpjnglaa
namespace Go.Proofs.Ytalaadcbpjnglaa
open Go Go.AM Go.Proofs
theorem small_nat {v n k : Int} (h : smallP v n k) : ∃ (n' k' : Nat), n = n' ∧ k = k' ∧ (v = 2 ∨ v = 3) ∧ 1 ≤ k' ∧ k' ≤ 2 ∧ k' ≤ n' ∧ n' ≤ 4 := by
  obtain ⟨h1, h2, h3, h4⟩ := h
  exact ⟨n.toNat, k.toNat, by omega, by omega, h1, by omega, by omega, by omega, by omega⟩
/-- whatever Greedy is told, as one value -/
theorem greedy_any {v : Int} {k n : Nat} : ∃ (w : Int) (t : List (List Int)) (e : Int), greedyT v (greedyG v k 15 [List.replicate n 0]) = T2.mk ((w, t) : Int × List (List Int)) e ∧ ((e = 0 ∧ w = v ∧ greedyG v k 15 [List.replicate n 0] = some t) ∨ e = 6) := by
  cases h : greedyG v k 15 [List.replicate n 0] with
  | none => exact ⟨_, _, _, rfl, .inr rfl⟩
  | some t => exact ⟨_, _, _, rfl, .inl ⟨rfl, rfl, rfl⟩⟩
theorem Walk.ArraysGreedy (H : Heap) (v n k : Int) : WpF E H.length 6 [.i v, .i n, .i k] H fun v _ => v = .b true := by
  refine law_of (RetP.ro rfl fn6 rfl rfl ?_)
  unfold f6A
  have mem : ∀ {w : Int} {u : AV} {H1 : Heap} {t : List (List Int)}, Sl (fun _ => True) H1 u t → st H.length (H1 ++ [.cells [.i 0, .nils]]) H1.length 0 [.i w, u] = (if H.length ≤ H1.length then some (H1 ++ [.cells [.i w, u]]) else none) := by
    intro w u H1 t _
    by_cases h : H.length ≤ H1.length
    · rw [if_pos h, st_of (cs := [.i 0, .nils]) (by simp) h (by simp)]
      simp [wr]
    · rw [if_neg h]; simp [st, h]
  by_cases h : smallP v n k
  · obtain ⟨n, k, rfl, rfl, hv, h1, h2, h3, h4⟩ := small_nat h
    obtain ⟨w, t, e, ew, _⟩ := greedy_any (v := v) (k := k) (n := n)
    have g1 := greedy_ret (p := fun _ => False) (H := H) hv h1 h2 h3 h4
    rw [ew] at g1
    simp (disch := (first | assumption | omega | (simp only [List.length_append, List.length_cons, List.length_nil]; omega))) only [↓wD,wU,Nat.reduceBEq,zx150,zx151,zx159,zx160,zx161,zx162,Nat.reduceAdd,Nat.reduceSub,Nat.reduceMul,Nat.reduceLeDiff,Nat.reduceLT,Nat.reduceEqDiff,Int.reduceAdd,Int.reduceSub,Int.reduceMul,Int.reduceNeg,Int.reduceLT,Int.reduceLE,Int.reduceEq,Int.reduceToNat,Int.cast_ofNat_Int,↓reduceIte, *]
    refine g1.toX fun w1 H1 x1 hw => ?_
    obtain ⟨v1, v2, rfl, hv1, hv2⟩ := rv2 hw
    obtain ⟨u, rfl, hu⟩ := rv_si_elim hv1
    obtain rfl := rvi hv2
    have l1 := x1.1
    have hm := mem (w := w) (hu.weak (q := fun _ => True) fun _ _ => trivial)
    rw [if_pos l1] at hm
    clear mem
    have hu0 := hu.low.weak (q := fun b => b < H1.length) fun b h => h.2
    have c0 : (H1 ++ [.cells [.i w, u]])[H1.length]? = some (.cells [.i w, u]) := get_last
    have hu1 := hu0.app [.cells [.i w, u]]
    obtain ⟨H2, e2⟩ : ∃ H2, H1 ++ [.cells [.i w, u]] = H2 := ⟨_, rfl⟩
    rw [e2] at hm c0 hu1
    have l2 : H1.length + 1 = H2.length := by rw [← e2]; simp
    clear e2
    have g2 := rgreedy_ret (p := fun _ => False) (H := H2) hv h1 h2 h3 h4
    rw [ew] at g2
    clear ew g1
    simp (disch := (first | assumption | omega | (simp only [List.length_append, List.length_cons, List.length_nil]; omega))) only [↓wD,wU,Nat.reduceBEq,zx150,zx151,zx159,zx160,zx161,zx162,Nat.reduceAdd,Nat.reduceSub,Nat.reduceMul,Nat.reduceLeDiff,Nat.reduceLT,Nat.reduceEqDiff,Int.reduceAdd,Int.reduceSub,Int.reduceMul,Int.reduceNeg,Int.reduceLT,Int.reduceLE,Int.reduceEq,Int.reduceToNat,Int.cast_ofNat_Int,↓reduceIte, *, hu.cellsV, hm, small_ret.call, decide_eq_true h]
    refine g2.toX fun w1 H3 x3 hw => ?_
    obtain ⟨v1, v2, rfl, hv1, hv2⟩ := rv2 hw
    obtain ⟨u3, rfl, hu3⟩ := rv_si_elim hv1
    obtain rfl := rvi hv2
    have l3 := x3.1
    have c3 := x3.get trivial c0
    have hs3 := hu1.kp (x3.all _).kp
    have hm3 : st H.length (H3 ++ [.cells [.i 0, .nils]]) H3.length 0 [.i w, u3] = some (H3 ++ [.cells [.i w, u3]]) := by
      rw [st_of (cs := [.i 0, .nils]) (by simp) (by omega) (by simp)]
      simp [wr]
    have c4 : (H3 ++ [.cells [.i w, u3]])[H3.length]? = some (.cells [.i w, u3]) := get_last
    have d4 : (H3 ++ [.cells [.i w, u3]])[H1.length]? = some (.cells [.i w, u]) := (Kx.app (fun _ => True) _ _).get trivial c3
    have hs4 := hs3.app [.cells [.i w, u3]]
    have hu4 := hu3.app [.cells [.i w, u3]]
    obtain ⟨H4, e4⟩ : ∃ H4, H3 ++ [.cells [.i w, u3]] = H4 := ⟨_, rfl⟩
    rw [e4] at hm3 c4 d4 hs4 hu4
    clear e4
    simp (disch := (first | assumption | omega | (simp only [List.length_append, List.length_cons, List.length_nil]; omega))) only [↓wD,wU,Nat.reduceBEq,zx150,zx151,zx159,zx160,zx161,zx162,Nat.reduceAdd,Nat.reduceSub,Nat.reduceMul,Nat.reduceLeDiff,Nat.reduceLT,Nat.reduceEqDiff,Int.reduceAdd,Int.reduceSub,Int.reduceMul,Int.reduceNeg,Int.reduceLT,Int.reduceLE,Int.reduceEq,Int.reduceToNat,Int.cast_ofNat_Int,↓reduceIte, *, hu3.cellsV, hm3, ldn_of d4]
    refine (own_ret hs4).toX fun w1 H5 x5 hw => ?_
    obtain ⟨u5, rfl, hu5⟩ := rv_si_elim hw
    have c5 := x5.get trivial c4
    have hu6 := hu4.kp (x5.all _).kp
    simp (disch := (first | assumption | omega | (simp only [List.length_append, List.length_cons, List.length_nil]; omega))) only [↓wD,wU,Nat.reduceBEq,zx150,zx151,zx159,zx160,zx161,zx162,Nat.reduceAdd,Nat.reduceSub,Nat.reduceMul,Nat.reduceLeDiff,Nat.reduceLT,Nat.reduceEqDiff,Int.reduceAdd,Int.reduceSub,Int.reduceMul,Int.reduceNeg,Int.reduceLT,Int.reduceLE,Int.reduceEq,Int.reduceToNat,Int.cast_ofNat_Int,↓reduceIte, *, ldn_of c5, (same_ret hu5 hu6).call, awake_ret.call]
  · simp (disch := (first | assumption | omega | (simp only [List.length_append, List.length_cons, List.length_nil]; omega))) only [↓wD,wU,Nat.reduceBEq,zx150,zx151,zx159,zx160,zx161,zx162,Nat.reduceAdd,Nat.reduceSub,Nat.reduceMul,Nat.reduceLeDiff,Nat.reduceLT,Nat.reduceEqDiff,Int.reduceAdd,Int.reduceSub,Int.reduceMul,Int.reduceNeg,Int.reduceLT,Int.reduceLE,Int.reduceEq,Int.reduceToNat,Int.cast_ofNat_Int,↓reduceIte, *]
    refine (greedy_err (p := fun _ => False) h).toX fun w1 H1 x1 hw => ?_
    obtain ⟨v1, v2, rfl, hv1, hv2⟩ := rv2 hw
    obtain ⟨u, rfl, hu⟩ := rv_si_elim hv1
    obtain rfl := rvi hv2
    have l1 := x1.1
    have hm := mem (w := 0) (hu.weak (q := fun _ => True) fun _ _ => trivial)
    rw [if_pos l1] at hm
    clear mem
    have c0 : (H1 ++ [.cells [.i 0, u]])[H1.length]? = some (.cells [.i 0, u]) := get_last
    have hu1 := hu.app [.cells [.i 0, u]]
    obtain ⟨H2, e2⟩ : ∃ H2, H1 ++ [.cells [.i 0, u]] = H2 := ⟨_, rfl⟩
    rw [e2] at hm c0 hu1
    clear e2
    simp (disch := (first | assumption | omega | (simp only [List.length_append, List.length_cons, List.length_nil]; omega))) only [↓wD,wU,Nat.reduceBEq,zx150,zx151,zx159,zx160,zx161,zx162,Nat.reduceAdd,Nat.reduceSub,Nat.reduceMul,Nat.reduceLeDiff,Nat.reduceLT,Nat.reduceEqDiff,Int.reduceAdd,Int.reduceSub,Int.reduceMul,Int.reduceNeg,Int.reduceLT,Int.reduceLE,Int.reduceEq,Int.reduceToNat,Int.cast_ofNat_Int,↓reduceIte, *, hu.cellsV, hm, small_ret.call, decide_eq_false h, ldn_of c0, (nothing_ret hu1).call, awake_ret.call]
end Go.Proofs.Ytalaadcbpjnglaa
