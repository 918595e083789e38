/- What the law needs: what its functions do, and the laws on lists behind it. No condition. -/
import Derived.Test.YtflekaacffdakaaPt0
import Derived.Laws.StructEq
import Derived.KernelRfl
import Derived.WalkKit
import Derived.ProofKit
import Derived.OpenShut
import Derived.ShutString
import Derived.ChangeOld
import Derived.Below
import Derived.SizedLaws
import Derived.Carry
set_option linter.unusedSimpArgs false
set_option linter.unusedVariables false
namespace Go.Proofs.Ytflekaacffdakaa
open Go Go.AM Go.Proofs
/-- a table is put behind a growing list of tables -/
theorem _root_.Go.AM.Acc.pushT {H H1 H2 : Heap} {u v1 : AV} {xs : List Tab} {t : Tab} {Q : AV × Heap → Prop} (hu : Acc H.length (fun b => H.length ≤ b) H1 u xs) (hg : Gr H H1) (hg2 : Gr H1 H2) (m : Sl (fun b => H1.length ≤ b) H2 v1 t) (hl : xs.length ≤ 100000)
    (go : ∀ u' H3, Acc H.length (fun b => H.length ≤ b) H3 u' (xs ++ [t]) → Gr H H3 → H2.length < H3.length → Kp (fun b => u.blk ≠ some b) H2 H3 → Q (u', H3)) : @optP _ (appendV H.length 1 24 u (.s 1 H2.length 0 1 (some 1)) (H2 ++ [.cells [v1]])) ⟨Q⟩ := by
  have hl1 := hg.1
  have hl2 := hg2.1
  refine (hu.gr hg2).pushL (Nat.le_refl _) (by omega) m (fun b hb => ⟨by omega, fun e => by have := hu.blk_lt e; omega⟩) (by omega) fun u' H3 hu' hk3 hl3' _ => ?_
  exact go u' H3 hu' ((hg.trans hg2).push (hu.gr hg2) (Nat.le_refl _) hk3) hl3' hk3
theorem one_no {t : Tab} {i j k l : Nat} (h : ¬ (i ≠ j ∧ k ≠ l ∧ getE t i l ≠ 0 ∧ getE t j k ≠ 0)) : oneS t i j k l = [] := if_neg h
theorem place_of {t : Tab} {i j k l : Nat} (hi : i < t.length) (hj : j < t.length) (hk : k < (gi t 0).length) (hl : l < (gi t 0).length) (hij : i ≠ j) (hkl : k ≠ l) : PlaceOk t i j k l := by unfold PlaceOk; omega
theorem nl_small {t : Tab} (h : TabOk t) {i j k l : Nat} (hi : i ≤ t.length) (hj : j ≤ t.length) (hk : k ≤ (gi t 0).length) (hl : l ≤ (gi t 0).length) : (nlA t t.length (gi t 0).length i ++ nlB t i (gi t 0).length j ++ nlC t i j (gi t 0).length k ++ nlD t i j k l).length ≤ 100000 := by
  have h1 := h.2.1
  have h2 := h.cols.2
  have a1 := nlA_len (t := t) (r := t.length) (m := (gi t 0).length) (n := i)
  have a2 := nlB_len (t := t) (i := i) (m := (gi t 0).length) (n := j)
  have a3 := nlC_len (t := t) (i := i) (j := j) (m := (gi t 0).length) (n := k)
  have a4 := nlD_len (t := t) (i := i) (j := j) (k := k) (n := l)
  generalize (gi t 0).length = m at *
  have e1 : m * m ≤ 3 * 3 := Nat.mul_le_mul h2 h2
  have e2 : t.length * (m * m) ≤ 3 * 9 := Nat.mul_le_mul h1 e1
  have e3 : i * (t.length * (m * m)) ≤ 3 * 27 := Nat.mul_le_mul (by omega) e2
  have e4 : j * (m * m) ≤ 3 * 9 := Nat.mul_le_mul (by omega) e1
  have e5 : k * m ≤ 3 * 3 := Nat.mul_le_mul (by omega) h2
  simp only [List.length_append]
  omega
theorem near_ret {p : Nat → Prop} {H : Heap} {v : AV} {t : Tab} (ht : Sl p H v t) (h : TabOk t) : Ret E 93 [v] (fun _ => False) H (nearL t) := by
  refine Ret.ro rfl fn93 rfl ?_
  unfold f93A
  obtain ⟨n, en⟩ : ∃ n, t.length = n := ⟨_, rfl⟩
  obtain ⟨m, em⟩ : ∃ m, (gi t 0).length = m := ⟨_, rfl⟩
  have hn1 := h.1
  have hn3 := h.2.1
  have hm3 := h.cols
  replace ht : Sl (fun b => b < H.length) H v t := ht.low.weak fun _ h => h.2
  have hL := ht.lenV
  rw [en] at hL
  simp (disch := (first | assumption | omega | (simp only [List.length_append, List.length_cons, List.length_nil]; omega))) only [↓wD,wU,Nat.reduceBEq,zx150,zx151,zx159,zx160,zx161,zx162,Nat.reduceAdd,Nat.reduceSub,Nat.reduceMul,Nat.reduceLeDiff,Nat.reduceLT,Nat.reduceEqDiff,Int.reduceAdd,Int.reduceSub,Int.reduceMul,Int.reduceNeg,Int.reduceLT,Int.reduceLE,Int.reduceEq,Int.reduceToNat,Int.cast_ofNat_Int,↓reduceIte, hL]
  refine Wp.for n (fun i a H' => ∃ u, a 0 = v ∧ a 3 = u ∧ a 11 = .i n ∧ a 12 = .i i ∧ Gr H H' ∧ Acc H.length (fun b => H.length ≤ b) H' u (nlA t n m i)) ?_ ?_
  · rintro i a H1 hi ⟨u, a0, a3, a11, a12, hg, hu⟩ ih
    simp (disch := (first | assumption | omega | (simp only [List.length_append, List.length_cons, List.length_nil]; omega))) only [↓wD,wU,Nat.reduceBEq,zx150,zx151,zx159,zx160,zx161,zx162,Nat.reduceAdd,Nat.reduceSub,Nat.reduceMul,Nat.reduceLeDiff,Nat.reduceLT,Nat.reduceEqDiff,Int.reduceAdd,Int.reduceSub,Int.reduceMul,Int.reduceNeg,Int.reduceLT,Int.reduceLE,Int.reduceEq,Int.reduceToNat,Int.cast_ofNat_Int,↓reduceIte, a0, a3, a11, a12]
    refine condP_split (fun hlt => ?_) (fun hlt => ?_)
    · have hi' : i < n := by omega
      simp (disch := (first | assumption | omega | (simp only [List.length_append, List.length_cons, List.length_nil]; omega))) only [↓wD,wU,Nat.reduceBEq,zx150,zx151,zx159,zx160,zx161,zx162,Nat.reduceAdd,Nat.reduceSub,Nat.reduceMul,Nat.reduceLeDiff,Nat.reduceLT,Nat.reduceEqDiff,Int.reduceAdd,Int.reduceSub,Int.reduceMul,Int.reduceNeg,Int.reduceLT,Int.reduceLE,Int.reduceEq,Int.reduceToNat,Int.cast_ofNat_Int,↓reduceIte, a0, a3, a11, a12, hL]
      refine Wp.for n (fun j a H' => ∃ u, a 0 = v ∧ a 3 = u ∧ a 11 = .i n ∧ a 12 = .i i ∧ a 4 = .i i ∧ a 16 = .i n ∧ a 17 = .i j ∧ Gr H H' ∧ Acc H.length (fun b => H.length ≤ b) H' u (nlA t n m i ++ nlB t i m j)) ?_ ?_
      · clear a0 a3 a11 a12 hg hu
        rintro j a H2 hj ⟨u, a0, a3, a11, a12, a4, a16, a17, hg, hu⟩ ih2
        simp (disch := (first | assumption | omega | (simp only [List.length_append, List.length_cons, List.length_nil]; omega))) only [↓wD,wU,Nat.reduceBEq,zx150,zx151,zx159,zx160,zx161,zx162,Nat.reduceAdd,Nat.reduceSub,Nat.reduceMul,Nat.reduceLeDiff,Nat.reduceLT,Nat.reduceEqDiff,Int.reduceAdd,Int.reduceSub,Int.reduceMul,Int.reduceNeg,Int.reduceLT,Int.reduceLE,Int.reduceEq,Int.reduceToNat,Int.cast_ofNat_Int,↓reduceIte, a0, a3, a11, a12, a4, a16, a17]
        refine condP_split (fun hlt => ?_) (fun hlt => ?_)
        · have hj' : j < n := by omega
          have ht2 := ht.gr hg
          have g0 := ht2.get (k := (0 : Int)) (by omega) (by omega)
          have g0L := g0.lenV
          rw [em] at g0L
          have t2L := ht2.L
          simp (disch := (first | assumption | omega | (simp only [List.length_append, List.length_cons, List.length_nil]; omega))) only [↓wD,wU,Nat.reduceBEq,zx150,zx151,zx159,zx160,zx161,zx162,Nat.reduceAdd,Nat.reduceSub,Nat.reduceMul,Nat.reduceLeDiff,Nat.reduceLT,Nat.reduceEqDiff,Int.reduceAdd,Int.reduceSub,Int.reduceMul,Int.reduceNeg,Int.reduceLT,Int.reduceLE,Int.reduceEq,Int.reduceToNat,Int.cast_ofNat_Int,↓reduceIte, a0, a3, a11, a12, a4, a16, a17, t2L, g0L]
          refine Wp.for m (fun k a H' => ∃ u, a 0 = v ∧ a 3 = u ∧ a 11 = .i n ∧ a 12 = .i i ∧ a 4 = .i i ∧ a 16 = .i n ∧ a 17 = .i j ∧ a 5 = .i j ∧ a 23 = .i m ∧ a 24 = .i k ∧ Gr H H' ∧ Acc H.length (fun b => H.length ≤ b) H' u (nlA t n m i ++ nlB t i m j ++ nlC t i j m k)) ?_ ?_
          · clear a0 a3 a11 a12 a4 a16 a17 hg hu ht2 g0 g0L t2L
            rintro k a H3 hk ⟨u, a0, a3, a11, a12, a4, a16, a17, a5, a23, a24, hg, hu⟩ ih3
            simp (disch := (first | assumption | omega | (simp only [List.length_append, List.length_cons, List.length_nil]; omega))) only [↓wD,wU,Nat.reduceBEq,zx150,zx151,zx159,zx160,zx161,zx162,Nat.reduceAdd,Nat.reduceSub,Nat.reduceMul,Nat.reduceLeDiff,Nat.reduceLT,Nat.reduceEqDiff,Int.reduceAdd,Int.reduceSub,Int.reduceMul,Int.reduceNeg,Int.reduceLT,Int.reduceLE,Int.reduceEq,Int.reduceToNat,Int.cast_ofNat_Int,↓reduceIte, a0, a3, a11, a12, a4, a16, a17, a5, a23, a24]
            refine condP_split (fun hlt => ?_) (fun hlt => ?_)
            · have hk' : k < m := by omega
              have ht2 := ht.gr hg
              have g0 := ht2.get (k := (0 : Int)) (by omega) (by omega)
              have g0L := g0.lenV
              rw [em] at g0L
              have t2L := ht2.L
              simp (disch := (first | assumption | omega | (simp only [List.length_append, List.length_cons, List.length_nil]; omega))) only [↓wD,wU,Nat.reduceBEq,zx150,zx151,zx159,zx160,zx161,zx162,Nat.reduceAdd,Nat.reduceSub,Nat.reduceMul,Nat.reduceLeDiff,Nat.reduceLT,Nat.reduceEqDiff,Int.reduceAdd,Int.reduceSub,Int.reduceMul,Int.reduceNeg,Int.reduceLT,Int.reduceLE,Int.reduceEq,Int.reduceToNat,Int.cast_ofNat_Int,↓reduceIte, a0, a3, a11, a12, a4, a16, a17, a5, a23, a24, t2L, g0L]
              refine Wp.for m (fun l a H' => ∃ u, a 0 = v ∧ a 3 = u ∧ a 11 = .i n ∧ a 12 = .i i ∧ a 4 = .i i ∧ a 16 = .i n ∧ a 17 = .i j ∧ a 5 = .i j ∧ a 23 = .i m ∧ a 24 = .i k ∧ a 6 = .i k ∧ a 30 = .i m ∧ a 31 = .i l ∧ Gr H H' ∧ Acc H.length (fun b => H.length ≤ b) H' u (nlA t n m i ++ nlB t i m j ++ nlC t i j m k ++ nlD t i j k l)) ?_ ?_
              · clear a0 a3 a11 a12 a4 a16 a17 a5 a23 a24 hg hu ht2 g0 g0L t2L
                rintro l a H4 hl ⟨u, a0, a3, a11, a12, a4, a16, a17, a5, a23, a24, a6, a30, a31, hg, hu⟩ ih4
                simp (disch := (first | assumption | omega | (simp only [List.length_append, List.length_cons, List.length_nil]; omega))) only [↓wD,wU,Nat.reduceBEq,zx150,zx151,zx159,zx160,zx161,zx162,Nat.reduceAdd,Nat.reduceSub,Nat.reduceMul,Nat.reduceLeDiff,Nat.reduceLT,Nat.reduceEqDiff,Int.reduceAdd,Int.reduceSub,Int.reduceMul,Int.reduceNeg,Int.reduceLT,Int.reduceLE,Int.reduceEq,Int.reduceToNat,Int.cast_ofNat_Int,↓reduceIte, a0, a3, a11, a12, a4, a16, a17, a5, a23, a24, a6, a30, a31]
                refine condP_split (fun hlt => ?_) (fun hlt => ?_)
                · have hl' : l < m := by omega
                  have ht2 := ht.gr hg
                  have small := nl_small h (i := i) (j := j) (k := k) (l := l) (by omega) (by omega) (by omega) (by omega)
                  rw [en, em] at small
                  generalize nlA t n m i ++ nlB t i m j ++ nlC t i j m k = xs at hu ih4 small
                  by_cases hij : i = j
                  · have o : oneS t i j k l = [] := one_no (by simp [hij])
                    rw [nlD_s, o, List.append_nil] at ih4
                    have d1 : decide ((i : Int) = j) = true := decide_eq_true (by omega)
                    simp (disch := (first | assumption | omega | (simp only [List.length_append, List.length_cons, List.length_nil]; omega))) only [↓wD,wU,Nat.reduceBEq,zx150,zx151,zx159,zx160,zx161,zx162,Nat.reduceAdd,Nat.reduceSub,Nat.reduceMul,Nat.reduceLeDiff,Nat.reduceLT,Nat.reduceEqDiff,Int.reduceAdd,Int.reduceSub,Int.reduceMul,Int.reduceNeg,Int.reduceLT,Int.reduceLE,Int.reduceEq,Int.reduceToNat,Int.cast_ofNat_Int,↓reduceIte, a0, a3, a11, a12, a4, a16, a17, a5, a23, a24, a6, a30, a31, d1]
                    refine (ih4 hl').go ⟨u, ?_⟩
                    simp (disch := (first | assumption | omega | (simp only [List.length_append, List.length_cons, List.length_nil]; omega))) only [↓wD,wU,Nat.reduceBEq,zx150,zx151,zx159,zx160,zx161,zx162,Nat.reduceAdd,Nat.reduceSub,Nat.reduceMul,Nat.reduceLeDiff,Nat.reduceLT,Nat.reduceEqDiff,Int.reduceAdd,Int.reduceSub,Int.reduceMul,Int.reduceNeg,Int.reduceLT,Int.reduceLE,Int.reduceEq,Int.reduceToNat,Int.cast_ofNat_Int,↓reduceIte, a0, a3, a11, a12, a4, a16, a17, a5, a23, a24, a6, a30, a31]
                    exact ⟨hg, hu⟩
                  have d1 : decide ((i : Int) = j) = false := decide_eq_false (by omega)
                  by_cases hkl : k = l
                  · have o : oneS t i j k l = [] := one_no (by simp [hkl])
                    rw [nlD_s, o, List.append_nil] at ih4
                    have d2 : decide ((k : Int) = l) = true := decide_eq_true (by omega)
                    simp (disch := (first | assumption | omega | (simp only [List.length_append, List.length_cons, List.length_nil]; omega))) only [↓wD,wU,Nat.reduceBEq,zx150,zx151,zx159,zx160,zx161,zx162,Nat.reduceAdd,Nat.reduceSub,Nat.reduceMul,Nat.reduceLeDiff,Nat.reduceLT,Nat.reduceEqDiff,Int.reduceAdd,Int.reduceSub,Int.reduceMul,Int.reduceNeg,Int.reduceLT,Int.reduceLE,Int.reduceEq,Int.reduceToNat,Int.cast_ofNat_Int,↓reduceIte, a0, a3, a11, a12, a4, a16, a17, a5, a23, a24, a6, a30, a31, d1, d2]
                    refine (ih4 hl').go ⟨u, ?_⟩
                    simp (disch := (first | assumption | omega | (simp only [List.length_append, List.length_cons, List.length_nil]; omega))) only [↓wD,wU,Nat.reduceBEq,zx150,zx151,zx159,zx160,zx161,zx162,Nat.reduceAdd,Nat.reduceSub,Nat.reduceMul,Nat.reduceLeDiff,Nat.reduceLT,Nat.reduceEqDiff,Int.reduceAdd,Int.reduceSub,Int.reduceMul,Int.reduceNeg,Int.reduceLT,Int.reduceLE,Int.reduceEq,Int.reduceToNat,Int.cast_ofNat_Int,↓reduceIte, a0, a3, a11, a12, a4, a16, a17, a5, a23, a24, a6, a30, a31]
                    exact ⟨hg, hu⟩
                  have d2 : decide ((k : Int) = l) = false := decide_eq_false (by omega)
                  have hp := place_of (t := t) (i := i) (j := j) (k := k) (l := l) (by omega) (by omega) (by omega) (by omega) hij hkl
                  by_cases hz : getE t i l = 0 ∨ getE t j k = 0
                  · have o : oneS t i j k l = [] := one_no fun q => hz.elim q.2.2.1 q.2.2.2
                    rw [nlD_s, o, List.append_nil] at ih4
                    have sw := swapped_no ht2 h hp hz
                    simp (disch := (first | assumption | omega | (simp only [List.length_append, List.length_cons, List.length_nil]; omega))) only [↓wD,wU,Nat.reduceBEq,zx150,zx151,zx159,zx160,zx161,zx162,Nat.reduceAdd,Nat.reduceSub,Nat.reduceMul,Nat.reduceLeDiff,Nat.reduceLT,Nat.reduceEqDiff,Int.reduceAdd,Int.reduceSub,Int.reduceMul,Int.reduceNeg,Int.reduceLT,Int.reduceLE,Int.reduceEq,Int.reduceToNat,Int.cast_ofNat_Int,↓reduceIte, a0, a3, a11, a12, a4, a16, a17, a5, a23, a24, a6, a30, a31, d1, d2, sw.call]
                    refine (ih4 hl').go ⟨u, ?_⟩
                    simp (disch := (first | assumption | omega | (simp only [List.length_append, List.length_cons, List.length_nil]; omega))) only [↓wD,wU,Nat.reduceBEq,zx150,zx151,zx159,zx160,zx161,zx162,Nat.reduceAdd,Nat.reduceSub,Nat.reduceMul,Nat.reduceLeDiff,Nat.reduceLT,Nat.reduceEqDiff,Int.reduceAdd,Int.reduceSub,Int.reduceMul,Int.reduceNeg,Int.reduceLT,Int.reduceLE,Int.reduceEq,Int.reduceToNat,Int.cast_ofNat_Int,↓reduceIte, a0, a3, a11, a12, a4, a16, a17, a5, a23, a24, a6, a30, a31]
                    exact ⟨hg, hu⟩
                  · have o : oneS t i j k l = [swapS t i j k l] := if_pos ⟨hij, hkl, fun q => hz (.inl q), fun q => hz (.inr q)⟩
                    rw [nlD_s, o, ← List.append_assoc] at ih4
                    simp (disch := (first | assumption | omega | (simp only [List.length_append, List.length_cons, List.length_nil]; omega))) only [↓wD,wU,Nat.reduceBEq,zx150,zx151,zx159,zx160,zx161,zx162,Nat.reduceAdd,Nat.reduceSub,Nat.reduceMul,Nat.reduceLeDiff,Nat.reduceLT,Nat.reduceEqDiff,Int.reduceAdd,Int.reduceSub,Int.reduceMul,Int.reduceNeg,Int.reduceLT,Int.reduceLE,Int.reduceEq,Int.reduceToNat,Int.cast_ofNat_Int,↓reduceIte, a0, a3, a11, a12, a4, a16, a17, a5, a23, a24, a6, a30, a31, d1, d2]
                    refine (swapped_ret ht2 h hp hz).to fun w H5 hg5 hw => ?_
                    obtain ⟨v1, v2, rfl, q1, rfl⟩ := rv2 hw
                    have mt : MT H4.length H5 v1 (swapS t i j k l) := MT.of q1 fun b hb => hb.elim (fun h => h.elim) id
                    have msl := mt.sl
                    have mc := msl.cellsV
                    simp (disch := (first | assumption | omega | (simp only [List.length_append, List.length_cons, List.length_nil]; omega))) only [↓wD,wU,Nat.reduceBEq,zx150,zx151,zx159,zx160,zx161,zx162,Nat.reduceAdd,Nat.reduceSub,Nat.reduceMul,Nat.reduceLeDiff,Nat.reduceLT,Nat.reduceEqDiff,Int.reduceAdd,Int.reduceSub,Int.reduceMul,Int.reduceNeg,Int.reduceLT,Int.reduceLE,Int.reduceEq,Int.reduceToNat,Int.cast_ofNat_Int,↓reduceIte, a0, a3, a11, a12, a4, a16, a17, a5, a23, a24, a6, a30, a31, mc]
                    refine hu.pushT hg hg5 msl small fun u' H6 hu' hg6 _ _ => ?_
                    simp (disch := (first | assumption | omega | (simp only [List.length_append, List.length_cons, List.length_nil]; omega))) only [↓wD,wU,Nat.reduceBEq,zx150,zx151,zx159,zx160,zx161,zx162,Nat.reduceAdd,Nat.reduceSub,Nat.reduceMul,Nat.reduceLeDiff,Nat.reduceLT,Nat.reduceEqDiff,Int.reduceAdd,Int.reduceSub,Int.reduceMul,Int.reduceNeg,Int.reduceLT,Int.reduceLE,Int.reduceEq,Int.reduceToNat,Int.cast_ofNat_Int,↓reduceIte, a0, a3, a11, a12, a4, a16, a17, a5, a23, a24, a6, a30, a31]
                    refine (ih4 hl').go ⟨u', ?_⟩
                    simp (disch := (first | assumption | omega | (simp only [List.length_append, List.length_cons, List.length_nil]; omega))) only [↓wD,wU,Nat.reduceBEq,zx150,zx151,zx159,zx160,zx161,zx162,Nat.reduceAdd,Nat.reduceSub,Nat.reduceMul,Nat.reduceLeDiff,Nat.reduceLT,Nat.reduceEqDiff,Int.reduceAdd,Int.reduceSub,Int.reduceMul,Int.reduceNeg,Int.reduceLT,Int.reduceLE,Int.reduceEq,Int.reduceToNat,Int.cast_ofNat_Int,↓reduceIte, a0, a3, a11, a12, a4, a16, a17, a5, a23, a24, a6, a30, a31]
                    exact ⟨hg6, hu'⟩
                · obtain rfl : l = m := by omega
                  rw [List.append_assoc, ← nlC_s] at hu
                  simp (disch := (first | assumption | omega | (simp only [List.length_append, List.length_cons, List.length_nil]; omega))) only [↓wD,wU,Nat.reduceBEq,zx150,zx151,zx159,zx160,zx161,zx162,Nat.reduceAdd,Nat.reduceSub,Nat.reduceMul,Nat.reduceLeDiff,Nat.reduceLT,Nat.reduceEqDiff,Int.reduceAdd,Int.reduceSub,Int.reduceMul,Int.reduceNeg,Int.reduceLT,Int.reduceLE,Int.reduceEq,Int.reduceToNat,Int.cast_ofNat_Int,↓reduceIte, a0, a3, a11, a12, a4, a16, a17, a5, a23, a24, a6, a30, a31]
                  refine (ih3 hk').go ⟨u, ?_⟩
                  simp (disch := (first | assumption | omega | (simp only [List.length_append, List.length_cons, List.length_nil]; omega))) only [↓wD,wU,Nat.reduceBEq,zx150,zx151,zx159,zx160,zx161,zx162,Nat.reduceAdd,Nat.reduceSub,Nat.reduceMul,Nat.reduceLeDiff,Nat.reduceLT,Nat.reduceEqDiff,Int.reduceAdd,Int.reduceSub,Int.reduceMul,Int.reduceNeg,Int.reduceLT,Int.reduceLE,Int.reduceEq,Int.reduceToNat,Int.cast_ofNat_Int,↓reduceIte, a0, a3, a11, a12, a4, a16, a17, a5, a23, a24]
                  exact ⟨hg, hu⟩
              · refine ⟨u, ?_⟩
                simp (disch := (first | assumption | omega | (simp only [List.length_append, List.length_cons, List.length_nil]; omega))) only [↓wD,wU,Nat.reduceBEq,zx150,zx151,zx159,zx160,zx161,zx162,Nat.reduceAdd,Nat.reduceSub,Nat.reduceMul,Nat.reduceLeDiff,Nat.reduceLT,Nat.reduceEqDiff,Int.reduceAdd,Int.reduceSub,Int.reduceMul,Int.reduceNeg,Int.reduceLT,Int.reduceLE,Int.reduceEq,Int.reduceToNat,Int.cast_ofNat_Int,↓reduceIte, a0, a3, a11, a12, a4, a16, a17, a5, a23, a24]
                exact ⟨hg, by simpa [nlD] using hu⟩
            · obtain rfl : k = m := by omega
              rw [List.append_assoc, ← nlB_s] at hu
              simp (disch := (first | assumption | omega | (simp only [List.length_append, List.length_cons, List.length_nil]; omega))) only [↓wD,wU,Nat.reduceBEq,zx150,zx151,zx159,zx160,zx161,zx162,Nat.reduceAdd,Nat.reduceSub,Nat.reduceMul,Nat.reduceLeDiff,Nat.reduceLT,Nat.reduceEqDiff,Int.reduceAdd,Int.reduceSub,Int.reduceMul,Int.reduceNeg,Int.reduceLT,Int.reduceLE,Int.reduceEq,Int.reduceToNat,Int.cast_ofNat_Int,↓reduceIte, a0, a3, a11, a12, a4, a16, a17, a5, a23, a24]
              refine (ih2 hj').go ⟨u, ?_⟩
              simp (disch := (first | assumption | omega | (simp only [List.length_append, List.length_cons, List.length_nil]; omega))) only [↓wD,wU,Nat.reduceBEq,zx150,zx151,zx159,zx160,zx161,zx162,Nat.reduceAdd,Nat.reduceSub,Nat.reduceMul,Nat.reduceLeDiff,Nat.reduceLT,Nat.reduceEqDiff,Int.reduceAdd,Int.reduceSub,Int.reduceMul,Int.reduceNeg,Int.reduceLT,Int.reduceLE,Int.reduceEq,Int.reduceToNat,Int.cast_ofNat_Int,↓reduceIte, a0, a3, a11, a12, a4, a16, a17]
              exact ⟨hg, hu⟩
          · refine ⟨u, ?_⟩
            simp (disch := (first | assumption | omega | (simp only [List.length_append, List.length_cons, List.length_nil]; omega))) only [↓wD,wU,Nat.reduceBEq,zx150,zx151,zx159,zx160,zx161,zx162,Nat.reduceAdd,Nat.reduceSub,Nat.reduceMul,Nat.reduceLeDiff,Nat.reduceLT,Nat.reduceEqDiff,Int.reduceAdd,Int.reduceSub,Int.reduceMul,Int.reduceNeg,Int.reduceLT,Int.reduceLE,Int.reduceEq,Int.reduceToNat,Int.cast_ofNat_Int,↓reduceIte, a0, a3, a11, a12, a4, a16, a17]
            exact ⟨hg, by simpa [nlC] using hu⟩
        · obtain rfl : j = n := by omega
          rw [← nlA_s] at hu
          simp (disch := (first | assumption | omega | (simp only [List.length_append, List.length_cons, List.length_nil]; omega))) only [↓wD,wU,Nat.reduceBEq,zx150,zx151,zx159,zx160,zx161,zx162,Nat.reduceAdd,Nat.reduceSub,Nat.reduceMul,Nat.reduceLeDiff,Nat.reduceLT,Nat.reduceEqDiff,Int.reduceAdd,Int.reduceSub,Int.reduceMul,Int.reduceNeg,Int.reduceLT,Int.reduceLE,Int.reduceEq,Int.reduceToNat,Int.cast_ofNat_Int,↓reduceIte, a0, a3, a11, a12, a4, a16, a17]
          refine (ih hi').go ⟨u, ?_⟩
          simp (disch := (first | assumption | omega | (simp only [List.length_append, List.length_cons, List.length_nil]; omega))) only [↓wD,wU,Nat.reduceBEq,zx150,zx151,zx159,zx160,zx161,zx162,Nat.reduceAdd,Nat.reduceSub,Nat.reduceMul,Nat.reduceLeDiff,Nat.reduceLT,Nat.reduceEqDiff,Int.reduceAdd,Int.reduceSub,Int.reduceMul,Int.reduceNeg,Int.reduceLT,Int.reduceLE,Int.reduceEq,Int.reduceToNat,Int.cast_ofNat_Int,↓reduceIte, a0, a3, a11, a12]
          exact ⟨hg, hu⟩
      · refine ⟨u, ?_⟩
        simp (disch := (first | assumption | omega | (simp only [List.length_append, List.length_cons, List.length_nil]; omega))) only [↓wD,wU,Nat.reduceBEq,zx150,zx151,zx159,zx160,zx161,zx162,Nat.reduceAdd,Nat.reduceSub,Nat.reduceMul,Nat.reduceLeDiff,Nat.reduceLT,Nat.reduceEqDiff,Int.reduceAdd,Int.reduceSub,Int.reduceMul,Int.reduceNeg,Int.reduceLT,Int.reduceLE,Int.reduceEq,Int.reduceToNat,Int.cast_ofNat_Int,↓reduceIte, a0, a3, a11, a12]
        exact ⟨hg, by simpa [nlB] using hu⟩
    · obtain rfl : i = n := by omega
      have e : nlA t i m i = nearL t := by unfold nearL; rw [em, en]
      rw [e] at hu
      simp (disch := (first | assumption | omega | (simp only [List.length_append, List.length_cons, List.length_nil]; omega))) only [↓wD,wU,Nat.reduceBEq,zx150,zx151,zx159,zx160,zx161,zx162,Nat.reduceAdd,Nat.reduceSub,Nat.reduceMul,Nat.reduceLeDiff,Nat.reduceLT,Nat.reduceEqDiff,Int.reduceAdd,Int.reduceSub,Int.reduceMul,Int.reduceNeg,Int.reduceLT,Int.reduceLE,Int.reduceEq,Int.reduceToNat,Int.cast_ofNat_Int,↓reduceIte, a0, a3, a11, a12]
      exact hu.sl.weak fun b h => .inr (h.elim id id)
  · refine ⟨.nils, ?_⟩
    simp (disch := (first | assumption | omega | (simp only [List.length_append, List.length_cons, List.length_nil]; omega))) only [↓wD,wU,Nat.reduceBEq,zx150,zx151,zx159,zx160,zx161,zx162,Nat.reduceAdd,Nat.reduceSub,Nat.reduceMul,Nat.reduceLeDiff,Nat.reduceLT,Nat.reduceEqDiff,Int.reduceAdd,Int.reduceSub,Int.reduceMul,Int.reduceNeg,Int.reduceLT,Int.reduceLE,Int.reduceEq,Int.reduceToNat,Int.cast_ofNat_Int,↓reduceIte]
    exact ⟨Gr.refl _, Acc.nil⟩
end Go.Proofs.Ytflekaacffdakaa
namespace Go.Proofs.Ytflekaacffdakaa
open Go Go.AM Go.Proofs
def findP {α : Type} (P : α → Bool) : List α → Nat → Int
  | [], _ => -1
  | y :: ys, i => if P y = true then i else findP P ys (i + 1)
theorem findP_ge {α : Type} {P : α → Bool} : ∀ {xs : List α} {i : Nat}, 0 ≤ findP P xs i ↔ xs.any P = true
  | [], i => by simp [findP]
  | y :: ys, i => by
    unfold findP
    by_cases h : P y = true
    · simp [h]
    · rw [if_neg h, findP_ge]; simp [h]
theorem indexT_ret {p : Nat → Prop} {H : Heap} {v : AV} {xs : List Tab} {f : Nat} {caps : List AV} {P : Tab → Bool} (hx : Sl p H v xs) (hP : ∀ (y : AV) (x : Tab), Sl p H y x → RetP E f ([y] ++ caps) H (.b (P x))) :
    RetP E 103 [v, .fn f [] caps] H (.i (findP P xs 0)) := by
  refine RetP.ro rfl fn103 rfl rfl ?_
  unfold f103A
  have hb := hx.bound
  obtain ⟨r, er⟩ : ∃ r, findP P xs 0 = r := ⟨_, rfl⟩
  rw [er]
  simp (disch := (first | assumption | omega | (simp only [List.length_append, List.length_cons, List.length_nil]; omega))) only [↓wD,wU,Nat.reduceBEq,zx150,zx151,zx159,zx160,zx161,zx162,Nat.reduceAdd,Nat.reduceSub,Nat.reduceMul,Nat.reduceLeDiff,Nat.reduceLT,Nat.reduceEqDiff,Int.reduceAdd,Int.reduceSub,Int.reduceMul,Int.reduceNeg,Int.reduceLT,Int.reduceLE,Int.reduceEq,Int.reduceToNat,Int.cast_ofNat_Int,↓reduceIte, hx.L]
  refine Wp.for xs.length (fun i a H' => H' = H ∧ a 0 = v ∧ a 1 = .fn f [] caps ∧ a 7 = .i xs.length ∧ a 8 = .i i ∧ findP P (xs.drop i) i = r) ?_ ?_
  · clear er
    rintro i a H' hi ⟨rfl, h0, h1, h7, h8, hh⟩ ih
    simp (disch := (first | assumption | omega | (simp only [List.length_append, List.length_cons, List.length_nil]; omega))) only [↓wD,wU,Nat.reduceBEq,zx150,zx151,zx159,zx160,zx161,zx162,Nat.reduceAdd,Nat.reduceSub,Nat.reduceMul,Nat.reduceLeDiff,Nat.reduceLT,Nat.reduceEqDiff,Int.reduceAdd,Int.reduceSub,Int.reduceMul,Int.reduceNeg,Int.reduceLT,Int.reduceLE,Int.reduceEq,Int.reduceToNat,Int.cast_ofNat_Int,↓reduceIte, h0, h1, h7, h8]
    refine condP_split (fun hlt => ?_) (fun hlt => ?_)
    · have hi' : i < xs.length := by omega
      have e : xs.drop i = gi xs (i : Int) :: xs.drop (i + 1) := by rw [gi_nat hi']; exact List.drop_eq_getElem_cons hi'
      have g := hx.get (k := (i : Int)) (by omega) (by omega)
      have hp := hP _ _ g
      rw [e, findP] at hh
      clear e
      cases hc : P (gi xs (i : Int)) with
      | true =>
        rw [hc] at hp hh
        simp only [if_true] at hh
        simp (disch := (first | assumption | omega | (simp only [List.length_append, List.length_cons, List.length_nil]; omega))) only [↓wD,wU,Nat.reduceBEq,zx150,zx151,zx159,zx160,zx161,zx162,Nat.reduceAdd,Nat.reduceSub,Nat.reduceMul,Nat.reduceLeDiff,Nat.reduceLT,Nat.reduceEqDiff,Int.reduceAdd,Int.reduceSub,Int.reduceMul,Int.reduceNeg,Int.reduceLT,Int.reduceLE,Int.reduceEq,Int.reduceToNat,Int.cast_ofNat_Int,↓reduceIte, h0, h1, h7, h8, hx.L, hp.callv1]
        rw [hh]
      | false =>
        rw [hc] at hp hh
        simp only [Bool.false_eq_true, if_false] at hh
        simp (disch := (first | assumption | omega | (simp only [List.length_append, List.length_cons, List.length_nil]; omega))) only [↓wD,wU,Nat.reduceBEq,zx150,zx151,zx159,zx160,zx161,zx162,Nat.reduceAdd,Nat.reduceSub,Nat.reduceMul,Nat.reduceLeDiff,Nat.reduceLT,Nat.reduceEqDiff,Int.reduceAdd,Int.reduceSub,Int.reduceMul,Int.reduceNeg,Int.reduceLT,Int.reduceLE,Int.reduceEq,Int.reduceToNat,Int.cast_ofNat_Int,↓reduceIte, h0, h1, h7, h8, hx.L, hp.callv1]
        refine (ih hi').go ⟨rfl, ?_⟩
        simp (disch := (first | assumption | omega | (simp only [List.length_append, List.length_cons, List.length_nil]; omega))) only [↓wD,wU,Nat.reduceBEq,zx150,zx151,zx159,zx160,zx161,zx162,Nat.reduceAdd,Nat.reduceSub,Nat.reduceMul,Nat.reduceLeDiff,Nat.reduceLT,Nat.reduceEqDiff,Int.reduceAdd,Int.reduceSub,Int.reduceMul,Int.reduceNeg,Int.reduceLT,Int.reduceLE,Int.reduceEq,Int.reduceToNat,Int.cast_ofNat_Int,↓reduceIte, h0, h1, h7, h8]
        exact hh
    · have e : xs.drop i = [] := List.drop_of_length_le (by omega)
      rw [e] at hh
      simp (disch := (first | assumption | omega | (simp only [List.length_append, List.length_cons, List.length_nil]; omega))) only [↓wD,wU,Nat.reduceBEq,zx150,zx151,zx159,zx160,zx161,zx162,Nat.reduceAdd,Nat.reduceSub,Nat.reduceMul,Nat.reduceLeDiff,Nat.reduceLT,Nat.reduceEqDiff,Int.reduceAdd,Int.reduceSub,Int.reduceMul,Int.reduceNeg,Int.reduceLT,Int.reduceLE,Int.reduceEq,Int.reduceToNat,Int.cast_ofNat_Int,↓reduceIte, h0, h1, h7, h8]
      rw [← hh]; rfl
  · simp (disch := (first | assumption | omega | (simp only [List.length_append, List.length_cons, List.length_nil]; omega))) only [↓wD,wU,Nat.reduceBEq,zx150,zx151,zx159,zx160,zx161,zx162,Nat.reduceAdd,Nat.reduceSub,Nat.reduceMul,Nat.reduceLeDiff,Nat.reduceLT,Nat.reduceEqDiff,Int.reduceAdd,Int.reduceSub,Int.reduceMul,Int.reduceNeg,Int.reduceLT,Int.reduceLE,Int.reduceEq,Int.reduceToNat,Int.cast_ofNat_Int,↓reduceIte]
    exact er
theorem containsT_ret {p : Nat → Prop} {H : Heap} {v : AV} {xs : List Tab} {f : Nat} {caps : List AV} {P : Tab → Bool} (hx : Sl p H v xs) (hP : ∀ (y : AV) (x : Tab), Sl p H y x → RetP E f ([y] ++ caps) H (.b (P x))) :
    RetP E 94 [v, .fn f [] caps] H (.b (xs.any P)) := by
  refine RetP.ro rfl fn94 rfl rfl ?_
  unfold f94A
  have e : decide (0 ≤ findP P xs 0) = xs.any P := by
    cases h : xs.any P with
    | true => exact decide_eq_true (findP_ge.2 h)
    | false => exact decide_eq_false fun q => by rw [findP_ge.1 q] at h; cases h
  simp (disch := (first | assumption | omega | (simp only [List.length_append, List.length_cons, List.length_nil]; omega))) only [↓wD,wU,Nat.reduceBEq,zx150,zx151,zx159,zx160,zx161,zx162,Nat.reduceAdd,Nat.reduceSub,Nat.reduceMul,Nat.reduceLeDiff,Nat.reduceLT,Nat.reduceEqDiff,Int.reduceAdd,Int.reduceSub,Int.reduceMul,Int.reduceNeg,Int.reduceLT,Int.reduceLE,Int.reduceEq,Int.reduceToNat,Int.cast_ofNat_Int,↓reduceIte, (indexT_ret hx hP).call, e]
theorem same1_ret {p q : Nat → Prop} {H : Heap} {y x : AV} {t s : Tab} {c : Nat} (hc : H[c]? = some (.cells [x])) (hx : Sl q H x s) (hy : Sl p H y t) : RetP E 95 [y, .p c 0] H (.b (decide (s = t))) := by
  refine RetP.ro rfl fn95 rfl rfl ?_
  unfold f95A
  have e : decide (cmpT s t = 0) = decide (s = t) := decide_eq_decide.2 cmpT_eq
  simp (disch := (first | assumption | omega | (simp only [List.length_append, List.length_cons, List.length_nil]; omega))) only [↓wD,wU,Nat.reduceBEq,zx150,zx151,zx159,zx160,zx161,zx162,Nat.reduceAdd,Nat.reduceSub,Nat.reduceMul,Nat.reduceLeDiff,Nat.reduceLT,Nat.reduceEqDiff,Int.reduceAdd,Int.reduceSub,Int.reduceMul,Int.reduceNeg,Int.reduceLT,Int.reduceLE,Int.reduceEq,Int.reduceToNat,Int.cast_ofNat_Int,↓reduceIte, ld_of hc, (cmp_tab hx hy).call, e]
theorem any_mem {s : Tab} {xs : List Tab} : (xs.any fun t => decide (s = t)) = decide (s ∈ xs) := by
  cases h : decide (s ∈ xs) with
  | true =>
    simp only [decide_eq_true_eq] at h
    exact List.any_eq_true.2 ⟨s, h, by simp⟩
  | false =>
    simp only [decide_eq_false_iff_not] at h
    rw [List.any_eq_false]
    intro t ht e
    simp at e
    subst e; exact h ht
theorem checkPath_ret {p q r : Nat → Prop} {H : Heap} {v u w : AV} {s t : Tab} {l : List Tab} (hs : Sl p H v s) (ht : Sl q H u t) (hl : Sl r H w l) (h1 : TabOk s) (h2 : TabOk t) (hlen : l.length ≤ 1000000) :
    RetP E 61 [v, u, w] H (.tp [.b (decide (PathP s t l)), .i 0]) := by
  refine RetP.ro rfl fn61 rfl rfl ?_
  unfold f61A
  have v1 := valid_ret hs
  have v2 := valid_ret ht
  rw [decide_eq_true h1] at v1
  rw [decide_eq_true h2] at v2
  by_cases h0 : l.length = 0
  · have d0 : decide ((l.length : Int) = 0) = true := decide_eq_true (by omega)
    have d1 : decide (PathP s t l) = false := decide_eq_false fun q => by have := q.1; omega
    simp (disch := (first | assumption | omega | (simp only [List.length_append, List.length_cons, List.length_nil]; omega))) only [↓wD,wU,Nat.reduceBEq,zx150,zx151,zx159,zx160,zx161,zx162,Nat.reduceAdd,Nat.reduceSub,Nat.reduceMul,Nat.reduceLeDiff,Nat.reduceLT,Nat.reduceEqDiff,Int.reduceAdd,Int.reduceSub,Int.reduceMul,Int.reduceNeg,Int.reduceLT,Int.reduceLE,Int.reduceEq,Int.reduceToNat,Int.cast_ofNat_Int,↓reduceIte, v1.call, v2.call, hl.L, d0, d1]
  have d0 : decide ((l.length : Int) = 0) = false := decide_eq_false (by omega)
  have g0 := hl.get (k := (0 : Int)) (by omega) (by omega)
  have ge := hl.get (k := (l.length : Int) - 1) (by omega) (by omega)
  have c0 := cmp_tab g0 hs
  have ce := cmp_tab ge ht
  have e0 : decide (¬ cmpT (gi l 0) s = 0) = decide (¬ gi l 0 = s) := decide_eq_decide.2 (not_congr cmpT_eq)
  have ee : decide (¬ cmpT (gi l ((l.length : Int) - 1)) t = 0) = decide (¬ gi l ((l.length : Int) - 1) = t) := decide_eq_decide.2 (not_congr cmpT_eq)
  by_cases b0 : ¬ gi l 0 = s
  · have d1 : decide (PathP s t l) = false := decide_eq_false fun q => b0 q.2.1
    rw [decide_eq_true b0] at e0
    simp (disch := (first | assumption | omega | (simp only [List.length_append, List.length_cons, List.length_nil]; omega))) only [↓wD,wU,Nat.reduceBEq,zx150,zx151,zx159,zx160,zx161,zx162,Nat.reduceAdd,Nat.reduceSub,Nat.reduceMul,Nat.reduceLeDiff,Nat.reduceLT,Nat.reduceEqDiff,Int.reduceAdd,Int.reduceSub,Int.reduceMul,Int.reduceNeg,Int.reduceLT,Int.reduceLE,Int.reduceEq,Int.reduceToNat,Int.cast_ofNat_Int,↓reduceIte, v1.call, v2.call, hl.L, d0, d1, c0.call, e0]
  rw [decide_eq_false b0] at e0
  replace b0 := Classical.not_not.1 b0
  by_cases be : ¬ gi l ((l.length : Int) - 1) = t
  · have d1 : decide (PathP s t l) = false := decide_eq_false fun q => be q.2.2.1
    rw [decide_eq_true be] at ee
    simp (disch := (first | assumption | omega | (simp only [List.length_append, List.length_cons, List.length_nil]; omega))) only [↓wD,wU,Nat.reduceBEq,zx150,zx151,zx159,zx160,zx161,zx162,Nat.reduceAdd,Nat.reduceSub,Nat.reduceMul,Nat.reduceLeDiff,Nat.reduceLT,Nat.reduceEqDiff,Int.reduceAdd,Int.reduceSub,Int.reduceMul,Int.reduceNeg,Int.reduceLT,Int.reduceLE,Int.reduceEq,Int.reduceToNat,Int.cast_ofNat_Int,↓reduceIte, v1.call, v2.call, hl.L, d0, d1, c0.call, e0, ce.call, ee]
  rw [decide_eq_false be] at ee
  replace be := Classical.not_not.1 be
  have sl : slV 1 w (some (.i 1)) none none = some (w.cut 1 l.length) := hl.slV_lh (some (.i 1)) none (bound_none (Nat.le_refl _)) (by rw [bound_some (by omega) (by omega)]; rfl) (by omega) (Nat.le_refl _)
  have hc := hl.cut (a := 1) (b := l.length) (by omega) (Nat.le_refl _)
  obtain ⟨ls, els⟩ : ∃ ls, (l.drop 1).take (l.length - 1) = ls := ⟨_, rfl⟩
  have lls : ls.length = l.length - 1 := by rw [← els]; simp
  have gls : ∀ i : Nat, i < ls.length → gi ls (i : Int) = gi l ((i + 1 : Nat) : Int) := fun i hi => by
    rw [gi_nat hi, gi_nat (by omega)]
    subst els
    simp [Nat.add_comm]
  rw [els] at hc
  have hcL := hc.lenV
  generalize w.cut 1 l.length = wc at sl hc hcL
  simp (disch := (first | assumption | omega | (simp only [List.length_append, List.length_cons, List.length_nil]; omega))) only [↓wD,wU,Nat.reduceBEq,zx150,zx151,zx159,zx160,zx161,zx162,Nat.reduceAdd,Nat.reduceSub,Nat.reduceMul,Nat.reduceLeDiff,Nat.reduceLT,Nat.reduceEqDiff,Int.reduceAdd,Int.reduceSub,Int.reduceMul,Int.reduceNeg,Int.reduceLT,Int.reduceLE,Int.reduceEq,Int.reduceToNat,Int.cast_ofNat_Int,↓reduceIte, v1.call, v2.call, hl.L, d0, c0.call, e0, ce.call, ee, sl, hcL]
  refine Wp.for ls.length (fun i a H' => ∃ x, a 8 = x ∧ a 43 = wc ∧ a 44 = .i ls.length ∧ a 45 = .i i ∧ Gr H H' ∧ Sl (fun _ => True) H' x (gi l (i : Int)) ∧ TabOk (gi l (i : Int)) ∧ ∀ q : Nat, q < i → gi l ((q + 1 : Nat) : Int) ∈ nearL (gi l (q : Int))) ?_ ?_
  · rintro i a H1 hi ⟨x, a8, a43, a44, a45, hg, hx, hok, hch⟩ ih
    simp (disch := (first | assumption | omega | (simp only [List.length_append, List.length_cons, List.length_nil]; omega))) only [↓wD,wU,Nat.reduceBEq,zx150,zx151,zx159,zx160,zx161,zx162,Nat.reduceAdd,Nat.reduceSub,Nat.reduceMul,Nat.reduceLeDiff,Nat.reduceLT,Nat.reduceEqDiff,Int.reduceAdd,Int.reduceSub,Int.reduceMul,Int.reduceNeg,Int.reduceLT,Int.reduceLE,Int.reduceEq,Int.reduceToNat,Int.cast_ofNat_Int,↓reduceIte, a8, a43, a44, a45]
    refine condP_split (fun hlt => ?_) (fun hlt => ?_)
    · have hi' : i < ls.length := by omega
      have hc1 : Sl (fun _ => True) H1 wc ls := (hc.low.kp (hg.weak fun b h => h.2)).weak fun _ _ => trivial
      have gx := hc1.get (k := (i : Int)) (by omega) (by omega)
      rw [gls i hi'] at gx
      have c1L := hc1.L
      have gxV := gx.cellsV
      obtain ⟨y, ey⟩ : ∃ y, wc.get H1 (i : Int) = y := ⟨_, rfl⟩
      rw [ey] at gx gxV
      have i1 : ldA H1 none (wc.at 1 (i : Int)) = some y := by rw [← ey]; exact (hc1.ld_get (k := (i : Int)) (by omega) (by omega)).1
      have sA : Go.AM.st H.length (H1 ++ [Blk.cells [.nils]]) H1.length 0 [y] = some (H1 ++ [Blk.cells [y]]) := by
        rw [st_of get_last hg.1 (by simp)]
        congr 1
        simp [wr]
      have i0 : iaddrV 1 wc (.i (i : Int)) = some (wc.at 1 (i : Int)) := hc1.iaddr (by omega) (by omega)
      have hx2 := hx.app [Blk.cells [y]]
      have gx2 := gx.app [Blk.cells [y]]
      have cell : (H1 ++ [Blk.cells [y]])[H1.length]? = some (.cells [y]) := get_last
      have hg2 : Gr H (H1 ++ [Blk.cells [y]]) := hg.app _
      simp (disch := (first | assumption | omega | (simp only [List.length_append, List.length_cons, List.length_nil]; omega))) only [↓wD,wU,Nat.reduceBEq,zx150,zx151,zx159,zx160,zx161,zx162,Nat.reduceAdd,Nat.reduceSub,Nat.reduceMul,Nat.reduceLeDiff,Nat.reduceLT,Nat.reduceEqDiff,Int.reduceAdd,Int.reduceSub,Int.reduceMul,Int.reduceNeg,Int.reduceLT,Int.reduceLE,Int.reduceEq,Int.reduceToNat,Int.cast_ofNat_Int,↓reduceIte, a8, a43, a44, a45, i0, i1, gxV, sA]
      generalize H1 ++ [Blk.cells [y]] = H2 at *
      refine (near_ret hx2 hok).to fun z H3 hg3 hz => ?_
      replace hz : Sl (fun _ => True) H3 z (nearL (gi l (i : Int))) := hz.weak fun _ _ => trivial
      have cell3 := hg3.2 _ _ (by have := (List.getElem?_eq_some_iff.1 cell).1; exact this) cell
      have gx3 := gx2.gr hg3
      have ct := containsT_ret (f := 95) (caps := [.p H1.length 0]) (P := fun t => decide (gi l ((i + 1 : Nat) : Int) = t)) hz fun yy xx hyy => same1_ret cell3 gx3 hyy
      rw [any_mem] at ct
      by_cases hm : gi l ((i + 1 : Nat) : Int) ∈ nearL (gi l (i : Int))
      · rw [decide_eq_true hm] at ct
        have ldc := ld_of (o := 0) cell3
        simp (disch := (first | assumption | omega | (simp only [List.length_append, List.length_cons, List.length_nil]; omega))) only [↓wD,wU,Nat.reduceBEq,zx150,zx151,zx159,zx160,zx161,zx162,Nat.reduceAdd,Nat.reduceSub,Nat.reduceMul,Nat.reduceLeDiff,Nat.reduceLT,Nat.reduceEqDiff,Int.reduceAdd,Int.reduceSub,Int.reduceMul,Int.reduceNeg,Int.reduceLT,Int.reduceLE,Int.reduceEq,Int.reduceToNat,Int.cast_ofNat_Int,↓reduceIte, a8, a43, a44, a45, ct.call, ldc]
        refine (ih hi').go ⟨y, ?_⟩
        simp (disch := (first | assumption | omega | (simp only [List.length_append, List.length_cons, List.length_nil]; omega))) only [↓wD,wU,Nat.reduceBEq,zx150,zx151,zx159,zx160,zx161,zx162,Nat.reduceAdd,Nat.reduceSub,Nat.reduceMul,Nat.reduceLeDiff,Nat.reduceLT,Nat.reduceEqDiff,Int.reduceAdd,Int.reduceSub,Int.reduceMul,Int.reduceNeg,Int.reduceLT,Int.reduceLE,Int.reduceEq,Int.reduceToNat,Int.cast_ofNat_Int,↓reduceIte, a43, a44, a45]
        refine ⟨hg2.trans hg3, gx3, (near_kin hok hm).ok, fun q hq => ?_⟩
        by_cases e : q = i
        · subst e; exact hm
        · exact hch q (by omega)
      · rw [decide_eq_false hm] at ct
        have d1 : decide (PathP s t l) = false := decide_eq_false fun q => hm (q.2.2.2 i (by omega))
        simp (disch := (first | assumption | omega | (simp only [List.length_append, List.length_cons, List.length_nil]; omega))) only [↓wD,wU,Nat.reduceBEq,zx150,zx151,zx159,zx160,zx161,zx162,Nat.reduceAdd,Nat.reduceSub,Nat.reduceMul,Nat.reduceLeDiff,Nat.reduceLT,Nat.reduceEqDiff,Int.reduceAdd,Int.reduceSub,Int.reduceMul,Int.reduceNeg,Int.reduceLT,Int.reduceLE,Int.reduceEq,Int.reduceToNat,Int.cast_ofNat_Int,↓reduceIte, a8, a43, a44, a45, ct.call, d1]
    · obtain rfl : i = ls.length := by omega
      have d1 : decide (PathP s t l) = true := decide_eq_true ⟨by omega, b0, be, fun q hq => hch q (by omega)⟩
      simp (disch := (first | assumption | omega | (simp only [List.length_append, List.length_cons, List.length_nil]; omega))) only [↓wD,wU,Nat.reduceBEq,zx150,zx151,zx159,zx160,zx161,zx162,Nat.reduceAdd,Nat.reduceSub,Nat.reduceMul,Nat.reduceLeDiff,Nat.reduceLT,Nat.reduceEqDiff,Int.reduceAdd,Int.reduceSub,Int.reduceMul,Int.reduceNeg,Int.reduceLT,Int.reduceLE,Int.reduceEq,Int.reduceToNat,Int.cast_ofNat_Int,↓reduceIte, a8, a43, a44, a45, d1]
  · refine ⟨v, ?_⟩
    simp (disch := (first | assumption | omega | (simp only [List.length_append, List.length_cons, List.length_nil]; omega))) only [↓wD,wU,Nat.reduceBEq,zx150,zx151,zx159,zx160,zx161,zx162,Nat.reduceAdd,Nat.reduceSub,Nat.reduceMul,Nat.reduceLeDiff,Nat.reduceLT,Nat.reduceEqDiff,Int.reduceAdd,Int.reduceSub,Int.reduceMul,Int.reduceNeg,Int.reduceLT,Int.reduceLE,Int.reduceEq,Int.reduceToNat,Int.cast_ofNat_Int,↓reduceIte]
    refine ⟨Gr.refl _, ?_, ?_, fun q hq => by omega⟩
    · rw [b0]; exact hs.weak fun _ _ => trivial
    · rw [b0]; exact h1
end Go.Proofs.Ytflekaacffdakaa
namespace Go.Proofs.Ytflekaacffdakaa
open Go Go.AM Go.Proofs
theorem lsum_len {α : Type} : ∀ {l : List α}, lsum (fun _ => 1) l = l.length
  | [] => rfl
  | x :: l => by simp only [lsum, lsum_len, List.length_cons]; omega
theorem nodup_le {α : Type} [BEq α] [LawfulBEq α] {l l' : List α} (hn : l.Nodup) (h : ∀ x ∈ l, x ∈ l') : l.length ≤ l'.length := by
  have := lsum_sub (f := fun _ => 1) hn h
  rwa [lsum_len, lsum_len] at this
theorem kin_few {s : Tab} (hs : TabOk s) {l : List Tab} (hn : l.Nodup) (h : ∀ x ∈ l, Kin s x) : l.length ≤ 83521 :=
  Nat.le_trans (nodup_le hn fun x hx => (h x hx).fam) (fam_100k hs)
theorem nodup_push {α : Type} {l : List α} {x : α} (h : l.Nodup) (hx : x ∉ l) : (l ++ [x]).Nodup := by
  rw [List.nodup_append]
  refine ⟨h, by simp, fun a ha b hb e => ?_⟩
  simp at hb
  subst hb; subst e
  exact hx ha
/-- what a level is, and what has been met -/
structure LvI (s : Tab) (i : Nat) (lv mt : List Tab) : Prop where
  hl : ∀ x, x ∈ lv ↔ Dst s i x
  hm : ∀ x, x ∈ mt ↔ ∃ m, m ≤ i ∧ Rch s m x
  nl : lv.Nodup
  nm : mt.Nodup
structure FarI (mt0 cand mt th : List Tab) : Prop where
  hm : ∀ x, x ∈ mt ↔ x ∈ mt0 ∨ x ∈ cand
  ht : ∀ x, x ∈ th ↔ x ∉ mt0 ∧ x ∈ cand
  nm : mt.Nodup
  nt : th.Nodup
theorem FarI.skip {mt0 cand mt th : List Tab} {x : Tab} (h : FarI mt0 cand mt th) (hx : x ∈ mt) : FarI mt0 (cand ++ [x]) mt th := by
  have h0 := (h.hm x).1 hx
  refine ⟨fun y => ?_, fun y => ?_, h.nm, h.nt⟩
  · rw [h.hm, List.mem_append, List.mem_singleton]
    constructor
    · rintro (q | q)
      · exact .inl q
      · exact .inr (.inl q)
    · rintro (q | q | rfl)
      · exact .inl q
      · exact .inr q
      · exact h0
  · rw [h.ht, List.mem_append, List.mem_singleton]
    constructor
    · rintro ⟨q1, q2⟩; exact ⟨q1, .inl q2⟩
    · rintro ⟨q1, q2 | rfl⟩
      · exact ⟨q1, q2⟩
      · exact ⟨q1, h0.resolve_left q1⟩
theorem FarI.add {mt0 cand mt th : List Tab} {x : Tab} (h : FarI mt0 cand mt th) (hx : x ∉ mt) : FarI mt0 (cand ++ [x]) (mt ++ [x]) (th ++ [x]) := by
  have h0 : x ∉ mt0 ∧ x ∉ cand := ⟨fun q => hx ((h.hm x).2 (.inl q)), fun q => hx ((h.hm x).2 (.inr q))⟩
  refine ⟨fun y => ?_, fun y => ?_, nodup_push h.nm hx, nodup_push h.nt fun q => h0.2 ((h.ht x).1 q).2⟩
  · rw [List.mem_append, h.hm, List.mem_append, List.mem_singleton, or_assoc]
  · rw [List.mem_append, h.ht, List.mem_append, List.mem_singleton]
    constructor
    · rintro (⟨q1, q2⟩ | rfl)
      · exact ⟨q1, .inl q2⟩
      · exact ⟨h0.1, .inr rfl⟩
    · rintro ⟨q1, q2 | rfl⟩
      · exact .inl ⟨q1, q2⟩
      · exact .inr rfl
theorem FarI.start {mt : List Tab} (h : mt.Nodup) : FarI mt [] mt [] := ⟨fun x => by simp, fun x => by simp, h, by simp⟩
theorem LvI.next {s : Tab} {i : Nat} {lv mt0 mt th : List Tab} (h : LvI s i lv mt0) (h' : FarI mt0 (lv.flatMap nearL) mt th) : LvI s (i + 1) th mt := by
  refine ⟨fun x => ?_, fun x => ?_, h'.nt, h'.nm⟩
  · rw [h'.ht, h.hm, List.mem_flatMap]
    constructor
    · rintro ⟨q1, y, q2, q3⟩
      exact ⟨⟨y, ((h.hl y).1 q2).1, q3⟩, fun m hm q => q1 ⟨m, by omega, q⟩⟩
    · intro hd
      obtain ⟨y, q1, q2⟩ := hd.pred
      exact ⟨fun ⟨m, hm, q⟩ => hd.2 m (by omega) q, y, (h.hl y).2 q1, q2⟩
  · rw [h'.hm, h.hm, List.mem_flatMap]
    constructor
    · rintro (⟨m, hm, q⟩ | ⟨y, q2, q3⟩)
      · exact ⟨m, by omega, q⟩
      · exact ⟨i + 1, Nat.le_refl _, y, ((h.hl y).1 q2).1, q3⟩
    · rintro ⟨m, hm, q⟩
      obtain ⟨k, hk, hd⟩ := dst_of q
      by_cases e : k ≤ i
      · exact .inl ⟨k, e, hd.1⟩
      · obtain rfl : k = i + 1 := by omega
        obtain ⟨y, q1, q2⟩ := hd.pred
        exact .inr ⟨y, (h.hl y).2 q1, q2⟩
theorem LvI.zero {s : Tab} : LvI s 0 [s] [s] := by
  refine ⟨fun x => ?_, fun x => ?_, by simp, by simp⟩
  · simp only [List.mem_singleton]
    exact ⟨fun e => ⟨e, fun m hm => by omega⟩, fun h => h.1⟩
  · simp only [List.mem_singleton]
    exact ⟨fun e => ⟨0, Nat.le_refl _, e⟩, fun ⟨m, hm, q⟩ => by
      obtain rfl : m = 0 := by omega
      exact q⟩
theorem lpath_ret {p : Nat → Prop} {H : Heap} {w : AV} {l : List Tab} (hl : Sl p H w l) : Ret E 62 [w] (fun _ => False) H ((l.take 40).map cutT) := by
  refine Ret.ro rfl fn62 rfl ?_
  unfold f62A
  have hb := hl.bound
  replace hl : Sl (fun b => b < H.length) H w l := hl.low.weak fun _ h => h.2
  have hlL := hl.lenV
  simp (disch := (first | assumption | omega | (simp only [List.length_append, List.length_cons, List.length_nil]; omega))) only [↓wD,wU,Nat.reduceBEq,zx150,zx151,zx159,zx160,zx161,zx162,Nat.reduceAdd,Nat.reduceSub,Nat.reduceMul,Nat.reduceLeDiff,Nat.reduceLT,Nat.reduceEqDiff,Int.reduceAdd,Int.reduceSub,Int.reduceMul,Int.reduceNeg,Int.reduceLT,Int.reduceLE,Int.reduceEq,Int.reduceToNat,Int.cast_ofNat_Int,↓reduceIte, hlL]
  refine Wp.for l.length (fun i a H' => ∃ u, a 3 = u ∧ a 6 = w ∧ a 7 = .i l.length ∧ a 8 = .i i ∧ Gr H H' ∧ Acc H.length (fun b => H.length ≤ b) H' u (((l.take i).take 40).map cutT)) ?_ ?_
  · rintro i a H1 hi ⟨u, a3, a6, a7, a8, hg, hu⟩ ih
    simp (disch := (first | assumption | omega | (simp only [List.length_append, List.length_cons, List.length_nil]; omega))) only [↓wD,wU,Nat.reduceBEq,zx150,zx151,zx159,zx160,zx161,zx162,Nat.reduceAdd,Nat.reduceSub,Nat.reduceMul,Nat.reduceLeDiff,Nat.reduceLT,Nat.reduceEqDiff,Int.reduceAdd,Int.reduceSub,Int.reduceMul,Int.reduceNeg,Int.reduceLT,Int.reduceLE,Int.reduceEq,Int.reduceToNat,Int.cast_ofNat_Int,↓reduceIte, a3, a6, a7, a8]
    refine condP_split (fun hlt => ?_) (fun hlt => ?_)
    · have hi' : i < l.length := by omega
      have hl1 := hl.gr hg
      have g := hl1.get (k := (i : Int)) (by omega) (by omega)
      by_cases h40 : i < 40
      · have d : decide ((i : Int) < 40) = true := decide_eq_true (by omega)
        simp (disch := (first | assumption | omega | (simp only [List.length_append, List.length_cons, List.length_nil]; omega))) only [↓wD,wU,Nat.reduceBEq,zx150,zx151,zx159,zx160,zx161,zx162,Nat.reduceAdd,Nat.reduceSub,Nat.reduceMul,Nat.reduceLeDiff,Nat.reduceLT,Nat.reduceEqDiff,Int.reduceAdd,Int.reduceSub,Int.reduceMul,Int.reduceNeg,Int.reduceLT,Int.reduceLE,Int.reduceEq,Int.reduceToNat,Int.cast_ofNat_Int,↓reduceIte, a3, a6, a7, a8, hl1.L, d]
        refine (table_ret g).toF fun y H2 hg2 hy => ?_
        have yc := hy.cellsV
        simp (disch := (first | assumption | omega | (simp only [List.length_append, List.length_cons, List.length_nil]; omega))) only [↓wD,wU,Nat.reduceBEq,zx150,zx151,zx159,zx160,zx161,zx162,Nat.reduceAdd,Nat.reduceSub,Nat.reduceMul,Nat.reduceLeDiff,Nat.reduceLT,Nat.reduceEqDiff,Int.reduceAdd,Int.reduceSub,Int.reduceMul,Int.reduceNeg,Int.reduceLT,Int.reduceLE,Int.reduceEq,Int.reduceToNat,Int.cast_ofNat_Int,↓reduceIte, a3, a6, a7, a8, yc]
        refine hu.pushT hg hg2 hy (by simp; omega) fun u' H3 hu' hg3 _ _ => ?_
        simp (disch := (first | assumption | omega | (simp only [List.length_append, List.length_cons, List.length_nil]; omega))) only [↓wD,wU,Nat.reduceBEq,zx150,zx151,zx159,zx160,zx161,zx162,Nat.reduceAdd,Nat.reduceSub,Nat.reduceMul,Nat.reduceLeDiff,Nat.reduceLT,Nat.reduceEqDiff,Int.reduceAdd,Int.reduceSub,Int.reduceMul,Int.reduceNeg,Int.reduceLT,Int.reduceLE,Int.reduceEq,Int.reduceToNat,Int.cast_ofNat_Int,↓reduceIte, a3, a6, a7, a8]
        refine (ih hi').go ⟨u', ?_⟩
        have e : ((l.take (i + 1)).take 40).map cutT = ((l.take i).take 40).map cutT ++ [cutT (gi l (i : Int))] := by
          rw [List.take_take, List.take_take, Nat.min_eq_right (by omega), Nat.min_eq_right (by omega), take_gi hi', List.map_append]; rfl
        rw [e]
        simp (disch := (first | assumption | omega | (simp only [List.length_append, List.length_cons, List.length_nil]; omega))) only [↓wD,wU,Nat.reduceBEq,zx150,zx151,zx159,zx160,zx161,zx162,Nat.reduceAdd,Nat.reduceSub,Nat.reduceMul,Nat.reduceLeDiff,Nat.reduceLT,Nat.reduceEqDiff,Int.reduceAdd,Int.reduceSub,Int.reduceMul,Int.reduceNeg,Int.reduceLT,Int.reduceLE,Int.reduceEq,Int.reduceToNat,Int.cast_ofNat_Int,↓reduceIte, a3, a6, a7, a8]
        exact ⟨hg3, hu'⟩
      · have d : decide ((i : Int) < 40) = false := decide_eq_false (by omega)
        simp (disch := (first | assumption | omega | (simp only [List.length_append, List.length_cons, List.length_nil]; omega))) only [↓wD,wU,Nat.reduceBEq,zx150,zx151,zx159,zx160,zx161,zx162,Nat.reduceAdd,Nat.reduceSub,Nat.reduceMul,Nat.reduceLeDiff,Nat.reduceLT,Nat.reduceEqDiff,Int.reduceAdd,Int.reduceSub,Int.reduceMul,Int.reduceNeg,Int.reduceLT,Int.reduceLE,Int.reduceEq,Int.reduceToNat,Int.cast_ofNat_Int,↓reduceIte, a3, a6, a7, a8, hl1.L, d]
        refine (ih hi').go ⟨u, ?_⟩
        have e : (l.take (i + 1)).take 40 = (l.take i).take 40 := by rw [List.take_take, List.take_take, Nat.min_eq_left (by omega), Nat.min_eq_left (by omega)]
        rw [e]
        simp (disch := (first | assumption | omega | (simp only [List.length_append, List.length_cons, List.length_nil]; omega))) only [↓wD,wU,Nat.reduceBEq,zx150,zx151,zx159,zx160,zx161,zx162,Nat.reduceAdd,Nat.reduceSub,Nat.reduceMul,Nat.reduceLeDiff,Nat.reduceLT,Nat.reduceEqDiff,Int.reduceAdd,Int.reduceSub,Int.reduceMul,Int.reduceNeg,Int.reduceLT,Int.reduceLE,Int.reduceEq,Int.reduceToNat,Int.cast_ofNat_Int,↓reduceIte, a3, a6, a7, a8]
        exact ⟨hg, hu⟩
    · obtain rfl : i = l.length := by omega
      rw [List.take_length] at hu
      simp (disch := (first | assumption | omega | (simp only [List.length_append, List.length_cons, List.length_nil]; omega))) only [↓wD,wU,Nat.reduceBEq,zx150,zx151,zx159,zx160,zx161,zx162,Nat.reduceAdd,Nat.reduceSub,Nat.reduceMul,Nat.reduceLeDiff,Nat.reduceLT,Nat.reduceEqDiff,Int.reduceAdd,Int.reduceSub,Int.reduceMul,Int.reduceNeg,Int.reduceLT,Int.reduceLE,Int.reduceEq,Int.reduceToNat,Int.cast_ofNat_Int,↓reduceIte, a3, a6, a7, a8]
      exact hu.sl.weak fun b h => .inr (h.elim id id)
  · refine ⟨.nils, ?_⟩
    simp (disch := (first | assumption | omega | (simp only [List.length_append, List.length_cons, List.length_nil]; omega))) only [↓wD,wU,Nat.reduceBEq,zx150,zx151,zx159,zx160,zx161,zx162,Nat.reduceAdd,Nat.reduceSub,Nat.reduceMul,Nat.reduceLeDiff,Nat.reduceLT,Nat.reduceEqDiff,Int.reduceAdd,Int.reduceSub,Int.reduceMul,Int.reduceNeg,Int.reduceLT,Int.reduceLE,Int.reduceEq,Int.reduceToNat,Int.cast_ofNat_Int,↓reduceIte]
    exact ⟨Gr.refl _, Acc.nil⟩
end Go.Proofs.Ytflekaacffdakaa
namespace Go.Proofs.Ytflekaacffdakaa
open Go Go.AM Go.Proofs
/-- two growing lists of tables, apart from one another and from the tables in them -/
structure Two2 (L : Nat) (K : Nat → Prop) (H : Heap) (u w : AV) (xs ys : List Tab) : Prop where
  hu : Acc L K H u xs
  hw : Acc L K H w ys
  uK : ∀ b, u.blk = some b → ¬ K b
  wK : ∀ b, w.blk = some b → ¬ K b
  uw : ∀ b, u.blk = some b → w.blk ≠ some b
theorem Two2.kx {L : Nat} {K K' : Nat → Prop} {H H' : Heap} {u w : AV} {xs ys : List Tab} (h : Two2 L K H u w xs ys) (hx : Kx (fun _ => True) H H') (hK : ∀ b, K b → K' b) (hn : ∀ b, b < H.length → K' b → K b) : Two2 L K' H' u w xs ys :=
  ⟨(h.hu.kp (p := fun _ => True) hx.kp (fun _ _ => trivial) fun _ _ => trivial).mono (Kp.refl _ _) hK, (h.hw.kp (p := fun _ => True) hx.kp (fun _ _ => trivial) fun _ _ => trivial).mono (Kp.refl _ _) hK, fun b e q => h.uK b e (hn b (h.hu.blk_lt e).2 q), fun b e q => h.wK b e (hn b (h.hw.blk_lt e).2 q), h.uw⟩
theorem Two2.symm {L : Nat} {K : Nat → Prop} {H : Heap} {u w : AV} {xs ys : List Tab} (h : Two2 L K H u w xs ys) : Two2 L K H w u ys xs :=
  ⟨h.hw, h.hu, h.wK, h.uK, fun b e q => h.uw b q e⟩
/-- one table more on the first -/
theorem Two2.push {L lo : Nat} {K : Nat → Prop} {H : Heap} {u w v1 : AV} {xs ys : List Tab} {t : Tab} {Q : AV × Heap → Prop} (h : Two2 L K H u w xs ys) (hlo : lo ≤ L) (hL : L ≤ H.length) (hK : ∀ b, K b → b < H.length) (m : Sl K H v1 t) (hl : xs.length ≤ 100000)
    (go : ∀ u' H3, Two2 L K H3 u' w (xs ++ [t]) ys → Kx (fun b => u.blk ≠ some b) H H3 → H.length < H3.length → Q (u', H3)) : @optP _ (appendV lo 1 24 u (.s 1 H.length 0 1 (some 1)) (H ++ [.cells [v1]])) ⟨Q⟩ := by
  refine appX (h.hu.pushL hlo hL m (fun b hb => ⟨hb, fun e => h.uK b e hb⟩) (by omega) fun u' H3 hu' hk3 hl3' hb3 x3 => ?_)
  have x4 : Kx (fun b => u.blk ≠ some b) H H3 := (Kx.app (fun b => u.blk ≠ some b) H _).trans x3 fun _ _ h => h
  refine go u' H3 ⟨hu', h.hw.kp hk3 (fun b e q => h.uw b q e) fun b hb q => h.uK b q hb, ?_, h.wK, ?_⟩ x4 hl3'
  · intro b e q
    rw [hb3] at e
    simp only [Option.some.injEq] at e
    have := hK b q
    omega
  · intro b e q
    rw [hb3] at e
    simp only [Option.some.injEq] at e
    have := (h.hw.blk_lt q).2
    omega
theorem one_acc {L : Nat} {p : Nat → Prop} {H : Heap} {v : AV} {s : Tab} {b : Nat} {c : Option Nat} (h : Sl p H v s) (hb : H[b]? = some (.cells [v])) (hL : L ≤ b) (hp : ¬ p b) : Acc L p H (.s 1 b 0 1 c) [s] :=
  .inr ⟨b, 0, c, [v], rfl, hL, hb, by simp [Rep.sz], by simp, fun i hi => by
    obtain rfl : i = 0 := by simpa using hi
    refine ⟨v, rfl, h.weak fun b' q => ⟨q, fun e => hp (e ▸ q)⟩⟩⟩
end Go.Proofs.Ytflekaacffdakaa
namespace Go.Proofs.Ytflekaacffdakaa
open Go Go.AM Go.Proofs
abbrev Kn := List (Tab × Option Tab)
def keysK (kn : Kn) : List Tab := kn.map (·.1)
theorem keys_app {kn : Kn} {x : Tab} {p : Option Tab} : keysK (kn ++ [(x, p)]) = keysK kn ++ [x] := by simp [keysK]
/-- where an entry comes from -/
def ParOk (s : Tab) (kn : Kn) (e : Tab × Option Tab) : Prop :=
  match e.2 with
  | none => e.1 = s
  | some p => p ∈ keysK kn ∧ e.1 ∈ nearL p ∧ ∃ m, Dst s m p ∧ Dst s (m + 1) e.1
theorem ParOk.mono {s : Tab} {kn kn' : Kn} {e : Tab × Option Tab} (h : ParOk s kn e) (hs : ∀ x ∈ keysK kn, x ∈ keysK kn') : ParOk s kn' e := by
  obtain ⟨x, p⟩ := e
  cases p with
  | none => exact h
  | some p => exact ⟨hs _ h.1, h.2⟩
structure BI (s : Tab) (n : Nat) (A B : List Tab) (kn : Kn) : Prop where
  hA : ∀ x ∈ A, Dst s n x
  hB : ∀ x ∈ B, Dst s (n + 1) x
  bk : ∀ x ∈ B, x ∈ keysK kn
  known : ∀ m x, m ≤ n → Rch s m x → x ∈ keysK kn
  only : ∀ x ∈ keysK kn, (∃ m, m ≤ n ∧ Rch s m x) ∨ x ∈ B
  done : ∀ y, Dst s n y → y ∈ A ∨ ∀ z ∈ nearL y, z ∈ keysK kn
  par : ∀ e ∈ kn, ParOk s kn e
  nk : (keysK kn).Nodup
theorem BI.zero {s : Tab} : BI s 0 [s] [] [(s, none)] := by
  refine ⟨fun x hx => ?_, fun x hx => (by cases hx), fun x hx => (by cases hx), fun m x hm hr => ?_, fun x hx => ?_, fun y hy => ?_, fun e he => ?_, by simp [keysK]⟩
  · simp at hx; subst hx; exact ⟨rfl, fun m hm => by omega⟩
  · obtain rfl : m = 0 := by omega
    cases hr
    simp [keysK]
  · simp [keysK] at hx; subst hx; exact .inl ⟨0, Nat.le_refl _, rfl⟩
  · left; have := hy.1; cases this; simp
  · simp at he; subst he; exact rfl
theorem BI.kin {s : Tab} {n : Nat} {A B : List Tab} {kn : Kn} (hs : TabOk s) (h : BI s n A B kn) : ∀ x ∈ keysK kn, Kin s x := fun x hx => by
  rcases h.only x hx with ⟨m, _, q⟩ | q
  · exact q.kin hs
  · exact (h.hB x q).1.kin hs
theorem BI.turn {s : Tab} {n : Nat} {B : List Tab} {kn : Kn} (h : BI s n [] B kn) : BI s (n + 1) B [] kn := by
  refine ⟨h.hB, fun x hx => (by cases hx), fun x hx => (by cases hx), fun m x hm hr => ?_, fun x hx => ?_, fun y hy => ?_, h.par, h.nk⟩
  · obtain ⟨k, hk, hd⟩ := dst_of hr
    by_cases e : k ≤ n
    · exact h.known k x e hd.1
    · obtain rfl : k = n + 1 := by omega
      obtain ⟨y, q1, q2⟩ := hd.pred
      rcases h.done y q1 with q | q
      · cases q
      · exact q x q2
  · rcases h.only x hx with ⟨m, hm, q⟩ | q
    · exact .inl ⟨m, by omega, q⟩
    · exact .inl ⟨n + 1, Nat.le_refl _, (h.hB x q).1⟩
  · left
    obtain ⟨z, q1, q2⟩ := hy.pred
    have hk : y ∈ keysK kn := by
      rcases h.done z q1 with q | q
      · cases q
      · exact q y q2
    rcases h.only y hk with ⟨m, hm, q⟩ | q
    · exact absurd q (hy.2 m (by omega))
    · exact q
theorem Dst.down {s x : Tab} : ∀ {n : Nat}, Dst s n x → ∀ k, k ≤ n → ∃ y, Dst s k y
  | 0, h, k, hk => ⟨x, by obtain rfl : k = 0 := by omega
                          exact h⟩
  | n + 1, h, k, hk => by
    by_cases e : k = n + 1
    · subst e; exact ⟨x, h⟩
    · obtain ⟨y, q1, _⟩ := h.pred
      exact Dst.down q1 k (by omega)
theorem BI.nonE {s t : Tab} {n : Nat} {A B : List Tab} {kn : Kn} (hs : TabOk s) (ht : Kin s t) (h : BI s n A B kn) (hn : t ∉ keysK kn) : A ++ B ≠ [] := fun e => by
  obtain ⟨rfl, rfl⟩ := List.append_eq_nil_iff.1 e
  obtain ⟨N, _, hd⟩ := reach hs ht
  have hN : n + 1 ≤ N := by
    by_cases q : N ≤ n
    · exact absurd (h.known N t q hd.1) hn
    · omega
  obtain ⟨y, hy⟩ := hd.down (n + 1) hN
  obtain ⟨z, q1, q2⟩ := hy.pred
  rcases h.done z q1 with q | q
  · cases q
  · rcases h.only y (q y q2) with ⟨m, hm, q⟩ | q
    · exact hy.2 m (by omega) q
    · cases q
/-- the head is at level n -/
theorem BI.head {s t : Tab} {n : Nat} {A B : List Tab} {kn : Kn} (hs : TabOk s) (ht : Kin s t) (h : BI s n A B kn) (hn : t ∉ keysK kn) : ∃ n' u A' B', A ++ B = u :: (A' ++ B') ∧ BI s n' (u :: A') B' kn := by
  have h0 := h.nonE hs ht hn
  cases A with
  | cons u A' => exact ⟨n, u, A', B, rfl, h⟩
  | nil => cases B with
    | cons u B' => exact ⟨n + 1, u, B', [], by simp, h.turn⟩
    | nil => exact absurd rfl h0
theorem BI.add {s u x : Tab} {n : Nat} {A B : List Tab} {kn : Kn} (h : BI s n (u :: A) B kn) (hx : x ∈ nearL u) (hn : x ∉ keysK kn) : BI s n (u :: A) (B ++ [x]) (kn ++ [(x, some u)]) := by
  have hu := h.hA u (by simp)
  have hdx : Dst s (n + 1) x := ⟨⟨u, hu.1, hx⟩, fun m hm q => hn (h.known m x (by omega) q)⟩
  have sub : ∀ y ∈ keysK kn, y ∈ keysK (kn ++ [(x, some u)]) := fun y hy => by rw [keys_app]; simp [hy]
  refine ⟨h.hA, fun y hy => ?_, fun y hy => ?_, fun m y hm q => sub y (h.known m y hm q), fun y hy => ?_, fun y hy => (h.done y hy).imp id fun q z hz => sub z (q z hz), fun e he => ?_, ?_⟩
  · rcases List.mem_append.1 hy with q | q
    · exact h.hB y q
    · simp at q; subst q; exact hdx
  · rcases List.mem_append.1 hy with q | q
    · exact sub y (h.bk y q)
    · simp at q; subst q; rw [keys_app]; simp
  · rw [keys_app] at hy
    rcases List.mem_append.1 hy with q | q
    · exact (h.only y q).imp id fun q => by simp [q]
    · simp at q; subst q; right; simp
  · rcases List.mem_append.1 he with q | q
    · exact (h.par e q).mono sub
    · simp at q; subst q
      exact ⟨sub u (h.known n u (Nat.le_refl _) hu.1), hx, n, hu, hdx⟩
  · rw [keys_app]; exact nodup_push h.nk hn
theorem BI.pop {s u : Tab} {n : Nat} {A B : List Tab} {kn : Kn} (h : BI s n (u :: A) B kn) (hd : ∀ z ∈ nearL u, z ∈ keysK kn) : BI s n A B kn :=
  ⟨fun x hx => h.hA x (by simp [hx]), h.hB, h.bk, h.known, h.only, fun y hy => by
    rcases h.done y hy with q | q
    · rcases List.mem_cons.1 q with rfl | q
      · exact .inr hd
      · exact .inl q
    · exact .inr q, h.par, h.nk⟩
/-- the way from s, as far as it is found -/
structure UpI (s t : Tab) (N m : Nat) (x : Tab) (R : List Tab) : Prop where
  hd : Dst s m x
  len : m + R.length = N
  ch : Ch (x :: R)
  last : gi (x :: R) (R.length : Int) = t
theorem UpI.start {s t : Tab} {N : Nat} (h : Dst s N t) : UpI s t N N t [] := ⟨h, by simp, fun i hi => by simp at hi, rfl⟩
theorem UpI.step {s t x y : Tab} {N m : Nat} {R : List Tab} (h : UpI s t N (m + 1) x R) (hy : Dst s m y) (hx : x ∈ nearL y) : UpI s t N m y (x :: R) := by
  refine ⟨hy, by have := h.len; simp; omega, fun i hi => ?_, ?_⟩
  · cases i with
    | zero => rw [gi_consS, gi_cons0, gi_cons0]; exact hx
    | succ i =>
      rw [gi_consS, gi_consS]
      exact h.ch i (by simpa using hi)
  · have : ((x :: R).length : Int) = ((R.length + 1 : Nat) : Int) := by simp
    rw [this, gi_consS]
    exact h.last
theorem UpI.end {s t x : Tab} {N : Nat} {R : List Tab} (h : UpI s t N 0 x R) : PathP s t (x :: R) ∧ (x :: R).length = N + 1 := by
  have h1 := h.len
  refine ⟨⟨by simp, h.hd.1, ?_, h.ch⟩, by simp; omega⟩
  rw [show (((x :: R).length : Int) - 1) = (R.length : Int) by simp]
  exact h.last
/-! ### The map -/
def valR (P : Nat → Prop) (H : Heap) (v : AV) : Option Tab → Prop
  | none => v = .nils
  | some p => Sl P H v p
def EntR (P : Nat → Prop) (H : Heap) : List (List Int × AV) → Kn → Prop
  | [], [] => True
  | e :: es, k :: ks => (e.1 = keyL k.1 ∧ valR P H e.2 k.2) ∧ EntR P H es ks
  | _, _ => False
theorem EntR.mono {P Q : Nat → Prop} {H H' : Heap} (hk : Kp P H H') (hq : ∀ b, P b → Q b) : ∀ {es : List (List Int × AV)} {ks : Kn}, EntR P H es ks → EntR Q H' es ks
  | [], [], _ => trivial
  | e :: es, k :: ks, ⟨⟨h1, h2⟩, h3⟩ => by
    refine ⟨⟨h1, ?_⟩, EntR.mono hk hq h3⟩
    obtain ⟨x, p⟩ := k
    cases p with
    | none => exact h2
    | some p => exact (Sl.kp h2 hk).weak hq
theorem EntR.push {P : Nat → Prop} {H : Heap} {x : Tab} {p : Option Tab} {v : AV} (hv : valR P H v p) : ∀ {es : List (List Int × AV)} {ks : Kn}, EntR P H es ks → EntR P H (es ++ [(keyL x, v)]) (ks ++ [(x, p)])
  | [], [], _ => ⟨⟨rfl, hv⟩, trivial⟩
  | _ :: _, _ :: _, ⟨h1, h2⟩ => ⟨h1, EntR.push hv h2⟩
theorem EntR.no {s x : Tab} {P : Nat → Prop} {H : Heap} (hx : Kin s x) : ∀ {es : List (List Int × AV)} {ks : Kn}, EntR P H es ks → (∀ y ∈ keysK ks, Kin s y) → x ∉ keysK ks → es.find? (fun e => e.1 == keyL x) = none
  | [], [], _, _, _ => rfl
  | e :: es, k :: ks, ⟨⟨h1, _⟩, h2⟩, hk, hn => by
    have hne : k.1 ≠ x := fun q => hn (by simp [keysK, q])
    have : (e.1 == keyL x) = false := by
      rw [beq_eq_false_iff_ne, h1]
      exact fun q => hne (keyL_inj (hk _ (by simp [keysK])) hx q)
    rw [List.find?_cons, this]
    exact EntR.no hx h2 (fun y hy => hk y (by simp only [keysK, List.map_cons, List.mem_cons]; exact .inr hy)) fun q => hn (by simp only [keysK, List.map_cons, List.mem_cons]; exact .inr q)
theorem EntR.yes {s x : Tab} {P : Nat → Prop} {H : Heap} (hx : Kin s x) : ∀ {es : List (List Int × AV)} {ks : Kn}, EntR P H es ks → (∀ y ∈ keysK ks, Kin s y) → x ∈ keysK ks → ∃ e p, es.find? (fun e => e.1 == keyL x) = some e ∧ (x, p) ∈ ks ∧ valR P H e.2 p
  | [], [], _, _, h => by simp [keysK] at h
  | e :: es, k :: ks, ⟨⟨h1, h3⟩, h2⟩, hk, hm => by
    by_cases he : k.1 = x
    · refine ⟨e, k.2, ?_, ?_, h3⟩
      · rw [List.find?_cons, h1, he]; simp
      · rw [← he]; simp
    · have : (e.1 == keyL x) = false := by
        rw [beq_eq_false_iff_ne, h1]
        exact fun q => he (keyL_inj (hk _ (by simp [keysK])) hx q)
      have hm' : x ∈ keysK ks := by
        simp only [keysK, List.map_cons, List.mem_cons] at hm
        exact hm.resolve_left fun q => he q.symm
      obtain ⟨e', p, q1, q2, q3⟩ := EntR.yes hx h2 (fun y hy => hk y (by simp only [keysK, List.map_cons, List.mem_cons]; exact .inr hy)) hm'
      exact ⟨e', p, by rw [List.find?_cons, this]; exact q1, by simp [q2], q3⟩
theorem keyA_ints : ∀ xs : List Int, keyA (xs.map AV.i) = some xs
  | [] => rfl
  | x :: xs => by
    show (keyA (xs.map AV.i)).map (x :: ·) = _
    rw [keyA_ints xs]; rfl
theorem look_eq {lo b : Nat} {z : AV} {ok : Bool} {H : Heap} {es : List (List Int × AV)} {x : Tab} (hb : H[b]? = some (.map 9 es)) (hlo : lo ≤ b) (hx : TabOk x) : mlookV lo 9 z ok (.m b) (.ag ((keyL x).map AV.i)) H = some (mapGet z ok es (keyL x)) := by
  have h1 : mapAt lo 9 H b = some es := by simp [mapAt, hlo, hb]
  have h2 : ((keyL x).map AV.i).length = 9 := by rw [List.length_map]; exact keyL_len hx
  simp only [mlookV, mapLook, h1, Option.bind_some, if_pos h2, keyA_ints, Option.map_some]
theorem set_eq {lo b : Nat} {H : Heap} {es : List (List Int × AV)} {x : Tab} {v : AV} (hb : H[b]? = some (.map 9 es)) (hlo : lo ≤ b) (hx : TabOk x) (hn : es.find? (fun e => e.1 == keyL x) = none) : msetV lo 9 (.m b) (.ag ((keyL x).map AV.i)) v H = some (H.set b (.map 9 (es ++ [(keyL x, v)]))) := by
  have h1 : mapAt lo 9 H b = some es := by simp [mapAt, hlo, hb]
  have h2 : ((keyL x).map AV.i).length = 9 := by rw [List.length_map]; exact keyL_len hx
  have h3 : ¬ (es.any fun e => e.1 == keyL x) = true := fun q => by
    obtain ⟨e, q1, q2⟩ := List.any_eq_true.1 q
    exact (List.find?_eq_none.1 hn) e q1 q2
  simp only [msetV, mapSet, h1, Option.bind_some, if_pos h2, keyA_ints, if_neg h3]
end Go.Proofs.Ytflekaacffdakaa
namespace Go.AM
open Go
/-- cells o to o + n, turned over, behind i swaps -/
def revC (k : List AV) (o n i : Nat) : List AV := (List.range k.length).map fun j => if (o ≤ j ∧ j < o + i) ∨ (o + n ≤ j + i ∧ j < o + n) then (k[o + (o + n - 1 - j)]?).getD .un else (k[j]?).getD .un
section
variable {k : List AV} {o n i j : Nat}
theorem revC_len : (revC k o n i).length = k.length := by simp [revC]
theorem revC_get (h : j < k.length) : (revC k o n i)[j]? = some (if (o ≤ j ∧ j < o + i) ∨ (o + n ≤ j + i ∧ j < o + n) then (k[o + (o + n - 1 - j)]?).getD .un else (k[j]?).getD .un) := by
  unfold revC
  rw [List.getElem?_map, List.getElem?_range h]; rfl
theorem revC_0 : revC k o n 0 = k := by
  apply List.ext_getElem? 
  intro j
  by_cases h : j < k.length
  · rw [revC_get h, if_neg (by omega), List.getElem?_eq_getElem h]; rfl
  · rw [List.getElem?_eq_none (by rw [revC_len]; omega), List.getElem?_eq_none (by omega)]
theorem revC_mid (h : o + n ≤ k.length) (h1 : i ≤ j) (h2 : j + i + 1 ≤ n) : (revC k o n i)[o + j]? = k[o + j]? := by
  rw [revC_get (by omega), if_neg (by omega), List.getElem?_eq_getElem (by omega)]; rfl
theorem revC_step {m : Nat} {x y : AV} (him : i < m) (hk : o + (i + 1 + m) ≤ k.length) (hx : k[o + i]? = some x) (hy : k[o + m]? = some y) : ((revC k o (i + 1 + m) i).set (o + i) y).set (o + m) x = revC k o (i + 1 + m) (i + 1) := by
  apply List.ext_getElem?
  intro j
  by_cases h : j < k.length
  · rw [List.getElem?_set, List.getElem?_set, revC_get h, revC_get h]
    simp only [List.length_set, revC_len]
    by_cases e1 : o + m = j
    · subst e1
      rw [if_pos rfl, if_pos h, if_pos (by omega), show o + (o + (i + 1 + m) - 1 - (o + m)) = o + i by omega, hx]; rfl
    · rw [if_neg e1]
      by_cases e2 : o + i = j
      · subst e2
        rw [if_pos rfl, if_pos h, if_pos (by omega), show o + (o + (i + 1 + m) - 1 - (o + i)) = o + m by omega, hy]; rfl
      · rw [if_neg e2]
        by_cases c : (o ≤ j ∧ j < o + i) ∨ (o + (i + 1 + m) ≤ j + i ∧ j < o + (i + 1 + m))
        · rw [if_pos c, if_pos (by omega)]
        · rw [if_neg c, if_neg (by omega)]
  · rw [List.getElem?_eq_none (by simp [revC_len]; omega), List.getElem?_eq_none (by rw [revC_len]; omega)]
theorem revC_end (h : o + n ≤ k.length) (h1 : n ≤ i + i + 1) (hj : j < n) : (revC k o n i)[o + j]? = k[o + (n - 1 - j)]? := by
  rw [revC_get (by omega)]
  by_cases c : (o ≤ o + j ∧ o + j < o + i) ∨ (o + n ≤ o + j + i ∧ o + j < o + n)
  · rw [if_pos c, show o + (o + n - 1 - (o + j)) = o + (n - 1 - j) by omega, List.getElem?_eq_getElem (by omega)]; rfl
  · rw [if_neg c, show o + j = o + (n - 1 - j) by omega, List.getElem?_eq_getElem (by omega)]; rfl
end
end Go.AM
namespace Go.Proofs.Ytflekaacffdakaa
open Go Go.AM Go.Proofs
theorem ia_g {b o n i : Nat} {c : Option Nat} (h : i < n) : iaddrV 1 (.s 1 b o n c) (.i (i : Int)) = some (.p b (o + i)) := by
  have q : 0 ≤ (i : Int) ∧ (i : Int) < n ∧ 1 = 1 := ⟨by omega, by omega, rfl⟩
  have e : iaddrV 1 (.s 1 b o n c) (.i (i : Int)) = if 0 ≤ (i : Int) ∧ (i : Int) < n ∧ 1 = 1 then some (.p b (o + (i : Int).toNat * 1)) else none := rfl
  rw [e, if_pos q]; simp
theorem rev3_raw {lo b o n : Nat} {c : Option Nat} {k : List AV} {H : Heap} (hb : H[b]? = some (.cells k)) (hlo : lo ≤ b) (hk : o + n ≤ k.length) (hn : n ≤ 1000000) (h1 : ∀ j, j < n → ∃ x, k[o + j]? = some x ∧ x.cells = [x] ∧ x.one = true) :
    WpF E lo 68 [.s 1 b o n c] H fun _ H' => ∃ k', H' = H.set b (.cells k') ∧ k'.length = k.length ∧ ∀ j, j < n → k'[o + j]? = k[o + (n - 1 - j)]? := by
  refine WpF.wrt rfl fn68 rfl ?_
  unfold f68A
  have hn1 : (n : Int) ≤ 1000000 := by omega
  simp (disch := (first | assumption | omega | (simp only [List.length_append, List.length_cons, List.length_nil]; omega))) only [↓wD,wU,Nat.reduceBEq,zx150,zx151,zx159,zx160,zx161,zx162,Nat.reduceAdd,Nat.reduceSub,Nat.reduceMul,Nat.reduceLeDiff,Nat.reduceLT,Nat.reduceEqDiff,Int.reduceAdd,Int.reduceSub,Int.reduceMul,Int.reduceNeg,Int.reduceLT,Int.reduceLE,Int.reduceEq,Int.reduceToNat,Int.cast_ofNat_Int,↓reduceIte]
  refine Wp.for n (fun i a H' => a 0 = .s 1 b o n c ∧ a 2 = .i i ∧ a 3 = .i ((n : Int) - 1 - i) ∧ H' = H.set b (.cells (revC k o n i)) ∧ i + i ≤ n + 1) ?_ ?_
  · rintro i a H' hi ⟨a0, a2, a3, rfl, hii⟩ ih
    have gH := get_set (k := .cells (revC k o n i)) hb
    simp (disch := (first | assumption | omega | (simp only [List.length_append, List.length_cons, List.length_nil]; omega))) only [↓wD,wU,Nat.reduceBEq,zx150,zx151,zx159,zx160,zx161,zx162,Nat.reduceAdd,Nat.reduceSub,Nat.reduceMul,Nat.reduceLeDiff,Nat.reduceLT,Nat.reduceEqDiff,Int.reduceAdd,Int.reduceSub,Int.reduceMul,Int.reduceNeg,Int.reduceLT,Int.reduceLE,Int.reduceEq,Int.reduceToNat,Int.cast_ofNat_Int,↓reduceIte, a0, a2, a3]
    refine condP_split (fun hlt => ?_) (fun hlt => ?_)
    · obtain ⟨m, rfl⟩ : ∃ m, n = i + 1 + m := ⟨n - (i + 1), by omega⟩
      have em : ((i + 1 + m : Nat) : Int) - 1 - i = (m : Int) := by omega
      have him : i < m := by omega
      obtain ⟨x, x1, x2, x3⟩ := h1 i (by omega)
      obtain ⟨y, y1, y2, y3⟩ := h1 m (by omega)
      have r1 : (revC k o (i + 1 + m) i)[o + i]? = some x := by rw [revC_mid (by omega) (by omega) (by omega)]; exact x1
      have r2 : (revC k o (i + 1 + m) i)[o + m]? = some y := by rw [revC_mid (by omega) (by omega) (by omega)]; exact y1
      have i1 := ia_g (b := b) (o := o) (n := i + 1 + m) (c := c) (i := i) (by omega)
      have i2 := ia_g (b := b) (o := o) (n := i + 1 + m) (c := c) (i := m) (by omega)
      rw [em] at a3
      have w1 : st lo (H.set b (.cells (revC k o (i + 1 + m) i))) b (o + i) [y] = some ((H.set b (.cells (revC k o (i + 1 + m) i))).set b (.cells ((revC k o (i + 1 + m) i).set (o + i) y))) := by
        rw [st_of gH hlo (by rw [revC_len]; simp; omega)]; simp [wr]
      have g2 := get_set (k := .cells ((revC k o (i + 1 + m) i).set (o + i) y)) gH
      have w2 : st lo ((H.set b (.cells (revC k o (i + 1 + m) i))).set b (.cells ((revC k o (i + 1 + m) i).set (o + i) y))) b (o + m) [x] = some (((H.set b (.cells (revC k o (i + 1 + m) i))).set b (.cells ((revC k o (i + 1 + m) i).set (o + i) y))).set b (.cells (((revC k o (i + 1 + m) i).set (o + i) y).set (o + m) x))) := by
        rw [st_of g2 hlo (by rw [List.length_set, revC_len]; simp; omega)]; simp [wr]
      have es : ((H.set b (.cells (revC k o (i + 1 + m) i))).set b (.cells ((revC k o (i + 1 + m) i).set (o + i) y))).set b (.cells (((revC k o (i + 1 + m) i).set (o + i) y).set (o + m) x)) = H.set b (.cells (revC k o (i + 1 + m) (i + 1))) := by
        rw [List.set_set, List.set_set, revC_step him (by omega) x1 y1]
      simp (disch := (first | assumption | omega | (simp only [List.length_append, List.length_cons, List.length_nil]; omega))) only [↓wD,wU,Nat.reduceBEq,zx150,zx151,zx159,zx160,zx161,zx162,Nat.reduceAdd,Nat.reduceSub,Nat.reduceMul,Nat.reduceLeDiff,Nat.reduceLT,Nat.reduceEqDiff,Int.reduceAdd,Int.reduceSub,Int.reduceMul,Int.reduceNeg,Int.reduceLT,Int.reduceLE,Int.reduceEq,Int.reduceToNat,Int.cast_ofNat_Int,↓reduceIte, a0, a2, a3, i1, i2, ld_of gH, r1, r2, x2, x3, y2, y3, w1, w2, es]
      refine (ih (by omega)).go ?_
      simp (disch := (first | assumption | omega | (simp only [List.length_append, List.length_cons, List.length_nil]; omega))) only [↓wD,wU,Nat.reduceBEq,zx150,zx151,zx159,zx160,zx161,zx162,Nat.reduceAdd,Nat.reduceSub,Nat.reduceMul,Nat.reduceLeDiff,Nat.reduceLT,Nat.reduceEqDiff,Int.reduceAdd,Int.reduceSub,Int.reduceMul,Int.reduceNeg,Int.reduceLT,Int.reduceLE,Int.reduceEq,Int.reduceToNat,Int.cast_ofNat_Int,↓reduceIte, a0, a2, a3]
      refine ⟨?_, by omega⟩
      congr 1; omega
    · simp (disch := (first | assumption | omega | (simp only [List.length_append, List.length_cons, List.length_nil]; omega))) only [↓wD,wU,Nat.reduceBEq,zx150,zx151,zx159,zx160,zx161,zx162,Nat.reduceAdd,Nat.reduceSub,Nat.reduceMul,Nat.reduceLeDiff,Nat.reduceLT,Nat.reduceEqDiff,Int.reduceAdd,Int.reduceSub,Int.reduceMul,Int.reduceNeg,Int.reduceLT,Int.reduceLE,Int.reduceEq,Int.reduceToNat,Int.cast_ofNat_Int,↓reduceIte, a0, a2, a3]
      exact ⟨_, rfl, revC_len, fun j hj => revC_end (by omega) (by omega) hj⟩
  · simp (disch := (first | assumption | omega | (simp only [List.length_append, List.length_cons, List.length_nil]; omega))) only [↓wD,wU,Nat.reduceBEq,zx150,zx151,zx159,zx160,zx161,zx162,Nat.reduceAdd,Nat.reduceSub,Nat.reduceMul,Nat.reduceLeDiff,Nat.reduceLT,Nat.reduceEqDiff,Int.reduceAdd,Int.reduceSub,Int.reduceMul,Int.reduceNeg,Int.reduceLT,Int.reduceLE,Int.reduceEq,Int.reduceToNat,Int.cast_ofNat_Int,↓reduceIte]
    refine ⟨by simp, ?_⟩
    rw [revC_0]
    exact (List.ext_getElem? fun j => by
      by_cases e : b = j
      · subst e; rw [hb, get_set hb]
      · rw [List.getElem?_set_ne e])
theorem rev3_nil {lo : Nat} {H : Heap} : WpF E lo 68 [.nils] H fun _ H' => H' = H := by
  refine WpF.wrt rfl fn68 rfl ?_
  unfold f68A
  simp (disch := (first | assumption | omega | (simp only [List.length_append, List.length_cons, List.length_nil]; omega))) only [↓wD,wU,Nat.reduceBEq,zx150,zx151,zx159,zx160,zx161,zx162,Nat.reduceAdd,Nat.reduceSub,Nat.reduceMul,Nat.reduceLeDiff,Nat.reduceLT,Nat.reduceEqDiff,Int.reduceAdd,Int.reduceSub,Int.reduceMul,Int.reduceNeg,Int.reduceLT,Int.reduceLE,Int.reduceEq,Int.reduceToNat,Int.cast_ofNat_Int,↓reduceIte]
  refine Wp.for 0 (fun i a H' => a 2 = .i 0 ∧ a 3 = .i (-1) ∧ H' = H) ?_ ?_
  · rintro i a H' hi ⟨a2, a3, rfl⟩ ih
    simp (disch := (first | assumption | omega | (simp only [List.length_append, List.length_cons, List.length_nil]; omega))) only [↓wD,wU,Nat.reduceBEq,zx150,zx151,zx159,zx160,zx161,zx162,Nat.reduceAdd,Nat.reduceSub,Nat.reduceMul,Nat.reduceLeDiff,Nat.reduceLT,Nat.reduceEqDiff,Int.reduceAdd,Int.reduceSub,Int.reduceMul,Int.reduceNeg,Int.reduceLT,Int.reduceLE,Int.reduceEq,Int.reduceToNat,Int.cast_ofNat_Int,↓reduceIte, a2, a3]
  · simp (disch := (first | assumption | omega | (simp only [List.length_append, List.length_cons, List.length_nil]; omega))) only [↓wD,wU,Nat.reduceBEq,zx150,zx151,zx159,zx160,zx161,zx162,Nat.reduceAdd,Nat.reduceSub,Nat.reduceMul,Nat.reduceLeDiff,Nat.reduceLT,Nat.reduceEqDiff,Int.reduceAdd,Int.reduceSub,Int.reduceMul,Int.reduceNeg,Int.reduceLT,Int.reduceLE,Int.reduceEq,Int.reduceToNat,Int.cast_ofNat_Int,↓reduceIte]
/-- a slice of one-cell elements, turned over in place -/
theorem acc_rev {α : Type} [Rep α] (hsz : Rep.sz α = 1) {L lo f : Nat} {p : Nat → Prop} {H : Heap} {v : AV} {xs : List α} (h : Acc L p H v xs) (hlo : lo ≤ L) (hl : xs.length ≤ 1000000) {Q : AV → Heap → Prop}
    (hnil : v = .nils → WpF E lo f [.nils] H fun _ H' => H' = H)
    (hf : ∀ {b o n : Nat} {c : Option Nat} {k : List AV} {H : Heap}, H[b]? = some (.cells k) → lo ≤ b → o + n ≤ k.length → n ≤ 1000000 → (∀ j, j < n → ∃ x, k[o + j]? = some x ∧ x.cells = [x] ∧ x.one = true) →
      WpF E lo f [.s 1 b o n c] H fun _ H' => ∃ k', H' = H.set b (.cells k') ∧ k'.length = k.length ∧ ∀ j, j < n → k'[o + j]? = k[o + (n - 1 - j)]?)
    (go : ∀ w H', Kx (fun b => v.blk ≠ some b) H H' → Acc L p H' v xs.reverse → H'.length = H.length → Q w H') : WpF E lo f [v] H Q := by
  rcases h with ⟨rfl, rfl⟩ | ⟨b, o, c, k, rfl, hb, hk, h1, h2, h3⟩
  · exact (hnil rfl).mono fun w H' e => by subst e; exact go w _ (Kx.refl _ _) Acc.nil rfl
  · rw [hsz] at h1 h3
    rw [Nat.mul_one] at h1
    have hcell : ∀ j (hj : j < xs.length), ∃ x, k[o + j]? = some x ∧ Rep.rep (fun b' => p b' ∧ b' ≠ b) H [x] xs[j] := fun j hj => by
      have := h3 j hj
      rw [Nat.mul_one] at this
      have hlen := Rep.len this
      rw [hsz] at hlen
      obtain ⟨x, hx⟩ : ∃ x, (k.drop (o + j)).take 1 = [x] := by
        match h : (k.drop (o + j)).take 1, hlen with
        | [x], _ => exact ⟨x, rfl⟩
      rw [hx] at this
      exact ⟨x, take1 hx, this⟩
    have hone : ∀ j, j < xs.length → ∃ x, k[o + j]? = some x ∧ x.cells = [x] ∧ x.one = true := fun j hj => by
      obtain ⟨x, e, hr⟩ := hcell j hj
      have h1 := Rep.one hr
      simp only [List.all_cons, List.all_nil, Bool.and_true] at h1
      exact ⟨x, e, (by cases x <;> first | rfl | (cases h1; done)), h1⟩
    have := hf (c := c) hk (by omega) h1 hl hone
    have hsv : AV.s (Rep.sz α) b o xs.length c = .s 1 b o xs.length c := by rw [hsz]
    rw [hsv] at go ⊢
    refine this.mono ?_
    rintro w H' ⟨k', rfl, hk', hj⟩
    refine go w _ ((Kx.set b H _).weak fun b' _ h e => h (by simp [AV.blk, e])) (.inr ⟨b, o, c, k', by rw [hsz, List.length_reverse], hb, get_set hk, by rw [List.length_reverse, hsz]; omega, by rwa [List.length_reverse], fun i hi => ?_⟩) (by simp)
    have hi' : i < xs.length := by simpa using hi
    obtain ⟨x, e, hr⟩ := hcell (xs.length - 1 - i) (by omega)
    have e2 := hj i hi'
    rw [e] at e2
    have e3 : (k'.drop (o + i * 1)).take 1 = [x] := by rw [Nat.mul_one, List.take_one, List.head?_drop, e2]; rfl
    rw [hsz, e3, List.getElem_reverse]
    exact Rep.mono hr ((Kp.set b H _).weak fun b' h => h.2) fun _ h => h
/-- a list of tables of the call's own, as a result -/
structure LT where
  t : List Tab
def OwnL (p : Nat → Prop) (H : Heap) (u : AV) (xs : List Tab) : Prop :=
  (u = .nils ∧ xs = []) ∨ ∃ b o c k, u = .s 1 b o xs.length c ∧ p b ∧ H[b]? = some (.cells k) ∧ o + xs.length ≤ k.length ∧ xs.length ≤ 9223372036854775807 ∧ ∀ (i : Nat) (h : i < xs.length), Rep.rep (fun b' => p b' ∧ b' ≠ b) H ((k.drop (o + i)).take 1) xs[i]
instance : RV LT where
  rv p H w x := OwnL p H w x.t
  mono := by
    rintro p q H H' w x h hk hq
    rcases h with h | ⟨b, o, c, k, rfl, hb, hk1, h1, h2, h3⟩
    · exact .inl h
    · exact .inr ⟨b, o, c, k, rfl, hq b hb, hk.2 b k hb hk1, h1, h2, fun i hi => Rep.mono (h3 i hi) (hk.weak fun _ h => h.1) fun b h => ⟨hq b h.1, h.2⟩⟩
  pure := by
    rintro p q H H' w x h hp
    rcases h with h | ⟨b, o, c, k, rfl, _⟩
    · exact .inl h
    · simp [AV.pure] at hp
theorem OwnL.of {L : Nat} {p q : Nat → Prop} {H : Heap} {u : AV} {xs : List Tab} (h : Acc L p H u xs) (hL : ∀ b, L ≤ b → q b) (hp : ∀ b, p b → q b) : OwnL q H u xs := by
  rcases h with h | ⟨b, o, c, k, rfl, hb, hk1, h1, h2, h3⟩
  · exact .inl h
  · refine .inr ⟨b, o, c, k, rfl, hL b hb, hk1, by change o + xs.length * 1 ≤ _ at h1; omega, h2, fun i hi => ?_⟩
    have := h3 i hi
    change Rep.rep _ H ((k.drop (o + i * 1)).take 1) _ at this
    rw [Nat.mul_one] at this
    exact Rep.mono this (Kp.refl _ _) fun b h => ⟨hp b h.1, h.2⟩
theorem OwnL.acc {L : Nat} {q : Nat → Prop} {H : Heap} {u : AV} {xs : List Tab} (h : OwnL q H u xs) (hL : ∀ b, q b → L ≤ b) : Acc L q H u xs := by
  rcases h with h | ⟨b, o, c, k, rfl, hb, hk1, h1, h2, h3⟩
  · exact .inl h
  · refine .inr ⟨b, o, c, k, rfl, hL b hb, hk1, by change o + xs.length * 1 ≤ _; omega, h2, fun i hi => ?_⟩
    change Rep.rep _ H ((k.drop (o + i * 1)).take 1) _
    rw [Nat.mul_one]
    exact h3 i hi
/-- a growing list without its first -/
theorem acc_cut {L : Nat} {p : Nat → Prop} {H : Heap} {v : AV} {x : Tab} {xs : List Tab} (h : Acc L p H v (x :: xs)) : ∃ b o c, v = .s 1 b o (xs.length + 1) c ∧ Acc L p H (v.cut 1 (xs.length + 1)) xs ∧ (v.cut 1 (xs.length + 1)).blk = v.blk := by
  rcases h with ⟨_, h⟩ | ⟨b, o, c, k, rfl, hb, hk1, h1, h2, h3⟩
  · cases h
  · change o + (x :: xs).length * 1 ≤ k.length at h1
    simp only [List.length_cons] at h1 h2
    refine ⟨b, o, c, rfl, .inr ⟨b, o + 1, c.map (· - 1), k, ?_, hb, hk1, ?_, by omega, fun i hi => ?_⟩, rfl⟩
    · simp [AV.cut, Rep.sz]
    · change o + 1 + xs.length * 1 ≤ _; omega
    · have := h3 (i + 1) (by simpa using hi)
      change Rep.rep _ H ((k.drop (o + (i + 1) * 1)).take 1) _ at this
      change Rep.rep _ H ((k.drop (o + 1 + i * 1)).take 1) _
      rw [show o + 1 + i * 1 = o + (i + 1) * 1 by omega]
      simpa using this
/-- a table is put behind a growing list; all that is older stays -/
theorem pushX {L lo : Nat} {H9 H1 H2 : Heap} {u v1 : AV} {xs : List Tab} {t : Tab} {Q : AV × Heap → Prop} (hlo : lo ≤ L) (hu : Acc L (fun b => L ≤ b) H1 u xs) (hL : L = H9.length) (hg : Kx (fun _ => True) H9 H1) (hg2 : Kx (fun _ => True) H1 H2) (m : Sl (fun b => H1.length ≤ b) H2 v1 t) (hl : xs.length ≤ 100000)
    (go : ∀ u' H3, Acc L (fun b => L ≤ b) H3 u' (xs ++ [t]) → Kx (fun _ => True) H9 H3 → H2.length ≤ H3.length → Q (u', H3)) : @optP _ (appendV lo 1 24 u (.s 1 H2.length 0 1 (some 1)) (H2 ++ [.cells [v1]])) ⟨Q⟩ := by
  subst hL
  have hl1 := hg.1
  have hl2 := hg2.1
  have hu2 := hu.kp (p := fun _ => True) hg2.kp (fun _ _ => trivial) fun _ _ => trivial
  refine appX (hu2.pushL hlo (by omega) m (fun b hb => ⟨by omega, fun e => by have := hu.blk_lt e; omega⟩) (by omega) fun u' H3 hu' hk3 hl3' _ x3 => ?_)
  refine go u' H3 hu' ⟨by omega, fun b hb _ => ?_⟩ (by omega)
  rw [x3.2 b (by simp; omega) fun e => by have := (hu.blk_lt e).1; omega, List.getElem?_append_left (by omega), hg2.2 b (by omega) trivial, hg.2 b hb trivial]
end Go.Proofs.Ytflekaacffdakaa
namespace Go.AM
open Go
/-- code that simp does not look into -/
def Hide (c : ACode) : ACode := c
/-- behind n statements -/
def tl : Nat → ACode → ACode
  | 0, c => c
  | n + 1, .seq _ y => tl n y
  | _ + 1, c => c
/-- the same code, put away from behind n statements on -/
def ins : Nat → ACode → ACode
  | 0, c => Hide c
  | n + 1, .seq x y => .seq x (ins n y)
  | _ + 1, c => c
theorem ins_eq : ∀ (n : Nat) (c : ACode), ins n c = c
  | 0, _ => rfl
  | n + 1, c => by
    cases c with
    | seq x y => simp only [ins, ins_eq n y]
    | _ => rfl
end Go.AM
namespace Go.Proofs.Ytflekaacffdakaa
open Go Go.AM Go.Proofs
/-- a list of tables of the call's own of which something holds, as a result -/
structure PT where
  P : List Tab → Prop
instance : RV PT where
  rv p H w x := ∃ l, x.P l ∧ OwnL p H w l
  mono := by
    rintro p q H H' w x ⟨l, hl, h⟩ hk hq
    exact ⟨l, hl, RV.mono (α := LT) (x := ⟨l⟩) h hk hq⟩
  pure := by
    rintro p q H H' w x ⟨l, hl, h⟩ hp
    exact ⟨l, hl, RV.pure (α := LT) (x := ⟨l⟩) h hp⟩
def lf : ACode → ACode
  | .seq x _ => x
  | c => c
theorem path_body : f60A.body = .seq (lf f60A.body) (.seq (ins 4 (lf (tl 1 f60A.body))) .skip) := by
  rw [ins_eq]; rfl
theorem sq_ne {p : Nat → Prop} {H : Heap} {w : AV} {x : Tab} (h : Sl p H w x) (hx : TabOk x) : seqV true w .nils = some (.b true) := by
  rcases h with ⟨rfl, rfl⟩ | ⟨_, _, _, _, rfl, _⟩
  · have := hx.1; simp at this
  · rfl
theorem sq_nil : seqV true .nils .nils = some (.b false) := rfl
/-- what is known when the search ends -/
structure EndI (s t : Tab) (N : Nat) (K : Nat → Prop) (G : Heap) (c : Nat) (ents : List (List Int × AV)) (kn : Kn) : Prop where
  kb : ∀ b, K b → b < G.length
  mp : G[c]? = some (.map 9 ents)
  en : EntR K G ents kn
  par : ∀ e ∈ kn, ParOk s kn e
  kin : ∀ x ∈ keysK kn, Kin s x
  tk : t ∈ keysK kn
  hd : Dst s N t
theorem path_tail {H G : Heap} {u : AV} {s t : Tab} {N : Nat} {K : Nat → Prop} {ents : List (List Int × AV)} {kn : Kn} {a : Fr} (hx : Kx (fun _ => True) H G) (hu : Sl (fun b => b < H.length) G u t) (hN : N ≤ 16) (hI : EndI s t N K G H.length ents kn) (a1 : a 1 = u) (a6 : a 6 = .m H.length) :
    Wp E H.length none [.code (Hide (tl 4 (lf (tl 1 f60A.body)))), .code .skip] a G (RetQ [.t 4, .t 5] fun v H' => RV.rv (fun b => False ∨ H.length ≤ b) H' v (T2.mk (PT.mk fun l => PathP s t l ∧ l.length = N + 1) (0 : Int))) := by
  unfold f60A
  simp only [tl, lf, Hide]
  have hl0 := hx.1
  have hml := (List.getElem?_eq_some_iff.1 hI.mp).1
  simp (disch := (first | assumption | omega | (simp only [List.length_append, List.length_cons, List.length_nil]; omega))) only [↓wD,wU,Nat.reduceBEq,zx150,zx151,zx159,zx160,zx161,zx162,Nat.reduceAdd,Nat.reduceSub,Nat.reduceMul,Nat.reduceLeDiff,Nat.reduceLT,Nat.reduceEqDiff,Int.reduceAdd,Int.reduceSub,Int.reduceMul,Int.reduceNeg,Int.reduceLT,Int.reduceLE,Int.reduceEq,Int.reduceToNat,Int.cast_ofNat_Int,↓reduceIte, a1, a6]
  refine Wp.for (N + 1) (fun j a H' => ∃ o w R, a 6 = .m H.length ∧ a 12 = o ∧ a 13 = w ∧ Kx (fun _ => True) G H' ∧ Acc G.length (fun b => G.length ≤ b) H' o R.reverse ∧ R.length = j ∧ ((∃ x m, m + j = N ∧ Sl (fun b => b < G.length) H' w x ∧ x ∈ keysK kn ∧ UpI s t N m x R) ∨ (w = .nils ∧ PathP s t R ∧ R.length = N + 1))) ?_ ?_
  · clear a1 a6
    rintro j a H1 hj ⟨o, w, R, a6, a12, a13, hg, ho, hR, hc⟩ ih
    rcases hc with ⟨x, m, hm, hw, hxk, hU⟩ | ⟨rfl, hP, hl⟩
    · have hkx := hI.kin x hxk
      have hok := hkx.ok
      have sq := sq_ne hw hok
      have hlg := hg.1
      simp (disch := (first | assumption | omega | (simp only [List.length_append, List.length_cons, List.length_nil]; omega))) only [↓wD,wU,Nat.reduceBEq,zx150,zx151,zx159,zx160,zx161,zx162,Nat.reduceAdd,Nat.reduceSub,Nat.reduceMul,Nat.reduceLeDiff,Nat.reduceLT,Nat.reduceEqDiff,Int.reduceAdd,Int.reduceSub,Int.reduceMul,Int.reduceNeg,Int.reduceLT,Int.reduceLE,Int.reduceEq,Int.reduceToNat,Int.cast_ofNat_Int,↓reduceIte, a6, a12, a13, sq]
      refine (tclone_ret hw hok.ne (by have := hok.2.1; omega)).toX fun y H2 x12 hy => ?_
      have m0 : MT H1.length H2 y x := MT.of hy fun b hb => hb.elim (fun h => h.elim) id
      have msl := m0.sl
      have mV := msl.cellsV
      have hl12 := x12.1
      simp (disch := (first | assumption | omega | (simp only [List.length_append, List.length_cons, List.length_nil]; omega))) only [↓wD,wU,Nat.reduceBEq,zx150,zx151,zx159,zx160,zx161,zx162,Nat.reduceAdd,Nat.reduceSub,Nat.reduceMul,Nat.reduceLeDiff,Nat.reduceLT,Nat.reduceEqDiff,Int.reduceAdd,Int.reduceSub,Int.reduceMul,Int.reduceNeg,Int.reduceLT,Int.reduceLE,Int.reduceEq,Int.reduceToNat,Int.cast_ofNat_Int,↓reduceIte, a6, a12, a13, mV]
      refine pushX (L := G.length) hl0 ho rfl hg x12 msl (by rw [List.length_reverse]; omega) fun o' H3 ho' x3 hl23 => ?_
      have hl3 := x3.1
      have mp3 := x3.get (b := H.length) trivial hI.mp
      have en3 := hI.en.mono (x3.all K).kp (fun _ q => q)
      have w3 : Sl (fun b => b < G.length) H3 w x := hw.kp ⟨by omega, fun b k hb hk => by rw [x3.2 b hb trivial, ← hg.2 b hb trivial]; exact hk⟩
      have ke := key_ret w3 hok
      have lk := look_eq (z := .nils) (ok := false) mp3 (Nat.le_refl _) hok
      obtain ⟨e, p, f1, f2, f3⟩ := en3.yes hkx hI.kin hxk
      have mg : mapGet .nils false ents (keyL x) = e.2 := by simp [mapGet, f1]
      rw [mg] at lk
      have hpar := hI.par _ f2
      simp (disch := (first | assumption | omega | (simp only [List.length_append, List.length_cons, List.length_nil]; omega))) only [↓wD,wU,Nat.reduceBEq,zx150,zx151,zx159,zx160,zx161,zx162,Nat.reduceAdd,Nat.reduceSub,Nat.reduceMul,Nat.reduceLeDiff,Nat.reduceLT,Nat.reduceEqDiff,Int.reduceAdd,Int.reduceSub,Int.reduceMul,Int.reduceNeg,Int.reduceLT,Int.reduceLE,Int.reduceEq,Int.reduceToNat,Int.cast_ofNat_Int,↓reduceIte, a6, a12, a13, ke.call, lk]
      refine (ih (by omega)).go ⟨o', e.2, x :: R, ?_⟩
      have er : (x :: R).reverse = R.reverse ++ [x] := by simp
      rw [er]
      simp (disch := (first | assumption | omega | (simp only [List.length_append, List.length_cons, List.length_nil]; omega))) only [↓wD,wU,Nat.reduceBEq,zx150,zx151,zx159,zx160,zx161,zx162,Nat.reduceAdd,Nat.reduceSub,Nat.reduceMul,Nat.reduceLeDiff,Nat.reduceLT,Nat.reduceEqDiff,Int.reduceAdd,Int.reduceSub,Int.reduceMul,Int.reduceNeg,Int.reduceLT,Int.reduceLE,Int.reduceEq,Int.reduceToNat,Int.cast_ofNat_Int,↓reduceIte, a6, a12, a13]
      refine ⟨x3, ho', by simp [hR], ?_⟩
      cases p with
      | none =>
        have exs : x = s := hpar
        subst exs
        obtain rfl : m = 0 := hU.hd.uniq ⟨rfl, fun k hk => by omega⟩
        obtain ⟨e1, e2⟩ := hU.end
        exact .inr ⟨f3, e1, by simpa using e2⟩
      | some q =>
        obtain ⟨g1, g2, m', g3, g4⟩ := hpar
        obtain rfl : m = m' + 1 := hU.hd.uniq g4
        exact .inl ⟨q, m', by omega, (Sl.weak f3 hI.kb), g1, hU.step g3 g2⟩
    · have sq := sq_nil
      have hlg := hg.1
      simp (disch := (first | assumption | omega | (simp only [List.length_append, List.length_cons, List.length_nil]; omega))) only [↓wD,wU,Nat.reduceBEq,zx150,zx151,zx159,zx160,zx161,zx162,Nat.reduceAdd,Nat.reduceSub,Nat.reduceMul,Nat.reduceLeDiff,Nat.reduceLT,Nat.reduceEqDiff,Int.reduceAdd,Int.reduceSub,Int.reduceMul,Int.reduceNeg,Int.reduceLT,Int.reduceLE,Int.reduceEq,Int.reduceToNat,Int.cast_ofNat_Int,↓reduceIte, a6, a12, a13, sq]
      refine callI (acc_rev rfl (lo := H.length) ho hl0 (by rw [List.length_reverse]; omega) (fun _ => rev3_nil) rev3_raw ?_)
      intro _ H2 x12 ho2 _
      rw [List.reverse_reverse] at ho2
      simp (disch := (first | assumption | omega | (simp only [List.length_append, List.length_cons, List.length_nil]; omega))) only [↓wD,wU,Nat.reduceBEq,zx150,zx151,zx159,zx160,zx161,zx162,Nat.reduceAdd,Nat.reduceSub,Nat.reduceMul,Nat.reduceLeDiff,Nat.reduceLT,Nat.reduceEqDiff,Int.reduceAdd,Int.reduceSub,Int.reduceMul,Int.reduceNeg,Int.reduceLT,Int.reduceLE,Int.reduceEq,Int.reduceToNat,Int.cast_ofNat_Int,↓reduceIte, a6, a12, a13]
      exact rv_2 (α := PT) (β := Int) ⟨R, ⟨hP, hl⟩, OwnL.of ho2 (fun b hb => .inr (by omega)) fun b hb => .inr (by omega)⟩ rv_i
  · refine ⟨.nils, u, [], ?_⟩
    simp (disch := (first | assumption | omega | (simp only [List.length_append, List.length_cons, List.length_nil]; omega))) only [↓wD,wU,Nat.reduceBEq,zx150,zx151,zx159,zx160,zx161,zx162,Nat.reduceAdd,Nat.reduceSub,Nat.reduceMul,Nat.reduceLeDiff,Nat.reduceLT,Nat.reduceEqDiff,Int.reduceAdd,Int.reduceSub,Int.reduceMul,Int.reduceNeg,Int.reduceLT,Int.reduceLE,Int.reduceEq,Int.reduceToNat,Int.cast_ofNat_Int,↓reduceIte, a1, a6]
    exact ⟨Kx.refl _ _, Acc.nil, .inl ⟨t, N, by omega, hu.weak fun b hb => by omega, hI.tk, UpI.start hI.hd⟩⟩
end Go.Proofs.Ytflekaacffdakaa
namespace Go.Proofs.Ytflekaacffdakaa
open Go Go.AM Go.Proofs
theorem kx_set {H H1 : Heap} {b : Nat} {k : Blk} (h : Kx (fun _ => True) H H1) (hb : H.length ≤ b) : Kx (fun _ => True) H (H1.set b k) := ⟨by rw [List.length_set]; exact h.1, fun c hc _ => by rw [List.getElem?_set_ne (by omega)]; exact h.2 c hc trivial⟩
theorem kp_map {H : Heap} {b : Nat} {es es' : List (List Int × AV)} (P : Nat → Prop) (h : H[b]? = some (.map 9 es)) : Kp P H (H.set b (.map 9 es')) := ⟨by simp, fun c k _ hk => by
  have : b ≠ c := fun e => by subst e; rw [h] at hk; cases hk
  rw [List.getElem?_set_ne this]; exact hk⟩
theorem kx_low {H H1 H2 : Heap} {P : Nat → Prop} (h : Kx (fun _ => True) H H1) (h' : Kx P H1 H2) (hP : ∀ b, b < H.length → P b) : Kx (fun _ => True) H H2 := by
  have := h.1
  have := h'.1
  exact ⟨by omega, fun b hb _ => by rw [h'.2 b (by omega) (hP b hb), h.2 b hb trivial]⟩
/-- what holds within the search -/
structure SeI (s : Tab) (n : Nat) (A B : List Tab) (kn : Kn) (L : Nat) (K : Nat → Prop) (H : Heap) (lw : AV) (ents : List (List Int × AV)) : Prop where
  kb : ∀ b, K b → b < H.length
  km : K L
  mp : H[L]? = some (.map 9 ents)
  en : EntR K H ents kn
  lst : Two2 L K H lw .nils (A ++ B) []
  bi : BI s n A B kn
theorem SeI.few {s : Tab} {n : Nat} {A B : List Tab} {kn : Kn} {L : Nat} {K : Nat → Prop} {H : Heap} {lw : AV} {ents : List (List Int × AV)} (hs : TabOk s) (h : SeI s n A B kn L K H lw ents) : kn.length ≤ 83521 := by
  have := kin_few hs h.bi.nk (h.bi.kin hs)
  simpa [keysK] using this
theorem SeI.kx {s : Tab} {n : Nat} {A B : List Tab} {kn : Kn} {L : Nat} {K : Nat → Prop} {H H' : Heap} {lw : AV} {ents : List (List Int × AV)} (h : SeI s n A B kn L K H lw ents) (hx : Kx (fun _ => True) H H') : SeI s n A B kn L (fun b => K b ∨ (H.length ≤ b ∧ b < H'.length)) H' lw ents where
  kb := fun b q => q.elim (fun q => by have := h.kb b q; have := hx.1; omega) fun q => q.2
  km := .inl h.km
  mp := hx.get trivial h.mp
  en := h.en.mono (hx.all K).kp fun _ q => .inl q
  lst := h.lst.kx hx (fun _ q => .inl q) fun b hb q => q.resolve_right fun q => by omega
  bi := h.bi
theorem SeI.endI {s t : Tab} {N n : Nat} {A B : List Tab} {kn : Kn} {L : Nat} {K : Nat → Prop} {H : Heap} {lw : AV} {ents : List (List Int × AV)} (hs : TabOk s) (h : SeI s n A B kn L K H lw ents) (ht : t ∈ keysK kn) (hd : Dst s N t) : EndI s t N K H L ents kn :=
  ⟨h.kb, h.mp, h.en, h.bi.par, h.bi.kin hs, ht, hd⟩
theorem acc_get {L : Nat} {K : Nat → Prop} {H : Heap} {lw : AV} {xs : List Tab} (h : Acc L K H lw xs) {i : Nat} (hi : i < xs.length) : Sl K H (lw.get H (i : Int)) (gi xs (i : Int)) := by
  rcases h with ⟨rfl, rfl⟩ | ⟨b, o, c, k, rfl, hb, hk, h1, h2, h3⟩
  · simp at hi
  · obtain ⟨w, e, hw⟩ := h3 i hi
    change (k.drop (o + i * 1)).take 1 = [w] at e
    have e2 := take1 e
    have eg : AV.get H (.s (Rep.sz Tab) b o xs.length c) (i : Int) = w := by
      change (ld H b (o + i * 1)).getD .un = w
      simp only [ld, hk, e2]; rfl
    rw [eg, gi_nat hi]
    exact hw.weak fun b q => q.1
theorem path_ret {p q : Nat → Prop} {H : Heap} {v u : AV} {s t : Tab} {N : Nat} (hs : Sl p H v s) (ht : Sl q H u t) (h1 : TabOk s) (h2 : TabOk t) (hd : Dst s N t) (hN : N ≤ 16) : Ret E 60 [v, u] (fun _ => False) H (T2.mk (PT.mk fun l => PathP s t l ∧ l.length = N + 1) (0 : Int)) := by
  refine Ret.ro rfl fn60 rfl ?_
  have tail := fun {G : Heap} {K : Nat → Prop} {ents : List (List Int × AV)} {kn : Kn} {a : Fr} => @path_tail H G u s t N K ents kn a
  generalize eQ : (RetQ f60A.res fun v H' => RV.rv (fun b => False ∨ H.length ≤ b) H' v (T2.mk (PT.mk fun l => PathP s t l ∧ l.length = N + 1) (0 : Int))) = QQ
  have eQ' : (RetQ [.t 4, .t 5] fun v H' => RV.rv (fun b => False ∨ H.length ≤ b) H' v (T2.mk (PT.mk fun l => PathP s t l ∧ l.length = N + 1) (0 : Int))) = QQ := eQ
  rw [eQ'] at tail
  clear eQ eQ'
  rw [path_body]
  unfold f60A at tail ⊢
  simp only [tl, ins, lf] at tail ⊢
  generalize Hide _ = T at tail ⊢
  have hkin := hd.1.kin h1
  have v1 := valid_ret hs
  have v2 := valid_ret ht
  rw [decide_eq_true h1] at v1
  rw [decide_eq_true h2] at v2
  have bt := both_ret hs ht h1 h2
  rw [decide_eq_true ((akin_kin h2).2 hkin)] at bt
  have sc := hs.cellsV
  replace hs : Sl (fun b => b < H.length) H v s := hs.low.weak fun _ h => h.2
  replace ht : Sl (fun b => b < H.length) H u t := ht.low.weak fun _ h => h.2
  have ke0 := key_ret (hs.app [.map 9 []]) h1
  have st0 : msetV H.length 9 (.m H.length) (.ag ((keyL s).map AV.i)) .nils (H ++ [Blk.map 9 []]) = some (H ++ [Blk.map 9 [(keyL s, .nils)]]) := by
    rw [set_eq (es := []) get_last (Nat.le_refl _) h1 rfl]
    congr 1
    rw [List.set_append_right _ _ (Nat.le_refl _)]
    simp
  simp (disch := (first | assumption | omega | (simp only [List.length_append, List.length_cons, List.length_nil]; omega))) only [↓wD,wU,Nat.reduceBEq,zx150,zx151,zx159,zx160,zx161,zx162,Nat.reduceAdd,Nat.reduceSub,Nat.reduceMul,Nat.reduceLeDiff,Nat.reduceLT,Nat.reduceEqDiff,Int.reduceAdd,Int.reduceSub,Int.reduceMul,Int.reduceNeg,Int.reduceLT,Int.reduceLE,Int.reduceEq,Int.reduceToNat,Int.cast_ofNat_Int,↓reduceIte, v1.call, v2.call, bt.call, ke0.call, st0, sc]
  refine Wp.dec (fun d a H' => ∃ K lw kn ents n A B, a 0 = v ∧ a 1 = u ∧ a 6 = .m H.length ∧ a 7 = lw ∧ Kx (fun _ => True) H H' ∧ SeI s n A B kn H.length K H' lw ents ∧ (s ≠ t → t ∉ keysK kn) ∧ kn.length + d = 83521 + (A ++ B).length ∧ (A ++ B).length ≤ kn.length) 83521 ?_ ?_
  · clear v1 v2 bt ke0 st0 sc
    rintro d a H1 ⟨K, lw, kn, ents, n, A, B, a0, a1, a6, a7, hx, hS, hk, hdd, hq⟩ ih
    have hs1 := hs.kp (hx.all _).kp
    have ht1 := ht.kp (hx.all _).kp
    have cm := cmp_tab hs1 ht1
    have e0 : decide (¬ cmpT s t = 0) = decide (¬ s = t) := decide_eq_decide.2 (not_congr cmpT_eq)
    by_cases est : s = t
    · rw [decide_eq_false (p := ¬ s = t) (fun q => q est)] at e0
      simp (disch := (first | assumption | omega | (simp only [List.length_append, List.length_cons, List.length_nil]; omega))) only [↓wD,wU,Nat.reduceBEq,zx150,zx151,zx159,zx160,zx161,zx162,Nat.reduceAdd,Nat.reduceSub,Nat.reduceMul,Nat.reduceLeDiff,Nat.reduceLT,Nat.reduceEqDiff,Int.reduceAdd,Int.reduceSub,Int.reduceMul,Int.reduceNeg,Int.reduceLT,Int.reduceLE,Int.reduceEq,Int.reduceToNat,Int.cast_ofNat_Int,↓reduceIte, a0, a1, a6, a7, cm.call, e0]
      refine tail (K := K) (ents := ents) (kn := kn) hx ht1 hN (hS.endI h1 (est ▸ hS.bi.known 0 s (Nat.zero_le _) rfl) hd) ?_ ?_
      · simp (disch := (first | assumption | omega | (simp only [List.length_append, List.length_cons, List.length_nil]; omega))) only [↓wD,wU,Nat.reduceBEq,zx150,zx151,zx159,zx160,zx161,zx162,Nat.reduceAdd,Nat.reduceSub,Nat.reduceMul,Nat.reduceLeDiff,Nat.reduceLT,Nat.reduceEqDiff,Int.reduceAdd,Int.reduceSub,Int.reduceMul,Int.reduceNeg,Int.reduceLT,Int.reduceLE,Int.reduceEq,Int.reduceToNat,Int.cast_ofNat_Int,↓reduceIte, a1]
      · simp (disch := (first | assumption | omega | (simp only [List.length_append, List.length_cons, List.length_nil]; omega))) only [↓wD,wU,Nat.reduceBEq,zx150,zx151,zx159,zx160,zx161,zx162,Nat.reduceAdd,Nat.reduceSub,Nat.reduceMul,Nat.reduceLeDiff,Nat.reduceLT,Nat.reduceEqDiff,Int.reduceAdd,Int.reduceSub,Int.reduceMul,Int.reduceNeg,Int.reduceLT,Int.reduceLE,Int.reduceEq,Int.reduceToNat,Int.cast_ofNat_Int,↓reduceIte, a6]
    rw [decide_eq_true est] at e0
    have hnt := hk est
    obtain ⟨n', u0, A', B', eAB, hbi⟩ := hS.bi.head h1 hkin hnt
    have hS2 : SeI s n' (u0 :: A') B' kn H.length K H1 lw ents := ⟨hS.kb, hS.km, hS.mp, hS.en, by have := hS.lst; rw [eAB] at this; exact this, hbi⟩
    rw [eAB] at hdd hq
    simp only [List.length_append, List.length_cons] at hdd hq
    clear hS hk eAB hbi
    have hsl := hS2.lst.hu.sl
    have hu0 := (hS2.bi.hA u0 (by simp)).1.kin h1
    have g0 := acc_get hS2.lst.hu (i := 0) (by simp)
    have eg0 : gi (u0 :: A' ++ B') ((0 : Nat) : Int) = u0 := rfl
    rw [eg0] at g0
    have hslL := hsl.L
    simp (disch := (first | assumption | omega | (simp only [List.length_append, List.length_cons, List.length_nil]; omega))) only [↓wD,wU,Nat.reduceBEq,zx150,zx151,zx159,zx160,zx161,zx162,Nat.reduceAdd,Nat.reduceSub,Nat.reduceMul,Nat.reduceLeDiff,Nat.reduceLT,Nat.reduceEqDiff,Int.reduceAdd,Int.reduceSub,Int.reduceMul,Int.reduceNeg,Int.reduceLT,Int.reduceLE,Int.reduceEq,Int.reduceToNat,Int.cast_ofNat_Int,↓reduceIte, a0, a1, a6, a7, cm.call, e0, hslL]
    refine (near_ret g0 hu0.ok).toX fun z H2 x12 hz => ?_
    have hS3 := hS2.kx x12
    have hl12 := x12.1
    have hz3 : Sl (fun b => K b ∨ (H1.length ≤ b ∧ b < H2.length)) H2 z (nearL u0) := hz.low.weak fun b q => .inr ⟨q.1.elim (fun q => q.elim) id, q.2⟩
    have x2 := hx.trans x12 fun _ _ q => q
    have nkin : ∀ y ∈ nearL u0, Kin s y := fun y hy => hu0.trans (near_kin hu0.ok hy)
    obtain ⟨ns, ens⟩ : ∃ ns, nearL u0 = ns := ⟨_, rfl⟩
    have nmem : ∀ k : Nat, k < ns.length → gi ns (k : Int) ∈ nearL u0 := fun k hk => by rw [ens]; exact mem_gi hk
    have hallN : ∀ kn' : Kn, (∀ y ∈ ns, y ∈ keysK kn') → ∀ y ∈ nearL u0, y ∈ keysK kn' := fun kn' h => by rw [ens]; exact h
    rw [ens] at hz3 nkin
    clear hz ens hsl hslL g0 cm e0 hs1 ht1 hS2 eg0
    generalize (fun b => K b ∨ (H1.length ≤ b ∧ b < H2.length)) = K3 at hS3 hz3
    have nb := hz3.bound
    have zL := hz3.lenV
    simp (disch := (first | assumption | omega | (simp only [List.length_append, List.length_cons, List.length_nil]; omega))) only [↓wD,wU,Nat.reduceBEq,zx150,zx151,zx159,zx160,zx161,zx162,Nat.reduceAdd,Nat.reduceSub,Nat.reduceMul,Nat.reduceLeDiff,Nat.reduceLT,Nat.reduceEqDiff,Int.reduceAdd,Int.reduceSub,Int.reduceMul,Int.reduceNeg,Int.reduceLT,Int.reduceLE,Int.reduceEq,Int.reduceToNat,Int.cast_ofNat_Int,↓reduceIte, a0, a1, a6, a7, zL]
    refine Wp.for ns.length (fun k a H' => ∃ K lw kn' ents B2, a 0 = v ∧ a 1 = u ∧ a 6 = .m H.length ∧ a 7 = lw ∧ a 43 = z ∧ a 44 = .i ns.length ∧ a 45 = .i k ∧ Kx (fun _ => True) H H' ∧ SeI s n' (u0 :: A') B2 kn' H.length K H' lw ents ∧ Sl K H' z ns ∧ t ∉ keysK kn' ∧ (∀ y ∈ ns.take k, y ∈ keysK kn') ∧ kn'.length + B'.length = kn.length + B2.length) ?_ ?_
    · clear a0 a1 a6 a7 hS3 hz3 zL x2 hx
      rintro k a H3 hk ⟨K, lw, kn', ents, B2, a0, a1, a6, a7, a43, a44, a45, hx, hS, hz, hnt, hall, hlen⟩ ih2
      simp (disch := (first | assumption | omega | (simp only [List.length_append, List.length_cons, List.length_nil]; omega))) only [↓wD,wU,Nat.reduceBEq,zx150,zx151,zx159,zx160,zx161,zx162,Nat.reduceAdd,Nat.reduceSub,Nat.reduceMul,Nat.reduceLeDiff,Nat.reduceLT,Nat.reduceEqDiff,Int.reduceAdd,Int.reduceSub,Int.reduceMul,Int.reduceNeg,Int.reduceLT,Int.reduceLE,Int.reduceEq,Int.reduceToNat,Int.cast_ofNat_Int,↓reduceIte, a0, a1, a6, a7, a43, a44, a45]
      refine condP_split (fun hlt => ?_) (fun hlt => ?_)
      · have hk' : k < ns.length := by omega
        have gz := hz.get (k := (k : Int)) (by omega) (by omega)
        have hkx := nkin _ (mem_gi hk')
        have i0 : iaddrV 1 z (.i (k : Int)) = some (z.at 1 (k : Int)) := hz.iaddr (by omega) (by omega)
        obtain ⟨y, ey⟩ : ∃ y, z.get H3 (k : Int) = y := ⟨_, rfl⟩
        have i1 : ldA H3 none (z.at 1 (k : Int)) = some y := by rw [← ey]; exact (hz.ld_get (k := (k : Int)) (by omega) (by omega)).1
        rw [ey] at gz
        have ke := key_ret gz hkx.ok
        have xk := nmem k hk'
        obtain ⟨x, ex⟩ : ∃ x, gi ns (k : Int) = x := ⟨_, rfl⟩
        have etk : ns.take (k + 1) = ns.take k ++ [x] := by rw [take_gi hk', ex]
        rw [ex] at gz hkx ke xk
        have lk := look_eq (z := .nils) (ok := true) hS.mp (Nat.le_refl _) hkx.ok
        by_cases hm : x ∈ keysK kn'
        · obtain ⟨e, p, f1, f2, f3⟩ := hS.en.yes hkx (hS.bi.kin h1) hm
          have mg : mapGet .nils true ents (keyL x) = .tp [e.2, .b true] := by simp [mapGet, f1]
          rw [mg] at lk
          simp (disch := (first | assumption | omega | (simp only [List.length_append, List.length_cons, List.length_nil]; omega))) only [↓wD,wU,Nat.reduceBEq,zx150,zx151,zx159,zx160,zx161,zx162,Nat.reduceAdd,Nat.reduceSub,Nat.reduceMul,Nat.reduceLeDiff,Nat.reduceLT,Nat.reduceEqDiff,Int.reduceAdd,Int.reduceSub,Int.reduceMul,Int.reduceNeg,Int.reduceLT,Int.reduceLE,Int.reduceEq,Int.reduceToNat,Int.cast_ofNat_Int,↓reduceIte, a0, a1, a6, a7, a43, a44, a45, i0, i1, ke.call, lk]
          refine (ih2 hk').go ⟨K, lw, kn', ents, B2, ?_⟩
          rw [etk]
          simp (disch := (first | assumption | omega | (simp only [List.length_append, List.length_cons, List.length_nil]; omega))) only [↓wD,wU,Nat.reduceBEq,zx150,zx151,zx159,zx160,zx161,zx162,Nat.reduceAdd,Nat.reduceSub,Nat.reduceMul,Nat.reduceLeDiff,Nat.reduceLT,Nat.reduceEqDiff,Int.reduceAdd,Int.reduceSub,Int.reduceMul,Int.reduceNeg,Int.reduceLT,Int.reduceLE,Int.reduceEq,Int.reduceToNat,Int.cast_ofNat_Int,↓reduceIte, a0, a1, a6, a7, a43, a44, a45]
          refine ⟨hx, hS, hz, hnt, fun y hy => ?_, hlen⟩
          rcases List.mem_append.1 hy with q | q
          · exact hall y q
          · simp at q; subst q; exact hm
        · have fn := hS.en.no hkx (hS.bi.kin h1) hm
          have mg : mapGet .nils true ents (keyL x) = .tp [.nils, .b false] := by simp [mapGet, fn]
          rw [mg] at lk
          have hsl := hS.lst.hu.sl
          have g0 := acc_get hS.lst.hu (i := 0) (by simp)
          have eg0 : gi (u0 :: A' ++ B2) ((0 : Nat) : Int) = u0 := rfl
          rw [eg0] at g0
          have j0 : iaddrV 1 lw (.i 0) = some (lw.at 1 0) := hsl.iaddr (k := 0) (by omega) (by simp; omega)
          obtain ⟨y0, ey0⟩ : ∃ y0, lw.get H3 ((0 : Nat) : Int) = y0 := ⟨_, rfl⟩
          have j1 : ldA H3 none (lw.at 1 0) = some y0 := by rw [← ey0]; exact (hsl.ld_get (k := (0 : Int)) (by omega) (by simp; omega)).1
          rw [ey0] at g0
          have sE := set_eq (v := y0) hS.mp (Nat.le_refl _) hkx.ok fn
          have kpm := kp_map (es' := ents ++ [(keyL x, y0)]) K hS.mp
          have x4 := kx_set (k := Blk.map 9 (ents ++ [(keyL x, y0)])) hx (Nat.le_refl _)
          have mp4 := get_set (k := Blk.map 9 (ents ++ [(keyL x, y0)])) hS.mp
          have l4 : (H3.set H.length (Blk.map 9 (ents ++ [(keyL x, y0)]))).length = H3.length := by simp
          have bi4 := hS.bi.add xk hm
          have lst4 : Two2 H.length K (H3.set H.length (Blk.map 9 (ents ++ [(keyL x, y0)]))) lw .nils (u0 :: A' ++ B2) [] := ⟨hS.lst.hu.kp (kp_map (es' := ents ++ [(keyL x, y0)]) (fun _ => True) hS.mp) (fun _ _ => trivial) fun _ _ => trivial, Acc.nil, hS.lst.uK, hS.lst.wK, hS.lst.uw⟩
          have en4 : EntR K (H3.set H.length (Blk.map 9 (ents ++ [(keyL x, y0)]))) (ents ++ [(keyL x, y0)]) (kn' ++ [(x, some u0)]) := EntR.push (p := some u0) (Sl.kp g0 kpm) (hS.en.mono kpm fun _ q => q)
          have gz4 := gz.kp kpm
          have hz4 := hz.kp kpm
          have ht4 := ht.kp (x4.all _).kp
          have cm4 := cmp_tab gz4 ht4
          have e4 : decide (cmpT x t = 0) = decide (x = t) := decide_eq_decide.2 cmpT_eq
          have few4 : (kn' ++ [(x, some u0)]).length ≤ 83521 := by
            have := kin_few h1 bi4.nk (bi4.kin h1)
            simpa [keysK] using this
          have lfew : (u0 :: A' ++ B2).length ≤ 100000 := by
            simp only [List.length_append, List.length_cons, List.length_nil] at few4 ⊢
            omega
          by_cases ext : x = t
          · rw [decide_eq_true ext] at e4
            simp (disch := (first | assumption | omega | (simp only [List.length_append, List.length_cons, List.length_nil]; omega))) only [↓wD,wU,Nat.reduceBEq,zx150,zx151,zx159,zx160,zx161,zx162,Nat.reduceAdd,Nat.reduceSub,Nat.reduceMul,Nat.reduceLeDiff,Nat.reduceLT,Nat.reduceEqDiff,Int.reduceAdd,Int.reduceSub,Int.reduceMul,Int.reduceNeg,Int.reduceLT,Int.reduceLE,Int.reduceEq,Int.reduceToNat,Int.cast_ofNat_Int,↓reduceIte, a0, a1, a6, a7, a43, a44, a45, i0, i1, ke.call, lk, j0, j1, sE, cm4.call, e4]
            refine tail (K := K) (ents := ents ++ [(keyL x, y0)]) (kn := kn' ++ [(x, some u0)]) x4 ht4 hN ⟨fun b q => by rw [l4]; exact hS.kb b q, mp4, en4, bi4.par, bi4.kin h1, by rw [keys_app, ext]; simp, hd⟩ ?_ ?_
            · simp (disch := (first | assumption | omega | (simp only [List.length_append, List.length_cons, List.length_nil]; omega))) only [↓wD,wU,Nat.reduceBEq,zx150,zx151,zx159,zx160,zx161,zx162,Nat.reduceAdd,Nat.reduceSub,Nat.reduceMul,Nat.reduceLeDiff,Nat.reduceLT,Nat.reduceEqDiff,Int.reduceAdd,Int.reduceSub,Int.reduceMul,Int.reduceNeg,Int.reduceLT,Int.reduceLE,Int.reduceEq,Int.reduceToNat,Int.cast_ofNat_Int,↓reduceIte, a1]
            · simp (disch := (first | assumption | omega | (simp only [List.length_append, List.length_cons, List.length_nil]; omega))) only [↓wD,wU,Nat.reduceBEq,zx150,zx151,zx159,zx160,zx161,zx162,Nat.reduceAdd,Nat.reduceSub,Nat.reduceMul,Nat.reduceLeDiff,Nat.reduceLT,Nat.reduceEqDiff,Int.reduceAdd,Int.reduceSub,Int.reduceMul,Int.reduceNeg,Int.reduceLT,Int.reduceLE,Int.reduceEq,Int.reduceToNat,Int.cast_ofNat_Int,↓reduceIte, a6]
          rw [decide_eq_false ext] at e4
          have gzV := gz4.cellsV
          have hl4 := x4.1
          simp (disch := (first | assumption | omega | (simp only [List.length_append, List.length_cons, List.length_nil]; omega))) only [↓wD,wU,Nat.reduceBEq,zx150,zx151,zx159,zx160,zx161,zx162,Nat.reduceAdd,Nat.reduceSub,Nat.reduceMul,Nat.reduceLeDiff,Nat.reduceLT,Nat.reduceEqDiff,Int.reduceAdd,Int.reduceSub,Int.reduceMul,Int.reduceNeg,Int.reduceLT,Int.reduceLE,Int.reduceEq,Int.reduceToNat,Int.cast_ofNat_Int,↓reduceIte, a0, a1, a6, a7, a43, a44, a45, i0, i1, ke.call, lk, j0, j1, sE, cm4.call, e4, gzV]
          generalize H3.set H.length (Blk.map 9 (ents ++ [(keyL x, y0)])) = H4 at *
          refine lst4.push (Nat.le_refl _) hl4 (fun b q => by have := hS.kb b q; omega) gz4 lfew fun lw' H5 lst5 x45 l45 => ?_
          have k45 : Kx K H4 H5 := x45.weak (q := K) fun b _ q e => hS.lst.uK b e q
          simp (disch := (first | assumption | omega | (simp only [List.length_append, List.length_cons, List.length_nil]; omega))) only [↓wD,wU,Nat.reduceBEq,zx150,zx151,zx159,zx160,zx161,zx162,Nat.reduceAdd,Nat.reduceSub,Nat.reduceMul,Nat.reduceLeDiff,Nat.reduceLT,Nat.reduceEqDiff,Int.reduceAdd,Int.reduceSub,Int.reduceMul,Int.reduceNeg,Int.reduceLT,Int.reduceLE,Int.reduceEq,Int.reduceToNat,Int.cast_ofNat_Int,↓reduceIte, a0, a1, a6, a7, a43, a44, a45]
          refine (ih2 hk').go ⟨K, lw', kn' ++ [(x, some u0)], ents ++ [(keyL x, y0)], B2 ++ [x], ?_⟩
          rw [etk]
          simp (disch := (first | assumption | omega | (simp only [List.length_append, List.length_cons, List.length_nil]; omega))) only [↓wD,wU,Nat.reduceBEq,zx150,zx151,zx159,zx160,zx161,zx162,Nat.reduceAdd,Nat.reduceSub,Nat.reduceMul,Nat.reduceLeDiff,Nat.reduceLT,Nat.reduceEqDiff,Int.reduceAdd,Int.reduceSub,Int.reduceMul,Int.reduceNeg,Int.reduceLT,Int.reduceLE,Int.reduceEq,Int.reduceToNat,Int.cast_ofNat_Int,↓reduceIte, a0, a1, a6, a7, a43, a44, a45]
          refine ⟨kx_low x4 x45 fun b hb e => by have := (hS.lst.hu.blk_lt e).1; omega, ⟨fun b q => by have := hS.kb b q; omega, hS.km, k45.get hS.km mp4, en4.mono k45.kp fun _ q => q, by rw [← List.append_assoc]; exact lst5, bi4⟩, hz4.kp k45.kp, fun q => ?_, fun y hy => ?_, by first | omega | (simp; omega)⟩
          · rw [keys_app] at q
            rcases List.mem_append.1 q with q | q
            · exact hnt q
            · simp at q; exact ext q.symm
          · rw [keys_app]
            rcases List.mem_append.1 hy with q | q
            · exact List.mem_append_left _ (hall y q)
            · exact List.mem_append_right _ q
      · obtain rfl : k = ns.length := by omega
        rw [List.take_length] at hall
        have hsl := hS.lst.hu.sl
        obtain ⟨b, o, c, elw, hcut, hblk⟩ := acc_cut hS.lst.hu
        replace hcut : Acc H.length K H3 (lw.cut 1 ((A' ++ B2).length + 1)) (A' ++ B2) := hcut
        replace hblk : (lw.cut 1 ((A' ++ B2).length + 1)).blk = lw.blk := hblk
        have sl : slV 1 lw (some (.i 1)) none none = some (lw.cut 1 ((A' ++ B2).length + 1)) := hsl.slV_lh (some (.i 1)) none (bound_none (Nat.le_refl _)) (by rw [bound_some (by omega) (by simp; omega)]; rfl) (by omega) (Nat.le_refl _)
        have few := hS.few h1
        generalize lw.cut 1 ((A' ++ B2).length + 1) = w2 at hcut hblk sl
        have lenq : (u0 :: A' ++ B').length = (A' ++ B').length + 1 := rfl
        simp (disch := (first | assumption | omega | (simp only [List.length_append, List.length_cons, List.length_nil]; omega))) only [↓wD,wU,Nat.reduceBEq,zx150,zx151,zx159,zx160,zx161,zx162,Nat.reduceAdd,Nat.reduceSub,Nat.reduceMul,Nat.reduceLeDiff,Nat.reduceLT,Nat.reduceEqDiff,Int.reduceAdd,Int.reduceSub,Int.reduceMul,Int.reduceNeg,Int.reduceLT,Int.reduceLE,Int.reduceEq,Int.reduceToNat,Int.cast_ofNat_Int,↓reduceIte, a0, a1, a6, a7, a43, a44, a45, sl]
        refine ih.go ⟨83521 + (A' ++ B2).length - kn'.length, ?_, K, w2, kn', ents, n', A', B2, ?_⟩
        · simp only [List.length_append]
          omega
        · simp (disch := (first | assumption | omega | (simp only [List.length_append, List.length_cons, List.length_nil]; omega))) only [↓wD,wU,Nat.reduceBEq,zx150,zx151,zx159,zx160,zx161,zx162,Nat.reduceAdd,Nat.reduceSub,Nat.reduceMul,Nat.reduceLeDiff,Nat.reduceLT,Nat.reduceEqDiff,Int.reduceAdd,Int.reduceSub,Int.reduceMul,Int.reduceNeg,Int.reduceLT,Int.reduceLE,Int.reduceEq,Int.reduceToNat,Int.cast_ofNat_Int,↓reduceIte, a0, a1, a6, a7]
          refine ⟨hx, ⟨hS.kb, hS.km, hS.mp, hS.en, ⟨hcut, Acc.nil, fun b e => hS.lst.uK b (by rw [← hblk]; exact e), (fun b e => by cases e), fun b _ e => by cases e⟩, hS.bi.pop (hallN kn' hall)⟩, fun _ => hnt, by first | omega | (simp only [List.length_append]; omega), by first | omega | (simp only [List.length_append]; omega)⟩
    · refine ⟨K3, lw, kn, ents, B', ?_⟩
      simp (disch := (first | assumption | omega | (simp only [List.length_append, List.length_cons, List.length_nil]; omega))) only [↓wD,wU,Nat.reduceBEq,zx150,zx151,zx159,zx160,zx161,zx162,Nat.reduceAdd,Nat.reduceSub,Nat.reduceMul,Nat.reduceLeDiff,Nat.reduceLT,Nat.reduceEqDiff,Int.reduceAdd,Int.reduceSub,Int.reduceMul,Int.reduceNeg,Int.reduceLT,Int.reduceLE,Int.reduceEq,Int.reduceToNat,Int.cast_ofNat_Int,↓reduceIte, a0, a1, a6, a7]
      exact ⟨x2, hS3, hz3, hnt, fun y hy => by simp at hy⟩
  · refine ⟨fun b => b ≤ H.length, .s 1 (H.length + 1) 0 1 (some 1), [(s, none)], [(keyL s, .nils)], 0, [s], [], ?_⟩
    have q1 : Sl (fun b => b ≤ H.length) (H ++ [Blk.map 9 [(keyL s, .nils)]] ++ [Blk.cells [v]]) v s := ((hs.app _).app _).weak fun b q => Nat.le_of_lt q
    have b1 : (H ++ [Blk.map 9 [(keyL s, .nils)]] ++ [Blk.cells [v]])[H.length]? = some (.map 9 [(keyL s, .nils)]) := by rw [List.getElem?_append_left (by simp)]; exact get_last
    have b2 : (H ++ [Blk.map 9 [(keyL s, .nils)]] ++ [Blk.cells [v]])[H.length + 1]? = some (.cells [v]) := by rw [List.getElem?_append_right (by simp)]; simp
    have x1 : Kx (fun _ => True) H (H ++ [Blk.map 9 [(keyL s, .nils)]] ++ [Blk.cells [v]]) := (Kx.app (fun _ => True) H _).trans (Kx.app (fun _ => True) _ _) fun _ _ q => q
    have l1 : (H ++ [Blk.map 9 [(keyL s, .nils)]] ++ [Blk.cells [v]]).length = H.length + 2 := by simp
    simp (disch := (first | assumption | omega | (simp only [List.length_append, List.length_cons, List.length_nil]; omega))) only [↓wD,wU,Nat.reduceBEq,zx150,zx151,zx159,zx160,zx161,zx162,Nat.reduceAdd,Nat.reduceSub,Nat.reduceMul,Nat.reduceLeDiff,Nat.reduceLT,Nat.reduceEqDiff,Int.reduceAdd,Int.reduceSub,Int.reduceMul,Int.reduceNeg,Int.reduceLT,Int.reduceLE,Int.reduceEq,Int.reduceToNat,Int.cast_ofNat_Int,↓reduceIte, sc]
    refine ⟨x1, ⟨fun b q => by rw [l1]; omega, Nat.le_refl _, b1, ⟨⟨rfl, rfl⟩, trivial⟩, ⟨one_acc q1 b2 (by omega) (by omega), Acc.nil, fun b e q => ?_, (fun b e => by cases e), fun b _ e => by cases e⟩, BI.zero⟩, fun hne q => ?_⟩
    · cases e
      omega
    · simp [keysK] at q
      exact hne q.symm
end Go.Proofs.Ytflekaacffdakaa
namespace Go.Proofs.Ytflekaacffdakaa
open Go Go.AM Go.Proofs
theorem indexU_ret {p : Nat → Prop} {H : Heap} {v : AV} {xs : List Tab} {f : Nat} {caps : List AV} {P : Tab → Bool} (hx : Sl p H v xs) (hP : ∀ (y : AV) (x : Tab), Sl p H y x → RetP E f ([y] ++ caps) H (.b (P x))) :
    RetP E 98 [v, .fn f [] caps] H (.i (findP P xs 0)) := by
  refine RetP.ro rfl fn98 rfl rfl ?_
  unfold f98A
  have hb := hx.bound
  obtain ⟨r, er⟩ : ∃ r, findP P xs 0 = r := ⟨_, rfl⟩
  rw [er]
  simp (disch := (first | assumption | omega | (simp only [List.length_append, List.length_cons, List.length_nil]; omega))) only [↓wD,wU,Nat.reduceBEq,zx150,zx151,zx159,zx160,zx161,zx162,Nat.reduceAdd,Nat.reduceSub,Nat.reduceMul,Nat.reduceLeDiff,Nat.reduceLT,Nat.reduceEqDiff,Int.reduceAdd,Int.reduceSub,Int.reduceMul,Int.reduceNeg,Int.reduceLT,Int.reduceLE,Int.reduceEq,Int.reduceToNat,Int.cast_ofNat_Int,↓reduceIte, hx.L]
  refine Wp.for xs.length (fun i a H' => H' = H ∧ a 0 = v ∧ a 1 = .fn f [] caps ∧ a 7 = .i xs.length ∧ a 8 = .i i ∧ findP P (xs.drop i) i = r) ?_ ?_
  · clear er
    rintro i a H' hi ⟨rfl, h0, h1, h7, h8, hh⟩ ih
    simp (disch := (first | assumption | omega | (simp only [List.length_append, List.length_cons, List.length_nil]; omega))) only [↓wD,wU,Nat.reduceBEq,zx150,zx151,zx159,zx160,zx161,zx162,Nat.reduceAdd,Nat.reduceSub,Nat.reduceMul,Nat.reduceLeDiff,Nat.reduceLT,Nat.reduceEqDiff,Int.reduceAdd,Int.reduceSub,Int.reduceMul,Int.reduceNeg,Int.reduceLT,Int.reduceLE,Int.reduceEq,Int.reduceToNat,Int.cast_ofNat_Int,↓reduceIte, h0, h1, h7, h8]
    refine condP_split (fun hlt => ?_) (fun hlt => ?_)
    · have hi' : i < xs.length := by omega
      have e : xs.drop i = gi xs (i : Int) :: xs.drop (i + 1) := by rw [gi_nat hi']; exact List.drop_eq_getElem_cons hi'
      have g := hx.get (k := (i : Int)) (by omega) (by omega)
      have hp := hP _ _ g
      rw [e, findP] at hh
      clear e
      cases hc : P (gi xs (i : Int)) with
      | true =>
        rw [hc] at hp hh
        simp only [if_true] at hh
        simp (disch := (first | assumption | omega | (simp only [List.length_append, List.length_cons, List.length_nil]; omega))) only [↓wD,wU,Nat.reduceBEq,zx150,zx151,zx159,zx160,zx161,zx162,Nat.reduceAdd,Nat.reduceSub,Nat.reduceMul,Nat.reduceLeDiff,Nat.reduceLT,Nat.reduceEqDiff,Int.reduceAdd,Int.reduceSub,Int.reduceMul,Int.reduceNeg,Int.reduceLT,Int.reduceLE,Int.reduceEq,Int.reduceToNat,Int.cast_ofNat_Int,↓reduceIte, h0, h1, h7, h8, hx.L, hp.callv1]
        rw [hh]
      | false =>
        rw [hc] at hp hh
        simp only [Bool.false_eq_true, if_false] at hh
        simp (disch := (first | assumption | omega | (simp only [List.length_append, List.length_cons, List.length_nil]; omega))) only [↓wD,wU,Nat.reduceBEq,zx150,zx151,zx159,zx160,zx161,zx162,Nat.reduceAdd,Nat.reduceSub,Nat.reduceMul,Nat.reduceLeDiff,Nat.reduceLT,Nat.reduceEqDiff,Int.reduceAdd,Int.reduceSub,Int.reduceMul,Int.reduceNeg,Int.reduceLT,Int.reduceLE,Int.reduceEq,Int.reduceToNat,Int.cast_ofNat_Int,↓reduceIte, h0, h1, h7, h8, hx.L, hp.callv1]
        refine (ih hi').go ⟨rfl, ?_⟩
        simp (disch := (first | assumption | omega | (simp only [List.length_append, List.length_cons, List.length_nil]; omega))) only [↓wD,wU,Nat.reduceBEq,zx150,zx151,zx159,zx160,zx161,zx162,Nat.reduceAdd,Nat.reduceSub,Nat.reduceMul,Nat.reduceLeDiff,Nat.reduceLT,Nat.reduceEqDiff,Int.reduceAdd,Int.reduceSub,Int.reduceMul,Int.reduceNeg,Int.reduceLT,Int.reduceLE,Int.reduceEq,Int.reduceToNat,Int.cast_ofNat_Int,↓reduceIte, h0, h1, h7, h8]
        exact hh
    · have e : xs.drop i = [] := List.drop_of_length_le (by omega)
      rw [e] at hh
      simp (disch := (first | assumption | omega | (simp only [List.length_append, List.length_cons, List.length_nil]; omega))) only [↓wD,wU,Nat.reduceBEq,zx150,zx151,zx159,zx160,zx161,zx162,Nat.reduceAdd,Nat.reduceSub,Nat.reduceMul,Nat.reduceLeDiff,Nat.reduceLT,Nat.reduceEqDiff,Int.reduceAdd,Int.reduceSub,Int.reduceMul,Int.reduceNeg,Int.reduceLT,Int.reduceLE,Int.reduceEq,Int.reduceToNat,Int.cast_ofNat_Int,↓reduceIte, h0, h1, h7, h8]
      rw [← hh]; rfl
  · simp (disch := (first | assumption | omega | (simp only [List.length_append, List.length_cons, List.length_nil]; omega))) only [↓wD,wU,Nat.reduceBEq,zx150,zx151,zx159,zx160,zx161,zx162,Nat.reduceAdd,Nat.reduceSub,Nat.reduceMul,Nat.reduceLeDiff,Nat.reduceLT,Nat.reduceEqDiff,Int.reduceAdd,Int.reduceSub,Int.reduceMul,Int.reduceNeg,Int.reduceLT,Int.reduceLE,Int.reduceEq,Int.reduceToNat,Int.cast_ofNat_Int,↓reduceIte]
    exact er
theorem containsU_ret {p : Nat → Prop} {H : Heap} {v : AV} {xs : List Tab} {f : Nat} {caps : List AV} {P : Tab → Bool} (hx : Sl p H v xs) (hP : ∀ (y : AV) (x : Tab), Sl p H y x → RetP E f ([y] ++ caps) H (.b (P x))) :
    RetP E 66 [v, .fn f [] caps] H (.b (xs.any P)) := by
  refine RetP.ro rfl fn66 rfl rfl ?_
  unfold f66A
  have e : decide (0 ≤ findP P xs 0) = xs.any P := by
    cases h : xs.any P with
    | true => exact decide_eq_true (findP_ge.2 h)
    | false => exact decide_eq_false fun q => by rw [findP_ge.1 q] at h; cases h
  simp (disch := (first | assumption | omega | (simp only [List.length_append, List.length_cons, List.length_nil]; omega))) only [↓wD,wU,Nat.reduceBEq,zx150,zx151,zx159,zx160,zx161,zx162,Nat.reduceAdd,Nat.reduceSub,Nat.reduceMul,Nat.reduceLeDiff,Nat.reduceLT,Nat.reduceEqDiff,Int.reduceAdd,Int.reduceSub,Int.reduceMul,Int.reduceNeg,Int.reduceLT,Int.reduceLE,Int.reduceEq,Int.reduceToNat,Int.cast_ofNat_Int,↓reduceIte, (indexU_ret hx hP).call, e]
theorem same2_ret {p q : Nat → Prop} {H : Heap} {y x : AV} {t s : Tab} {c : Nat} (hc : H[c]? = some (.cells [x])) (hx : Sl q H x s) (hy : Sl p H y t) : RetP E 67 [y, .p c 0] H (.b (decide (s = t))) := by
  refine RetP.ro rfl fn67 rfl rfl ?_
  unfold f67A
  simp (disch := (first | assumption | omega | (simp only [List.length_append, List.length_cons, List.length_nil]; omega))) only [↓wD,wU,Nat.reduceBEq,zx150,zx151,zx159,zx160,zx161,zx162,Nat.reduceAdd,Nat.reduceSub,Nat.reduceMul,Nat.reduceLeDiff,Nat.reduceLT,Nat.reduceEqDiff,Int.reduceAdd,Int.reduceSub,Int.reduceMul,Int.reduceNeg,Int.reduceLT,Int.reduceLE,Int.reduceEq,Int.reduceToNat,Int.cast_ofNat_Int,↓reduceIte, ld_of hc, (same_ret hx hy).call]
theorem same3_ret {p q : Nat → Prop} {H : Heap} {y x : AV} {t s : Tab} {c : Nat} (hc : H[c]? = some (.cells [x])) (hx : Sl q H x s) (hy : Sl p H y t) : RetP E 69 [y, .p c 0] H (.b (decide (s = t))) := by
  refine RetP.ro rfl fn69 rfl rfl ?_
  unfold f69A
  simp (disch := (first | assumption | omega | (simp only [List.length_append, List.length_cons, List.length_nil]; omega))) only [↓wD,wU,Nat.reduceBEq,zx150,zx151,zx159,zx160,zx161,zx162,Nat.reduceAdd,Nat.reduceSub,Nat.reduceMul,Nat.reduceLeDiff,Nat.reduceLT,Nat.reduceEqDiff,Int.reduceAdd,Int.reduceSub,Int.reduceMul,Int.reduceNeg,Int.reduceLT,Int.reduceLE,Int.reduceEq,Int.reduceToNat,Int.cast_ofNat_Int,↓reduceIte, ld_of hc, (same_ret hx hy).call]
theorem led_mem {p q : Nat → Prop} {H : Heap} {av x : AV} {ts : List Tab} {s : Tab} {c : Nat} (h : Sl p H av ts) (hc : H[c]? = some (.cells [x])) (hx : Sl q H x s) (hm : s ∈ ts) :
    RetP E 66 [av, .fn 67 [] [.p c 0]] H (.b true) ∧ RetP E 66 [av, .fn 69 [] [.p c 0]] H (.b true) := by
  have h1 := containsU_ret (f := 67) (caps := [.p c 0]) (P := fun t => decide (s = t)) h fun y t hy => same2_ret hc hx hy
  have h2 := containsU_ret (f := 69) (caps := [.p c 0]) (P := fun t => decide (s = t)) h fun y t hy => same3_ret hc hx hy
  rw [any_mem, decide_eq_true hm] at h1 h2
  exact ⟨h1, h2⟩
/-- the places of a swap, as numbers from 0 on -/
theorem sw_of {t : Tab} {i j k l : Int} (hp : PlaceOk t i j k l) (hz : ¬ (getE t i l = 0 ∨ getE t j k = 0)) : ∃ i' j' k' l' : Nat, i = i' ∧ j = j' ∧ k = k' ∧ l = l' ∧ SwOk t i' j' k' l' := by
  obtain ⟨a1, a2, a3, a4, a5, a6, a7, a8, a9, a10⟩ := hp
  obtain ⟨i', rfl⟩ := nat_of a1
  obtain ⟨j', rfl⟩ := nat_of a3
  obtain ⟨k', rfl⟩ := nat_of a6
  obtain ⟨l', rfl⟩ := nat_of a8
  exact ⟨i', j', k', l', rfl, rfl, rfl, rfl, ⟨by omega, by omega, by omega, by omega, by omega, by omega, fun e => hz (.inl e), fun e => hz (.inr e)⟩⟩
end Go.Proofs.Ytflekaacffdakaa
namespace Go.Proofs.Ytflekaacffdakaa
open Go Go.AM Go.Proofs
theorem map_cut {l : List Tab} (h : ∀ x ∈ l, TabOk x) : l.map cutT = l := by
  rw [List.map_congr_left (f := cutT) (g := fun x => x) fun x hx => cutT_ok (h x hx)]; simp
end Go.Proofs.Ytflekaacffdakaa
namespace Go.Proofs.Ytflekaacffdakaa
open Go Go.AM Go.Proofs
section
variable {H G : Heap} {t u v : Tab} {av uv vv pv : AV} {i j k l : Int} {a : Fr}
theorem led_d (hall : Sl (fun _ => True) G av (famT t)) (hu : Sl (fun _ => True) G uv u) (ht : TabOk t) (hk : Kin t u) (hx : Kx (fun _ => True) H G)
    (a3 : a 3 = .i i) (a4 : a 4 = .i j) (a5 : a 5 = .i k) (a6 : a 6 = .i l) (a15 : a 15 = av) (a17 : a 17 = uv) :
    Wp E H.length none [.code (Hide (tl 12 f18A.body))] a G (RetQ [.t 14] fun v _ => v = .b true) := by
  unfold f18A
  simp only [tl, Hide]
  have hok := hk.ok
  have hl0 := hx.1
  simp (disch := (first | assumption | omega | (simp only [List.length_append, List.length_cons, List.length_nil]; omega))) only [↓wD,wU,Nat.reduceBEq,zx150,zx151,zx159,zx160,zx161,zx162,Nat.reduceAdd,Nat.reduceSub,Nat.reduceMul,Nat.reduceLeDiff,Nat.reduceLT,Nat.reduceEqDiff,Int.reduceAdd,Int.reduceSub,Int.reduceMul,Int.reduceNeg,Int.reduceLT,Int.reduceLE,Int.reduceEq,Int.reduceToNat,Int.cast_ofNat_Int,↓reduceIte, a3, a4, a5, a6, a15, a17]
  refine (table_ret hu).toX fun y1 G1 x1 hy1 => ?_
  replace hy1 : Sl (fun _ => True) G1 y1 (cutT u) := hy1.weak fun _ _ => trivial
  rw [cutT_ok hok] at hy1
  have hl1 := x1.1
  by_cases hp : PlaceOk u i j k l
  · by_cases hz : getE u i l = 0 ∨ getE u j k = 0
    · have sw := swap_none hy1 hok hp hz
      have sA : Go.AM.st H.length (G1 ++ [Blk.cells [.nils]]) G1.length 0 [.nils] = some (G1 ++ [Blk.cells [.nils]]) := by
        rw [st_of get_last (by omega) (by simp)]; congr 1; simp [wr]
      simp (disch := (first | assumption | omega | (simp only [List.length_append, List.length_cons, List.length_nil]; omega))) only [↓wD,wU,Nat.reduceBEq,zx150,zx151,zx159,zx160,zx161,zx162,Nat.reduceAdd,Nat.reduceSub,Nat.reduceMul,Nat.reduceLeDiff,Nat.reduceLT,Nat.reduceEqDiff,Int.reduceAdd,Int.reduceSub,Int.reduceMul,Int.reduceNeg,Int.reduceLT,Int.reduceLE,Int.reduceEq,Int.reduceToNat,Int.cast_ofNat_Int,↓reduceIte, a3, a4, a5, a6, a15, a17, sw.call, sA, awake_ret.call]
    · obtain ⟨i, j, k, l, rfl, rfl, rfl, rfl, hs⟩ := sw_of hp hz
      have hks := swap_kin hok hs
      obtain ⟨hb1, hb2⟩ := swap_back hok hs
      simp (disch := (first | assumption | omega | (simp only [List.length_append, List.length_cons, List.length_nil]; omega))) only [↓wD,wU,Nat.reduceBEq,zx150,zx151,zx159,zx160,zx161,zx162,Nat.reduceAdd,Nat.reduceSub,Nat.reduceMul,Nat.reduceLeDiff,Nat.reduceLT,Nat.reduceEqDiff,Int.reduceAdd,Int.reduceSub,Int.reduceMul,Int.reduceNeg,Int.reduceLT,Int.reduceLE,Int.reduceEq,Int.reduceToNat,Int.cast_ofNat_Int,↓reduceIte, a3, a4, a5, a6, a15, a17]
      refine (swap_ret hy1 hok hp hz).toX fun w G2 x2 hw => ?_
      obtain ⟨v1, v2, rfl, q1, q2⟩ := rv2 hw
      obtain rfl := rvi q2
      have hs1 : Sl (fun _ => True) G2 v1 (swapS u i j k l) := (rvs q1).weak fun _ _ => trivial
      have vV := hs1.cellsV
      have hl2 := x2.1
      have sA : Go.AM.st H.length (G2 ++ [Blk.cells [.nils]]) G2.length 0 [v1] = some (G2 ++ [Blk.cells [v1]]) := by
        rw [st_of get_last (by omega) (by simp)]; congr 1; simp [wr]
      have c3 : (G2 ++ [Blk.cells [v1]])[G2.length]? = some (.cells [v1]) := get_last
      have x23 : Kx (fun _ => True) G2 (G2 ++ [Blk.cells [v1]]) := Kx.app _ _ _
      have x03 := (x1.trans x2 fun _ _ q => q).trans x23 fun _ _ q => q
      have hs3 := hs1.kp x23.kp
      simp (disch := (first | assumption | omega | (simp only [List.length_append, List.length_cons, List.length_nil]; omega))) only [↓wD,wU,Nat.reduceBEq,zx150,zx151,zx159,zx160,zx161,zx162,Nat.reduceAdd,Nat.reduceSub,Nat.reduceMul,Nat.reduceLeDiff,Nat.reduceLT,Nat.reduceEqDiff,Int.reduceAdd,Int.reduceSub,Int.reduceMul,Int.reduceNeg,Int.reduceLT,Int.reduceLE,Int.reduceEq,Int.reduceToNat,Int.cast_ofNat_Int,↓reduceIte, a3, a4, a5, a6, a15, a17, vV, sA, ld_of c3]
      generalize G2 ++ [Blk.cells [v1]] = G3 at *
      refine (table_ret hs3).toX fun y4 G4 x4 hy4 => ?_
      replace hy4 : Sl (fun _ => True) G4 y4 (cutT (swapS u i j k l)) := hy4.weak fun _ _ => trivial
      rw [cutT_ok hks.ok] at hy4
      simp (disch := (first | assumption | omega | (simp only [List.length_append, List.length_cons, List.length_nil]; omega))) only [↓wD,wU,Nat.reduceBEq,zx150,zx151,zx159,zx160,zx161,zx162,Nat.reduceAdd,Nat.reduceSub,Nat.reduceMul,Nat.reduceLeDiff,Nat.reduceLT,Nat.reduceEqDiff,Int.reduceAdd,Int.reduceSub,Int.reduceMul,Int.reduceNeg,Int.reduceLT,Int.reduceLE,Int.reduceEq,Int.reduceToNat,Int.cast_ofNat_Int,↓reduceIte, a3, a4, a5, a6, a15, a17]
      refine (swap_ret hy4 hks.ok hb1.place (fun q => q.elim hb1.zi hb1.zj)).toX fun w G5 x5 hw => ?_
      obtain ⟨v5, v6, rfl, q5, q6⟩ := rv2 hw
      obtain rfl := rvi q6
      rw [hb2] at q5
      have h5 : Sl (fun _ => True) G5 v5 u := (rvs q5).weak fun _ _ => trivial
      have x35 := x4.trans x5 fun _ _ q => q
      have x05 := x03.trans x35 fun _ _ q => q
      have sm := same_ret h5 (hu.kp x05.kp)
      rw [decide_eq_true rfl] at sm
      have c5 := x35.get trivial c3
      have lm := (led_mem (hall.kp x05.kp) c5 (hs3.kp x35.kp) (hk.trans hks).fam).2
      simp (disch := (first | assumption | omega | (simp only [List.length_append, List.length_cons, List.length_nil]; omega))) only [↓wD,wU,Nat.reduceBEq,zx150,zx151,zx159,zx160,zx161,zx162,Nat.reduceAdd,Nat.reduceSub,Nat.reduceMul,Nat.reduceLeDiff,Nat.reduceLT,Nat.reduceEqDiff,Int.reduceAdd,Int.reduceSub,Int.reduceMul,Int.reduceNeg,Int.reduceLT,Int.reduceLE,Int.reduceEq,Int.reduceToNat,Int.cast_ofNat_Int,↓reduceIte, a3, a4, a5, a6, a15, a17, sm.call, lm.call, awake_ret.call]
  · have sw := swap_err hy1 (fun q => hp q.2)
    have sA : Go.AM.st H.length (G1 ++ [Blk.cells [.nils]]) G1.length 0 [.nils] = some (G1 ++ [Blk.cells [.nils]]) := by
      rw [st_of get_last (by omega) (by simp)]; congr 1; simp [wr]
    simp (disch := (first | assumption | omega | (simp only [List.length_append, List.length_cons, List.length_nil]; omega))) only [↓wD,wU,Nat.reduceBEq,zx150,zx151,zx159,zx160,zx161,zx162,Nat.reduceAdd,Nat.reduceSub,Nat.reduceMul,Nat.reduceLeDiff,Nat.reduceLT,Nat.reduceEqDiff,Int.reduceAdd,Int.reduceSub,Int.reduceMul,Int.reduceNeg,Int.reduceLT,Int.reduceLE,Int.reduceEq,Int.reduceToNat,Int.cast_ofNat_Int,↓reduceIte, a3, a4, a5, a6, a15, a17, sw.call, sA, awake_ret.call]
theorem led_c {L : Nat} {K : Nat → Prop} {pl : List Tab} (hall : Sl (fun b => b < L) G av (famT t)) (hu : Sl (fun b => b < L) G uv u) (hv : Sl (fun b => b < L) G vv v) (hp : Acc L K G pv pl) (ht : TabOk t) (hk : Kin t u) (hkv : Kin t v) (hP : PathP u v pl) (hlen : pl.length ≤ 40) (hx : Kx (fun _ => True) H G) (hL : H.length ≤ L)
    (a3 : a 3 = .i i) (a4 : a 4 = .i j) (a5 : a 5 = .i k) (a6 : a 6 = .i l) (a15 : a 15 = av) (a17 : a 17 = uv) (a18 : a 18 = vv) (a19 : a 19 = pv) :
    Wp E H.length none [.code (Hide (tl 8 f18A.body))] a G (RetQ [.t 14] fun v _ => v = .b true) := by
  unfold Hide
  rw [← ins_eq 4 (tl 8 f18A.body)]
  have td := fun {G : Heap} {uv : AV} {a : Fr} => @led_d H G t u av uv i j k l a
  unfold f18A at td ⊢
  simp only [tl, ins] at td ⊢
  generalize Hide _ = T at td ⊢
  have cutP : ∀ q : List Tab, (∀ x ∈ q, TabOk x) → q.length ≤ 40 → (q.take 40).map cutT = q := fun q h1 h2 => by rw [List.take_of_length_le h2]; exact map_cut h1
  have pok : ∀ x ∈ pl, TabOk x := fun x hx => (hP.kin hk.ok x hx).ok
  simp (disch := (first | assumption | omega | (simp only [List.length_append, List.length_cons, List.length_nil]; omega))) only [↓wD,wU,Nat.reduceBEq,zx150,zx151,zx159,zx160,zx161,zx162,Nat.reduceAdd,Nat.reduceSub,Nat.reduceMul,Nat.reduceLeDiff,Nat.reduceLT,Nat.reduceEqDiff,Int.reduceAdd,Int.reduceSub,Int.reduceMul,Int.reduceNeg,Int.reduceLT,Int.reduceLE,Int.reduceEq,Int.reduceToNat,Int.cast_ofNat_Int,↓reduceIte, a3, a4, a5, a6, a15, a17, a18, a19]
  refine (table_ret hu).toX fun y1 G1 x1 hy1 => ?_
  replace hy1 : Sl (fun _ => True) G1 y1 (cutT u) := hy1.weak fun _ _ => trivial
  rw [cutT_ok hk.ok] at hy1
  simp (disch := (first | assumption | omega | (simp only [List.length_append, List.length_cons, List.length_nil]; omega))) only [↓wD,wU,Nat.reduceBEq,zx150,zx151,zx159,zx160,zx161,zx162,Nat.reduceAdd,Nat.reduceSub,Nat.reduceMul,Nat.reduceLeDiff,Nat.reduceLT,Nat.reduceEqDiff,Int.reduceAdd,Int.reduceSub,Int.reduceMul,Int.reduceNeg,Int.reduceLT,Int.reduceLE,Int.reduceEq,Int.reduceToNat,Int.cast_ofNat_Int,↓reduceIte, a3, a4, a5, a6, a15, a17, a18, a19]
  refine (table_ret (hv.kp (x1.all _).kp)).toX fun y2 G2 x2 hy2 => ?_
  replace hy2 : Sl (fun _ => True) G2 y2 (cutT v) := hy2.weak fun _ _ => trivial
  rw [cutT_ok hkv.ok] at hy2
  have x02 := x1.trans x2 fun _ _ q => q
  have hp2 := hp.kp (p := fun _ => True) x02.kp (fun _ _ => trivial) fun _ _ => trivial
  simp (disch := (first | assumption | omega | (simp only [List.length_append, List.length_cons, List.length_nil]; omega))) only [↓wD,wU,Nat.reduceBEq,zx150,zx151,zx159,zx160,zx161,zx162,Nat.reduceAdd,Nat.reduceSub,Nat.reduceMul,Nat.reduceLeDiff,Nat.reduceLT,Nat.reduceEqDiff,Int.reduceAdd,Int.reduceSub,Int.reduceMul,Int.reduceNeg,Int.reduceLT,Int.reduceLE,Int.reduceEq,Int.reduceToNat,Int.cast_ofNat_Int,↓reduceIte, a3, a4, a5, a6, a15, a17, a18, a19]
  refine (lpath_ret hp2.sl).toX fun y3 G3 x3 hy3 => ?_
  replace hy3 : Sl (fun _ => True) G3 y3 ((pl.take 40).map cutT) := hy3.weak fun _ _ => trivial
  rw [cutP pl pok hlen] at hy3
  have cp := checkPath_ret (hy1.kp (x2.trans x3 fun _ _ q => q).kp) (hy2.kp x3.kp) hy3 hk.ok hkv.ok (by omega)
  rw [decide_eq_true hP] at cp
  have x03 := x02.trans x3 fun _ _ q => q
  have hp3 := hp2.kp (p := fun _ => True) x3.kp (fun _ _ => trivial) fun _ _ => trivial
  simp (disch := (first | assumption | omega | (simp only [List.length_append, List.length_cons, List.length_nil]; omega))) only [↓wD,wU,Nat.reduceBEq,zx150,zx151,zx159,zx160,zx161,zx162,Nat.reduceAdd,Nat.reduceSub,Nat.reduceMul,Nat.reduceLeDiff,Nat.reduceLT,Nat.reduceEqDiff,Int.reduceAdd,Int.reduceSub,Int.reduceMul,Int.reduceNeg,Int.reduceLT,Int.reduceLE,Int.reduceEq,Int.reduceToNat,Int.cast_ofNat_Int,↓reduceIte, a3, a4, a5, a6, a15, a17, a18, a19, cp.call]
  refine callI (acc_rev rfl (lo := H.length) hp3 hL (by omega) (fun _ => rev3_nil) rev3_raw ?_)
  intro _ G4 x34 hp4 hl4
  have low : ∀ b, b < L → pv.blk ≠ some b := fun b hb e => by have := (hp3.blk_lt e).1; omega
  have hall4 := (hall.kp (x03.all _).kp).kp (x34.weak (q := fun b => b < L) fun b _ q => low b q).kp
  have hu4 := (hu.kp (x03.all _).kp).kp (x34.weak (q := fun b => b < L) fun b _ q => low b q).kp
  have hv4 := (hv.kp (x03.all _).kp).kp (x34.weak (q := fun b => b < L) fun b _ q => low b q).kp
  have hx4 : Kx (fun _ => True) H G4 := by
    have h03 := hx.trans x03 fun _ _ q => q
    have := h03.1
    exact ⟨by omega, fun b hb _ => by rw [x34.2 b (by omega) (low b (by omega)), h03.2 b hb trivial]⟩
  have hPr := hP.rev hk.ok
  simp (disch := (first | assumption | omega | (simp only [List.length_append, List.length_cons, List.length_nil]; omega))) only [↓wD,wU,Nat.reduceBEq,zx150,zx151,zx159,zx160,zx161,zx162,Nat.reduceAdd,Nat.reduceSub,Nat.reduceMul,Nat.reduceLeDiff,Nat.reduceLT,Nat.reduceEqDiff,Int.reduceAdd,Int.reduceSub,Int.reduceMul,Int.reduceNeg,Int.reduceLT,Int.reduceLE,Int.reduceEq,Int.reduceToNat,Int.cast_ofNat_Int,↓reduceIte, a3, a4, a5, a6, a15, a17, a18, a19]
  refine (table_ret hv4).toX fun y5 G5 x5 hy5 => ?_
  replace hy5 : Sl (fun _ => True) G5 y5 (cutT v) := hy5.weak fun _ _ => trivial
  rw [cutT_ok hkv.ok] at hy5
  simp (disch := (first | assumption | omega | (simp only [List.length_append, List.length_cons, List.length_nil]; omega))) only [↓wD,wU,Nat.reduceBEq,zx150,zx151,zx159,zx160,zx161,zx162,Nat.reduceAdd,Nat.reduceSub,Nat.reduceMul,Nat.reduceLeDiff,Nat.reduceLT,Nat.reduceEqDiff,Int.reduceAdd,Int.reduceSub,Int.reduceMul,Int.reduceNeg,Int.reduceLT,Int.reduceLE,Int.reduceEq,Int.reduceToNat,Int.cast_ofNat_Int,↓reduceIte, a3, a4, a5, a6, a15, a17, a18, a19]
  refine (table_ret (hu4.kp (x5.all _).kp)).toX fun y6 G6 x6 hy6 => ?_
  replace hy6 : Sl (fun _ => True) G6 y6 (cutT u) := hy6.weak fun _ _ => trivial
  rw [cutT_ok hk.ok] at hy6
  have x46 := x5.trans x6 fun _ _ q => q
  simp (disch := (first | assumption | omega | (simp only [List.length_append, List.length_cons, List.length_nil]; omega))) only [↓wD,wU,Nat.reduceBEq,zx150,zx151,zx159,zx160,zx161,zx162,Nat.reduceAdd,Nat.reduceSub,Nat.reduceMul,Nat.reduceLeDiff,Nat.reduceLT,Nat.reduceEqDiff,Int.reduceAdd,Int.reduceSub,Int.reduceMul,Int.reduceNeg,Int.reduceLT,Int.reduceLE,Int.reduceEq,Int.reduceToNat,Int.cast_ofNat_Int,↓reduceIte, a3, a4, a5, a6, a15, a17, a18, a19]
  refine (lpath_ret (hp4.sl.kp (x46.all _).kp)).toX fun y7 G7 x7 hy7 => ?_
  replace hy7 : Sl (fun _ => True) G7 y7 ((pl.reverse.take 40).map cutT) := hy7.weak fun _ _ => trivial
  rw [cutP pl.reverse (fun x hx => pok x (by simpa using hx)) (by simpa using hlen)] at hy7
  have cp2 := checkPath_ret (hy5.kp (x6.trans x7 fun _ _ q => q).kp) (hy6.kp x7.kp) hy7 hkv.ok hk.ok (by simp; omega)
  rw [decide_eq_true hPr] at cp2
  have x47 := x46.trans x7 fun _ _ q => q
  simp (disch := (first | assumption | omega | (simp only [List.length_append, List.length_cons, List.length_nil]; omega))) only [↓wD,wU,Nat.reduceBEq,zx150,zx151,zx159,zx160,zx161,zx162,Nat.reduceAdd,Nat.reduceSub,Nat.reduceMul,Nat.reduceLeDiff,Nat.reduceLT,Nat.reduceEqDiff,Int.reduceAdd,Int.reduceSub,Int.reduceMul,Int.reduceNeg,Int.reduceLT,Int.reduceLE,Int.reduceEq,Int.reduceToNat,Int.cast_ofNat_Int,↓reduceIte, a3, a4, a5, a6, a15, a17, a18, a19, cp2.call]
  refine td ((hall4.kp (x47.all _).kp).weak fun _ _ => trivial) ((hu4.kp (x47.all _).kp).weak fun _ _ => trivial) ht hk (hx4.trans x47 fun _ _ q => q) ?_ ?_ ?_ ?_ ?_ ?_
  all_goals (simp (disch := (first | assumption | omega | (simp only [List.length_append, List.length_cons, List.length_nil]; omega))) only [↓wD,wU,Nat.reduceBEq,zx150,zx151,zx159,zx160,zx161,zx162,Nat.reduceAdd,Nat.reduceSub,Nat.reduceMul,Nat.reduceLeDiff,Nat.reduceLT,Nat.reduceEqDiff,Int.reduceAdd,Int.reduceSub,Int.reduceMul,Int.reduceNeg,Int.reduceLT,Int.reduceLE,Int.reduceEq,Int.reduceToNat,Int.cast_ofNat_Int,↓reduceIte, a3, a4, a5, a6, a15, a17])
theorem led_b {L : Nat} {K : Nat → Prop} {pl : List Tab} (hall : Sl (fun b => b < L) G av (famT t)) (hu : Sl (fun b => b < L) G uv u) (hv : Sl (fun b => b < L) G vv v) (hp : Acc L K G pv pl) (ht : TabOk t) (hk : Kin t u) (hkv : Kin t v) (hP : PathP u v pl) (hlen : pl.length ≤ 40) (hx : Kx (fun _ => True) H G) (hL : H.length ≤ L)
    (a3 : a 3 = .i i) (a4 : a 4 = .i j) (a5 : a 5 = .i k) (a6 : a 6 = .i l) (a15 : a 15 = av) (a17 : a 17 = uv) (a18 : a 18 = vv) (a19 : a 19 = pv) :
    Wp E H.length none [.code (Hide (tl 7 f18A.body))] a G (RetQ [.t 14] fun v _ => v = .b true) := by
  unfold Hide
  rw [← ins_eq 1 (tl 7 f18A.body)]
  have tc := fun {G : Heap} {a : Fr} => @led_c H G t u v av uv vv pv i j k l a L K pl
  unfold f18A at tc ⊢
  simp only [tl, ins] at tc ⊢
  generalize Hide _ = T at tc ⊢
  have pL := hp.sl.lenV
  simp (disch := (first | assumption | omega | (simp only [List.length_append, List.length_cons, List.length_nil]; omega))) only [↓wD,wU,Nat.reduceBEq,zx150,zx151,zx159,zx160,zx161,zx162,Nat.reduceAdd,Nat.reduceSub,Nat.reduceMul,Nat.reduceLeDiff,Nat.reduceLT,Nat.reduceEqDiff,Int.reduceAdd,Int.reduceSub,Int.reduceMul,Int.reduceNeg,Int.reduceLT,Int.reduceLE,Int.reduceEq,Int.reduceToNat,Int.cast_ofNat_Int,↓reduceIte, a3, a4, a5, a6, a15, a17, a18, a19, pL]
  refine Wp.for pl.length (fun n a G' => a 3 = .i i ∧ a 4 = .i j ∧ a 5 = .i k ∧ a 6 = .i l ∧ a 15 = av ∧ a 17 = uv ∧ a 18 = vv ∧ a 19 = pv ∧ a 106 = pv ∧ a 107 = .i pl.length ∧ a 108 = .i n ∧ Kx (fun _ => True) G G') ?_ ?_
  · clear a3 a4 a5 a6 a15 a17 a18 a19
    rintro n a G1 hn ⟨a3, a4, a5, a6, a15, a17, a18, a19, a106, a107, a108, hg⟩ ih
    have hp1 := hp.kp (p := fun _ => True) hg.kp (fun _ _ => trivial) fun _ _ => trivial
    simp (disch := (first | assumption | omega | (simp only [List.length_append, List.length_cons, List.length_nil]; omega))) only [↓wD,wU,Nat.reduceBEq,zx150,zx151,zx159,zx160,zx161,zx162,Nat.reduceAdd,Nat.reduceSub,Nat.reduceMul,Nat.reduceLeDiff,Nat.reduceLT,Nat.reduceEqDiff,Int.reduceAdd,Int.reduceSub,Int.reduceMul,Int.reduceNeg,Int.reduceLT,Int.reduceLE,Int.reduceEq,Int.reduceToNat,Int.cast_ofNat_Int,↓reduceIte, a3, a4, a5, a6, a15, a17, a18, a19, a106, a107, a108]
    refine condP_split (fun hlt => ?_) (fun hlt => ?_)
    · have hn' : n < pl.length := by omega
      have hps : Sl (fun _ => True) G1 pv pl := hp1.sl.weak fun _ _ => trivial
      have g := hps.get (k := (n : Int)) (by omega) (by omega)
      have i0 : iaddrV 1 pv (.i (n : Int)) = some (pv.at 1 (n : Int)) := hps.iaddr (by omega) (by omega)
      obtain ⟨y, ey⟩ : ∃ y, pv.get G1 (n : Int) = y := ⟨_, rfl⟩
      have i1 : ldA G1 none (pv.at 1 (n : Int)) = some y := by rw [← ey]; exact (hps.ld_get (k := (n : Int)) (by omega) (by omega)).1
      rw [ey] at g
      have gV := g.cellsV
      have h01 := hx.1
      have h11 := hg.1
      have sA : Go.AM.st H.length (G1 ++ [Blk.cells [.nils]]) G1.length 0 [y] = some (G1 ++ [Blk.cells [y]]) := by
        rw [st_of get_last (by omega) (by simp)]; congr 1; simp [wr]
      have c2 : (G1 ++ [Blk.cells [y]])[G1.length]? = some (.cells [y]) := get_last
      have x12 : Kx (fun _ => True) G1 (G1 ++ [Blk.cells [y]]) := Kx.app _ _ _
      have lm := (led_mem ((hall.kp (hg.all _).kp).kp (x12.all _).kp) c2 (g.kp x12.kp) (hk.trans (hP.kin hk.ok _ (mem_gi hn'))).fam).1
      simp (disch := (first | assumption | omega | (simp only [List.length_append, List.length_cons, List.length_nil]; omega))) only [↓wD,wU,Nat.reduceBEq,zx150,zx151,zx159,zx160,zx161,zx162,Nat.reduceAdd,Nat.reduceSub,Nat.reduceMul,Nat.reduceLeDiff,Nat.reduceLT,Nat.reduceEqDiff,Int.reduceAdd,Int.reduceSub,Int.reduceMul,Int.reduceNeg,Int.reduceLT,Int.reduceLE,Int.reduceEq,Int.reduceToNat,Int.cast_ofNat_Int,↓reduceIte, a3, a4, a5, a6, a15, a17, a18, a19, a106, a107, a108, i0, i1, gV, sA, lm.call]
      refine (ih hn').go ?_
      simp (disch := (first | assumption | omega | (simp only [List.length_append, List.length_cons, List.length_nil]; omega))) only [↓wD,wU,Nat.reduceBEq,zx150,zx151,zx159,zx160,zx161,zx162,Nat.reduceAdd,Nat.reduceSub,Nat.reduceMul,Nat.reduceLeDiff,Nat.reduceLT,Nat.reduceEqDiff,Int.reduceAdd,Int.reduceSub,Int.reduceMul,Int.reduceNeg,Int.reduceLT,Int.reduceLE,Int.reduceEq,Int.reduceToNat,Int.cast_ofNat_Int,↓reduceIte, a3, a4, a5, a6, a15, a17, a18, a19, a106, a107, a108]
      exact hg.trans x12 fun _ _ q => q
    · simp (disch := (first | assumption | omega | (simp only [List.length_append, List.length_cons, List.length_nil]; omega))) only [↓wD,wU,Nat.reduceBEq,zx150,zx151,zx159,zx160,zx161,zx162,Nat.reduceAdd,Nat.reduceSub,Nat.reduceMul,Nat.reduceLeDiff,Nat.reduceLT,Nat.reduceEqDiff,Int.reduceAdd,Int.reduceSub,Int.reduceMul,Int.reduceNeg,Int.reduceLT,Int.reduceLE,Int.reduceEq,Int.reduceToNat,Int.cast_ofNat_Int,↓reduceIte, a3, a4, a5, a6, a15, a17, a18, a19, a106, a107, a108]
      refine tc (hall.kp (hg.all _).kp) (hu.kp (hg.all _).kp) (hv.kp (hg.all _).kp) hp1 ht hk hkv hP hlen (hx.trans hg fun _ _ q => q) hL ?_ ?_ ?_ ?_ ?_ ?_ ?_ ?_
      all_goals (simp (disch := (first | assumption | omega | (simp only [List.length_append, List.length_cons, List.length_nil]; omega))) only [↓wD,wU,Nat.reduceBEq,zx150,zx151,zx159,zx160,zx161,zx162,Nat.reduceAdd,Nat.reduceSub,Nat.reduceMul,Nat.reduceLeDiff,Nat.reduceLT,Nat.reduceEqDiff,Int.reduceAdd,Int.reduceSub,Int.reduceMul,Int.reduceNeg,Int.reduceLT,Int.reduceLE,Int.reduceEq,Int.reduceToNat,Int.cast_ofNat_Int,↓reduceIte, a3, a4, a5, a6, a15, a17, a18, a19])
  · simp (disch := (first | assumption | omega | (simp only [List.length_append, List.length_cons, List.length_nil]; omega))) only [↓wD,wU,Nat.reduceBEq,zx150,zx151,zx159,zx160,zx161,zx162,Nat.reduceAdd,Nat.reduceSub,Nat.reduceMul,Nat.reduceLeDiff,Nat.reduceLT,Nat.reduceEqDiff,Int.reduceAdd,Int.reduceSub,Int.reduceMul,Int.reduceNeg,Int.reduceLT,Int.reduceLE,Int.reduceEq,Int.reduceToNat,Int.cast_ofNat_Int,↓reduceIte, a3, a4, a5, a6, a15, a17, a18, a19]
    exact Kx.refl _ _
end
theorem Walk.CountsLed (H : Heap) (u : AV) (t : List (List Int)) (ht : Sl (fun b => b < H.length) H u t) (sz : t.length * 24 ≤ 140737488351232) (p1 p2 i j k l : Int) : WpF E H.length 18 [u, .i p1, .i p2, .i i, .i j, .i k, .i l] H fun v _ => v = .b true := by
  refine law_of (RetP.ro rfl fn18 rfl rfl ?_)
  rw [← ins_eq 7 f18A.body]
  have tb := fun {G : Heap} {a : Fr} {L : Nat} {K : Nat → Prop} {pl : List Tab} {v w : Tab} {av uv vv pv : AV} => @led_b H G t v w av uv vv pv i j k l a L K pl
  unfold f18A at tb ⊢
  simp only [tl, ins] at tb ⊢
  generalize Hide _ = T at tb ⊢
  replace ht : Sl (fun _ => True) H u t := ht.weak fun _ _ => trivial
  simp (disch := (first | assumption | omega | (simp only [List.length_append, List.length_cons, List.length_nil]; omega))) only [↓wD,wU,Nat.reduceBEq,zx150,zx151,zx159,zx160,zx161,zx162,Nat.reduceAdd,Nat.reduceSub,Nat.reduceMul,Nat.reduceLeDiff,Nat.reduceLT,Nat.reduceEqDiff,Int.reduceAdd,Int.reduceSub,Int.reduceMul,Int.reduceNeg,Int.reduceLT,Int.reduceLE,Int.reduceEq,Int.reduceToNat,Int.cast_ofNat_Int,↓reduceIte]
  refine (table_ret ht).toX fun y H1 x1 hy => ?_
  replace hy : Sl (fun _ => True) H1 y (cutT t) := hy.weak fun _ _ => trivial
  by_cases h : TabOk t
  · rw [cutT_ok h] at hy
    simp (disch := (first | assumption | omega | (simp only [List.length_append, List.length_cons, List.length_nil]; omega))) only [↓wD,wU,Nat.reduceBEq,zx150,zx151,zx159,zx160,zx161,zx162,Nat.reduceAdd,Nat.reduceSub,Nat.reduceMul,Nat.reduceLeDiff,Nat.reduceLT,Nat.reduceEqDiff,Int.reduceAdd,Int.reduceSub,Int.reduceMul,Int.reduceNeg,Int.reduceLT,Int.reduceLE,Int.reduceEq,Int.reduceToNat,Int.cast_ofNat_Int,↓reduceIte]
    refine (fam_ret hy h (cols_le h)).toX fun w H2 x2 hw => ?_
    obtain ⟨av, _, rfl, q1, q2⟩ := rv2 hw
    obtain rfl := rvi q2
    have x02 := x1.trans x2 fun _ _ q => q
    have hall : Sl (fun b => b < H2.length) H2 av (famT t) := (rvs q1).low.weak fun _ q => q.2
    have rt := rtable_ret (ht.kp x02.kp) sz
    rw [decide_eq_true h] at rt
    have few : (famT t).length ≤ 24137569 := fam_few h
    have has := family_has h
    have hpos : 0 < (famT t).length := List.length_pos_of_mem has
    have hallL := hall.L
    obtain ⟨r1, e1, e2, e3, e4⟩ := u64_idx (k := p1) hpos (by omega)
    obtain ⟨r2, f1, f2, f3, f4⟩ := u64_idx (k := p2) hpos (by omega)
    have hu := hall.get (k := (r1 : Int)) (by omega) (by omega)
    have hv := hall.get (k := (r2 : Int)) (by omega) (by omega)
    have ku := kin_of h (mem_gi e1)
    have kv := kin_of h (mem_gi f1)
    have d0 : decide (((famT t).length : Int) = 0) = false := decide_eq_false (by omega)
    have hu0 : ¬ ((famT t).length : Int) = 0 := by omega
    have iu : iaddrV 1 av (.i (r1 : Int)) = some (av.at 1 (r1 : Int)) := hall.iaddr (by omega) (by omega)
    have iv : iaddrV 1 av (.i (r2 : Int)) = some (av.at 1 (r2 : Int)) := hall.iaddr (by omega) (by omega)
    have lu := (hall.ld_get (k := (r1 : Int)) (by omega) (by omega)).1
    have lv := (hall.ld_get (k := (r2 : Int)) (by omega) (by omega)).1
    have aL := hall.lenV
    generalize gi (famT t) (r1 : Int) = U at hu ku
    generalize gi (famT t) (r2 : Int) = V at hv kv
    generalize av.get H2 (r1 : Int) = uv at hu lu
    generalize av.get H2 (r2 : Int) = vv at hv lv
    obtain ⟨fl, efl⟩ : ∃ n, (famT t).length = n := ⟨_, rfl⟩
    rw [efl] at aL d0 hu0 e1 e2 e3 f1 f2 f3 hpos few
    clear hallL
    simp (disch := (first | assumption | omega | (simp only [List.length_append, List.length_cons, List.length_nil]; omega))) only [↓wD,wU,Nat.reduceBEq,zx150,zx151,zx159,zx160,zx161,zx162,Nat.reduceAdd,Nat.reduceSub,Nat.reduceMul,Nat.reduceLeDiff,Nat.reduceLT,Nat.reduceEqDiff,Int.reduceAdd,Int.reduceSub,Int.reduceMul,Int.reduceNeg,Int.reduceLT,Int.reduceLE,Int.reduceEq,Int.reduceToNat,Int.cast_ofNat_Int,↓reduceIte, rt.call, aL, d0, hu0, e2, e3, e4, f2, f3, f4, iu, iv, lu, lv]
    refine (table_ret hu).toX fun y3 H3 x3 hy3 => ?_
    replace hy3 : Sl (fun _ => True) H3 y3 (cutT U) := hy3.weak fun _ _ => trivial
    rw [cutT_ok ku.ok] at hy3
    simp (disch := (first | assumption | omega | (simp only [List.length_append, List.length_cons, List.length_nil]; omega))) only [↓wD,wU,Nat.reduceBEq,zx150,zx151,zx159,zx160,zx161,zx162,Nat.reduceAdd,Nat.reduceSub,Nat.reduceMul,Nat.reduceLeDiff,Nat.reduceLT,Nat.reduceEqDiff,Int.reduceAdd,Int.reduceSub,Int.reduceMul,Int.reduceNeg,Int.reduceLT,Int.reduceLE,Int.reduceEq,Int.reduceToNat,Int.cast_ofNat_Int,↓reduceIte]
    refine (table_ret (hv.kp (x3.all _).kp)).toX fun y4 H4 x4 hy4 => ?_
    replace hy4 : Sl (fun _ => True) H4 y4 (cutT V) := hy4.weak fun _ _ => trivial
    rw [cutT_ok kv.ok] at hy4
    have x24 := x3.trans x4 fun _ _ q => q
    obtain ⟨N, hN, hd⟩ := reach ku.ok ((ku.symm h).trans kv)
    simp (disch := (first | assumption | omega | (simp only [List.length_append, List.length_cons, List.length_nil]; omega))) only [↓wD,wU,Nat.reduceBEq,zx150,zx151,zx159,zx160,zx161,zx162,Nat.reduceAdd,Nat.reduceSub,Nat.reduceMul,Nat.reduceLeDiff,Nat.reduceLT,Nat.reduceEqDiff,Int.reduceAdd,Int.reduceSub,Int.reduceMul,Int.reduceNeg,Int.reduceLT,Int.reduceLE,Int.reduceEq,Int.reduceToNat,Int.cast_ofNat_Int,↓reduceIte]
    refine (path_ret (hy3.kp x4.kp) hy4 ku.ok kv.ok hd hN).toX fun w H5 x5 hw => ?_
    obtain ⟨pv, _, rfl, ⟨pl, ⟨hP, hlen⟩, hown⟩, q5⟩ := rv2 hw
    obtain rfl := rvi q5
    have hp : Acc H4.length (fun b => False ∨ H4.length ≤ b) H5 pv pl := hown.acc fun b q => q.elim (fun q => q.elim) id
    have pL := hp.sl.lenV
    rw [hlen] at pL
    have x25 := x24.trans x5 fun _ _ q => q
    simp (disch := (first | assumption | omega | (simp only [List.length_append, List.length_cons, List.length_nil]; omega))) only [↓wD,wU,Nat.reduceBEq,zx150,zx151,zx159,zx160,zx161,zx162,Nat.reduceAdd,Nat.reduceSub,Nat.reduceMul,Nat.reduceLeDiff,Nat.reduceLT,Nat.reduceEqDiff,Int.reduceAdd,Int.reduceSub,Int.reduceMul,Int.reduceNeg,Int.reduceLT,Int.reduceLE,Int.reduceEq,Int.reduceToNat,Int.cast_ofNat_Int,↓reduceIte]
    refine (table_ret (hv.kp (x25.all _).kp)).toX fun y6 H6 x6 hy6 => ?_
    replace hy6 : Sl (fun _ => True) H6 y6 (cutT V) := hy6.weak fun _ _ => trivial
    rw [cutT_ok kv.ok] at hy6
    have x26 := x25.trans x6 fun _ _ q => q
    simp (disch := (first | assumption | omega | (simp only [List.length_append, List.length_cons, List.length_nil]; omega))) only [↓wD,wU,Nat.reduceBEq,zx150,zx151,zx159,zx160,zx161,zx162,Nat.reduceAdd,Nat.reduceSub,Nat.reduceMul,Nat.reduceLeDiff,Nat.reduceLT,Nat.reduceEqDiff,Int.reduceAdd,Int.reduceSub,Int.reduceMul,Int.reduceNeg,Int.reduceLT,Int.reduceLE,Int.reduceEq,Int.reduceToNat,Int.cast_ofNat_Int,↓reduceIte]
    refine (table_ret (hu.kp (x26.all _).kp)).toX fun y7 H7 x7 hy7 => ?_
    replace hy7 : Sl (fun _ => True) H7 y7 (cutT U) := hy7.weak fun _ _ => trivial
    rw [cutT_ok ku.ok] at hy7
    have x27 := x26.trans x7 fun _ _ q => q
    simp (disch := (first | assumption | omega | (simp only [List.length_append, List.length_cons, List.length_nil]; omega))) only [↓wD,wU,Nat.reduceBEq,zx150,zx151,zx159,zx160,zx161,zx162,Nat.reduceAdd,Nat.reduceSub,Nat.reduceMul,Nat.reduceLeDiff,Nat.reduceLT,Nat.reduceEqDiff,Int.reduceAdd,Int.reduceSub,Int.reduceMul,Int.reduceNeg,Int.reduceLT,Int.reduceLE,Int.reduceEq,Int.reduceToNat,Int.cast_ofNat_Int,↓reduceIte]
    refine (path_ret (hy6.kp x7.kp) hy7 kv.ok ku.ok (hd.symm ku.ok) hN).toX fun w H8 x8 hw => ?_
    obtain ⟨qv, _, rfl, ⟨ql, ⟨_, hlen2⟩, hown2⟩, q8⟩ := rv2 hw
    obtain rfl := rvi q8
    have qL := (hown2.acc (L := 0) fun _ _ => Nat.zero_le _).sl.lenV
    rw [hlen2] at qL
    have x28 := x27.trans x8 fun _ _ q => q
    have x58 := (x6.trans x7 fun _ _ q => q).trans x8 fun _ _ q => q
    have c1 : decide (40 < ((N + 1 : Nat) : Int)) = false := decide_eq_false (by omega)
    have l4 := x24.1
    have l2 := x02.1
    generalize ((N + 1 : Nat) : Int) = M at pL qL c1
    simp (disch := (first | assumption | omega | (simp only [List.length_append, List.length_cons, List.length_nil]; omega))) only [↓wD,wU,Nat.reduceBEq,zx150,zx151,zx159,zx160,zx161,zx162,Nat.reduceAdd,Nat.reduceSub,Nat.reduceMul,Nat.reduceLeDiff,Nat.reduceLT,Nat.reduceEqDiff,Int.reduceAdd,Int.reduceSub,Int.reduceMul,Int.reduceNeg,Int.reduceLT,Int.reduceLE,Int.reduceEq,Int.reduceToNat,Int.cast_ofNat_Int,↓reduceIte, pL, qL, c1]
    refine tb (L := H4.length) (K := fun b => False ∨ H4.length ≤ b) (pl := pl) ((hall.kp (x28.all _).kp).weak fun b q => by omega) ((hu.kp (x28.all _).kp).weak fun b q => by omega) ((hv.kp (x28.all _).kp).weak fun b q => by omega) (hp.kp (p := fun _ => True) x58.kp (fun _ _ => trivial) fun _ _ => trivial) h ku kv hP (by omega) (x02.trans x28 fun _ _ q => q) (by omega) ?_ ?_ ?_ ?_ ?_ ?_ ?_ ?_
    all_goals (simp (disch := (first | assumption | omega | (simp only [List.length_append, List.length_cons, List.length_nil]; omega))) only [↓wD,wU,Nat.reduceBEq,zx150,zx151,zx159,zx160,zx161,zx162,Nat.reduceAdd,Nat.reduceSub,Nat.reduceMul,Nat.reduceLeDiff,Nat.reduceLT,Nat.reduceEqDiff,Int.reduceAdd,Int.reduceSub,Int.reduceMul,Int.reduceNeg,Int.reduceLT,Int.reduceLE,Int.reduceEq,Int.reduceToNat,Int.cast_ofNat_Int,↓reduceIte])
  · have h' : ¬ TabOk (cutT t) := fun hc => h (TabOk_cut.1 hc)
    have rt := rtable_ret (ht.kp x1.kp) sz
    rw [decide_eq_false h] at rt
    simp (disch := (first | assumption | omega | (simp only [List.length_append, List.length_cons, List.length_nil]; omega))) only [↓wD,wU,Nat.reduceBEq,zx150,zx151,zx159,zx160,zx161,zx162,Nat.reduceAdd,Nat.reduceSub,Nat.reduceMul,Nat.reduceLeDiff,Nat.reduceLT,Nat.reduceEqDiff,Int.reduceAdd,Int.reduceSub,Int.reduceMul,Int.reduceNeg,Int.reduceLT,Int.reduceLE,Int.reduceEq,Int.reduceToNat,Int.cast_ofNat_Int,↓reduceIte, (fam_err hy h').call, rt.call, awake_ret.call]
end Go.Proofs.Ytflekaacffdakaa
