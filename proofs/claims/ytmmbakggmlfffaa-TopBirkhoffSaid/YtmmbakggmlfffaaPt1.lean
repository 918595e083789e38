/- What the law needs: what its functions do, and the laws on lists behind it. No condition. -/
import Derived.Test.YtmmbakggmlfffaaPt0
import Derived.Laws.StructEq
import Derived.KernelRfl
import Derived.WalkKit
import Derived.ProofKit
import Derived.OpenShut
import Derived.ShutString
import Derived.ChangeOld
import Derived.Below
import Derived.SizedLaws
import Derived.Carry
set_option linter.unusedSimpArgs false
set_option linter.unusedVariables false
namespace Go.Proofs.Ytmmbakggmlfffaa
open Go Go.AM Go.Proofs
theorem mix_row {t : List (List Int)} {s i : Nat} (h : i < t.length) : gi (mixF t s) (i : Int) = (gi t (i : Int)).map fun x => fracN x.toNat s := by
  rw [gi_nat (by simpa [mixF] using h), gi_nat h]; simp [mixF]
theorem same_all {t : List (List Int)} (h : TabOk t) {s : Nat} (hl : (rowSums t).length = (colSums t).length) (hall : ∀ x ∈ rowSums t ++ colSums t, x = (s : Int)) (hs : 0 < s) : chkB t.length s t = true ∧ s ≤ 16 := by
  have hn : t.length = (gi t 0).length := by simpa [rowSums, colSums] using hl
  have hr : ∀ i : Nat, i < t.length → (gi t (i : Int)).sum = s := fun i hi => by
    refine hall _ (List.mem_append_left _ ?_)
    exact List.mem_map_of_mem (mem_gi hi)
  refine ⟨chk_all h hs hn hr fun j hj => ?_, ?_⟩
  · refine hall _ (List.mem_append_right _ ?_)
    unfold colSums
    exact List.mem_map.2 ⟨j, List.mem_range.2 (by omega), rfl⟩
  · have h1 := row_le_total h (mem_gi h.1)
    have h2 := hr 0 h.1
    omega
theorem Walk.TopBirkhoff (H : Heap) (u : AV) (t : List (List Int)) (ht : Sl (fun b => b < H.length) H u t) (sz : t.length * 24 ≤ 140737488351232) : WpF E H.length 3 [u] H fun v _ => v = .b true := by
  refine law_of (RetP.ro rfl fn3 rfl rfl ?_)
  unfold f3A
  simp (disch := (first | assumption | omega | (simp only [List.length_append, List.length_cons, List.length_nil]; omega))) only [↓wD,wU,Nat.reduceBEq,zx150,zx151,zx159,zx160,zx161,zx162,Nat.reduceAdd,Nat.reduceSub,Nat.reduceMul,Nat.reduceLeDiff,Nat.reduceLT,Nat.reduceEqDiff,Int.reduceAdd,Int.reduceSub,Int.reduceMul,Int.reduceNeg,Int.reduceLT,Int.reduceLE,Int.reduceEq,Int.reduceToNat,Int.cast_ofNat_Int,↓reduceIte]
  refine (copied_ret ht).toF fun y H1 hg1 hy => ?_
  have ht1 := ht.gr hg1
  have rt := rtable_ret ht1 sz
  by_cases hT : TabOk t
  case neg =>
    simp (disch := (first | assumption | omega | (simp only [List.length_append, List.length_cons, List.length_nil]; omega))) only [↓wD,wU,Nat.reduceBEq,zx150,zx151,zx159,zx160,zx161,zx162,Nat.reduceAdd,Nat.reduceSub,Nat.reduceMul,Nat.reduceLeDiff,Nat.reduceLT,Nat.reduceEqDiff,Int.reduceAdd,Int.reduceSub,Int.reduceMul,Int.reduceNeg,Int.reduceLT,Int.reduceLE,Int.reduceEq,Int.reduceToNat,Int.cast_ofNat_Int,↓reduceIte]
    refine (sumsX_err (q := fun _ => False) hy (fun q => hT (TabOk_cut.1 q))).to fun w H2 hg2 hw => ?_
    obtain ⟨v1, v2, v3, rfl, h1, h2, rfl⟩ := rv3 hw
    simp (disch := (first | assumption | omega | (simp only [List.length_append, List.length_cons, List.length_nil]; omega))) only [↓wD,wU,Nat.reduceBEq,zx150,zx151,zx159,zx160,zx161,zx162,Nat.reduceAdd,Nat.reduceSub,Nat.reduceMul,Nat.reduceLeDiff,Nat.reduceLT,Nat.reduceEqDiff,Int.reduceAdd,Int.reduceSub,Int.reduceMul,Int.reduceNeg,Int.reduceLT,Int.reduceLE,Int.reduceEq,Int.reduceToNat,Int.cast_ofNat_Int,↓reduceIte, adds_ret.call]
  rw [cutT_ok hT] at hy
  simp (disch := (first | assumption | omega | (simp only [List.length_append, List.length_cons, List.length_nil]; omega))) only [↓wD,wU,Nat.reduceBEq,zx150,zx151,zx159,zx160,zx161,zx162,Nat.reduceAdd,Nat.reduceSub,Nat.reduceMul,Nat.reduceLeDiff,Nat.reduceLT,Nat.reduceEqDiff,Int.reduceAdd,Int.reduceSub,Int.reduceMul,Int.reduceNeg,Int.reduceLT,Int.reduceLE,Int.reduceEq,Int.reduceToNat,Int.cast_ofNat_Int,↓reduceIte]
  refine (sumsX_ret hy hT).to fun w H2 hg2 hw => ?_
  obtain ⟨v1, v2, v3, rfl, h1, h2, rfl⟩ := rv3 hw
  have ht2 := ht1.gr hg2
  have rt2 := rtable_ret ht2 sz
  rw [decide_eq_true hT] at rt2
  have hc := hT.cols
  have hl1 := hT.1
  have hl3 := hT.2.1
  have rl : (rowSums t).length = t.length := by simp [rowSums]
  have cl : (colSums t).length = (gi t 0).length := by simp [colSums]
  replace h1 : Sl (fun b => H1.length ≤ b) H2 v1 (rowSums t) := (rvs h1).weak fun b hb => hb.elim (fun h => h.elim) id
  replace h2 : Sl (fun b => H1.length ≤ b) H2 v2 (colSums t) := (rvs h2).weak fun b hb => hb.elim (fun h => h.elim) id
  have g0 := ht2.get (k := (0 : Int)) (by omega) (by omega)
  have gl1 := hg1.1
  have gl2 := hg2.1
  have L1 := h1.I
  have L2 := h2.I.1
  have L0 := ht2.L
  have G0 := g0.I.1
  rw [rl] at L1
  rw [cl] at L2
  have d1 : decide (¬ (t.length : Int) = (t.length : Int)) = false := decide_eq_false fun q => q rfl
  have d2 : decide (¬ ((gi t 0).length : Int) = ((gi t 0).length : Int)) = false := decide_eq_false fun q => q rfl
  have hs0 : 0 ≤ gi (rowSums t) 0 ∧ gi (rowSums t) 0 ≤ 16 := by
    have e : gi (rowSums t) 0 = (gi t 0).sum := by
      have := gi_nat (xs := rowSums t) (i := 0) (by omega)
      have e2 := gi_nat (xs := t) (i := 0) (by omega)
      change gi (rowSums t) ((0 : Nat) : Int) = (gi t ((0 : Nat) : Int)).sum
      rw [this, e2]; simp [rowSums]
    have hm := mem_gi (xs := t) (i := 0) (by omega)
    rw [e]
    exact ⟨sum_nonneg fun x hx => ((hT.2.2.1 _ hm).2.2.2 x hx).1, row_le_total hT hm⟩
  obtain ⟨s, es⟩ := Int.eq_ofNat_of_zero_le hs0.1
  have hs16 : s ≤ 16 := by omega
  have d0 : ∀ x : Int, decide (x = x) = true := fun x => decide_eq_true rfl
  rw [es] at hs0
  have hl12 : (rowSums t ++ colSums t).length = t.length + (gi t 0).length := by rw [List.length_append, rl, cl]
  by_cases hB : 0 < (s : Int) ∧ (t.length : Int) = ((gi t 0).length : Int)
  case neg =>
    have bad : ∀ {k : List AI} {Q : Out → Fr → Heap → Prop} {c : ACode} {a : Fr} {H3 : Heap}, True := trivial
    have hd : decide (0 < (s : Int)) = false ∨ (decide (0 < (s : Int)) = true ∧ decide ((t.length : Int) = ((gi t 0).length : Int)) = false) := by
      by_cases h0 : 0 < (s : Int)
      · exact .inr ⟨decide_eq_true h0, decide_eq_false fun e => hB ⟨h0, e⟩⟩
      · exact .inl (decide_eq_false h0)
    rcases hd with d3 | ⟨d3, d4⟩
    · simp (disch := (first | assumption | omega | (simp only [List.length_append, List.length_cons, List.length_nil]; omega))) only [↓wD,wU,Nat.reduceBEq,zx150,zx151,zx159,zx160,zx161,zx162,Nat.reduceAdd,Nat.reduceSub,Nat.reduceMul,Nat.reduceLeDiff,Nat.reduceLT,Nat.reduceEqDiff,Int.reduceAdd,Int.reduceSub,Int.reduceMul,Int.reduceNeg,Int.reduceLT,Int.reduceLE,Int.reduceEq,Int.reduceToNat,Int.cast_ofNat_Int,↓reduceIte, rt2.call, L1, L2, L0, G0, d1, d2, es, d3]
      refine h1.extI (lo := H.length) (fun b hb => by omega) h2 (by omega) fun rv H3 hrv hk3 => ?_
      have hrI := hrv.I
      rw [hl12] at hrI
      simp (disch := (first | assumption | omega | (simp only [List.length_append, List.length_cons, List.length_nil]; omega))) only [↓wD,wU,Nat.reduceBEq,zx150,zx151,zx159,zx160,zx161,zx162,Nat.reduceAdd,Nat.reduceSub,Nat.reduceMul,Nat.reduceLeDiff,Nat.reduceLT,Nat.reduceEqDiff,Int.reduceAdd,Int.reduceSub,Int.reduceMul,Int.reduceNeg,Int.reduceLT,Int.reduceLE,Int.reduceEq,Int.reduceToNat,Int.cast_ofNat_Int,↓reduceIte, hrI]
      refine Wp.for (t.length + (gi t 0).length) (fun i a G => G = H3 ∧ a 6 = .i s ∧ a 7 = .b false ∧ a 67 = rv ∧ a 68 = .i (t.length + (gi t 0).length : Nat) ∧ a 69 = .i i) ?_ ?_
      · rintro i a G hi ⟨rfl, a6, a7, a67, a68, a69⟩ ih
        simp (disch := (first | assumption | omega | (simp only [List.length_append, List.length_cons, List.length_nil]; omega))) only [↓wD,wU,Nat.reduceBEq,zx150,zx151,zx159,zx160,zx161,zx162,Nat.reduceAdd,Nat.reduceSub,Nat.reduceMul,Nat.reduceLeDiff,Nat.reduceLT,Nat.reduceEqDiff,Int.reduceAdd,Int.reduceSub,Int.reduceMul,Int.reduceNeg,Int.reduceLT,Int.reduceLE,Int.reduceEq,Int.reduceToNat,Int.cast_ofNat_Int,↓reduceIte, a6, a7, a67, a68, a69]
        refine condP_split (fun hlt => ?_) (fun hlt => ?_)
        · have hi' : i < t.length + (gi t 0).length := by omega
          simp (disch := (first | assumption | omega | (simp only [List.length_append, List.length_cons, List.length_nil]; omega))) only [↓wD,wU,Nat.reduceBEq,zx150,zx151,zx159,zx160,zx161,zx162,Nat.reduceAdd,Nat.reduceSub,Nat.reduceMul,Nat.reduceLeDiff,Nat.reduceLT,Nat.reduceEqDiff,Int.reduceAdd,Int.reduceSub,Int.reduceMul,Int.reduceNeg,Int.reduceLT,Int.reduceLE,Int.reduceEq,Int.reduceToNat,Int.cast_ofNat_Int,↓reduceIte, a6, a7, a67, a68, a69, hrI]
          refine (ih hi').go ⟨rfl, ?_⟩
          simp (disch := (first | assumption | omega | (simp only [List.length_append, List.length_cons, List.length_nil]; omega))) only [↓wD,wU,Nat.reduceBEq,zx150,zx151,zx159,zx160,zx161,zx162,Nat.reduceAdd,Nat.reduceSub,Nat.reduceMul,Nat.reduceLeDiff,Nat.reduceLT,Nat.reduceEqDiff,Int.reduceAdd,Int.reduceSub,Int.reduceMul,Int.reduceNeg,Int.reduceLT,Int.reduceLE,Int.reduceEq,Int.reduceToNat,Int.cast_ofNat_Int,↓reduceIte, a6, a7, a67, a68, a69]
        · simp (disch := (first | assumption | omega | (simp only [List.length_append, List.length_cons, List.length_nil]; omega))) only [↓wD,wU,Nat.reduceBEq,zx150,zx151,zx159,zx160,zx161,zx162,Nat.reduceAdd,Nat.reduceSub,Nat.reduceMul,Nat.reduceLeDiff,Nat.reduceLT,Nat.reduceEqDiff,Int.reduceAdd,Int.reduceSub,Int.reduceMul,Int.reduceNeg,Int.reduceLT,Int.reduceLE,Int.reduceEq,Int.reduceToNat,Int.cast_ofNat_Int,↓reduceIte, a6, a7, a67, a68, a69, adds_ret.call]
      · simp (disch := (first | assumption | omega | (simp only [List.length_append, List.length_cons, List.length_nil]; omega))) only [↓wD,wU,Nat.reduceBEq,zx150,zx151,zx159,zx160,zx161,zx162,Nat.reduceAdd,Nat.reduceSub,Nat.reduceMul,Nat.reduceLeDiff,Nat.reduceLT,Nat.reduceEqDiff,Int.reduceAdd,Int.reduceSub,Int.reduceMul,Int.reduceNeg,Int.reduceLT,Int.reduceLE,Int.reduceEq,Int.reduceToNat,Int.cast_ofNat_Int,↓reduceIte]
    · simp (disch := (first | assumption | omega | (simp only [List.length_append, List.length_cons, List.length_nil]; omega))) only [↓wD,wU,Nat.reduceBEq,zx150,zx151,zx159,zx160,zx161,zx162,Nat.reduceAdd,Nat.reduceSub,Nat.reduceMul,Nat.reduceLeDiff,Nat.reduceLT,Nat.reduceEqDiff,Int.reduceAdd,Int.reduceSub,Int.reduceMul,Int.reduceNeg,Int.reduceLT,Int.reduceLE,Int.reduceEq,Int.reduceToNat,Int.cast_ofNat_Int,↓reduceIte, rt2.call, L1, L2, L0, G0, d1, d2, es, d3, d4]
      refine h1.extI (lo := H.length) (fun b hb => by omega) h2 (by omega) fun rv H3 hrv hk3 => ?_
      have hrI := hrv.I
      rw [hl12] at hrI
      simp (disch := (first | assumption | omega | (simp only [List.length_append, List.length_cons, List.length_nil]; omega))) only [↓wD,wU,Nat.reduceBEq,zx150,zx151,zx159,zx160,zx161,zx162,Nat.reduceAdd,Nat.reduceSub,Nat.reduceMul,Nat.reduceLeDiff,Nat.reduceLT,Nat.reduceEqDiff,Int.reduceAdd,Int.reduceSub,Int.reduceMul,Int.reduceNeg,Int.reduceLT,Int.reduceLE,Int.reduceEq,Int.reduceToNat,Int.cast_ofNat_Int,↓reduceIte, hrI]
      refine Wp.for (t.length + (gi t 0).length) (fun i a G => G = H3 ∧ a 6 = .i s ∧ a 7 = .b false ∧ a 67 = rv ∧ a 68 = .i (t.length + (gi t 0).length : Nat) ∧ a 69 = .i i) ?_ ?_
      · rintro i a G hi ⟨rfl, a6, a7, a67, a68, a69⟩ ih
        simp (disch := (first | assumption | omega | (simp only [List.length_append, List.length_cons, List.length_nil]; omega))) only [↓wD,wU,Nat.reduceBEq,zx150,zx151,zx159,zx160,zx161,zx162,Nat.reduceAdd,Nat.reduceSub,Nat.reduceMul,Nat.reduceLeDiff,Nat.reduceLT,Nat.reduceEqDiff,Int.reduceAdd,Int.reduceSub,Int.reduceMul,Int.reduceNeg,Int.reduceLT,Int.reduceLE,Int.reduceEq,Int.reduceToNat,Int.cast_ofNat_Int,↓reduceIte, a6, a7, a67, a68, a69]
        refine condP_split (fun hlt => ?_) (fun hlt => ?_)
        · have hi' : i < t.length + (gi t 0).length := by omega
          simp (disch := (first | assumption | omega | (simp only [List.length_append, List.length_cons, List.length_nil]; omega))) only [↓wD,wU,Nat.reduceBEq,zx150,zx151,zx159,zx160,zx161,zx162,Nat.reduceAdd,Nat.reduceSub,Nat.reduceMul,Nat.reduceLeDiff,Nat.reduceLT,Nat.reduceEqDiff,Int.reduceAdd,Int.reduceSub,Int.reduceMul,Int.reduceNeg,Int.reduceLT,Int.reduceLE,Int.reduceEq,Int.reduceToNat,Int.cast_ofNat_Int,↓reduceIte, a6, a7, a67, a68, a69, hrI]
          refine (ih hi').go ⟨rfl, ?_⟩
          simp (disch := (first | assumption | omega | (simp only [List.length_append, List.length_cons, List.length_nil]; omega))) only [↓wD,wU,Nat.reduceBEq,zx150,zx151,zx159,zx160,zx161,zx162,Nat.reduceAdd,Nat.reduceSub,Nat.reduceMul,Nat.reduceLeDiff,Nat.reduceLT,Nat.reduceEqDiff,Int.reduceAdd,Int.reduceSub,Int.reduceMul,Int.reduceNeg,Int.reduceLT,Int.reduceLE,Int.reduceEq,Int.reduceToNat,Int.cast_ofNat_Int,↓reduceIte, a6, a7, a67, a68, a69]
        · simp (disch := (first | assumption | omega | (simp only [List.length_append, List.length_cons, List.length_nil]; omega))) only [↓wD,wU,Nat.reduceBEq,zx150,zx151,zx159,zx160,zx161,zx162,Nat.reduceAdd,Nat.reduceSub,Nat.reduceMul,Nat.reduceLeDiff,Nat.reduceLT,Nat.reduceEqDiff,Int.reduceAdd,Int.reduceSub,Int.reduceMul,Int.reduceNeg,Int.reduceLT,Int.reduceLE,Int.reduceEq,Int.reduceToNat,Int.cast_ofNat_Int,↓reduceIte, a6, a7, a67, a68, a69, adds_ret.call]
      · simp (disch := (first | assumption | omega | (simp only [List.length_append, List.length_cons, List.length_nil]; omega))) only [↓wD,wU,Nat.reduceBEq,zx150,zx151,zx159,zx160,zx161,zx162,Nat.reduceAdd,Nat.reduceSub,Nat.reduceMul,Nat.reduceLeDiff,Nat.reduceLT,Nat.reduceEqDiff,Int.reduceAdd,Int.reduceSub,Int.reduceMul,Int.reduceNeg,Int.reduceLT,Int.reduceLE,Int.reduceEq,Int.reduceToNat,Int.cast_ofNat_Int,↓reduceIte]
  have d3 : decide (0 < (s : Int)) = true := decide_eq_true hB.1
  have d4 : decide ((t.length : Int) = ((gi t 0).length : Int)) = true := decide_eq_true hB.2
  have hsq := hB.2
  have hs1 := hB.1
  simp (disch := (first | assumption | omega | (simp only [List.length_append, List.length_cons, List.length_nil]; omega))) only [↓wD,wU,Nat.reduceBEq,zx150,zx151,zx159,zx160,zx161,zx162,Nat.reduceAdd,Nat.reduceSub,Nat.reduceMul,Nat.reduceLeDiff,Nat.reduceLT,Nat.reduceEqDiff,Int.reduceAdd,Int.reduceSub,Int.reduceMul,Int.reduceNeg,Int.reduceLT,Int.reduceLE,Int.reduceEq,Int.reduceToNat,Int.cast_ofNat_Int,↓reduceIte, rt2.call, L1, L2, L0, G0, d1, d2, es, d3, d4]
  refine h1.extI (lo := H.length) (fun b hb => by omega) h2 (by omega) fun rv H3 hrv hk3 => ?_
  have ht3 : Sl (fun b => b < H.length) H3 u t := ht2.mono (hk3.weak fun b hb e => by have := (h1.blkp e).1; omega) fun _ h => h
  have gl3 := hk3.1
  clear ht ht1 ht2 h1 h2 g0 hg1 hg2 hy rt rt2 L1 L2 L0 G0 hw hk3
  obtain ⟨rc, erc⟩ : ∃ rc, rowSums t ++ colSums t = rc := ⟨_, rfl⟩
  rw [erc] at hl12 hrv
  have hrI := hrv.I
  rw [hl12] at hrI
  simp (disch := (first | assumption | omega | (simp only [List.length_append, List.length_cons, List.length_nil]; omega))) only [↓wD,wU,Nat.reduceBEq,zx150,zx151,zx159,zx160,zx161,zx162,Nat.reduceAdd,Nat.reduceSub,Nat.reduceMul,Nat.reduceLeDiff,Nat.reduceLT,Nat.reduceEqDiff,Int.reduceAdd,Int.reduceSub,Int.reduceMul,Int.reduceNeg,Int.reduceLT,Int.reduceLE,Int.reduceEq,Int.reduceToNat,Int.cast_ofNat_Int,↓reduceIte, hrI]
  refine Wp.for (t.length + (gi t 0).length) (fun i a G => G = H3 ∧ a 0 = u ∧ a 6 = .i s ∧ a 67 = rv ∧ a 68 = .i (t.length + (gi t 0).length : Nat) ∧ a 69 = .i i ∧ ∃ B : Bool, a 7 = .b B ∧ (B = true → ∀ x ∈ rc.take i, x = (s : Int))) ?_ ?_
  · rintro i a G hi ⟨rfl, a0, a6, a67, a68, a69, B, a7, hB2⟩ ih
    simp (disch := (first | assumption | omega | (simp only [List.length_append, List.length_cons, List.length_nil]; omega))) only [↓wD,wU,Nat.reduceBEq,zx150,zx151,zx159,zx160,zx161,zx162,Nat.reduceAdd,Nat.reduceSub,Nat.reduceMul,Nat.reduceLeDiff,Nat.reduceLT,Nat.reduceEqDiff,Int.reduceAdd,Int.reduceSub,Int.reduceMul,Int.reduceNeg,Int.reduceLT,Int.reduceLE,Int.reduceEq,Int.reduceToNat,Int.cast_ofNat_Int,↓reduceIte, a0, a6, a7, a67, a68, a69]
    refine condP_split (fun hlt => ?_) (fun hlt => ?_)
    · have hi' : i < t.length + (gi t 0).length := by omega
      cases B with
      | false =>
        simp (disch := (first | assumption | omega | (simp only [List.length_append, List.length_cons, List.length_nil]; omega))) only [↓wD,wU,Nat.reduceBEq,zx150,zx151,zx159,zx160,zx161,zx162,Nat.reduceAdd,Nat.reduceSub,Nat.reduceMul,Nat.reduceLeDiff,Nat.reduceLT,Nat.reduceEqDiff,Int.reduceAdd,Int.reduceSub,Int.reduceMul,Int.reduceNeg,Int.reduceLT,Int.reduceLE,Int.reduceEq,Int.reduceToNat,Int.cast_ofNat_Int,↓reduceIte, a0, a6, a7, a67, a68, a69, hrI]
        refine (ih hi').go ⟨rfl, ?_⟩
        simp (disch := (first | assumption | omega | (simp only [List.length_append, List.length_cons, List.length_nil]; omega))) only [↓wD,wU,Nat.reduceBEq,zx150,zx151,zx159,zx160,zx161,zx162,Nat.reduceAdd,Nat.reduceSub,Nat.reduceMul,Nat.reduceLeDiff,Nat.reduceLT,Nat.reduceEqDiff,Int.reduceAdd,Int.reduceSub,Int.reduceMul,Int.reduceNeg,Int.reduceLT,Int.reduceLE,Int.reduceEq,Int.reduceToNat,Int.cast_ofNat_Int,↓reduceIte, a0, a6, a7, a67, a68, a69]
        exact ⟨false, rfl, fun e => nomatch e⟩
      | true =>
        simp (disch := (first | assumption | omega | (simp only [List.length_append, List.length_cons, List.length_nil]; omega))) only [↓wD,wU,Nat.reduceBEq,zx150,zx151,zx159,zx160,zx161,zx162,Nat.reduceAdd,Nat.reduceSub,Nat.reduceMul,Nat.reduceLeDiff,Nat.reduceLT,Nat.reduceEqDiff,Int.reduceAdd,Int.reduceSub,Int.reduceMul,Int.reduceNeg,Int.reduceLT,Int.reduceLE,Int.reduceEq,Int.reduceToNat,Int.cast_ofNat_Int,↓reduceIte, a0, a6, a7, a67, a68, a69, hrI]
        refine (ih hi').go ⟨rfl, ?_⟩
        simp (disch := (first | assumption | omega | (simp only [List.length_append, List.length_cons, List.length_nil]; omega))) only [↓wD,wU,Nat.reduceBEq,zx150,zx151,zx159,zx160,zx161,zx162,Nat.reduceAdd,Nat.reduceSub,Nat.reduceMul,Nat.reduceLeDiff,Nat.reduceLT,Nat.reduceEqDiff,Int.reduceAdd,Int.reduceSub,Int.reduceMul,Int.reduceNeg,Int.reduceLT,Int.reduceLE,Int.reduceEq,Int.reduceToNat,Int.cast_ofNat_Int,↓reduceIte, a0, a6, a7, a67, a68, a69]
        refine ⟨_, rfl, fun e => ?_⟩
        exact mem_take_gi (hB2 rfl) (by omega) (of_decide_eq_true e)
    · cases B with
      | false => simp (disch := (first | assumption | omega | (simp only [List.length_append, List.length_cons, List.length_nil]; omega))) only [↓wD,wU,Nat.reduceBEq,zx150,zx151,zx159,zx160,zx161,zx162,Nat.reduceAdd,Nat.reduceSub,Nat.reduceMul,Nat.reduceLeDiff,Nat.reduceLT,Nat.reduceEqDiff,Int.reduceAdd,Int.reduceSub,Int.reduceMul,Int.reduceNeg,Int.reduceLT,Int.reduceLE,Int.reduceEq,Int.reduceToNat,Int.cast_ofNat_Int,↓reduceIte, a0, a6, a7, a67, a68, a69, adds_ret.call]
      | true =>
        have hall := hB2 rfl
        rw [List.take_of_length_le (by omega)] at hall
        rw [← erc] at hall
        obtain ⟨hchk, hs16'⟩ := same_all hT (s := s) (by rw [rl, cl]; omega) hall (by omega)
        obtain ⟨mix, hsp, q1, q16, ck⟩ := chk_elim hchk hl1 (by omega) (by omega) hs16
        clear hall hchk ih hrI hrv erc hl12 hB2 a67 a68 a69
        obtain ⟨d, ed⟩ : ∃ d, lcmF (mixF t s).flatten = d := ⟨_, rfl⟩
        have L0 := ht3.L
        have ml : (mixF t s).length = t.length := by simp [mixF]
        simp (disch := (first | assumption | omega | (simp only [List.length_append, List.length_cons, List.length_nil]; omega))) only [↓wD,wU,Nat.reduceBEq,zx150,zx151,zx159,zx160,zx161,zx162,Nat.reduceAdd,Nat.reduceSub,Nat.reduceMul,Nat.reduceLeDiff,Nat.reduceLT,Nat.reduceEqDiff,Int.reduceAdd,Int.reduceSub,Int.reduceMul,Int.reduceNeg,Int.reduceLT,Int.reduceLE,Int.reduceEq,Int.reduceToNat,Int.cast_ofNat_Int,↓reduceIte, a0, a6, a7, L0.1]
        refine Wp.for t.length (fun i a G' => ∃ o10 o11, a 0 = u ∧ a 6 = .i s ∧ a 10 = o10 ∧ a 11 = o11 ∧ a 83 = u ∧ a 84 = .i t.length ∧ a 85 = .i i ∧ Gr G G' ∧ Acc G.length (fun b => G.length ≤ b ∧ o11.blk ≠ some b) G' o10 ((mixF t s).take i) ∧ Acc G.length (fun b => G.length ≤ b ∧ o10.blk ≠ some b) G' o11 ((mixF t s).take i) ∧ ∀ b, o10.blk = some b → o11.blk ≠ some b) ?_ ?_
        · clear a0 a6 a7 hlt a
          rintro i a K hi ⟨o10, o11, a0, a6, a10, a11, a83, a84, a85, hg, A10, A11, D⟩ ih
          have gK := hg.1
          simp (disch := (first | assumption | omega | (simp only [List.length_append, List.length_cons, List.length_nil]; omega))) only [↓wD,wU,Nat.reduceBEq,zx150,zx151,zx159,zx160,zx161,zx162,Nat.reduceAdd,Nat.reduceSub,Nat.reduceMul,Nat.reduceLeDiff,Nat.reduceLT,Nat.reduceEqDiff,Int.reduceAdd,Int.reduceSub,Int.reduceMul,Int.reduceNeg,Int.reduceLT,Int.reduceLE,Int.reduceEq,Int.reduceToNat,Int.cast_ofNat_Int,↓reduceIte, a0, a6, a10, a11, a83, a84, a85]
          refine condP_split (fun hlt => ?_) (fun hlt => ?_)
          · have hi' : i < t.length := by omega
            have htK := ht3.gr hg
            have LK := htK.L
            have g := htK.get (k := (i : Int)) (by omega) (by omega)
            obtain ⟨y, ey⟩ : ∃ y, u.get K (i : Int) = y := ⟨_, rfl⟩
            rw [ey] at g
            have wd := hT.width hi'
            have gI := g.I
            have er := mix_row (s := s) hi'
            have erl : (gi (mixF t s) (i : Int)).length = (gi t (i : Int)).length := by rw [er]; simp
            obtain ⟨row, erow⟩ : ∃ row, gi (mixF t s) (i : Int) = row := ⟨_, rfl⟩
            rw [erow] at er erl
            simp (disch := (first | assumption | omega | (simp only [List.length_append, List.length_cons, List.length_nil]; omega))) only [↓wD,wU,Nat.reduceBEq,zx150,zx151,zx159,zx160,zx161,zx162,Nat.reduceAdd,Nat.reduceSub,Nat.reduceMul,Nat.reduceLeDiff,Nat.reduceLT,Nat.reduceEqDiff,Int.reduceAdd,Int.reduceSub,Int.reduceMul,Int.reduceNeg,Int.reduceLT,Int.reduceLE,Int.reduceEq,Int.reduceToNat,Int.cast_ofNat_Int,↓reduceIte, a0, a6, a10, a11, a83, a84, a85, LK, ey, gI.1]
            refine Wp.for (gi t (i : Int)).length (fun j a G2 => ∃ l, a 0 = u ∧ a 6 = .i s ∧ a 10 = o10 ∧ a 11 = o11 ∧ a 83 = u ∧ a 84 = .i t.length ∧ a 85 = .i i ∧ a 89 = y ∧ a 90 = .i (gi t (i : Int)).length ∧ a 91 = .i j ∧ a 14 = l ∧ Gr K G2 ∧ Acc K.length (fun _ => False) G2 l (row.take j)) ?_ ?_
            · clear a0 a6 a10 a11 a83 a84 a85 hlt a
              rintro j a G2 hj ⟨l, a0, a6, a10, a11, a83, a84, a85, a89, a90, a91, a14, hg2, hl⟩ ih2
              have gG2 := hg2.1
              simp (disch := (first | assumption | omega | (simp only [List.length_append, List.length_cons, List.length_nil]; omega))) only [↓wD,wU,Nat.reduceBEq,zx150,zx151,zx159,zx160,zx161,zx162,Nat.reduceAdd,Nat.reduceSub,Nat.reduceMul,Nat.reduceLeDiff,Nat.reduceLT,Nat.reduceEqDiff,Int.reduceAdd,Int.reduceSub,Int.reduceMul,Int.reduceNeg,Int.reduceLT,Int.reduceLE,Int.reduceEq,Int.reduceToNat,Int.cast_ofNat_Int,↓reduceIte, a0, a6, a10, a11, a83, a84, a85, a89, a90, a91, a14]
              refine condP_split (fun hlt => ?_) (fun hlt => ?_)
              · have hj' : j < (gi t (i : Int)).length := by omega
                have gI2 := (g.gr hg2).I
                have hen := hT.entry hi' (j := j) (by omega)
                obtain ⟨X, eX⟩ := Int.eq_ofNat_of_zero_le hen.1
                have fr := fun G => rfrac_ret (H := G) X s (by omega) (by omega) (by omega)
                have eg : gi row (j : Int) = fracN X s := by
                  have hjr : j < ((gi t (i : Int)).map fun x => fracN x.toNat s).length := by simpa using hj'
                  have e1 := gi_nat (xs := (gi t (i : Int)).map fun x => fracN x.toNat s) hjr
                  have e2 := gi_nat (xs := gi t (i : Int)) hj'
                  rw [er, e1, List.getElem_map, ← e2, eX]; simp
                have etk : row.take (j + 1) = row.take j ++ [fracN X s] := by rw [take_gi (by omega), eg]
                simp (disch := (first | assumption | omega | (simp only [List.length_append, List.length_cons, List.length_nil]; omega))) only [↓wD,wU,Nat.reduceBEq,zx150,zx151,zx159,zx160,zx161,zx162,Nat.reduceAdd,Nat.reduceSub,Nat.reduceMul,Nat.reduceLeDiff,Nat.reduceLT,Nat.reduceEqDiff,Int.reduceAdd,Int.reduceSub,Int.reduceMul,Int.reduceNeg,Int.reduceLT,Int.reduceLE,Int.reduceEq,Int.reduceToNat,Int.cast_ofNat_Int,↓reduceIte, a0, a6, a10, a11, a83, a84, a85, a89, a90, a91, a14, gI2, eX, (fr _).call]
                refine hl.push2 (by omega) (by omega) (by rw [List.length_take]; have := hc.2; omega) fun l' G3 hl' hk3 hl3 _ => ?_
                simp (disch := (first | assumption | omega | (simp only [List.length_append, List.length_cons, List.length_nil]; omega))) only [↓wD,wU,Nat.reduceBEq,zx150,zx151,zx159,zx160,zx161,zx162,Nat.reduceAdd,Nat.reduceSub,Nat.reduceMul,Nat.reduceLeDiff,Nat.reduceLT,Nat.reduceEqDiff,Int.reduceAdd,Int.reduceSub,Int.reduceMul,Int.reduceNeg,Int.reduceLT,Int.reduceLE,Int.reduceEq,Int.reduceToNat,Int.cast_ofNat_Int,↓reduceIte, a0, a6, a10, a11, a83, a84, a85, a89, a90, a91]
                refine (ih2 hj').go ⟨l', ?_⟩
                simp (disch := (first | assumption | omega | (simp only [List.length_append, List.length_cons, List.length_nil]; omega))) only [↓wD,wU,Nat.reduceBEq,zx150,zx151,zx159,zx160,zx161,zx162,Nat.reduceAdd,Nat.reduceSub,Nat.reduceMul,Nat.reduceLeDiff,Nat.reduceLT,Nat.reduceEqDiff,Int.reduceAdd,Int.reduceSub,Int.reduceMul,Int.reduceNeg,Int.reduceLT,Int.reduceLE,Int.reduceEq,Int.reduceToNat,Int.cast_ofNat_Int,↓reduceIte, a0, a6, a10, a11, a83, a84, a85, a89, a90, a91]
                rw [etk]
                exact ⟨hg2.push hl (Nat.le_refl _) hk3, hl'⟩
              · obtain rfl : j = (gi t (i : Int)).length := by omega
                have etk : row.take (gi t (i : Int)).length = row := List.take_of_length_le (by omega)
                rw [etk] at hl
                have hls : Sl (fun b => K.length ≤ b) G2 l row := hl.sl.weak fun b h => h.elim (fun h => h.elim) id
                have b10 := fun b e => A10.blk_lt (b := b) e
                have b11 := fun b e => A11.blk_lt (b := b) e
                have A10G := A10.gr hg2
                have A11G := (A11.gr hg2).low
                have emt : (mixF t s).take (i + 1) = (mixF t s).take i ++ [row] := by rw [take_gi (by omega), erow]
                simp (disch := (first | assumption | omega | (simp only [List.length_append, List.length_cons, List.length_nil]; omega))) only [↓wD,wU,Nat.reduceBEq,zx150,zx151,zx159,zx160,zx161,zx162,Nat.reduceAdd,Nat.reduceSub,Nat.reduceMul,Nat.reduceLeDiff,Nat.reduceLT,Nat.reduceEqDiff,Int.reduceAdd,Int.reduceSub,Int.reduceMul,Int.reduceNeg,Int.reduceLT,Int.reduceLE,Int.reduceEq,Int.reduceToNat,Int.cast_ofNat_Int,↓reduceIte, a0, a6, a10, a11, a83, a84, a85, a89, a90, a91, a14, hls.cellsV]
                refine A10G.pushL (q := fun b => K.length ≤ b) (by omega) (by omega) hls (fun b hb => ⟨⟨by omega, fun e => by have := (b11 b e).2; omega⟩, fun e => by have := (b10 b e).2; omega⟩) (by rw [List.length_take]; omega) fun o10' K1 A10' hk1 hl1' hb1 => ?_
                have hls1 : Sl (fun b => K.length ≤ b) K1 l row := hls.mono (hk1.weak fun b hb e => by have := (b10 b e).2; omega) fun _ h => h
                have b10' : ∀ b, o10'.blk = some b → b = K1.length - 1 := fun b e => by rw [hb1] at e; cases e; rfl
                have A11K := A11G.kp hk1 (fun b e e2 => D b e2 e) fun b hb => hb.1.2
                simp (disch := (first | assumption | omega | (simp only [List.length_append, List.length_cons, List.length_nil]; omega))) only [↓wD,wU,Nat.reduceBEq,zx150,zx151,zx159,zx160,zx161,zx162,Nat.reduceAdd,Nat.reduceSub,Nat.reduceMul,Nat.reduceLeDiff,Nat.reduceLT,Nat.reduceEqDiff,Int.reduceAdd,Int.reduceSub,Int.reduceMul,Int.reduceNeg,Int.reduceLT,Int.reduceLE,Int.reduceEq,Int.reduceToNat,Int.cast_ofNat_Int,↓reduceIte, a0, a6, a11, a83, a84, a85, a14]
                refine (cloneF_ret hls1 (by rw [erl]; have := hc.2; omega)).toF fun z K2 hg3 hz => ?_
                have gK2 := hg3.1
                simp (disch := (first | assumption | omega | (simp only [List.length_append, List.length_cons, List.length_nil]; omega))) only [↓wD,wU,Nat.reduceBEq,zx150,zx151,zx159,zx160,zx161,zx162,Nat.reduceAdd,Nat.reduceSub,Nat.reduceMul,Nat.reduceLeDiff,Nat.reduceLT,Nat.reduceEqDiff,Int.reduceAdd,Int.reduceSub,Int.reduceMul,Int.reduceNeg,Int.reduceLT,Int.reduceLE,Int.reduceEq,Int.reduceToNat,Int.cast_ofNat_Int,↓reduceIte, a0, a6, a11, a83, a84, a85, hz.cellsV]
                have A11W : Acc G.length (fun b => G.length ≤ b ∧ o10'.blk ≠ some b) K2 o11 ((mixF t s).take i) := (A11K.gr hg3).weak fun b hb => ⟨hb.1.1, fun e => by have h1 := b10' b e; have h2 := hb.2; omega⟩
                refine A11W.pushL (q := fun b => K1.length ≤ b) (by omega) (by omega) hz (fun b hb => ⟨⟨by omega, fun e => by have := b10' b e; omega⟩, fun e => by have := (b11 b e).2; omega⟩) (by rw [List.length_take]; omega) fun o11' K3 A11' hk3 hl3' hb3 => ?_
                have b11' : ∀ b, o11'.blk = some b → b = K3.length - 1 := fun b e => by rw [hb3] at e; cases e; rfl
                simp (disch := (first | assumption | omega | (simp only [List.length_append, List.length_cons, List.length_nil]; omega))) only [↓wD,wU,Nat.reduceBEq,zx150,zx151,zx159,zx160,zx161,zx162,Nat.reduceAdd,Nat.reduceSub,Nat.reduceMul,Nat.reduceLeDiff,Nat.reduceLT,Nat.reduceEqDiff,Int.reduceAdd,Int.reduceSub,Int.reduceMul,Int.reduceNeg,Int.reduceLT,Int.reduceLE,Int.reduceEq,Int.reduceToNat,Int.cast_ofNat_Int,↓reduceIte, a0, a6, a83, a84, a85]
                refine (ih hi').go ⟨o10', o11', ?_⟩
                simp (disch := (first | assumption | omega | (simp only [List.length_append, List.length_cons, List.length_nil]; omega))) only [↓wD,wU,Nat.reduceBEq,zx150,zx151,zx159,zx160,zx161,zx162,Nat.reduceAdd,Nat.reduceSub,Nat.reduceMul,Nat.reduceLeDiff,Nat.reduceLT,Nat.reduceEqDiff,Int.reduceAdd,Int.reduceSub,Int.reduceMul,Int.reduceNeg,Int.reduceLT,Int.reduceLE,Int.reduceEq,Int.reduceToNat,Int.cast_ofNat_Int,↓reduceIte, a0, a6, a83, a84, a85]
                rw [emt]
                refine ⟨?_, ?_, A11', ?_⟩
                · exact (((hg.trans hg2).push A10G (Nat.le_refl _) hk1).trans hg3).push A11W (Nat.le_refl _) hk3
                · refine ((A10'.low.gr hg3).kp hk3 (fun b e e2 => ?_) fun b hb => hb.1.2).weak fun b hb => ⟨hb.1.1, fun e => ?_⟩
                  · have h1 := b10' b e
                    have h2 := (b11 b e2).2
                    omega
                  · have h1 := b11' b e
                    have h2 := hb.2
                    omega
                · intro b e e2
                  have h1 := b10' b e
                  have h2 := b11' b e2
                  omega
            · simp (disch := (first | assumption | omega | (simp only [List.length_append, List.length_cons, List.length_nil]; omega))) only [↓wD,wU,Nat.reduceBEq,zx150,zx151,zx159,zx160,zx161,zx162,Nat.reduceAdd,Nat.reduceSub,Nat.reduceMul,Nat.reduceLeDiff,Nat.reduceLT,Nat.reduceEqDiff,Int.reduceAdd,Int.reduceSub,Int.reduceMul,Int.reduceNeg,Int.reduceLT,Int.reduceLE,Int.reduceEq,Int.reduceToNat,Int.cast_ofNat_Int,↓reduceIte, a0, a6, a10, a11, a83, a84, a85]
              exact ⟨.nils, rfl, Gr.refl _, Acc.nil⟩
          · obtain rfl : i = t.length := by omega
            rw [List.take_of_length_le (by omega)] at A10 A11
            have mS := A10.sl
            have aS := A11.sl
            clear A10 A11 D ih hlt hi
            simp (disch := (first | assumption | omega | (simp only [List.length_append, List.length_cons, List.length_nil]; omega))) only [↓wD,wU,Nat.reduceBEq,zx150,zx151,zx159,zx160,zx161,zx162,Nat.reduceAdd,Nat.reduceSub,Nat.reduceMul,Nat.reduceLeDiff,Nat.reduceLT,Nat.reduceEqDiff,Int.reduceAdd,Int.reduceSub,Int.reduceMul,Int.reduceNeg,Int.reduceLT,Int.reduceLE,Int.reduceEq,Int.reduceToNat,Int.cast_ofNat_Int,↓reduceIte, a0, a6, a10, a11]
            refine (split_ret mS mix hsp q16).to fun w K2 hg2 hw => ?_
            obtain ⟨pv, wv, ev, rfl, hp, hws, rfl⟩ := rv3 hw
            replace hp := rvs hp
            replace hws := rvs hws
            have pL := hp.lenV
            have wL := hws.lenV
            have el1 : ((SplO (mixF t s)).map (·.1)).length = (SplO (mixF t s)).length := by simp
            have el2 : (weiF (lcmF (mixF t s).flatten) (SplO (mixF t s))).length = (SplO (mixF t s)).length := by simp [weiF]
            rw [el1] at pL
            rw [el2] at wL
            have cs := checkSplit_ret (aS.gr hg2) hp hws ck
            have d5 : decide (¬ ((SplO (mixF t s)).length : Int) = ((SplO (mixF t s)).length : Int)) = false := decide_eq_false fun q => q rfl
            have d6 : decide (((SplO (mixF t s)).length : Int) < 1) = false := decide_eq_false (by omega)
            simp (disch := (first | assumption | omega | (simp only [List.length_append, List.length_cons, List.length_nil]; omega))) only [↓wD,wU,Nat.reduceBEq,zx150,zx151,zx159,zx160,zx161,zx162,Nat.reduceAdd,Nat.reduceSub,Nat.reduceMul,Nat.reduceLeDiff,Nat.reduceLT,Nat.reduceEqDiff,Int.reduceAdd,Int.reduceSub,Int.reduceMul,Int.reduceNeg,Int.reduceLT,Int.reduceLE,Int.reduceEq,Int.reduceToNat,Int.cast_ofNat_Int,↓reduceIte, a11, pL, wL, d5, d6, cs.call, adds_ret.call]
        · simp (disch := (first | assumption | omega | (simp only [List.length_append, List.length_cons, List.length_nil]; omega))) only [↓wD,wU,Nat.reduceBEq,zx150,zx151,zx159,zx160,zx161,zx162,Nat.reduceAdd,Nat.reduceSub,Nat.reduceMul,Nat.reduceLeDiff,Nat.reduceLT,Nat.reduceEqDiff,Int.reduceAdd,Int.reduceSub,Int.reduceMul,Int.reduceNeg,Int.reduceLT,Int.reduceLE,Int.reduceEq,Int.reduceToNat,Int.cast_ofNat_Int,↓reduceIte, a0, a6]
          exact ⟨.nils, .nils, rfl, rfl, Gr.refl _, Acc.nil, Acc.nil, fun b e => nomatch e⟩
  · simp (disch := (first | assumption | omega | (simp only [List.length_append, List.length_cons, List.length_nil]; omega))) only [↓wD,wU,Nat.reduceBEq,zx150,zx151,zx159,zx160,zx161,zx162,Nat.reduceAdd,Nat.reduceSub,Nat.reduceMul,Nat.reduceLeDiff,Nat.reduceLT,Nat.reduceEqDiff,Int.reduceAdd,Int.reduceSub,Int.reduceMul,Int.reduceNeg,Int.reduceLT,Int.reduceLE,Int.reduceEq,Int.reduceToNat,Int.cast_ofNat_Int,↓reduceIte]
    exact ⟨true, rfl, by simp⟩
end Go.Proofs.Ytmmbakggmlfffaa
