/- What the law needs: what its functions do, and the laws on lists behind it. No condition. -/
import Derived.Test.YtflekaacffdakaaPt0
import Derived.Laws.StructEq
import Derived.KernelRfl
import Derived.WalkKit
import Derived.ProofKit
import Derived.OpenShut
import Derived.ShutString
import Derived.ChangeOld
import Derived.Below
import Derived.SizedLaws
import Derived.Carry
set_option linter.unusedSimpArgs false
set_option linter.unusedVariables false
namespace Go.Proofs.Ytflekaacffdakaa
open Go Go.AM Go.Proofs
theorem Walk.CountsChances (H : Heap) (u : AV) (t : List (List Int)) (ht : Sl (fun b => b < H.length) H u t) (sz : t.length * 24 ≤ 140737488351232) : WpF E H.length 13 [u] H fun v _ => v = .b true := by
  refine law_of (RetP.ro rfl fn13 rfl rfl ?_)
  unfold f13A
  simp (disch := (first | assumption | omega | (simp only [List.length_append, List.length_cons, List.length_nil]; omega))) only [↓wD,wU,Nat.reduceBEq,zx150,zx151,zx159,zx160,zx161,zx162,Nat.reduceAdd,Nat.reduceSub,Nat.reduceMul,Nat.reduceLeDiff,Nat.reduceLT,Nat.reduceEqDiff,Int.reduceAdd,Int.reduceSub,Int.reduceMul,Int.reduceNeg,Int.reduceLT,Int.reduceLE,Int.reduceEq,Int.reduceToNat,Int.cast_ofNat_Int,↓reduceIte]
  refine (table_ret ht).toFX fun y H1 x1 hy => ?_
  have ht1 := ht.kp (x1.all _).kp
  have hl1 := x1.1
  by_cases h : TabOk t
  · rw [cutT_ok h] at hy
    have c1 := chance_ret hy h
    obtain ⟨A, eA⟩ : ∃ A, chF t = A := ⟨_, rfl⟩
    obtain ⟨B, eB⟩ : ∃ B, taF t = B := ⟨_, rfl⟩
    rw [eA] at c1
    obtain ⟨A1, A2⟩ := A
    obtain ⟨B1, B2⟩ := B
    have hst : st H.length (H1 ++ [Blk.cells [.int .i64 0, .int .i64 0]]) H1.length 0 [.i A1, .i A2] = some (H1 ++ [Blk.cells [.i A1, .i A2]]) := by
      rw [st_of get_last (by omega) (by simp)]
      congr 1
      simp [wr]
    simp (disch := (first | assumption | omega | (simp only [List.length_append, List.length_cons, List.length_nil]; omega))) only [↓wD,wU,Nat.reduceBEq,zx150,zx151,zx159,zx160,zx161,zx162,Nat.reduceAdd,Nat.reduceSub,Nat.reduceMul,Nat.reduceLeDiff,Nat.reduceLT,Nat.reduceEqDiff,Int.reduceAdd,Int.reduceSub,Int.reduceMul,Int.reduceNeg,Int.reduceLT,Int.reduceLE,Int.reduceEq,Int.reduceToNat,Int.cast_ofNat_Int,↓reduceIte, c1.call, hst]
    refine (table_ret (ht1.app _)).toFX fun y2 H2 x2 hy2 => ?_
    rw [cutT_ok h] at hy2
    have ht2 := (ht1.app [Blk.cells [.i A1, .i A2]]).kp (x2.all _).kp
    have g2 : H2[H1.length]? = some (.cells [.i A1, .i A2]) := x2.get trivial get_last
    have hl2 := x2.1
    simp only [List.length_append, List.length_singleton] at hl2
    have c2 := tail_ret hy2 h
    rw [eB] at c2
    have hst2 : st H.length (H2 ++ [Blk.cells [.int .i64 0, .int .i64 0]]) H2.length 0 [.i B1, .i B2] = some (H2 ++ [Blk.cells [.i B1, .i B2]]) := by
      rw [st_of get_last (by omega) (by simp)]
      congr 1
      simp [wr]
    have ht3 := ht2.app [Blk.cells [.i B1, .i B2]]
    have r1 := rchance_ret ht3 h
    have r2 := rtail_ret ht3 h
    have rt := rtable_ret ht3 sz
    rw [decide_eq_true h] at rt
    rw [eA] at r1
    rw [eB] at r2
    have g3 : (H2 ++ [Blk.cells [.i B1, .i B2]])[H1.length]? = some (.cells [.i A1, .i A2]) := by rw [List.getElem?_append_left (by omega)]; exact g2
    have g4 : (H2 ++ [Blk.cells [.i B1, .i B2]])[H2.length]? = some (.cells [.i B1, .i B2]) := get_last
    generalize e5 : H2 ++ [Blk.cells [.i B1, .i B2]] = H5 at hst2 ht3 r1 r2 rt g3 g4
    simp (disch := (first | assumption | omega | (simp only [List.length_append, List.length_cons, List.length_nil]; omega))) only [↓wD,wU,Nat.reduceBEq,zx150,zx151,zx159,zx160,zx161,zx162,Nat.reduceAdd,Nat.reduceSub,Nat.reduceMul,Nat.reduceLeDiff,Nat.reduceLT,Nat.reduceEqDiff,Int.reduceAdd,Int.reduceSub,Int.reduceMul,Int.reduceNeg,Int.reduceLT,Int.reduceLE,Int.reduceEq,Int.reduceToNat,Int.cast_ofNat_Int,↓reduceIte, c2.call, hst2, rt.call, ldn_of g3, ldn_of g4, r1.call, r2.call, awake_ret.call]
  · have h' : ¬ TabOk (cutT t) := fun hc => h (TabOk_cut.1 hc)
    have c1 := chance_err hy h'
    have hst : st H.length (H1 ++ [Blk.cells [.int .i64 0, .int .i64 0]]) H1.length 0 [.i 0, .i 0] = some (H1 ++ [Blk.cells [.i 0, .i 0]]) := by
      rw [st_of get_last (by omega) (by simp)]
      congr 1
      simp [wr]
    simp (disch := (first | assumption | omega | (simp only [List.length_append, List.length_cons, List.length_nil]; omega))) only [↓wD,wU,Nat.reduceBEq,zx150,zx151,zx159,zx160,zx161,zx162,Nat.reduceAdd,Nat.reduceSub,Nat.reduceMul,Nat.reduceLeDiff,Nat.reduceLT,Nat.reduceEqDiff,Int.reduceAdd,Int.reduceSub,Int.reduceMul,Int.reduceNeg,Int.reduceLT,Int.reduceLE,Int.reduceEq,Int.reduceToNat,Int.cast_ofNat_Int,↓reduceIte, c1.call, hst]
    refine (table_ret (ht1.app _)).toFX fun y2 H2 x2 hy2 => ?_
    have ht2 := (ht1.app [Blk.cells [.i 0, .i 0]]).kp (x2.all _).kp
    have g2 : H2[H1.length]? = some (.cells [.i 0, .i 0]) := x2.get trivial get_last
    have hl2 := x2.1
    simp only [List.length_append, List.length_singleton] at hl2
    have c2 := tail_err hy2 h'
    have hst2 : st H.length (H2 ++ [Blk.cells [.int .i64 0, .int .i64 0]]) H2.length 0 [.i 0, .i 0] = some (H2 ++ [Blk.cells [.i 0, .i 0]]) := by
      rw [st_of get_last (by omega) (by simp)]
      congr 1
      simp [wr]
    have ht3 := ht2.app [Blk.cells [.i 0, .i 0]]
    have rt := rtable_ret ht3 sz
    rw [decide_eq_false h] at rt
    have g3 : (H2 ++ [Blk.cells [.i 0, .i 0]])[H1.length]? = some (.cells [.i 0, .i 0]) := by rw [List.getElem?_append_left (by omega)]; exact g2
    have g4 : (H2 ++ [Blk.cells [.i 0, .i 0]])[H2.length]? = some (.cells [.i 0, .i 0]) := get_last
    simp (disch := (first | assumption | omega | (simp only [List.length_append, List.length_cons, List.length_nil]; omega))) only [↓wD,wU,Nat.reduceBEq,zx150,zx151,zx159,zx160,zx161,zx162,Nat.reduceAdd,Nat.reduceSub,Nat.reduceMul,Nat.reduceLeDiff,Nat.reduceLT,Nat.reduceEqDiff,Int.reduceAdd,Int.reduceSub,Int.reduceMul,Int.reduceNeg,Int.reduceLT,Int.reduceLE,Int.reduceEq,Int.reduceToNat,Int.cast_ofNat_Int,↓reduceIte, c2.call, hst2, rt.call, ldn_of g3, ldn_of g4, (none_ret _ _).call, awake_ret.call]
end Go.Proofs.Ytflekaacffdakaa
