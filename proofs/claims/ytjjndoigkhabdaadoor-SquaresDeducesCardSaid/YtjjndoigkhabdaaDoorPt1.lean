/- What the law needs: what its functions do, and the laws on lists behind it. No condition. -/
import Derived.Test.YtjjndoigkhabdaaDoorPt0
import Derived.Lib.TrailingZeros
import Derived.Shelf.Spec.TrailingZeros
import Derived.KernelRfl
import Derived.Laws.StructEq
import Derived.Test.YtjjndoigkhabdaaDoorRows
import Derived.ProofKit
import Derived.LaidMore
import Derived.OpenShut
import Derived.Stop.Joined
import Derived.WalkKit
import Derived.ShutString
import Derived.ChangeOld
import Derived.Below
import Derived.SizedLaws
import Derived.Carry
import Derived.SevenTiedAt
set_option linter.unusedSimpArgs false
set_option linter.unusedVariables false
namespace Go.Proofs.YtjjndoigkhabdaaDoor
open Go Go.AM Go.Proofs
theorem orB_ops {a s i c : Nat} (ha : a ≤ 9223372036854775807) (hs : s ≤ 9223372036854775807) (hi : i ≤ 31) (hc : c ≤ 31) :
    binA .shr (.i (s : Int)) (.i (i : Int)) = some (.i ((s >>> i : Nat) : Int)) ∧ binA .and (.i ((s >>> i : Nat) : Int)) (.i 1) = some (.i (((s >>> i) &&& 1 : Nat) : Int)) ∧
    binA .shl (.i (((s >>> i) &&& 1 : Nat) : Int)) (.i (c : Int)) = some (.i ((((s >>> i) &&& 1) <<< c : Nat) : Int)) ∧ binA .or (.i (a : Int)) (.i ((((s >>> i) &&& 1) <<< c : Nat) : Int)) = some (.i ((orB a s i c : Nat) : Int)) := by
  have hle : (s >>> i) ≤ 9223372036854775807 := by
    have : s >>> i ≤ s := by rw [Nat.shiftRight_eq_div_pow]; exact Nat.div_le_self _ _
    omega
  have hsm : ((s >>> i) &&& 1) <<< c ≤ 9223372036854775807 := by
    have h1 : (s >>> i) &&& 1 ≤ 1 := Nat.and_le_right
    rw [Nat.shiftLeft_eq]
    have h3 := Nat.mul_le_mul_right (2 ^ c) h1
    have h4 : 2 ^ c ≤ 2 ^ 31 := Nat.pow_le_pow_right (by omega) hc
    omega
  exact ⟨b_shr (by omega), b_and (b := 1) hle (by omega), b_shl (by omega) hsm, b_or ha hsm⟩
theorem FK_set {K : KS} {i : Nat} {q : Nat × Nat} : FK (K.set i q) = (FK K).set i q.1 ∧ EK (K.set i q) = (EK K).set i q.2 := by
  unfold FK EK
  rw [List.map_set, List.map_set]
  exact ⟨rfl, rfl⟩
/-- both slices written -/
theorem Rd.set2 {w1 w2 : AV} {b1 o1 b2 o2 lo : Nat} {H : Heap} {K : KS} (h : Rd w1 w2 b1 o1 b2 o2 H K) (h1 : lo ≤ b1) (h2 : lo ≤ b2) {i : Nat} (hi : i < K.length) (x y : Nat) :
    ∃ H1 H2, st lo H b1 (o1 + i) [.i (x : Int)] = some H1 ∧ st lo H1 b2 (o2 + i) [.i (y : Int)] = some H2 ∧ H1.length = H.length ∧ H2.length = H.length ∧ Kx (fun b => b ≠ b1) H H1 ∧ Kx (fun b => b ≠ b2) H1 H2 ∧ ld H1 b2 (o2 + i) = some (.i (eK K i : Nat)) ∧ Rd w1 w2 b1 o1 b2 o2 H2 (K.set i (x, y)) := by
  obtain ⟨H1, s1, n1, x1, i1⟩ := h.i1.st h1 (by rw [FK_len]; exact hi) x
  have i21 := h.i2.kp x1.kp h.ne.symm
  obtain ⟨H2, s2, n2, x2, i2⟩ := i21.st h2 (by rw [EK_len]; exact hi) y
  have l2 := i21.T.2.2.2.2 i (by rw [EK_len]; exact hi)
  rw [EK_gi] at l2
  refine ⟨H1, H2, s1, s2, n1, by omega, x1, x2, l2, ?_, ?_, h.ne⟩
  · rw [FK_set.1]; exact i1.kp x2.kp h.ne
  · rw [FK_set.2]; exact i2
theorem alone_ok {lo : Nat} {p q r s : Nat → Prop} {H : Heap} {u w v1 v2 : AV} {xs ys : List (List Int)} {K : KS} (hx : Sl p H u xs) (hy : Sl q H w ys) (h1 : Sl r H v1 (nL (FK K))) (h2 : Sl s H v2 (nL (EK K))) (hP : PuzP xs ys) (hw : WfK xs.length ys.length K) :
    WpF E lo 71 [.ag [u, w], .ag [v1, v2]] H fun r H' => (∃ c C b, r = .tp [c, .b b] ∧ RdV H.length c H' C ∧ MidL xs ys K C ∧ (b = true → LC xs ys C) ∧ (b = false → FailL xs ys K)) ∧ Kx (fun _ => True) H H' := by
  refine WpF.roX rfl fn71 rfl (by rintro v H' ⟨c, C, b, rfl, h, _⟩; simp [AV.pure, AV.pureAll, h.pure]) (by rintro v H' H'' ⟨c, C, b, e, h, h'⟩ hk; exact ⟨c, C, b, e, h.kp hk, h'⟩) ?_
  unfold f71A
  have x5 : xs.length ≤ 5 := by have := hP.1.2; omega
  have x1 : 1 ≤ xs.length := by have := hP.1.1; omega
  have y5 : ys.length ≤ 5 := by have := hP.2.1.2; omega
  have px := pow32 x5
  have py := pow32 y5
  have hl := hw.len
  have vu := hx.cellsV
  have vw := hy.cellsV
  have c1 := h1.cellsV
  have c2 := h2.cellsV
  obtain ⟨H2, eH2⟩ : ∃ H2, H ++ [Blk.cells [u, w]] ++ [Blk.cells [v1, v2]] ++ [Blk.cells [.nils, .nils]] = H2 := ⟨_, rfl⟩
  have x2 : Kx (fun _ => True) H H2 := by rw [← eH2]; exact ((Kx.app _ _ _).app' _).app' _
  have n2 : H2.length = H.length + 3 := by rw [← eH2]; simp
  have g0 : H2[H.length]? = some (.cells [u, w]) := by rw [← eH2]; simp [List.getElem?_append]
  have g1 : H2[H.length + 1]? = some (.cells [v1, v2]) := by rw [← eH2]; simp [List.getElem?_append]
  have g4 : H2[H.length + 2]? = some (.cells [.nils, .nils]) := by rw [← eH2]; simp [List.getElem?_append]
  simp (disch := (first | assumption | omega | (simp only [List.length_append, List.length_cons, List.length_nil]; omega))) only [↓wD,wU,Nat.reduceBEq,zx150,zx151,zx159,zx160,zx161,zx162,Nat.reduceAdd,Nat.reduceSub,Nat.reduceMul,Nat.reduceLeDiff,Nat.reduceLT,Nat.reduceEqDiff,Int.reduceAdd,Int.reduceSub,Int.reduceMul,Int.reduceNeg,Int.reduceLT,Int.reduceLE,Int.reduceEq,Int.reduceToNat,Int.cast_ofNat_Int,↓reduceIte, vu, vw, c1, c2]
  rw [eH2]
  have hx2 := (hx.low.weak (q := fun b => b < H2.length) fun b h => by omega).kp (x2.all _).kp
  have hy2 := (hy.low.weak (q := fun b => b < H2.length) fun b h => by omega).kp (x2.all _).kp
  refine callI ((copied_ok (h1.kp (x2.all _).kp) (h2.kp (x2.all _).kp) (by omega) (by omega)).mono ?_)
  rintro r3 H3 ⟨⟨w1, w2, b1, o1, b2, o2, rfl, rd3, q1, q2⟩, x3⟩
  have n3 := x3.1
  have d1 := rd3.i1.T.2.2
  have d2 := rd3.i2.T.2.2
  have lb1 := rd3.i1.lt
  have lb2 := rd3.i2.lt
  obtain ⟨H4, eH4⟩ : ∃ H4, H3 ++ [Blk.cells [w1, w2]] = H4 := ⟨_, rfl⟩
  have x34 : Kx (fun _ => True) H3 H4 := by rw [← eH4]; exact Kx.app _ _ _
  have n4 : H4.length = H3.length + 1 := by rw [← eH4]; simp
  have g6 : H4[H3.length]? = some (.cells [w1, w2]) := by rw [← eH4]; exact get_last
  have hst : st H.length (H3 ++ [Blk.cells [.nils, .nils]]) H3.length 0 [w1, w2] = some H4 := by
    rw [st_of get_last (by omega) (by simp), ← eH4]
    congr 1
    simp [wr]
  have x24 := x3.trans x34 fun _ _ _ => trivial
  have g04 := x24.get trivial g0
  have g44 := x24.get trivial g4
  have hx4 := hx2.kp (x24.all _).kp
  have hy4 := hy2.kp (x24.all _).kp
  have rd4 := rd3.all x34
  simp (disch := (first | assumption | omega | (simp only [List.length_append, List.length_cons, List.length_nil]; omega))) only [↓wD,wU,Nat.reduceBEq,zx150,zx151,zx159,zx160,zx161,zx162,Nat.reduceAdd,Nat.reduceSub,Nat.reduceMul,Nat.reduceLeDiff,Nat.reduceLT,Nat.reduceEqDiff,Int.reduceAdd,Int.reduceSub,Int.reduceMul,Int.reduceNeg,Int.reduceLT,Int.reduceLE,Int.reduceEq,Int.reduceToNat,Int.cast_ofNat_Int,↓reduceIte, d1.1, d1.2.1, d2.1, d2.2.1, hst]
  obtain ⟨ne1, ne2⟩ : b1 ≠ H3.length ∧ b2 ≠ H3.length := ⟨by omega, by omega⟩
  clear hx hy h1 h2 vu vw c1 c2 eH2 x2 g0 g1 g4 x3 eH4 hst x24 hx2 hy2 rd3 x34
  have fin : ∀ {H' : Heap} {C : KS} {b : Bool}, Rd w1 w2 b1 o1 b2 o2 H' C → H'[H.length + 2]? = some (.cells [.nils, .nils]) → MidL xs ys K C → (b = true → LC xs ys C) → (b = false → FailL xs ys K) →
      ∃ H'', st H.length H' (H.length + 2) 0 [w1, w2] = some H'' ∧ H''[H.length + 2]? = some (.cells [w1, w2]) ∧ ∃ c C b', AV.tp [.ag [w1, w2], .b b] = .tp [c, .b b'] ∧ RdV H.length c H'' C ∧ MidL xs ys K C ∧ (b' = true → LC xs ys C) ∧ (b' = false → FailL xs ys K) := by
    intro H' C b hr hg hm ht hf
    refine ⟨H'.set (H.length + 2) (.cells [w1, w2]), by rw [st_of hg (by omega) (by simp)]; simp [wr], get_set hg, _, C, b, rfl, ⟨w1, w2, b1, o1, b2, o2, rfl, hr.kp (Kx.set (H.length + 2) H' _).kp (by omega) (by omega), by omega, by omega⟩, hm, ht, hf⟩
  refine Wp.dec (fun m a H' => ∃ C, m = mes xs.length ys.length C ∧ a 2 = .p H.length 0 ∧ a 4 = .p (H.length + 2) 0 ∧ a 6 = .p H3.length 0 ∧ Rd w1 w2 b1 o1 b2 o2 H' C ∧ MidL xs ys K C ∧ Kx (fun b => b ≠ b1 ∧ b ≠ b2) H4 H') (mes xs.length ys.length K) ?_ ?_
  · rintro m a H5 ⟨C, rfl, a2, a4, a6, rd5, hm5, x45⟩ ih
    have hwC := hm5.1
    have hlC := hwC.len
    have n5 := x45.1
    have g65 := x45.get ⟨ne1.symm, ne2.symm⟩ g6
    simp (disch := (first | assumption | omega | (simp only [List.length_append, List.length_cons, List.length_nil]; omega))) only [↓wD,wU,Nat.reduceBEq,zx150,zx151,zx159,zx160,zx161,zx162,Nat.reduceAdd,Nat.reduceSub,Nat.reduceMul,Nat.reduceLeDiff,Nat.reduceLT,Nat.reduceEqDiff,Int.reduceAdd,Int.reduceSub,Int.reduceMul,Int.reduceNeg,Int.reduceLT,Int.reduceLE,Int.reduceEq,Int.reduceToNat,Int.cast_ofNat_Int,↓reduceIte, a2, a4, a6, ldn_of g65]
    refine callI ((copied_ok rd5.i1.sl rd5.i2.sl (by omega) (by omega)).mono ?_)
    rintro r6 H6 ⟨⟨z1, z2, f1, p1, f2, p2, rfl, rd6, q3, q4⟩, x56⟩
    have n6 := x56.1
    have e1 := rd6.i1.T.2.2
    have e2 := rd6.i2.T.2.2
    have lf1 := rd6.i1.lt
    have lf2 := rd6.i2.lt
    obtain ⟨H7, eH7⟩ : ∃ H7, H6 ++ [Blk.cells [z1, z2]] = H7 := ⟨_, rfl⟩
    have x67 : Kx (fun _ => True) H6 H7 := by rw [← eH7]; exact Kx.app _ _ _
    have n7 : H7.length = H6.length + 1 := by rw [← eH7]; simp
    have g7 : H7[H6.length]? = some (.cells [z1, z2]) := by rw [← eH7]; exact get_last
    have hst : st H.length (H6 ++ [Blk.cells [.nils, .nils]]) H6.length 0 [z1, z2] = some H7 := by
      rw [st_of get_last (by omega) (by simp), ← eH7]
      congr 1
      simp [wr]
    have x57 := x56.trans x67 fun _ _ _ => trivial
    have x47 := x45.trans x57 fun _ _ _ => trivial
    have rd7 := rd5.all x57
    have rz7 := rd6.all x67
    have lb5 : b1 < H5.length ∧ b2 < H5.length := ⟨rd5.i1.lt, rd5.i2.lt⟩
    have g07 := x47.get ⟨by omega, by omega⟩ g04
    have hx7L := (hx4.kp (x47.weak fun b _ h => by omega).kp).L
    simp (disch := (first | assumption | omega | (simp only [List.length_append, List.length_cons, List.length_nil]; omega))) only [↓wD,wU,Nat.reduceBEq,zx150,zx151,zx159,zx160,zx161,zx162,Nat.reduceAdd,Nat.reduceSub,Nat.reduceMul,Nat.reduceLeDiff,Nat.reduceLT,Nat.reduceEqDiff,Int.reduceAdd,Int.reduceSub,Int.reduceMul,Int.reduceNeg,Int.reduceLT,Int.reduceLE,Int.reduceEq,Int.reduceToNat,Int.cast_ofNat_Int,↓reduceIte, a2, a4, a6, e1.1, e1.2.1, e2.1, e2.2.1, hst, ld_of g07, hx7L]
    refine Wp.for xs.length (fun i a H' => ∃ D, a 2 = .p H.length 0 ∧ a 4 = .p (H.length + 2) 0 ∧ a 6 = .p H3.length 0 ∧ a 7 = .p H6.length 0 ∧ a 24 = u ∧ a 25 = .i xs.length ∧ a 26 = .i i ∧ Rd w1 w2 b1 o1 b2 o2 H' D ∧ MidL xs ys C D ∧ RowsIn xs ys C D i ∧ Kx (fun b => b ≠ b1 ∧ b ≠ b2) H7 H') ?_ ?_
    · rintro i a H8 hi ⟨D, a2, a4, a6, a7, a24, a25, a26, rd8, hm8, hr8, x78⟩ ih2
      have n8 := x78.1
      have hwD := hm8.1
      have hlD := hwD.len
      have x48 := x47.trans x78 fun _ _ h => h
      have g08 := x48.get ⟨by omega, by omega⟩ g04
      have g48 := x48.get ⟨by omega, by omega⟩ g44
      have g68 := x48.get ⟨ne1.symm, ne2.symm⟩ g6
      have hx8 := hx4.kp (x48.weak fun b _ h => by omega).kp
      have hy8 := hy4.kp (x48.weak fun b _ h => by omega).kp
      have hx8L := hx8.L
      have hy8L := hy8.L
      have T1 := rd8.i1.T
      have T2 := rd8.i2.T
      rw [FK_len] at T1
      rw [EK_len] at T2
      simp (disch := (first | assumption | omega | (simp only [List.length_append, List.length_cons, List.length_nil]; omega))) only [↓wD,wU,Nat.reduceBEq,zx150,zx151,zx159,zx160,zx161,zx162,Nat.reduceAdd,Nat.reduceSub,Nat.reduceMul,Nat.reduceLeDiff,Nat.reduceLT,Nat.reduceEqDiff,Int.reduceAdd,Int.reduceSub,Int.reduceMul,Int.reduceNeg,Int.reduceLT,Int.reduceLE,Int.reduceEq,Int.reduceToNat,Int.cast_ofNat_Int,↓reduceIte, a2, a4, a6, a7, a24, a25, a26]
      refine condP_split (fun hlt => ?_) (fun hlt => ?_)
      · have hi' : i < xs.length := by omega
        have g := hx8.get (k := (i : Int)) (by omega) (by omega)
        have hD := hwD.lt i hi'
        have sr := rtell_ret (n := ys.length) (f := fK D i) (e := eK D i) g y5 (by omega) (by omega)
        have t1 : iaddrV 1 w1 (.i (i : Int)) = some (.p b1 (o1 + i)) := T1.2.1 _ i (by omega)
        have t2 : iaddrV 1 w2 (.i (i : Int)) = some (.p b2 (o2 + i)) := T2.2.1 _ i (by omega)
        have t3 := T1.2.2.2.2 i (by omega)
        have t4 := T2.2.2.2.2 i (by omega)
        rw [FK_gi] at t3
        rw [EK_gi] at t4
        obtain ⟨S, eS⟩ : ∃ S, setS ys.length (gi xs (i : Int)) (fK D i) (eK D i) = S := ⟨_, rfl⟩
        rw [eS] at sr
        obtain ⟨s1, s2, s3⟩ := S
        unfold tellA at sr
        simp only at sr
        cases s3 with
        | false =>
          have hf := row_fail y5 hi' (by rw [eS])
          simp only [Bool.false_eq_true, if_false] at sr
          obtain ⟨H9, st9, g9, hfin⟩ := fin (b := false) rd8 g48 (hm5.trans hm8) nofun fun _ => hm5.fail (hm8.fail hf)
          generalize fK D i = Fi at *
          generalize eK D i = Ei at *
          simp (disch := (first | assumption | omega | (simp only [List.length_append, List.length_cons, List.length_nil]; omega))) only [↓wD,wU,Nat.reduceBEq,zx150,zx151,zx159,zx160,zx161,zx162,Nat.reduceAdd,Nat.reduceSub,Nat.reduceMul,Nat.reduceLeDiff,Nat.reduceLT,Nat.reduceEqDiff,Int.reduceAdd,Int.reduceSub,Int.reduceMul,Int.reduceNeg,Int.reduceLT,Int.reduceLE,Int.reduceEq,Int.reduceToNat,Int.cast_ofNat_Int,↓reduceIte, a2, a4, a6, a7, a24, a25, a26, ld_of g08, ld_of g68, hx8L, hy8L, t1, t2, t3, t4, sr.call, ldn_of g68, d1.1, d1.2.1, d2.1, d2.2.1, st9, ldn_of g9]
          exact hfin
        | true =>
          simp only [if_true] at sr
          obtain ⟨hm9, hr9⟩ := rowW_step y5 hi' hm8 hr8 eS rfl
          simp only at hm9 hr9
          obtain ⟨H9, H10, st9, st10, n9, n10, x89, x910, _, rd10⟩ := rd8.set2 (lo := H.length) (by omega) (by omega) (i := i) (by omega) s1 s2
          generalize fK D i = Fi at *
          generalize eK D i = Ei at *
          simp (disch := (first | assumption | omega | (simp only [List.length_append, List.length_cons, List.length_nil]; omega))) only [↓wD,wU,Nat.reduceBEq,zx150,zx151,zx159,zx160,zx161,zx162,Nat.reduceAdd,Nat.reduceSub,Nat.reduceMul,Nat.reduceLeDiff,Nat.reduceLT,Nat.reduceEqDiff,Int.reduceAdd,Int.reduceSub,Int.reduceMul,Int.reduceNeg,Int.reduceLT,Int.reduceLE,Int.reduceEq,Int.reduceToNat,Int.cast_ofNat_Int,↓reduceIte, a2, a4, a6, a7, a24, a25, a26, ld_of g08, ld_of g68, hx8L, hy8L, t1, t2, t3, t4, sr.call]
          refine lpI (wpC ?_)
          simp (disch := (first | assumption | omega | (simp only [List.length_append, List.length_cons, List.length_nil]; omega))) only [↓wD,wU,Nat.reduceBEq,zx150,zx151,zx159,zx160,zx161,zx162,Nat.reduceAdd,Nat.reduceSub,Nat.reduceMul,Nat.reduceLeDiff,Nat.reduceLT,Nat.reduceEqDiff,Int.reduceAdd,Int.reduceSub,Int.reduceMul,Int.reduceNeg,Int.reduceLT,Int.reduceLE,Int.reduceEq,Int.reduceToNat,Int.cast_ofNat_Int,↓reduceIte, a2, a4, a6, a7, a24, a25, a26, ld_of g68, t1, t2, st9, st10]
          refine chkI ?_ ?_
          · have g69 := x89.get (b := H3.length) ne1.symm g68
            simp [chk1, ev, Fr.upd, a6, ld_of g68, ld_of g69, sameO, AV.same_refl]
          · simp (disch := (first | assumption | omega | (simp only [List.length_append, List.length_cons, List.length_nil]; omega))) only [↓wD,wU,Nat.reduceBEq,zx150,zx151,zx159,zx160,zx161,zx162,Nat.reduceAdd,Nat.reduceSub,Nat.reduceMul,Nat.reduceLeDiff,Nat.reduceLT,Nat.reduceEqDiff,Int.reduceAdd,Int.reduceSub,Int.reduceMul,Int.reduceNeg,Int.reduceLT,Int.reduceLE,Int.reduceEq,Int.reduceToNat,Int.cast_ofNat_Int,↓reduceIte, a2, a4, a6, a7, a24, a25, a26]
            refine (ih2 hi').go ⟨D.set i (s1, s2), ?_⟩
            simp (disch := (first | assumption | omega | (simp only [List.length_append, List.length_cons, List.length_nil]; omega))) only [↓wD,wU,Nat.reduceBEq,zx150,zx151,zx159,zx160,zx161,zx162,Nat.reduceAdd,Nat.reduceSub,Nat.reduceMul,Nat.reduceLeDiff,Nat.reduceLT,Nat.reduceEqDiff,Int.reduceAdd,Int.reduceSub,Int.reduceMul,Int.reduceNeg,Int.reduceLT,Int.reduceLE,Int.reduceEq,Int.reduceToNat,Int.cast_ofNat_Int,↓reduceIte, a2, a4, a6, a7, a24, a25, a26]
            exact ⟨rd10, hm9, hr9, (x78.trans x89 fun _ _ h => h.1).trans x910 fun _ _ h => h.2⟩
      · obtain rfl : i = xs.length := by omega
        simp (disch := (first | assumption | omega | (simp only [List.length_append, List.length_cons, List.length_nil]; omega))) only [↓wD,wU,Nat.reduceBEq,zx150,zx151,zx159,zx160,zx161,zx162,Nat.reduceAdd,Nat.reduceSub,Nat.reduceMul,Nat.reduceLeDiff,Nat.reduceLT,Nat.reduceEqDiff,Int.reduceAdd,Int.reduceSub,Int.reduceMul,Int.reduceNeg,Int.reduceLT,Int.reduceLE,Int.reduceEq,Int.reduceToNat,Int.cast_ofNat_Int,↓reduceIte, a2, a4, a6, a7, a24, a25, a26, ld_of g08, hy8L]
        have hc0 : ColsIn xs ys C D 0 := fun j hj => by omega
        refine Wp.for ys.length (fun i a H' => ∃ D, a 2 = .p H.length 0 ∧ a 4 = .p (H.length + 2) 0 ∧ a 6 = .p H3.length 0 ∧ a 7 = .p H6.length 0 ∧ a 65 = w ∧ a 66 = .i ys.length ∧ a 67 = .i i ∧ Rd w1 w2 b1 o1 b2 o2 H' D ∧ MidL xs ys C D ∧ RowsIn xs ys C D xs.length ∧ ColsIn xs ys C D i ∧ Kx (fun b => b ≠ b1 ∧ b ≠ b2) H7 H') ?_ ?_
        · clear hc0 hlt T1 T2 hx8L hy8L hx8 hy8 g08 g48 g68 x48 hlD hwD n8 x78 hr8 hm8 rd8 a2 a4 a6 a7 a24 a25 a26 hi a D H8
          rintro i a H8 hi ⟨D, a2, a4, a6, a7, a65, a66, a67, rd8, hm8, hr8, hc8, x78⟩ ih3
          have n8 := x78.1
          have hwD := hm8.1
          have hlD := hwD.len
          have x48 := x47.trans x78 fun _ _ h => h
          have g08 := x48.get ⟨by omega, by omega⟩ g04
          have g48 := x48.get ⟨by omega, by omega⟩ g44
          have g68 := x48.get ⟨ne1.symm, ne2.symm⟩ g6
          have hx8 := hx4.kp (x48.weak fun b _ h => by omega).kp
          have hy8 := hy4.kp (x48.weak fun b _ h => by omega).kp
          have hx8L := hx8.L
          have hy8L := hy8.L
          simp (disch := (first | assumption | omega | (simp only [List.length_append, List.length_cons, List.length_nil]; omega))) only [↓wD,wU,Nat.reduceBEq,zx150,zx151,zx159,zx160,zx161,zx162,Nat.reduceAdd,Nat.reduceSub,Nat.reduceMul,Nat.reduceLeDiff,Nat.reduceLT,Nat.reduceEqDiff,Int.reduceAdd,Int.reduceSub,Int.reduceMul,Int.reduceNeg,Int.reduceLT,Int.reduceLE,Int.reduceEq,Int.reduceToNat,Int.cast_ofNat_Int,↓reduceIte, a2, a4, a6, a7, a65, a66, a67]
          refine condP_split (fun hlt => ?_) (fun hlt => ?_)
          · have hi' : i < ys.length := by omega
            have g := hy8.get (k := (i : Int)) (by omega) (by omega)
            have hD := col_lt hwD i
            have h31 : ∀ i, i < D.length → fK D i ≤ 9223372036854775807 ∧ eK D i ≤ 9223372036854775807 := fun j hj => by
              have := hwD.lt j (by omega)
              omega
            have hF31 : ∀ z ∈ FK D, z ≤ 9223372036854775807 := fun z hz => by
              obtain ⟨j, hj, rfl⟩ := List.mem_iff_getElem.1 hz
              rw [FK_len] at hj
              have := (h31 j hj).1
              rw [← FK_gi, gi_nat (by rw [FK_len]; exact hj)] at this
              exact this
            have hE31 : ∀ z ∈ EK D, z ≤ 9223372036854775807 := fun z hz => by
              obtain ⟨j, hj, rfl⟩ := List.mem_iff_getElem.1 hz
              rw [EK_len] at hj
              have := (h31 j hj).2
              rw [← EK_gi, gi_nat (by rw [EK_len]; exact hj)] at this
              exact this
            have cr1 := rcolumn_ret (c := i) rd8.i1.sl (by rw [FK_len]; omega) (by omega) hF31
            have cr2 := rcolumn_ret (c := i) rd8.i2.sl (by rw [EK_len]; omega) (by omega) hE31
            have sr := rtell_ret (n := xs.length) (f := colN (FK D) i) (e := colN (EK D) i) g x5 (by omega) (by omega)
            obtain ⟨S, eS⟩ : ∃ S, setS xs.length (gi ys (i : Int)) (colN (FK D) i) (colN (EK D) i) = S := ⟨_, rfl⟩
            have sl := setS_lt (n := xs.length) (f := colN (FK D) i) (e := colN (EK D) i) (cl := gi ys (i : Int))
            rw [eS] at sr sl
            obtain ⟨s1, s2, s3⟩ := S
            unfold tellA at sr
            simp only at sr sl
            cases s3 with
            | false =>
              have hf := col_fail x5 hi' hwD (by rw [eS])
              simp only [Bool.false_eq_true, if_false] at sr
              obtain ⟨H9, st9, g9, hfin⟩ := fin (b := false) rd8 g48 (hm5.trans hm8) nofun fun _ => hm5.fail (hm8.fail hf)
              generalize colN (FK D) i = Fi at *
              generalize colN (EK D) i = Ei at *
              simp (disch := (first | assumption | omega | (simp only [List.length_append, List.length_cons, List.length_nil]; omega))) only [↓wD,wU,Nat.reduceBEq,zx150,zx151,zx159,zx160,zx161,zx162,Nat.reduceAdd,Nat.reduceSub,Nat.reduceMul,Nat.reduceLeDiff,Nat.reduceLT,Nat.reduceEqDiff,Int.reduceAdd,Int.reduceSub,Int.reduceMul,Int.reduceNeg,Int.reduceLT,Int.reduceLE,Int.reduceEq,Int.reduceToNat,Int.cast_ofNat_Int,↓reduceIte, a2, a4, a6, a7, a65, a66, a67, ld_of g08, ld_of g68, hx8L, hy8L, cr1.call, cr2.call, sr.call, ldn_of g68, d1.1, d1.2.1, d2.1, d2.2.1, st9, ldn_of g9]
              exact hfin
            | true =>
              simp only [if_true] at sr
              obtain ⟨hm9, hr9, hc9⟩ := colW_step x5 hi' hm8 hwC.len hr8 hc8 eS rfl
              simp only at hm9 hr9 hc9
              generalize colN (FK D) i = Fi at *
              generalize colN (EK D) i = Ei at *
              simp (disch := (first | assumption | omega | (simp only [List.length_append, List.length_cons, List.length_nil]; omega))) only [↓wD,wU,Nat.reduceBEq,zx150,zx151,zx159,zx160,zx161,zx162,Nat.reduceAdd,Nat.reduceSub,Nat.reduceMul,Nat.reduceLeDiff,Nat.reduceLT,Nat.reduceEqDiff,Int.reduceAdd,Int.reduceSub,Int.reduceMul,Int.reduceNeg,Int.reduceLT,Int.reduceLE,Int.reduceEq,Int.reduceToNat,Int.cast_ofNat_Int,↓reduceIte, a2, a4, a6, a7, a65, a66, a67, ld_of g08, ld_of g68, hx8L, hy8L, cr1.call, cr2.call, sr.call]
              refine Wp.for D.length (fun t a H' => a 2 = .p H.length 0 ∧ a 4 = .p (H.length + 2) 0 ∧ a 6 = .p H3.length 0 ∧ a 7 = .p H6.length 0 ∧ a 13 = .i i ∧ a 15 = .i s1 ∧ a 16 = .i s2 ∧ a 65 = w ∧ a 66 = .i ys.length ∧ a 67 = .i i ∧ a 94 = .i D.length ∧ a 95 = .i t ∧ Rd w1 w2 b1 o1 b2 o2 H' (colK D i s1 s2 t) ∧ Kx (fun b => b ≠ b1 ∧ b ≠ b2) H8 H') ?_ ?_
              · rintro t a H9 ht ⟨a2, a4, a6, a7, a13, a15, a16, a65, a66, a67, a94, a95, rd9, x89⟩ ih4
                have n9 := x89.1
                simp (disch := (first | assumption | omega | (simp only [List.length_append, List.length_cons, List.length_nil]; omega))) only [↓wD,wU,Nat.reduceBEq,zx150,zx151,zx159,zx160,zx161,zx162,Nat.reduceAdd,Nat.reduceSub,Nat.reduceMul,Nat.reduceLeDiff,Nat.reduceLT,Nat.reduceEqDiff,Int.reduceAdd,Int.reduceSub,Int.reduceMul,Int.reduceNeg,Int.reduceLT,Int.reduceLE,Int.reduceEq,Int.reduceToNat,Int.cast_ofNat_Int,↓reduceIte, a2, a4, a6, a7, a13, a15, a16, a65, a66, a67, a94, a95]
                refine condP_split (fun hlt => ?_) (fun hlt => ?_)
                · have ht' : t < D.length := by omega
                  have htc : t < (colK D i s1 s2 t).length := by rw [colK_len]; exact ht'
                  have gi3 : gi (colK D i s1 s2 t) (t : Int) = (fK D t, eK D t) := by rw [colK_gi ht', if_neg (by omega)]; rfl
                  have ef : fK (colK D i s1 s2 t) t = fK D t := by unfold fK; rw [gi3]; rfl
                  have ee : eK (colK D i s1 s2 t) t = eK D t := by unfold eK; rw [gi3]; rfl
                  have hs := colK_s (c := i) (f := s1) (e := s2) ht'
                  have T1 := rd9.i1.T
                  have T2 := rd9.i2.T
                  rw [FK_len, colK_len] at T1
                  rw [EK_len, colK_len] at T2
                  have t1 : iaddrV 1 w1 (.i (t : Int)) = some (.p b1 (o1 + t)) := T1.2.1 _ t (by omega)
                  have t2 : iaddrV 1 w2 (.i (t : Int)) = some (.p b2 (o2 + t)) := T2.2.1 _ t (by omega)
                  have t3 := T1.2.2.2.2 t (by omega)
                  rw [FK_gi, ef] at t3
                  obtain ⟨o11, o12, o13, o14⟩ := orB_ops (a := fK D t) (s := s1) (i := t) (c := i) (h31 t ht').1 (by omega) (by omega) (by omega)
                  obtain ⟨o21, o22, o23, o24⟩ := orB_ops (a := eK D t) (s := s2) (i := t) (c := i) (h31 t ht').2 (by omega) (by omega) (by omega)
                  obtain ⟨Ha, Hb, sa, sb, na, nb, xa, xb, t4, rda⟩ := rd9.set2 (lo := H.length) (by omega) (by omega) (i := t) htc (orB (fK D t) s1 t i) (orB (eK D t) s2 t i)
                  rw [ee] at t4
                  rw [hs] at rda
                  have g69 := x89.get ⟨ne1.symm, ne2.symm⟩ g68
                  have g6a := xa.get (b := H3.length) ne1.symm g69
                  clear hs gi3 ef ee
                  generalize fK D t = F0 at *
                  generalize eK D t = E0 at *
                  generalize orB F0 s1 t i = F2 at *
                  generalize orB E0 s2 t i = E2 at *
                  generalize ((s1 >>> t) &&& 1) <<< i = W3 at *
                  generalize ((s2 >>> t) &&& 1) <<< i = V3 at *
                  generalize (s1 >>> t) &&& 1 = W2 at *
                  generalize (s2 >>> t) &&& 1 = V2 at *
                  generalize (s1 >>> t) = W1 at *
                  generalize (s2 >>> t) = V1 at *
                  simp (disch := (first | assumption | omega | (simp only [List.length_append, List.length_cons, List.length_nil]; omega))) only [↓wD,wU,Nat.reduceBEq,zx150,zx151,zx159,zx160,zx161,zx162,Nat.reduceAdd,Nat.reduceSub,Nat.reduceMul,Nat.reduceLeDiff,Nat.reduceLT,Nat.reduceEqDiff,Int.reduceAdd,Int.reduceSub,Int.reduceMul,Int.reduceNeg,Int.reduceLT,Int.reduceLE,Int.reduceEq,Int.reduceToNat,Int.cast_ofNat_Int,↓reduceIte, a2, a4, a6, a7, a13, a15, a16, a65, a66, a67, a94, a95, ld_of g69, t1, t2, t3, o11, o12, o13, o14, sa, ld_of g6a, t4, o21, o22, o23, o24, sb]
                  refine (ih4 ht').go ?_
                  simp (disch := (first | assumption | omega | (simp only [List.length_append, List.length_cons, List.length_nil]; omega))) only [↓wD,wU,Nat.reduceBEq,zx150,zx151,zx159,zx160,zx161,zx162,Nat.reduceAdd,Nat.reduceSub,Nat.reduceMul,Nat.reduceLeDiff,Nat.reduceLT,Nat.reduceEqDiff,Int.reduceAdd,Int.reduceSub,Int.reduceMul,Int.reduceNeg,Int.reduceLT,Int.reduceLE,Int.reduceEq,Int.reduceToNat,Int.cast_ofNat_Int,↓reduceIte, a2, a4, a6, a7, a13, a15, a16, a65, a66, a67, a94, a95]
                  exact ⟨rda, (x89.trans xa fun _ _ h => h.1).trans xb fun _ _ h => h.2⟩
                · obtain rfl : t = D.length := by omega
                  simp (disch := (first | assumption | omega | (simp only [List.length_append, List.length_cons, List.length_nil]; omega))) only [↓wD,wU,Nat.reduceBEq,zx150,zx151,zx159,zx160,zx161,zx162,Nat.reduceAdd,Nat.reduceSub,Nat.reduceMul,Nat.reduceLeDiff,Nat.reduceLT,Nat.reduceEqDiff,Int.reduceAdd,Int.reduceSub,Int.reduceMul,Int.reduceNeg,Int.reduceLT,Int.reduceLE,Int.reduceEq,Int.reduceToNat,Int.cast_ofNat_Int,↓reduceIte, a2, a4, a6, a7, a13, a15, a16, a65, a66, a67, a94, a95]
                  refine (ih3 hi').go ⟨colK D i s1 s2 D.length, ?_⟩
                  simp (disch := (first | assumption | omega | (simp only [List.length_append, List.length_cons, List.length_nil]; omega))) only [↓wD,wU,Nat.reduceBEq,zx150,zx151,zx159,zx160,zx161,zx162,Nat.reduceAdd,Nat.reduceSub,Nat.reduceMul,Nat.reduceLeDiff,Nat.reduceLT,Nat.reduceEqDiff,Int.reduceAdd,Int.reduceSub,Int.reduceMul,Int.reduceNeg,Int.reduceLT,Int.reduceLE,Int.reduceEq,Int.reduceToNat,Int.cast_ofNat_Int,↓reduceIte, a2, a4, a6, a7, a65, a66, a67]
                  exact ⟨rd9, hm9, hr9, hc9, x78.trans x89 fun _ _ h => h⟩
              · simp (disch := (first | assumption | omega | (simp only [List.length_append, List.length_cons, List.length_nil]; omega))) only [↓wD,wU,Nat.reduceBEq,zx150,zx151,zx159,zx160,zx161,zx162,Nat.reduceAdd,Nat.reduceSub,Nat.reduceMul,Nat.reduceLeDiff,Nat.reduceLT,Nat.reduceEqDiff,Int.reduceAdd,Int.reduceSub,Int.reduceMul,Int.reduceNeg,Int.reduceLT,Int.reduceLE,Int.reduceEq,Int.reduceToNat,Int.cast_ofNat_Int,↓reduceIte, a2, a4, a6, a7, a65, a66, a67, hlD]
                rw [colK_0]
                exact ⟨rd8, Kx.refl _ _⟩
          · obtain rfl : i = ys.length := by omega
            have g78 := x78.get ⟨by omega, by omega⟩ g7
            have rz8 := rz7.kp x78.kp ⟨by omega, by omega⟩ ⟨by omega, by omega⟩
            have sm1 := same_ret rz8.i1.sl rd8.i1.sl
            have sm2 := same_ret rz8.i2.sl rd8.i2.sl
            have nLi : ∀ {P Q : List Nat}, nL P = nL Q ↔ P = Q := ⟨fun h => List.map_inj_right (fun x y h => Int.ofNat.inj h) |>.1 h, fun h => by rw [h]⟩
            by_cases he : C = D
            · subst he
              rw [decide_eq_true rfl] at sm1 sm2
              obtain ⟨H9, st9, g9, hfin⟩ := fin (b := true) rd8 g48 hm5 (fun _ => sweep_done x5 y5 hwC hr8 hc8) nofun
              simp (disch := (first | assumption | omega | (simp only [List.length_append, List.length_cons, List.length_nil]; omega))) only [↓wD,wU,Nat.reduceBEq,zx150,zx151,zx159,zx160,zx161,zx162,Nat.reduceAdd,Nat.reduceSub,Nat.reduceMul,Nat.reduceLeDiff,Nat.reduceLT,Nat.reduceEqDiff,Int.reduceAdd,Int.reduceSub,Int.reduceMul,Int.reduceNeg,Int.reduceLT,Int.reduceLE,Int.reduceEq,Int.reduceToNat,Int.cast_ofNat_Int,↓reduceIte, a2, a4, a6, a7, a65, a66, a67, ld_of g78, ld_of g68, sm1.call, sm2.call, ldn_of g68, d1.1, d1.2.1, d2.1, d2.2.1, st9, ldn_of g9]
              exact hfin
            · by_cases hF : FK C = FK D
              · have hE : EK C ≠ EK D := fun q => he (K_ext hwC hwD fun i _ => ⟨by rw [← FK_gi, hF, FK_gi], by rw [← EK_gi, q, EK_gi]⟩)
                rw [decide_eq_true (nLi.2 hF)] at sm1
                rw [decide_eq_false (fun q => hE (nLi.1 q))] at sm2
                simp (disch := (first | assumption | omega | (simp only [List.length_append, List.length_cons, List.length_nil]; omega))) only [↓wD,wU,Nat.reduceBEq,zx150,zx151,zx159,zx160,zx161,zx162,Nat.reduceAdd,Nat.reduceSub,Nat.reduceMul,Nat.reduceLeDiff,Nat.reduceLT,Nat.reduceEqDiff,Int.reduceAdd,Int.reduceSub,Int.reduceMul,Int.reduceNeg,Int.reduceLT,Int.reduceLE,Int.reduceEq,Int.reduceToNat,Int.cast_ofNat_Int,↓reduceIte, a2, a4, a6, a7, a65, a66, a67, ld_of g78, ld_of g68, sm1.call, sm2.call]
                refine ih.go ⟨_, mes_lt hwC hwD hm8.2.1 he, D, rfl, ?_⟩
                simp (disch := (first | assumption | omega | (simp only [List.length_append, List.length_cons, List.length_nil]; omega))) only [↓wD,wU,Nat.reduceBEq,zx150,zx151,zx159,zx160,zx161,zx162,Nat.reduceAdd,Nat.reduceSub,Nat.reduceMul,Nat.reduceLeDiff,Nat.reduceLT,Nat.reduceEqDiff,Int.reduceAdd,Int.reduceSub,Int.reduceMul,Int.reduceNeg,Int.reduceLT,Int.reduceLE,Int.reduceEq,Int.reduceToNat,Int.cast_ofNat_Int,↓reduceIte, a2, a4, a6]
                exact ⟨rd8, hm5.trans hm8, x48⟩
              · rw [decide_eq_false (fun q => hF (nLi.1 q))] at sm1
                simp (disch := (first | assumption | omega | (simp only [List.length_append, List.length_cons, List.length_nil]; omega))) only [↓wD,wU,Nat.reduceBEq,zx150,zx151,zx159,zx160,zx161,zx162,Nat.reduceAdd,Nat.reduceSub,Nat.reduceMul,Nat.reduceLeDiff,Nat.reduceLT,Nat.reduceEqDiff,Int.reduceAdd,Int.reduceSub,Int.reduceMul,Int.reduceNeg,Int.reduceLT,Int.reduceLE,Int.reduceEq,Int.reduceToNat,Int.cast_ofNat_Int,↓reduceIte, a2, a4, a6, a7, a65, a66, a67, ld_of g78, ld_of g68, sm1.call]
                refine ih.go ⟨_, mes_lt hwC hwD hm8.2.1 he, D, rfl, ?_⟩
                simp (disch := (first | assumption | omega | (simp only [List.length_append, List.length_cons, List.length_nil]; omega))) only [↓wD,wU,Nat.reduceBEq,zx150,zx151,zx159,zx160,zx161,zx162,Nat.reduceAdd,Nat.reduceSub,Nat.reduceMul,Nat.reduceLeDiff,Nat.reduceLT,Nat.reduceEqDiff,Int.reduceAdd,Int.reduceSub,Int.reduceMul,Int.reduceNeg,Int.reduceLT,Int.reduceLE,Int.reduceEq,Int.reduceToNat,Int.cast_ofNat_Int,↓reduceIte, a2, a4, a6]
                exact ⟨rd8, hm5.trans hm8, x48⟩
        · simp (disch := (first | assumption | omega | (simp only [List.length_append, List.length_cons, List.length_nil]; omega))) only [↓wD,wU,Nat.reduceBEq,zx150,zx151,zx159,zx160,zx161,zx162,Nat.reduceAdd,Nat.reduceSub,Nat.reduceMul,Nat.reduceLeDiff,Nat.reduceLT,Nat.reduceEqDiff,Int.reduceAdd,Int.reduceSub,Int.reduceMul,Int.reduceNeg,Int.reduceLT,Int.reduceLE,Int.reduceEq,Int.reduceToNat,Int.cast_ofNat_Int,↓reduceIte, a2, a4, a6, a7]
          exact ⟨D, rd8, hm8, hr8, hc0, x78⟩
    · simp (disch := (first | assumption | omega | (simp only [List.length_append, List.length_cons, List.length_nil]; omega))) only [↓wD,wU,Nat.reduceBEq,zx150,zx151,zx159,zx160,zx161,zx162,Nat.reduceAdd,Nat.reduceSub,Nat.reduceMul,Nat.reduceLeDiff,Nat.reduceLT,Nat.reduceEqDiff,Int.reduceAdd,Int.reduceSub,Int.reduceMul,Int.reduceNeg,Int.reduceLT,Int.reduceLE,Int.reduceEq,Int.reduceToNat,Int.cast_ofNat_Int,↓reduceIte, a2, a4, a6]
      exact ⟨C, rd7, MidL.refl hwC, fun j hj => by omega, Kx.refl _ _⟩
  · simp (disch := (first | assumption | omega | (simp only [List.length_append, List.length_cons, List.length_nil]; omega))) only [↓wD,wU,Nat.reduceBEq,zx150,zx151,zx159,zx160,zx161,zx162,Nat.reduceAdd,Nat.reduceSub,Nat.reduceMul,Nat.reduceLeDiff,Nat.reduceLT,Nat.reduceEqDiff,Int.reduceAdd,Int.reduceSub,Int.reduceMul,Int.reduceNeg,Int.reduceLT,Int.reduceLE,Int.reduceEq,Int.reduceToNat,Int.cast_ofNat_Int,↓reduceIte]
    exact ⟨K, rfl, rd4, MidL.refl hw, Kx.refl _ _⟩
end Go.Proofs.YtjjndoigkhabdaaDoor
namespace Go.Proofs.YtjjndoigkhabdaaDoor
open Go Go.AM Go.Proofs
theorem rdeduce_ret {p q : Nat → Prop} {H : Heap} {u w : AV} {x y : List (List Int)} (hx : Sl p H u x) (hy : Sl q H w y) (hP : PuzP x y) : Ret E 39 [.ag [u, w]] (fun _ => False) H (T2.mk (dedF (sweepK x y), dedE (sweepK x y)) (dedR (sweepK x y))) := by
  refine Ret.ro rfl fn39 rfl ?_
  unfold f39A
  have vu := hx.cellsV
  have vw := hy.cellsV
  have x5 : x.length ≤ 5 := by have := hP.1.2; omega
  obtain ⟨H2, eH2⟩ : ∃ H2, H ++ [Blk.cells [u, w]] ++ [Blk.cells [.nils, .nils]] = H2 := ⟨_, rfl⟩
  have x2 : Kx (fun _ => True) H H2 := by rw [← eH2]; exact (Kx.app _ _ _).app' _
  have n2 : H2.length = H.length + 2 := by rw [← eH2]; simp
  have g0 : H2[H.length]? = some (.cells [u, w]) := by rw [← eH2]; simp [List.getElem?_append]
  have g1 : H2[H.length + 1]? = some (.cells [.nils, .nils]) := by rw [← eH2]; simp [List.getElem?_append]
  have hx2 := hx.kp (x2.all _).kp
  have hy2 := hy.kp (x2.all _).kp
  simp (disch := (first | assumption | omega | (simp only [List.length_append, List.length_cons, List.length_nil]; omega))) only [↓wD,wU,Nat.reduceBEq,zx150,zx151,zx159,zx160,zx161,zx162,Nat.reduceAdd,Nat.reduceSub,Nat.reduceMul,Nat.reduceLeDiff,Nat.reduceLT,Nat.reduceEqDiff,Int.reduceAdd,Int.reduceSub,Int.reduceMul,Int.reduceNeg,Int.reduceLT,Int.reduceLE,Int.reduceEq,Int.reduceToNat,Int.cast_ofNat_Int,↓reduceIte, vu, vw]
  rw [eH2]
  refine callI ((nothing_ok hx2 hy2 x5).mono ?_)
  rintro r H3 ⟨⟨z1, z2, f1, p1, f2, p2, rfl, rd3, q1, q2⟩, x3⟩
  simp (disch := (first | assumption | omega | (simp only [List.length_append, List.length_cons, List.length_nil]; omega))) only [↓wD,wU,Nat.reduceBEq,zx150,zx151,zx159,zx160,zx161,zx162,Nat.reduceAdd,Nat.reduceSub,Nat.reduceMul,Nat.reduceLeDiff,Nat.reduceLT,Nat.reduceEqDiff,Int.reduceAdd,Int.reduceSub,Int.reduceMul,Int.reduceNeg,Int.reduceLT,Int.reduceLE,Int.reduceEq,Int.reduceToNat,Int.cast_ofNat_Int,↓reduceIte]
  refine callI ((alone_ok (hx2.kp (x3.all _).kp) (hy2.kp (x3.all _).kp) rd3.i1.sl rd3.i2.sl hP K0_wf).mono ?_)
  rintro r H4 ⟨⟨c, C, b, rfl, ⟨w1, w2, b1, o1, b2, o2, rfl, rd4, q3, q4⟩, hm, ht, hf⟩, x4⟩
  have n3 := x3.1
  have n4 := x4.1
  have d1 := rd4.i1.T.2.2
  have d2 := rd4.i2.T.2.2
  obtain ⟨H5, eH5⟩ : ∃ H5, H4 ++ [Blk.cells [w1, w2]] = H5 := ⟨_, rfl⟩
  have x45 : Kx (fun _ => True) H4 H5 := by rw [← eH5]; exact Kx.app _ _ _
  have g5 : H5[H4.length]? = some (.cells [w1, w2]) := by rw [← eH5]; exact get_last
  have hst : st H.length (H4 ++ [Blk.cells [.nils, .nils]]) H4.length 0 [w1, w2] = some H5 := by
    rw [st_of get_last (by omega) (by simp), ← eH5]
    congr 1
    simp [wr]
  have rd5 := rd4.all x45
  have g15 := x45.get trivial (x4.get trivial (x3.get trivial g1))
  cases b with
  | false =>
    rw [sweepK_none (hf rfl)]
    have st6 : st H.length H5 (H.length + 1) 0 [.nils, .nils] = some (H5.set (H.length + 1) (.cells [.nils, .nils])) := by rw [st_of g15 (by omega) (by simp)]; simp [wr]
    simp (disch := (first | assumption | omega | (simp only [List.length_append, List.length_cons, List.length_nil]; omega))) only [↓wD,wU,Nat.reduceBEq,zx150,zx151,zx159,zx160,zx161,zx162,Nat.reduceAdd,Nat.reduceSub,Nat.reduceMul,Nat.reduceLeDiff,Nat.reduceLT,Nat.reduceEqDiff,Int.reduceAdd,Int.reduceSub,Int.reduceMul,Int.reduceNeg,Int.reduceLT,Int.reduceLE,Int.reduceEq,Int.reduceToNat,Int.cast_ofNat_Int,↓reduceIte, d1.1, d1.2.1, d2.1, d2.2.1, hst, st6, ldn_of (get_set g15)]
    exact rv_2 (rv_pp Sl.nil Sl.nil) rv_i
  | true =>
    rw [sweepK_some hm (ht rfl)]
    have st6 : st H.length H5 (H.length + 1) 0 [w1, w2] = some (H5.set (H.length + 1) (.cells [w1, w2])) := by rw [st_of g15 (by omega) (by simp)]; simp [wr]
    have x6 : Kx (fun b => b ≠ H.length + 1) H5 (H5.set (H.length + 1) (.cells [w1, w2])) := Kx.set _ _ _
    have rd6 := rd5.kp x6.kp (by omega) (by omega)
    simp (disch := (first | assumption | omega | (simp only [List.length_append, List.length_cons, List.length_nil]; omega))) only [↓wD,wU,Nat.reduceBEq,zx150,zx151,zx159,zx160,zx161,zx162,Nat.reduceAdd,Nat.reduceSub,Nat.reduceMul,Nat.reduceLeDiff,Nat.reduceLT,Nat.reduceEqDiff,Int.reduceAdd,Int.reduceSub,Int.reduceMul,Int.reduceNeg,Int.reduceLT,Int.reduceLE,Int.reduceEq,Int.reduceToNat,Int.cast_ofNat_Int,↓reduceIte, d1.1, d1.2.1, d2.1, d2.2.1, hst, ldn_of g5, st6, ldn_of (get_set g15)]
    exact rv_2 (rv_pp (rd6.i1.sl.weak fun b h => .inr (by omega)) (rd6.i2.sl.weak fun b h => .inr (by omega))) rv_i
end Go.Proofs.YtjjndoigkhabdaaDoor
namespace Go.Proofs.YtjjndoigkhabdaaDoor
open Go Go.AM Go.Proofs
theorem Walk.SquaresDeduces (H : Heap) (cs : List AV) (z : List (List Int) × List (List Int)) (h : Rep.rep (fun b => b < H.length) H cs z) : WpF E H.length 8 [.ag cs] H fun v _ => v = .b true := by
  obtain ⟨u, w, rfl, hx, hy⟩ := rep_pp_elim h
  obtain ⟨x, y⟩ := z
  simp only at hx hy
  refine law_of (RetP.ro rfl fn8 rfl rfl ?_)
  unfold f8A
  have vu := hx.cellsV
  have vw := hy.cellsV
  have c0 : (H ++ [Blk.cells [u, w]])[H.length]? = some (.cells [u, w]) := by simp
  have hx0 := hx.app [Blk.cells [u, w]]
  have hy0 := hy.app [Blk.cells [u, w]]
  have hn0 : (H ++ [Blk.cells [u, w]]).length = H.length + 1 := by simp
  simp (disch := (first | assumption | omega | (simp only [List.length_append, List.length_cons, List.length_nil]; omega))) only [↓wD,wU,Nat.reduceBEq,zx150,zx151,zx159,zx160,zx161,zx162,Nat.reduceAdd,Nat.reduceSub,Nat.reduceMul,Nat.reduceLeDiff,Nat.reduceLT,Nat.reduceEqDiff,Int.reduceAdd,Int.reduceSub,Int.reduceMul,Int.reduceNeg,Int.reduceLT,Int.reduceLE,Int.reduceEq,Int.reduceToNat,Int.cast_ofNat_Int,↓reduceIte, vu, vw]
  generalize H ++ [Blk.cells [u, w]] = H0 at *
  refine (of_ret hx0 hy0).toX fun r1 H1 x1 hr1 => ?_
  obtain ⟨u1, w1, rfl, a1, b1⟩ := rv_pp_elim hr1
  simp only at a1 b1
  have c1 := x1.get trivial c0
  have hx1 := hx0.kp (x1.all _).kp
  have hy1 := hy0.kp (x1.all _).kp
  by_cases hP : PuzP x y
  · obtain ⟨ex, ey⟩ := cutT_ok hP
    rw [ex] at a1
    rw [ey] at b1
    simp (disch := (first | assumption | omega | (simp only [List.length_append, List.length_cons, List.length_nil]; omega))) only [↓wD,wU,Nat.reduceBEq,zx150,zx151,zx159,zx160,zx161,zx162,Nat.reduceAdd,Nat.reduceSub,Nat.reduceMul,Nat.reduceLeDiff,Nat.reduceLT,Nat.reduceEqDiff,Int.reduceAdd,Int.reduceSub,Int.reduceMul,Int.reduceNeg,Int.reduceLT,Int.reduceLE,Int.reduceEq,Int.reduceToNat,Int.cast_ofNat_Int,↓reduceIte]
    refine (deduce_ret a1 b1 hP).toX fun r2 H2 x2 hr2 => ?_
    obtain ⟨l, m, _, rfl, hl, hm, rfl⟩ := rv3 hr2
    replace hl := rvs hl
    replace hm := rvs hm
    have c2 := x2.get trivial c1
    have hx2 := hx1.kp (x2.all _).kp
    have hy2 := hy1.kp (x2.all _).kp
    have rv := rvalid_ret hx2 hy2
    rw [decide_eq_true hP] at rv
    simp (disch := (first | assumption | omega | (simp only [List.length_append, List.length_cons, List.length_nil]; omega))) only [↓wD,wU,Nat.reduceBEq,zx150,zx151,zx159,zx160,zx161,zx162,Nat.reduceAdd,Nat.reduceSub,Nat.reduceMul,Nat.reduceLeDiff,Nat.reduceLT,Nat.reduceEqDiff,Int.reduceAdd,Int.reduceSub,Int.reduceMul,Int.reduceNeg,Int.reduceLT,Int.reduceLE,Int.reduceEq,Int.reduceToNat,Int.cast_ofNat_Int,↓reduceIte, ldn_of c2, rv.call]
    refine (rdeduce_ret hx2 hy2 hP).toX fun r3 H3 x3 hr3 => ?_
    obtain ⟨t, _, rfl, ht, rfl⟩ := rv2 hr3
    obtain ⟨f, e, rfl, hf, he⟩ := rv_pp_elim ht
    simp only at hf he
    have x4 : Kx (fun _ => True) H3 (H3 ++ [Blk.cells [f, e]]) := Kx.app _ _ _
    have hl3 := x2.1
    have hl4 := x3.1
    have hl1 := x1.1
    have hst : st H.length (H3 ++ [Blk.cells [.nils, .nils]]) H3.length 0 [f, e] = some (H3 ++ [Blk.cells [f, e]]) := by
      rw [st_of get_last (by omega) (by simp)]
      congr 1
      simp [wr]
    have g4 : (H3 ++ [Blk.cells [f, e]])[H3.length]? = some (.cells [f, e]) := get_last
    have e1 := equal_ret ((hl.kp (x3.all _).kp).kp (x4.all _).kp) (hf.kp (x4.all _).kp)
    have e2 := equal_ret ((hm.kp (x3.all _).kp).kp (x4.all _).kp) (he.kp (x4.all _).kp)
    rw [decide_eq_true rfl] at e1 e2
    have d1 := hf.cellsV
    have d2 := he.cellsV
    clear hl hm hf he hr2 hr3 ht
    generalize H3 ++ [Blk.cells [f, e]] = H4 at *
    generalize dedR (sweepK x y) = R at *
    have hd : decide (R = R) = true := decide_eq_true rfl
    simp (disch := (first | assumption | omega | (simp only [List.length_append, List.length_cons, List.length_nil]; omega))) only [↓wD,wU,Nat.reduceBEq,zx150,zx151,zx159,zx160,zx161,zx162,Nat.reduceAdd,Nat.reduceSub,Nat.reduceMul,Nat.reduceLeDiff,Nat.reduceLT,Nat.reduceEqDiff,Int.reduceAdd,Int.reduceSub,Int.reduceMul,Int.reduceNeg,Int.reduceLT,Int.reduceLE,Int.reduceEq,Int.reduceToNat,Int.cast_ofNat_Int,↓reduceIte, d1, d2, hst, ld_of g4, e1.call, e2.call, hd, awake_ret.call]
  · have hP' : ¬ PuzP (cutT x) (cutT y) := fun q => hP (PuzP_cut.1 q)
    have rv := rvalid_ret hx1 hy1
    rw [decide_eq_false hP] at rv
    simp (disch := (first | assumption | omega | (simp only [List.length_append, List.length_cons, List.length_nil]; omega))) only [↓wD,wU,Nat.reduceBEq,zx150,zx151,zx159,zx160,zx161,zx162,Nat.reduceAdd,Nat.reduceSub,Nat.reduceMul,Nat.reduceLeDiff,Nat.reduceLT,Nat.reduceEqDiff,Int.reduceAdd,Int.reduceSub,Int.reduceMul,Int.reduceNeg,Int.reduceLT,Int.reduceLE,Int.reduceEq,Int.reduceToNat,Int.cast_ofNat_Int,↓reduceIte, (deduce_err a1 b1 hP').call, ldn_of c1, rv.call, awake_ret.call]
end Go.Proofs.YtjjndoigkhabdaaDoor
