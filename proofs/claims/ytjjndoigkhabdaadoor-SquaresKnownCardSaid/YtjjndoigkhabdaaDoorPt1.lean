/- What the law needs: what its functions do, and the laws on lists behind it. No condition. -/
import Derived.Test.YtjjndoigkhabdaaDoorPt0
import Derived.Lib.TrailingZeros
import Derived.Shelf.Spec.TrailingZeros
import Derived.KernelRfl
import Derived.Laws.StructEq
import Derived.Test.YtjjndoigkhabdaaDoorRows
import Derived.ProofKit
import Derived.LaidMore
import Derived.OpenShut
import Derived.Stop.Joined
import Derived.WalkKit
import Derived.ShutString
import Derived.ChangeOld
import Derived.Below
import Derived.SizedLaws
import Derived.Carry
import Derived.SevenTiedAt
set_option linter.unusedSimpArgs false
set_option linter.unusedVariables false
namespace Go.Proofs.YtjjndoigkhabdaaDoor
open Go Go.AM Go.Proofs
theorem WpF.roX {E : Tab} {lo f : Nat} {af : AFunc} {vs : List AV} {H : Heap} {P : AV → Heap → Prop} (hk : E.kd f = .ro) (hf : E.fn f = some af) (hn : vs.length = af.nargs)
    (hp : ∀ v H', P v H' → v.pure = false) (hs : ∀ v H' H'', P v H' → Kp (fun _ => True) H' H'' → P v H'')
    (h : Wp E H.length none [.code af.body] (initFr vs) H (RetQ af.res P)) : WpF E lo f vs H fun v H' => P v H' ∧ Kx (fun _ => True) H H' := by
  refine WpF.of_ro hk hf hn (h.low.mono fun o a' H' hq => ?_)
  obtain ⟨hlow, hq⟩ := hq
  have key : ∀ {u : AV}, P u H' → P u (if u.pure then H else H ++ (H'.drop H.length).map Blk.shut) ∧ Kx (fun _ => True) H (if u.pure then H else H ++ (H'.drop H.length).map Blk.shut) := by
    intro u q
    rw [hp u H' q, if_neg (by decide)]
    refine ⟨hs u H' _ q ⟨by have := hlow.1; simp; omega, fun b k _ hb => ?_⟩, Kx.app _ _ _⟩
    by_cases hl : b < H.length
    · rw [List.getElem?_append_left hl, ← hlow.2 b hl hl]; exact hb
    · have hl' : H.length ≤ b := by omega
      rw [List.getElem?_append_right hl', List.getElem?_map, List.getElem?_drop, Nat.add_sub_cancel' hl', hb]
      rfl
  cases o with
  | exit id => exact hq.elim
  | done => obtain ⟨u, e, q⟩ := hq; exact ⟨.inl rfl, u, e, key q⟩
  | ret => obtain ⟨u, e, q⟩ := hq; exact ⟨.inr rfl, u, e, key q⟩
theorem mks16 {a b : AV} {n : Nat} (h : n ≤ 1000) : mksliceV 2 16 [a, b] (.int .i64 (n : Int)) = some n := by
  have : mostBytes = 1099511627776 := by decide
  simp only [mksliceV, this]
  rw [if_pos ⟨by omega, by omega, by omega, rfl⟩, Int.toNat_natCast]
theorem reps_two {a b : AV} : ∀ {n : Nat}, (reps n [a, b]).length = 2 * n ∧ ∀ i, i < n → (reps n [a, b])[2 * i]? = some a ∧ (reps n [a, b])[2 * i + 1]? = some b
  | 0 => ⟨rfl, fun i hi => by omega⟩
  | n + 1 => by
    obtain ⟨h1, h2⟩ := reps_two (a := a) (b := b) (n := n)
    refine ⟨by simp [reps, h1]; omega, fun i hi => ?_⟩
    cases i with
    | zero => exact ⟨rfl, rfl⟩
    | succ i => exact h2 i (by omega)
def K0 (h : Nat) : KS := List.replicate h (0, 0)
theorem K0_len {h : Nat} : (K0 h).length = h := by simp [K0]
theorem K0_f {h i : Nat} : fK (K0 h) i = 0 ∧ eK (K0 h) i = 0 := by
  unfold fK eK
  by_cases hi : i < (K0 h).length
  · rw [gi_nat hi]; simp [K0]
  · rw [gi_big (by omega)]; exact ⟨rfl, rfl⟩
theorem K0_wf {h w : Nat} : WfK h w (K0 h) := ⟨K0_len, fun i _ => by rw [K0_f.1, K0_f.2]; exact ⟨Nat.two_pow_pos w, Nat.two_pow_pos w⟩⟩
theorem K0_le {h : Nat} {L : KS} : LeK (K0 h) L := fun i => by
  rw [K0_f.1, K0_f.2]
  have z : ∀ x, SubB 0 x := fun x c h => by rw [Nat.zero_testBit] at h; cases h
  exact ⟨z _, z _⟩
theorem Bd.kp {L bp pp kb o : Nat} {u w v : AV} {xs ys : List (List Int)} {H H' : Heap} {K : KS} (h : Bd L bp pp u w xs ys v kb o H K) (hx : Kp (fun _ => True) H H') : Bd L bp pp u w xs ys v kb o H' K :=
  ⟨hx.2 _ _ trivial h.b, hx.2 _ _ trivial h.p, h.x.kp (hx.weak fun _ _ => trivial), h.y.kp (hx.weak fun _ _ => trivial), ⟨h.k.v, by
    obtain ⟨k, hk, h2⟩ := h.k.k
    exact ⟨k, hx.2 _ _ trivial hk, h2⟩, h.k.b⟩, h.hp, h.hb, h.hk, h.ne⟩
theorem start_ok {L pp lo : Nat} {u w : AV} {xs ys : List (List Int)} {H : Heap} (hP : H[pp]? = some (.cells [u, w])) (hx : Sl (fun b => b < L) H u xs) (hy : Sl (fun b => b < L) H w ys) (hp : pp < L) (hL : L ≤ H.length) (h5 : xs.length ≤ 5) :
    WpF E lo 68 [.p pp 0] H fun r H' => (∃ bp v kb o, r = .p bp 0 ∧ Bd L bp pp u w xs ys v kb o H' (K0 xs.length) ∧ H.length ≤ bp ∧ H.length ≤ kb) ∧ Kx (fun _ => True) H H' := by
  refine WpF.roX rfl fn68 rfl (by rintro v H' ⟨bp, v', kb, o, rfl, _⟩; rfl) (by rintro v H' H'' ⟨bp, v', kb, o, e, h, h1, h2⟩ hk; exact ⟨bp, v', kb, o, e, h.kp hk, h1, h2⟩) ?_
  unfold f68A
  have hm := mks16 (a := .i 0) (b := .i 0) (n := xs.length) (by omega)
  have hxL := hx.L
  simp (disch := (first | assumption | omega | (simp only [List.length_append, List.length_cons, List.length_nil]; omega))) only [↓wD,wU,Nat.reduceBEq,zx150,zx151,zx159,zx160,zx161,zx162,Nat.reduceAdd,Nat.reduceSub,Nat.reduceMul,Nat.reduceLeDiff,Nat.reduceLT,Nat.reduceEqDiff,Int.reduceAdd,Int.reduceSub,Int.reduceMul,Int.reduceNeg,Int.reduceLT,Int.reduceLE,Int.reduceEq,Int.reduceToNat,Int.cast_ofNat_Int,↓reduceIte, nc_p, ld_of hP, hxL, hm]
  have x2 : Kx (fun _ => True) H (H ++ [Blk.cells (reps xs.length [.i 0, .i 0])] ++ [Blk.cells [.p pp 0, .s 2 H.length 0 xs.length (some xs.length)]]) := (Kx.app _ _ _).app' _
  refine ⟨H.length + 1, .s 2 H.length 0 xs.length (some xs.length), H.length, 0, by simp, ⟨?_, x2.get trivial hP, hx.kp (x2.all _).kp, hy.kp (x2.all _).kp, ⟨⟨some xs.length, by rw [K0_len]⟩, ⟨reps xs.length [.i 0, .i 0], ?_, ?_, fun i hi => ?_⟩, by rw [K0_len]; omega⟩, hp, by omega, by omega, by omega⟩, by omega, by omega⟩
  · simp [List.getElem?_append]
  · simp [List.getElem?_append]
  · rw [K0_len, reps_two.1]; omega
  · rw [K0_len] at hi
    rw [K0_f.1, K0_f.2, Nat.zero_add]
    exact reps_two.2 i hi
theorem lines_ok {L bp pp kb o lo : Nat} {u w v : AV} {xs ys : List (List Int)} {H : Heap} {K : KS} (h : Bd L bp pp u w xs ys v kb o H K) (hlo : lo ≤ L) (hP : PuzP xs ys) (hw : WfK xs.length ys.length K) :
    WpF E lo 69 [.p bp 0] H fun r H' => ∃ C b, r = .b b ∧ Bd L bp pp u w xs ys v kb o H' C ∧ Kx (fun b => b ≠ kb) H H' ∧ MidL xs ys K C ∧ (b = true → LC xs ys C) ∧ (b = false → FailL xs ys K) := by
  refine WpF.wrt rfl fn69 rfl ?_
  unfold f69A
  have x5 : xs.length ≤ 5 := by have := hP.1.2; omega
  have x1 : 1 ≤ xs.length := by have := hP.1.1; omega
  have y5 : ys.length ≤ 5 := by have := hP.2.1.2; omega
  have px := pow32 x5
  have py := pow32 y5
  have hhk := h.hk
  simp (disch := (first | assumption | omega | (simp only [List.length_append, List.length_cons, List.length_nil]; omega))) only [↓wD,wU,Nat.reduceBEq,zx150,zx151,zx159,zx160,zx161,zx162,Nat.reduceAdd,Nat.reduceSub,Nat.reduceMul,Nat.reduceLeDiff,Nat.reduceLT,Nat.reduceEqDiff,Int.reduceAdd,Int.reduceSub,Int.reduceMul,Int.reduceNeg,Int.reduceLT,Int.reduceLE,Int.reduceEq,Int.reduceToNat,Int.cast_ofNat_Int,↓reduceIte]
  refine Wp.dec (fun m a H' => ∃ C, m = mes xs.length ys.length C ∧ a 0 = .p bp 0 ∧ Bd L bp pp u w xs ys v kb o H' C ∧ MidL xs ys K C ∧ Kx (fun b => b ≠ kb) H H') (mes xs.length ys.length K) ?_ ?_
  · rintro m a H1 ⟨C, rfl, a0, hb1, hm1, hx1⟩ ih
    have hwC := hm1.1
    have hl1 := hb1.lt
    have hT1 := hb1.k.T
    simp (disch := (first | assumption | omega | (simp only [List.length_append, List.length_cons, List.length_nil]; omega))) only [↓wD,wU,Nat.reduceBEq,zx150,zx151,zx159,zx160,zx161,zx162,Nat.reduceAdd,Nat.reduceSub,Nat.reduceMul,Nat.reduceLeDiff,Nat.reduceLT,Nat.reduceEqDiff,Int.reduceAdd,Int.reduceSub,Int.reduceMul,Int.reduceNeg,Int.reduceLT,Int.reduceLE,Int.reduceEq,Int.reduceToNat,Int.cast_ofNat_Int,↓reduceIte, a0, nc_p, ld_of hb1.b]
    refine (kclone_ret hb1.k.sl (by rw [pK_len, hwC.len]; omega)).toFX fun v2 H2 x2 hv2 => ?_
    have hb2 := hb1.all x2
    have hl2 := x2.1
    have hxL2 := hb2.x.L
    simp (disch := (first | assumption | omega | (simp only [List.length_append, List.length_cons, List.length_nil]; omega))) only [↓wD,wU,Nat.reduceBEq,zx150,zx151,zx159,zx160,zx161,zx162,Nat.reduceAdd,Nat.reduceSub,Nat.reduceMul,Nat.reduceLeDiff,Nat.reduceLT,Nat.reduceEqDiff,Int.reduceAdd,Int.reduceSub,Int.reduceMul,Int.reduceNeg,Int.reduceLT,Int.reduceLE,Int.reduceEq,Int.reduceToNat,Int.cast_ofNat_Int,↓reduceIte, a0, nc_p, ld_of hb2.b, ld_of hb2.p, hxL2]
    refine Wp.for xs.length (fun i a H' => ∃ D, a 0 = .p bp 0 ∧ a 3 = v2 ∧ a 23 = u ∧ a 24 = .i xs.length ∧ a 25 = .i i ∧ Bd L bp pp u w xs ys v kb o H' D ∧ MidL xs ys C D ∧ RowsIn xs ys C D i ∧ Kx (fun b => b ≠ kb) H2 H') ?_ ?_
    · rintro i a H3 hi ⟨D, a0, a3, a23, a24, a25, hb3, hm3, hr3, hx3⟩ ih2
      have hl3 := hx3.1
      have hwD := hm3.1
      have hlD := hwD.len
      simp (disch := (first | assumption | omega | (simp only [List.length_append, List.length_cons, List.length_nil]; omega))) only [↓wD,wU,Nat.reduceBEq,zx150,zx151,zx159,zx160,zx161,zx162,Nat.reduceAdd,Nat.reduceSub,Nat.reduceMul,Nat.reduceLeDiff,Nat.reduceLT,Nat.reduceEqDiff,Int.reduceAdd,Int.reduceSub,Int.reduceMul,Int.reduceNeg,Int.reduceLT,Int.reduceLE,Int.reduceEq,Int.reduceToNat,Int.cast_ofNat_Int,↓reduceIte, a0, a3, a23, a24, a25]
      refine condP_split (fun hlt => ?_) (fun hlt => ?_)
      · have hi' : i < xs.length := by omega
        have hxL3 := hb3.x.L
        have hyL3 := hb3.y.L
        have g := hb3.x.get (k := (i : Int)) (by omega) (by omega)
        have hD := hwD.lt i hi'
        have sr := settle_ret (n := ys.length) (f := fK D i) (e := eK D i) g y5 (by omega) (by omega)
        have hT3 := hb3.k.T
        have t1 : iaddrV 2 v (.i (i : Int)) = some (.p kb (o + 2 * i)) := hT3.2.1 _ i (by omega)
        have t2 := hT3.2.2.2.2.2.2 i (by omega)
        obtain ⟨S, eS⟩ : ∃ S, setS ys.length (gi xs (i : Int)) (fK D i) (eK D i) = S := ⟨_, rfl⟩
        rw [eS] at sr
        obtain ⟨s1, s2, s3⟩ := S
        simp only at sr
        have hb3l := hb3.lt
        cases s3 with
        | false =>
          have hf := row_fail y5 hi' (by rw [eS])
          have hst : st lo (H3 ++ [Blk.cells [.i 0, .i 0]]) H3.length 0 [.i (s1 : Int), .i (s2 : Int)] = some (H3 ++ [Blk.cells [.i (s1 : Int), .i (s2 : Int)]]) := by
            rw [st_of get_last (by omega) (by simp)]
            congr 1
            simp [wr]
          generalize fK D i = Fi at *
          generalize eK D i = Ei at *
          simp (disch := (first | assumption | omega | (simp only [List.length_append, List.length_cons, List.length_nil]; omega))) only [↓wD,wU,Nat.reduceBEq,zx150,zx151,zx159,zx160,zx161,zx162,Nat.reduceAdd,Nat.reduceSub,Nat.reduceMul,Nat.reduceLeDiff,Nat.reduceLT,Nat.reduceEqDiff,Int.reduceAdd,Int.reduceSub,Int.reduceMul,Int.reduceNeg,Int.reduceLT,Int.reduceLE,Int.reduceEq,Int.reduceToNat,Int.cast_ofNat_Int,↓reduceIte, a0, a3, a23, a24, a25, nc_p, hxL3, hyL3, ld_of hb3.b, ld_of hb3.p, t1, t2, sr.call, hst]
          have xx : Kx (fun b => b ≠ kb) H (H3 ++ [Blk.cells [.i (s1 : Int), .i (s2 : Int)]]) := ((hx1.trans x2 fun _ _ _ => trivial).trans hx3 fun _ _ h => h).app' _
          exact ⟨D, false, rfl, hb3.all (Kx.app _ _ _), xx, hm1.trans hm3, nofun, fun _ => hm1.fail (hm3.fail hf)⟩
        | true =>
          obtain ⟨hm4, hr4⟩ := rowW_step y5 hi' hm3 hr3 eS rfl
          simp only at hm4 hr4
          obtain ⟨H4, eH4⟩ : ∃ H4, H3 ++ [Blk.cells [.i (s1 : Int), .i (s2 : Int)]] = H4 := ⟨_, rfl⟩
          have x34 : Kx (fun _ => True) H3 H4 := by rw [← eH4]; exact Kx.app _ _ _
          have hst : st lo (H3 ++ [Blk.cells [.i 0, .i 0]]) H3.length 0 [.i (s1 : Int), .i (s2 : Int)] = some H4 := by
            rw [st_of get_last (by omega) (by simp), ← eH4]
            congr 1
            simp [wr]
          have g4 : H4[H3.length]? = some (.cells [.i (s1 : Int), .i (s2 : Int)]) := by rw [← eH4]; exact get_last
          have hb4 := hb3.all x34
          obtain ⟨H5, st5, n5, x5', k5⟩ := hb4.k.st12 (lo := lo) (by omega) (i := i) (by omega) s1 s2
          have hb5 := hb4.upd x5' k5
          generalize fK D i = Fi at *
          generalize eK D i = Ei at *
          simp (disch := (first | assumption | omega | (simp only [List.length_append, List.length_cons, List.length_nil]; omega))) only [↓wD,wU,Nat.reduceBEq,zx150,zx151,zx159,zx160,zx161,zx162,Nat.reduceAdd,Nat.reduceSub,Nat.reduceMul,Nat.reduceLeDiff,Nat.reduceLT,Nat.reduceEqDiff,Int.reduceAdd,Int.reduceSub,Int.reduceMul,Int.reduceNeg,Int.reduceLT,Int.reduceLE,Int.reduceEq,Int.reduceToNat,Int.cast_ofNat_Int,↓reduceIte, a0, a3, a23, a24, a25, nc_p, hxL3, hyL3, ld_of hb3.b, ld_of hb3.p, t1, t2, sr.call, hst, ld_of hb4.b, ldn_of g4, st5]
          refine (ih2 hi').go ⟨D.set i (s1, s2), ?_⟩
          simp (disch := (first | assumption | omega | (simp only [List.length_append, List.length_cons, List.length_nil]; omega))) only [↓wD,wU,Nat.reduceBEq,zx150,zx151,zx159,zx160,zx161,zx162,Nat.reduceAdd,Nat.reduceSub,Nat.reduceMul,Nat.reduceLeDiff,Nat.reduceLT,Nat.reduceEqDiff,Int.reduceAdd,Int.reduceSub,Int.reduceMul,Int.reduceNeg,Int.reduceLT,Int.reduceLE,Int.reduceEq,Int.reduceToNat,Int.cast_ofNat_Int,↓reduceIte, a0, a3, a23, a24, a25]
          exact ⟨hb5, hm4, hr4, (hx3.trans x34 fun _ _ _ => trivial).trans x5' fun _ _ h => h⟩
      · obtain rfl : i = xs.length := by omega
        have hxL3 := hb3.x.L
        have hyL3 := hb3.y.L
        have hb3l := hb3.lt
        simp (disch := (first | assumption | omega | (simp only [List.length_append, List.length_cons, List.length_nil]; omega))) only [↓wD,wU,Nat.reduceBEq,zx150,zx151,zx159,zx160,zx161,zx162,Nat.reduceAdd,Nat.reduceSub,Nat.reduceMul,Nat.reduceLeDiff,Nat.reduceLT,Nat.reduceEqDiff,Int.reduceAdd,Int.reduceSub,Int.reduceMul,Int.reduceNeg,Int.reduceLT,Int.reduceLE,Int.reduceEq,Int.reduceToNat,Int.cast_ofNat_Int,↓reduceIte, a0, a3, a23, a24, a25, nc_p, ld_of hb3.b, ld_of hb3.p, hyL3]
        have hc0 : ColsIn xs ys C D 0 := fun j hj => by omega
        refine Wp.for ys.length (fun i a H' => ∃ D, a 0 = .p bp 0 ∧ a 3 = v2 ∧ a 66 = w ∧ a 67 = .i ys.length ∧ a 68 = .i i ∧ Bd L bp pp u w xs ys v kb o H' D ∧ MidL xs ys C D ∧ RowsIn xs ys C D xs.length ∧ ColsIn xs ys C D i ∧ Kx (fun b => b ≠ kb) H2 H') ?_ ?_
        · clear hm3 hr3 hx3 hb3 hl3 hwD hlD hxL3 hyL3 hb3l hc0 hlt hi a0 a3 a23 a24 a25 a D H3
          rintro i a H3 hi ⟨D, a0, a3, a66, a67, a68, hb3, hm3, hr3, hc3, hx3⟩ ih3
          have hl3 := hx3.1
          have hwD := hm3.1
          have hlD := hwD.len
          have hb3l := hb3.lt
          simp (disch := (first | assumption | omega | (simp only [List.length_append, List.length_cons, List.length_nil]; omega))) only [↓wD,wU,Nat.reduceBEq,zx150,zx151,zx159,zx160,zx161,zx162,Nat.reduceAdd,Nat.reduceSub,Nat.reduceMul,Nat.reduceLeDiff,Nat.reduceLT,Nat.reduceEqDiff,Int.reduceAdd,Int.reduceSub,Int.reduceMul,Int.reduceNeg,Int.reduceLT,Int.reduceLE,Int.reduceEq,Int.reduceToNat,Int.cast_ofNat_Int,↓reduceIte, a0, a3, a66, a67, a68]
          refine condP_split (fun hlt => ?_) (fun hlt => ?_)
          · have hi' : i < ys.length := by omega
            have hxL3 := hb3.x.L
            have hyL3 := hb3.y.L
            have g := hb3.y.get (k := (i : Int)) (by omega) (by omega)
            have hD := col_lt hwD i
            have h31 : ∀ i, i < D.length → fK D i ≤ 9223372036854775807 ∧ eK D i ≤ 9223372036854775807 := fun j hj => by
              have := hwD.lt j (by omega)
              omega
            have cr := bcolumn_ret (c := i) hb3 (by omega) (by omega) h31
            have sr := settle_ret (n := xs.length) (f := colN (FK D) i) (e := colN (EK D) i) g x5 (by omega) (by omega)
            obtain ⟨S, eS⟩ : ∃ S, setS xs.length (gi ys (i : Int)) (colN (FK D) i) (colN (EK D) i) = S := ⟨_, rfl⟩
            have sl := setS_lt (n := xs.length) (f := colN (FK D) i) (e := colN (EK D) i) (cl := gi ys (i : Int))
            rw [eS] at sr sl
            obtain ⟨s1, s2, s3⟩ := S
            simp only at sr sl
            cases s3 with
            | false =>
              have hf := col_fail x5 hi' hwD (by rw [eS])
              have hst : st lo (H3 ++ [Blk.cells [.i 0, .i 0]]) H3.length 0 [.i (s1 : Int), .i (s2 : Int)] = some (H3 ++ [Blk.cells [.i (s1 : Int), .i (s2 : Int)]]) := by
                rw [st_of get_last (by omega) (by simp)]
                congr 1
                simp [wr]
              generalize colN (FK D) i = Fi at *
              generalize colN (EK D) i = Ei at *
              simp (disch := (first | assumption | omega | (simp only [List.length_append, List.length_cons, List.length_nil]; omega))) only [↓wD,wU,Nat.reduceBEq,zx150,zx151,zx159,zx160,zx161,zx162,Nat.reduceAdd,Nat.reduceSub,Nat.reduceMul,Nat.reduceLeDiff,Nat.reduceLT,Nat.reduceEqDiff,Int.reduceAdd,Int.reduceSub,Int.reduceMul,Int.reduceNeg,Int.reduceLT,Int.reduceLE,Int.reduceEq,Int.reduceToNat,Int.cast_ofNat_Int,↓reduceIte, a0, a3, a66, a67, a68, nc_p, hxL3, hyL3, ld_of hb3.b, ld_of hb3.p, cr.call, sr.call, hst]
              have xx : Kx (fun b => b ≠ kb) H (H3 ++ [Blk.cells [.i (s1 : Int), .i (s2 : Int)]]) := ((hx1.trans x2 fun _ _ _ => trivial).trans hx3 fun _ _ h => h).app' _
              exact ⟨D, false, rfl, hb3.all (Kx.app _ _ _), xx, hm1.trans hm3, nofun, fun _ => hm1.fail (hm3.fail hf)⟩
            | true =>
              obtain ⟨hm4, hr4, hc4⟩ := colW_step x5 hi' hm3 hwC.len hr3 hc3 eS rfl
              simp only at hm4 hr4 hc4
              obtain ⟨H4, eH4⟩ : ∃ H4, H3 ++ [Blk.cells [.i (s1 : Int), .i (s2 : Int)]] = H4 := ⟨_, rfl⟩
              have x34 : Kx (fun _ => True) H3 H4 := by rw [← eH4]; exact Kx.app _ _ _
              have hst : st lo (H3 ++ [Blk.cells [.i 0, .i 0]]) H3.length 0 [.i (s1 : Int), .i (s2 : Int)] = some H4 := by
                rw [st_of get_last (by omega) (by simp), ← eH4]
                congr 1
                simp [wr]
              have g4 : H4[H3.length]? = some (.cells [.i (s1 : Int), .i (s2 : Int)]) := by rw [← eH4]; exact get_last
              have hb4 := hb3.all x34
              generalize colN (FK D) i = Fi at *
              generalize colN (EK D) i = Ei at *
              simp (disch := (first | assumption | omega | (simp only [List.length_append, List.length_cons, List.length_nil]; omega))) only [↓wD,wU,Nat.reduceBEq,zx150,zx151,zx159,zx160,zx161,zx162,Nat.reduceAdd,Nat.reduceSub,Nat.reduceMul,Nat.reduceLeDiff,Nat.reduceLT,Nat.reduceEqDiff,Int.reduceAdd,Int.reduceSub,Int.reduceMul,Int.reduceNeg,Int.reduceLT,Int.reduceLE,Int.reduceEq,Int.reduceToNat,Int.cast_ofNat_Int,↓reduceIte, a0, a3, a66, a67, a68, nc_p, hxL3, hyL3, ld_of hb3.b, ld_of hb3.p, cr.call, sr.call, hst, ldn_of g4]
              refine callI ((bput_ok (c := i) (f := s1) (e := s2) hb4 hlo (by omega) (by omega) (by omega) (by omega) h31).mono ?_)
              rintro r H5 ⟨hb5, x45⟩
              simp (disch := (first | assumption | omega | (simp only [List.length_append, List.length_cons, List.length_nil]; omega))) only [↓wD,wU,Nat.reduceBEq,zx150,zx151,zx159,zx160,zx161,zx162,Nat.reduceAdd,Nat.reduceSub,Nat.reduceMul,Nat.reduceLeDiff,Nat.reduceLT,Nat.reduceEqDiff,Int.reduceAdd,Int.reduceSub,Int.reduceMul,Int.reduceNeg,Int.reduceLT,Int.reduceLE,Int.reduceEq,Int.reduceToNat,Int.cast_ofNat_Int,↓reduceIte, a0, a3, a66, a67, a68]
              refine (ih3 hi').go ⟨colK D i s1 s2 D.length, ?_⟩
              simp (disch := (first | assumption | omega | (simp only [List.length_append, List.length_cons, List.length_nil]; omega))) only [↓wD,wU,Nat.reduceBEq,zx150,zx151,zx159,zx160,zx161,zx162,Nat.reduceAdd,Nat.reduceSub,Nat.reduceMul,Nat.reduceLeDiff,Nat.reduceLT,Nat.reduceEqDiff,Int.reduceAdd,Int.reduceSub,Int.reduceMul,Int.reduceNeg,Int.reduceLT,Int.reduceLE,Int.reduceEq,Int.reduceToNat,Int.cast_ofNat_Int,↓reduceIte, a0, a3, a66, a67, a68]
              exact ⟨hb5, hm4, hr4, hc4, (hx3.trans x34 fun _ _ _ => trivial).trans x45 fun _ _ h => h⟩
          · obtain rfl : i = ys.length := by omega
            have eq := kequal_ret (hv2.low.kp (hx3.weak fun b _ h => by omega).kp) hb3.k.sl
            have xx := (hx1.trans x2 fun _ _ _ => trivial).trans hx3 fun _ _ h => h
            by_cases he : C = D
            · subst he
              rw [decide_eq_true rfl] at eq
              simp (disch := (first | assumption | omega | (simp only [List.length_append, List.length_cons, List.length_nil]; omega))) only [↓wD,wU,Nat.reduceBEq,zx150,zx151,zx159,zx160,zx161,zx162,Nat.reduceAdd,Nat.reduceSub,Nat.reduceMul,Nat.reduceLeDiff,Nat.reduceLT,Nat.reduceEqDiff,Int.reduceAdd,Int.reduceSub,Int.reduceMul,Int.reduceNeg,Int.reduceLT,Int.reduceLE,Int.reduceEq,Int.reduceToNat,Int.cast_ofNat_Int,↓reduceIte, a0, a3, a66, a67, a68, nc_p, ld_of hb3.b, eq.call]
              exact ⟨C, true, rfl, hb3, xx, hm1, fun _ => sweep_done x5 y5 hwC hr3 hc3, nofun⟩
            · rw [decide_eq_false (fun q => he (pK_inj.1 q))] at eq
              simp (disch := (first | assumption | omega | (simp only [List.length_append, List.length_cons, List.length_nil]; omega))) only [↓wD,wU,Nat.reduceBEq,zx150,zx151,zx159,zx160,zx161,zx162,Nat.reduceAdd,Nat.reduceSub,Nat.reduceMul,Nat.reduceLeDiff,Nat.reduceLT,Nat.reduceEqDiff,Int.reduceAdd,Int.reduceSub,Int.reduceMul,Int.reduceNeg,Int.reduceLT,Int.reduceLE,Int.reduceEq,Int.reduceToNat,Int.cast_ofNat_Int,↓reduceIte, a0, a3, a66, a67, a68, nc_p, ld_of hb3.b, eq.call]
              refine ih.go ⟨_, mes_lt hwC hwD hm3.2.1 he, D, rfl, ?_⟩
              simp (disch := (first | assumption | omega | (simp only [List.length_append, List.length_cons, List.length_nil]; omega))) only [↓wD,wU,Nat.reduceBEq,zx150,zx151,zx159,zx160,zx161,zx162,Nat.reduceAdd,Nat.reduceSub,Nat.reduceMul,Nat.reduceLeDiff,Nat.reduceLT,Nat.reduceEqDiff,Int.reduceAdd,Int.reduceSub,Int.reduceMul,Int.reduceNeg,Int.reduceLT,Int.reduceLE,Int.reduceEq,Int.reduceToNat,Int.cast_ofNat_Int,↓reduceIte, a0]
              exact ⟨hb3, hm1.trans hm3, xx⟩
        · simp (disch := (first | assumption | omega | (simp only [List.length_append, List.length_cons, List.length_nil]; omega))) only [↓wD,wU,Nat.reduceBEq,zx150,zx151,zx159,zx160,zx161,zx162,Nat.reduceAdd,Nat.reduceSub,Nat.reduceMul,Nat.reduceLeDiff,Nat.reduceLT,Nat.reduceEqDiff,Int.reduceAdd,Int.reduceSub,Int.reduceMul,Int.reduceNeg,Int.reduceLT,Int.reduceLE,Int.reduceEq,Int.reduceToNat,Int.cast_ofNat_Int,↓reduceIte, a0, a3]
          exact ⟨D, hb3, hm3, hr3, hc0, hx3⟩
    · simp (disch := (first | assumption | omega | (simp only [List.length_append, List.length_cons, List.length_nil]; omega))) only [↓wD,wU,Nat.reduceBEq,zx150,zx151,zx159,zx160,zx161,zx162,Nat.reduceAdd,Nat.reduceSub,Nat.reduceMul,Nat.reduceLeDiff,Nat.reduceLT,Nat.reduceEqDiff,Int.reduceAdd,Int.reduceSub,Int.reduceMul,Int.reduceNeg,Int.reduceLT,Int.reduceLE,Int.reduceEq,Int.reduceToNat,Int.cast_ofNat_Int,↓reduceIte, a0]
      exact ⟨C, hb2, MidL.refl hwC, fun j hj => by omega, Kx.refl _ _⟩
  · simp (disch := (first | assumption | omega | (simp only [List.length_append, List.length_cons, List.length_nil]; omega))) only [↓wD,wU,Nat.reduceBEq,zx150,zx151,zx159,zx160,zx161,zx162,Nat.reduceAdd,Nat.reduceSub,Nat.reduceMul,Nat.reduceLeDiff,Nat.reduceLT,Nat.reduceEqDiff,Int.reduceAdd,Int.reduceSub,Int.reduceMul,Int.reduceNeg,Int.reduceLT,Int.reduceLE,Int.reduceEq,Int.reduceToNat,Int.cast_ofNat_Int,↓reduceIte]
    exact ⟨K, rfl, h, MidL.refl hw, Kx.refl _ _⟩
end Go.Proofs.YtjjndoigkhabdaaDoor
namespace Go.Proofs.YtjjndoigkhabdaaDoor
open Go Go.AM Go.Proofs
open Classical in
/-- what the lines settle, if they hold -/
noncomputable def sweepK (xs ys : List (List Int)) : Option KS := if h : ∃ C, MidL xs ys (K0 xs.length) C ∧ LC xs ys C then some h.choose else none
theorem MidL.uniq {xs ys : List (List Int)} {K C D : KS} (h : MidL xs ys K C) (hc : LC xs ys C) (h' : MidL xs ys K D) (hd : LC xs ys D) : C = D := LeK.anti h.1 h'.1 (h.2.2 D h'.1 hd h'.2.1) (h'.2.2 C h.1 hc h.2.1)
theorem sweepK_some {xs ys : List (List Int)} {C : KS} (h : MidL xs ys (K0 xs.length) C) (hc : LC xs ys C) : sweepK xs ys = some C := by
  unfold sweepK
  have hex : ∃ C, MidL xs ys (K0 xs.length) C ∧ LC xs ys C := ⟨C, h, hc⟩
  rw [dif_pos hex]
  have := hex.choose_spec
  rw [this.1.uniq this.2 h hc]
theorem sweepK_none {xs ys : List (List Int)} (h : FailL xs ys (K0 xs.length)) : sweepK xs ys = none := by
  unfold sweepK
  rw [dif_neg]
  rintro ⟨C, h1, h2⟩
  exact h C h1.1 h2 h1.2.1
theorem sweepK_of {xs ys : List (List Int)} {C : KS} (h : sweepK xs ys = some C) : MidL xs ys (K0 xs.length) C ∧ LC xs ys C := by
  unfold sweepK at h
  split at h
  · rename_i hex
    simp only [Option.some.injEq] at h
    rw [← h]; exact hex.choose_spec
  · cases h
def dedF (o : Option KS) : List Int := match o with | some C => nL (FK C) | none => []
def dedE (o : Option KS) : List Int := match o with | some C => nL (EK C) | none => []
def dedR (o : Option KS) : Int := match o with | some _ => 0 | none => 4
theorem take_fK {K : KS} {i : Nat} (h : i < K.length) : nL (FK (K.take (i + 1))) = nL (FK (K.take i)) ++ [(fK K i : Int)] ∧ nL (EK (K.take (i + 1))) = nL (EK (K.take i)) ++ [(eK K i : Int)] := by
  rw [take_gi h]
  unfold nL FK EK fK eK
  simp
theorem deduce_ret {p q : Nat → Prop} {H : Heap} {u w : AV} {x y : List (List Int)} (hx : Sl p H u x) (hy : Sl q H w y) (hP : PuzP x y) : Ret E 36 [.ag [u, w]] (fun _ => False) H (T3.mk (dedF (sweepK x y)) (dedE (sweepK x y)) (dedR (sweepK x y))) := by
  refine Ret.ro rfl fn36 rfl ?_
  unfold f36A
  have vu := hx.cellsV
  have vw := hy.cellsV
  obtain ⟨H2, eH2⟩ : ∃ H2, H ++ [Blk.cells [u, w]] = H2 := ⟨_, rfl⟩
  have x2 : Kx (fun _ => True) H H2 := by rw [← eH2]; exact Kx.app _ _ _
  have n2 : H2.length = H.length + 1 := by rw [← eH2]; simp
  have g0 : H2[H.length]? = some (.cells [u, w]) := by rw [← eH2]; exact get_last
  have hx2 : Sl (fun b => b < H2.length) H2 u x := (hx.low.weak (q := fun b => b < H2.length) fun b h => by omega).kp (x2.all _).kp
  have hy2 : Sl (fun b => b < H2.length) H2 w y := (hy.low.weak (q := fun b => b < H2.length) fun b h => by omega).kp (x2.all _).kp
  have hv := pvalid_ret hx2 hy2
  rw [decide_eq_true hP] at hv
  have x5 : x.length ≤ 5 := by have := hP.1.2; omega
  simp (disch := (first | assumption | omega | (simp only [List.length_append, List.length_cons, List.length_nil]; omega))) only [↓wD,wU,Nat.reduceBEq,zx150,zx151,zx159,zx160,zx161,zx162,Nat.reduceAdd,Nat.reduceSub,Nat.reduceMul,Nat.reduceLeDiff,Nat.reduceLT,Nat.reduceEqDiff,Int.reduceAdd,Int.reduceSub,Int.reduceMul,Int.reduceNeg,Int.reduceLT,Int.reduceLE,Int.reduceEq,Int.reduceToNat,Int.cast_ofNat_Int,↓reduceIte, vu, vw, eH2, ldn_of g0, hv.call]
  refine callI ((start_ok g0 hx2 hy2 (by omega) (Nat.le_refl _) x5).mono ?_)
  rintro r H3 ⟨⟨bp, v, kb, o, rfl, hb3, q1, q2⟩, x3⟩
  simp (disch := (first | assumption | omega | (simp only [List.length_append, List.length_cons, List.length_nil]; omega))) only [↓wD,wU,Nat.reduceBEq,zx150,zx151,zx159,zx160,zx161,zx162,Nat.reduceAdd,Nat.reduceSub,Nat.reduceMul,Nat.reduceLeDiff,Nat.reduceLT,Nat.reduceEqDiff,Int.reduceAdd,Int.reduceSub,Int.reduceMul,Int.reduceNeg,Int.reduceLT,Int.reduceLE,Int.reduceEq,Int.reduceToNat,Int.cast_ofNat_Int,↓reduceIte]
  refine callI ((lines_ok hb3 (by omega) hP K0_wf).mono ?_)
  rintro r H4 ⟨C, b, rfl, hb4, x4, hm, ht, hf⟩
  have hl4 := hb4.lt
  have h34 := x4.1
  have h23 := x3.1
  cases b with
  | false =>
    rw [sweepK_none (hf rfl)]
    simp (disch := (first | assumption | omega | (simp only [List.length_append, List.length_cons, List.length_nil]; omega))) only [↓wD,wU,Nat.reduceBEq,zx150,zx151,zx159,zx160,zx161,zx162,Nat.reduceAdd,Nat.reduceSub,Nat.reduceMul,Nat.reduceLeDiff,Nat.reduceLT,Nat.reduceEqDiff,Int.reduceAdd,Int.reduceSub,Int.reduceMul,Int.reduceNeg,Int.reduceLT,Int.reduceLE,Int.reduceEq,Int.reduceToNat,Int.cast_ofNat_Int,↓reduceIte]
    exact rv_3 Sl.nil Sl.nil rv_i
  | true =>
    have hC := hm.1.len
    rw [sweepK_some hm (ht rfl)]
    have hT := hb4.k.T
    simp (disch := (first | assumption | omega | (simp only [List.length_append, List.length_cons, List.length_nil]; omega))) only [↓wD,wU,Nat.reduceBEq,zx150,zx151,zx159,zx160,zx161,zx162,Nat.reduceAdd,Nat.reduceSub,Nat.reduceMul,Nat.reduceLeDiff,Nat.reduceLT,Nat.reduceEqDiff,Int.reduceAdd,Int.reduceSub,Int.reduceMul,Int.reduceNeg,Int.reduceLT,Int.reduceLE,Int.reduceEq,Int.reduceToNat,Int.cast_ofNat_Int,↓reduceIte, nc_p, ld_of hb4.b, hT]
    refine Wp.for C.length (fun i a H' => ∃ z1 z2, a 2 = z1 ∧ a 3 = z2 ∧ a 18 = v ∧ a 19 = .i C.length ∧ a 20 = .i i ∧ Bd H2.length bp H.length u w x y v kb o H' C ∧ Acc H4.length (fun _ => False) H' z1 (nL (FK (C.take i))) ∧ Acc H4.length (fun _ => False) H' z2 (nL (EK (C.take i))) ∧ (∀ b, z1.blk = some b → z2.blk ≠ some b) ∧ H4.length ≤ H'.length) ?_ ?_
    · rintro i a H5 hi ⟨z1, z2, a2, a3, a18, a19, a20, hb5, hz1, hz2, hne, hl5⟩ ih
      simp (disch := (first | assumption | omega | (simp only [List.length_append, List.length_cons, List.length_nil]; omega))) only [↓wD,wU,Nat.reduceBEq,zx150,zx151,zx159,zx160,zx161,zx162,Nat.reduceAdd,Nat.reduceSub,Nat.reduceMul,Nat.reduceLeDiff,Nat.reduceLT,Nat.reduceEqDiff,Int.reduceAdd,Int.reduceSub,Int.reduceMul,Int.reduceNeg,Int.reduceLT,Int.reduceLE,Int.reduceEq,Int.reduceToNat,Int.cast_ofNat_Int,↓reduceIte, a2, a3, a18, a19, a20]
      refine condP_split (fun hlt => ?_) (fun hlt => ?_)
      · have hi' : i < C.length := by omega
        have hT5 := hb5.k.T
        have t1 : iaddrV 2 v (.i (i : Int)) = some (.p kb (o + 2 * i)) := hT5.2.1 _ i hi'
        have t2 := hT5.2.2.2.2.2.2 i hi'
        obtain ⟨ef, ee⟩ := take_fK hi'
        have l1 : (nL (FK (C.take i))).length = i := by rw [nL_len, FK_len, List.length_take]; omega
        have l2 : (nL (EK (C.take i))).length = i := by rw [nL_len, EK_len, List.length_take]; omega
        have hb5l := hb5.lt
        generalize fK C i = Fi at *
        generalize eK C i = Ei at *
        obtain ⟨H6, eH6⟩ : ∃ H6, H5 ++ [Blk.cells [.i (Fi : Int), .i (Ei : Int)]] = H6 := ⟨_, rfl⟩
        have x56 : Kx (fun _ => True) H5 H6 := by rw [← eH6]; exact Kx.app _ _ _
        have n6 : H6.length = H5.length + 1 := by rw [← eH6]; simp
        have hst : st H.length (H5 ++ [Blk.cells [.i 0, .i 0]]) H5.length 0 [.i (Fi : Int), .i (Ei : Int)] = some H6 := by
          rw [st_of get_last (by omega) (by simp), ← eH6]
          congr 1
          simp [wr]
        have g6 : H6[H5.length]? = some (.cells [.i (Fi : Int), .i (Ei : Int)]) := by rw [← eH6]; exact get_last
        have hz16 := hz1.gr (x56.all _).kp
        have hz26 := hz2.gr (x56.all _).kp
        have hb6 := hb5.all x56
        simp (disch := (first | assumption | omega | (simp only [List.length_append, List.length_cons, List.length_nil]; omega))) only [↓wD,wU,Nat.reduceBEq,zx150,zx151,zx159,zx160,zx161,zx162,Nat.reduceAdd,Nat.reduceSub,Nat.reduceMul,Nat.reduceLeDiff,Nat.reduceLT,Nat.reduceEqDiff,Int.reduceAdd,Int.reduceSub,Int.reduceMul,Int.reduceNeg,Int.reduceLT,Int.reduceLE,Int.reduceEq,Int.reduceToNat,Int.cast_ofNat_Int,↓reduceIte, a2, a3, a18, a19, a20, t1, t2, hst]
        refine lpI (wpC ?_)
        simp (disch := (first | assumption | omega | (simp only [List.length_append, List.length_cons, List.length_nil]; omega))) only [↓wD,wU,Nat.reduceBEq,zx150,zx151,zx159,zx160,zx161,zx162,Nat.reduceAdd,Nat.reduceSub,Nat.reduceMul,Nat.reduceLeDiff,Nat.reduceLT,Nat.reduceEqDiff,Int.reduceAdd,Int.reduceSub,Int.reduceMul,Int.reduceNeg,Int.reduceLT,Int.reduceLE,Int.reduceEq,Int.reduceToNat,Int.cast_ofNat_Int,↓reduceIte, a2, a3, a18, a19, a20, ld_of g6]
        refine appX (hz16.pushI (by omega) (by omega) (by omega) fun z1' H7 hz1' hk7 hl7 hb7 hx7 => ?_)
        have x67 : Kx (fun b => z1.blk ≠ some b) H6 H7 := ((Kx.app (fun b => z1.blk ≠ some b) H6 [Blk.cells [.i (Fi : Int)]]).trans hx7 fun _ _ h => h)
        have n7 := x67.1
        have hz27 : Acc H4.length (fun _ => False) H7 z2 (nL (EK (C.take i))) := hz26.kp x67.kp (fun b e e2 => hne b e2 e) fun _ h => h.elim
        have g67 : z1.blk ≠ some H5.length := fun e => by have := (hz1.blk_lt e).2; omega
        have g7 := x67.get g67 g6
        simp (disch := (first | assumption | omega | (simp only [List.length_append, List.length_cons, List.length_nil]; omega))) only [↓wD,wU,Nat.reduceBEq,zx150,zx151,zx159,zx160,zx161,zx162,Nat.reduceAdd,Nat.reduceSub,Nat.reduceMul,Nat.reduceLeDiff,Nat.reduceLT,Nat.reduceEqDiff,Int.reduceAdd,Int.reduceSub,Int.reduceMul,Int.reduceNeg,Int.reduceLT,Int.reduceLE,Int.reduceEq,Int.reduceToNat,Int.cast_ofNat_Int,↓reduceIte, a2, a3, a18, a19, a20, ld_of g7]
        refine appX (hz27.pushI (by omega) (by omega) (by omega) fun z2' H8 hz2' hk8 hl8 hb8 hx8 => ?_)
        have x78 : Kx (fun b => z2.blk ≠ some b) H7 H8 := ((Kx.app (fun b => z2.blk ≠ some b) H7 [Blk.cells [.i (Ei : Int)]]).trans hx8 fun _ _ h => h)
        have n8 := x78.1
        have hz18 : Acc H4.length (fun _ => False) H8 z1' (nL (FK (C.take i)) ++ [(Fi : Int)]) := hz1'.kp x78.kp (fun b e e2 => by
          have h1 := (hz2.blk_lt e2).2
          rw [hb7] at e
          simp only [Option.some.injEq] at e
          omega) fun _ h => h.elim
        have hb8' := (hb6.kx (x67.weak fun b hb h e => by
          have h1 := (hz1.blk_lt e).1
          rcases h with h | h | h <;> omega)).kx (x78.weak fun b hb h e => by
          have h1 := (hz2.blk_lt e).1
          rcases h with h | h | h <;> omega)
        simp (disch := (first | assumption | omega | (simp only [List.length_append, List.length_cons, List.length_nil]; omega))) only [↓wD,wU,Nat.reduceBEq,zx150,zx151,zx159,zx160,zx161,zx162,Nat.reduceAdd,Nat.reduceSub,Nat.reduceMul,Nat.reduceLeDiff,Nat.reduceLT,Nat.reduceEqDiff,Int.reduceAdd,Int.reduceSub,Int.reduceMul,Int.reduceNeg,Int.reduceLT,Int.reduceLE,Int.reduceEq,Int.reduceToNat,Int.cast_ofNat_Int,↓reduceIte, a2, a3, a18, a19, a20]
        refine chkI ?_ ?_
        · have gA : (H6 ++ [Blk.cells [.i (Fi : Int)]])[H5.length]? = some (.cells [.i (Fi : Int), .i (Ei : Int)]) := (Kx.app (fun _ => True) _ _).get trivial g6
          simp [chk1, ev, Fr.upd, ld_of gA, ld_of g7, sameO, AV.same_refl]
        · simp (disch := (first | assumption | omega | (simp only [List.length_append, List.length_cons, List.length_nil]; omega))) only [↓wD,wU,Nat.reduceBEq,zx150,zx151,zx159,zx160,zx161,zx162,Nat.reduceAdd,Nat.reduceSub,Nat.reduceMul,Nat.reduceLeDiff,Nat.reduceLT,Nat.reduceEqDiff,Int.reduceAdd,Int.reduceSub,Int.reduceMul,Int.reduceNeg,Int.reduceLT,Int.reduceLE,Int.reduceEq,Int.reduceToNat,Int.cast_ofNat_Int,↓reduceIte, a2, a3, a18, a19, a20]
          refine (ih hi').go ⟨z1', z2', ?_⟩
          simp (disch := (first | assumption | omega | (simp only [List.length_append, List.length_cons, List.length_nil]; omega))) only [↓wD,wU,Nat.reduceBEq,zx150,zx151,zx159,zx160,zx161,zx162,Nat.reduceAdd,Nat.reduceSub,Nat.reduceMul,Nat.reduceLeDiff,Nat.reduceLT,Nat.reduceEqDiff,Int.reduceAdd,Int.reduceSub,Int.reduceMul,Int.reduceNeg,Int.reduceLT,Int.reduceLE,Int.reduceEq,Int.reduceToNat,Int.cast_ofNat_Int,↓reduceIte, a2, a3, a18, a19, a20]
          rw [ef, ee]
          exact ⟨hb8', hz18, hz2', fun b e e2 => by
            have h1 := (hz1'.blk_lt e).2
            rw [hb8] at e2
            simp only [Option.some.injEq] at e2
            omega, by omega⟩
      · obtain rfl : i = C.length := by omega
        rw [List.take_length] at hz1 hz2
        simp (disch := (first | assumption | omega | (simp only [List.length_append, List.length_cons, List.length_nil]; omega))) only [↓wD,wU,Nat.reduceBEq,zx150,zx151,zx159,zx160,zx161,zx162,Nat.reduceAdd,Nat.reduceSub,Nat.reduceMul,Nat.reduceLeDiff,Nat.reduceLT,Nat.reduceEqDiff,Int.reduceAdd,Int.reduceSub,Int.reduceMul,Int.reduceNeg,Int.reduceLT,Int.reduceLE,Int.reduceEq,Int.reduceToNat,Int.cast_ofNat_Int,↓reduceIte, a2, a3, a18, a19, a20]
        exact rv_3 (hz1.sl.weak fun b h => .inr (by rcases h with h | h; exact h.elim; omega)) (hz2.sl.weak fun b h => .inr (by rcases h with h | h; exact h.elim; omega)) rv_i
    · simp (disch := (first | assumption | omega | (simp only [List.length_append, List.length_cons, List.length_nil]; omega))) only [↓wD,wU,Nat.reduceBEq,zx150,zx151,zx159,zx160,zx161,zx162,Nat.reduceAdd,Nat.reduceSub,Nat.reduceMul,Nat.reduceLeDiff,Nat.reduceLT,Nat.reduceEqDiff,Int.reduceAdd,Int.reduceSub,Int.reduceMul,Int.reduceNeg,Int.reduceLT,Int.reduceLE,Int.reduceEq,Int.reduceToNat,Int.cast_ofNat_Int,↓reduceIte]
      exact ⟨.nils, .nils, rfl, rfl, hb4, Acc.nil, Acc.nil, fun b e => by cases e⟩
theorem deduce_err {p q : Nat → Prop} {H : Heap} {u w : AV} {x y : List (List Int)} (hx : Sl p H u x) (hy : Sl q H w y) (hP : ¬ PuzP x y) : RetP E 36 [.ag [u, w]] H (.tp [.nils, .nils, .i 2]) := by
  refine RetP.ro rfl fn36 rfl rfl ?_
  unfold f36A
  have g0 : (H ++ [Blk.cells [u, w]])[H.length]? = some (.cells [u, w]) := get_last
  have hv := pvalid_ret (hx.app [Blk.cells [u, w]]) (hy.app [Blk.cells [u, w]])
  rw [decide_eq_false hP] at hv
  simp (disch := (first | assumption | omega | (simp only [List.length_append, List.length_cons, List.length_nil]; omega))) only [↓wD,wU,Nat.reduceBEq,zx150,zx151,zx159,zx160,zx161,zx162,Nat.reduceAdd,Nat.reduceSub,Nat.reduceMul,Nat.reduceLeDiff,Nat.reduceLT,Nat.reduceEqDiff,Int.reduceAdd,Int.reduceSub,Int.reduceMul,Int.reduceNeg,Int.reduceLT,Int.reduceLE,Int.reduceEq,Int.reduceToNat,Int.cast_ofNat_Int,↓reduceIte, hx.cellsV, hy.cellsV, hv.call]
end Go.Proofs.YtjjndoigkhabdaaDoor
namespace Go.Proofs.YtjjndoigkhabdaaDoor
open Go Go.AM Go.Proofs
/-- a slice of sets, its block and its place -/
structure IB (v : AV) (b o : Nat) (H : Heap) (P : List Nat) : Prop where
  v : ∃ c, v = .s 1 b o P.length c
  k : ∃ k, H[b]? = some (.cells k) ∧ o + P.length ≤ k.length ∧ ∀ i, i < P.length → k[o + i]? = some (.i (gi P (i : Int) : Nat))
  b : P.length ≤ 1000
section
variable {v : AV} {b o lo : Nat} {H H' : Heap} {P : List Nat}
theorem IB.lt (h : IB v b o H P) : b < H.length := by
  obtain ⟨k, hk, _⟩ := h.k
  exact (List.getElem?_eq_some_iff.1 hk).1
theorem IB.kp {p : Nat → Prop} (h : IB v b o H P) (hx : Kp p H H') (hp : p b) : IB v b o H' P := by
  obtain ⟨k, hk, h2⟩ := h.k
  exact ⟨h.v, ⟨k, hx.2 _ _ hp hk, h2⟩, h.b⟩
theorem IB.T (h : IB v b o H P) : lenV v = some (.i P.length) ∧ (∀ (kk : IntKind) (i : Nat), i < P.length → iaddrV 1 v (.int kk (i : Int)) = some (.p b (o + i))) ∧ v.cells = [v] ∧ v.one = true ∧
    (∀ i, i < P.length → ld H b (o + i) = some (.i (gi P (i : Int) : Nat))) := by
  obtain ⟨⟨c, rfl⟩, ⟨k, hk, h1, h2⟩, hb⟩ := h
  refine ⟨rfl, fun kk i hi => ?_, rfl, rfl, fun i hi => ?_⟩
  · rw [zx178 (by omega) (by omega), Int.toNat_natCast, Nat.mul_one]
  · rw [ld_of hk]; exact h2 i hi
theorem IB.sl (h : IB v b o H P) : Sl (fun b' => b' = b) H v (nL P) := by
  obtain ⟨⟨c, rfl⟩, ⟨k, hk, h1, h2⟩, hb⟩ := h
  refine .inr ⟨b, o, c, k, by rw [nL_len]; rfl, rfl, hk, ?_, by rw [nL_len]; omega, fun i hi => ?_⟩
  · change o + (nL P).length * 1 ≤ _
    rw [nL_len]; omega
  · rw [nL_len] at hi
    have e : (nL P)[i]'(by rw [nL_len]; exact hi) = (gi P (i : Int) : Nat) := by rw [← nL_gi hi, gi_nat (by rw [nL_len]; exact hi)]
    rw [e]
    change (k.drop (o + i * 1)).take 1 = [.i (gi P (i : Int) : Nat)]
    rw [Nat.mul_one, List.take_one, List.head?_drop, h2 i hi]; rfl
theorem IB.of {p : Nat → Prop} (h : Sl p H v (nL P)) (hne : P ≠ []) (hb : P.length ≤ 1000) : ∃ b o, p b ∧ IB v b o H P := by
  rcases h with ⟨_, e⟩ | ⟨b, o, c, k, rfl, h1, hk, h3, h4, h5⟩
  · exact absurd (List.map_eq_nil_iff.1 e) hne
  · change o + (nL P).length * 1 ≤ _ at h3
    rw [nL_len] at h3
    refine ⟨b, o, h1, ⟨c, by rw [nL_len]; rfl⟩, ⟨k, hk, by omega, fun i hi => ?_⟩, hb⟩
    have := h5 i (by rw [nL_len]; exact hi)
    have e : (nL P)[i]'(by rw [nL_len]; exact hi) = (gi P (i : Int) : Nat) := by rw [← nL_gi hi, gi_nat (by rw [nL_len]; exact hi)]
    rw [e] at this
    change (k.drop (o + i * 1)).take 1 = [.i (gi P (i : Int) : Nat)] at this
    rw [Nat.mul_one] at this
    exact take1 this
theorem IB.st (h : IB v b o H P) (hlo : lo ≤ b) {i : Nat} (hi : i < P.length) (x : Nat) : ∃ H', st lo H b (o + i) [.i (x : Int)] = some H' ∧ H'.length = H.length ∧ Kx (fun b' => b' ≠ b) H H' ∧ IB v b o H' (P.set i x) := by
  obtain ⟨hv, ⟨k, hk, h1, h2⟩, hb⟩ := h
  refine ⟨_, st_of hk hlo (by simp; omega), by simp, Kx.set _ _ _, by rwa [List.length_set], ⟨_, get_set hk, ?_, fun j hj => ?_⟩, by rwa [List.length_set]⟩
  · simp [wr]; exact h1
  · rw [List.length_set] at hj
    rw [gi_set hi]
    simp only [wr]
    by_cases e : j = i
    · subst e
      rw [if_pos rfl, List.getElem?_set_self (by omega)]
    · rw [if_neg e, List.getElem?_set_ne (by omega)]
      exact h2 j hj
end
/-- what is known, as two slices apart -/
structure Rd (w1 w2 : AV) (b1 o1 b2 o2 : Nat) (H : Heap) (K : KS) : Prop where
  i1 : IB w1 b1 o1 H (FK K)
  i2 : IB w2 b2 o2 H (EK K)
  ne : b1 ≠ b2
theorem Rd.kp {w1 w2 : AV} {b1 o1 b2 o2 : Nat} {H H' : Heap} {K : KS} {p : Nat → Prop} (h : Rd w1 w2 b1 o1 b2 o2 H K) (hx : Kp p H H') (h1 : p b1) (h2 : p b2) : Rd w1 w2 b1 o1 b2 o2 H' K := ⟨h.i1.kp hx h1, h.i2.kp hx h2, h.ne⟩
theorem Rd.all {w1 w2 : AV} {b1 o1 b2 o2 : Nat} {H H' : Heap} {K : KS} (h : Rd w1 w2 b1 o1 b2 o2 H K) (hx : Kx (fun _ => True) H H') : Rd w1 w2 b1 o1 b2 o2 H' K := h.kp hx.kp trivial trivial
/-- a struct of two slices that holds K, laid behind L -/
def RdV (L : Nat) (r : AV) (H : Heap) (K : KS) : Prop := ∃ w1 w2 b1 o1 b2 o2, r = .ag [w1, w2] ∧ Rd w1 w2 b1 o1 b2 o2 H K ∧ L ≤ b1 ∧ L ≤ b2
theorem RdV.pure {L : Nat} {r : AV} {H : Heap} {K : KS} (h : RdV L r H K) : r.pure = false := by
  obtain ⟨w1, w2, b1, o1, b2, o2, rfl, hr, _⟩ := h
  obtain ⟨c, rfl⟩ := hr.i1.v
  rfl
theorem RdV.kp {L : Nat} {r : AV} {H H' : Heap} {K : KS} (h : RdV L r H K) (hk : Kp (fun _ => True) H H') : RdV L r H' K := by
  obtain ⟨w1, w2, b1, o1, b2, o2, e, hr, h1, h2⟩ := h
  exact ⟨w1, w2, b1, o1, b2, o2, e, hr.kp hk trivial trivial, h1, h2⟩
theorem IB.zero {H' : Heap} {n b : Nat} {P : List Nat} (hl : P.length = n) (hz : ∀ i : Nat, i < n → gi P (i : Int) = 0) (h2 : H'[b]? = some (.cells (reps n [.i 0]))) (h3 : n ≤ 1000) : IB (.s 1 b 0 n (some n)) b 0 H' P := by
  refine ⟨⟨some n, by rw [hl]⟩, ⟨_, h2, by rw [reps_z, hl]; simp, fun i hi => ?_⟩, by omega⟩
  rw [hl] at hi
  rw [reps_z, hz i hi, List.getElem?_replicate, Nat.zero_add, if_pos hi]
  rfl
end Go.Proofs.YtjjndoigkhabdaaDoor
namespace Go.AM
open Go
section
variable {E : Tab} {lo : Nat} {y : AV} {B : Nat} {X : Type} {A : (Nat → Prop) → Heap → List AV → X → Prop}
/-- the items are told one by one: K are the caller's blocks; what is older than B, and they, are kept between rounds; a round keeps what is not the caller's -/
def ItJ (E : Tab) (lo : Nat) (y : AV) (B : Nat) (A : (Nat → Prop) → Heap → List AV → X → Prop) (J : Heap → Prop) (Q : Bool → (Nat → Prop) → Heap → Prop) : List X → (Nat → Prop) → Heap → Prop
  | [], K, H => ∀ H1, Kx (fun b => b < B ∨ K b) H H1 → Q true K H1
  | x :: xs, K, H => ∀ H1 Ki args, Kx (fun b => b < B ∨ K b) H H1 → A Ki H1 args x → (∀ b, Ki b → B ≤ b ∧ b < H1.length ∧ ¬ K b) →
      WpV E lo y args H1 fun v H2 => Kx (fun b => ¬ (K b ∨ Ki b)) H1 H2 ∧
        ((v = .b true ∧ J H2 ∧ ItJ E lo y B A J Q xs (Kn K Ki H1 H2) H2) ∨ (v = .b false ∧ ∀ H3, Kx (fun b => b < B ∨ Kn K Ki H1 H2 b) H2 H3 → Q false (Kn K Ki H1 H2) H3))
theorem ItJ.keep {J : Heap → Prop} {Q : Bool → (Nat → Prop) → Heap → Prop} {xs : List X} {K : Nat → Prop} {H H1 : Heap} (h : ItJ E lo y B A J Q xs K H) (hk : Kx (fun b => b < B ∨ K b) H H1) : ItJ E lo y B A J Q xs K H1 := by
  cases xs with
  | nil => exact fun H2 h2 => h H2 (hk.trans h2 fun _ _ h => h)
  | cons x xs => exact fun H2 Ki args h2 => h H2 Ki args (hk.trans h2 fun _ _ h => h)
end
section
variable {E : Tab} {lo : Nat} {rd : Option Nat} {k : List AI} {a : Fr} {H : Heap} {Q : Out → Fr → Heap → Prop}
/-- **a range over a function, with what holds between rounds**: K0 the caller's blocks that its body may write (not the loop's record) -/
theorem Wp.rangeJ {X : Type} {A : (Nat → Prop) → Heap → List AV → X → Prop} {nt : Nat} {x : AX} {ps : List Nat} {asg body : ACode} {f : Nat} {us caps : List AV} (xs : List X) (J : Heap → Prop) (K0 : Nat → Prop)
    (I : Nat → (Nat → Prop) → Heap → Prop) (S : Jmp → (Nat → Prop) → Heap → Prop)
    (hx : ev a x = .fn f us caps) (hm : mayLoop lo rd H = true) (hlo : lo ≤ H.length) (hK0 : ∀ b, K0 b → b < H.length)
    (hA : ∀ Ki H1 args x, A Ki H1 args x → args.length = ps.length)
    (it : ∀ (K : Nat → Prop) (H1 : Heap) (Q : Bool → (Nat → Prop) → Heap → Prop), H1.length = H.length + 1 → Kx (fun _ => True) H H1 → (∀ b, K b ↔ K0 b ∨ b = H.length) → ItJ E lo (.yl H.length) (H.length + 1) A J Q xs K H1 →
      WpF E lo f (us ++ .yl H.length :: caps) H1 fun _ H' => ∃ ok K', Q ok K' H')
    (st : ∀ i K H1 H2, I i K H1 → Kx (fun b => b < H.length ∨ K b) H1 H2 → I i K H2)
    (sst : ∀ j K H1 H2, S j K H1 → Kx (fun b => b < H.length ∨ K b) H1 H2 → S j K H2)
    (hJ : ∀ i K H, I i K H → J H)
    (h0 : I 0 K0 H)
    (step : ∀ (i : Nat) (hi : i < xs.length) (K Ki : Nat → Prop) (args : List AV) (H1 : Heap), I i K H1 → A Ki H1 args xs[i] → (∀ b, Ki b → H.length < b ∧ b < H1.length ∧ ¬ K b) → (∀ b, K b → b < H1.length ∧ b ≠ H.length) →
      Kx (fun b => b < H.length ∧ ¬ K0 b) H H1 → H.length < H1.length → H1[H.length]? = some (.loop .ready none nt a ps asg body) → (∀ b, b < H.length → (K b ↔ K0 b)) →
      Wp E lo (some H.length) [.code asg, .begin, .code body] (setPs a ps args) H1 fun out _ H2 =>
        H2[H.length]? = some (.loop .busy none nt a ps asg body) ∧ Kx (fun b => ¬ (K b ∨ Ki b) ∧ b ≠ H.length) H1 H2 ∧
        (match out.jmp with | none => I (i + 1) (Kn K Ki H1 H2) H2 | some j => S j (Kn K Ki H1 H2) H2))
    (fin : ∀ K H', I xs.length K H' → Kx (fun b => b < H.length ∧ ¬ K0 b) H H' → H.length < H'.length → Wp E lo rd k a H' Q)
    (stop : ∀ j K H', S j K H' → Kx (fun b => b < H.length ∧ ¬ K0 b) H H' → H.length < H'.length → Wp E lo rd (.code j.code :: k) a H' Q) :
    Wp E lo rd (.code (.rangeF nt x ps asg body) :: k) a H Q := by
  have key : ∀ (n i : Nat), xs.length - i = n → i ≤ xs.length → ∀ (K K' : Nat → Prop) (H1 : Heap), (∀ b, K' b ↔ K b ∨ b = H.length) → I i K H1 → H1[H.length]? = some (.loop .ready none nt a ps asg body) → (∀ b, K b → b < H1.length ∧ b ≠ H.length) → H.length < H1.length → Kx (fun b => b < H.length ∧ ¬ K0 b) H H1 → (∀ b, b < H.length → (K b ↔ K0 b)) →
      ItJ E lo (.yl H.length) (H.length + 1) A J (fun ok _ H' => H.length < H'.length ∧ Kx (fun b => b < H.length ∧ ¬ K0 b) H H' ∧ (ok = true → ∃ K, (∀ b, K b → b ≠ H.length) ∧ I xs.length K H' ∧ H'[H.length]? = some (.loop .ready none nt a ps asg body)) ∧ (ok = false → ∃ K j, (∀ b, K b → b ≠ H.length) ∧ S j K H' ∧ H'[H.length]? = some (.loop .done (some j) nt a ps asg body))) (xs.drop i) K' H1 := by
    intro n
    induction n with
    | zero =>
      intro i e hi K K' H1 hK' hI hl hK hH hkk h00
      have : i = xs.length := by omega
      subst this
      rw [List.drop_length]
      intro H2 h2
      refine ⟨by have := h2.1; omega, hkk.trans h2 fun b _ h => .inl (by omega), fun _ => ⟨K, fun b hb => (hK b hb).2, st _ _ _ _ hI (h2.weak fun b _ h => h.elim (fun h => .inl (by omega)) fun h => .inr ((hK' b).2 (.inl h))), h2.get (.inl (by omega)) hl⟩, nofun⟩
    | succ n ih =>
      intro i e hi K K' H1 hK' hI hl hK hH hkk h00
      have hi' : i < xs.length := by omega
      rw [List.drop_eq_getElem_cons hi']
      intro H2 Ki args h2 ha hf
      have hH2 : H.length < H2.length := by have := h2.1; omega
      have hI2 : I i K H2 := st _ _ _ _ hI (h2.weak fun b _ h => h.elim (fun h => .inl (by omega)) fun h => .inr ((hK' b).2 (.inl h)))
      have hl2 := h2.get (Or.inl (Nat.lt_succ_self _)) hl
      have hKi : ∀ b, Ki b → H.length < b ∧ b < H2.length ∧ ¬ K b := fun b hb => ⟨(hf b hb).1, (hf b hb).2.1, fun h => (hf b hb).2.2 ((hK' b).2 (.inl h))⟩
      have hK2 : ∀ b, K b → b < H2.length ∧ b ≠ H.length := fun b hb => ⟨by have := (hK b hb).1; have := h2.1; omega, (hK b hb).2⟩
      have hkk2 : Kx (fun b => b < H.length ∧ ¬ K0 b) H H2 := hkk.trans h2 fun b _ h => .inl (by omega)
      refine WpV.yl hl2 hlo (hA _ _ _ _ ha) ((step i hi' K Ki args H2 hI2 ha hKi hK2 hkk2 hH2 hl2 h00).mono fun out a' H3 ⟨q1, q2, q3⟩ => ⟨none, nt, a, ps, asg, body, q1, ?_, ?_⟩)
      · refine Kx.set' (q2.weak fun b _ h => ⟨fun hh => h (hh.elim (fun hh => .inl ((hK' b).2 (.inl hh))) .inr), fun e => h (.inl ((hK' b).2 (.inr e)))⟩) (fun _ h => h (.inl ((hK' _).2 (.inr rfl)))) _
      · have hkn : ∀ b, Kn K' Ki H2 (H3.set H.length (.loop (if out.jmp.isNone then .ready else .done) out.jmp nt a ps asg body)) b ↔ Kn K Ki H2 H3 b ∨ b = H.length := by
          intro b
          simp only [Kn, List.length_set, hK']
          constructor
          · rintro ((h | h) | h | h)
            · exact .inl (.inl h)
            · exact .inr h
            · exact .inl (.inr (.inl h))
            · exact .inl (.inr (.inr h))
          · rintro ((h | h | h) | h)
            · exact .inl (.inl h)
            · exact .inr (.inl h)
            · exact .inr (.inr h)
            · exact .inl (.inr h)
        have hne : ∀ b, Kn K Ki H2 H3 b → b ≠ H.length := by
          rintro b (h | h | h)
          · exact (hK2 b h).2
          · have := (hKi b h).1; omega
          · omega
        have h23 := q2.1
        have hset : Kx (fun b => b < H.length ∨ Kn K Ki H2 H3 b) H3 (H3.set H.length (.loop (if out.jmp.isNone then .ready else .done) out.jmp nt a ps asg body)) :=
          (Kx.set _ _ _).weak fun b _ h => h.elim (fun h => by omega) (hne b)
        have hkk3 : Kx (fun b => b < H.length ∧ ¬ K0 b) H (H3.set H.length (.loop (if out.jmp.isNone then .ready else .done) out.jmp nt a ps asg body)) :=
          (hkk2.trans q2 fun b hb h => ⟨fun hh => hh.elim (fun hh => h.2 ((h00 b h.1).1 hh)) fun hh => by have := (hKi b hh).1; omega, by omega⟩).set' (fun _ h => by omega) _
        have hgl : (H3.set H.length (.loop (if out.jmp.isNone then .ready else .done) out.jmp nt a ps asg body))[H.length]? = some (.loop (if out.jmp.isNone then .ready else .done) out.jmp nt a ps asg body) := get_set q1
        cases hj : out.jmp with
        | none =>
          simp only [hj, Option.isNone_none, if_true] at q3 hkn hset hkk3 hgl ⊢
          refine .inl ⟨trivial, hJ _ _ _ (st _ _ _ _ q3 hset), ih (i + 1) (by omega) (by omega) (Kn K Ki H2 H3) _ _ hkn (st _ _ _ _ q3 hset) hgl ?_ (by simp; omega) hkk3 ?_⟩
          · intro b hb
            refine ⟨?_, hne b hb⟩
            rw [List.length_set]
            rcases hb with h | h | h
            · have := (hK2 b h).1; omega
            · have := (hKi b h).2.1; omega
            · omega
          · intro b hb
            refine ⟨?_, fun h => .inl ((h00 b hb).2 h)⟩
            rintro (h | h | h)
            · exact (h00 b hb).1 h
            · have := (hKi b h).1; omega
            · omega
        | some j =>
          simp only [hj, Option.isNone_some, Bool.false_eq_true, if_false] at q3 hkn hset hkk3 hgl ⊢
          refine .inr ⟨trivial, fun H4 h4 => ⟨by have := h4.1; rw [List.length_set] at this; omega, hkk3.trans h4 fun b _ h => .inl (by omega), nofun, fun _ => ⟨Kn K Ki H2 H3, j, hne, sst _ _ _ _ q3 (hset.trans h4 fun b _ h => h.elim (fun h => .inl (by omega)) fun h => .inr ((hkn b).2 (.inl h))), h4.get (.inl (Nat.lt_succ_self _)) hgl⟩⟩⟩
  refine Wp.rangeF hx hm ?_
  have hK0' : ∀ b, K0 b → b < (H ++ [Blk.loop .ready none nt a ps asg body]).length ∧ b ≠ H.length := fun b hb => by have := hK0 b hb; simp; omega
  have hh0 : Kx (fun _ => True) H (H ++ [.loop .ready none nt a ps asg body]) := Kx.app _ _ _
  refine (it (fun b => K0 b ∨ b = H.length) _ _ (by simp) hh0 (fun b => Iff.rfl) (key _ 0 rfl (Nat.zero_le _) K0 _ _ (fun b => Iff.rfl) (st _ _ _ _ h0 (hh0.weak fun _ _ _ => trivial)) get_last hK0' (by simp) (hh0.weak fun _ _ _ => trivial) fun b _ => Iff.rfl)).mono ?_
  rintro v H' ⟨ok, _, hl, hkk, ht, hf⟩
  have hd : ∀ (K : Nat → Prop), (∀ b, K b → b ≠ H.length) → Kx (fun b => b < H.length ∨ K b) H' (H'.set H.length .dead) := fun K hK => (Kx.set _ _ _).weak fun b _ h => h.elim (fun h => by omega) (hK b)
  have hkd : Kx (fun b => b < H.length ∧ ¬ K0 b) H (H'.set H.length .dead) := hkk.set' (fun h => by omega) _
  cases ok with
  | true =>
    obtain ⟨K, h1, h2, h3⟩ := ht rfl
    exact .inl ⟨_, _, _, _, _, h3, fin K _ (st _ _ _ _ h2 (hd K h1)) hkd (by simpa using hl)⟩
  | false =>
    obtain ⟨K, j, h1, h2, h3⟩ := hf rfl
    exact .inr ⟨j, _, _, _, _, _, h3, stop j K _ (sst _ _ _ _ h2 (hd K h1)) hkd (by simpa using hl)⟩
end
end Go.AM
namespace Go.Proofs.YtjjndoigkhabdaaDoor
open Go Go.AM Go.Proofs
instance (K : KS) (i c : Nat) : Decidable (openB K i c) := by unfold openB; infer_instance
/-- the open squares of a row from c on -/
def rowO (K : KS) (w i c : Nat) : List (Nat × Nat) := ((List.range w).drop c).filterMap fun k => if openB K i k then some (i, k) else none
def rowsO (K : KS) (h w i : Nat) : List (Nat × Nat) := ((List.range h).drop i).flatMap fun r => rowO K w r 0
theorem range_drop {n i : Nat} (h : i < n) : (List.range n).drop i = i :: (List.range n).drop (i + 1) := by
  rw [List.drop_eq_getElem_cons (by simpa using h)]; simp
theorem rowO_s {K : KS} {w i c : Nat} (h : c < w) : rowO K w i c = (if openB K i c then [(i, c)] else []) ++ rowO K w i (c + 1) := by
  unfold rowO
  rw [range_drop h, List.filterMap_cons]
  split <;> rename_i q <;> split at q <;> simp_all
theorem rowO_n {K : KS} {w i c : Nat} (h : w ≤ c) : rowO K w i c = [] := by
  unfold rowO
  rw [List.drop_of_length_le (by simpa using h)]; rfl
theorem rowsO_s {K : KS} {h w i : Nat} (hi : i < h) : rowsO K h w i = rowO K w i 0 ++ rowsO K h w (i + 1) := by
  unfold rowsO
  rw [range_drop hi, List.flatMap_cons]
theorem rowsO_n {K : KS} {h w i : Nat} (hi : h ≤ i) : rowsO K h w i = [] := by
  unfold rowsO
  rw [List.drop_of_length_le (by simpa using hi)]; rfl
theorem mem_rowsO {K : KS} {h w : Nat} {x : Nat × Nat} : x ∈ rowsO K h w 0 ↔ x.1 < h ∧ x.2 < w ∧ openB K x.1 x.2 := by
  unfold rowsO rowO
  simp only [List.drop_zero, List.mem_flatMap, List.mem_range, List.mem_filterMap, Option.ite_none_right_eq_some, Option.some.injEq]
  constructor
  · rintro ⟨r, hr, c, hc, ho, rfl⟩
    exact ⟨hr, hc, ho⟩
  · rintro ⟨h1, h2, h3⟩
    exact ⟨x.1, h1, x.2, h2, h3, rfl⟩
/-- an item that is a square -/
def ArgS (_ : Nat → Prop) (_ : Heap) (args : List AV) (x : Nat × Nat) : Prop := args = [.i (x.1 : Int), .i (x.2 : Int)]
theorem open_ops {K : KS} {i c : Nat} (hf : fK K i ≤ 9223372036854775807) (he : eK K i ≤ 9223372036854775807) (hc : c ≤ 31) : ∃ m n k : Nat, binA .or (.i (fK K i : Nat)) (.i (eK K i : Nat)) = some (.i (m : Int)) ∧ binA .shr (.i (m : Int)) (.i (c : Int)) = some (.i (n : Int)) ∧ binA .and (.i (n : Int)) (.i 1) = some (.i (k : Int)) ∧ decide ((k : Int) = 0) = decide (openB K i c) ∧ decide ((k : Int) = 1) = !decide (openB K i c) := by
  have hor := or_le hf he
  have hle : (fK K i ||| eK K i) >>> c ≤ 9223372036854775807 := by
    have : (fK K i ||| eK K i) >>> c ≤ fK K i ||| eK K i := by rw [Nat.shiftRight_eq_div_pow]; exact Nat.div_le_self _ _
    omega
  have e : (((fK K i ||| eK K i) >>> c) &&& 1) = ((fK K i ||| eK K i).testBit c).toNat := by
    rw [Nat.toNat_testBit, Nat.and_one_is_mod, Nat.shiftRight_eq_div_pow]
  refine ⟨fK K i ||| eK K i, (fK K i ||| eK K i) >>> c, ((fK K i ||| eK K i) >>> c) &&& 1, b_or hf he, b_shr (by omega), b_and (b := 1) hle (by omega), ?_, ?_⟩
  · rw [e, Nat.testBit_or]
    have : ∀ p q : Bool, (((p || q).toNat : Nat) : Int) = 0 ↔ p = false ∧ q = false := by decide
    exact decide_eq_decide.2 (this _ _)
  · rw [e, Nat.testBit_or]
    have : ∀ p q : Bool, (((p || q).toNat : Nat) : Int) = 1 ↔ ¬ (p = false ∧ q = false) := by decide
    exact (decide_eq_decide.2 (this _ _)).trans decide_not
theorem open_ok {L bp pp kb o lo : Nat} {u w v y : AV} {xs ys : List (List Int)} {H : Heap} {C : KS} {K : Nat → Prop} {Q : Bool → (Nat → Prop) → Heap → Prop} (h : Bd L bp pp u w xs ys v kb o H C) (hP : PuzP xs ys) (hw : WfK xs.length ys.length C) (hlo : lo ≤ H.length)
    (hK : ∀ b, K b → b < H.length ∧ L ≤ b ∧ b ≠ kb) (hI : ItJ E lo y H.length ArgS (fun H' => H'[bp]? = some (.cells [.p pp 0, v])) Q (rowsO C xs.length ys.length 0) K H) :
    WpF E lo 105 [.p bp 0, y] H fun _ H' => ∃ ok K', Q ok K' H' := by
  refine WpF.wrt rfl fn105 rfl ?_
  unfold f105A
  have x5 : xs.length ≤ 5 := by have := hP.1.2; omega
  have y5 : ys.length ≤ 5 := by have := hP.2.1.2; omega
  have py := pow32 y5
  have hl := hw.len
  have hT := h.k.T
  have hlt := h.lt
  simp (disch := (first | assumption | omega | (simp only [List.length_append, List.length_cons, List.length_nil]; omega))) only [↓wD,wU,Nat.reduceBEq,zx150,zx151,zx159,zx160,zx161,zx162,Nat.reduceAdd,Nat.reduceSub,Nat.reduceMul,Nat.reduceLeDiff,Nat.reduceLT,Nat.reduceEqDiff,Int.reduceAdd,Int.reduceSub,Int.reduceMul,Int.reduceNeg,Int.reduceLT,Int.reduceLE,Int.reduceEq,Int.reduceToNat,Int.cast_ofNat_Int,↓reduceIte, nc_p, ld_of h.b, hT, hl]
  refine Wp.for xs.length (fun i a H1 => a 0 = .p bp 0 ∧ a 1 = y ∧ a 10 = .i xs.length ∧ a 11 = .i i ∧ ∃ K1, ItJ E lo y H.length ArgS (fun H' => H'[bp]? = some (.cells [.p pp 0, v])) Q (rowsO C xs.length ys.length i) K1 H1 ∧ Bd L bp pp u w xs ys v kb o H1 C ∧ H.length ≤ H1.length ∧ ∀ b, K1 b → b < H1.length ∧ (b < H.length → K b)) ?_ ?_
  · rintro i a H1 hi ⟨a0, a1, a10, a11, K1, hI1, hb1, hl1, hK1⟩ ih
    simp (disch := (first | assumption | omega | (simp only [List.length_append, List.length_cons, List.length_nil]; omega))) only [↓wD,wU,Nat.reduceBEq,zx150,zx151,zx159,zx160,zx161,zx162,Nat.reduceAdd,Nat.reduceSub,Nat.reduceMul,Nat.reduceLeDiff,Nat.reduceLT,Nat.reduceEqDiff,Int.reduceAdd,Int.reduceSub,Int.reduceMul,Int.reduceNeg,Int.reduceLT,Int.reduceLE,Int.reduceEq,Int.reduceToNat,Int.cast_ofNat_Int,↓reduceIte, a0, a1, a10, a11]
    refine condP_split (fun hlt => ?_) (fun hlt => ?_)
    · have hi' : i < xs.length := by omega
      rw [rowsO_s hi'] at hI1
      have hyL := hb1.y.L
      simp (disch := (first | assumption | omega | (simp only [List.length_append, List.length_cons, List.length_nil]; omega))) only [↓wD,wU,Nat.reduceBEq,zx150,zx151,zx159,zx160,zx161,zx162,Nat.reduceAdd,Nat.reduceSub,Nat.reduceMul,Nat.reduceLeDiff,Nat.reduceLT,Nat.reduceEqDiff,Int.reduceAdd,Int.reduceSub,Int.reduceMul,Int.reduceNeg,Int.reduceLT,Int.reduceLE,Int.reduceEq,Int.reduceToNat,Int.cast_ofNat_Int,↓reduceIte, a0, a1, a10, a11, nc_p, ld_of hb1.b, ld_of hb1.p, hyL]
      refine Wp.for ys.length (fun c a H1 => a 0 = .p bp 0 ∧ a 1 = y ∧ a 4 = .i i ∧ a 10 = .i xs.length ∧ a 11 = .i i ∧ a 21 = .i ys.length ∧ a 22 = .i c ∧ ∃ K1, ItJ E lo y H.length ArgS (fun H' => H'[bp]? = some (.cells [.p pp 0, v])) Q (rowO C ys.length i c ++ rowsO C xs.length ys.length (i + 1)) K1 H1 ∧ Bd L bp pp u w xs ys v kb o H1 C ∧ H.length ≤ H1.length ∧ ∀ b, K1 b → b < H1.length ∧ (b < H.length → K b)) ?_ ?_
      · clear hyL hK1 hl1 hb1 hI1 K1 hlt a0 a1 a10 a11 hi a H1
        rintro c a H1 hc ⟨a0, a1, a4, a10, a11, a21, a22, K1, hI1, hb1, hl1, hK1⟩ ih2
        simp (disch := (first | assumption | omega | (simp only [List.length_append, List.length_cons, List.length_nil]; omega))) only [↓wD,wU,Nat.reduceBEq,zx150,zx151,zx159,zx160,zx161,zx162,Nat.reduceAdd,Nat.reduceSub,Nat.reduceMul,Nat.reduceLeDiff,Nat.reduceLT,Nat.reduceEqDiff,Int.reduceAdd,Int.reduceSub,Int.reduceMul,Int.reduceNeg,Int.reduceLT,Int.reduceLE,Int.reduceEq,Int.reduceToNat,Int.cast_ofNat_Int,↓reduceIte, a0, a1, a4, a10, a11, a21, a22]
        refine condP_split (fun hlt => ?_) (fun hlt => ?_)
        · have hc' : c < ys.length := by omega
          rw [rowO_s hc'] at hI1
          have hT1 := hb1.k.T
          have t1 : iaddrV 2 v (.i (i : Int)) = some (.p kb (o + 2 * i)) := hT1.2.1 _ i (by omega)
          have t2 := hT1.2.2.2.2.1 i (by omega)
          have t3 := hT1.2.2.2.2.2.1 i (by omega)
          have hwi := hw.lt i hi'
          obtain ⟨m, n, k, o1, o2, o3, o4, _⟩ := open_ops (K := C) (i := i) (c := c) (by omega) (by omega) (by omega)
          by_cases ho : openB C i c
          · rw [decide_eq_true ho] at o4
            rw [if_pos ho] at hI1
            generalize fK C i = Fi at *
            generalize eK C i = Ei at *
            simp (disch := (first | assumption | omega | (simp only [List.length_append, List.length_cons, List.length_nil]; omega))) only [↓wD,wU,Nat.reduceBEq,zx150,zx151,zx159,zx160,zx161,zx162,Nat.reduceAdd,Nat.reduceSub,Nat.reduceMul,Nat.reduceLeDiff,Nat.reduceLT,Nat.reduceEqDiff,Int.reduceAdd,Int.reduceSub,Int.reduceMul,Int.reduceNeg,Int.reduceLT,Int.reduceLE,Int.reduceEq,Int.reduceToNat,Int.cast_ofNat_Int,↓reduceIte, a0, a1, a4, a10, a11, a21, a22, nc_p, ld_of hb1.b, t1, t2, t3, o1, o2, o3, o4]
            refine callvI ((hI1 H1 (fun _ => False) [.i (i : Int), .i (c : Int)] (Kx.refl _ _) rfl fun _ h => h.elim).mono ?_)
            rintro r H2 ⟨hx, hc2⟩
            have h12 := hx.1
            have hKn : ∀ b, Kn K1 (fun _ => False) H1 H2 b → b < H2.length ∧ (b < H.length → K b) := by
              rintro b (q | q | q)
              · exact ⟨by have := (hK1 b q).1; omega, (hK1 b q).2⟩
              · exact q.elim
              · exact ⟨q.2, fun q' => by omega⟩
            rcases hc2 with ⟨rfl, hj, hc2⟩ | ⟨rfl, hc2⟩
            · have hb2 : Bd L bp pp u w xs ys v kb o H2 C := by
                have hne : ∀ b, b < L → ¬ (K1 b ∨ False) := fun b hb q => by
                  rcases q with q | q
                  · by_cases e : b < H.length
                    · have := hK b ((hK1 b q).2 e); omega
                    · have := hlt; have := h.hb; omega
                  · exact q
                exact ⟨hj, hx.get (hne pp hb1.hp) hb1.p, hb1.x.kp (hx.weak fun b _ h => hne b h).kp, hb1.y.kp (hx.weak fun b _ h => hne b h).kp, hb1.k.kx hx (fun q => by
                  rcases q with q | q
                  · have := hK kb ((hK1 kb q).2 (by omega)); omega
                  · exact q), hb1.hp, hb1.hb, hb1.hk, hb1.ne⟩
              simp (disch := (first | assumption | omega | (simp only [List.length_append, List.length_cons, List.length_nil]; omega))) only [↓wD,wU,Nat.reduceBEq,zx150,zx151,zx159,zx160,zx161,zx162,Nat.reduceAdd,Nat.reduceSub,Nat.reduceMul,Nat.reduceLeDiff,Nat.reduceLT,Nat.reduceEqDiff,Int.reduceAdd,Int.reduceSub,Int.reduceMul,Int.reduceNeg,Int.reduceLT,Int.reduceLE,Int.reduceEq,Int.reduceToNat,Int.cast_ofNat_Int,↓reduceIte, a0, a1, a4, a10, a11, a21, a22]
              refine (ih2 hc').go ?_
              simp (disch := (first | assumption | omega | (simp only [List.length_append, List.length_cons, List.length_nil]; omega))) only [↓wD,wU,Nat.reduceBEq,zx150,zx151,zx159,zx160,zx161,zx162,Nat.reduceAdd,Nat.reduceSub,Nat.reduceMul,Nat.reduceLeDiff,Nat.reduceLT,Nat.reduceEqDiff,Int.reduceAdd,Int.reduceSub,Int.reduceMul,Int.reduceNeg,Int.reduceLT,Int.reduceLE,Int.reduceEq,Int.reduceToNat,Int.cast_ofNat_Int,↓reduceIte, a0, a1, a4, a10, a11, a21, a22]
              exact ⟨_, hc2, hb2, by omega, hKn⟩
            · simp (disch := (first | assumption | omega | (simp only [List.length_append, List.length_cons, List.length_nil]; omega))) only [↓wD,wU,Nat.reduceBEq,zx150,zx151,zx159,zx160,zx161,zx162,Nat.reduceAdd,Nat.reduceSub,Nat.reduceMul,Nat.reduceLeDiff,Nat.reduceLT,Nat.reduceEqDiff,Int.reduceAdd,Int.reduceSub,Int.reduceMul,Int.reduceNeg,Int.reduceLT,Int.reduceLE,Int.reduceEq,Int.reduceToNat,Int.cast_ofNat_Int,↓reduceIte, a0, a1, a4, a10, a11, a21, a22]
              exact ⟨false, _, hc2 _ (Kx.refl _ _)⟩
          · rw [decide_eq_false ho] at o4
            rw [if_neg ho, List.nil_append] at hI1
            generalize fK C i = Fi at *
            generalize eK C i = Ei at *
            simp (disch := (first | assumption | omega | (simp only [List.length_append, List.length_cons, List.length_nil]; omega))) only [↓wD,wU,Nat.reduceBEq,zx150,zx151,zx159,zx160,zx161,zx162,Nat.reduceAdd,Nat.reduceSub,Nat.reduceMul,Nat.reduceLeDiff,Nat.reduceLT,Nat.reduceEqDiff,Int.reduceAdd,Int.reduceSub,Int.reduceMul,Int.reduceNeg,Int.reduceLT,Int.reduceLE,Int.reduceEq,Int.reduceToNat,Int.cast_ofNat_Int,↓reduceIte, a0, a1, a4, a10, a11, a21, a22, nc_p, ld_of hb1.b, t1, t2, t3, o1, o2, o3, o4]
            refine (ih2 hc').go ?_
            simp (disch := (first | assumption | omega | (simp only [List.length_append, List.length_cons, List.length_nil]; omega))) only [↓wD,wU,Nat.reduceBEq,zx150,zx151,zx159,zx160,zx161,zx162,Nat.reduceAdd,Nat.reduceSub,Nat.reduceMul,Nat.reduceLeDiff,Nat.reduceLT,Nat.reduceEqDiff,Int.reduceAdd,Int.reduceSub,Int.reduceMul,Int.reduceNeg,Int.reduceLT,Int.reduceLE,Int.reduceEq,Int.reduceToNat,Int.cast_ofNat_Int,↓reduceIte, a0, a1, a4, a10, a11, a21, a22]
            exact ⟨K1, hI1, hb1, hl1, hK1⟩
        · rw [rowO_n (by omega), List.nil_append] at hI1
          simp (disch := (first | assumption | omega | (simp only [List.length_append, List.length_cons, List.length_nil]; omega))) only [↓wD,wU,Nat.reduceBEq,zx150,zx151,zx159,zx160,zx161,zx162,Nat.reduceAdd,Nat.reduceSub,Nat.reduceMul,Nat.reduceLeDiff,Nat.reduceLT,Nat.reduceEqDiff,Int.reduceAdd,Int.reduceSub,Int.reduceMul,Int.reduceNeg,Int.reduceLT,Int.reduceLE,Int.reduceEq,Int.reduceToNat,Int.cast_ofNat_Int,↓reduceIte, a0, a1, a4, a10, a11, a21, a22]
          refine (ih hi').go ?_
          simp (disch := (first | assumption | omega | (simp only [List.length_append, List.length_cons, List.length_nil]; omega))) only [↓wD,wU,Nat.reduceBEq,zx150,zx151,zx159,zx160,zx161,zx162,Nat.reduceAdd,Nat.reduceSub,Nat.reduceMul,Nat.reduceLeDiff,Nat.reduceLT,Nat.reduceEqDiff,Int.reduceAdd,Int.reduceSub,Int.reduceMul,Int.reduceNeg,Int.reduceLT,Int.reduceLE,Int.reduceEq,Int.reduceToNat,Int.cast_ofNat_Int,↓reduceIte, a0, a1, a10, a11]
          exact ⟨K1, hI1, hb1, hl1, hK1⟩
      · simp (disch := (first | assumption | omega | (simp only [List.length_append, List.length_cons, List.length_nil]; omega))) only [↓wD,wU,Nat.reduceBEq,zx150,zx151,zx159,zx160,zx161,zx162,Nat.reduceAdd,Nat.reduceSub,Nat.reduceMul,Nat.reduceLeDiff,Nat.reduceLT,Nat.reduceEqDiff,Int.reduceAdd,Int.reduceSub,Int.reduceMul,Int.reduceNeg,Int.reduceLT,Int.reduceLE,Int.reduceEq,Int.reduceToNat,Int.cast_ofNat_Int,↓reduceIte, a0, a1, a10, a11]
        exact ⟨K1, hI1, hb1, hl1, hK1⟩
    · rw [rowsO_n (by omega)] at hI1
      simp (disch := (first | assumption | omega | (simp only [List.length_append, List.length_cons, List.length_nil]; omega))) only [↓wD,wU,Nat.reduceBEq,zx150,zx151,zx159,zx160,zx161,zx162,Nat.reduceAdd,Nat.reduceSub,Nat.reduceMul,Nat.reduceLeDiff,Nat.reduceLT,Nat.reduceEqDiff,Int.reduceAdd,Int.reduceSub,Int.reduceMul,Int.reduceNeg,Int.reduceLT,Int.reduceLE,Int.reduceEq,Int.reduceToNat,Int.cast_ofNat_Int,↓reduceIte, a0, a1, a10, a11]
      exact ⟨true, K1, hI1 _ (Kx.refl _ _)⟩
  · simp (disch := (first | assumption | omega | (simp only [List.length_append, List.length_cons, List.length_nil]; omega))) only [↓wD,wU,Nat.reduceBEq,zx150,zx151,zx159,zx160,zx161,zx162,Nat.reduceAdd,Nat.reduceSub,Nat.reduceMul,Nat.reduceLeDiff,Nat.reduceLT,Nat.reduceEqDiff,Int.reduceAdd,Int.reduceSub,Int.reduceMul,Int.reduceNeg,Int.reduceLT,Int.reduceLE,Int.reduceEq,Int.reduceToNat,Int.cast_ofNat_Int,↓reduceIte]
    exact ⟨K, hI, h, fun b q => ⟨(hK b q).1, fun _ => q⟩⟩
theorem done_ret {L bp pp kb o : Nat} {u w v : AV} {xs ys : List (List Int)} {H : Heap} {C : KS} (h : Bd L bp pp u w xs ys v kb o H C) (hP : PuzP xs ys) (hw : WfK xs.length ys.length C) : RetP E 84 [.p bp 0] H (.b (decide (rowsO C xs.length ys.length 0 = []))) := by
  refine RetP.ro rfl fn84 rfl rfl ?_
  unfold f84A
  obtain ⟨Hr, eHr⟩ : ∃ Hr, H ++ [Blk.cells [.b false]] = Hr := ⟨_, rfl⟩
  have x0 : Kx (fun _ => True) H Hr := by rw [← eHr]; exact Kx.app _ _ _
  have nr : Hr.length = H.length + 1 := by rw [← eHr]; simp
  have c0 : Hr[H.length]? = some (.cells [.b false]) := by rw [← eHr]; exact get_last
  have hr := h.all x0
  have hlt := h.lt
  have hbb := h.hb
  have hkk := h.hk
  obtain ⟨ts, ets⟩ : ∃ ts, rowsO C xs.length ys.length 0 = ts := ⟨_, rfl⟩
  rw [ets]
  simp (disch := (first | assumption | omega | (simp only [List.length_append, List.length_cons, List.length_nil]; omega))) only [↓wD,wU,Nat.reduceBEq,zx150,zx151,zx159,zx160,zx161,zx162,Nat.reduceAdd,Nat.reduceSub,Nat.reduceMul,Nat.reduceLeDiff,Nat.reduceLT,Nat.reduceEqDiff,Int.reduceAdd,Int.reduceSub,Int.reduceMul,Int.reduceNeg,Int.reduceLT,Int.reduceLE,Int.reduceEq,Int.reduceToNat,Int.cast_ofNat_Int,↓reduceIte]
  rw [eHr]
  refine Wp.rangeJ (A := ArgS) ts (fun H' => H'[bp]? = some (.cells [.p pp 0, v])) (fun b => b = H.length) (fun i K H1 => i = 0 ∧ H1[H.length]? = some (.cells [.b false]) ∧ K H.length ∧ H1[bp]? = some (.cells [.p pp 0, v]))
    (fun j K H1 => j = .ret ∧ ts ≠ [] ∧ H1[H.length]? = some (.cells [.b false]) ∧ K H.length) (by (simp (disch := (first | assumption | omega | (simp only [List.length_append, List.length_cons, List.length_nil]; omega))) only [↓wD,wU,Nat.reduceBEq,zx150,zx151,zx159,zx160,zx161,zx162,Nat.reduceAdd,Nat.reduceSub,Nat.reduceMul,Nat.reduceLeDiff,Nat.reduceLT,Nat.reduceEqDiff,Int.reduceAdd,Int.reduceSub,Int.reduceMul,Int.reduceNeg,Int.reduceLT,Int.reduceLE,Int.reduceEq,Int.reduceToNat,Int.cast_ofNat_Int,↓reduceIte]) <;> rfl) rfl (by omega) (fun b h => by omega) (by rintro _ _ _ _ rfl; rfl) ?_ ?_ ?_ ?_ ?_ ?_ ?_ ?_
  · intro K' H1 Q' e hx' hK' hI
    rw [← ets, ← e] at hI
    refine open_ok (hr.all hx') hP hw (by omega) (fun b q => ?_) hI
    rcases (hK' b).1 q with q | q <;> omega
  · exact fun i K H1 H2 h hx => ⟨h.1, hx.get (.inr h.2.2.1) h.2.1, h.2.2.1, hx.get (.inl (by omega)) h.2.2.2⟩
  · exact fun j K H1 H2 h hx => ⟨h.1, h.2.1, hx.get (.inr h.2.2.2) h.2.2.1, h.2.2.2⟩
  · exact fun i K H h => h.2.2.2
  · exact ⟨rfl, c0, rfl, hr.b⟩
  · rintro i hi K Ki args H1 ⟨rfl, q2, k2, q3⟩ rfl hKi hK hx hl1 hlr hKK
    simp (disch := (first | assumption | omega | (simp only [List.length_append, List.length_cons, List.length_nil]; omega))) only [↓wD,wU,Nat.reduceBEq,zx150,zx151,zx159,zx160,zx161,zx162,Nat.reduceAdd,Nat.reduceSub,Nat.reduceMul,Nat.reduceLeDiff,Nat.reduceLT,Nat.reduceEqDiff,Int.reduceAdd,Int.reduceSub,Int.reduceMul,Int.reduceNeg,Int.reduceLT,Int.reduceLE,Int.reduceEq,Int.reduceToNat,Int.cast_ofNat_Int,↓reduceIte, zx188 (lo := H.length) hlr (by omega), zx189, zx190]
    generalize e2 : H1.set Hr.length _ = H2
    have x12 : Kx (fun b => b ≠ Hr.length) H1 H2 := by rw [← e2]; exact Kx.set _ _ _
    have gl := gset e2 hlr
    have r2 := x12.get (b := H.length) (by omega) q2
    clear e2
    have st1 : st H.length H2 H.length 0 [.b false] = some (H2.set H.length (.cells [.b false])) := by rw [st_of r2 (by omega) (by simp)]; simp [wr]
    simp (disch := (first | assumption | omega | (simp only [List.length_append, List.length_cons, List.length_nil]; omega))) only [↓wD,wU,Nat.reduceBEq,zx150,zx151,zx159,zx160,zx161,zx162,Nat.reduceAdd,Nat.reduceSub,Nat.reduceMul,Nat.reduceLeDiff,Nat.reduceLT,Nat.reduceEqDiff,Int.reduceAdd,Int.reduceSub,Int.reduceMul,Int.reduceNeg,Int.reduceLT,Int.reduceLE,Int.reduceEq,Int.reduceToNat,Int.cast_ofNat_Int,↓reduceIte, st1]
    refine ⟨?_, ?_, rfl, ?_, get_set r2, .inl k2⟩
    · rw [List.getElem?_set_ne (by omega)]; exact gl
    · exact (x12.weak fun b _ h => h.2).set' (fun _ h => h.1 (.inl k2)) _
    · intro e; rw [e] at hi; simp at hi
  · rintro K H1 ⟨e0, q2, k2, q3⟩ hx hl1
    have e1 : ts = [] := List.length_eq_zero_iff.1 e0
    have st1 : st H.length H1 H.length 0 [.b true] = some (H1.set H.length (.cells [.b true])) := by rw [st_of q2 (by omega) (by simp)]; simp [wr]
    rw [decide_eq_true e1]
    simp (disch := (first | assumption | omega | (simp only [List.length_append, List.length_cons, List.length_nil]; omega))) only [↓wD,wU,Nat.reduceBEq,zx150,zx151,zx159,zx160,zx161,zx162,Nat.reduceAdd,Nat.reduceSub,Nat.reduceMul,Nat.reduceLeDiff,Nat.reduceLT,Nat.reduceEqDiff,Int.reduceAdd,Int.reduceSub,Int.reduceMul,Int.reduceNeg,Int.reduceLT,Int.reduceLE,Int.reduceEq,Int.reduceToNat,Int.cast_ofNat_Int,↓reduceIte, st1, ld_of (get_set q2)]
  · rintro j K H1 ⟨rfl, hne, q2, k2⟩ hx hl1
    change Wp E H.length none (.code .ret :: _) _ _ _
    rw [decide_eq_false hne]
    simp (disch := (first | assumption | omega | (simp only [List.length_append, List.length_cons, List.length_nil]; omega))) only [↓wD,wU,Nat.reduceBEq,zx150,zx151,zx159,zx160,zx161,zx162,Nat.reduceAdd,Nat.reduceSub,Nat.reduceMul,Nat.reduceLeDiff,Nat.reduceLT,Nat.reduceEqDiff,Int.reduceAdd,Int.reduceSub,Int.reduceMul,Int.reduceNeg,Int.reduceLT,Int.reduceLE,Int.reduceEq,Int.reduceToNat,Int.cast_ofNat_Int,↓reduceIte, ld_of q2]
end Go.Proofs.YtjjndoigkhabdaaDoor
namespace Go.Proofs.YtjjndoigkhabdaaDoor
open Go Go.AM Go.Proofs
/-- a new board, behind n -/
def NewB (L pp : Nat) (u w : AV) (xs ys : List (List Int)) (C : KS) (n : Nat) (r : AV) (H' : Heap) : Prop := ∃ bp v kb o, r = .p bp 0 ∧ Bd L bp pp u w xs ys v kb o H' C ∧ n ≤ bp ∧ n ≤ kb
theorem bclone_ok {L bp pp kb o lo : Nat} {u w v : AV} {xs ys : List (List Int)} {H : Heap} {C : KS} (h : Bd L bp pp u w xs ys v kb o H C) (hc : 1 ≤ C.length) :
    WpF E lo 113 [.p bp 0] H fun r H' => NewB L pp u w xs ys C H.length r H' ∧ Kx (fun _ => True) H H' := by
  refine WpF.roX rfl fn113 rfl (by rintro v H' ⟨bp, v', kb, o, rfl, _⟩; rfl) (by rintro v H' H'' ⟨bp, v', kb, o, e, h, h1, h2⟩ hk; exact ⟨bp, v', kb, o, e, h.kp hk, h1, h2⟩) ?_
  unfold f113A
  have hlt := h.lt
  have hbb := h.hb
  have hne : C ≠ [] := fun e => by rw [e] at hc; simp at hc
  have h1000 := h.k.b
  simp (disch := (first | assumption | omega | (simp only [List.length_append, List.length_cons, List.length_nil]; omega))) only [↓wD,wU,Nat.reduceBEq,zx150,zx151,zx159,zx160,zx161,zx162,Nat.reduceAdd,Nat.reduceSub,Nat.reduceMul,Nat.reduceLeDiff,Nat.reduceLT,Nat.reduceEqDiff,Int.reduceAdd,Int.reduceSub,Int.reduceMul,Int.reduceNeg,Int.reduceLT,Int.reduceLE,Int.reduceEq,Int.reduceToNat,Int.cast_ofNat_Int,↓reduceIte, nc_p, ld_of h.b]
  refine (kclone_ret h.k.sl (by rw [pK_len]; omega)).toFX fun v2 H2 x2 hv2 => ?_
  have n2 := x2.1
  obtain ⟨kb2, o2, q, k2⟩ := KB.of hv2 hne h1000
  have h2 := h.all x2
  have x3 : Kx (fun _ => True) H2 (H2 ++ [Blk.cells [.p pp 0, v2]]) := Kx.app _ _ _
  have k2l := k2.lt
  simp (disch := (first | assumption | omega | (simp only [List.length_append, List.length_cons, List.length_nil]; omega))) only [↓wD,wU,Nat.reduceBEq,zx150,zx151,zx159,zx160,zx161,zx162,Nat.reduceAdd,Nat.reduceSub,Nat.reduceMul,Nat.reduceLeDiff,Nat.reduceLT,Nat.reduceEqDiff,Int.reduceAdd,Int.reduceSub,Int.reduceMul,Int.reduceNeg,Int.reduceLT,Int.reduceLE,Int.reduceEq,Int.reduceToNat,Int.cast_ofNat_Int,↓reduceIte, hv2.cellsV]
  exact ⟨H2.length, v2, kb2, o2, rfl, ⟨get_last, x3.get trivial h2.p, h2.x.kp (x3.all _).kp, h2.y.kp (x3.all _).kp, k2.kx x3 trivial, h.hp, by omega, by omega, by omega⟩, by omega, q⟩
theorem bitOr_ops {a c : Nat} (ha : a ≤ 9223372036854775807) (hc : c ≤ 31) : ∃ m : Nat, binA .shl (.i 1) (.i (c : Int)) = some (.i (m : Int)) ∧ binA .or (.i (a : Int)) (.i (m : Int)) = some (.i (bitOr a c : Nat)) := by
  have h4 : 2 ^ c ≤ 2 ^ 31 := Nat.pow_le_pow_right (by omega) hc
  have e : 1 <<< c = 2 ^ c := Nat.one_shiftLeft c
  exact ⟨1 <<< c, b_shl (a := 1) (by omega) (by omega), b_or ha (by omega)⟩
theorem suppose_ok {L bp pp kb o lo : Nat} {u w v : AV} {xs ys : List (List Int)} {H : Heap} {C : KS} {i c : Nat} {b : Bool} (h : Bd L bp pp u w xs ys v kb o H C) (hP : PuzP xs ys) (hw : WfK xs.length ys.length C) (hi : i < xs.length) (hc : c < ys.length) :
    WpF E lo 112 [.p bp 0, .i i, .i c, .b b] H fun r H' => NewB L pp u w xs ys (withK C i c b) H.length r H' ∧ Kx (fun _ => True) H H' := by
  refine WpF.roX rfl fn112 rfl (by rintro v H' ⟨bp, v', kb, o, rfl, _⟩; rfl) (by rintro v H' H'' ⟨bp, v', kb, o, e, h, h1, h2⟩ hk; exact ⟨bp, v', kb, o, e, h.kp hk, h1, h2⟩) ?_
  unfold f112A
  have hl := hw.len
  have y5 : ys.length ≤ 5 := by have := hP.2.1.2; omega
  have py := pow32 y5
  have hwi := hw.lt i hi
  simp (disch := (first | assumption | omega | (simp only [List.length_append, List.length_cons, List.length_nil]; omega))) only [↓wD,wU,Nat.reduceBEq,zx150,zx151,zx159,zx160,zx161,zx162,Nat.reduceAdd,Nat.reduceSub,Nat.reduceMul,Nat.reduceLeDiff,Nat.reduceLT,Nat.reduceEqDiff,Int.reduceAdd,Int.reduceSub,Int.reduceMul,Int.reduceNeg,Int.reduceLT,Int.reduceLE,Int.reduceEq,Int.reduceToNat,Int.cast_ofNat_Int,↓reduceIte]
  refine callI ((bclone_ok h (by omega)).mono ?_)
  rintro r H2 ⟨⟨bp2, v2, kb2, o2, rfl, h2, q1, q2⟩, x2⟩
  have hT := h2.k.T
  have t1 : iaddrV 2 v2 (.i (i : Int)) = some (.p kb2 (o2 + 2 * i)) := hT.2.1 _ i (by omega)
  have t2 := hT.2.2.2.2.1 i (by omega)
  have t3 := hT.2.2.2.2.2.1 i (by omega)
  have hic : i < C.length := by omega
  cases b with
  | true =>
    obtain ⟨m, o1, o2'⟩ := bitOr_ops (a := fK C i) (c := c) (by omega) (by omega)
    obtain ⟨H3, st3, n3, x3, k3⟩ := h2.k.st1 (lo := H.length) (by omega) hic (bitOr (fK C i) c)
    have h3 := h2.upd x3 k3
    have e : C.set i (bitOr (fK C i) c, eK C i) = withK C i c true := rfl
    rw [e] at h3
    clear e k3
    generalize bitOr (fK C i) c = B at *
    generalize fK C i = Fi at *
    simp (disch := (first | assumption | omega | (simp only [List.length_append, List.length_cons, List.length_nil]; omega))) only [↓wD,wU,Nat.reduceBEq,zx150,zx151,zx159,zx160,zx161,zx162,Nat.reduceAdd,Nat.reduceSub,Nat.reduceMul,Nat.reduceLeDiff,Nat.reduceLT,Nat.reduceEqDiff,Int.reduceAdd,Int.reduceSub,Int.reduceMul,Int.reduceNeg,Int.reduceLT,Int.reduceLE,Int.reduceEq,Int.reduceToNat,Int.cast_ofNat_Int,↓reduceIte, nc_p, ld_of h2.b, t1, t2, o1, o2', st3]
    exact ⟨bp2, v2, kb2, o2, rfl, h3, q1, q2⟩
  | false =>
    obtain ⟨m, o1, o2'⟩ := bitOr_ops (a := eK C i) (c := c) (by omega) (by omega)
    obtain ⟨H3, st3, n3, x3, k3⟩ := h2.k.st2 (lo := H.length) (by omega) hic (bitOr (eK C i) c)
    have h3 := h2.upd x3 k3
    have e : C.set i (fK C i, bitOr (eK C i) c) = withK C i c false := rfl
    rw [e] at h3
    clear e k3
    generalize bitOr (eK C i) c = B at *
    generalize eK C i = Ei at *
    simp (disch := (first | assumption | omega | (simp only [List.length_append, List.length_cons, List.length_nil]; omega))) only [↓wD,wU,Nat.reduceBEq,zx150,zx151,zx159,zx160,zx161,zx162,Nat.reduceAdd,Nat.reduceSub,Nat.reduceMul,Nat.reduceLeDiff,Nat.reduceLT,Nat.reduceEqDiff,Int.reduceAdd,Int.reduceSub,Int.reduceMul,Int.reduceNeg,Int.reduceLT,Int.reduceLE,Int.reduceEq,Int.reduceToNat,Int.cast_ofNat_Int,↓reduceIte, nc_p, ld_of h2.b, t1, t3, o1, o2', st3]
    exact ⟨bp2, v2, kb2, o2, rfl, h3, q1, q2⟩
/-- what settle does at a depth -/
def SetS (lo L pp : Nat) (u w : AV) (xs ys : List (List Int)) (d : Nat) : Prop := ∀ {bp : Nat} {v : AV} {kb o : Nat} {H : Heap} {C : KS}, Bd L bp pp u w xs ys v kb o H C → WfK xs.length ys.length C →
  WpF E lo 83 [.p bp 0, .i d] H fun r H' => ∃ D b v' kb' o', r = .b b ∧ Bd L bp pp u w xs ys v' kb' o' H' D ∧ WfK xs.length ys.length D ∧ (kb' = kb ∨ H.length ≤ kb') ∧ Kx (fun b => b ≠ bp ∧ b ≠ kb) H H' ∧ (b = true → Res xs ys d C D) ∧ (b = false → Fail xs ys d C)
theorem try_ok {lo L pp : Nat} {u w : AV} {xs ys : List (List Int)} {d : Nat} (hs : SetS lo L pp u w xs ys d) (hP : PuzP xs ys) (hlo : lo ≤ L) (hd : d ≤ 1000) {bp : Nat} {v : AV} {kb o : Nat} {H : Heap} {D : KS} (h : Bd L bp pp u w xs ys v kb o H D) (hw : WfK xs.length ys.length D) :
    WpF E lo 104 [.p bp 0, .i ((d + 1 : Nat) : Int)] H fun r H' => Kx (fun b => b ≠ bp) H H' ∧
      ((r = .b true ∧ ∃ i c b v' kb' o', i < xs.length ∧ c < ys.length ∧ openB D i c ∧ Fail xs ys d (withK D i c b) ∧ Bd L bp pp u w xs ys v' kb' o' H' (withK D i c (!b)) ∧ H.length ≤ kb') ∨
       (r = .b false ∧ Bd L bp pp u w xs ys v kb o H' D ∧ ∀ i c b, i < xs.length → c < ys.length → openB D i c → ∃ M, Res xs ys d (withK D i c b) M)) := by
  refine WpF.wrt rfl fn104 rfl ?_
  unfold f104A
  obtain ⟨Hr, eHr⟩ : ∃ Hr, H ++ [Blk.cells [.p bp 0]] ++ [Blk.cells [.i ((d : Int) + 1)]] ++ [Blk.cells [.b false]] = Hr := ⟨_, rfl⟩
  have x0 : Kx (fun _ => True) H Hr := by rw [← eHr]; exact ((Kx.app _ _ _).app' _).app' _
  have nr : Hr.length = H.length + 3 := by rw [← eHr]; simp
  have c0 : Hr[H.length]? = some (.cells [.p bp 0]) := by rw [← eHr]; simp [List.getElem?_append]
  have c1 : Hr[H.length + 1]? = some (.cells [.i ((d : Int) + 1)]) := by rw [← eHr]; simp [List.getElem?_append]
  have c2 : Hr[H.length + 2]? = some (.cells [.b false]) := by rw [← eHr]; simp [List.getElem?_append]
  have hr := h.all x0
  have hlt := h.lt
  have hbb := h.hb
  have hkk := h.hk
  have hnn := h.ne
  have hpp := h.hp
  obtain ⟨ts, ets⟩ : ∃ ts, rowsO D xs.length ys.length 0 = ts := ⟨_, rfl⟩
  have hmem : ∀ x, x ∈ ts ↔ x.1 < xs.length ∧ x.2 < ys.length ∧ openB D x.1 x.2 := fun x => by rw [← ets]; exact mem_rowsO
  simp (disch := (first | assumption | omega | (simp only [List.length_append, List.length_cons, List.length_nil]; omega))) only [↓wD,wU,Nat.reduceBEq,zx150,zx151,zx159,zx160,zx161,zx162,Nat.reduceAdd,Nat.reduceSub,Nat.reduceMul,Nat.reduceLeDiff,Nat.reduceLT,Nat.reduceEqDiff,Int.reduceAdd,Int.reduceSub,Int.reduceMul,Int.reduceNeg,Int.reduceLT,Int.reduceLE,Int.reduceEq,Int.reduceToNat,Int.cast_ofNat_Int,↓reduceIte]
  rw [eHr]
  refine Wp.rangeJ (A := ArgS) ts (fun H' => H'[bp]? = some (.cells [.p pp 0, v])) (fun b => b = bp ∨ b = H.length + 2)
    (fun i K H1 => H1[H.length + 2]? = some (.cells [.b false]) ∧ K (H.length + 2) ∧ H1[bp]? = some (.cells [.p pp 0, v]) ∧ K bp ∧ ∀ (j : Nat) (hj : j < ts.length), j < i → ∀ b, ∃ M, Res xs ys d (withK D ts[j].1 ts[j].2 b) M)
    (fun j K H1 => j = .ret ∧ H1[H.length + 2]? = some (.cells [.b true]) ∧ K (H.length + 2) ∧ K bp ∧ ∃ i c b v' kb' o', i < xs.length ∧ c < ys.length ∧ openB D i c ∧ Fail xs ys d (withK D i c b) ∧ H1[bp]? = some (.cells [.p pp 0, v']) ∧ KB v' kb' o' H1 (withK D i c (!b)) ∧ Hr.length ≤ kb' ∧ K kb')
    (by (simp (disch := (first | assumption | omega | (simp only [List.length_append, List.length_cons, List.length_nil]; omega))) only [↓wD,wU,Nat.reduceBEq,zx150,zx151,zx159,zx160,zx161,zx162,Nat.reduceAdd,Nat.reduceSub,Nat.reduceMul,Nat.reduceLeDiff,Nat.reduceLT,Nat.reduceEqDiff,Int.reduceAdd,Int.reduceSub,Int.reduceMul,Int.reduceNeg,Int.reduceLT,Int.reduceLE,Int.reduceEq,Int.reduceToNat,Int.cast_ofNat_Int,↓reduceIte]) <;> rfl) rfl (by omega) (fun b h => by omega) (by rintro _ _ _ _ rfl; rfl) ?_ ?_ ?_ ?_ ?_ ?_ ?_ ?_
  · intro K' H1 Q' e hx' hK' hI
    rw [← ets, ← e] at hI
    refine open_ok (hr.all hx') hP hw (by omega) (fun b q => ?_) hI
    rcases (hK' b).1 q with (q | q) | q <;> omega
  · exact fun i K H1 H2 h hx => ⟨hx.get (.inr h.2.1) h.1, h.2.1, hx.get (.inr h.2.2.2.1) h.2.2.1, h.2.2.2⟩
  · rintro j K H1 H2 ⟨rfl, h1, k1, k2, i, c, b, v', kb', o', q1, q2, q3, q4, q5, q6, q7, q8⟩ hx
    exact ⟨rfl, hx.get (.inr k1) h1, k1, k2, i, c, b, v', kb', o', q1, q2, q3, q4, hx.get (.inr k2) q5, q6.kx hx (.inr q8), q7, q8⟩
  · exact fun i K H h => h.2.2.1
  · exact ⟨c2, .inr rfl, hr.b, .inl rfl, fun j _ hj => by omega⟩
  · rintro i hi K Ki args H1 ⟨q2, k2, q3, kb3', hres⟩ rfl hKi hK hx hl1 hlr hKK
    obtain ⟨m1, m2, m3⟩ := (hmem _).1 (List.getElem_mem hi)
    obtain ⟨X, hX⟩ : ∃ X, ts[i] = X := ⟨_, rfl⟩
    rw [hX] at m1 m2 m3 ⊢
    obtain ⟨I1, I2⟩ := X
    simp only at m1 m2 m3
    simp (disch := (first | assumption | omega | (simp only [List.length_append, List.length_cons, List.length_nil]; omega))) only [↓wD,wU,Nat.reduceBEq,zx150,zx151,zx159,zx160,zx161,zx162,Nat.reduceAdd,Nat.reduceSub,Nat.reduceMul,Nat.reduceLeDiff,Nat.reduceLT,Nat.reduceEqDiff,Int.reduceAdd,Int.reduceSub,Int.reduceMul,Int.reduceNeg,Int.reduceLT,Int.reduceLE,Int.reduceEq,Int.reduceToNat,Int.cast_ofNat_Int,↓reduceIte, zx188 (lo := lo) hlr (by omega), zx189, zx190]
    generalize e2 : H1.set Hr.length _ = H2
    have x12 : Kx (fun b => b ≠ Hr.length) H1 H2 := by rw [← e2]; exact Kx.set _ _ _
    have gl := gset e2 hlr
    have n12 := x12.1
    have h1b : Bd L bp pp u w xs ys v kb o H1 D := ⟨q3, hx.get (by omega) hr.p, hr.x.kp (hx.weak fun b _ h => by omega).kp, hr.y.kp (hx.weak fun b _ h => by omega).kp, hr.k.kx hx (by omega), h.hp, h.hb, h.hk, h.ne⟩
    have h2b : Bd L bp pp u w xs ys v kb o H2 D := h1b.kx (x12.weak fun b _ h => by omega)
    have d0 := x12.get (b := H.length) (by omega) (hx.get (by omega) c0)
    have d1 := x12.get (b := H.length + 1) (by omega) (hx.get (by omega) c1)
    have d2 := x12.get (b := H.length + 2) (by omega) q2
    clear e2 hx
    obtain ⟨H3, eH3⟩ : ∃ H3, H2 ++ [Blk.cells [.b true, .b false]] = H3 := ⟨_, rfl⟩
    have x23 : Kx (fun _ => True) H2 H3 := by rw [← eH3]; exact Kx.app _ _ _
    have n3 : H3.length = H2.length + 1 := by rw [← eH3]; simp
    have g3 : H3[H2.length]? = some (.cells [.b true, .b false]) := by rw [← eH3]; exact get_last
    obtain ⟨V, eV⟩ : ∃ V, AV.s 1 H2.length 0 2 (some 2) = V := ⟨_, rfl⟩
    have lV : lenV V = some (.i 2) := by rw [← eV]; rfl
    have iV : ∀ t : Nat, t < 2 → iaddrV 1 V (.i (t : Int)) = some (.p H2.length t) := fun t ht => by
      rw [← eV, zx178 (by omega) (by omega), Int.toNat_natCast, Nat.mul_one, Nat.zero_add]
    have hld : ∀ t : Nat, t < 2 → ([AV.b true, .b false] : List AV)[t]? = some (.b (decide (t = 0))) := by
      intro t ht
      obtain rfl | rfl : t = 0 ∨ t = 1 := by omega
      · rfl
      · rfl
    have h3b := h2b.all x23
    rw [eH3]
    refine Wp.for 2 (fun t a H4 => a 2 = .p H.length 0 ∧ a 3 = .p (H.length + 1) 0 ∧ a 4 = .p (H.length + 2) 0 ∧ a 5 = .i I1 ∧ a 6 = .i I2 ∧ a 13 = V ∧ a 14 = .i 2 ∧ a 15 = .i t ∧ Kx (fun _ => True) H3 H4 ∧ ∀ j : Nat, j < t → ∃ M, Res xs ys d (withK D I1 I2 (decide (j = 0))) M) ?_ ?_
    · rintro t a H4 ht ⟨a2, a3, a4, a5, a6, a13, a14, a15, x34, hres2⟩ ih
      have n4 := x34.1
      have hb4 := h3b.all x34
      simp (disch := (first | assumption | omega | (simp only [List.length_append, List.length_cons, List.length_nil]; omega))) only [↓wD,wU,Nat.reduceBEq,zx150,zx151,zx159,zx160,zx161,zx162,Nat.reduceAdd,Nat.reduceSub,Nat.reduceMul,Nat.reduceLeDiff,Nat.reduceLT,Nat.reduceEqDiff,Int.reduceAdd,Int.reduceSub,Int.reduceMul,Int.reduceNeg,Int.reduceLT,Int.reduceLE,Int.reduceEq,Int.reduceToNat,Int.cast_ofNat_Int,↓reduceIte, a2, a3, a4, a5, a6, a13, a14, a15]
      refine condP_split (fun hlt => ?_) (fun hlt => ?_)
      · have ht' : t < 2 := by omega
        have iVt := iV t ht'
        have g4 := x34.get trivial g3
        have e0 := x34.get trivial (x23.get trivial d0)
        have e1 := x34.get trivial (x23.get trivial d1)
        have lt4 : ld H4 H2.length t = some (.b (decide (t = 0))) := by rw [ld_of g4]; exact hld t ht'
        obtain ⟨val, eval⟩ : ∃ val, decide (t = 0) = val := ⟨_, rfl⟩
        rw [eval] at lt4
        simp (disch := (first | assumption | omega | (simp only [List.length_append, List.length_cons, List.length_nil]; omega))) only [↓wD,wU,Nat.reduceBEq,zx150,zx151,zx159,zx160,zx161,zx162,Nat.reduceAdd,Nat.reduceSub,Nat.reduceMul,Nat.reduceLeDiff,Nat.reduceLT,Nat.reduceEqDiff,Int.reduceAdd,Int.reduceSub,Int.reduceMul,Int.reduceNeg,Int.reduceLT,Int.reduceLE,Int.reduceEq,Int.reduceToNat,Int.cast_ofNat_Int,↓reduceIte, a2, a3, a4, a5, a6, a13, a14, a15, iVt, lt4, ld_of e0]
        refine callI ((suppose_ok (i := I1) (c := I2) (b := val) hb4 hP hw m1 m2).mono ?_)
        rintro r H5 ⟨⟨bp2, v2, kb2, o2, rfl, hb5, p1, p2⟩, x45⟩
        have n5 := x45.1
        have f0 := x45.get trivial e0
        have f1 := x45.get trivial e1
        have hdd : ((d : Int) + 1 - 1) = (d : Int) := by omega
        simp (disch := (first | assumption | omega | (simp only [List.length_append, List.length_cons, List.length_nil]; omega))) only [↓wD,wU,Nat.reduceBEq,zx150,zx151,zx159,zx160,zx161,zx162,Nat.reduceAdd,Nat.reduceSub,Nat.reduceMul,Nat.reduceLeDiff,Nat.reduceLT,Nat.reduceEqDiff,Int.reduceAdd,Int.reduceSub,Int.reduceMul,Int.reduceNeg,Int.reduceLT,Int.reduceLE,Int.reduceEq,Int.reduceToNat,Int.cast_ofNat_Int,↓reduceIte, a2, a3, a4, a5, a6, a13, a14, a15, ld_of f1, hdd]
        refine callI ((hs hb5 (with_wf hw m1 m2 val)).mono ?_)
        rintro r H6 ⟨E', b, v3, kb3, o3, rfl, hb6, hwE, hk6, x56, hT, hF⟩
        have n6 := x56.1
        have x46 : Kx (fun _ => True) H4 H6 := x45.trans x56 fun b hb _ => ⟨by omega, by omega⟩
        have x36 := x34.trans x46 fun _ _ _ => trivial
        cases b with
        | true =>
          simp (disch := (first | assumption | omega | (simp only [List.length_append, List.length_cons, List.length_nil]; omega))) only [↓wD,wU,Nat.reduceBEq,zx150,zx151,zx159,zx160,zx161,zx162,Nat.reduceAdd,Nat.reduceSub,Nat.reduceMul,Nat.reduceLeDiff,Nat.reduceLT,Nat.reduceEqDiff,Int.reduceAdd,Int.reduceSub,Int.reduceMul,Int.reduceNeg,Int.reduceLT,Int.reduceLE,Int.reduceEq,Int.reduceToNat,Int.cast_ofNat_Int,↓reduceIte, a2, a3, a4, a5, a6, a13, a14, a15]
          refine (ih ht').go ?_
          simp (disch := (first | assumption | omega | (simp only [List.length_append, List.length_cons, List.length_nil]; omega))) only [↓wD,wU,Nat.reduceBEq,zx150,zx151,zx159,zx160,zx161,zx162,Nat.reduceAdd,Nat.reduceSub,Nat.reduceMul,Nat.reduceLeDiff,Nat.reduceLT,Nat.reduceEqDiff,Int.reduceAdd,Int.reduceSub,Int.reduceMul,Int.reduceNeg,Int.reduceLT,Int.reduceLE,Int.reduceEq,Int.reduceToNat,Int.cast_ofNat_Int,↓reduceIte, a2, a3, a4, a5, a6, a13, a14, a15]
          refine ⟨x36, fun j hj => ?_⟩
          by_cases ej : j = t
          · subst ej; rw [eval]; exact ⟨E', hT rfl⟩
          · exact hres2 j (by omega)
        | false =>
          have h0 := x46.get trivial e0
          simp (disch := (first | assumption | omega | (simp only [List.length_append, List.length_cons, List.length_nil]; omega))) only [↓wD,wU,Nat.reduceBEq,zx150,zx151,zx159,zx160,zx161,zx162,Nat.reduceAdd,Nat.reduceSub,Nat.reduceMul,Nat.reduceLeDiff,Nat.reduceLT,Nat.reduceEqDiff,Int.reduceAdd,Int.reduceSub,Int.reduceMul,Int.reduceNeg,Int.reduceLT,Int.reduceLE,Int.reduceEq,Int.reduceToNat,Int.cast_ofNat_Int,↓reduceIte, a2, a3, a4, a5, a6, a13, a14, a15, ld_of h0]
          refine callI ((suppose_ok (i := I1) (c := I2) (b := !val) (hb4.all x46) hP hw m1 m2).mono ?_)
          rintro r H7 ⟨⟨bp4, v4, kb4, o4, rfl, hb7, p3, p4⟩, x67⟩
          have n7 := x67.1
          have x37 := x36.trans x67 fun _ _ _ => trivial
          have x27 := x23.trans x37 fun _ _ _ => trivial
          have hb47 := (h2b.all x27)
          have k27 := x27.get trivial d2
          have dd4 : v4.cells = [v4] ∧ v4.one = true := ⟨hb7.k.T.2.2.1, hb7.k.T.2.2.2.1⟩
          have s1 : st lo H7 bp 1 [v4] = some (H7.set bp (.cells [.p pp 0, v4])) := by rw [st_of hb47.b (by omega) (by simp)]; simp [wr]
          have k28 : (H7.set bp (.cells [.p pp 0, v4]))[H.length + 2]? = some (.cells [.b false]) := by rw [List.getElem?_set_ne (by omega)]; exact k27
          have s2 : st lo (H7.set bp (.cells [.p pp 0, v4])) (H.length + 2) 0 [.b true] = some ((H7.set bp (.cells [.p pp 0, v4])).set (H.length + 2) (.cells [.b true])) := by rw [st_of k28 (by omega) (by simp)]; simp [wr]
          have b47 := hb47.b
          have gl7 := x27.get trivial gl
          have hb7b := hb7.b
          have k7l := hb7.k.lt
          simp (disch := (first | assumption | omega | (simp only [List.length_append, List.length_cons, List.length_nil]; omega))) only [↓wD,wU,Nat.reduceBEq,zx150,zx151,zx159,zx160,zx161,zx162,Nat.reduceAdd,Nat.reduceSub,Nat.reduceMul,Nat.reduceLeDiff,Nat.reduceLT,Nat.reduceEqDiff,Int.reduceAdd,Int.reduceSub,Int.reduceMul,Int.reduceNeg,Int.reduceLT,Int.reduceLE,Int.reduceEq,Int.reduceToNat,Int.cast_ofNat_Int,↓reduceIte, a2, a3, a4, a5, a6, a13, a14, a15, nc_p, ld_of hb7b, dd4.1, dd4.2, s1, s2]
          refine ⟨?_, ?_, rfl, get_set k28, .inl k2, .inl kb3', I1, I2, val, v4, kb4, o4, m1, m2, m3, hF rfl, ?_, ?_, by omega, .inr (.inr ⟨by omega, by simp; omega⟩)⟩
          · rw [List.getElem?_set_ne (by omega), List.getElem?_set_ne (by omega)]; exact gl7
          · exact (((x12.weak (q := fun b => ¬ (K b ∨ Ki b) ∧ b ≠ Hr.length) fun b _ h => h.2).trans x27 fun _ _ _ => trivial).set' (fun _ h => h.1 (.inl kb3')) _).set' (fun _ h => h.1 (.inl k2)) _
          · rw [List.getElem?_set_ne (by omega)]; exact get_set b47
          · exact (hb7.k.kx (Kx.set bp H7 _) (by omega)).kx (Kx.set _ _ _) (by omega)
      · obtain rfl : t = 2 := by omega
        simp (disch := (first | assumption | omega | (simp only [List.length_append, List.length_cons, List.length_nil]; omega))) only [↓wD,wU,Nat.reduceBEq,zx150,zx151,zx159,zx160,zx161,zx162,Nat.reduceAdd,Nat.reduceSub,Nat.reduceMul,Nat.reduceLeDiff,Nat.reduceLT,Nat.reduceEqDiff,Int.reduceAdd,Int.reduceSub,Int.reduceMul,Int.reduceNeg,Int.reduceLT,Int.reduceLE,Int.reduceEq,Int.reduceToNat,Int.cast_ofNat_Int,↓reduceIte, a2, a3, a4, a5, a6, a13, a14, a15]
        have x24 := x23.trans x34 fun _ _ _ => trivial
        refine ⟨x24.get trivial gl, (x12.weak (q := fun b => ¬ (K b ∨ Ki b) ∧ b ≠ Hr.length) fun b _ h => h.2).trans x24 fun _ _ _ => trivial, x24.get trivial d2, .inl k2, x24.get trivial h2b.b, .inl kb3', fun j hj hji b => ?_⟩
        by_cases ej : j = i
        · subst ej
          rw [hX]
          cases b with
          | true => exact hres2 0 (by omega)
          | false => exact hres2 1 (by omega)
        · exact hres j hj (by omega) b
    · simp (disch := (first | assumption | omega | (simp only [List.length_append, List.length_cons, List.length_nil]; omega))) only [↓wD,wU,Nat.reduceBEq,zx150,zx151,zx159,zx160,zx161,zx162,Nat.reduceAdd,Nat.reduceSub,Nat.reduceMul,Nat.reduceLeDiff,Nat.reduceLT,Nat.reduceEqDiff,Int.reduceAdd,Int.reduceSub,Int.reduceMul,Int.reduceNeg,Int.reduceLT,Int.reduceLE,Int.reduceEq,Int.reduceToNat,Int.cast_ofNat_Int,↓reduceIte]
      exact ⟨eV, Kx.refl _ _, fun j hj => by omega⟩
  · rintro K H1 ⟨q2, k2, q3, k3, hres⟩ hx hl1
    have st1 : st lo H1 (H.length + 2) 0 [.b false] = some (H1.set (H.length + 2) (.cells [.b false])) := by rw [st_of q2 (by omega) (by simp)]; simp [wr]
    have hx2 : Kx (fun b => b ≠ bp) H (H1.set (H.length + 2) (.cells [.b false])) := ((x0.all (fun b => b ≠ bp)).trans (hx.weak (q := fun b => b < Hr.length ∧ ¬ (b = bp ∨ b = H.length + 2)) fun b _ h => h) fun b hb h => ⟨by omega, by omega⟩).set' (fun hb => by omega) _
    simp (disch := (first | assumption | omega | (simp only [List.length_append, List.length_cons, List.length_nil]; omega))) only [↓wD,wU,Nat.reduceBEq,zx150,zx151,zx159,zx160,zx161,zx162,Nat.reduceAdd,Nat.reduceSub,Nat.reduceMul,Nat.reduceLeDiff,Nat.reduceLT,Nat.reduceEqDiff,Int.reduceAdd,Int.reduceSub,Int.reduceMul,Int.reduceNeg,Int.reduceLT,Int.reduceLE,Int.reduceEq,Int.reduceToNat,Int.cast_ofNat_Int,↓reduceIte, st1, ld_of (get_set q2)]
    refine ⟨hx2, .inr ⟨?_, ?_⟩⟩
    · have h1b : Bd L bp pp u w xs ys v kb o H1 D := ⟨q3, hx.get (by omega) hr.p, hr.x.kp (hx.weak fun b _ h => by omega).kp, hr.y.kp (hx.weak fun b _ h => by omega).kp, hr.k.kx hx (by omega), h.hp, h.hb, h.hk, h.ne⟩
      exact h1b.kx ((Kx.set _ _ _).weak fun b _ h => by omega)
    · intro i c b hi hc ho
      obtain ⟨j, hj, e⟩ := List.mem_iff_getElem.1 ((hmem (i, c)).2 ⟨hi, hc, ho⟩)
      have := hres j hj hj b
      rw [e] at this
      exact this
  · rintro j K H1 ⟨rfl, h1, k1, k2, i, c, b, v', kb', o', q1, q2, q3, q4, q5, q6, q7, q8⟩ hx hl1
    change Wp E lo none (.code .ret :: _) _ _ _
    simp (disch := (first | assumption | omega | (simp only [List.length_append, List.length_cons, List.length_nil]; omega))) only [↓wD,wU,Nat.reduceBEq,zx150,zx151,zx159,zx160,zx161,zx162,Nat.reduceAdd,Nat.reduceSub,Nat.reduceMul,Nat.reduceLeDiff,Nat.reduceLT,Nat.reduceEqDiff,Int.reduceAdd,Int.reduceSub,Int.reduceMul,Int.reduceNeg,Int.reduceLT,Int.reduceLE,Int.reduceEq,Int.reduceToNat,Int.cast_ofNat_Int,↓reduceIte, ld_of h1]
    refine ⟨(x0.all (fun b => b ≠ bp)).trans (hx.weak (q := fun b => b < Hr.length ∧ ¬ (b = bp ∨ b = H.length + 2)) fun b _ h => h) fun b hb h => ⟨by omega, by omega⟩, .inl ⟨i, c, b, v', kb', o', q1, q2, q3, q4, ⟨q5, hx.get (by omega) hr.p, hr.x.kp (hx.weak fun b _ h => by omega).kp, hr.y.kp (hx.weak fun b _ h => by omega).kp, q6, h.hp, h.hb, by omega, by omega⟩, by omega⟩⟩
theorem bsettle_ok {lo L pp : Nat} {u w : AV} {xs ys : List (List Int)} (hP : PuzP xs ys) (hlo : lo ≤ L) : ∀ d : Nat, d ≤ 1000 → SetS lo L pp u w xs ys d := by
  intro d
  induction d with
  | zero =>
    intro _ bp v kb o H C h hw
    refine WpF.wrt rfl fn83 rfl ?_
    unfold f83A
    have z : ((0 : Nat) : Int) = 0 := rfl
    rw [z]
    simp (disch := (first | assumption | omega | (simp only [List.length_append, List.length_cons, List.length_nil]; omega))) only [↓wD,wU,Nat.reduceBEq,zx150,zx151,zx159,zx160,zx161,zx162,Nat.reduceAdd,Nat.reduceSub,Nat.reduceMul,Nat.reduceLeDiff,Nat.reduceLT,Nat.reduceEqDiff,Int.reduceAdd,Int.reduceSub,Int.reduceMul,Int.reduceNeg,Int.reduceLT,Int.reduceLE,Int.reduceEq,Int.reduceToNat,Int.cast_ofNat_Int,↓reduceIte]
    refine Wp.dec (fun m a H' => m = 0 ∧ a 0 = .p bp 0 ∧ a 1 = .i 0 ∧ H' = H) 0 ?_ ?_
    · rintro m a H1 ⟨rfl, a0, a1, rfl⟩ ih
      simp (disch := (first | assumption | omega | (simp only [List.length_append, List.length_cons, List.length_nil]; omega))) only [↓wD,wU,Nat.reduceBEq,zx150,zx151,zx159,zx160,zx161,zx162,Nat.reduceAdd,Nat.reduceSub,Nat.reduceMul,Nat.reduceLeDiff,Nat.reduceLT,Nat.reduceEqDiff,Int.reduceAdd,Int.reduceSub,Int.reduceMul,Int.reduceNeg,Int.reduceLT,Int.reduceLE,Int.reduceEq,Int.reduceToNat,Int.cast_ofNat_Int,↓reduceIte, a0, a1]
      refine callI ((lines_ok h hlo hP hw).mono ?_)
      rintro r H2 ⟨D, b, rfl, hb2, x2, hm, ht, hf⟩
      cases b with
      | true =>
        simp (disch := (first | assumption | omega | (simp only [List.length_append, List.length_cons, List.length_nil]; omega))) only [↓wD,wU,Nat.reduceBEq,zx150,zx151,zx159,zx160,zx161,zx162,Nat.reduceAdd,Nat.reduceSub,Nat.reduceMul,Nat.reduceLeDiff,Nat.reduceLT,Nat.reduceEqDiff,Int.reduceAdd,Int.reduceSub,Int.reduceMul,Int.reduceNeg,Int.reduceLT,Int.reduceLE,Int.reduceEq,Int.reduceToNat,Int.cast_ofNat_Int,↓reduceIte, a0, a1]
        exact ⟨D, true, v, kb, o, rfl, hb2, hm.1, .inl rfl, x2.weak fun _ _ h => h.2, fun _ => ⟨⟨hm.1, ht rfl⟩, hm.2.1, fun L hL h => hm.2.2 L hL.1 hL.2 h⟩, nofun⟩
      | false =>
        simp (disch := (first | assumption | omega | (simp only [List.length_append, List.length_cons, List.length_nil]; omega))) only [↓wD,wU,Nat.reduceBEq,zx150,zx151,zx159,zx160,zx161,zx162,Nat.reduceAdd,Nat.reduceSub,Nat.reduceMul,Nat.reduceLeDiff,Nat.reduceLT,Nat.reduceEqDiff,Int.reduceAdd,Int.reduceSub,Int.reduceMul,Int.reduceNeg,Int.reduceLT,Int.reduceLE,Int.reduceEq,Int.reduceToNat,Int.cast_ofNat_Int,↓reduceIte, a0, a1]
        exact ⟨D, false, v, kb, o, rfl, hb2, hm.1, .inl rfl, x2.weak fun _ _ h => h.2, nofun, fun _ L hL => hf rfl L hL.1 hL.2⟩
    · simp (disch := (first | assumption | omega | (simp only [List.length_append, List.length_cons, List.length_nil]; omega))) only [↓wD,wU,Nat.reduceBEq,zx150,zx151,zx159,zx160,zx161,zx162,Nat.reduceAdd,Nat.reduceSub,Nat.reduceMul,Nat.reduceLeDiff,Nat.reduceLT,Nat.reduceEqDiff,Int.reduceAdd,Int.reduceSub,Int.reduceMul,Int.reduceNeg,Int.reduceLT,Int.reduceLE,Int.reduceEq,Int.reduceToNat,Int.cast_ofNat_Int,↓reduceIte]
  | succ d ih =>
    intro hd bp v kb o H C h hw
    have hs : SetS lo L pp u w xs ys d := @ih (by omega)
    refine WpF.wrt rfl fn83 rfl ?_
    unfold f83A
    obtain ⟨dd, edd⟩ : ∃ dd : Nat, dd = d + 1 := ⟨_, rfl⟩
    have hne : decide ((dd : Int) = 0) = false := decide_eq_false (by omega)
    rw [← edd]
    simp (disch := (first | assumption | omega | (simp only [List.length_append, List.length_cons, List.length_nil]; omega))) only [↓wD,wU,Nat.reduceBEq,zx150,zx151,zx159,zx160,zx161,zx162,Nat.reduceAdd,Nat.reduceSub,Nat.reduceMul,Nat.reduceLeDiff,Nat.reduceLT,Nat.reduceEqDiff,Int.reduceAdd,Int.reduceSub,Int.reduceMul,Int.reduceNeg,Int.reduceLT,Int.reduceLE,Int.reduceEq,Int.reduceToNat,Int.cast_ofNat_Int,↓reduceIte]
    refine Wp.dec (fun m a H' => ∃ D v' kb' o', m = mes xs.length ys.length D ∧ a 0 = .p bp 0 ∧ a 1 = .i dd ∧ Bd L bp pp u w xs ys v' kb' o' H' D ∧ Mid xs ys (d + 1) C D ∧ (kb' = kb ∨ H.length ≤ kb') ∧ Kx (fun b => b ≠ bp ∧ b ≠ kb) H H') (mes xs.length ys.length C) ?_ ?_
    · rintro m a H1 ⟨D, v1, kb1, o1, rfl, a0, a1, hb1, hm1, hk1, x1⟩ ihl
      have n1 := x1.1
      simp (disch := (first | assumption | omega | (simp only [List.length_append, List.length_cons, List.length_nil]; omega))) only [↓wD,wU,Nat.reduceBEq,zx150,zx151,zx159,zx160,zx161,zx162,Nat.reduceAdd,Nat.reduceSub,Nat.reduceMul,Nat.reduceLeDiff,Nat.reduceLT,Nat.reduceEqDiff,Int.reduceAdd,Int.reduceSub,Int.reduceMul,Int.reduceNeg,Int.reduceLT,Int.reduceLE,Int.reduceEq,Int.reduceToNat,Int.cast_ofNat_Int,↓reduceIte, a0, a1]
      refine callI ((lines_ok hb1 hlo hP hm1.1).mono ?_)
      rintro r H2 ⟨D2, b, rfl, hb2, x2, hm, ht, hf⟩
      have n2 := x2.1
      have x12 : Kx (fun b => b ≠ bp ∧ b ≠ kb) H H2 := x1.trans x2 fun b hb h => by rcases hk1 with rfl | q <;> omega
      have hm2 := hm1.lines hm
      cases b with
      | false =>
        simp (disch := (first | assumption | omega | (simp only [List.length_append, List.length_cons, List.length_nil]; omega))) only [↓wD,wU,Nat.reduceBEq,zx150,zx151,zx159,zx160,zx161,zx162,Nat.reduceAdd,Nat.reduceSub,Nat.reduceMul,Nat.reduceLeDiff,Nat.reduceLT,Nat.reduceEqDiff,Int.reduceAdd,Int.reduceSub,Int.reduceMul,Int.reduceNeg,Int.reduceLT,Int.reduceLE,Int.reduceEq,Int.reduceToNat,Int.cast_ofNat_Int,↓reduceIte, a0, a1]
        exact ⟨D2, false, v1, kb1, o1, rfl, hb2, hm.1, hk1, x12, nofun, fun _ => edd ▸ hm1.failL (hf rfl)⟩
      | true =>
        have tr := try_ok hs hP hlo (by omega) hb2 hm.1
        rw [← edd] at tr
        simp (disch := (first | assumption | omega | (simp only [List.length_append, List.length_cons, List.length_nil]; omega))) only [↓wD,wU,Nat.reduceBEq,zx150,zx151,zx159,zx160,zx161,zx162,Nat.reduceAdd,Nat.reduceSub,Nat.reduceMul,Nat.reduceLeDiff,Nat.reduceLT,Nat.reduceEqDiff,Int.reduceAdd,Int.reduceSub,Int.reduceMul,Int.reduceNeg,Int.reduceLT,Int.reduceLE,Int.reduceEq,Int.reduceToNat,Int.cast_ofNat_Int,↓reduceIte, a0, a1, hne]
        refine callI (tr.mono ?_)
        rintro r H3 ⟨x23, hc⟩
        have n3 := x23.1
        have x13 := x12.trans x23 fun b _ h => h.1
        rcases hc with ⟨rfl, i, c, b, v', kb', o', hi, hcc, ho, hF, hb3, hk3⟩ | ⟨rfl, hb3, hres⟩
        · have hi' : i < D2.length := by rw [hm.1.len]; exact hi
          have hm3 := hm2.try hi hcc hF
          have hlt : mes xs.length ys.length (withK D2 i c (!b)) < mes xs.length ys.length D := by
            have h1 := mes_lt hm.1 hm3.1 (le_with hi' (!b)) (with_ne hi' ho)
            have h2 := mes_le (h := xs.length) (w := ys.length) hm.2.1
            omega
          simp (disch := (first | assumption | omega | (simp only [List.length_append, List.length_cons, List.length_nil]; omega))) only [↓wD,wU,Nat.reduceBEq,zx150,zx151,zx159,zx160,zx161,zx162,Nat.reduceAdd,Nat.reduceSub,Nat.reduceMul,Nat.reduceLeDiff,Nat.reduceLT,Nat.reduceEqDiff,Int.reduceAdd,Int.reduceSub,Int.reduceMul,Int.reduceNeg,Int.reduceLT,Int.reduceLE,Int.reduceEq,Int.reduceToNat,Int.cast_ofNat_Int,↓reduceIte, a0, a1, hne]
          refine ihl.go ⟨_, hlt, withK D2 i c (!b), v', kb', o', rfl, ?_⟩
          simp (disch := (first | assumption | omega | (simp only [List.length_append, List.length_cons, List.length_nil]; omega))) only [↓wD,wU,Nat.reduceBEq,zx150,zx151,zx159,zx160,zx161,zx162,Nat.reduceAdd,Nat.reduceSub,Nat.reduceMul,Nat.reduceLeDiff,Nat.reduceLT,Nat.reduceEqDiff,Int.reduceAdd,Int.reduceSub,Int.reduceMul,Int.reduceNeg,Int.reduceLT,Int.reduceLE,Int.reduceEq,Int.reduceToNat,Int.cast_ofNat_Int,↓reduceIte, a0, a1]
          exact ⟨hb3, hm3, .inr (by omega), x13⟩
        · simp (disch := (first | assumption | omega | (simp only [List.length_append, List.length_cons, List.length_nil]; omega))) only [↓wD,wU,Nat.reduceBEq,zx150,zx151,zx159,zx160,zx161,zx162,Nat.reduceAdd,Nat.reduceSub,Nat.reduceMul,Nat.reduceLeDiff,Nat.reduceLT,Nat.reduceEqDiff,Int.reduceAdd,Int.reduceSub,Int.reduceMul,Int.reduceNeg,Int.reduceLT,Int.reduceLE,Int.reduceEq,Int.reduceToNat,Int.cast_ofNat_Int,↓reduceIte, a0, a1, hne]
          exact ⟨D2, true, v1, kb1, o1, rfl, hb3, hm.1, hk1, x13, fun _ => edd ▸ hm2.res (closed_try hm.1 (ht rfl) hres), nofun⟩
    · simp (disch := (first | assumption | omega | (simp only [List.length_append, List.length_cons, List.length_nil]; omega))) only [↓wD,wU,Nat.reduceBEq,zx150,zx151,zx159,zx160,zx161,zx162,Nat.reduceAdd,Nat.reduceSub,Nat.reduceMul,Nat.reduceLeDiff,Nat.reduceLT,Nat.reduceEqDiff,Int.reduceAdd,Int.reduceSub,Int.reduceMul,Int.reduceNeg,Int.reduceLT,Int.reduceLE,Int.reduceEq,Int.reduceToNat,Int.cast_ofNat_Int,↓reduceIte]
      exact ⟨C, v, kb, o, rfl, h, ⟨hw, LeK.refl _, fun _ _ h => h⟩, .inl rfl, Kx.refl _ _⟩
end Go.Proofs.YtjjndoigkhabdaaDoor
namespace Go.Proofs.YtjjndoigkhabdaaDoor
open Go Go.AM Go.Proofs
def solK (w : Nat) (S : List Nat) : KS := S.map fun x => (x, 2 ^ w - (x + 1))
theorem comp_bit {x n i : Nat} (h : x < 2 ^ n) : (2 ^ n - (x + 1)).testBit i = (decide (i < n) && !x.testBit i) := Nat.testBit_two_pow_sub_succ h i
/-- agrees with all of x: x itself -/
theorem agN_full {n x y : Nat} (hx : x < 2 ^ n) (hy : y < 2 ^ n) : agN x (2 ^ n - (x + 1)) y = true ↔ y = x := by
  rw [agN_iff]
  constructor
  · intro h
    apply Nat.eq_of_testBit_eq
    intro c
    have h1 := (h c).1
    have h2 := (h c).2
    rw [comp_bit hx] at h2
    by_cases hc : c < n
    · rw [decide_eq_true hc] at h2
      cases q1 : x.testBit c <;> cases q2 : y.testBit c <;> simp_all
    · rw [Nat.testBit_lt_two_pow (Nat.lt_of_lt_of_le hx (Nat.pow_le_pow_right (by omega) (by omega))), Nat.testBit_lt_two_pow (Nat.lt_of_lt_of_le hy (Nat.pow_le_pow_right (by omega) (by omega)))]
  · rintro rfl c
    rw [comp_bit hx]
    cases q1 : y.testBit c <;> simp
theorem setS_full {n x : Nat} {cl : List Int} (hn : n ≤ 5) (hx : x ∈ linesN n cl) : setS n cl x (2 ^ n - (x + 1)) = (x, 2 ^ n - (x + 1), true) := by
  have hlt := linesN_lt hx
  have hall : ∀ (P : Nat → Bool), ((linesN n cl).all fun y => !agN x (2 ^ n - (x + 1)) y || P y) = P x := by
    intro P
    cases hp : P x
    · rw [List.all_eq_false]
      exact ⟨x, hx, by rw [(agN_full hlt hlt).2 rfl, hp]; decide⟩
    · rw [List.all_eq_true]
      intro y hy
      cases ha : agN x (2 ^ n - (x + 1)) y
      · rfl
      · rw [(agN_full hlt (linesN_lt hy)).1 ha, hp]; rfl
  have h1 : (setS n cl x (2 ^ n - (x + 1))).1 = x := by
    apply Nat.eq_of_testBit_eq
    intro c
    rw [setS_bit1, hall fun y => y.testBit c]
    cases hb : x.testBit c
    · simp
    · rw [decide_eq_true (lt_bit hlt hb)]; rfl
  have h2 : (setS n cl x (2 ^ n - (x + 1))).2.1 = 2 ^ n - (x + 1) := by
    apply Nat.eq_of_testBit_eq
    intro c
    rw [setS_bit2 hn, hall fun y => !y.testBit c, comp_bit hlt]
  have h3 : (setS n cl x (2 ^ n - (x + 1))).2.2 = true := by
    rw [setS_ok, List.any_eq_true]
    exact ⟨x, hx, (agN_full hlt hlt).2 rfl⟩
  exact Prod.ext h1 (Prod.ext h2 h3)
theorem solK_f {w : Nat} {S : List Nat} {i : Nat} (hi : i < S.length) : fK (solK w S) i = gi S (i : Int) ∧ eK (solK w S) i = 2 ^ w - (gi S (i : Int) + 1) := by
  unfold fK eK
  rw [gi_nat (by simpa [solK] using hi), gi_nat hi]
  simp [solK]
theorem solK_len {w : Nat} {S : List Nat} : (solK w S).length = S.length := by simp [solK]
theorem FK_solK {w : Nat} {S : List Nat} : FK (solK w S) = S := by
  unfold FK solK
  rw [List.map_map]
  exact List.map_id S
theorem solK_open {w : Nat} {S : List Nat} (hS : ∀ x ∈ S, x < 2 ^ w) {i c : Nat} (hi : i < S.length) (hc : c < w) : ¬ openB (solK w S) i c := by
  unfold openB
  rw [(solK_f hi).1, (solK_f hi).2, comp_bit (hS _ (mem_gi hi)), decide_eq_true hc]
  cases (gi S (i : Int)).testBit c <;> simp
theorem solK_col {w : Nat} {S : List Nat} (hS : ∀ x ∈ S, x < 2 ^ w) {c : Nat} (hc : c < w) : colN (EK (solK w S)) c = 2 ^ S.length - (colN S c + 1) := by
  apply Nat.eq_of_testBit_eq
  intro r
  rw [colE_bit, comp_bit (colN_lt S c), colN_bit, solK_len]
  by_cases hr : r < S.length
  · rw [decide_eq_true hr, (solK_f hr).2, comp_bit (hS _ (mem_gi hr)), decide_eq_true hc]; simp
  · rw [decide_eq_false hr]; simp
theorem sol_closed {xs ys : List (List Int)} {S : List Nat} (x5 : xs.length ≤ 5) (y5 : ys.length ≤ 5) (h : S ∈ sols xs ys) (d : Nat) : Closed xs ys d (solK ys.length S) := by
  obtain ⟨hl, h1, h2⟩ := mem_sols.1 h
  have hr := sol_rows h
  have hw : WfK xs.length ys.length (solK ys.length S) := ⟨by rw [solK_len]; exact hl, fun i hi => by
    rw [(solK_f (by omega)).1, (solK_f (by omega)).2]
    have := (h1 i hi).1
    omega⟩
  have hlc : LC xs ys (solK ys.length S) := by
    constructor
    · intro i hi
      rw [(solK_f (by omega)).1, (solK_f (by omega)).2]
      exact setS_full y5 (mem_linesN.2 (h1 i hi))
    · intro c hc
      rw [FK_solK, solK_col hr hc, hl]
      exact setS_full x5 (mem_linesN.2 ⟨by rw [← hl]; exact colN_lt S c, h2 c hc⟩)
  cases d with
  | zero => exact ⟨hw, hlc⟩
  | succ d => exact ⟨hw, hlc, fun i c v hi hc ho => absurd ho (solK_open hr (by omega) hc)⟩
/-- all known and closed: a solution -/
theorem full_sol {xs ys : List (List Int)} {L : KS} (hw : WfK xs.length ys.length L) (hl : LC xs ys L) (hn : ∀ i c, i < xs.length → c < ys.length → ¬ openB L i c) : FK L ∈ sols xs ys ∧ LeK L (solK ys.length (FK L)) := by
  have hlen : (FK L).length = xs.length := by rw [FK_len, hw.len]
  have line : ∀ {n f e : Nat} {cl : List Int}, f < 2 ^ n → setS n cl f e = (f, e, true) → (∀ c, c < n → f.testBit c = true ∨ e.testBit c = true) → f ∈ linesN n cl ∧ ∀ c, e.testBit c = true → f.testBit c = false := by
    intro n f e cl hf hs hfull
    have hok : (setS n cl f e).2.2 = true := by rw [hs]
    rw [setS_ok, List.any_eq_true] at hok
    obtain ⟨y, hy, ha⟩ := hok
    rw [agN_iff] at ha
    have : y = f := by
      apply Nat.eq_of_testBit_eq
      intro c
      have a1 := (ha c).1
      have a2 := (ha c).2
      by_cases hc : c < n
      · rcases hfull c hc with q | q
        · rw [q, a1 q]
        · rw [a2 q]
          cases q3 : f.testBit c
          · rfl
          · rw [a1 q3] at a2; exact absurd (a2 q) (by decide)
      · rw [Nat.testBit_lt_two_pow (Nat.lt_of_lt_of_le (linesN_lt hy) (Nat.pow_le_pow_right (by omega) (by omega))), Nat.testBit_lt_two_pow (Nat.lt_of_lt_of_le hf (Nat.pow_le_pow_right (by omega) (by omega)))]
    subst this
    exact ⟨hy, fun c hc => (ha c).2 hc⟩
  have bits : ∀ {i c : Nat}, i < xs.length → c < ys.length → (fK L i).testBit c = true ∨ (eK L i).testBit c = true := by
    intro i c hi hc
    have := hn i c hi hc
    unfold openB at this
    cases q1 : (fK L i).testBit c <;> cases q2 : (eK L i).testBit c <;> simp_all
  have rows := fun i (hi : i < xs.length) => line (hw.lt i hi).1 (hl.1 i hi) fun c hc => bits hi hc
  constructor
  · rw [mem_sols]
    refine ⟨hlen, fun i hi => ?_, fun c hc => ?_⟩
    · rw [FK_gi]
      exact mem_linesN.1 (rows i hi).1
    · have := line (col_lt hw c).1 (hl.2 c hc) fun r hr => by
        rw [colF_bit, colE_bit, hw.len, decide_eq_true hr, Bool.true_and, Bool.true_and]
        exact bits hr hc
      exact (mem_linesN.1 this.1).2
  · intro i
    by_cases hi : i < xs.length
    · rw [(solK_f (by omega)).1, (solK_f (by omega)).2, FK_gi]
      refine ⟨SubB.refl _, fun c hc => ?_⟩
      rw [comp_bit (hw.lt i hi).1, (rows i hi).2 c hc, decide_eq_true (lt_bit (hw.lt i hi).2 hc)]; rfl
    · have e1 : fK L i = 0 := by unfold fK; rw [gi_big (by rw [hw.len]; omega)]; rfl
      have e2 : eK L i = 0 := by unfold eK; rw [gi_big (by rw [hw.len]; omega)]; rfl
      rw [e1, e2]
      have z : ∀ x, SubB 0 x := fun x c h => by rw [Nat.zero_testBit] at h; cases h
      exact ⟨z _, z _⟩
theorem mes_pos {h w : Nat} {K : KS} (h1 : 1 ≤ h) (hw : WfK h w K) : 1 ≤ mes h w K := by
  obtain ⟨n, rfl⟩ : ∃ n, h = n + 1 := ⟨h - 1, by omega⟩
  unfold mes
  rw [sumR_s]
  have := hw.lt n (by omega)
  omega
theorem hasV_ne {L M : KS} {i c : Nat} {v : Bool} (ho : openB L i c) (hv : hasV M i c v) : L ≠ M := fun e => ho.not (e ▸ hv)
theorem exists_sol {xs ys : List (List Int)} (x1 : 1 ≤ xs.length) : ∀ {d : Nat} {L : KS}, Closed xs ys d L → mes xs.length ys.length L ≤ d → ∃ S, S ∈ sols xs ys ∧ LeK L (solK ys.length S)
  | 0, L, h, hm => by have := mes_pos x1 h.wf; omega
  | d + 1, L, h, hm => by
    by_cases hex : ∃ i c, i < xs.length ∧ c < ys.length ∧ openB L i c
    · obtain ⟨i, c, hi, hc, ho⟩ := hex
      obtain ⟨M, hM, hle, hv⟩ := h.2.2 i c true hi hc ho
      have := mes_lt h.wf hM.wf hle (hasV_ne ho hv)
      obtain ⟨S, hS, hle2⟩ := exists_sol x1 hM (by omega)
      exact ⟨S, hS, hle.trans hle2⟩
    · have := full_sol h.wf h.lc fun i c hi hc ho => hex ⟨i, c, hi, hc, ho⟩
      exact ⟨_, this⟩
/-- at depth d all is known -/
def DoneAt (xs ys : List (List Int)) (d : Nat) : Prop := ∃ C, Res xs ys d (K0 xs.length) C ∧ rowsO C xs.length ys.length 0 = []
def LeastD (xs ys : List (List Int)) (d : Nat) : Prop := DoneAt xs ys d ∧ ∀ t, t < d → ¬ DoneAt xs ys t
theorem rowsO_nil {K : KS} {h w : Nat} : rowsO K h w 0 = [] ↔ ∀ i c, i < h → c < w → ¬ openB K i c := by
  rw [List.eq_nil_iff_forall_not_mem]
  constructor
  · intro hh i c hi hc ho
    exact hh (i, c) (mem_rowsO.2 ⟨hi, hc, ho⟩)
  · intro hh x hx
    obtain ⟨h1, h2, h3⟩ := mem_rowsO.1 hx
    exact hh _ _ h1 h2 h3
theorem one_mem {α : Type} {l : List α} (h : l.length = 1) : ∃ S, S ∈ l ∧ ∀ T, T ∈ l → T = S := by
  match l, h with
  | [S], _ => exact ⟨S, by simp, fun T hT => by simpa using hT⟩
theorem not_fail {xs ys : List (List Int)} (x5 : xs.length ≤ 5) (y5 : ys.length ≤ 5) {S : List Nat} (h : S ∈ sols xs ys) (d : Nat) : ¬ Fail xs ys d (K0 xs.length) := fun hf => hf _ (sol_closed x5 y5 h d) K0_le
theorem solK_has {w : Nat} {S : List Nat} (hS : ∀ x ∈ S, x < 2 ^ w) {i c : Nat} (h1 : hasV (solK w S) i c true) (h2 : hasV (solK w S) i c false) : False := by
  unfold hasV at h1 h2
  simp only [if_true, Bool.false_eq_true, if_false] at h1 h2
  by_cases hi : i < S.length
  · rw [(solK_f hi).1] at h1
    rw [(solK_f hi).2, comp_bit (hS _ (mem_gi hi)), h1] at h2
    simp at h2
  · have : fK (solK w S) i = 0 := by unfold fK; rw [gi_big (by rw [solK_len]; omega)]; rfl
    rw [this, Nat.zero_testBit] at h1; cases h1
/-- with one solution alone, and depth enough, all is known -/
theorem done_big {xs ys : List (List Int)} (x1 : 1 ≤ xs.length) (x5 : xs.length ≤ 5) (y5 : ys.length ≤ 5) (h1 : (sols xs ys).length = 1) {d : Nat} (hd : 321 ≤ d) {C : KS} (hr : Res xs ys d (K0 xs.length) C) : rowsO C xs.length ys.length 0 = [] := by
  obtain ⟨S, hS, hu⟩ := one_mem h1
  rw [rowsO_nil]
  intro i c hi hc ho
  obtain ⟨d', rfl⟩ : ∃ d', d = d' + 1 := ⟨d - 1, by omega⟩
  have hb : mes xs.length ys.length C ≤ 320 := by
    have : mes xs.length ys.length C ≤ sumR xs.length fun _ => 64 := sumR_le fun i _ => by
      have := pow32 y5
      omega
    have h2 : sumR xs.length (fun _ => 64) = xs.length * 64 := by
      have : ∀ n, sumR n (fun _ => 64) = n * 64 := fun n => by
        induction n with
        | zero => rfl
        | succ n ih => rw [sumR_s, ih]; omega
      exact this _
    omega
  have two : ∀ v, hasV (solK ys.length S) i c v := fun v => by
    obtain ⟨M, hM, hle, hv⟩ := hr.1.2.2 i c v hi hc ho
    have := mes_le (h := xs.length) (w := ys.length) hle
    obtain ⟨T, hT, hle2⟩ := exists_sol x1 hM (by omega)
    rw [← hu T hT]
    exact hle2.has hv
  exact solK_has (sol_rows hS) (two true) (two false)
theorem LeastD.uniq {xs ys : List (List Int)} {d e : Nat} (h : LeastD xs ys d) (h' : LeastD xs ys e) : d = e := by
  rcases Nat.lt_trichotomy d e with q | q | q
  · exact absurd h.1 (h'.2 d q)
  · exact q
  · exact absurd h'.1 (h.2 e q)
end Go.Proofs.YtjjndoigkhabdaaDoor
namespace Go.Proofs.YtjjndoigkhabdaaDoor
open Go Go.AM Go.Proofs
theorem try_ret {p q : Nat → Prop} {H : Heap} {u w : AV} {x y : List (List Int)} (hx : Sl p H u x) (hy : Sl q H w y) (hP : PuzP x y) (h1 : (sols x y).length = 1) : RetE E 53 [.ag [u, w]] H fun v => ∃ d : Nat, LeastD x y d ∧ d ≤ 321 ∧ v = .tp [.i d, .i 0] := by
  refine RetE.ro rfl fn53 rfl (by rintro v ⟨d, _, _, rfl⟩; rfl) ?_
  unfold f53A
  have x1 : 1 ≤ x.length := by have := hP.1.1; omega
  have x5 : x.length ≤ 5 := by have := hP.1.2; omega
  have y5 : y.length ≤ 5 := by have := hP.2.1.2; omega
  obtain ⟨S, hS, -⟩ := one_mem h1
  have vu := hx.cellsV
  have vw := hy.cellsV
  obtain ⟨H2, eH2⟩ : ∃ H2, H ++ [Blk.cells [u, w]] = H2 := ⟨_, rfl⟩
  have x2 : Kx (fun _ => True) H H2 := by rw [← eH2]; exact Kx.app _ _ _
  have n2 : H2.length = H.length + 1 := by rw [← eH2]; simp
  have g0 : H2[H.length]? = some (.cells [u, w]) := by rw [← eH2]; exact get_last
  have hx2 : Sl (fun b => b < H2.length) H2 u x := (hx.low.weak (q := fun b => b < H2.length) fun b h => by omega).kp (x2.all _).kp
  have hy2 : Sl (fun b => b < H2.length) H2 w y := (hy.low.weak (q := fun b => b < H2.length) fun b h => by omega).kp (x2.all _).kp
  have ct := scount_ret hx2 hy2 hP
  rw [h1] at ct
  simp (disch := (first | assumption | omega | (simp only [List.length_append, List.length_cons, List.length_nil]; omega))) only [↓wD,wU,Nat.reduceBEq,zx150,zx151,zx159,zx160,zx161,zx162,Nat.reduceAdd,Nat.reduceSub,Nat.reduceMul,Nat.reduceLeDiff,Nat.reduceLT,Nat.reduceEqDiff,Int.reduceAdd,Int.reduceSub,Int.reduceMul,Int.reduceNeg,Int.reduceLT,Int.reduceLE,Int.reduceEq,Int.reduceToNat,Int.cast_ofNat_Int,↓reduceIte, vu, vw, eH2, ldn_of g0, ct.call]
  refine Wp.dec (fun m a H' => ∃ t : Nat, t + m = 321 ∧ a 1 = .p H.length 0 ∧ a 6 = .i t ∧ Kx (fun _ => True) H2 H' ∧ ∀ t', t' < t → ¬ DoneAt x y t') 321 ?_ ?_
  · rintro m a H3 ⟨t, htm, a1, a6, x23, hnd⟩ ih
    have n3 := x23.1
    simp (disch := (first | assumption | omega | (simp only [List.length_append, List.length_cons, List.length_nil]; omega))) only [↓wD,wU,Nat.reduceBEq,zx150,zx151,zx159,zx160,zx161,zx162,Nat.reduceAdd,Nat.reduceSub,Nat.reduceMul,Nat.reduceLeDiff,Nat.reduceLT,Nat.reduceEqDiff,Int.reduceAdd,Int.reduceSub,Int.reduceMul,Int.reduceNeg,Int.reduceLT,Int.reduceLE,Int.reduceEq,Int.reduceToNat,Int.cast_ofNat_Int,↓reduceIte, a1, a6]
    refine callI ((start_ok (x23.get trivial g0) (hx2.kp (x23.all _).kp) (hy2.kp (x23.all _).kp) (by omega) n3 x5).mono ?_)
    rintro r H4 ⟨⟨bp, v, kb, o, rfl, hb4, q1, q2⟩, x34⟩
    simp (disch := (first | assumption | omega | (simp only [List.length_append, List.length_cons, List.length_nil]; omega))) only [↓wD,wU,Nat.reduceBEq,zx150,zx151,zx159,zx160,zx161,zx162,Nat.reduceAdd,Nat.reduceSub,Nat.reduceMul,Nat.reduceLeDiff,Nat.reduceLT,Nat.reduceEqDiff,Int.reduceAdd,Int.reduceSub,Int.reduceMul,Int.reduceNeg,Int.reduceLT,Int.reduceLE,Int.reduceEq,Int.reduceToNat,Int.cast_ofNat_Int,↓reduceIte, a1, a6]
    refine callI ((bsettle_ok hP (by omega) t (by omega) hb4 K0_wf).mono ?_)
    rintro r H5 ⟨D, b, v', kb', o', rfl, hb5, hwD, hk, x45, hT, hF⟩
    have hr : Res x y t (K0 x.length) D := by
      cases b with
      | true => exact hT rfl
      | false => exact absurd (hF rfl) (not_fail x5 y5 hS t)
    have dn := done_ret hb5 hP hwD
    have x35 : Kx (fun _ => True) H3 H5 := x34.trans x45 fun b hb _ => ⟨by omega, by omega⟩
    by_cases h0 : rowsO D x.length y.length 0 = []
    · rw [decide_eq_true h0] at dn
      simp (disch := (first | assumption | omega | (simp only [List.length_append, List.length_cons, List.length_nil]; omega))) only [↓wD,wU,Nat.reduceBEq,zx150,zx151,zx159,zx160,zx161,zx162,Nat.reduceAdd,Nat.reduceSub,Nat.reduceMul,Nat.reduceLeDiff,Nat.reduceLT,Nat.reduceEqDiff,Int.reduceAdd,Int.reduceSub,Int.reduceMul,Int.reduceNeg,Int.reduceLT,Int.reduceLE,Int.reduceEq,Int.reduceToNat,Int.cast_ofNat_Int,↓reduceIte, a1, a6, dn.call]
      exact ⟨t, ⟨⟨D, hr, h0⟩, hnd⟩, by omega, rfl⟩
    · rw [decide_eq_false h0] at dn
      have ht : t < 321 := by
        refine Nat.lt_of_not_le fun q => h0 ?_
        exact done_big x1 x5 y5 h1 q hr
      simp (disch := (first | assumption | omega | (simp only [List.length_append, List.length_cons, List.length_nil]; omega))) only [↓wD,wU,Nat.reduceBEq,zx150,zx151,zx159,zx160,zx161,zx162,Nat.reduceAdd,Nat.reduceSub,Nat.reduceMul,Nat.reduceLeDiff,Nat.reduceLT,Nat.reduceEqDiff,Int.reduceAdd,Int.reduceSub,Int.reduceMul,Int.reduceNeg,Int.reduceLT,Int.reduceLE,Int.reduceEq,Int.reduceToNat,Int.cast_ofNat_Int,↓reduceIte, a1, a6, dn.call]
      refine ih.go ⟨m - 1, by omega, t + 1, by omega, ?_⟩
      simp (disch := (first | assumption | omega | (simp only [List.length_append, List.length_cons, List.length_nil]; omega))) only [↓wD,wU,Nat.reduceBEq,zx150,zx151,zx159,zx160,zx161,zx162,Nat.reduceAdd,Nat.reduceSub,Nat.reduceMul,Nat.reduceLeDiff,Nat.reduceLT,Nat.reduceEqDiff,Int.reduceAdd,Int.reduceSub,Int.reduceMul,Int.reduceNeg,Int.reduceLT,Int.reduceLE,Int.reduceEq,Int.reduceToNat,Int.cast_ofNat_Int,↓reduceIte, a1, a6]
      refine ⟨x23.trans x35 fun _ _ _ => trivial, fun t' ht' hd => ?_⟩
      by_cases e : t' = t
      · subst e
        obtain ⟨C, hC, hC0⟩ := hd
        exact h0 (hr.uniq hC ▸ hC0)
      · exact hnd t' (by omega) hd
  · simp (disch := (first | assumption | omega | (simp only [List.length_append, List.length_cons, List.length_nil]; omega))) only [↓wD,wU,Nat.reduceBEq,zx150,zx151,zx159,zx160,zx161,zx162,Nat.reduceAdd,Nat.reduceSub,Nat.reduceMul,Nat.reduceLeDiff,Nat.reduceLT,Nat.reduceEqDiff,Int.reduceAdd,Int.reduceSub,Int.reduceMul,Int.reduceNeg,Int.reduceLT,Int.reduceLE,Int.reduceEq,Int.reduceToNat,Int.cast_ofNat_Int,↓reduceIte]
    refine ⟨0, rfl, rfl, ?_, fun t' ht' => by omega⟩
    exact Kx.refl _ _
theorem try_no {p q : Nat → Prop} {H : Heap} {u w : AV} {x y : List (List Int)} (hx : Sl p H u x) (hy : Sl q H w y) (hP : PuzP x y) (h1 : ¬ (sols x y).length = 1) : RetP E 53 [.ag [u, w]] H (.tp [.i 0, .i 4]) := by
  refine RetP.ro rfl fn53 rfl rfl ?_
  unfold f53A
  have ct := scount_ret (hx.app [Blk.cells [u, w]]) (hy.app [Blk.cells [u, w]]) hP
  have hd : decide (¬ (((sols x y).length : Nat) : Int) = 1) = true := decide_eq_true (by omega)
  simp (disch := (first | assumption | omega | (simp only [List.length_append, List.length_cons, List.length_nil]; omega))) only [↓wD,wU,Nat.reduceBEq,zx150,zx151,zx159,zx160,zx161,zx162,Nat.reduceAdd,Nat.reduceSub,Nat.reduceMul,Nat.reduceLeDiff,Nat.reduceLT,Nat.reduceEqDiff,Int.reduceAdd,Int.reduceSub,Int.reduceMul,Int.reduceNeg,Int.reduceLT,Int.reduceLE,Int.reduceEq,Int.reduceToNat,Int.cast_ofNat_Int,↓reduceIte, hx.cellsV, hy.cellsV, ct.call, hd]
theorem full_or {f e w : Nat} (hf : f < 2 ^ w) (he : e < 2 ^ w) : f ||| e = 2 ^ w - 1 ↔ ∀ c, c < w → f.testBit c = true ∨ e.testBit c = true := by
  constructor
  · intro h c hc
    have : (f ||| e).testBit c = true := by rw [h, all_bit]; exact decide_eq_true hc
    rw [Nat.testBit_or, Bool.or_eq_true] at this
    exact this
  · intro h
    apply Nat.eq_of_testBit_eq
    intro c
    rw [Nat.testBit_or, all_bit]
    by_cases hc : c < w
    · rw [decide_eq_true hc, Bool.or_eq_true]; exact h c hc
    · rw [decide_eq_false hc, Nat.testBit_lt_two_pow (Nat.lt_of_lt_of_le hf (Nat.pow_le_pow_right (by omega) (by omega))), Nat.testBit_lt_two_pow (Nat.lt_of_lt_of_le he (Nat.pow_le_pow_right (by omega) (by omega)))]; rfl
/-- the first i rows are known -/
def allK (C : KS) (w i : Nat) : Bool := (List.range i).all fun j => decide (fK C j ||| eK C j = 2 ^ w - 1)
theorem allK_s {C : KS} {w i : Nat} : allK C w (i + 1) = (allK C w i && decide (fK C i ||| eK C i = 2 ^ w - 1)) := by
  unfold allK
  rw [List.range_succ, List.all_append]
  simp
theorem allK_open {C : KS} {h w : Nat} (hC : WfK h w C) : allK C w h = decide (rowsO C h w 0 = []) := by
  apply Bool.eq_iff_iff.2
  rw [decide_eq_true_eq, rowsO_nil]
  unfold allK
  rw [List.all_eq_true]
  constructor
  · intro hh i c hi hc ho
    have := of_decide_eq_true (hh i (List.mem_range.2 hi))
    rw [full_or (hC.lt i hi).1 (hC.lt i hi).2] at this
    have := this c hc
    unfold openB at ho
    rw [ho.1, ho.2] at this
    simp at this
  · intro hh i hi
    have hi := List.mem_range.1 hi
    refine decide_eq_true ?_
    rw [full_or (hC.lt i hi).1 (hC.lt i hi).2]
    intro c hc
    have := hh i c hi hc
    unfold openB at this
    cases q1 : (fK C i).testBit c <;> cases q2 : (eK C i).testBit c <;> simp_all
end Go.Proofs.YtjjndoigkhabdaaDoor
namespace Go.Proofs.YtjjndoigkhabdaaDoor
open Go Go.AM Go.Proofs
theorem row_mid {xs ys : List (List Int)} {K C : KS} {i : Nat} (y5 : ys.length ≤ 5) (hi : i < xs.length) (h : MidL xs ys K C) {s : Nat × Nat × Bool} (es : setS ys.length (gi xs (i : Int)) (fK C i) (eK C i) = s) : MidL xs ys K (C.set i (s.1, s.2.1)) := by
  obtain ⟨hw, hK, hm⟩ := h
  have hi' : i < C.length := by rw [hw.len]; exact hi
  have hlt := hw.lt i hi
  obtain ⟨e1, e2⟩ := setS_ext (cl := gi xs (i : Int)) y5 hlt.1 hlt.2
  have sl := setS_lt (n := ys.length) (f := fK C i) (e := eK C i) (cl := gi xs (i : Int))
  rw [es] at e1 e2 sl
  refine ⟨set_wf hw hi sl, hK.trans (le_set hi' e1 e2), fun L h1 h2 h3 => ?_⟩
  have hCL := hm L h1 h2 h3
  have mo := setS_mono (cl := gi xs (i : Int)) y5 (hCL i).1 (hCL i).2
  rw [h2.1 i hi, es] at mo
  exact set_le hi' hCL mo.2.1 mo.2.2
theorem col_mid {xs ys : List (List Int)} {K C : KS} {c : Nat} (x5 : xs.length ≤ 5) (hc : c < ys.length) (h : MidL xs ys K C) {s : Nat × Nat × Bool} (es : setS xs.length (gi ys (c : Int)) (colN (FK C) c) (colN (EK C) c) = s) : MidL xs ys K (colK C c s.1 s.2.1 C.length) := by
  obtain ⟨hw, hK, hm⟩ := h
  refine ⟨colK_wf hw hc, hK.trans le_col, fun L h1 h2 h3 => ?_⟩
  have hCL := hm L h1 h2 h3
  have hl : C.length = L.length := by rw [hw.len, h1.len]
  have mo := setS_mono (cl := gi ys (c : Int)) x5 (colF_sub hCL hl c) (colE_sub hCL hl c)
  rw [h2.2 c hc, es] at mo
  exact col_le hl hCL mo.2.1 mo.2.2
/-- the lines settle, or fail -/
theorem sweep_ex {xs ys : List (List Int)} (x5 : xs.length ≤ 5) (y5 : ys.length ≤ 5) {K : KS} : ∀ (m : Nat) (C : KS), mes xs.length ys.length C = m → MidL xs ys K C → (∃ D, MidL xs ys K D ∧ LC xs ys D) ∨ FailL xs ys K := by
  intro m
  induction m using Nat.strongRecOn with
  | _ m ih =>
    intro C hm hC
    by_cases hl : LC xs ys C
    · exact .inl ⟨C, hC, hl⟩
    · have hw := hC.1
      have step : ∀ D, MidL xs ys K D → LeK C D → C ≠ D → (∃ D, MidL xs ys K D ∧ LC xs ys D) ∨ FailL xs ys K := fun D hD hle hne => ih _ (by rw [← hm]; exact mes_lt hw hD.1 hle hne) D rfl hD
      by_cases hr : ∃ i, i < xs.length ∧ setS ys.length (gi xs (i : Int)) (fK C i) (eK C i) ≠ (fK C i, eK C i, true)
      · obtain ⟨i, hi, hne⟩ := hr
        have hi' : i < C.length := by rw [hw.len]; exact hi
        have hlt := hw.lt i hi
        obtain ⟨e1, e2⟩ := setS_ext (cl := gi xs (i : Int)) y5 hlt.1 hlt.2
        cases hok : (setS ys.length (gi xs (i : Int)) (fK C i) (eK C i)).2.2
        · exact .inr (hC.fail (row_fail y5 hi hok))
        · refine step _ (row_mid y5 hi hC rfl) (le_set hi' e1 e2) fun e => hne ?_
          have f1 := congrArg (fun K => fK K i) e
          have f2 := congrArg (fun K => eK K i) e
          rw [fK_set hi', if_pos rfl] at f1
          rw [eK_set hi', if_pos rfl] at f2
          exact Prod.ext f1.symm (Prod.ext f2.symm hok)
      · by_cases hcx : ∃ c, c < ys.length ∧ setS xs.length (gi ys (c : Int)) (colN (FK C) c) (colN (EK C) c) ≠ (colN (FK C) c, colN (EK C) c, true)
        · obtain ⟨c, hc, hne⟩ := hcx
          have hlt := col_lt hw c
          obtain ⟨e1, e2⟩ := setS_ext (cl := gi ys (c : Int)) x5 hlt.1 hlt.2
          have sl := setS_lt (n := xs.length) (f := colN (FK C) c) (e := colN (EK C) c) (cl := gi ys (c : Int))
          cases hok : (setS xs.length (gi ys (c : Int)) (colN (FK C) c) (colN (EK C) c)).2.2
          · exact .inr (hC.fail (col_fail x5 hc hw hok))
          · refine step _ (col_mid x5 hc hC rfl) le_col fun e => hne ?_
            have f1 : SubB (setS xs.length (gi ys (c : Int)) (colN (FK C) c) (colN (EK C) c)).1 (colN (FK C) c) := fun r hr => by
              have hrl := lt_bit sl.1 hr
              have : (colN (FK (colK C c (setS xs.length (gi ys (c : Int)) (colN (FK C) c) (colN (EK C) c)).1 (setS xs.length (gi ys (c : Int)) (colN (FK C) c) (colN (EK C) c)).2.1 C.length)) c).testBit r = true := by
                rw [colF_bit, colK_f, colK_len, hr, hw.len, decide_eq_true hrl]; simp
              rwa [← e] at this
            have f2 : SubB (setS xs.length (gi ys (c : Int)) (colN (FK C) c) (colN (EK C) c)).2.1 (colN (EK C) c) := fun r hr => by
              have hrl := lt_bit sl.2 hr
              have : (colN (EK (colK C c (setS xs.length (gi ys (c : Int)) (colN (FK C) c) (colN (EK C) c)).1 (setS xs.length (gi ys (c : Int)) (colN (FK C) c) (colN (EK C) c)).2.1 C.length)) c).testBit r = true := by
                rw [colE_bit, colK_e, colK_len, hr, hw.len, decide_eq_true hrl]; simp
              rwa [← e] at this
            exact Prod.ext (f1.anti e1) (Prod.ext (f2.anti e2) hok)
        · refine absurd ⟨fun i hi => ?_, fun c hc => ?_⟩ hl
          · exact Classical.byContradiction fun q => hr ⟨i, hi, q⟩
          · exact Classical.byContradiction fun q => hcx ⟨c, hc, q⟩
section
variable {xs ys : List (List Int)} (x5 : xs.length ≤ 5) (y5 : ys.length ≤ 5)
include x5 y5
/-- where the lines fail there is no solution -/
theorem sweep_no (h : sweepK xs ys = none) : sols xs ys = [] := by
  have hf : FailL xs ys (K0 xs.length) := by
    rcases sweep_ex x5 y5 _ (K0 xs.length) rfl (MidL.refl K0_wf) with ⟨D, h1, h2⟩ | hf
    · rw [sweepK_some h1 h2] at h; cases h
    · exact hf
  refine List.eq_nil_iff_forall_not_mem.2 fun S hS => ?_
  have hc := sol_closed x5 y5 hS 0
  exact hf _ hc.1 hc.2 K0_le
theorem sweep_le {C : KS} (h : sweepK xs ys = some C) {S : List Nat} (hS : S ∈ sols xs ys) : LeK C (solK ys.length S) := by
  obtain ⟨hm, _⟩ := sweepK_of h
  have hc := sol_closed x5 y5 hS 0
  exact hm.2.2 _ hc.1 hc.2 K0_le
omit x5 in
theorem sweep_apart {C : KS} (h : sweepK xs ys = some C) {i : Nat} (hi : i < xs.length) : fK C i &&& eK C i = 0 := by
  obtain ⟨_, hl⟩ := sweepK_of h
  have := setS_apart (n := ys.length) (f := fK C i) (e := eK C i) (cl := gi xs (i : Int)) y5 (by rw [hl.1 i hi])
  rwa [hl.1 i hi] at this
omit x5 y5 in
theorem sweep_res {C : KS} (h : sweepK xs ys = some C) : Res xs ys 0 (K0 xs.length) C := by
  obtain ⟨hm, hl⟩ := sweepK_of h
  exact ⟨⟨hm.1, hl⟩, hm.2.1, fun L hL h => hm.2.2 L hL.1 hL.2 h⟩
omit x5 y5 in
theorem ded_done {C : KS} (h : sweepK xs ys = some C) : DoneAt xs ys 0 ↔ rowsO C xs.length ys.length 0 = [] := by
  constructor
  · rintro ⟨D, hD, h0⟩
    rwa [(sweep_res h).uniq hD]
  · intro h0
    exact ⟨C, sweep_res h, h0⟩
/-- all settled: one solution alone -/
theorem sweep_one {C : KS} (h : sweepK xs ys = some C) (h0 : rowsO C xs.length ys.length 0 = []) : (sols xs ys).length = 1 := by
  obtain ⟨hm, hl⟩ := sweepK_of h
  obtain ⟨hS, _⟩ := full_sol hm.1 hl (rowsO_nil.1 h0)
  have hu : ∀ T, T ∈ sols xs ys → T = FK C := fun T hT => by
    have hle := sweep_le x5 y5 h hT
    have hTl := (mem_sols.1 hT).1
    have hTr := sol_rows hT
    apply gi_ext (by rw [hTl, FK_len, hm.1.len])
    intro i hi
    have hi' : i < xs.length := by omega
    rw [FK_gi]
    apply Nat.eq_of_testBit_eq
    intro c
    have h1 := (hle i).1 c
    have h2 := (hle i).2 c
    rw [(solK_f hi).1] at h1
    rw [(solK_f hi).2, comp_bit (hTr _ (mem_gi hi))] at h2
    by_cases hc : c < ys.length
    · have := rowsO_nil.1 h0 i c hi' hc
      unfold openB at this
      rw [decide_eq_true hc] at h2
      cases q1 : (fK C i).testBit c <;> cases q2 : (eK C i).testBit c <;> simp_all
    · rw [Nat.testBit_lt_two_pow (Nat.lt_of_lt_of_le (hTr _ (mem_gi hi)) (Nat.pow_le_pow_right (by omega) (by omega))), Nat.testBit_lt_two_pow (Nat.lt_of_lt_of_le (hm.1.lt i hi').1 (Nat.pow_le_pow_right (by omega) (by omega)))]
  have ho := solR_order (y := ys) (rest := xs) (P := [])
  change (sols xs ys).Pairwise _ at ho
  match hl : sols xs ys, hS, ho, hu with
  | [T], _, _, _ => rfl
  | T :: T' :: l, _, ho, hu =>
    have e1 := hu T (by simp)
    have e2 := hu T' (by simp)
    have := List.rel_of_pairwise_cons ho (show T' ∈ T' :: l by simp)
    rw [e1, e2, cmpL_refl] at this
    omega
/-- what is known is so in a solution -/
theorem sweep_bits {C : KS} (h : sweepK xs ys = some C) {S : List Nat} (hS : S ∈ sols xs ys) {i : Nat} (hi : i < xs.length) : gi S (i : Int) &&& fK C i = fK C i ∧ gi S (i : Int) &&& eK C i = 0 := by
  have hle := sweep_le x5 y5 h hS i
  have hSl := (mem_sols.1 hS).1
  have hi' : i < S.length := by omega
  have hlt := sol_rows hS _ (mem_gi hi')
  rw [(solK_f hi').1, (solK_f hi').2] at hle
  constructor
  · apply Nat.eq_of_testBit_eq
    intro c
    rw [Nat.testBit_and]
    have := hle.1 c
    cases q1 : (fK C i).testBit c <;> simp_all
  · apply Nat.eq_of_testBit_eq
    intro c
    rw [Nat.testBit_and, Nat.zero_testBit]
    have := hle.2 c
    rw [comp_bit hlt] at this
    cases q1 : (eK C i).testBit c <;> simp_all
end
end Go.Proofs.YtjjndoigkhabdaaDoor
namespace Go.Proofs.YtjjndoigkhabdaaDoor
open Go Go.AM Go.Proofs
theorem Walk.SquaresKnown (H : Heap) (cs : List AV) (z : List (List Int) × List (List Int)) (h : Rep.rep (fun b => b < H.length) H cs z) : WpF E H.length 15 [.ag cs] H fun v _ => v = .b true := by
  obtain ⟨u, w, rfl, hx, hy⟩ := rep_pp_elim h
  obtain ⟨x, y⟩ := z
  simp only at hx hy
  refine law_of (RetP.ro rfl fn15 rfl rfl ?_)
  unfold f15A
  have vu := hx.cellsV
  have vw := hy.cellsV
  have c0 : (H ++ [Blk.cells [u, w]])[H.length]? = some (.cells [u, w]) := by simp
  have hx0 := hx.app [Blk.cells [u, w]]
  have hy0 := hy.app [Blk.cells [u, w]]
  simp (disch := (first | assumption | omega | (simp only [List.length_append, List.length_cons, List.length_nil]; omega))) only [↓wD,wU,Nat.reduceBEq,zx150,zx151,zx159,zx160,zx161,zx162,Nat.reduceAdd,Nat.reduceSub,Nat.reduceMul,Nat.reduceLeDiff,Nat.reduceLT,Nat.reduceEqDiff,Int.reduceAdd,Int.reduceSub,Int.reduceMul,Int.reduceNeg,Int.reduceLT,Int.reduceLE,Int.reduceEq,Int.reduceToNat,Int.cast_ofNat_Int,↓reduceIte, vu, vw]
  generalize H ++ [Blk.cells [u, w]] = H0 at *
  refine (of_ret hx0 hy0).toX fun r1 H1 x1 hr1 => ?_
  obtain ⟨u1, w1, rfl, a1, b1⟩ := rv_pp_elim hr1
  simp only at a1 b1
  have c1 := x1.get trivial c0
  have hx1 := hx0.kp (x1.all _).kp
  have hy1 := hy0.kp (x1.all _).kp
  by_cases hP : PuzP x y
  · obtain ⟨ex, ey⟩ := cutT_ok hP
    rw [ex] at a1
    rw [ey] at b1
    have x5 : x.length ≤ 5 := by have := hP.1.2; omega
    have y5 : y.length ≤ 5 := by have := hP.2.1.2; omega
    have py := pow32 y5
    have hsh := b_shl1 (n := y.length) (by omega)
    simp (disch := (first | assumption | omega | (simp only [List.length_append, List.length_cons, List.length_nil]; omega))) only [↓wD,wU,Nat.reduceBEq,zx150,zx151,zx159,zx160,zx161,zx162,Nat.reduceAdd,Nat.reduceSub,Nat.reduceMul,Nat.reduceLeDiff,Nat.reduceLT,Nat.reduceEqDiff,Int.reduceAdd,Int.reduceSub,Int.reduceMul,Int.reduceNeg,Int.reduceLT,Int.reduceLE,Int.reduceEq,Int.reduceToNat,Int.cast_ofNat_Int,↓reduceIte]
    refine (deduce_ret a1 b1 hP).toX fun r2 H2 x2 hr2 => ?_
    obtain ⟨f, e, _, rfl, hf, he, rfl⟩ := rv3 hr2
    replace hf := rvs hf
    replace he := rvs he
    have c2 := x2.get trivial c1
    have hx2 := hx1.kp (x2.all _).kp
    have hy2 := hy1.kp (x2.all _).kp
    simp (disch := (first | assumption | omega | (simp only [List.length_append, List.length_cons, List.length_nil]; omega))) only [↓wD,wU,Nat.reduceBEq,zx150,zx151,zx159,zx160,zx161,zx162,Nat.reduceAdd,Nat.reduceSub,Nat.reduceMul,Nat.reduceLeDiff,Nat.reduceLT,Nat.reduceEqDiff,Int.reduceAdd,Int.reduceSub,Int.reduceMul,Int.reduceNeg,Int.reduceLT,Int.reduceLE,Int.reduceEq,Int.reduceToNat,Int.cast_ofNat_Int,↓reduceIte, ldn_of c2]
    refine (of_ret hx2 hy2).toX fun r3 H3 x3 hr3 => ?_
    obtain ⟨u3, w3, rfl, a3, b3⟩ := rv_pp_elim hr3
    simp only at a3 b3
    rw [ex] at a3
    rw [ey] at b3
    have c3 := x3.get trivial c2
    have hx3 := hx2.kp (x3.all _).kp
    have hy3 := hy2.kp (x3.all _).kp
    simp (disch := (first | assumption | omega | (simp only [List.length_append, List.length_cons, List.length_nil]; omega))) only [↓wD,wU,Nat.reduceBEq,zx150,zx151,zx159,zx160,zx161,zx162,Nat.reduceAdd,Nat.reduceSub,Nat.reduceMul,Nat.reduceLeDiff,Nat.reduceLT,Nat.reduceEqDiff,Int.reduceAdd,Int.reduceSub,Int.reduceMul,Int.reduceNeg,Int.reduceLT,Int.reduceLE,Int.reduceEq,Int.reduceToNat,Int.cast_ofNat_Int,↓reduceIte]
    refine (solve_ret a3 b3 hP).toX fun r4 H4 x4 hr4 => ?_
    obtain ⟨l, _, rfl, hl, rfl⟩ := rv2 hr4
    replace hl := rvs hl
    have c4 := x4.get trivial c3
    have hx4 := hx3.kp (x4.all _).kp
    have hy4 := hy3.kp (x4.all _).kp
    simp (disch := (first | assumption | omega | (simp only [List.length_append, List.length_cons, List.length_nil]; omega))) only [↓wD,wU,Nat.reduceBEq,zx150,zx151,zx159,zx160,zx161,zx162,Nat.reduceAdd,Nat.reduceSub,Nat.reduceMul,Nat.reduceLeDiff,Nat.reduceLT,Nat.reduceEqDiff,Int.reduceAdd,Int.reduceSub,Int.reduceMul,Int.reduceNeg,Int.reduceLT,Int.reduceLE,Int.reduceEq,Int.reduceToNat,Int.cast_ofNat_Int,↓reduceIte, ldn_of c4]
    refine (of_ret hx4 hy4).toX fun r5 H5 x5' hr5 => ?_
    obtain ⟨u5, w5, rfl, a5, b5⟩ := rv_pp_elim hr5
    simp only at a5 b5
    rw [ex] at a5
    rw [ey] at b5
    have c5 := x5'.get trivial c4
    have hx5 := hx4.kp (x5'.all _).kp
    have hy5 := hy4.kp (x5'.all _).kp
    have x25 : Kx (fun _ => True) H2 H5 := (x3.trans x4 fun _ _ _ => trivial).trans x5' fun _ _ _ => trivial
    have hf5 := hf.kp (x25.all _).kp
    have he5 := he.kp (x25.all _).kp
    have hl5 := hl.kp (x5'.all _).kp
    have ct := scount_ret a5 b5 hP
    have rv := rvalid_ret hx5 hy5
    rw [decide_eq_true hP] at rv
    have hlen := sols_len hP
    clear x1 x2 x3 x4 x5' hr1 hr2 hr3 hr4 hr5 a1 b1 a3 b3 a5 b5 c0 c1 c2 c3 c4 hx0 hy0 hx1 hy1 hx2 hy2 hx3 hy3 hx4 hy4 hf he hl x25
    cases hK : sweepK x y with
    | none =>
      have h0 := sweep_no x5 y5 hK
      have eE : solE x y = 4 := by unfold solE; rw [if_pos h0]
      have ec : (((sols x y).length : Nat) : Int) = 0 := by rw [h0]; rfl
      rw [ec] at ct
      rw [eE]
      have e1 : dedR none = 4 := rfl
      simp (disch := (first | assumption | omega | (simp only [List.length_append, List.length_cons, List.length_nil]; omega))) only [↓wD,wU,Nat.reduceBEq,zx150,zx151,zx159,zx160,zx161,zx162,Nat.reduceAdd,Nat.reduceSub,Nat.reduceMul,Nat.reduceLeDiff,Nat.reduceLT,Nat.reduceEqDiff,Int.reduceAdd,Int.reduceSub,Int.reduceMul,Int.reduceNeg,Int.reduceLT,Int.reduceLE,Int.reduceEq,Int.reduceToNat,Int.cast_ofNat_Int,↓reduceIte, ct.call, ldn_of c5, rv.call, e1, awake_ret.call]
    | some C =>
      rw [hK] at hf5 he5
      have e1 : dedR (some C) = 0 := rfl
      change Sl _ H5 f (nL (FK C)) at hf5
      change Sl _ H5 e (nL (EK C)) at he5
      obtain ⟨hm, hlc⟩ := sweepK_of hK
      have hw := hm.1
      have hlC := hw.len
      have Tf := hf5.I
      have Te := he5.I
      have Tl := hl5.I
      rw [nL_len, FK_len, hlC] at Tf
      rw [nL_len, EK_len, hlC] at Te
      have xL := hx5.L
      have yL := hy5.L
      have hd0 : decide (¬ solE x y = 0) = decide (sols x y = []) := by
        unfold solE
        split <;> simp_all
      -- the checks of the rows
      have okS : ∀ i, i < x.length → solE x y = 0 → (solF x y).length = x.length ∧ ∃ m : Nat, gi (solF x y) (i : Int) = (m : Int) ∧ m ≤ 31 ∧ m &&& fK C i = fK C i ∧ m &&& eK C i = 0 := by
        intro i hi h0
        have hne : sols x y ≠ [] := fun q => by unfold solE at h0; rw [if_pos q] at h0; cases h0
        obtain ⟨S, hS⟩ : ∃ S, S ∈ sols x y := List.exists_mem_of_ne_nil _ hne
        obtain ⟨F, hF, eF, -⟩ := first_le hS
        have hFl := (mem_sols.1 hF).1
        obtain ⟨q1, q2⟩ := sweep_bits x5 y5 hK hF hi
        refine ⟨by rw [eF, nL_len, hFl], gi F (i : Int), by rw [eF, nL_gi (by omega)], ?_, q1, q2⟩
        have := sol_rows hF _ (mem_gi (show i < F.length by omega))
        omega
      by_cases h0 : sols x y = []
      · have eE : solE x y = 4 := by unfold solE; rw [if_pos h0]
        have ec : (((sols x y).length : Nat) : Int) = 0 := by rw [h0]; rfl
        · rw [eE]
          have ct' := ct
          rw [ec] at ct'
          have hgt : decide ((0 : Int) < (((sols x y).length : Nat) : Int)) = false := decide_eq_false (by omega)
          simp (disch := (first | assumption | omega | (simp only [List.length_append, List.length_cons, List.length_nil]; omega))) only [↓wD,wU,Nat.reduceBEq,zx150,zx151,zx159,zx160,zx161,zx162,Nat.reduceAdd,Nat.reduceSub,Nat.reduceMul,Nat.reduceLeDiff,Nat.reduceLT,Nat.reduceEqDiff,Int.reduceAdd,Int.reduceSub,Int.reduceMul,Int.reduceNeg,Int.reduceLT,Int.reduceLE,Int.reduceEq,Int.reduceToNat,Int.cast_ofNat_Int,↓reduceIte, ct.call, ldn_of c5, rv.call, e1, hgt, Tf, Te, ld_of c5, xL]
          refine Wp.for x.length (fun i a H' => H' = H5 ∧ a 1 = .p H.length 0 ∧ a 3 = f ∧ a 4 = e ∧ a 6 = l ∧ a 7 = .i 4 ∧ a 8 = .i (sols x y).length ∧ a 10 = .b (allK C y.length i) ∧ a 94 = .i x.length ∧ a 95 = .i i) ?_ ?_
          · rintro i a H7 hi ⟨rfl, a1, a3, a4, a6, a7, a8, a10, a94, a95⟩ ih2
            simp (disch := (first | assumption | omega | (simp only [List.length_append, List.length_cons, List.length_nil]; omega))) only [↓wD,wU,Nat.reduceBEq,zx150,zx151,zx159,zx160,zx161,zx162,Nat.reduceAdd,Nat.reduceSub,Nat.reduceMul,Nat.reduceLeDiff,Nat.reduceLT,Nat.reduceEqDiff,Int.reduceAdd,Int.reduceSub,Int.reduceMul,Int.reduceNeg,Int.reduceLT,Int.reduceLE,Int.reduceEq,Int.reduceToNat,Int.cast_ofNat_Int,↓reduceIte, a1, a3, a4, a6, a7, a8, a10, a94, a95]
            refine condP_split (fun hlt => ?_) (fun hlt => ?_)
            · have hi' : i < x.length := by omega
              have e1 : gi (nL (FK C)) (i : Int) = (fK C i : Int) := by rw [nL_gi (by rw [FK_len]; omega), FK_gi]
              have e2 : gi (nL (EK C)) (i : Int) = (eK C i : Int) := by rw [nL_gi (by rw [EK_len]; omega), EK_gi]
              have hwi := hw.lt i hi'
              have o1 : binA .and (.i (fK C i : Nat)) (.i (eK C i : Nat)) = some (.i 0) := by
                have := b_and (a := fK C i) (b := eK C i) (by omega) (by omega)
                rw [sweep_apart y5 hK hi'] at this
                exact this
              have o2 := b_or (a := fK C i) (b := eK C i) (by omega) (by omega)
              have hd : decide (((fK C i ||| eK C i : Nat) : Int) = ((2 ^ y.length : Nat) : Int) - 1) = decide (fK C i ||| eK C i = 2 ^ y.length - 1) := decide_eq_decide.2 (by
                have : 1 ≤ 2 ^ y.length := Nat.one_le_two_pow
                omega)
              have eas := allK_s (C := C) (w := y.length) (i := i)
              cases ha : allK C y.length i
              · rw [ha] at a10 eas
                simp (disch := (first | assumption | omega | (simp only [List.length_append, List.length_cons, List.length_nil]; omega))) only [↓wD,wU,Nat.reduceBEq,zx150,zx151,zx159,zx160,zx161,zx162,Nat.reduceAdd,Nat.reduceSub,Nat.reduceMul,Nat.reduceLeDiff,Nat.reduceLT,Nat.reduceEqDiff,Int.reduceAdd,Int.reduceSub,Int.reduceMul,Int.reduceNeg,Int.reduceLT,Int.reduceLE,Int.reduceEq,Int.reduceToNat,Int.cast_ofNat_Int,↓reduceIte, a1, a3, a4, a6, a7, a8, a10, a94, a95, Tf, Te, e1, e2, o1]
                refine (ih2 hi').go ?_
                simp (disch := (first | assumption | omega | (simp only [List.length_append, List.length_cons, List.length_nil]; omega))) only [↓wD,wU,Nat.reduceBEq,zx150,zx151,zx159,zx160,zx161,zx162,Nat.reduceAdd,Nat.reduceSub,Nat.reduceMul,Nat.reduceLeDiff,Nat.reduceLT,Nat.reduceEqDiff,Int.reduceAdd,Int.reduceSub,Int.reduceMul,Int.reduceNeg,Int.reduceLT,Int.reduceLE,Int.reduceEq,Int.reduceToNat,Int.cast_ofNat_Int,↓reduceIte, a1, a3, a4, a6, a7, a8, a10, a94, a95]
                rw [eas, Bool.false_and]
              · rw [ha] at a10 eas
                rw [Bool.true_and] at eas
                simp (disch := (first | assumption | omega | (simp only [List.length_append, List.length_cons, List.length_nil]; omega))) only [↓wD,wU,Nat.reduceBEq,zx150,zx151,zx159,zx160,zx161,zx162,Nat.reduceAdd,Nat.reduceSub,Nat.reduceMul,Nat.reduceLeDiff,Nat.reduceLT,Nat.reduceEqDiff,Int.reduceAdd,Int.reduceSub,Int.reduceMul,Int.reduceNeg,Int.reduceLT,Int.reduceLE,Int.reduceEq,Int.reduceToNat,Int.cast_ofNat_Int,↓reduceIte, a1, a3, a4, a6, a7, a8, a10, a94, a95, Tf, Te, e1, e2, o1, o2, hsh, ld_of c5, yL, hd]
                refine (ih2 hi').go ?_
                simp (disch := (first | assumption | omega | (simp only [List.length_append, List.length_cons, List.length_nil]; omega))) only [↓wD,wU,Nat.reduceBEq,zx150,zx151,zx159,zx160,zx161,zx162,Nat.reduceAdd,Nat.reduceSub,Nat.reduceMul,Nat.reduceLeDiff,Nat.reduceLT,Nat.reduceEqDiff,Int.reduceAdd,Int.reduceSub,Int.reduceMul,Int.reduceNeg,Int.reduceLT,Int.reduceLE,Int.reduceEq,Int.reduceToNat,Int.cast_ofNat_Int,↓reduceIte, a1, a3, a4, a6, a7, a8, a10, a94, a95]
                rw [eas]
            · obtain rfl : i = x.length := by omega
              rw [allK_open hw] at a10
              simp (disch := (first | assumption | omega | (simp only [List.length_append, List.length_cons, List.length_nil]; omega))) only [↓wD,wU,Nat.reduceBEq,zx150,zx151,zx159,zx160,zx161,zx162,Nat.reduceAdd,Nat.reduceSub,Nat.reduceMul,Nat.reduceLeDiff,Nat.reduceLT,Nat.reduceEqDiff,Int.reduceAdd,Int.reduceSub,Int.reduceMul,Int.reduceNeg,Int.reduceLT,Int.reduceLE,Int.reduceEq,Int.reduceToNat,Int.cast_ofNat_Int,↓reduceIte, a1, a3, a4, a6, a7, a8, a10, a94, a95, ldn_of c5]
              refine (of_ret hx5 hy5).toX fun r6 H6 x6 hr6 => ?_
              obtain ⟨u6, w6, rfl, a6', b6'⟩ := rv_pp_elim hr6
              simp only at a6' b6'
              rw [ex] at a6'
              rw [ey] at b6'
              have hn1 : ¬ (sols x y).length = 1 := by rw [h0]; simp
              have hop : ¬ rowsO C x.length y.length 0 = [] := fun q => hn1 (sweep_one x5 y5 hK q)
              rw [decide_eq_false hop] at a10
              rw [ec] at a8
              simp (disch := (first | assumption | omega | (simp only [List.length_append, List.length_cons, List.length_nil]; omega))) only [↓wD,wU,Nat.reduceBEq,zx150,zx151,zx159,zx160,zx161,zx162,Nat.reduceAdd,Nat.reduceSub,Nat.reduceMul,Nat.reduceLeDiff,Nat.reduceLT,Nat.reduceEqDiff,Int.reduceAdd,Int.reduceSub,Int.reduceMul,Int.reduceNeg,Int.reduceLT,Int.reduceLE,Int.reduceEq,Int.reduceToNat,Int.cast_ofNat_Int,↓reduceIte, a1, a3, a4, a6, a7, a8, a10, a94, a95, (try_no a6' b6' hP hn1).call, awake_ret.call]
          · simp (disch := (first | assumption | omega | (simp only [List.length_append, List.length_cons, List.length_nil]; omega))) only [↓wD,wU,Nat.reduceBEq,zx150,zx151,zx159,zx160,zx161,zx162,Nat.reduceAdd,Nat.reduceSub,Nat.reduceMul,Nat.reduceLeDiff,Nat.reduceLT,Nat.reduceEqDiff,Int.reduceAdd,Int.reduceSub,Int.reduceMul,Int.reduceNeg,Int.reduceLT,Int.reduceLE,Int.reduceEq,Int.reduceToNat,Int.cast_ofNat_Int,↓reduceIte]
            rfl
      · have eE : solE x y = 0 := by unfold solE; rw [if_neg h0]
        have hpos := List.length_pos_iff.2 h0
        · rw [eE]
          have hgt : decide ((0 : Int) < (((sols x y).length : Nat) : Int)) = true := decide_eq_true (by omega)
          simp (disch := (first | assumption | omega | (simp only [List.length_append, List.length_cons, List.length_nil]; omega))) only [↓wD,wU,Nat.reduceBEq,zx150,zx151,zx159,zx160,zx161,zx162,Nat.reduceAdd,Nat.reduceSub,Nat.reduceMul,Nat.reduceLeDiff,Nat.reduceLT,Nat.reduceEqDiff,Int.reduceAdd,Int.reduceSub,Int.reduceMul,Int.reduceNeg,Int.reduceLT,Int.reduceLE,Int.reduceEq,Int.reduceToNat,Int.cast_ofNat_Int,↓reduceIte, ct.call, ldn_of c5, rv.call, e1, hgt, Tf, Te, ld_of c5, xL]
          refine Wp.for x.length (fun i a H' => H' = H5 ∧ a 1 = .p H.length 0 ∧ a 3 = f ∧ a 4 = e ∧ a 6 = l ∧ a 7 = .i 0 ∧ a 8 = .i (sols x y).length ∧ a 10 = .b (allK C y.length i) ∧ a 94 = .i x.length ∧ a 95 = .i i) ?_ ?_
          · rintro i a H7 hi ⟨rfl, a1, a3, a4, a6, a7, a8, a10, a94, a95⟩ ih2
            simp (disch := (first | assumption | omega | (simp only [List.length_append, List.length_cons, List.length_nil]; omega))) only [↓wD,wU,Nat.reduceBEq,zx150,zx151,zx159,zx160,zx161,zx162,Nat.reduceAdd,Nat.reduceSub,Nat.reduceMul,Nat.reduceLeDiff,Nat.reduceLT,Nat.reduceEqDiff,Int.reduceAdd,Int.reduceSub,Int.reduceMul,Int.reduceNeg,Int.reduceLT,Int.reduceLE,Int.reduceEq,Int.reduceToNat,Int.cast_ofNat_Int,↓reduceIte, a1, a3, a4, a6, a7, a8, a10, a94, a95]
            refine condP_split (fun hlt => ?_) (fun hlt => ?_)
            · have hi' : i < x.length := by omega
              have e1 : gi (nL (FK C)) (i : Int) = (fK C i : Int) := by rw [nL_gi (by rw [FK_len]; omega), FK_gi]
              have e2 : gi (nL (EK C)) (i : Int) = (eK C i : Int) := by rw [nL_gi (by rw [EK_len]; omega), EK_gi]
              have hwi := hw.lt i hi'
              have o1 : binA .and (.i (fK C i : Nat)) (.i (eK C i : Nat)) = some (.i 0) := by
                have := b_and (a := fK C i) (b := eK C i) (by omega) (by omega)
                rw [sweep_apart y5 hK hi'] at this
                exact this
              have o2 := b_or (a := fK C i) (b := eK C i) (by omega) (by omega)
              obtain ⟨hFl, m, e3, m31, q1, q2⟩ := okS i hi' eE
              have o3 := b_and (a := m) (b := fK C i) (by omega) (by omega)
              rw [q1] at o3
              have o4 : binA .and (.i (m : Int)) (.i (eK C i : Nat)) = some (.i 0) := by
                have := b_and (a := m) (b := eK C i) (by omega) (by omega)
                rw [q2] at this
                exact this
              have hd : decide (((fK C i ||| eK C i : Nat) : Int) = ((2 ^ y.length : Nat) : Int) - 1) = decide (fK C i ||| eK C i = 2 ^ y.length - 1) := decide_eq_decide.2 (by
                have : 1 ≤ 2 ^ y.length := Nat.one_le_two_pow
                omega)
              have eas := allK_s (C := C) (w := y.length) (i := i)
              cases ha : allK C y.length i
              · rw [ha] at a10 eas
                simp (disch := (first | assumption | omega | (simp only [List.length_append, List.length_cons, List.length_nil]; omega))) only [↓wD,wU,Nat.reduceBEq,zx150,zx151,zx159,zx160,zx161,zx162,Nat.reduceAdd,Nat.reduceSub,Nat.reduceMul,Nat.reduceLeDiff,Nat.reduceLT,Nat.reduceEqDiff,Int.reduceAdd,Int.reduceSub,Int.reduceMul,Int.reduceNeg,Int.reduceLT,Int.reduceLE,Int.reduceEq,Int.reduceToNat,Int.cast_ofNat_Int,↓reduceIte, a1, a3, a4, a6, a7, a8, a10, a94, a95, Tf, Te, e1, e2, o1, Tl, e3, o3, o4]
                refine (ih2 hi').go ?_
                simp (disch := (first | assumption | omega | (simp only [List.length_append, List.length_cons, List.length_nil]; omega))) only [↓wD,wU,Nat.reduceBEq,zx150,zx151,zx159,zx160,zx161,zx162,Nat.reduceAdd,Nat.reduceSub,Nat.reduceMul,Nat.reduceLeDiff,Nat.reduceLT,Nat.reduceEqDiff,Int.reduceAdd,Int.reduceSub,Int.reduceMul,Int.reduceNeg,Int.reduceLT,Int.reduceLE,Int.reduceEq,Int.reduceToNat,Int.cast_ofNat_Int,↓reduceIte, a1, a3, a4, a6, a7, a8, a10, a94, a95]
                rw [eas, Bool.false_and]
              · rw [ha] at a10 eas
                rw [Bool.true_and] at eas
                simp (disch := (first | assumption | omega | (simp only [List.length_append, List.length_cons, List.length_nil]; omega))) only [↓wD,wU,Nat.reduceBEq,zx150,zx151,zx159,zx160,zx161,zx162,Nat.reduceAdd,Nat.reduceSub,Nat.reduceMul,Nat.reduceLeDiff,Nat.reduceLT,Nat.reduceEqDiff,Int.reduceAdd,Int.reduceSub,Int.reduceMul,Int.reduceNeg,Int.reduceLT,Int.reduceLE,Int.reduceEq,Int.reduceToNat,Int.cast_ofNat_Int,↓reduceIte, a1, a3, a4, a6, a7, a8, a10, a94, a95, Tf, Te, e1, e2, o1, o2, hsh, ld_of c5, yL, hd, Tl, e3, o3, o4]
                refine (ih2 hi').go ?_
                simp (disch := (first | assumption | omega | (simp only [List.length_append, List.length_cons, List.length_nil]; omega))) only [↓wD,wU,Nat.reduceBEq,zx150,zx151,zx159,zx160,zx161,zx162,Nat.reduceAdd,Nat.reduceSub,Nat.reduceMul,Nat.reduceLeDiff,Nat.reduceLT,Nat.reduceEqDiff,Int.reduceAdd,Int.reduceSub,Int.reduceMul,Int.reduceNeg,Int.reduceLT,Int.reduceLE,Int.reduceEq,Int.reduceToNat,Int.cast_ofNat_Int,↓reduceIte, a1, a3, a4, a6, a7, a8, a10, a94, a95]
                rw [eas]
            · obtain rfl : i = x.length := by omega
              rw [allK_open hw] at a10
              simp (disch := (first | assumption | omega | (simp only [List.length_append, List.length_cons, List.length_nil]; omega))) only [↓wD,wU,Nat.reduceBEq,zx150,zx151,zx159,zx160,zx161,zx162,Nat.reduceAdd,Nat.reduceSub,Nat.reduceMul,Nat.reduceLeDiff,Nat.reduceLT,Nat.reduceEqDiff,Int.reduceAdd,Int.reduceSub,Int.reduceMul,Int.reduceNeg,Int.reduceLT,Int.reduceLE,Int.reduceEq,Int.reduceToNat,Int.cast_ofNat_Int,↓reduceIte, a1, a3, a4, a6, a7, a8, a10, a94, a95, ldn_of c5]
              refine (of_ret hx5 hy5).toX fun r6 H6 x6 hr6 => ?_
              obtain ⟨u6, w6, rfl, a6', b6'⟩ := rv_pp_elim hr6
              simp only at a6' b6'
              rw [ex] at a6'
              rw [ey] at b6'
              by_cases hn1 : (sols x y).length = 1
              · rw [hn1] at a8
                simp (disch := (first | assumption | omega | (simp only [List.length_append, List.length_cons, List.length_nil]; omega))) only [↓wD,wU,Nat.reduceBEq,zx150,zx151,zx159,zx160,zx161,zx162,Nat.reduceAdd,Nat.reduceSub,Nat.reduceMul,Nat.reduceLeDiff,Nat.reduceLT,Nat.reduceEqDiff,Int.reduceAdd,Int.reduceSub,Int.reduceMul,Int.reduceNeg,Int.reduceLT,Int.reduceLE,Int.reduceEq,Int.reduceToNat,Int.cast_ofNat_Int,↓reduceIte, a1, a3, a4, a6, a7, a8, a10, a94, a95]
                refine (try_ret a6' b6' hP hn1).use fun v hv => ?_
                obtain ⟨d, hd, h321, rfl⟩ := hv
                have hdd : decide ((d : Int) = 0) = decide (rowsO C x.length y.length 0 = []) := decide_eq_decide.2 (by
                  rw [← ded_done hK]
                  constructor
                  · intro q
                    have : d = 0 := by omega
                    exact this ▸ hd.1
                  · intro q
                    have : d = 0 := Nat.eq_zero_of_not_pos fun hp => hd.2 0 hp q
                    omega)
                generalize decide (rowsO C x.length y.length 0 = []) = B at *
                cases B
                · simp (disch := (first | assumption | omega | (simp only [List.length_append, List.length_cons, List.length_nil]; omega))) only [↓wD,wU,Nat.reduceBEq,zx150,zx151,zx159,zx160,zx161,zx162,Nat.reduceAdd,Nat.reduceSub,Nat.reduceMul,Nat.reduceLeDiff,Nat.reduceLT,Nat.reduceEqDiff,Int.reduceAdd,Int.reduceSub,Int.reduceMul,Int.reduceNeg,Int.reduceLT,Int.reduceLE,Int.reduceEq,Int.reduceToNat,Int.cast_ofNat_Int,↓reduceIte, a1, a3, a4, a6, a7, a8, a10, a94, a95, hdd, awake_ret.call]
                · simp (disch := (first | assumption | omega | (simp only [List.length_append, List.length_cons, List.length_nil]; omega))) only [↓wD,wU,Nat.reduceBEq,zx150,zx151,zx159,zx160,zx161,zx162,Nat.reduceAdd,Nat.reduceSub,Nat.reduceMul,Nat.reduceLeDiff,Nat.reduceLT,Nat.reduceEqDiff,Int.reduceAdd,Int.reduceSub,Int.reduceMul,Int.reduceNeg,Int.reduceLT,Int.reduceLE,Int.reduceEq,Int.reduceToNat,Int.cast_ofNat_Int,↓reduceIte, a1, a3, a4, a6, a7, a8, a10, a94, a95, hdd, awake_ret.call]
              · have hop : ¬ rowsO C x.length y.length 0 = [] := fun q => hn1 (sweep_one x5 y5 hK q)
                have hn2 : decide (((sols x y).length : Int) = 1) = false := decide_eq_false (by omega)
                rw [decide_eq_false hop] at a10
                simp (disch := (first | assumption | omega | (simp only [List.length_append, List.length_cons, List.length_nil]; omega))) only [↓wD,wU,Nat.reduceBEq,zx150,zx151,zx159,zx160,zx161,zx162,Nat.reduceAdd,Nat.reduceSub,Nat.reduceMul,Nat.reduceLeDiff,Nat.reduceLT,Nat.reduceEqDiff,Int.reduceAdd,Int.reduceSub,Int.reduceMul,Int.reduceNeg,Int.reduceLT,Int.reduceLE,Int.reduceEq,Int.reduceToNat,Int.cast_ofNat_Int,↓reduceIte, a1, a3, a4, a6, a7, a8, a10, a94, a95, (try_no a6' b6' hP hn1).call, hn2, awake_ret.call]
          · simp (disch := (first | assumption | omega | (simp only [List.length_append, List.length_cons, List.length_nil]; omega))) only [↓wD,wU,Nat.reduceBEq,zx150,zx151,zx159,zx160,zx161,zx162,Nat.reduceAdd,Nat.reduceSub,Nat.reduceMul,Nat.reduceLeDiff,Nat.reduceLT,Nat.reduceEqDiff,Int.reduceAdd,Int.reduceSub,Int.reduceMul,Int.reduceNeg,Int.reduceLT,Int.reduceLE,Int.reduceEq,Int.reduceToNat,Int.cast_ofNat_Int,↓reduceIte]
            rfl
  · have hP' : ¬ PuzP (cutT x) (cutT y) := fun q => hP (PuzP_cut.1 q)
    simp (disch := (first | assumption | omega | (simp only [List.length_append, List.length_cons, List.length_nil]; omega))) only [↓wD,wU,Nat.reduceBEq,zx150,zx151,zx159,zx160,zx161,zx162,Nat.reduceAdd,Nat.reduceSub,Nat.reduceMul,Nat.reduceLeDiff,Nat.reduceLT,Nat.reduceEqDiff,Int.reduceAdd,Int.reduceSub,Int.reduceMul,Int.reduceNeg,Int.reduceLT,Int.reduceLE,Int.reduceEq,Int.reduceToNat,Int.cast_ofNat_Int,↓reduceIte, (deduce_err a1 b1 hP').call, ldn_of c1]
    refine (of_ret hx1 hy1).toX fun r3 H3 x3 hr3 => ?_
    obtain ⟨u3, w3, rfl, a3, b3⟩ := rv_pp_elim hr3
    simp only at a3 b3
    have c3 := x3.get trivial c1
    simp (disch := (first | assumption | omega | (simp only [List.length_append, List.length_cons, List.length_nil]; omega))) only [↓wD,wU,Nat.reduceBEq,zx150,zx151,zx159,zx160,zx161,zx162,Nat.reduceAdd,Nat.reduceSub,Nat.reduceMul,Nat.reduceLeDiff,Nat.reduceLT,Nat.reduceEqDiff,Int.reduceAdd,Int.reduceSub,Int.reduceMul,Int.reduceNeg,Int.reduceLT,Int.reduceLE,Int.reduceEq,Int.reduceToNat,Int.cast_ofNat_Int,↓reduceIte, (solve_err a3 b3 hP').call, ldn_of c3]
    refine (of_ret (hx1.kp (x3.all _).kp) (hy1.kp (x3.all _).kp)).toX fun r5 H5 x5 hr5 => ?_
    obtain ⟨u5, w5, rfl, a5, b5⟩ := rv_pp_elim hr5
    simp only at a5 b5
    simp (disch := (first | assumption | omega | (simp only [List.length_append, List.length_cons, List.length_nil]; omega))) only [↓wD,wU,Nat.reduceBEq,zx150,zx151,zx159,zx160,zx161,zx162,Nat.reduceAdd,Nat.reduceSub,Nat.reduceMul,Nat.reduceLeDiff,Nat.reduceLT,Nat.reduceEqDiff,Int.reduceAdd,Int.reduceSub,Int.reduceMul,Int.reduceNeg,Int.reduceLT,Int.reduceLE,Int.reduceEq,Int.reduceToNat,Int.cast_ofNat_Int,↓reduceIte, (scount_err a5 b5 hP').call, awake_ret.call]
end Go.Proofs.YtjjndoigkhabdaaDoor
