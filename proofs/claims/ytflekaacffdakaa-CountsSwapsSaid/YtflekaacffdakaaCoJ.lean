/- Counts: a swap. No condition. -/
import Derived.Test.YtflekaacffdakaaCoI
set_option linter.unusedSimpArgs false
set_option linter.unusedVariables false
namespace Go.Proofs.Ytflekaacffdakaa
open Go Go.AM Go.Proofs
def swapS (t : List (List Int)) (i j k l : Int) : List (List Int) :=
  setE (setE (setE (setE t i k (getE t i k + 1)) j l (getE t j l + 1)) i l (getE t i l - 1)) j k (getE t j k - 1)
theorem TabOk.dims {t : List (List Int)} (h : TabOk t) : Dims t t.length (gi t 0).length :=
  ⟨rfl, fun i h0 h1 => by obtain ⟨n, rfl⟩ := nat_of h0; exact h.width (by omega)⟩
theorem TabOk.getE {t : List (List Int)} (h : TabOk t) {i k : Int} (h0 : 0 ≤ i) (h1 : i < t.length) (h2 : 0 ≤ k) (h3 : k < (gi t 0).length) : 0 ≤ getE t i k ∧ getE t i k ≤ 16 := by
  obtain ⟨n, rfl⟩ := nat_of h0
  obtain ⟨m, rfl⟩ := nat_of h2
  exact h.entry (by omega) (by omega)
/-- the four stores of a swap -/
theorem swap_loads {t : List (List Int)} {i j k l : Int} (h : TabOk t) (hp : PlaceOk t i j k l) :
    getE (setE t i k (getE t i k + 1)) j l = getE t j l ∧ getE (setE (setE t i k (getE t i k + 1)) j l (getE t j l + 1)) i l = getE t i l ∧
    getE (setE (setE (setE t i k (getE t i k + 1)) j l (getE t j l + 1)) i l (getE t i l - 1)) j k = getE t j k := by
  obtain ⟨a1, a2, a3, a4, a5, a6, a7, a8, a9, a10⟩ := hp
  have d0 := h.dims
  have d1 := d0.setE (i := i) (k := k) (x := getE t i k + 1) a1 a2
  have d2 := d1.setE (i := j) (k := l) (x := getE t j l + 1) a3 a4
  refine ⟨?_, ?_, ?_⟩
  · rw [getE_setE d0 a1 a2 a6 a7 a3 a8, if_neg (fun h => a5 h.1)]
  · rw [getE_setE d1 a3 a4 a8 a9 a1 a8, if_neg (fun h => a5 h.1.symm), getE_setE d0 a1 a2 a6 a7 a1 a8, if_neg (fun h => a10 h.2)]
  · rw [getE_setE d2 a1 a2 a8 a9 a3 a6, if_neg (fun h => a5 h.1), getE_setE d1 a3 a4 a8 a9 a3 a6, if_neg (fun h => a10 h.2.symm), getE_setE d0 a1 a2 a6 a7 a3 a6, if_neg (fun h => a5 h.1)]
theorem swapped_no {p : Nat → Prop} {H : Heap} {v : AV} {t : List (List Int)} {i j k l : Int} (ht : Sl p H v t) (h : TabOk t) (hp : PlaceOk t i j k l) (hz : getE t i l = 0 ∨ getE t j k = 0) :
    RetP E 74 [v, .i i, .i j, .i k, .i l] H (.tp [.nils, .b false]) := by
  refine RetP.ro rfl fn74 rfl rfl ?_
  unfold f74A
  have d0 := h.dims
  obtain ⟨a1, a2, a3, a4, a5, a6, a7, a8, a9, a10⟩ := hp
  have gA := ht.get (k := i) a1 a2
  have gB := ht.get (k := j) a3 a4
  have wA := d0.2 i a1 a2
  have wB := d0.2 j a3 a4
  unfold getE at hz
  (repeat' (first | refine condP_split (fun _ => ?_) (fun _ => ?_) | refine guardP_split (fun _ => ?_) (fun _ => ?_) | refine guardP_splitF (fun _ => ?_) (fun _ => ?_) | (simp (disch := (first | omega | (simp only [List.length_append, List.length_cons, List.length_nil]; omega))) only [↓zx0,↓zx1,↓zx2,↓zx3,↓zx4,↓zx5,↓zx6,↓zx7,↓zx8,↓zx9,↓zx10,↓zx11,↓zx12,↓zx13,↓zx14,↓zx15,↓zx16,↓zx17,↓zx18,↓zx19,↓zx20,↓zx21,↓zx22,↓zx23,↓zx24,↓zx25,↓zx26,↓zx27,↓zx28,↓zx29,zx184,zx185,↓zx30,↓zx31,zx179,zx180,zx181,zx182,zx183,↓zx32,↓zx33,↓zx34,↓zx35,zx176,zx177,↓zx36,↓zx37,↓zx38,↓zx39,↓zx40,zx178,↓zx41,↓zx42,↓zx43,↓zx44,↓zx45,↓zx46,zx47,zx48,zx49,zx173,zx174,zx175,↓zx50,↓zx51,↓zx52,↓zx53,↓zx54,↓zx55,↓zx56,↓zx57,↓zx58,zx59,zx60,zx61,zx62,zx63,zx64,zx65,zx66,zx67,↓zx68,↓zx69,↓zx70,zx71,zx72,Nat.reduceBEq,yx0,↓zx73,↓zx74,↓zx75,↓zx76,↓zx77,↓zx78,↓zx79,↓zx80,zx81,zx82,zx83,zx84,zx85,zx86,zx87,zx88,zx89,zx90,zx91,zx92,yx1,yx2,zx93,zx94,zx95,zx96,zx97,zx98,zx99,zx100,zx101,zx102,zx103,↓zx104,↓zx105,zx106,zx107,zx108,zx109,zx110,zx111,zx112,yx3,zx113,zx114,zx115,zx116,zx117,zx118,zx119,zx120,zx121,zx122,zx123,zx124,zx125,zx126,zx127,zx128,zx129,zx130,zx131,zx132,zx133,zx134,zx135,zx136,zx137,zx138,zx139,zx140,zx141,zx142,zx143,zx144,zx145,zx146,zx147,zx148,zx149,zx150,zx151,zx152,zx153,zx154,zx155,zx156,zx157,zx158,zx159,zx160,zx161,zx162,yx4,yx5,yx6,yx7,yx8,yx9,yx10,yx11,yx12,yx13,yx14,yx15,yx16,yx17,yx18,yx19,yx20,yx21,yx22,yx23,yx24,yx25,yx26,yx27,yx28,yx29,yx30,yx31,yx32,yx33,yx34,Nat.reduceAdd,Nat.reduceSub,Nat.reduceMul,Nat.reduceLeDiff,Nat.reduceLT,Nat.reduceEqDiff,Int.reduceAdd,Int.reduceSub,Int.reduceMul,Int.reduceNeg,Int.reduceLT,Int.reduceLE,Int.reduceEq,Int.reduceToNat,yx35,yx36,yx37,yx38,yx39,yx40,yx41,↓zx163,↓zx164,↓zx165,↓zx166,↓zx167,zx168,zx169,yx42,yx43,Int.cast_ofNat_Int,yx45,yx46,yx47,yx48,yx49,yx50,yx51,yx52,yx53,yx54,yx55,yx56,yx57,zx170,zx171,yx58,yx59,↓reduceIte,zx172,yx60, *, ht.L, gA.I, gB.I]))) <;> omega
theorem swapped_ret {p : Nat → Prop} {H : Heap} {v : AV} {t : List (List Int)} {i j k l : Int} (ht : Sl p H v t) (h : TabOk t) (hp : PlaceOk t i j k l) (hz : ¬ (getE t i l = 0 ∨ getE t j k = 0)) :
    Ret E 74 [v, .i i, .i j, .i k, .i l] (fun _ => False) H (T2.mk (OT.mk (swapS t i j k l)) true) := by
  refine Ret.ro rfl fn74 rfl ?_
  unfold f74A
  have d0 := h.dims
  obtain ⟨l1, l2, l3⟩ := swap_loads h hp
  have hp' := hp
  obtain ⟨a1, a2, a3, a4, a5, a6, a7, a8, a9, a10⟩ := hp
  have gA := ht.get (k := i) a1 a2
  have gB := ht.get (k := j) a3 a4
  have wA := d0.2 i a1 a2
  have wB := d0.2 j a3 a4
  have b1 := h.getE a1 a2 a6 a7
  have b2 := h.getE a3 a4 a8 a9
  have b3 := h.getE a1 a2 a8 a9
  have b4 := h.getE a3 a4 a6 a7
  have hl3 := h.2.1
  have z1 : ¬ gi (gi t i) l = 0 := fun e => hz (.inl e)
  have z2 : ¬ gi (gi t j) k = 0 := fun e => hz (.inr e)
  simp (disch := (first | omega | (simp only [List.length_append, List.length_cons, List.length_nil]; omega))) only [↓zx0,↓zx1,↓zx2,↓zx3,↓zx4,↓zx5,↓zx6,↓zx7,↓zx8,↓zx9,↓zx10,↓zx11,↓zx12,↓zx13,↓zx14,↓zx15,↓zx16,↓zx17,↓zx18,↓zx19,↓zx20,↓zx21,↓zx22,↓zx23,↓zx24,↓zx25,↓zx26,↓zx27,↓zx28,↓zx29,zx184,zx185,↓zx30,↓zx31,zx179,zx180,zx181,zx182,zx183,↓zx32,↓zx33,↓zx34,↓zx35,zx176,zx177,↓zx36,↓zx37,↓zx38,↓zx39,↓zx40,zx178,↓zx41,↓zx42,↓zx43,↓zx44,↓zx45,↓zx46,zx47,zx48,zx49,zx173,zx174,zx175,↓zx50,↓zx51,↓zx52,↓zx53,↓zx54,↓zx55,↓zx56,↓zx57,↓zx58,zx59,zx60,zx61,zx62,zx63,zx64,zx65,zx66,zx67,↓zx68,↓zx69,↓zx70,zx71,zx72,Nat.reduceBEq,yx0,↓zx73,↓zx74,↓zx75,↓zx76,↓zx77,↓zx78,↓zx79,↓zx80,zx81,zx82,zx83,zx84,zx85,zx86,zx87,zx88,zx89,zx90,zx91,zx92,yx1,yx2,zx93,zx94,zx95,zx96,zx97,zx98,zx99,zx100,zx101,zx102,zx103,↓zx104,↓zx105,zx106,zx107,zx108,zx109,zx110,zx111,zx112,yx3,zx113,zx114,zx115,zx116,zx117,zx118,zx119,zx120,zx121,zx122,zx123,zx124,zx125,zx126,zx127,zx128,zx129,zx130,zx131,zx132,zx133,zx134,zx135,zx136,zx137,zx138,zx139,zx140,zx141,zx142,zx143,zx144,zx145,zx146,zx147,zx148,zx149,zx150,zx151,zx152,zx153,zx154,zx155,zx156,zx157,zx158,zx159,zx160,zx161,zx162,yx4,yx5,yx6,yx7,yx8,yx9,yx10,yx11,yx12,yx13,yx14,yx15,yx16,yx17,yx18,yx19,yx20,yx21,yx22,yx23,yx24,yx25,yx26,yx27,yx28,yx29,yx30,yx31,yx32,yx33,yx34,Nat.reduceAdd,Nat.reduceSub,Nat.reduceMul,Nat.reduceLeDiff,Nat.reduceLT,Nat.reduceEqDiff,Int.reduceAdd,Int.reduceSub,Int.reduceMul,Int.reduceNeg,Int.reduceLT,Int.reduceLE,Int.reduceEq,Int.reduceToNat,yx35,yx36,yx37,yx38,yx39,yx40,yx41,↓zx163,↓zx164,↓zx165,↓zx166,↓zx167,zx168,zx169,yx42,yx43,Int.cast_ofNat_Int,yx45,yx46,yx47,yx48,yx49,yx50,yx51,yx52,yx53,yx54,yx55,yx56,yx57,zx170,zx171,yx58,yx59,↓reduceIte,zx172,yx60, *, ht.L, gA.I, gB.I]
  refine (tclone_ret ht h.ne (by omega)).to fun u H1 hg1 hu => ?_
  have m0 : MT H.length H1 u t := MT.of hu fun b hb => hb.elim (fun h => h.elim) id
  have hl1 := hg1.1
  clear hu
  have r0 := m0.sl.get (k := i) a1 a2
  have e0 : gi (gi t i) k = getE t i k := rfl
  simp (disch := (first | omega | (simp only [List.length_append, List.length_cons, List.length_nil]; omega))) only [↓zx0,↓zx1,↓zx2,↓zx3,↓zx4,↓zx5,↓zx6,↓zx7,↓zx8,↓zx9,↓zx10,↓zx11,↓zx12,↓zx13,↓zx14,↓zx15,↓zx16,↓zx17,↓zx18,↓zx19,↓zx20,↓zx21,↓zx22,↓zx23,↓zx24,↓zx25,↓zx26,↓zx27,↓zx28,↓zx29,zx184,zx185,↓zx30,↓zx31,zx179,zx180,zx181,zx182,zx183,↓zx32,↓zx33,↓zx34,↓zx35,zx176,zx177,↓zx36,↓zx37,↓zx38,↓zx39,↓zx40,zx178,↓zx41,↓zx42,↓zx43,↓zx44,↓zx45,↓zx46,zx47,zx48,zx49,zx173,zx174,zx175,↓zx50,↓zx51,↓zx52,↓zx53,↓zx54,↓zx55,↓zx56,↓zx57,↓zx58,zx59,zx60,zx61,zx62,zx63,zx64,zx65,zx66,zx67,↓zx68,↓zx69,↓zx70,zx71,zx72,Nat.reduceBEq,yx0,↓zx73,↓zx74,↓zx75,↓zx76,↓zx77,↓zx78,↓zx79,↓zx80,zx81,zx82,zx83,zx84,zx85,zx86,zx87,zx88,zx89,zx90,zx91,zx92,yx1,yx2,zx93,zx94,zx95,zx96,zx97,zx98,zx99,zx100,zx101,zx102,zx103,↓zx104,↓zx105,zx106,zx107,zx108,zx109,zx110,zx111,zx112,yx3,zx113,zx114,zx115,zx116,zx117,zx118,zx119,zx120,zx121,zx122,zx123,zx124,zx125,zx126,zx127,zx128,zx129,zx130,zx131,zx132,zx133,zx134,zx135,zx136,zx137,zx138,zx139,zx140,zx141,zx142,zx143,zx144,zx145,zx146,zx147,zx148,zx149,zx150,zx151,zx152,zx153,zx154,zx155,zx156,zx157,zx158,zx159,zx160,zx161,zx162,yx4,yx5,yx6,yx7,yx8,yx9,yx10,yx11,yx12,yx13,yx14,yx15,yx16,yx17,yx18,yx19,yx20,yx21,yx22,yx23,yx24,yx25,yx26,yx27,yx28,yx29,yx30,yx31,yx32,yx33,yx34,Nat.reduceAdd,Nat.reduceSub,Nat.reduceMul,Nat.reduceLeDiff,Nat.reduceLT,Nat.reduceEqDiff,Int.reduceAdd,Int.reduceSub,Int.reduceMul,Int.reduceNeg,Int.reduceLT,Int.reduceLE,Int.reduceEq,Int.reduceToNat,yx35,yx36,yx37,yx38,yx39,yx40,yx41,↓zx163,↓zx164,↓zx165,↓zx166,↓zx167,zx168,zx169,yx42,yx43,Int.cast_ofNat_Int,yx45,yx46,yx47,yx48,yx49,yx50,yx51,yx52,yx53,yx54,yx55,yx56,yx57,zx170,zx171,yx58,yx59,↓reduceIte,zx172,yx60, *, m0.sl.L, r0.I]
  refine m0.store (Nat.le_refl _) a1 a2 a6 (by omega) fun H2 m1 hk1 hl2 => ?_
  change MT H.length H2 u (setE t i k (getE t i k + 1)) at m1
  have d1 := d0.setE (i := i) (k := k) (x := getE t i k + 1) a1 a2
  have t1 := d1.1
  have w1 := d1.2 j a3 a4
  have r1 := m1.sl.get (k := j) a3 (by omega)
  have e1 : gi (gi (setE t i k (getE t i k + 1)) j) l = getE t j l := l1
  simp (disch := (first | omega | (simp only [List.length_append, List.length_cons, List.length_nil]; omega))) only [↓zx0,↓zx1,↓zx2,↓zx3,↓zx4,↓zx5,↓zx6,↓zx7,↓zx8,↓zx9,↓zx10,↓zx11,↓zx12,↓zx13,↓zx14,↓zx15,↓zx16,↓zx17,↓zx18,↓zx19,↓zx20,↓zx21,↓zx22,↓zx23,↓zx24,↓zx25,↓zx26,↓zx27,↓zx28,↓zx29,zx184,zx185,↓zx30,↓zx31,zx179,zx180,zx181,zx182,zx183,↓zx32,↓zx33,↓zx34,↓zx35,zx176,zx177,↓zx36,↓zx37,↓zx38,↓zx39,↓zx40,zx178,↓zx41,↓zx42,↓zx43,↓zx44,↓zx45,↓zx46,zx47,zx48,zx49,zx173,zx174,zx175,↓zx50,↓zx51,↓zx52,↓zx53,↓zx54,↓zx55,↓zx56,↓zx57,↓zx58,zx59,zx60,zx61,zx62,zx63,zx64,zx65,zx66,zx67,↓zx68,↓zx69,↓zx70,zx71,zx72,Nat.reduceBEq,yx0,↓zx73,↓zx74,↓zx75,↓zx76,↓zx77,↓zx78,↓zx79,↓zx80,zx81,zx82,zx83,zx84,zx85,zx86,zx87,zx88,zx89,zx90,zx91,zx92,yx1,yx2,zx93,zx94,zx95,zx96,zx97,zx98,zx99,zx100,zx101,zx102,zx103,↓zx104,↓zx105,zx106,zx107,zx108,zx109,zx110,zx111,zx112,yx3,zx113,zx114,zx115,zx116,zx117,zx118,zx119,zx120,zx121,zx122,zx123,zx124,zx125,zx126,zx127,zx128,zx129,zx130,zx131,zx132,zx133,zx134,zx135,zx136,zx137,zx138,zx139,zx140,zx141,zx142,zx143,zx144,zx145,zx146,zx147,zx148,zx149,zx150,zx151,zx152,zx153,zx154,zx155,zx156,zx157,zx158,zx159,zx160,zx161,zx162,yx4,yx5,yx6,yx7,yx8,yx9,yx10,yx11,yx12,yx13,yx14,yx15,yx16,yx17,yx18,yx19,yx20,yx21,yx22,yx23,yx24,yx25,yx26,yx27,yx28,yx29,yx30,yx31,yx32,yx33,yx34,Nat.reduceAdd,Nat.reduceSub,Nat.reduceMul,Nat.reduceLeDiff,Nat.reduceLT,Nat.reduceEqDiff,Int.reduceAdd,Int.reduceSub,Int.reduceMul,Int.reduceNeg,Int.reduceLT,Int.reduceLE,Int.reduceEq,Int.reduceToNat,yx35,yx36,yx37,yx38,yx39,yx40,yx41,↓zx163,↓zx164,↓zx165,↓zx166,↓zx167,zx168,zx169,yx42,yx43,Int.cast_ofNat_Int,yx45,yx46,yx47,yx48,yx49,yx50,yx51,yx52,yx53,yx54,yx55,yx56,yx57,zx170,zx171,yx58,yx59,↓reduceIte,zx172,yx60, *, m1.sl.L, r1.I]
  refine m1.store (Nat.le_refl _) a3 (by omega) a8 (by omega) fun H3 m2 hk2 hl3' => ?_
  change MT H.length H3 u (setE (setE t i k (getE t i k + 1)) j l (getE t j l + 1)) at m2
  have d2 := d1.setE (i := j) (k := l) (x := getE t j l + 1) a3 a4
  have t2 := d2.1
  have w2 := d2.2 i a1 a2
  have r2 := m2.sl.get (k := i) a1 (by omega)
  have e2 : gi (gi (setE (setE t i k (getE t i k + 1)) j l (getE t j l + 1)) i) l = getE t i l := l2
  simp (disch := (first | omega | (simp only [List.length_append, List.length_cons, List.length_nil]; omega))) only [↓zx0,↓zx1,↓zx2,↓zx3,↓zx4,↓zx5,↓zx6,↓zx7,↓zx8,↓zx9,↓zx10,↓zx11,↓zx12,↓zx13,↓zx14,↓zx15,↓zx16,↓zx17,↓zx18,↓zx19,↓zx20,↓zx21,↓zx22,↓zx23,↓zx24,↓zx25,↓zx26,↓zx27,↓zx28,↓zx29,zx184,zx185,↓zx30,↓zx31,zx179,zx180,zx181,zx182,zx183,↓zx32,↓zx33,↓zx34,↓zx35,zx176,zx177,↓zx36,↓zx37,↓zx38,↓zx39,↓zx40,zx178,↓zx41,↓zx42,↓zx43,↓zx44,↓zx45,↓zx46,zx47,zx48,zx49,zx173,zx174,zx175,↓zx50,↓zx51,↓zx52,↓zx53,↓zx54,↓zx55,↓zx56,↓zx57,↓zx58,zx59,zx60,zx61,zx62,zx63,zx64,zx65,zx66,zx67,↓zx68,↓zx69,↓zx70,zx71,zx72,Nat.reduceBEq,yx0,↓zx73,↓zx74,↓zx75,↓zx76,↓zx77,↓zx78,↓zx79,↓zx80,zx81,zx82,zx83,zx84,zx85,zx86,zx87,zx88,zx89,zx90,zx91,zx92,yx1,yx2,zx93,zx94,zx95,zx96,zx97,zx98,zx99,zx100,zx101,zx102,zx103,↓zx104,↓zx105,zx106,zx107,zx108,zx109,zx110,zx111,zx112,yx3,zx113,zx114,zx115,zx116,zx117,zx118,zx119,zx120,zx121,zx122,zx123,zx124,zx125,zx126,zx127,zx128,zx129,zx130,zx131,zx132,zx133,zx134,zx135,zx136,zx137,zx138,zx139,zx140,zx141,zx142,zx143,zx144,zx145,zx146,zx147,zx148,zx149,zx150,zx151,zx152,zx153,zx154,zx155,zx156,zx157,zx158,zx159,zx160,zx161,zx162,yx4,yx5,yx6,yx7,yx8,yx9,yx10,yx11,yx12,yx13,yx14,yx15,yx16,yx17,yx18,yx19,yx20,yx21,yx22,yx23,yx24,yx25,yx26,yx27,yx28,yx29,yx30,yx31,yx32,yx33,yx34,Nat.reduceAdd,Nat.reduceSub,Nat.reduceMul,Nat.reduceLeDiff,Nat.reduceLT,Nat.reduceEqDiff,Int.reduceAdd,Int.reduceSub,Int.reduceMul,Int.reduceNeg,Int.reduceLT,Int.reduceLE,Int.reduceEq,Int.reduceToNat,yx35,yx36,yx37,yx38,yx39,yx40,yx41,↓zx163,↓zx164,↓zx165,↓zx166,↓zx167,zx168,zx169,yx42,yx43,Int.cast_ofNat_Int,yx45,yx46,yx47,yx48,yx49,yx50,yx51,yx52,yx53,yx54,yx55,yx56,yx57,zx170,zx171,yx58,yx59,↓reduceIte,zx172,yx60, *, m2.sl.L, r2.I]
  refine m2.store (Nat.le_refl _) a1 (by omega) a8 (by omega) fun H4 m3 hk3 hl4 => ?_
  change MT H.length H4 u (setE (setE (setE t i k (getE t i k + 1)) j l (getE t j l + 1)) i l (getE t i l - 1)) at m3
  have d3 := d2.setE (i := i) (k := l) (x := getE t i l - 1) a1 a2
  have t3 := d3.1
  have w3 := d3.2 j a3 a4
  have r3 := m3.sl.get (k := j) a3 (by omega)
  have e3 : gi (gi (setE (setE (setE t i k (getE t i k + 1)) j l (getE t j l + 1)) i l (getE t i l - 1)) j) k = getE t j k := l3
  simp (disch := (first | omega | (simp only [List.length_append, List.length_cons, List.length_nil]; omega))) only [↓zx0,↓zx1,↓zx2,↓zx3,↓zx4,↓zx5,↓zx6,↓zx7,↓zx8,↓zx9,↓zx10,↓zx11,↓zx12,↓zx13,↓zx14,↓zx15,↓zx16,↓zx17,↓zx18,↓zx19,↓zx20,↓zx21,↓zx22,↓zx23,↓zx24,↓zx25,↓zx26,↓zx27,↓zx28,↓zx29,zx184,zx185,↓zx30,↓zx31,zx179,zx180,zx181,zx182,zx183,↓zx32,↓zx33,↓zx34,↓zx35,zx176,zx177,↓zx36,↓zx37,↓zx38,↓zx39,↓zx40,zx178,↓zx41,↓zx42,↓zx43,↓zx44,↓zx45,↓zx46,zx47,zx48,zx49,zx173,zx174,zx175,↓zx50,↓zx51,↓zx52,↓zx53,↓zx54,↓zx55,↓zx56,↓zx57,↓zx58,zx59,zx60,zx61,zx62,zx63,zx64,zx65,zx66,zx67,↓zx68,↓zx69,↓zx70,zx71,zx72,Nat.reduceBEq,yx0,↓zx73,↓zx74,↓zx75,↓zx76,↓zx77,↓zx78,↓zx79,↓zx80,zx81,zx82,zx83,zx84,zx85,zx86,zx87,zx88,zx89,zx90,zx91,zx92,yx1,yx2,zx93,zx94,zx95,zx96,zx97,zx98,zx99,zx100,zx101,zx102,zx103,↓zx104,↓zx105,zx106,zx107,zx108,zx109,zx110,zx111,zx112,yx3,zx113,zx114,zx115,zx116,zx117,zx118,zx119,zx120,zx121,zx122,zx123,zx124,zx125,zx126,zx127,zx128,zx129,zx130,zx131,zx132,zx133,zx134,zx135,zx136,zx137,zx138,zx139,zx140,zx141,zx142,zx143,zx144,zx145,zx146,zx147,zx148,zx149,zx150,zx151,zx152,zx153,zx154,zx155,zx156,zx157,zx158,zx159,zx160,zx161,zx162,yx4,yx5,yx6,yx7,yx8,yx9,yx10,yx11,yx12,yx13,yx14,yx15,yx16,yx17,yx18,yx19,yx20,yx21,yx22,yx23,yx24,yx25,yx26,yx27,yx28,yx29,yx30,yx31,yx32,yx33,yx34,Nat.reduceAdd,Nat.reduceSub,Nat.reduceMul,Nat.reduceLeDiff,Nat.reduceLT,Nat.reduceEqDiff,Int.reduceAdd,Int.reduceSub,Int.reduceMul,Int.reduceNeg,Int.reduceLT,Int.reduceLE,Int.reduceEq,Int.reduceToNat,yx35,yx36,yx37,yx38,yx39,yx40,yx41,↓zx163,↓zx164,↓zx165,↓zx166,↓zx167,zx168,zx169,yx42,yx43,Int.cast_ofNat_Int,yx45,yx46,yx47,yx48,yx49,yx50,yx51,yx52,yx53,yx54,yx55,yx56,yx57,zx170,zx171,yx58,yx59,↓reduceIte,zx172,yx60, *, m3.sl.L, r3.I]
  refine m3.store (Nat.le_refl _) a3 (by omega) a6 (by omega) fun H5 m4 hk4 hl5 => ?_
  simp (disch := (first | omega | (simp only [List.length_append, List.length_cons, List.length_nil]; omega))) only [↓zx0,↓zx1,↓zx2,↓zx3,↓zx4,↓zx5,↓zx6,↓zx7,↓zx8,↓zx9,↓zx10,↓zx11,↓zx12,↓zx13,↓zx14,↓zx15,↓zx16,↓zx17,↓zx18,↓zx19,↓zx20,↓zx21,↓zx22,↓zx23,↓zx24,↓zx25,↓zx26,↓zx27,↓zx28,↓zx29,zx184,zx185,↓zx30,↓zx31,zx179,zx180,zx181,zx182,zx183,↓zx32,↓zx33,↓zx34,↓zx35,zx176,zx177,↓zx36,↓zx37,↓zx38,↓zx39,↓zx40,zx178,↓zx41,↓zx42,↓zx43,↓zx44,↓zx45,↓zx46,zx47,zx48,zx49,zx173,zx174,zx175,↓zx50,↓zx51,↓zx52,↓zx53,↓zx54,↓zx55,↓zx56,↓zx57,↓zx58,zx59,zx60,zx61,zx62,zx63,zx64,zx65,zx66,zx67,↓zx68,↓zx69,↓zx70,zx71,zx72,Nat.reduceBEq,yx0,↓zx73,↓zx74,↓zx75,↓zx76,↓zx77,↓zx78,↓zx79,↓zx80,zx81,zx82,zx83,zx84,zx85,zx86,zx87,zx88,zx89,zx90,zx91,zx92,yx1,yx2,zx93,zx94,zx95,zx96,zx97,zx98,zx99,zx100,zx101,zx102,zx103,↓zx104,↓zx105,zx106,zx107,zx108,zx109,zx110,zx111,zx112,yx3,zx113,zx114,zx115,zx116,zx117,zx118,zx119,zx120,zx121,zx122,zx123,zx124,zx125,zx126,zx127,zx128,zx129,zx130,zx131,zx132,zx133,zx134,zx135,zx136,zx137,zx138,zx139,zx140,zx141,zx142,zx143,zx144,zx145,zx146,zx147,zx148,zx149,zx150,zx151,zx152,zx153,zx154,zx155,zx156,zx157,zx158,zx159,zx160,zx161,zx162,yx4,yx5,yx6,yx7,yx8,yx9,yx10,yx11,yx12,yx13,yx14,yx15,yx16,yx17,yx18,yx19,yx20,yx21,yx22,yx23,yx24,yx25,yx26,yx27,yx28,yx29,yx30,yx31,yx32,yx33,yx34,Nat.reduceAdd,Nat.reduceSub,Nat.reduceMul,Nat.reduceLeDiff,Nat.reduceLT,Nat.reduceEqDiff,Int.reduceAdd,Int.reduceSub,Int.reduceMul,Int.reduceNeg,Int.reduceLT,Int.reduceLE,Int.reduceEq,Int.reduceToNat,yx35,yx36,yx37,yx38,yx39,yx40,yx41,↓zx163,↓zx164,↓zx165,↓zx166,↓zx167,zx168,zx169,yx42,yx43,Int.cast_ofNat_Int,yx45,yx46,yx47,yx48,yx49,yx50,yx51,yx52,yx53,yx54,yx55,yx56,yx57,zx170,zx171,yx58,yx59,↓reduceIte,zx172,yx60, *]
  exact rv_2 (m4.rv fun b hb => .inr hb) rfl
end Go.Proofs.Ytflekaacffdakaa
