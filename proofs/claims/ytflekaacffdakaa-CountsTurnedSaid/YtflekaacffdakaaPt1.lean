/- What the law needs: what its functions do, and the laws on lists behind it. No condition. -/
import Derived.Test.YtflekaacffdakaaPt0
import Derived.Laws.StructEq
import Derived.KernelRfl
import Derived.WalkKit
import Derived.ProofKit
import Derived.OpenShut
import Derived.ShutString
import Derived.ChangeOld
import Derived.Below
import Derived.SizedLaws
import Derived.Carry
set_option linter.unusedSimpArgs false
set_option linter.unusedVariables false
namespace Go.Proofs.Ytflekaacffdakaa
open Go Go.AM Go.Proofs
theorem table_ot {p : Nat → Prop} {H : Heap} {v : AV} {t : List (List Int)} (ht : Sl p H v t) (h : TabOk t) : Ret E 20 [v] (fun _ => False) H (OT.mk t) := by
  refine Ret.ro rfl fn20 rfl ?_
  unfold f20A
  have hl3 := h.2.1
  simp (disch := (first | assumption | omega | (simp only [List.length_append, List.length_cons, List.length_nil]; omega))) only [↓wD,wU,Nat.reduceBEq,zx150,zx151,zx159,zx160,zx161,zx162,Nat.reduceAdd,Nat.reduceSub,Nat.reduceMul,Nat.reduceLeDiff,Nat.reduceLT,Nat.reduceEqDiff,Int.reduceAdd,Int.reduceSub,Int.reduceMul,Int.reduceNeg,Int.reduceLT,Int.reduceLE,Int.reduceEq,Int.reduceToNat,Int.cast_ofNat_Int,↓reduceIte, ht.L]
  replace ht : Sl (fun b => b < H.length) H v t := ht.low.weak fun _ h => h.2
  refine Wp.for t.length (fun i a H' => ∃ u, a 6 = v ∧ a 7 = .i t.length ∧ a 8 = .i i ∧ a 3 = u ∧ Gr H H' ∧ MT H.length H' u (t.take i)) ?_ ?_
  · rintro i a H1 hi ⟨u, h6, h7, h8, h3, hg, hu⟩ ih
    simp (disch := (first | assumption | omega | (simp only [List.length_append, List.length_cons, List.length_nil]; omega))) only [↓wD,wU,Nat.reduceBEq,zx150,zx151,zx159,zx160,zx161,zx162,Nat.reduceAdd,Nat.reduceSub,Nat.reduceMul,Nat.reduceLeDiff,Nat.reduceLT,Nat.reduceEqDiff,Int.reduceAdd,Int.reduceSub,Int.reduceMul,Int.reduceNeg,Int.reduceLT,Int.reduceLE,Int.reduceEq,Int.reduceToNat,Int.cast_ofNat_Int,↓reduceIte, h6, h7, h8, h3]
    refine condP_split (fun hlt => ?_) (fun hlt => ?_)
    · have hi' : i < t.length := by omega
      have ht1 := ht.gr hg
      have g := ht1.get (k := (i : Int)) (by omega) (by omega)
      have hr := h.2.2.1 _ (mem_gi hi')
      have hne : gi t (i : Int) ≠ [] := fun e => by have := hr.1; rw [e] at this; simp at this
      have e6 : (gi t (i : Int)).take 6 = gi t (i : Int) := List.take_of_length_le (by have := hr.2.1; omega)
      have hl1 := hg.1
      have h6' : decide ((i : Int) < 6) = true := decide_eq_true (by omega)
      simp (disch := (first | assumption | omega | (simp only [List.length_append, List.length_cons, List.length_nil]; omega))) only [↓wD,wU,Nat.reduceBEq,zx150,zx151,zx159,zx160,zx161,zx162,Nat.reduceAdd,Nat.reduceSub,Nat.reduceMul,Nat.reduceLeDiff,Nat.reduceLT,Nat.reduceEqDiff,Int.reduceAdd,Int.reduceSub,Int.reduceMul,Int.reduceNeg,Int.reduceLT,Int.reduceLE,Int.reduceEq,Int.reduceToNat,Int.cast_ofNat_Int,↓reduceIte, h6, h7, h8, h3, ht1.L, h6']
      refine (list_ret g).toF fun y H2 hg2 hy => ?_
      rw [e6] at hy
      have hl2 := hg2.1
      simp (disch := (first | assumption | omega | (simp only [List.length_append, List.length_cons, List.length_nil]; omega))) only [↓wD,wU,Nat.reduceBEq,zx150,zx151,zx159,zx160,zx161,zx162,Nat.reduceAdd,Nat.reduceSub,Nat.reduceMul,Nat.reduceLeDiff,Nat.reduceLT,Nat.reduceEqDiff,Int.reduceAdd,Int.reduceSub,Int.reduceMul,Int.reduceNeg,Int.reduceLT,Int.reduceLE,Int.reduceEq,Int.reduceToNat,Int.cast_ofNat_Int,↓reduceIte, hy.cellsV]
      refine hu.push hg2 (Nat.le_refl _) hl1 hy hne (by simp; omega) fun u' H3 hu' hk3 => ?_
      simp (disch := (first | assumption | omega | (simp only [List.length_append, List.length_cons, List.length_nil]; omega))) only [↓wD,wU,Nat.reduceBEq,zx150,zx151,zx159,zx160,zx161,zx162,Nat.reduceAdd,Nat.reduceSub,Nat.reduceMul,Nat.reduceLeDiff,Nat.reduceLT,Nat.reduceEqDiff,Int.reduceAdd,Int.reduceSub,Int.reduceMul,Int.reduceNeg,Int.reduceLT,Int.reduceLE,Int.reduceEq,Int.reduceToNat,Int.cast_ofNat_Int,↓reduceIte, h6, h7, h8, h3]
      refine (ih hi').go ⟨u', ?_⟩
      rw [take_gi hi']
      simp (disch := (first | assumption | omega | (simp only [List.length_append, List.length_cons, List.length_nil]; omega))) only [↓wD,wU,Nat.reduceBEq,zx150,zx151,zx159,zx160,zx161,zx162,Nat.reduceAdd,Nat.reduceSub,Nat.reduceMul,Nat.reduceLeDiff,Nat.reduceLT,Nat.reduceEqDiff,Int.reduceAdd,Int.reduceSub,Int.reduceMul,Int.reduceNeg,Int.reduceLT,Int.reduceLE,Int.reduceEq,Int.reduceToNat,Int.cast_ofNat_Int,↓reduceIte, h6, h7, h8, h3]
      exact ⟨(hg.trans hg2).trans' hk3 fun b hb e => by have := hu.blk_lt e; omega, hu'⟩
    · have e : i = t.length := by omega
      subst e
      rw [List.take_length] at hu
      simp (disch := (first | assumption | omega | (simp only [List.length_append, List.length_cons, List.length_nil]; omega))) only [↓wD,wU,Nat.reduceBEq,zx150,zx151,zx159,zx160,zx161,zx162,Nat.reduceAdd,Nat.reduceSub,Nat.reduceMul,Nat.reduceLeDiff,Nat.reduceLT,Nat.reduceEqDiff,Int.reduceAdd,Int.reduceSub,Int.reduceMul,Int.reduceNeg,Int.reduceLT,Int.reduceLE,Int.reduceEq,Int.reduceToNat,Int.cast_ofNat_Int,↓reduceIte, h6, h7, h8, h3]
      exact hu.rv fun b h => .inr h
  · simp (disch := (first | assumption | omega | (simp only [List.length_append, List.length_cons, List.length_nil]; omega))) only [↓wD,wU,Nat.reduceBEq,zx150,zx151,zx159,zx160,zx161,zx162,Nat.reduceAdd,Nat.reduceSub,Nat.reduceMul,Nat.reduceLeDiff,Nat.reduceLT,Nat.reduceEqDiff,Int.reduceAdd,Int.reduceSub,Int.reduceMul,Int.reduceNeg,Int.reduceLT,Int.reduceLE,Int.reduceEq,Int.reduceToNat,Int.cast_ofNat_Int,↓reduceIte]
    exact ⟨.nils, rfl, Gr.refl _, MT.nil⟩
section
variable {L lo : Nat} {H : Heap} {v : AV} {t : List (List Int)}
/-- headers of two rows exchanged -/
theorem MT.swapR {p : Nat → Prop} (h : MT L H v t) (hp : Sl p H v t) (hlo : lo ≤ L) {i j : Nat} (hi : i < t.length) (hj : j < t.length) : ∃ H1 H2, stA lo H 1 (v.at 1 (i : Int)) (v.get H (j : Int)) = some H1 ∧ stA lo H1 1 (v.at 1 (j : Int)) (v.get H (i : Int)) = some H2 ∧ H2.length = H.length ∧ Sl p H2 v (swG i j t) ∧ Kx (fun b => v.blk ≠ some b) H H2 := by
  obtain ⟨rs, rfl, hn, ha⟩ := h
  have hi' : i < rs.length := by simpa using hi
  have hj' : j < rs.length := by simpa using hj
  rcases ha with ⟨rfl, rfl⟩ | ⟨b, o, c, k, rfl, hb, hk, q1, q2, q3⟩
  · simp at hi
  · change o + rs.length * 1 ≤ _ at q1
    have hpb : p b := by
      rcases hp with ⟨e, _⟩ | ⟨b2, _, _, _, e, hb2, _⟩
      · cases e
      · have e6 := AV.s.inj e
        rw [e6.2.1]; exact hb2
    have row : ∀ m (hm : m < rs.length), ∃ y, k[o + m]? = some y ∧ y.cells = [y] ∧ y.one = true ∧ Sl (fun b' => p b' ∧ b' ≠ b) H y rs[m].xs ∧ AV.get H (.s 1 b o rs.length c) (m : Int) = y := fun m hm => by
      obtain ⟨y, e, hs⟩ := OR.sl (q3 m hm)
      change (k.drop (o + m * 1)).take 1 = [y] at e
      rw [Nat.mul_one] at e
      have e2 := take1 e
      have hs2 : Sl p H y rs[m].xs := by
        have hml : m < (rs.map (·.xs)).length := by simpa using hm
        rcases hp with ⟨e3, _⟩ | ⟨b2, o2, c2, k2, e3, _, hk2, _, _, h5⟩
        · cases e3
        · obtain ⟨u, e4, hu⟩ := h5 m hml
          change (k2.drop (o2 + m * 1)).take 1 = [u] at e4
          rw [Nat.mul_one] at e4
          have e6 := AV.s.inj e3
          rw [← e6.2.1, hk] at hk2
          cases hk2
          rw [← e6.2.2.1] at e4
          have e5 := take1 e4
          rw [e2] at e5
          cases e5
          simpa using hu
      refine ⟨y, e2, hs.cellsV.1, hs.cellsV.2, hs2.own.weak fun b' e3 => ⟨(hs2.blkp e3).1, (hs.blkp e3).1.2⟩, ?_⟩
      change (ld H b (o + (m : Int).toNat * 1)).getD .un = y
      rw [ld_of hk, Int.toNat_natCast, Nat.mul_one, e2]; rfl
    obtain ⟨yi, ei, ci, oi, si, zx182⟩ := row i hi'
    obtain ⟨yj, ej, cj, oj, sj, gj1⟩ := row j hj'
    have sz : (Rep.sz OR) = 1 := rfl
    rw [sz]
    have s1 : stA lo H 1 (AV.at 1 (.s 1 b o rs.length c) (i : Int)) (AV.get H (.s 1 b o rs.length c) (j : Int)) = some (H.set b (.cells (k.set (o + i) yj))) := by
      rw [gj1]
      change stA lo H 1 (.p b (o + (i : Int).toNat * 1)) yj = _
      rw [zx123, cj, Int.toNat_natCast, Nat.mul_one, if_pos (by simp [oj]), st_of hk (by omega) (by simp; omega)]
      rfl
    have hk1 := get_set (k := .cells (k.set (o + i) yj)) hk
    have s2 : stA lo (H.set b (.cells (k.set (o + i) yj))) 1 (AV.at 1 (.s 1 b o rs.length c) (j : Int)) (AV.get H (.s 1 b o rs.length c) (i : Int)) = some ((H.set b (.cells (k.set (o + i) yj))).set b (.cells ((k.set (o + i) yj).set (o + j) yi))) := by
      rw [zx182]
      change stA lo _ 1 (.p b (o + (j : Int).toNat * 1)) yi = _
      rw [zx123, ci, Int.toNat_natCast, Nat.mul_one, if_pos (by simp [oi]), st_of hk1 (by omega) (by simp; omega)]
      rfl
    have xx : Kx (fun b' => b' ≠ b) H ((H.set b (.cells (k.set (o + i) yj))).set b (.cells ((k.set (o + i) yj).set (o + j) yi))) := (Kx.set b H _).set' (fun _ h => h rfl) _
    refine ⟨_, _, s1, s2, by simp, .inr ⟨b, o, c, _, ?_, hpb, get_set hk1, ?_, ?_, fun m hm => ?_⟩, xx.weak fun b' _ h e => h (by rw [e]; rfl)⟩
    · rw [sw_len, List.length_map]; rfl
    · change o + (swG i j (rs.map (·.xs))).length * 1 ≤ _
      rw [sw_len, List.length_map]; simp; omega
    · rw [sw_len, List.length_map]; exact q2
    · rw [sw_len, List.length_map] at hm
      have eg : (swG i j (rs.map (·.xs)))[m]'(by rw [sw_len, List.length_map]; exact hm) = (rs[piI i j m]'(piI_lt hi' hj' hm)).xs := by
        rw [← gi_nat, gi_sw hi hj, gi_nat (by simpa using piI_lt hi' hj' hm)]
        simp
      rw [eg]
      obtain ⟨y, ey, cy, oy, sy, _⟩ := row (piI i j m) (piI_lt hi' hj' hm)
      refine ⟨y, ?_, (sy.kp (xx.weak fun b' _ h => h.2).kp).weak fun b' h => h.1⟩
      change (List.drop (o + m * 1) _).take 1 = [y]
      rw [Nat.mul_one, List.take_one, List.head?_drop]
      have : ((k.set (o + i) yj).set (o + j) yi)[o + m]? = some y := by
        by_cases e : m = j
        · subst e
          have ep : piI i m m = i := by unfold piI; rw [if_pos rfl]
          rw [List.getElem?_set_self (by simp; omega)]
          simp only [ep] at ey
          rw [ei] at ey; exact ey
        · rw [List.getElem?_set_ne (by omega)]
          by_cases e2 : m = i
          · subst e2
            have ep : piI m j m = j := by unfold piI; rw [if_neg e, if_pos rfl]
            rw [List.getElem?_set_self (by omega)]
            simp only [ep] at ey
            rw [ej] at ey; exact ey
          · rw [List.getElem?_set_ne (by omega)]
            have ep : piI i j m = m := by unfold piI; rw [if_neg e, if_neg e2]
            simp only [ep] at ey
            exact ey
      rw [this]; rfl
theorem stA_kx {yb off : Nat} {x : Int} {H1 : Heap} (h : stA lo H 1 (.p yb off) (.i x) = some H1) : Kx (fun b => b ≠ yb) H H1 := by
  unfold stA st at h
  simp only [] at h
  split at h
  · split at h
    · split at h
      · split at h
        · cases h; exact Kx.set _ _ _
        · cases h
      · cases h
    · cases h
  · cases h
/-- two entries of a row exchanged -/
theorem MT.swapE (h : MT L H v t) (hlo : lo ≤ L) {i k l : Nat} (hi : i < t.length) (hk : k < (gi t (i : Int)).length) (hl : l < (gi t (i : Int)).length) :
    ∃ H1 H2, stA lo H 1 ((v.get H (i : Int)).at 1 (k : Int)) (.i (gi (gi t (i : Int)) (l : Int))) = some H1 ∧ stA lo H1 1 ((v.get H (i : Int)).at 1 (l : Int)) (.i (gi (gi t (i : Int)) (k : Int))) = some H2 ∧ H1.length = H.length ∧ H2.length = H.length ∧ MT L H2 v (t.set i (swG k l (gi t (i : Int)))) ∧ Kp (fun b => b < L) H H2 := by
  have get : ∀ {H' : Heap} {t' : List (List Int)}, MT L H' v t' → i < t'.length → ∃ yb o n c b, v.get H' (i : Int) = .s 1 yb o n c ∧ v.blk = some b ∧ yb ≠ b ∧ b < H'.length := by
    rintro H' t' ⟨rs, rfl, hn, ha⟩ hi
    have hi' : i < rs.length := by simpa using hi
    rcases ha with ⟨rfl, rfl⟩ | ⟨b, o, c, ks, rfl, hb, hk, q1, q2, q3⟩
    · simp at hi
    · obtain ⟨o', c', k', e1, ⟨pb, nb⟩, hk', q4, q5, q6⟩ := q3 i hi'
      change (ks.drop (o + i * 1)).take 1 = _ at e1
      rw [Nat.mul_one] at e1
      have e2 := take1 e1
      refine ⟨rs[i].b, o', rs[i].xs.length, c', b, ?_, rfl, nb, (List.getElem?_eq_some_iff.1 hk).1⟩
      change (ld H' b (o + (i : Int).toNat * 1)).getD .un = _
      rw [ld_of hk, Int.toNat_natCast, Nat.mul_one, e2]; rfl
  obtain ⟨H1, s1, m1, k1, n1⟩ : ∃ H1, stA lo H 1 ((v.get H (i : Int)).at 1 (k : Int)) (.i (gi (gi t (i : Int)) (l : Int))) = some H1 ∧ MT L H1 v (t.set i ((gi t (i : Int)).set k (gi (gi t (i : Int)) (l : Int)))) ∧ Kp (fun b => b < L) H H1 ∧ H1.length = H.length :=
    h.store (lo := lo) (i := (i : Int)) (k := (k : Int)) (x := gi (gi t (i : Int)) (l : Int)) (Q := fun H1 => MT L H1 v (t.set i ((gi t (i : Int)).set k (gi (gi t (i : Int)) (l : Int)))) ∧ Kp (fun b => b < L) H H1 ∧ H1.length = H.length) hlo (by omega) (by omega) (by omega) (by omega) fun H1 a b c => ⟨a, b, c⟩
  have hi1 : i < (t.set i ((gi t (i : Int)).set k (gi (gi t (i : Int)) (l : Int)))).length := by rw [List.length_set]; exact hi
  have eg : gi (t.set i ((gi t (i : Int)).set k (gi (gi t (i : Int)) (l : Int)))) (i : Int) = (gi t (i : Int)).set k (gi (gi t (i : Int)) (l : Int)) := by rw [gi_setN hi, if_pos rfl]
  have same : v.get H1 (i : Int) = v.get H (i : Int) := by
    obtain ⟨yb, o, n, c, b, e, eb, hne, hbl⟩ := get h hi
    rw [e] at s1
    have hx := stA_kx s1
    obtain ⟨rs, _, _, ha⟩ := h
    rcases ha with ⟨rfl, rfl⟩ | ⟨b', o', c', ks, rfl, hb, hk, _⟩
    · cases eb
    · cases eb
      have hk' := hx.get (Ne.symm hne) hk
      change (ld H1 _ (o' + (i : Int).toNat * 1)).getD .un = (ld H _ (o' + (i : Int).toNat * 1)).getD .un
      rw [ld_of hk, ld_of hk']
  obtain ⟨H2, s2, m2, k2, n2⟩ : ∃ H2, stA lo H1 1 ((v.get H1 (i : Int)).at 1 (l : Int)) (.i (gi (gi t (i : Int)) (k : Int))) = some H2 ∧ MT L H2 v ((t.set i ((gi t (i : Int)).set k (gi (gi t (i : Int)) (l : Int)))).set i (((gi t (i : Int)).set k (gi (gi t (i : Int)) (l : Int))).set l (gi (gi t (i : Int)) (k : Int)))) ∧ Kp (fun b => b < L) H1 H2 ∧ H2.length = H1.length := by
    refine m1.store (lo := lo) (i := (i : Int)) (k := (l : Int)) (x := gi (gi t (i : Int)) (k : Int)) (Q := fun H2 => MT L H2 v ((t.set i ((gi t (i : Int)).set k (gi (gi t (i : Int)) (l : Int)))).set i (((gi t (i : Int)).set k (gi (gi t (i : Int)) (l : Int))).set l (gi (gi t (i : Int)) (k : Int)))) ∧ Kp (fun b => b < L) H1 H2 ∧ H2.length = H1.length) hlo (by omega) (by omega) (by omega) (by rw [eg, List.length_set]; omega) fun H2 a b c => ⟨?_, b, c⟩
    rw [eg] at a
    exact a
  rw [same] at s2
  rw [List.set_set] at m2
  exact ⟨H1, H2, s1, s2, n1, by omega, m2, k1.trans k2 fun _ h => h⟩
end
end Go.Proofs.Ytflekaacffdakaa
namespace Go.Proofs.Ytflekaacffdakaa
open Go Go.AM Go.Proofs
/-- the first i rows changed -/
def mixF (f : List Int → List Int) (t : Tab) (i : Nat) : Tab := (t.take i).map f ++ t.drop i
theorem mixF_len {f : List Int → List Int} {t : Tab} {i : Nat} : (mixF f t i).length = t.length := by unfold mixF; simp; omega
theorem mixF_gi {f : List Int → List Int} {t : Tab} {i : Nat} (h : i < t.length) : gi (mixF f t i) (i : Int) = gi t (i : Int) := by
  have hl : ((t.take i).map f).length = i := by rw [List.length_map, List.length_take]; omega
  rw [gi_nat (by rw [mixF_len]; exact h), gi_nat h]
  unfold mixF
  rw [List.getElem_append_right (by omega), List.getElem_drop]
  congr 1
  omega
theorem mixF_set {f : List Int → List Int} {t : Tab} {i : Nat} (h : i < t.length) : (mixF f t i).set i (f (gi t (i : Int))) = mixF f t (i + 1) := by
  have hl : ((t.take i).map f).length = i := by rw [List.length_map, List.length_take]; omega
  unfold mixF
  rw [List.set_append_right _ _ (by omega), hl, Nat.sub_self, take_gi h, List.map_append, List.append_assoc]
  congr 1
  rw [List.drop_eq_getElem_cons h]
  rfl
theorem Walk.CountsTurned (H : Heap) (u : AV) (t : List (List Int)) (ht : Sl (fun b => b < H.length) H u t) (sz : t.length * 24 ≤ 140737488351232) (k1 k2 : Int) : WpF E H.length 16 [u, .i k1, .i k2] H fun v _ => v = .b true := by
  refine law_of (RetP.ro rfl fn16 rfl rfl ?_)
  unfold f16A
  simp (disch := (first | assumption | omega | (simp only [List.length_append, List.length_cons, List.length_nil]; omega))) only [↓wD,wU,Nat.reduceBEq,zx150,zx151,zx159,zx160,zx161,zx162,Nat.reduceAdd,Nat.reduceSub,Nat.reduceMul,Nat.reduceLeDiff,Nat.reduceLT,Nat.reduceEqDiff,Int.reduceAdd,Int.reduceSub,Int.reduceMul,Int.reduceNeg,Int.reduceLT,Int.reduceLE,Int.reduceEq,Int.reduceToNat,Int.cast_ofNat_Int,↓reduceIte]
  refine (table_ret ht).toFX fun y1 H1 x1 hy => ?_
  have ht1 := ht.kp (x1.all _).kp
  have hl1 := x1.1
  by_cases h : TabOk t
  case neg =>
    have h' : ¬ TabOk (cutT t) := fun hc => h (TabOk_cut.1 hc)
    simp (disch := (first | assumption | omega | (simp only [List.length_append, List.length_cons, List.length_nil]; omega))) only [↓wD,wU,Nat.reduceBEq,zx150,zx151,zx159,zx160,zx161,zx162,Nat.reduceAdd,Nat.reduceSub,Nat.reduceMul,Nat.reduceLeDiff,Nat.reduceLT,Nat.reduceEqDiff,Int.reduceAdd,Int.reduceSub,Int.reduceMul,Int.reduceNeg,Int.reduceLT,Int.reduceLE,Int.reduceEq,Int.reduceToNat,Int.cast_ofNat_Int,↓reduceIte]
    refine (turn_err (q := fun _ => False) hy h').toX fun w H2 x2 hw => ?_
    obtain ⟨v7, _, rfl, hv7, rfl⟩ := rv2 hw
    simp (disch := (first | assumption | omega | (simp only [List.length_append, List.length_cons, List.length_nil]; omega))) only [↓wD,wU,Nat.reduceBEq,zx150,zx151,zx159,zx160,zx161,zx162,Nat.reduceAdd,Nat.reduceSub,Nat.reduceMul,Nat.reduceLeDiff,Nat.reduceLT,Nat.reduceEqDiff,Int.reduceAdd,Int.reduceSub,Int.reduceMul,Int.reduceNeg,Int.reduceLT,Int.reduceLE,Int.reduceEq,Int.reduceToNat,Int.cast_ofNat_Int,↓reduceIte, awake_ret.call]
  rw [cutT_ok h] at hy
  have htt := (turn_facts h).1
  have h1 := h.1
  have h3 := h.2.1
  have hc := h.cols
  simp (disch := (first | assumption | omega | (simp only [List.length_append, List.length_cons, List.length_nil]; omega))) only [↓wD,wU,Nat.reduceBEq,zx150,zx151,zx159,zx160,zx161,zx162,Nat.reduceAdd,Nat.reduceSub,Nat.reduceMul,Nat.reduceLeDiff,Nat.reduceLT,Nat.reduceEqDiff,Int.reduceAdd,Int.reduceSub,Int.reduceMul,Int.reduceNeg,Int.reduceLT,Int.reduceLE,Int.reduceEq,Int.reduceToNat,Int.cast_ofNat_Int,↓reduceIte]
  refine (turn_ret hy h).toX fun w H2 x2 hw => ?_
  obtain ⟨v7, _, rfl, hv7, rfl⟩ := rv2 hw
  replace hv7 : Sl (fun b => H.length ≤ b) H2 v7 (turnT t) := (rvs hv7).weak fun b h => h.elim (fun h => h.elim) fun h => by omega
  have ht2 := ht1.kp (x2.all _).kp
  have hl2 := x2.1
  have rt := rtable_ret ht2 sz
  rw [decide_eq_true h] at rt
  clear hw hy
  simp (disch := (first | assumption | omega | (simp only [List.length_append, List.length_cons, List.length_nil]; omega))) only [↓wD,wU,Nat.reduceBEq,zx150,zx151,zx159,zx160,zx161,zx162,Nat.reduceAdd,Nat.reduceSub,Nat.reduceMul,Nat.reduceLeDiff,Nat.reduceLT,Nat.reduceEqDiff,Int.reduceAdd,Int.reduceSub,Int.reduceMul,Int.reduceNeg,Int.reduceLT,Int.reduceLE,Int.reduceEq,Int.reduceToNat,Int.cast_ofNat_Int,↓reduceIte, rt.call]
  refine (table_ret hv7).toFX fun y3 H3 x3 hy3 => ?_
  rw [cutT_ok htt] at hy3
  have ht3 := ht2.kp (x3.all _).kp
  have hv73 := hv7.kp (x3.all _).kp
  have hl3 := x3.1
  simp (disch := (first | assumption | omega | (simp only [List.length_append, List.length_cons, List.length_nil]; omega))) only [↓wD,wU,Nat.reduceBEq,zx150,zx151,zx159,zx160,zx161,zx162,Nat.reduceAdd,Nat.reduceSub,Nat.reduceMul,Nat.reduceLeDiff,Nat.reduceLT,Nat.reduceEqDiff,Int.reduceAdd,Int.reduceSub,Int.reduceMul,Int.reduceNeg,Int.reduceLT,Int.reduceLE,Int.reduceEq,Int.reduceToNat,Int.cast_ofNat_Int,↓reduceIte]
  refine (turn_ret hy3 htt).toX fun w H4 x4 hw => ?_
  obtain ⟨v9, _, rfl, hv9, rfl⟩ := rv2 hw
  replace hv9 := rvs hv9
  rw [(turn_facts h).2.2.2.1] at hv9
  have ht4 := ht3.kp (x4.all _).kp
  have hv74 := hv73.kp (x4.all _).kp
  have hl4 := x4.1
  have sm := same_ret hv9 ht4
  rw [decide_eq_true rfl] at sm
  have tl := (turn_len h).1
  have rt2 := rtable_ret hv74 (by rw [tl]; omega)
  rw [decide_eq_true htt] at rt2
  clear hw hy3 hv7 hv73
  simp (disch := (first | assumption | omega | (simp only [List.length_append, List.length_cons, List.length_nil]; omega))) only [↓wD,wU,Nat.reduceBEq,zx150,zx151,zx159,zx160,zx161,zx162,Nat.reduceAdd,Nat.reduceSub,Nat.reduceMul,Nat.reduceLeDiff,Nat.reduceLT,Nat.reduceEqDiff,Int.reduceAdd,Int.reduceSub,Int.reduceMul,Int.reduceNeg,Int.reduceLT,Int.reduceLE,Int.reduceEq,Int.reduceToNat,Int.cast_ofNat_Int,↓reduceIte, sm.call, rt2.call]
  refine (table_ot ht4 h).toX fun v10 H5 x5 hv10 => ?_
  have m10 : MT H4.length H5 v10 t := MT.of hv10 fun b h => h.elim (fun h => h.elim) id
  have hl5 := x5.1
  have ht5 := ht4.kp (x5.all _).kp
  have hv75 : Sl (fun b => H.length ≤ b ∧ b < H4.length) H5 v7 (turnT t) := hv74.low.kp (x5.all _).kp
  have s10 : Sl (fun b => H4.length ≤ b ∧ b < H5.length) H5 v10 t := m10.sl.low
  clear hv10 hv74 hv9
  simp (disch := (first | assumption | omega | (simp only [List.length_append, List.length_cons, List.length_nil]; omega))) only [↓wD,wU,Nat.reduceBEq,zx150,zx151,zx159,zx160,zx161,zx162,Nat.reduceAdd,Nat.reduceSub,Nat.reduceMul,Nat.reduceLeDiff,Nat.reduceLT,Nat.reduceEqDiff,Int.reduceAdd,Int.reduceSub,Int.reduceMul,Int.reduceNeg,Int.reduceLT,Int.reduceLE,Int.reduceEq,Int.reduceToNat,Int.cast_ofNat_Int,↓reduceIte]
  refine (table_ot ht5 h).toX fun v11 H6 x6 hv11 => ?_
  have m11 : MT H5.length H6 v11 t := MT.of hv11 fun b h => h.elim (fun h => h.elim) id
  have hl6 := x6.1
  have ht6 := ht5.kp (x6.all _).kp
  have hv76 := hv75.kp (x6.all _).kp
  have m106 := m10.gr (x6.all _).kp
  have s106 := s10.kp (x6.all _).kp
  have b10 : ∀ b, v10.blk = some b → H4.length ≤ b ∧ b < H5.length := fun b e => m10.blk_lt e
  clear hv11 m10 s10 hv75
  have g0 := ht6.get (k := (0 : Int)) (by omega) (by omega)
  have tL := ht6.L
  have g0I := g0.I
  obtain ⟨i, hi, i2, i3, i4⟩ := u64_idx (k := k1) (n := t.length) (by omega) (by omega)
  obtain ⟨j, hj, j2, j3, j4⟩ := u64_idx (k := k2) (n := t.length) (by omega) (by omega)
  obtain ⟨c, hcc, c2, c3, c4⟩ := u64_idx (k := k1) (n := (gi t 0).length) (by omega) (by omega)
  obtain ⟨d, hdd, d2, d3, d4⟩ := u64_idx (k := k2) (n := (gi t 0).length) (by omega) (by omega)
  obtain ⟨Ha, Hb, sa, sb, nb, s10b, xb⟩ := MT.swapR m106 s106 (lo := H.length) (by omega) hi hj
  have L10 := s106.L
  have hu0 : ¬ (t.length : Int) = 0 := by omega
  have hw0 : ¬ ((gi t 0).length : Int) = 0 := by omega
  have htb := ht6.kp (xb.weak (q := fun b => b < H.length) fun b _ q e => by have := b10 b e; omega).kp
  have hv7b := hv76.kp (xb.weak (q := fun b => H.length ≤ b ∧ b < H4.length) fun b _ q e => by have := b10 b e; omega).kp
  have m11b := m11.kp (xb.weak (q := fun b => H5.length ≤ b) fun b _ q e => by have := b10 b e; omega).kp
  have l11 := m11b.sl.lenV
  clear m11 m106 s106 g0 hv76
  simp (disch := (first | assumption | omega | (simp only [List.length_append, List.length_cons, List.length_nil]; omega))) only [↓wD,wU,Nat.reduceBEq,zx150,zx151,zx159,zx160,zx161,zx162,Nat.reduceAdd,Nat.reduceSub,Nat.reduceMul,Nat.reduceLeDiff,Nat.reduceLT,Nat.reduceEqDiff,Int.reduceAdd,Int.reduceSub,Int.reduceMul,Int.reduceNeg,Int.reduceLT,Int.reduceLE,Int.reduceEq,Int.reduceToNat,Int.cast_ofNat_Int,↓reduceIte, tL, g0I, i2, i3, j2, j3, c2, c3, d2, d3, hu0, hw0, L10, sa, sb, l11]
  refine Wp.for t.length (fun m a G => a 0 = u ∧ a 7 = v7 ∧ a 10 = v10 ∧ a 11 = v11 ∧ a 14 = .int .u64 c ∧ a 15 = .int .u64 d ∧ a 114 = v11 ∧ a 115 = .i t.length ∧ a 116 = .i m ∧ MT H5.length G v11 (mixF (swG c d) t m) ∧ Kp (fun b => b < H5.length) Hb G) ?_ ?_
  · rintro m a G hm ⟨a0, a7, a10, a11, a14, a15, a114, a115, a116, mm, kp⟩ ih
    have hlG := kp.1
    simp (disch := (first | assumption | omega | (simp only [List.length_append, List.length_cons, List.length_nil]; omega))) only [↓wD,wU,Nat.reduceBEq,zx150,zx151,zx159,zx160,zx161,zx162,Nat.reduceAdd,Nat.reduceSub,Nat.reduceMul,Nat.reduceLeDiff,Nat.reduceLT,Nat.reduceEqDiff,Int.reduceAdd,Int.reduceSub,Int.reduceMul,Int.reduceNeg,Int.reduceLT,Int.reduceLE,Int.reduceEq,Int.reduceToNat,Int.cast_ofNat_Int,↓reduceIte, a0, a7, a10, a11, a14, a15, a114, a115, a116]
    refine condP_split (fun hlt => ?_) (fun hlt => ?_)
    · have hm' : m < t.length := by omega
      have ml : (mixF (swG c d) t m).length = t.length := mixF_len
      have mg := mixF_gi (f := swG c d) hm'
      have hwm := h.width hm'
      have mL := mm.sl.L
      rw [ml] at mL
      have row := mm.sl.get (k := (m : Int)) (by omega) (by rw [ml]; omega)
      rw [mg] at row
      have rI := row.I
      rw [hwm] at rI
      obtain ⟨G1, G2, t1, t2, n1, n2, mm2, kp2⟩ := MT.swapE mm (lo := H.length) (i := m) (k := c) (l := d) (by omega) (by rw [ml]; exact hm') (by rw [mg, hwm]; exact hcc) (by rw [mg, hwm]; exact hdd)
      rw [mg] at t1 t2 mm2
      rw [mixF_set hm'] at mm2
      simp (disch := (first | assumption | omega | (simp only [List.length_append, List.length_cons, List.length_nil]; omega))) only [↓wD,wU,Nat.reduceBEq,zx150,zx151,zx159,zx160,zx161,zx162,Nat.reduceAdd,Nat.reduceSub,Nat.reduceMul,Nat.reduceLeDiff,Nat.reduceLT,Nat.reduceEqDiff,Int.reduceAdd,Int.reduceSub,Int.reduceMul,Int.reduceNeg,Int.reduceLT,Int.reduceLE,Int.reduceEq,Int.reduceToNat,Int.cast_ofNat_Int,↓reduceIte, a0, a7, a10, a11, a14, a15, a114, a115, a116, mL, rI, t1, t2]
      refine (ih hm').go ?_
      simp (disch := (first | assumption | omega | (simp only [List.length_append, List.length_cons, List.length_nil]; omega))) only [↓wD,wU,Nat.reduceBEq,zx150,zx151,zx159,zx160,zx161,zx162,Nat.reduceAdd,Nat.reduceSub,Nat.reduceMul,Nat.reduceLeDiff,Nat.reduceLT,Nat.reduceEqDiff,Int.reduceAdd,Int.reduceSub,Int.reduceMul,Int.reduceNeg,Int.reduceLT,Int.reduceLE,Int.reduceEq,Int.reduceToNat,Int.cast_ofNat_Int,↓reduceIte, a0, a7, a10, a11, a14, a15, a114, a115, a116]
      exact ⟨mm2, kp.trans kp2 fun _ h => h⟩
    · obtain rfl : m = t.length := by omega
      have em : mixF (swG c d) t t.length = t.map (swG c d) := by unfold mixF; simp
      rw [em] at mm
      have htG := (htb.weak (q := fun b => b < H5.length) fun b hb => by omega).kp kp
      have hv7G := ((hv7b.weak (q := fun b => b < H5.length) fun b hb => by omega).kp kp).weak (q := fun _ => True) fun _ _ => trivial
      have hv10G := ((s10b.weak (q := fun b => b < H5.length) fun b hb => hb.2).kp kp).weak (q := fun _ => True) fun _ _ => trivial
      have hv11G := mm.sl.weak (q := fun _ => True) fun _ _ => trivial
      replace htG : Sl (fun _ => True) G u t := htG.weak fun _ _ => trivial
      have tw7 := tw_turn h
      have tw10 := tw_swap h hi hj
      have tw11 := tw_cols h hcc hdd
      clear ih mm kp htb hv7b s10b m11b tL g0I L10 sa sb rt rt2 sm ht1 ht2 ht3 ht4 ht5 ht6 ht
      obtain ⟨⟨C1, C2⟩, eC⟩ : ∃ C, chF t = C := ⟨_, rfl⟩
      obtain ⟨⟨D1, D2⟩, eD⟩ : ∃ C, taF t = C := ⟨_, rfl⟩
      have hch : ∀ {t' : Tab} (_ : Tw6 t t') {p : Nat → Prop} {G : Heap} {v : AV} (_ : Sl p G v t'), RetP E 49 [v] G (.tp [.ag [.i C1, .i C2], .i 0]) := fun tw _ _ _ hs => by
        have := chance_ret hs tw.ok
        rw [tw.ch, eC] at this
        exact this
      have hta : ∀ {t' : Tab} (_ : Tw6 t t') {p : Nat → Prop} {G : Heap} {v : AV} (_ : Sl p G v t'), RetP E 50 [v] G (.tp [.ag [.i D1, .i D2], .i 0]) := fun tw _ _ _ hs => by
        have := tail_ret hs tw.ok
        rw [tw.ta, eD] at this
        exact this
      obtain ⟨O1, O2, e3, hof⟩ : ∃ O1 O2 e3 : Int, ∀ {t' : Tab} (_ : Tw6 t t') {p : Nat → Prop} {G : Heap} {v : AV} (_ : Sl p G v t'), RetP E 35 [v] G (.tp [.ag [.i O1, .i O2], .i e3]) := by
        by_cases hF : Full t
        · refine ⟨(fracN (offP t t.length) (allN t)).1, (fracN (offP t t.length) (allN t)).2, 0, fun tw _ _ _ hs => ?_⟩
          have := off_ret hs (tw.fu.2 hF)
          rw [tw.of] at this
          exact this
        · exact ⟨0, 0, 5, fun tw _ _ _ hs => off_state hs tw.ok fun q => hF (tw.fu.1 q)⟩
      have twR : Tw6 t t := ⟨h, rfl, rfl, Iff.rfl, rfl⟩
      have ec := cutT_ok h
      have stp : ∀ (G : Heap) (x y : Int), H.length ≤ G.length → st H.length (G ++ [Blk.cells [.i 0, .i 0]]) G.length 0 [.i x, .i y] = some (G ++ [Blk.cells [.i x, .i y]]) := fun G x y hG => by
        rw [st_of get_last hG (by simp)]
        congr 1
        simp [wr]
      have hq1 : decide (¬ (C1 = C1 ∧ C2 = C2)) = false := decide_eq_false fun q => q ⟨rfl, rfl⟩
      have hq2 : decide (¬ (D1 = D1 ∧ D2 = D2)) = false := decide_eq_false fun q => q ⟨rfl, rfl⟩
      have hq3 : decide (¬ (O1 = O1 ∧ O2 = O2)) = false := decide_eq_false fun q => q ⟨rfl, rfl⟩
      have hq4 : decide (¬ e3 = e3) = false := decide_eq_false fun q => q rfl
      have hGl : H.length ≤ G.length := by omega
      simp (disch := (first | assumption | omega | (simp only [List.length_append, List.length_cons, List.length_nil]; omega))) only [↓wD,wU,Nat.reduceBEq,zx150,zx151,zx159,zx160,zx161,zx162,Nat.reduceAdd,Nat.reduceSub,Nat.reduceMul,Nat.reduceLeDiff,Nat.reduceLT,Nat.reduceEqDiff,Int.reduceAdd,Int.reduceSub,Int.reduceMul,Int.reduceNeg,Int.reduceLT,Int.reduceLE,Int.reduceEq,Int.reduceToNat,Int.cast_ofNat_Int,↓reduceIte, a0, a7, a10, a11, a14, a15, a114, a115, a116]
      refine (table_ret htG).toFX fun z1 G1 y1 hz1 => ?_
      rw [ec] at hz1
      have c1 := hch twR hz1
      have q1 := y1.1
      have s1 := stp G1 C1 C2 (by omega)
      obtain ⟨G2, eG2⟩ : ∃ G2, G1 ++ [Blk.cells [.i C1, .i C2]] = G2 := ⟨_, rfl⟩
      have y12 : Kx (fun _ => True) G1 G2 := by rw [← eG2]; exact Kx.app _ _ _
      have g20 : G2[G1.length]? = some (.cells [.i C1, .i C2]) := by rw [← eG2]; exact get_last
      have q2 := y12.1
      rw [eG2] at s1
      have yA := y1.trans y12 fun _ _ _ => trivial
      clear hz1
      simp (disch := (first | assumption | omega | (simp only [List.length_append, List.length_cons, List.length_nil]; omega))) only [↓wD,wU,Nat.reduceBEq,zx150,zx151,zx159,zx160,zx161,zx162,Nat.reduceAdd,Nat.reduceSub,Nat.reduceMul,Nat.reduceLeDiff,Nat.reduceLT,Nat.reduceEqDiff,Int.reduceAdd,Int.reduceSub,Int.reduceMul,Int.reduceNeg,Int.reduceLT,Int.reduceLE,Int.reduceEq,Int.reduceToNat,Int.cast_ofNat_Int,↓reduceIte, a0, a7, a10, a11, c1.call, s1]
      refine (table_ret (htG.kp (yA.all _).kp)).toFX fun z2 G3 y3 hz2 => ?_
      rw [ec] at hz2
      have c2 := hta twR hz2
      have q3 := y3.1
      have s2 := stp G3 D1 D2 (by omega)
      obtain ⟨G4, eG4⟩ : ∃ G4, G3 ++ [Blk.cells [.i D1, .i D2]] = G4 := ⟨_, rfl⟩
      have y34 : Kx (fun _ => True) G3 G4 := by rw [← eG4]; exact Kx.app _ _ _
      have g22 : G4[G3.length]? = some (.cells [.i D1, .i D2]) := by rw [← eG4]; exact get_last
      have q4 := y34.1
      rw [eG4] at s2
      have y24 := y3.trans y34 fun _ _ _ => trivial
      have yB := yA.trans y24 fun _ _ _ => trivial
      clear hz2
      simp (disch := (first | assumption | omega | (simp only [List.length_append, List.length_cons, List.length_nil]; omega))) only [↓wD,wU,Nat.reduceBEq,zx150,zx151,zx159,zx160,zx161,zx162,Nat.reduceAdd,Nat.reduceSub,Nat.reduceMul,Nat.reduceLeDiff,Nat.reduceLT,Nat.reduceEqDiff,Int.reduceAdd,Int.reduceSub,Int.reduceMul,Int.reduceNeg,Int.reduceLT,Int.reduceLE,Int.reduceEq,Int.reduceToNat,Int.cast_ofNat_Int,↓reduceIte, a0, a7, a10, a11, c2.call, s2]
      refine (table_ret (htG.kp (yB.all _).kp)).toFX fun z3 G5 y5 hz3 => ?_
      rw [ec] at hz3
      have c3' := hof twR hz3
      have q5 := y5.1
      have s3 := stp G5 O1 O2 (by omega)
      obtain ⟨G6, eG6⟩ : ∃ G6, G5 ++ [Blk.cells [.i O1, .i O2]] = G6 := ⟨_, rfl⟩
      have y56 : Kx (fun _ => True) G5 G6 := by rw [← eG6]; exact Kx.app _ _ _
      have g24 : G6[G5.length]? = some (.cells [.i O1, .i O2]) := by rw [← eG6]; exact get_last
      have q6 := y56.1
      rw [eG6] at s3
      have y46 := y5.trans y56 fun _ _ _ => trivial
      have yC := yB.trans y46 fun _ _ _ => trivial
      have w7 := hv7G.cellsV
      have w10 := hv10G.cellsV
      have w11 := hv11G.cellsV
      obtain ⟨G7, eG7⟩ : ∃ G7, G6 ++ [Blk.cells [v7, v10, v11]] = G7 := ⟨_, rfl⟩
      have y67 : Kx (fun _ => True) G6 G7 := by rw [← eG7]; exact Kx.app _ _ _
      have g7 : G7[G6.length]? = some (.cells [v7, v10, v11]) := by rw [← eG7]; exact get_last
      have q7 := y67.1
      have yD := yC.trans y67 fun _ _ _ => trivial
      have f20 := y67.get trivial (y46.get trivial (y24.get trivial g20))
      have f22 := y67.get trivial (y46.get trivial g22)
      have f24 := y67.get trivial g24
      have el : ∀ m : Nat, m < 3 → ∃ w t', ([v7, v10, v11] : List AV)[m]? = some w ∧ Sl (fun _ => True) G7 w t' ∧ Tw6 t t' := fun m hm => by
        obtain rfl | rfl | rfl : m = 0 ∨ m = 1 ∨ m = 2 := by omega
        · exact ⟨v7, _, rfl, hv7G.kp yD.kp, tw7⟩
        · exact ⟨v10, _, rfl, hv10G.kp yD.kp, tw10⟩
        · exact ⟨v11, _, rfl, hv11G.kp yD.kp, tw11⟩
      obtain ⟨V, eV⟩ : ∃ V, AV.s 1 G6.length 0 3 (some 3) = V := ⟨_, rfl⟩
      have iV : ∀ m : Nat, m < 3 → iaddrV 1 V (.i (m : Int)) = some (.p G6.length m) := fun m hm => by
        rw [← eV]
        exact zx178 hm
      clear hz3
      simp (disch := (first | assumption | omega | (simp only [List.length_append, List.length_cons, List.length_nil]; omega))) only [↓wD,wU,Nat.reduceBEq,zx150,zx151,zx159,zx160,zx161,zx162,Nat.reduceAdd,Nat.reduceSub,Nat.reduceMul,Nat.reduceLeDiff,Nat.reduceLT,Nat.reduceEqDiff,Int.reduceAdd,Int.reduceSub,Int.reduceMul,Int.reduceNeg,Int.reduceLT,Int.reduceLE,Int.reduceEq,Int.reduceToNat,Int.cast_ofNat_Int,↓reduceIte, a0, a7, a10, a11, c3'.call, s3, w7, w10, w11]
      rw [eG7]
      refine Wp.for 3 (fun m a K => a 20 = .p G1.length 0 ∧ a 21 = .i 0 ∧ a 22 = .p G3.length 0 ∧ a 23 = .i 0 ∧ a 24 = .p G5.length 0 ∧ a 25 = .i e3 ∧ a 157 = V ∧ a 158 = .i 3 ∧ a 159 = .i m ∧ Kx (fun _ => True) G7 K) ?_ ?_
      · clear a0 a7 a10 a11 a14 a15 a114 a115 a116 a
        rintro m a K hm ⟨a20, a21, a22, a23, a24, a25, a157, a158, a159, xK⟩ ih
        have qK := xK.1
        simp (disch := (first | assumption | omega | (simp only [List.length_append, List.length_cons, List.length_nil]; omega))) only [↓wD,wU,Nat.reduceBEq,zx150,zx151,zx159,zx160,zx161,zx162,Nat.reduceAdd,Nat.reduceSub,Nat.reduceMul,Nat.reduceLeDiff,Nat.reduceLT,Nat.reduceEqDiff,Int.reduceAdd,Int.reduceSub,Int.reduceMul,Int.reduceNeg,Int.reduceLT,Int.reduceLE,Int.reduceEq,Int.reduceToNat,Int.cast_ofNat_Int,↓reduceIte, a20, a21, a22, a23, a24, a25, a157, a158, a159]
        refine condP_split (fun hlt => ?_) (fun hlt => ?_)
        · have hm' : m < 3 := by omega
          obtain ⟨w, t', l1, l2, tw⟩ := el m hm'
          have iVm := iV m hm'
          have ldm : ld K G6.length m = some w := by rw [ld_of (xK.get trivial g7)]; exact l1
          have ec' := cutT_ok tw.ok
          have l2K := l2.kp xK.kp
          simp (disch := (first | assumption | omega | (simp only [List.length_append, List.length_cons, List.length_nil]; omega))) only [↓wD,wU,Nat.reduceBEq,zx150,zx151,zx159,zx160,zx161,zx162,Nat.reduceAdd,Nat.reduceSub,Nat.reduceMul,Nat.reduceLeDiff,Nat.reduceLT,Nat.reduceEqDiff,Int.reduceAdd,Int.reduceSub,Int.reduceMul,Int.reduceNeg,Int.reduceLT,Int.reduceLE,Int.reduceEq,Int.reduceToNat,Int.cast_ofNat_Int,↓reduceIte, a20, a21, a22, a23, a24, a25, a157, a158, a159, iVm, ldm]
          refine (table_ret l2K).toFX fun z1 K1 u1 hz1 => ?_
          rw [ec'] at hz1
          have c1 := hch tw hz1
          have p1 := u1.1
          have s1 := stp K1 C1 C2 (by omega)
          obtain ⟨K2, eK2⟩ : ∃ K2, K1 ++ [Blk.cells [.i C1, .i C2]] = K2 := ⟨_, rfl⟩
          have u12 : Kx (fun _ => True) K1 K2 := by rw [← eK2]; exact Kx.app _ _ _
          have k28 : K2[K1.length]? = some (.cells [.i C1, .i C2]) := by rw [← eK2]; exact get_last
          have p2 := u12.1
          rw [eK2] at s1
          have uA := u1.trans u12 fun _ _ _ => trivial
          clear hz1
          simp (disch := (first | assumption | omega | (simp only [List.length_append, List.length_cons, List.length_nil]; omega))) only [↓wD,wU,Nat.reduceBEq,zx150,zx151,zx159,zx160,zx161,zx162,Nat.reduceAdd,Nat.reduceSub,Nat.reduceMul,Nat.reduceLeDiff,Nat.reduceLT,Nat.reduceEqDiff,Int.reduceAdd,Int.reduceSub,Int.reduceMul,Int.reduceNeg,Int.reduceLT,Int.reduceLE,Int.reduceEq,Int.reduceToNat,Int.cast_ofNat_Int,↓reduceIte, a20, a21, a22, a23, a24, a25, a157, a158, a159, c1.call, s1]
          refine (table_ret (l2K.kp uA.kp)).toFX fun z2 K3 u3 hz2 => ?_
          rw [ec'] at hz2
          have c2 := hta tw hz2
          have p3 := u3.1
          have s2 := stp K3 D1 D2 (by omega)
          obtain ⟨K4, eK4⟩ : ∃ K4, K3 ++ [Blk.cells [.i D1, .i D2]] = K4 := ⟨_, rfl⟩
          have u34 : Kx (fun _ => True) K3 K4 := by rw [← eK4]; exact Kx.app _ _ _
          have k30 : K4[K3.length]? = some (.cells [.i D1, .i D2]) := by rw [← eK4]; exact get_last
          have p4 := u34.1
          rw [eK4] at s2
          have u24 := u3.trans u34 fun _ _ _ => trivial
          have uB := uA.trans u24 fun _ _ _ => trivial
          clear hz2
          simp (disch := (first | assumption | omega | (simp only [List.length_append, List.length_cons, List.length_nil]; omega))) only [↓wD,wU,Nat.reduceBEq,zx150,zx151,zx159,zx160,zx161,zx162,Nat.reduceAdd,Nat.reduceSub,Nat.reduceMul,Nat.reduceLeDiff,Nat.reduceLT,Nat.reduceEqDiff,Int.reduceAdd,Int.reduceSub,Int.reduceMul,Int.reduceNeg,Int.reduceLT,Int.reduceLE,Int.reduceEq,Int.reduceToNat,Int.cast_ofNat_Int,↓reduceIte, a20, a21, a22, a23, a24, a25, a157, a158, a159, c2.call, s2]
          refine (table_ret (l2K.kp uB.kp)).toFX fun z3 K5 u5 hz3 => ?_
          rw [ec'] at hz3
          have c3 := hof tw hz3
          have p5 := u5.1
          have s3 := stp K5 O1 O2 (by omega)
          obtain ⟨K6, eK6⟩ : ∃ K6, K5 ++ [Blk.cells [.i O1, .i O2]] = K6 := ⟨_, rfl⟩
          have u56 : Kx (fun _ => True) K5 K6 := by rw [← eK6]; exact Kx.app _ _ _
          have k32 : K6[K5.length]? = some (.cells [.i O1, .i O2]) := by rw [← eK6]; exact get_last
          rw [eK6] at s3
          have u46 := u5.trans u56 fun _ _ _ => trivial
          have uC := (xK.trans uB fun _ _ _ => trivial).trans u46 fun _ _ _ => trivial
          have r28 := u46.get trivial (u24.get trivial k28)
          have r30 := u46.get trivial k30
          have r20 := uC.get trivial f20
          have r22 := uC.get trivial f22
          have r24 := uC.get trivial f24
          clear hz3
          simp (disch := (first | assumption | omega | (simp only [List.length_append, List.length_cons, List.length_nil]; omega))) only [↓wD,wU,Nat.reduceBEq,zx150,zx151,zx159,zx160,zx161,zx162,Nat.reduceAdd,Nat.reduceSub,Nat.reduceMul,Nat.reduceLeDiff,Nat.reduceLT,Nat.reduceEqDiff,Int.reduceAdd,Int.reduceSub,Int.reduceMul,Int.reduceNeg,Int.reduceLT,Int.reduceLE,Int.reduceEq,Int.reduceToNat,Int.cast_ofNat_Int,↓reduceIte, a20, a21, a22, a23, a24, a25, a157, a158, a159, c3.call, s3, ldn_of r28, ldn_of r30, ldn_of k32, ldn_of r20, ldn_of r22, ldn_of r24, hq1, hq2, hq3, hq4]
          refine (ih hm').go ?_
          simp (disch := (first | assumption | omega | (simp only [List.length_append, List.length_cons, List.length_nil]; omega))) only [↓wD,wU,Nat.reduceBEq,zx150,zx151,zx159,zx160,zx161,zx162,Nat.reduceAdd,Nat.reduceSub,Nat.reduceMul,Nat.reduceLeDiff,Nat.reduceLT,Nat.reduceEqDiff,Int.reduceAdd,Int.reduceSub,Int.reduceMul,Int.reduceNeg,Int.reduceLT,Int.reduceLE,Int.reduceEq,Int.reduceToNat,Int.cast_ofNat_Int,↓reduceIte, a20, a21, a22, a23, a24, a25, a157, a158, a159]
          exact uC
        · simp (disch := (first | assumption | omega | (simp only [List.length_append, List.length_cons, List.length_nil]; omega))) only [↓wD,wU,Nat.reduceBEq,zx150,zx151,zx159,zx160,zx161,zx162,Nat.reduceAdd,Nat.reduceSub,Nat.reduceMul,Nat.reduceLeDiff,Nat.reduceLT,Nat.reduceEqDiff,Int.reduceAdd,Int.reduceSub,Int.reduceMul,Int.reduceNeg,Int.reduceLT,Int.reduceLE,Int.reduceEq,Int.reduceToNat,Int.cast_ofNat_Int,↓reduceIte, a20, a21, a22, a23, a24, a25, a157, a158, a159, awake_ret.call]
      · simp (disch := (first | assumption | omega | (simp only [List.length_append, List.length_cons, List.length_nil]; omega))) only [↓wD,wU,Nat.reduceBEq,zx150,zx151,zx159,zx160,zx161,zx162,Nat.reduceAdd,Nat.reduceSub,Nat.reduceMul,Nat.reduceLeDiff,Nat.reduceLT,Nat.reduceEqDiff,Int.reduceAdd,Int.reduceSub,Int.reduceMul,Int.reduceNeg,Int.reduceLT,Int.reduceLE,Int.reduceEq,Int.reduceToNat,Int.cast_ofNat_Int,↓reduceIte, a0, a7, a10, a11]
        exact ⟨eV, Kx.refl _ _⟩
  · simp (disch := (first | assumption | omega | (simp only [List.length_append, List.length_cons, List.length_nil]; omega))) only [↓wD,wU,Nat.reduceBEq,zx150,zx151,zx159,zx160,zx161,zx162,Nat.reduceAdd,Nat.reduceSub,Nat.reduceMul,Nat.reduceLeDiff,Nat.reduceLT,Nat.reduceEqDiff,Int.reduceAdd,Int.reduceSub,Int.reduceMul,Int.reduceNeg,Int.reduceLT,Int.reduceLE,Int.reduceEq,Int.reduceToNat,Int.cast_ofNat_Int,↓reduceIte]
    have e0 : mixF (swG c d) t 0 = t := by unfold mixF; simp
    rw [e0]
    exact ⟨m11b, Kp.refl _ _⟩
end Go.Proofs.Ytflekaacffdakaa
