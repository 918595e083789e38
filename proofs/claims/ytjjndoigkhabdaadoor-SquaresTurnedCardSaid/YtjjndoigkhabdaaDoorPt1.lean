/- What the law needs: what its functions do, and the laws on lists behind it. No condition. -/
import Derived.Test.YtjjndoigkhabdaaDoorPt0
import Derived.Lib.TrailingZeros
import Derived.Shelf.Spec.TrailingZeros
import Derived.KernelRfl
import Derived.Laws.StructEq
import Derived.Test.YtjjndoigkhabdaaDoorRows
import Derived.ProofKit
import Derived.LaidMore
import Derived.OpenShut
import Derived.Stop.Joined
import Derived.WalkKit
import Derived.ShutString
import Derived.ChangeOld
import Derived.Below
import Derived.SizedLaws
import Derived.Carry
import Derived.SevenTiedAt
set_option linter.unusedSimpArgs false
set_option linter.unusedVariables false
namespace Go.Proofs.YtjjndoigkhabdaaDoor
open Go Go.AM Go.Proofs
/-- a slice of what is known, its block and its place -/
structure KB (v : AV) (kb o : Nat) (H : Heap) (K : KS) : Prop where
  v : ∃ c, v = .s 2 kb o K.length c
  k : ∃ k, H[kb]? = some (.cells k) ∧ o + 2 * K.length ≤ k.length ∧ ∀ i, i < K.length → k[o + 2 * i]? = some (.i (fK K i : Nat)) ∧ k[o + 2 * i + 1]? = some (.i (eK K i : Nat))
  b : K.length ≤ 1000
def pK (K : KS) : List (Int × Int) := K.map fun q => ((q.1 : Int), (q.2 : Int))
theorem pK_len {K : KS} : (pK K).length = K.length := by simp [pK]
theorem pK_gi {K : KS} {i : Nat} (h : i < K.length) : gi (pK K) (i : Int) = ((fK K i : Int), (eK K i : Int)) := by
  unfold fK eK
  rw [gi_nat h, gi_nat (by rw [pK_len]; exact h)]
  simp [pK]
theorem pK_inj {K L : KS} : pK K = pK L ↔ K = L := by
  refine ⟨fun h => ?_, fun h => by rw [h]⟩
  refine List.map_inj_right (fun x y h => ?_) |>.1 h
  simp only [Prod.mk.injEq] at h
  exact Prod.ext (Int.ofNat.inj h.1) (Int.ofNat.inj h.2)
section
variable {v : AV} {kb o lo : Nat} {H H' : Heap} {K : KS}
theorem KB.lt (h : KB v kb o H K) : kb < H.length := by
  obtain ⟨k, hk, _⟩ := h.k
  exact (List.getElem?_eq_some_iff.1 hk).1
theorem KB.kx {p : Nat → Prop} (h : KB v kb o H K) (hx : Kx p H H') (hp : p kb) : KB v kb o H' K := by
  obtain ⟨k, hk, h2⟩ := h.k
  exact ⟨h.v, ⟨k, hx.get hp hk, h2⟩, h.b⟩
theorem dt2 {α : Type} {l : List α} {n : Nat} {a b : α} (h1 : l[n]? = some a) (h2 : l[n + 1]? = some b) : (l.drop n).take 2 = [a, b] := by
  obtain ⟨hn, e1⟩ := List.getElem?_eq_some_iff.1 h1
  obtain ⟨hn2, e2⟩ := List.getElem?_eq_some_iff.1 h2
  rw [List.drop_eq_getElem_cons hn, List.drop_eq_getElem_cons hn2]
  simp [e1, e2]
theorem KB.T (h : KB v kb o H K) : lenV v = some (.i K.length) ∧ (∀ (kk : IntKind) (i : Nat), i < K.length → iaddrV 2 v (.int kk (i : Int)) = some (.p kb (o + 2 * i))) ∧ v.cells = [v] ∧ v.one = true ∧
    (∀ i, i < K.length → ld H kb (o + 2 * i) = some (.i (fK K i : Nat))) ∧ (∀ i, i < K.length → ld H kb (o + 2 * i + 1) = some (.i (eK K i : Nat))) ∧ (∀ i, i < K.length → ldn H kb (o + 2 * i) 2 = some [.i (fK K i : Nat), .i (eK K i : Nat)]) := by
  obtain ⟨⟨c, rfl⟩, ⟨k, hk, h1, h2⟩, hb⟩ := h
  refine ⟨rfl, fun kk i hi => ?_, rfl, rfl, fun i hi => ?_, fun i hi => ?_, fun i hi => ?_⟩
  · rw [zx178 (by omega) (by omega), Int.toNat_natCast, Nat.mul_comm]
  · rw [ld_of hk]; exact (h2 i hi).1
  · rw [ld_of hk]; exact (h2 i hi).2
  · rw [ldn_of hk, if_pos (by omega), dt2 (h2 i hi).1 (h2 i hi).2]
theorem KB.sl (h : KB v kb o H K) : Sl (fun b => b = kb) H v (pK K) := by
  obtain ⟨⟨c, rfl⟩, ⟨k, hk, h1, h2⟩, hb⟩ := h
  refine .inr ⟨kb, o, c, k, by rw [pK_len]; rfl, rfl, hk, ?_, by rw [pK_len]; omega, fun i hi => ?_⟩
  · change o + (pK K).length * 2 ≤ _
    rw [pK_len]; omega
  · rw [pK_len] at hi
    have e : (pK K)[i]'(by rw [pK_len]; exact hi) = ((fK K i : Int), (eK K i : Int)) := by rw [← pK_gi hi, gi_nat (by rw [pK_len]; exact hi)]
    rw [e]
    have e2 : (k.drop (o + i * 2)).take 2 = [.i (fK K i : Nat), .i (eK K i : Nat)] := by
      rw [Nat.mul_comm i 2]
      exact dt2 (h2 i hi).1 (h2 i hi).2
    exact ⟨[.i (fK K i : Nat)], [.i (eK K i : Nat)], e2, rfl, rfl⟩
theorem KB.of {p : Nat → Prop} (h : Sl p H v (pK K)) (hne : K ≠ []) (hb : K.length ≤ 1000) : ∃ kb o, p kb ∧ KB v kb o H K := by
  rcases h with ⟨_, e⟩ | ⟨b, o, c, k, rfl, h1, hk, h3, h4, h5⟩
  · exact absurd (List.map_eq_nil_iff.1 e) hne
  · change o + (pK K).length * 2 ≤ _ at h3
    rw [pK_len] at h3
    refine ⟨b, o, h1, ⟨c, by rw [pK_len]; rfl⟩, ⟨k, hk, by omega, fun i hi => ?_⟩, hb⟩
    have := h5 i (by rw [pK_len]; exact hi)
    have e : (pK K)[i]'(by rw [pK_len]; exact hi) = ((fK K i : Int), (eK K i : Int)) := by rw [← pK_gi hi, gi_nat (by rw [pK_len]; exact hi)]
    rw [e] at this
    obtain ⟨c1, c2, this, r1, r2⟩ := this
    change (k.drop (o + i * 2)).take 2 = _ at this
    change c1 = [.i (fK K i : Nat)] at r1
    change c2 = [.i (eK K i : Nat)] at r2
    rw [Nat.mul_comm i 2, r1, r2] at this
    have l1 : o + 2 * i < k.length := by omega
    have l2 : o + 2 * i + 1 < k.length := by omega
    rw [List.drop_eq_getElem_cons l1, List.drop_eq_getElem_cons l2] at this
    simp only [List.take_succ_cons, List.take_zero, List.cons.injEq, and_true, List.cons_append, List.nil_append] at this
    exact ⟨by rw [List.getElem?_eq_getElem l1, this.1], by rw [List.getElem?_eq_getElem l2, this.2]⟩
theorem KB.st1 (h : KB v kb o H K) (hlo : lo ≤ kb) {i : Nat} (hi : i < K.length) (x : Nat) : ∃ H', st lo H kb (o + 2 * i) [.i (x : Int)] = some H' ∧ H'.length = H.length ∧ Kx (fun b => b ≠ kb) H H' ∧ KB v kb o H' (K.set i (x, eK K i)) := by
  obtain ⟨hv, ⟨k, hk, h1, h2⟩, hb⟩ := h
  refine ⟨_, st_of hk hlo (by simp; omega), by simp, Kx.set _ _ _, by rwa [List.length_set], ⟨_, get_set hk, ?_, fun j hj => ?_⟩, by rwa [List.length_set]⟩
  · simp [wr]; exact h1
  · rw [List.length_set] at hj
    rw [fK_set hi, eK_set hi]
    simp only [wr]
    by_cases e : j = i
    · subst e
      rw [if_pos rfl, if_pos rfl, List.getElem?_set_self (by omega), List.getElem?_set_ne (by omega)]
      exact ⟨rfl, (h2 j hj).2⟩
    · rw [if_neg e, if_neg e, List.getElem?_set_ne (by omega), List.getElem?_set_ne (by omega)]
      exact h2 j hj
theorem KB.st2 (h : KB v kb o H K) (hlo : lo ≤ kb) {i : Nat} (hi : i < K.length) (x : Nat) : ∃ H', st lo H kb (o + 2 * i + 1) [.i (x : Int)] = some H' ∧ H'.length = H.length ∧ Kx (fun b => b ≠ kb) H H' ∧ KB v kb o H' (K.set i (fK K i, x)) := by
  obtain ⟨hv, ⟨k, hk, h1, h2⟩, hb⟩ := h
  refine ⟨_, st_of hk hlo (by simp; omega), by simp, Kx.set _ _ _, by rwa [List.length_set], ⟨_, get_set hk, ?_, fun j hj => ?_⟩, by rwa [List.length_set]⟩
  · simp [wr]; exact h1
  · rw [List.length_set] at hj
    rw [fK_set hi, eK_set hi]
    simp only [wr]
    by_cases e : j = i
    · subst e
      rw [if_pos rfl, if_pos rfl, List.getElem?_set_ne (by omega), List.getElem?_set_self (by omega)]
      exact ⟨(h2 j hj).1, rfl⟩
    · rw [if_neg e, if_neg e, List.getElem?_set_ne (by omega), List.getElem?_set_ne (by omega)]
      exact h2 j hj
theorem KB.st12 (h : KB v kb o H K) (hlo : lo ≤ kb) {i : Nat} (hi : i < K.length) (x y : Nat) : ∃ H', st lo H kb (o + 2 * i) [.i (x : Int), .i (y : Int)] = some H' ∧ H'.length = H.length ∧ Kx (fun b => b ≠ kb) H H' ∧ KB v kb o H' (K.set i (x, y)) := by
  obtain ⟨hv, ⟨k, hk, h1, h2⟩, hb⟩ := h
  refine ⟨_, st_of hk hlo (by simp; omega), by simp, Kx.set _ _ _, by rwa [List.length_set], ⟨_, get_set hk, ?_, fun j hj => ?_⟩, by rwa [List.length_set]⟩
  · simp [wr]; exact h1
  · rw [List.length_set] at hj
    rw [fK_set hi, eK_set hi]
    simp only [wr]
    by_cases e : j = i
    · subst e
      rw [if_pos rfl, if_pos rfl, List.getElem?_set_ne (by omega), List.getElem?_set_self (by omega), List.getElem?_set_self (by rw [List.length_set]; omega)]
      exact ⟨rfl, rfl⟩
    · rw [if_neg e, if_neg e, List.getElem?_set_ne (by omega), List.getElem?_set_ne (by omega), List.getElem?_set_ne (by omega), List.getElem?_set_ne (by omega)]
      exact h2 j hj
end
theorem kclone_ret {p : Nat → Prop} {H : Heap} {v : AV} {xs : List (Int × Int)} (hx : Sl p H v xs) (hs : xs.length * 16 ≤ 1099511627776) : Ret E 96 [v] (fun _ => False) H xs := by
  refine Ret.ro rfl fn96 rfl ?_
  unfold f96A
  have main : ∀ {Q : AV × Heap → Prop}, (∀ v' H', Sl (fun b => H.length ≤ b) H' v' xs → Q (v', H')) → @optP _ (appendV H.length 2 16 (.s 2 H.length 0 0 (some 0)) v (H ++ [.cells []])) ⟨Q⟩ := fun {Q} go => by
    have ha : Acc H.length (fun _ => True) (H ++ [.cells []]) (.s 2 H.length 0 0 (some 0)) ([] : List (Int × Int)) := Acc.fresh0 (Nat.le_refl _)
    refine ha.extend (q := fun b => b < H.length) (Nat.le_refl _) (by simp) ((hx.low.app [.cells []]).weak fun b h => h.2) (fun b hb => ⟨trivial, ?_⟩) (by simpa using hs) (by omega) fun v' H' h' _ => go _ _ ?_
    · intro e; simp only [AV.blk, Option.some.injEq] at e; omega
    · rw [List.nil_append] at h'
      rcases h' with h' | ⟨b, o, c, k, e, hb, hk, h1, h2, h3⟩
      · exact .inl h'
      · exact .inr ⟨b, o, c, k, e, hb, hk, h1, h2, h3⟩
  rcases hx with ⟨rfl, rfl⟩ | ⟨b, o, c, k, e, hb, hk, h1, h2, h3⟩
  · simp (disch := (first | assumption | omega | (simp only [List.length_append, List.length_cons, List.length_nil]; omega))) only [↓wD,wU,Nat.reduceBEq,zx150,zx151,zx159,zx160,zx161,zx162,Nat.reduceAdd,Nat.reduceSub,Nat.reduceMul,Nat.reduceLeDiff,Nat.reduceLT,Nat.reduceEqDiff,Int.reduceAdd,Int.reduceSub,Int.reduceMul,Int.reduceNeg,Int.reduceLT,Int.reduceLE,Int.reduceEq,Int.reduceToNat,Int.cast_ofNat_Int,↓reduceIte]
    exact Sl.nil
  · subst e
    simp (disch := (first | assumption | omega | (simp only [List.length_append, List.length_cons, List.length_nil]; omega))) only [↓wD,wU,Nat.reduceBEq,zx150,zx151,zx159,zx160,zx161,zx162,Nat.reduceAdd,Nat.reduceSub,Nat.reduceMul,Nat.reduceLeDiff,Nat.reduceLT,Nat.reduceEqDiff,Int.reduceAdd,Int.reduceSub,Int.reduceMul,Int.reduceNeg,Int.reduceLT,Int.reduceLE,Int.reduceEq,Int.reduceToNat,Int.cast_ofNat_Int,↓reduceIte]
    refine main fun v' H' h' => ?_
    simp (disch := (first | assumption | omega | (simp only [List.length_append, List.length_cons, List.length_nil]; omega))) only [↓wD,wU,Nat.reduceBEq,zx150,zx151,zx159,zx160,zx161,zx162,Nat.reduceAdd,Nat.reduceSub,Nat.reduceMul,Nat.reduceLeDiff,Nat.reduceLT,Nat.reduceEqDiff,Int.reduceAdd,Int.reduceSub,Int.reduceMul,Int.reduceNeg,Int.reduceLT,Int.reduceLE,Int.reduceEq,Int.reduceToNat,Int.cast_ofNat_Int,↓reduceIte]
    exact h'.weak fun _ h => .inr h
theorem kequal_ret {p q : Nat → Prop} {H : Heap} {v u : AV} {xs ys : List (Int × Int)} (hx : Sl p H v xs) (hy : Sl q H u ys) : RetP E 99 [v, u] H (.b (decide (xs = ys))) := by
  refine RetP.ro rfl fn99 rfl rfl ?_
  unfold f99A
  have hbx := hx.bound
  have hxT := hx.T
  have hyT := hy.T
  by_cases hl : xs.length = ys.length
  · have d1 : decide (¬ (xs.length : Int) = ys.length) = false := decide_eq_false (by omega)
    simp (disch := (first | assumption | omega | (simp only [List.length_append, List.length_cons, List.length_nil]; omega))) only [↓wD,wU,Nat.reduceBEq,zx150,zx151,zx159,zx160,zx161,zx162,Nat.reduceAdd,Nat.reduceSub,Nat.reduceMul,Nat.reduceLeDiff,Nat.reduceLT,Nat.reduceEqDiff,Int.reduceAdd,Int.reduceSub,Int.reduceMul,Int.reduceNeg,Int.reduceLT,Int.reduceLE,Int.reduceEq,Int.reduceToNat,Int.cast_ofNat_Int,↓reduceIte, hxT, hyT, d1]
    refine Wp.for xs.length (fun i a H' => H' = H ∧ a 0 = v ∧ a 1 = u ∧ a 12 = .i xs.length ∧ a 13 = .i i ∧ xs.take i = ys.take i) ?_ ?_
    · rintro i a H' hi ⟨rfl, h0, h1, h12, h13, hh⟩ ih
      simp (disch := (first | assumption | omega | (simp only [List.length_append, List.length_cons, List.length_nil]; omega))) only [↓wD,wU,Nat.reduceBEq,zx150,zx151,zx159,zx160,zx161,zx162,Nat.reduceAdd,Nat.reduceSub,Nat.reduceMul,Nat.reduceLeDiff,Nat.reduceLT,Nat.reduceEqDiff,Int.reduceAdd,Int.reduceSub,Int.reduceMul,Int.reduceNeg,Int.reduceLT,Int.reduceLE,Int.reduceEq,Int.reduceToNat,Int.cast_ofNat_Int,↓reduceIte, h0, h1, h12, h13]
      refine condP_split (fun hlt => ?_) (fun hlt => ?_)
      · have hi' : i < xs.length := by omega
        by_cases he : gi xs (i : Int) = gi ys (i : Int)
        · have d2 : decide (¬ ((gi xs (i : Int)).1 = (gi ys (i : Int)).1 ∧ (gi xs (i : Int)).2 = (gi ys (i : Int)).2)) = false := decide_eq_false fun h => h (by rw [he]; exact ⟨rfl, rfl⟩)
          simp (disch := (first | assumption | omega | (simp only [List.length_append, List.length_cons, List.length_nil]; omega))) only [↓wD,wU,Nat.reduceBEq,zx150,zx151,zx159,zx160,zx161,zx162,Nat.reduceAdd,Nat.reduceSub,Nat.reduceMul,Nat.reduceLeDiff,Nat.reduceLT,Nat.reduceEqDiff,Int.reduceAdd,Int.reduceSub,Int.reduceMul,Int.reduceNeg,Int.reduceLT,Int.reduceLE,Int.reduceEq,Int.reduceToNat,Int.cast_ofNat_Int,↓reduceIte, h0, h1, h12, h13, hxT, hyT, d2]
          refine (ih hi').go ⟨rfl, ?_⟩
          simp (disch := (first | assumption | omega | (simp only [List.length_append, List.length_cons, List.length_nil]; omega))) only [↓wD,wU,Nat.reduceBEq,zx150,zx151,zx159,zx160,zx161,zx162,Nat.reduceAdd,Nat.reduceSub,Nat.reduceMul,Nat.reduceLeDiff,Nat.reduceLT,Nat.reduceEqDiff,Int.reduceAdd,Int.reduceSub,Int.reduceMul,Int.reduceNeg,Int.reduceLT,Int.reduceLE,Int.reduceEq,Int.reduceToNat,Int.cast_ofNat_Int,↓reduceIte, h0, h1, h12, h13]
          exact take_eq_succ hh hi' (by omega) he
        · have d2 : decide (¬ ((gi xs (i : Int)).1 = (gi ys (i : Int)).1 ∧ (gi xs (i : Int)).2 = (gi ys (i : Int)).2)) = true := decide_eq_true fun h => he (Prod.ext h.1 h.2)
          have e : decide (xs = ys) = false := decide_eq_false fun h => he (by rw [h])
          simp (disch := (first | assumption | omega | (simp only [List.length_append, List.length_cons, List.length_nil]; omega))) only [↓wD,wU,Nat.reduceBEq,zx150,zx151,zx159,zx160,zx161,zx162,Nat.reduceAdd,Nat.reduceSub,Nat.reduceMul,Nat.reduceLeDiff,Nat.reduceLT,Nat.reduceEqDiff,Int.reduceAdd,Int.reduceSub,Int.reduceMul,Int.reduceNeg,Int.reduceLT,Int.reduceLE,Int.reduceEq,Int.reduceToNat,Int.cast_ofNat_Int,↓reduceIte, h0, h1, h12, h13, hxT, hyT, d2, e]
      · simp (disch := (first | assumption | omega | (simp only [List.length_append, List.length_cons, List.length_nil]; omega))) only [↓wD,wU,Nat.reduceBEq,zx150,zx151,zx159,zx160,zx161,zx162,Nat.reduceAdd,Nat.reduceSub,Nat.reduceMul,Nat.reduceLeDiff,Nat.reduceLT,Nat.reduceEqDiff,Int.reduceAdd,Int.reduceSub,Int.reduceMul,Int.reduceNeg,Int.reduceLT,Int.reduceLE,Int.reduceEq,Int.reduceToNat,Int.cast_ofNat_Int,↓reduceIte, h0, h1, h12, h13]
        exact avb_t (take_all hh hl (by omega))
    · (simp (disch := (first | assumption | omega | (simp only [List.length_append, List.length_cons, List.length_nil]; omega))) only [↓wD,wU,Nat.reduceBEq,zx150,zx151,zx159,zx160,zx161,zx162,Nat.reduceAdd,Nat.reduceSub,Nat.reduceMul,Nat.reduceLeDiff,Nat.reduceLT,Nat.reduceEqDiff,Int.reduceAdd,Int.reduceSub,Int.reduceMul,Int.reduceNeg,Int.reduceLT,Int.reduceLE,Int.reduceEq,Int.reduceToNat,Int.cast_ofNat_Int,↓reduceIte]) <;> simp
  · have d1 : decide (¬ (xs.length : Int) = ys.length) = true := decide_eq_true (by omega)
    have e : decide (xs = ys) = false := decide_eq_false fun h => hl (by rw [h])
    simp (disch := (first | assumption | omega | (simp only [List.length_append, List.length_cons, List.length_nil]; omega))) only [↓wD,wU,Nat.reduceBEq,zx150,zx151,zx159,zx160,zx161,zx162,Nat.reduceAdd,Nat.reduceSub,Nat.reduceMul,Nat.reduceLeDiff,Nat.reduceLT,Nat.reduceEqDiff,Int.reduceAdd,Int.reduceSub,Int.reduceMul,Int.reduceNeg,Int.reduceLT,Int.reduceLE,Int.reduceEq,Int.reduceToNat,Int.cast_ofNat_Int,↓reduceIte, hxT, hyT, d1, e]
end Go.Proofs.YtjjndoigkhabdaaDoor
namespace Go.Proofs.YtjjndoigkhabdaaDoor
open Go Go.AM Go.Proofs
theorem nc_p {b o : Nat} : nilchkV (.p b o) = some (.p b o) := rfl
/-- a board: its block, the Puzzle's block, what is known -/
structure Bd (L bp pp : Nat) (u w : AV) (xs ys : List (List Int)) (v : AV) (kb o : Nat) (H : Heap) (K : KS) : Prop where
  b : H[bp]? = some (.cells [.p pp 0, v])
  p : H[pp]? = some (.cells [u, w])
  x : Sl (fun b => b < L) H u xs
  y : Sl (fun b => b < L) H w ys
  k : KB v kb o H K
  hp : pp < L
  hb : L ≤ bp
  hk : L ≤ kb
  ne : bp ≠ kb
section
variable {L bp pp kb o lo : Nat} {u w v : AV} {xs ys : List (List Int)} {H H' : Heap} {K K' : KS}
theorem Bd.kx (h : Bd L bp pp u w xs ys v kb o H K) (hx : Kx (fun b => b < L ∨ b = bp ∨ b = kb) H H') : Bd L bp pp u w xs ys v kb o H' K :=
  ⟨hx.get (.inr (.inl rfl)) h.b, hx.get (.inl h.hp) h.p, h.x.kp (hx.weak fun b _ h => .inl h).kp, h.y.kp (hx.weak fun b _ h => .inl h).kp, h.k.kx hx (.inr (.inr rfl)), h.hp, h.hb, h.hk, h.ne⟩
theorem Bd.all (h : Bd L bp pp u w xs ys v kb o H K) (hx : Kx (fun _ => True) H H') : Bd L bp pp u w xs ys v kb o H' K := h.kx (hx.all _)
theorem Bd.upd (h : Bd L bp pp u w xs ys v kb o H K) (hx : Kx (fun b => b ≠ kb) H H') (hk : KB v kb o H' K') : Bd L bp pp u w xs ys v kb o H' K' :=
  ⟨hx.get h.ne h.b, hx.get (by have := h.hp; have := h.hk; omega) h.p, h.x.kp (hx.weak fun b _ q => by have := h.hk; omega).kp, h.y.kp (hx.weak fun b _ q => by have := h.hk; omega).kp, hk, h.hp, h.hb, h.hk, h.ne⟩
theorem Bd.lt (h : Bd L bp pp u w xs ys v kb o H K) : bp < H.length ∧ pp < H.length ∧ kb < H.length := ⟨(List.getElem?_eq_some_iff.1 h.b).1, (List.getElem?_eq_some_iff.1 h.p).1, h.k.lt⟩
end
theorem bcolumn_ret {L bp pp kb o : Nat} {u w v : AV} {xs ys : List (List Int)} {H : Heap} {K : KS} {c : Nat} (h : Bd L bp pp u w xs ys v kb o H K) (hl : K.length ≤ 31) (hc : c ≤ 31) (h31 : ∀ i, i < K.length → fK K i ≤ 9223372036854775807 ∧ eK K i ≤ 9223372036854775807) :
    RetP E 97 [.p bp 0, .i c] H (.ag [.i (colN (FK K) c : Nat), .i (colN (EK K) c : Nat)]) := by
  refine RetP.ro rfl fn97 rfl rfl ?_
  unfold f97A
  have hlt := h.lt
  obtain ⟨H2, eH2⟩ : ∃ H2, H ++ [Blk.cells [.i 0, .i 0]] ++ [Blk.cells [.i 0, .i 0]] = H2 := ⟨_, rfl⟩
  have x2 : Kx (fun _ => True) H H2 := by rw [← eH2]; exact (Kx.app _ _ _).app' _
  have n2 : H2.length = H.length + 2 := by rw [← eH2]; simp
  have d0 : H2[H.length]? = some (.cells [.i 0, .i 0]) := by rw [← eH2]; simp [List.getElem?_append]
  have d1 : H2[H.length + 1]? = some (.cells [.i 0, .i 0]) := by rw [← eH2]; simp [List.getElem?_append]
  have h2 := h.all x2
  have hT := h.k.T
  have hlF := colN (FK K) c
  simp (disch := (first | assumption | omega | (simp only [List.length_append, List.length_cons, List.length_nil]; omega))) only [↓wD,wU,Nat.reduceBEq,zx150,zx151,zx159,zx160,zx161,zx162,Nat.reduceAdd,Nat.reduceSub,Nat.reduceMul,Nat.reduceLeDiff,Nat.reduceLT,Nat.reduceEqDiff,Int.reduceAdd,Int.reduceSub,Int.reduceMul,Int.reduceNeg,Int.reduceLT,Int.reduceLE,Int.reduceEq,Int.reduceToNat,Int.cast_ofNat_Int,↓reduceIte, nc_p, eH2, ld_of h2.b, hT]
  refine Wp.for K.length (fun i a H' => a 1 = .i c ∧ a 4 = .p H.length 0 ∧ a 5 = .p (H.length + 1) 0 ∧ a 11 = v ∧ a 12 = .i K.length ∧ a 13 = .i i ∧ Kx (fun b => b ≠ H.length + 1) H2 H' ∧ H'[H.length + 1]? = some (.cells [.i (colT (FK K) c i : Nat), .i (colT (EK K) c i : Nat)])) ?_ ?_
  · rintro i a H3 hi ⟨a1, a4, a5, a11, a12, a13, hk, g1⟩ ih
    have hl3 := hk.1
    simp (disch := (first | assumption | omega | (simp only [List.length_append, List.length_cons, List.length_nil]; omega))) only [↓wD,wU,Nat.reduceBEq,zx150,zx151,zx159,zx160,zx161,zx162,Nat.reduceAdd,Nat.reduceSub,Nat.reduceMul,Nat.reduceLeDiff,Nat.reduceLT,Nat.reduceEqDiff,Int.reduceAdd,Int.reduceSub,Int.reduceMul,Int.reduceNeg,Int.reduceLT,Int.reduceLE,Int.reduceEq,Int.reduceToNat,Int.cast_ofNat_Int,↓reduceIte, nc_p, a1, a4, a5, a11, a12, a13]
    refine condP_split (fun hlt2 => ?_) (fun hlt2 => ?_)
    · have hi' : i < K.length := by omega
      obtain ⟨o1, o2, o3, o4⟩ := col_step (P := FK K) (c := c) (i := i) hc (by omega)
      obtain ⟨q1, q2, q3, q4⟩ := col_step (P := EK K) (c := c) (i := i) hc (by omega)
      rw [FK_gi] at o1 o2 o3 o4
      rw [EK_gi] at q1 q2 q3 q4
      replace o2 := o2 (h31 i hi').1
      replace q2 := q2 (h31 i hi').2
      have hT3 := (h2.k.kx hk (by omega)).T
      have kl := h2.k.lt
      obtain ⟨H4, eH4⟩ : ∃ H4, H3 ++ [Blk.cells [.i (fK K i : Nat), .i (eK K i : Nat)]] = H4 := ⟨_, rfl⟩
      have x34 : Kx (fun _ => True) H3 H4 := by rw [← eH4]; exact Kx.app _ _ _
      have hst : st H.length (H3 ++ [Blk.cells [.i 0, .i 0]]) H3.length 0 [.i (fK K i : Nat), .i (eK K i : Nat)] = some H4 := by
        rw [st_of get_last (by omega) (by simp), ← eH4]
        congr 1
        simp [wr]
      have g3 : H4[H3.length]? = some (.cells [.i (fK K i : Nat), .i (eK K i : Nat)]) := by rw [← eH4]; exact get_last
      have g14 := x34.get trivial g1
      have n4 := x34.1
      obtain ⟨Fi, eFi⟩ : ∃ F, fK K i = F := ⟨_, rfl⟩
      obtain ⟨Ei, eEi⟩ : ∃ F, eK K i = F := ⟨_, rfl⟩
      have t1 : iaddrV 2 v (.i (i : Int)) = some (.p kb (o + 2 * i)) := hT3.2.1 _ i hi'
      have t2 := hT3.2.2.2.2.2.2 i hi'
      rw [eFi] at o1 o2 o3 o4 hst g3 t2
      rw [eEi] at q1 q2 q3 q4 hst g3 t2
      obtain ⟨A1, eA1⟩ : ∃ A, colT (FK K) c (i + 1) = A := ⟨_, rfl⟩
      obtain ⟨A2, eA2⟩ : ∃ A, colT (EK K) c (i + 1) = A := ⟨_, rfl⟩
      rw [eA1] at o4
      rw [eA2] at q4
      have s1 : st H.length H4 (H.length + 1) 0 [.i (A1 : Int)] = some (H4.set (H.length + 1) (.cells [.i (A1 : Int), .i (colT (EK K) c i : Nat)])) := by rw [st_of g14 (by omega) (by simp)]; simp [wr]
      have g15 := get_set (k := .cells [.i (A1 : Int), .i (colT (EK K) c i : Nat)]) g14
      have s2 : st H.length (H4.set (H.length + 1) (.cells [.i (A1 : Int), .i (colT (EK K) c i : Nat)])) (H.length + 1) 1 [.i (A2 : Int)] = some ((H4.set (H.length + 1) (.cells [.i (A1 : Int), .i (colT (EK K) c i : Nat)])).set (H.length + 1) (.cells [.i (A1 : Int), .i (A2 : Int)])) := by rw [st_of g15 (by omega) (by simp)]; simp [wr]
      have g35 : (H4.set (H.length + 1) (.cells [.i (A1 : Int), .i (colT (EK K) c i : Nat)]))[H3.length]? = some (.cells [.i (Fi : Int), .i (Ei : Int)]) := by rw [List.getElem?_set_ne (by omega)]; exact g3
      simp (disch := (first | assumption | omega | (simp only [List.length_append, List.length_cons, List.length_nil]; omega))) only [↓wD,wU,Nat.reduceBEq,zx150,zx151,zx159,zx160,zx161,zx162,Nat.reduceAdd,Nat.reduceSub,Nat.reduceMul,Nat.reduceLeDiff,Nat.reduceLT,Nat.reduceEqDiff,Int.reduceAdd,Int.reduceSub,Int.reduceMul,Int.reduceNeg,Int.reduceLT,Int.reduceLE,Int.reduceEq,Int.reduceToNat,Int.cast_ofNat_Int,↓reduceIte, nc_p, a1, a4, a5, a11, a12, a13, t1, t2, hst, ld_of g14, ld_of g3, o1, o2, o3, o4, s1, ld_of g15, ld_of g35, q1, q2, q3, q4, s2]
      refine (ih hi').go ?_
      simp (disch := (first | assumption | omega | (simp only [List.length_append, List.length_cons, List.length_nil]; omega))) only [↓wD,wU,Nat.reduceBEq,zx150,zx151,zx159,zx160,zx161,zx162,Nat.reduceAdd,Nat.reduceSub,Nat.reduceMul,Nat.reduceLeDiff,Nat.reduceLT,Nat.reduceEqDiff,Int.reduceAdd,Int.reduceSub,Int.reduceMul,Int.reduceNeg,Int.reduceLT,Int.reduceLE,Int.reduceEq,Int.reduceToNat,Int.cast_ofNat_Int,↓reduceIte, nc_p, a1, a4, a5, a11, a12, a13, eA1, eA2]
      exact ⟨((hk.trans (x34.all (fun _ => True)) fun _ _ _ => trivial).set' (fun _ h => h rfl) _).set' (fun _ h => h rfl) _, get_set g15⟩
    · obtain rfl : i = K.length := by omega
      have e1 : colT (FK K) c K.length = colN (FK K) c := by unfold colN; rw [FK_len]
      have e2 : colT (EK K) c K.length = colN (EK K) c := by unfold colN; rw [EK_len]
      rw [e1, e2] at g1
      have g0 := hk.get (by omega) d0
      have s1 : st H.length H3 H.length 0 [.i (colN (FK K) c : Nat), .i (colN (EK K) c : Nat)] = some (H3.set H.length (.cells [.i (colN (FK K) c : Nat), .i (colN (EK K) c : Nat)])) := by rw [st_of g0 (by omega) (by simp)]; simp [wr]
      simp (disch := (first | assumption | omega | (simp only [List.length_append, List.length_cons, List.length_nil]; omega))) only [↓wD,wU,Nat.reduceBEq,zx150,zx151,zx159,zx160,zx161,zx162,Nat.reduceAdd,Nat.reduceSub,Nat.reduceMul,Nat.reduceLeDiff,Nat.reduceLT,Nat.reduceEqDiff,Int.reduceAdd,Int.reduceSub,Int.reduceMul,Int.reduceNeg,Int.reduceLT,Int.reduceLE,Int.reduceEq,Int.reduceToNat,Int.cast_ofNat_Int,↓reduceIte, nc_p, a1, a4, a5, a11, a12, a13, ldn_of g1, s1, ldn_of (get_set g0)]
  · simp (disch := (first | assumption | omega | (simp only [List.length_append, List.length_cons, List.length_nil]; omega))) only [↓wD,wU,Nat.reduceBEq,zx150,zx151,zx159,zx160,zx161,zx162,Nat.reduceAdd,Nat.reduceSub,Nat.reduceMul,Nat.reduceLeDiff,Nat.reduceLT,Nat.reduceEqDiff,Int.reduceAdd,Int.reduceSub,Int.reduceMul,Int.reduceNeg,Int.reduceLT,Int.reduceLE,Int.reduceEq,Int.reduceToNat,Int.cast_ofNat_Int,↓reduceIte, nc_p]
    rw [eH2]
    exact ⟨Kx.refl _ _, rfl⟩
theorem bput_ok {L bp pp kb o lo : Nat} {u w v : AV} {xs ys : List (List Int)} {H : Heap} {K : KS} {c f e : Nat} (h : Bd L bp pp u w xs ys v kb o H K) (hlo : lo ≤ L) (hl : K.length ≤ 31) (hc : c ≤ 31) (hf : f ≤ 9223372036854775807) (he : e ≤ 9223372036854775807) (h31 : ∀ i, i < K.length → fK K i ≤ 9223372036854775807 ∧ eK K i ≤ 9223372036854775807) :
    WpF E lo 98 [.p bp 0, .i c, .ag [.i f, .i e]] H fun _ H' => Bd L bp pp u w xs ys v kb o H' (colK K c f e K.length) ∧ Kx (fun b => b ≠ kb) H H' := by
  refine WpF.wrt rfl fn98 rfl ?_
  unfold f98A
  have hlt := h.lt
  have hhk := h.hk
  obtain ⟨H2, eH2⟩ : ∃ H2, H ++ [Blk.cells [.i (f : Int), .i (e : Int)]] = H2 := ⟨_, rfl⟩
  have x2 : Kx (fun _ => True) H H2 := by rw [← eH2]; exact Kx.app _ _ _
  have n2 : H2.length = H.length + 1 := by rw [← eH2]; simp
  have d0 : H2[H.length]? = some (.cells [.i (f : Int), .i (e : Int)]) := by rw [← eH2]; exact get_last
  have h2 := h.all x2
  have hT := h.k.T
  simp (disch := (first | assumption | omega | (simp only [List.length_append, List.length_cons, List.length_nil]; omega))) only [↓wD,wU,Nat.reduceBEq,zx150,zx151,zx159,zx160,zx161,zx162,Nat.reduceAdd,Nat.reduceSub,Nat.reduceMul,Nat.reduceLeDiff,Nat.reduceLT,Nat.reduceEqDiff,Int.reduceAdd,Int.reduceSub,Int.reduceMul,Int.reduceNeg,Int.reduceLT,Int.reduceLE,Int.reduceEq,Int.reduceToNat,Int.cast_ofNat_Int,↓reduceIte, nc_p, eH2, ld_of h2.b, hT]
  refine Wp.for K.length (fun i a H' => a 0 = .p bp 0 ∧ a 1 = .i c ∧ a 5 = .p H.length 0 ∧ a 11 = .i K.length ∧ a 12 = .i i ∧ Kx (fun b => b ≠ kb) H2 H' ∧ KB v kb o H' (colK K c f e i)) ?_ ?_
  · rintro i a H3 hi ⟨a0, a1, a5, a11, a12, hk, hkb⟩ ih
    simp (disch := (first | assumption | omega | (simp only [List.length_append, List.length_cons, List.length_nil]; omega))) only [↓wD,wU,Nat.reduceBEq,zx150,zx151,zx159,zx160,zx161,zx162,Nat.reduceAdd,Nat.reduceSub,Nat.reduceMul,Nat.reduceLeDiff,Nat.reduceLT,Nat.reduceEqDiff,Int.reduceAdd,Int.reduceSub,Int.reduceMul,Int.reduceNeg,Int.reduceLT,Int.reduceLE,Int.reduceEq,Int.reduceToNat,Int.cast_ofNat_Int,↓reduceIte, nc_p, a0, a1, a5, a11, a12]
    refine condP_split (fun hlt2 => ?_) (fun hlt2 => ?_)
    · have hi' : i < K.length := by omega
      have hic : i < (colK K c f e i).length := by rw [colK_len]; exact hi'
      have gi3 : gi (colK K c f e i) (i : Int) = (fK K i, eK K i) := by rw [colK_gi hi', if_neg (by omega)]; rfl
      have ef : fK (colK K c f e i) i = fK K i := by unfold fK; rw [gi3]; rfl
      have ee : eK (colK K c f e i) i = eK K i := by unfold eK; rw [gi3]; rfl
      have hs := colK_s (c := c) (f := f) (e := e) hi'
      have hb3 := h2.upd hk hkb
      have hT3 := hkb.T
      rw [colK_len] at hT3
      have t1 : iaddrV 2 v (.i (i : Int)) = some (.p kb (o + 2 * i)) := hT3.2.1 _ i hi'
      have t2 := hT3.2.2.2.2.1 i hi'
      rw [ef] at t2
      obtain ⟨H4, st4, n4, x4, k4⟩ := hkb.st1 (lo := lo) (by omega) hic (orB (fK K i) f i c)
      rw [ee] at k4
      have hi4 : i < ((colK K c f e i).set i (orB (fK K i) f i c, eK K i)).length := by rw [List.length_set]; exact hic
      have t4 := k4.T.2.2.2.2.2.1 i hi4
      rw [eK_set hic, if_pos rfl] at t4
      obtain ⟨H5, st5, n5, x5, k5⟩ := k4.st2 (lo := lo) (by omega) hi4 (orB (eK K i) e i c)
      rw [fK_set hic, if_pos rfl, List.set_set, hs] at k5
      have hle := fun (s : Nat) (hs : s ≤ 9223372036854775807) => show (s >>> i) ≤ 9223372036854775807 by
        have : s >>> i ≤ s := by rw [Nat.shiftRight_eq_div_pow]; exact Nat.div_le_self _ _
        omega
      have hsm := fun (s : Nat) => show ((s >>> i) &&& 1) <<< c ≤ 9223372036854775807 by
        have h1 : (s >>> i) &&& 1 ≤ 1 := Nat.and_le_right
        rw [Nat.shiftLeft_eq]
        have h3 := Nat.mul_le_mul_right (2 ^ c) h1
        have h4 : 2 ^ c ≤ 2 ^ 31 := Nat.pow_le_pow_right (by omega) hc
        omega
      have o1 := b_shr (a := f) (b := i) (by omega)
      have o2 : binA .and (.i ((f >>> i : Nat) : Int)) (.i 1) = some (.i (((f >>> i) &&& 1 : Nat) : Int)) := b_and (b := 1) (hle f hf) (by omega)
      have o3 := b_shl (a := (f >>> i) &&& 1) (b := c) (by omega) (hsm f)
      have o4 := b_or (a := fK K i) (b := ((f >>> i) &&& 1) <<< c) (h31 i hi').1 (hsm f)
      have q1 := b_shr (a := e) (b := i) (by omega)
      have q2 : binA .and (.i ((e >>> i : Nat) : Int)) (.i 1) = some (.i (((e >>> i) &&& 1 : Nat) : Int)) := b_and (b := 1) (hle e he) (by omega)
      have q3 := b_shl (a := (e >>> i) &&& 1) (b := c) (by omega) (hsm e)
      have q4 := b_or (a := eK K i) (b := ((e >>> i) &&& 1) <<< c) (h31 i hi').2 (hsm e)
      change binA .or _ _ = some (.i (orB (fK K i) f i c : Nat)) at o4
      change binA .or _ _ = some (.i (orB (eK K i) e i c : Nat)) at q4
      have g3 := hk.get (by omega) d0
      have g4 := x4.get (by omega) g3
      have b3 := hb3.b
      have b4 := x4.get h.ne b3
      generalize fK K i = Fi at *
      generalize eK K i = Ei at *
      generalize orB Fi f i c = F2 at *
      generalize orB Ei e i c = E2 at *
      generalize ((f >>> i) &&& 1) <<< c = W3 at *
      generalize ((e >>> i) &&& 1) <<< c = V3 at *
      generalize (f >>> i) &&& 1 = W2 at *
      generalize (e >>> i) &&& 1 = V2 at *
      generalize (f >>> i) = W1 at *
      generalize (e >>> i) = V1 at *
      clear hle hsm gi3 ef ee hs
      simp (disch := (first | assumption | omega | (simp only [List.length_append, List.length_cons, List.length_nil]; omega))) only [↓wD,wU,Nat.reduceBEq,zx150,zx151,zx159,zx160,zx161,zx162,Nat.reduceAdd,Nat.reduceSub,Nat.reduceMul,Nat.reduceLeDiff,Nat.reduceLT,Nat.reduceEqDiff,Int.reduceAdd,Int.reduceSub,Int.reduceMul,Int.reduceNeg,Int.reduceLT,Int.reduceLE,Int.reduceEq,Int.reduceToNat,Int.cast_ofNat_Int,↓reduceIte, nc_p, a0, a1, a5, a11, a12, ld_of b3, t1, t2, ld_of g3, o1, o2, o3, o4, st4, ld_of b4, t4, ld_of g4, q1, q2, q3, q4, st5]
      refine (ih hi').go ?_
      simp (disch := (first | assumption | omega | (simp only [List.length_append, List.length_cons, List.length_nil]; omega))) only [↓wD,wU,Nat.reduceBEq,zx150,zx151,zx159,zx160,zx161,zx162,Nat.reduceAdd,Nat.reduceSub,Nat.reduceMul,Nat.reduceLeDiff,Nat.reduceLT,Nat.reduceEqDiff,Int.reduceAdd,Int.reduceSub,Int.reduceMul,Int.reduceNeg,Int.reduceLT,Int.reduceLE,Int.reduceEq,Int.reduceToNat,Int.cast_ofNat_Int,↓reduceIte, nc_p, a0, a1, a5, a11, a12]
      exact ⟨(hk.trans x4 fun _ _ h => h).trans x5 fun _ _ h => h, k5⟩
    · obtain rfl : i = K.length := by omega
      simp (disch := (first | assumption | omega | (simp only [List.length_append, List.length_cons, List.length_nil]; omega))) only [↓wD,wU,Nat.reduceBEq,zx150,zx151,zx159,zx160,zx161,zx162,Nat.reduceAdd,Nat.reduceSub,Nat.reduceMul,Nat.reduceLeDiff,Nat.reduceLT,Nat.reduceEqDiff,Int.reduceAdd,Int.reduceSub,Int.reduceMul,Int.reduceNeg,Int.reduceLT,Int.reduceLE,Int.reduceEq,Int.reduceToNat,Int.cast_ofNat_Int,↓reduceIte, nc_p, a0, a1, a5, a11, a12]
      have hx : Kx (fun b => b ≠ kb) H H3 := (x2.all _).trans hk fun _ _ h => h
      exact ⟨h.upd hx hkb, hx⟩
  · simp (disch := (first | assumption | omega | (simp only [List.length_append, List.length_cons, List.length_nil]; omega))) only [↓wD,wU,Nat.reduceBEq,zx150,zx151,zx159,zx160,zx161,zx162,Nat.reduceAdd,Nat.reduceSub,Nat.reduceMul,Nat.reduceLeDiff,Nat.reduceLT,Nat.reduceEqDiff,Int.reduceAdd,Int.reduceSub,Int.reduceMul,Int.reduceNeg,Int.reduceLT,Int.reduceLE,Int.reduceEq,Int.reduceToNat,Int.cast_ofNat_Int,↓reduceIte, nc_p]
    rw [colK_0, eH2]
    exact ⟨Kx.refl _ _, h2.k⟩
end Go.Proofs.YtjjndoigkhabdaaDoor
namespace Go.Proofs.YtjjndoigkhabdaaDoor
open Go Go.AM Go.Proofs
theorem WpF.roX {E : Tab} {lo f : Nat} {af : AFunc} {vs : List AV} {H : Heap} {P : AV → Heap → Prop} (hk : E.kd f = .ro) (hf : E.fn f = some af) (hn : vs.length = af.nargs)
    (hp : ∀ v H', P v H' → v.pure = false) (hs : ∀ v H' H'', P v H' → Kp (fun _ => True) H' H'' → P v H'')
    (h : Wp E H.length none [.code af.body] (initFr vs) H (RetQ af.res P)) : WpF E lo f vs H fun v H' => P v H' ∧ Kx (fun _ => True) H H' := by
  refine WpF.of_ro hk hf hn (h.low.mono fun o a' H' hq => ?_)
  obtain ⟨hlow, hq⟩ := hq
  have key : ∀ {u : AV}, P u H' → P u (if u.pure then H else H ++ (H'.drop H.length).map Blk.shut) ∧ Kx (fun _ => True) H (if u.pure then H else H ++ (H'.drop H.length).map Blk.shut) := by
    intro u q
    rw [hp u H' q, if_neg (by decide)]
    refine ⟨hs u H' _ q ⟨by have := hlow.1; simp; omega, fun b k _ hb => ?_⟩, Kx.app _ _ _⟩
    by_cases hl : b < H.length
    · rw [List.getElem?_append_left hl, ← hlow.2 b hl hl]; exact hb
    · have hl' : H.length ≤ b := by omega
      rw [List.getElem?_append_right hl', List.getElem?_map, List.getElem?_drop, Nat.add_sub_cancel' hl', hb]
      rfl
  cases o with
  | exit id => exact hq.elim
  | done => obtain ⟨u, e, q⟩ := hq; exact ⟨.inl rfl, u, e, key q⟩
  | ret => obtain ⟨u, e, q⟩ := hq; exact ⟨.inr rfl, u, e, key q⟩
theorem mks16 {a b : AV} {n : Nat} (h : n ≤ 1000) : mksliceV 2 16 [a, b] (.int .i64 (n : Int)) = some n := by
  have : mostBytes = 1099511627776 := by decide
  simp only [mksliceV, this]
  rw [if_pos ⟨by omega, by omega, by omega, rfl⟩, Int.toNat_natCast]
theorem reps_two {a b : AV} : ∀ {n : Nat}, (reps n [a, b]).length = 2 * n ∧ ∀ i, i < n → (reps n [a, b])[2 * i]? = some a ∧ (reps n [a, b])[2 * i + 1]? = some b
  | 0 => ⟨rfl, fun i hi => by omega⟩
  | n + 1 => by
    obtain ⟨h1, h2⟩ := reps_two (a := a) (b := b) (n := n)
    refine ⟨by simp [reps, h1]; omega, fun i hi => ?_⟩
    cases i with
    | zero => exact ⟨rfl, rfl⟩
    | succ i => exact h2 i (by omega)
def K0 (h : Nat) : KS := List.replicate h (0, 0)
theorem K0_len {h : Nat} : (K0 h).length = h := by simp [K0]
theorem K0_f {h i : Nat} : fK (K0 h) i = 0 ∧ eK (K0 h) i = 0 := by
  unfold fK eK
  by_cases hi : i < (K0 h).length
  · rw [gi_nat hi]; simp [K0]
  · rw [gi_big (by omega)]; exact ⟨rfl, rfl⟩
theorem K0_wf {h w : Nat} : WfK h w (K0 h) := ⟨K0_len, fun i _ => by rw [K0_f.1, K0_f.2]; exact ⟨Nat.two_pow_pos w, Nat.two_pow_pos w⟩⟩
theorem K0_le {h : Nat} {L : KS} : LeK (K0 h) L := fun i => by
  rw [K0_f.1, K0_f.2]
  have z : ∀ x, SubB 0 x := fun x c h => by rw [Nat.zero_testBit] at h; cases h
  exact ⟨z _, z _⟩
theorem Bd.kp {L bp pp kb o : Nat} {u w v : AV} {xs ys : List (List Int)} {H H' : Heap} {K : KS} (h : Bd L bp pp u w xs ys v kb o H K) (hx : Kp (fun _ => True) H H') : Bd L bp pp u w xs ys v kb o H' K :=
  ⟨hx.2 _ _ trivial h.b, hx.2 _ _ trivial h.p, h.x.kp (hx.weak fun _ _ => trivial), h.y.kp (hx.weak fun _ _ => trivial), ⟨h.k.v, by
    obtain ⟨k, hk, h2⟩ := h.k.k
    exact ⟨k, hx.2 _ _ trivial hk, h2⟩, h.k.b⟩, h.hp, h.hb, h.hk, h.ne⟩
theorem start_ok {L pp lo : Nat} {u w : AV} {xs ys : List (List Int)} {H : Heap} (hP : H[pp]? = some (.cells [u, w])) (hx : Sl (fun b => b < L) H u xs) (hy : Sl (fun b => b < L) H w ys) (hp : pp < L) (hL : L ≤ H.length) (h5 : xs.length ≤ 5) :
    WpF E lo 68 [.p pp 0] H fun r H' => (∃ bp v kb o, r = .p bp 0 ∧ Bd L bp pp u w xs ys v kb o H' (K0 xs.length) ∧ H.length ≤ bp ∧ H.length ≤ kb) ∧ Kx (fun _ => True) H H' := by
  refine WpF.roX rfl fn68 rfl (by rintro v H' ⟨bp, v', kb, o, rfl, _⟩; rfl) (by rintro v H' H'' ⟨bp, v', kb, o, e, h, h1, h2⟩ hk; exact ⟨bp, v', kb, o, e, h.kp hk, h1, h2⟩) ?_
  unfold f68A
  have hm := mks16 (a := .i 0) (b := .i 0) (n := xs.length) (by omega)
  have hxL := hx.L
  simp (disch := (first | assumption | omega | (simp only [List.length_append, List.length_cons, List.length_nil]; omega))) only [↓wD,wU,Nat.reduceBEq,zx150,zx151,zx159,zx160,zx161,zx162,Nat.reduceAdd,Nat.reduceSub,Nat.reduceMul,Nat.reduceLeDiff,Nat.reduceLT,Nat.reduceEqDiff,Int.reduceAdd,Int.reduceSub,Int.reduceMul,Int.reduceNeg,Int.reduceLT,Int.reduceLE,Int.reduceEq,Int.reduceToNat,Int.cast_ofNat_Int,↓reduceIte, nc_p, ld_of hP, hxL, hm]
  have x2 : Kx (fun _ => True) H (H ++ [Blk.cells (reps xs.length [.i 0, .i 0])] ++ [Blk.cells [.p pp 0, .s 2 H.length 0 xs.length (some xs.length)]]) := (Kx.app _ _ _).app' _
  refine ⟨H.length + 1, .s 2 H.length 0 xs.length (some xs.length), H.length, 0, by simp, ⟨?_, x2.get trivial hP, hx.kp (x2.all _).kp, hy.kp (x2.all _).kp, ⟨⟨some xs.length, by rw [K0_len]⟩, ⟨reps xs.length [.i 0, .i 0], ?_, ?_, fun i hi => ?_⟩, by rw [K0_len]; omega⟩, hp, by omega, by omega, by omega⟩, by omega, by omega⟩
  · simp [List.getElem?_append]
  · simp [List.getElem?_append]
  · rw [K0_len, reps_two.1]; omega
  · rw [K0_len] at hi
    rw [K0_f.1, K0_f.2, Nat.zero_add]
    exact reps_two.2 i hi
theorem lines_ok {L bp pp kb o lo : Nat} {u w v : AV} {xs ys : List (List Int)} {H : Heap} {K : KS} (h : Bd L bp pp u w xs ys v kb o H K) (hlo : lo ≤ L) (hP : PuzP xs ys) (hw : WfK xs.length ys.length K) :
    WpF E lo 69 [.p bp 0] H fun r H' => ∃ C b, r = .b b ∧ Bd L bp pp u w xs ys v kb o H' C ∧ Kx (fun b => b ≠ kb) H H' ∧ MidL xs ys K C ∧ (b = true → LC xs ys C) ∧ (b = false → FailL xs ys K) := by
  refine WpF.wrt rfl fn69 rfl ?_
  unfold f69A
  have x5 : xs.length ≤ 5 := by have := hP.1.2; omega
  have x1 : 1 ≤ xs.length := by have := hP.1.1; omega
  have y5 : ys.length ≤ 5 := by have := hP.2.1.2; omega
  have px := pow32 x5
  have py := pow32 y5
  have hhk := h.hk
  simp (disch := (first | assumption | omega | (simp only [List.length_append, List.length_cons, List.length_nil]; omega))) only [↓wD,wU,Nat.reduceBEq,zx150,zx151,zx159,zx160,zx161,zx162,Nat.reduceAdd,Nat.reduceSub,Nat.reduceMul,Nat.reduceLeDiff,Nat.reduceLT,Nat.reduceEqDiff,Int.reduceAdd,Int.reduceSub,Int.reduceMul,Int.reduceNeg,Int.reduceLT,Int.reduceLE,Int.reduceEq,Int.reduceToNat,Int.cast_ofNat_Int,↓reduceIte]
  refine Wp.dec (fun m a H' => ∃ C, m = mes xs.length ys.length C ∧ a 0 = .p bp 0 ∧ Bd L bp pp u w xs ys v kb o H' C ∧ MidL xs ys K C ∧ Kx (fun b => b ≠ kb) H H') (mes xs.length ys.length K) ?_ ?_
  · rintro m a H1 ⟨C, rfl, a0, hb1, hm1, hx1⟩ ih
    have hwC := hm1.1
    have hl1 := hb1.lt
    have hT1 := hb1.k.T
    simp (disch := (first | assumption | omega | (simp only [List.length_append, List.length_cons, List.length_nil]; omega))) only [↓wD,wU,Nat.reduceBEq,zx150,zx151,zx159,zx160,zx161,zx162,Nat.reduceAdd,Nat.reduceSub,Nat.reduceMul,Nat.reduceLeDiff,Nat.reduceLT,Nat.reduceEqDiff,Int.reduceAdd,Int.reduceSub,Int.reduceMul,Int.reduceNeg,Int.reduceLT,Int.reduceLE,Int.reduceEq,Int.reduceToNat,Int.cast_ofNat_Int,↓reduceIte, a0, nc_p, ld_of hb1.b]
    refine (kclone_ret hb1.k.sl (by rw [pK_len, hwC.len]; omega)).toFX fun v2 H2 x2 hv2 => ?_
    have hb2 := hb1.all x2
    have hl2 := x2.1
    have hxL2 := hb2.x.L
    simp (disch := (first | assumption | omega | (simp only [List.length_append, List.length_cons, List.length_nil]; omega))) only [↓wD,wU,Nat.reduceBEq,zx150,zx151,zx159,zx160,zx161,zx162,Nat.reduceAdd,Nat.reduceSub,Nat.reduceMul,Nat.reduceLeDiff,Nat.reduceLT,Nat.reduceEqDiff,Int.reduceAdd,Int.reduceSub,Int.reduceMul,Int.reduceNeg,Int.reduceLT,Int.reduceLE,Int.reduceEq,Int.reduceToNat,Int.cast_ofNat_Int,↓reduceIte, a0, nc_p, ld_of hb2.b, ld_of hb2.p, hxL2]
    refine Wp.for xs.length (fun i a H' => ∃ D, a 0 = .p bp 0 ∧ a 3 = v2 ∧ a 23 = u ∧ a 24 = .i xs.length ∧ a 25 = .i i ∧ Bd L bp pp u w xs ys v kb o H' D ∧ MidL xs ys C D ∧ RowsIn xs ys C D i ∧ Kx (fun b => b ≠ kb) H2 H') ?_ ?_
    · rintro i a H3 hi ⟨D, a0, a3, a23, a24, a25, hb3, hm3, hr3, hx3⟩ ih2
      have hl3 := hx3.1
      have hwD := hm3.1
      have hlD := hwD.len
      simp (disch := (first | assumption | omega | (simp only [List.length_append, List.length_cons, List.length_nil]; omega))) only [↓wD,wU,Nat.reduceBEq,zx150,zx151,zx159,zx160,zx161,zx162,Nat.reduceAdd,Nat.reduceSub,Nat.reduceMul,Nat.reduceLeDiff,Nat.reduceLT,Nat.reduceEqDiff,Int.reduceAdd,Int.reduceSub,Int.reduceMul,Int.reduceNeg,Int.reduceLT,Int.reduceLE,Int.reduceEq,Int.reduceToNat,Int.cast_ofNat_Int,↓reduceIte, a0, a3, a23, a24, a25]
      refine condP_split (fun hlt => ?_) (fun hlt => ?_)
      · have hi' : i < xs.length := by omega
        have hxL3 := hb3.x.L
        have hyL3 := hb3.y.L
        have g := hb3.x.get (k := (i : Int)) (by omega) (by omega)
        have hD := hwD.lt i hi'
        have sr := settle_ret (n := ys.length) (f := fK D i) (e := eK D i) g y5 (by omega) (by omega)
        have hT3 := hb3.k.T
        have t1 : iaddrV 2 v (.i (i : Int)) = some (.p kb (o + 2 * i)) := hT3.2.1 _ i (by omega)
        have t2 := hT3.2.2.2.2.2.2 i (by omega)
        obtain ⟨S, eS⟩ : ∃ S, setS ys.length (gi xs (i : Int)) (fK D i) (eK D i) = S := ⟨_, rfl⟩
        rw [eS] at sr
        obtain ⟨s1, s2, s3⟩ := S
        simp only at sr
        have hb3l := hb3.lt
        cases s3 with
        | false =>
          have hf := row_fail y5 hi' (by rw [eS])
          have hst : st lo (H3 ++ [Blk.cells [.i 0, .i 0]]) H3.length 0 [.i (s1 : Int), .i (s2 : Int)] = some (H3 ++ [Blk.cells [.i (s1 : Int), .i (s2 : Int)]]) := by
            rw [st_of get_last (by omega) (by simp)]
            congr 1
            simp [wr]
          generalize fK D i = Fi at *
          generalize eK D i = Ei at *
          simp (disch := (first | assumption | omega | (simp only [List.length_append, List.length_cons, List.length_nil]; omega))) only [↓wD,wU,Nat.reduceBEq,zx150,zx151,zx159,zx160,zx161,zx162,Nat.reduceAdd,Nat.reduceSub,Nat.reduceMul,Nat.reduceLeDiff,Nat.reduceLT,Nat.reduceEqDiff,Int.reduceAdd,Int.reduceSub,Int.reduceMul,Int.reduceNeg,Int.reduceLT,Int.reduceLE,Int.reduceEq,Int.reduceToNat,Int.cast_ofNat_Int,↓reduceIte, a0, a3, a23, a24, a25, nc_p, hxL3, hyL3, ld_of hb3.b, ld_of hb3.p, t1, t2, sr.call, hst]
          have xx : Kx (fun b => b ≠ kb) H (H3 ++ [Blk.cells [.i (s1 : Int), .i (s2 : Int)]]) := ((hx1.trans x2 fun _ _ _ => trivial).trans hx3 fun _ _ h => h).app' _
          exact ⟨D, false, rfl, hb3.all (Kx.app _ _ _), xx, hm1.trans hm3, nofun, fun _ => hm1.fail (hm3.fail hf)⟩
        | true =>
          obtain ⟨hm4, hr4⟩ := rowW_step y5 hi' hm3 hr3 eS rfl
          simp only at hm4 hr4
          obtain ⟨H4, eH4⟩ : ∃ H4, H3 ++ [Blk.cells [.i (s1 : Int), .i (s2 : Int)]] = H4 := ⟨_, rfl⟩
          have x34 : Kx (fun _ => True) H3 H4 := by rw [← eH4]; exact Kx.app _ _ _
          have hst : st lo (H3 ++ [Blk.cells [.i 0, .i 0]]) H3.length 0 [.i (s1 : Int), .i (s2 : Int)] = some H4 := by
            rw [st_of get_last (by omega) (by simp), ← eH4]
            congr 1
            simp [wr]
          have g4 : H4[H3.length]? = some (.cells [.i (s1 : Int), .i (s2 : Int)]) := by rw [← eH4]; exact get_last
          have hb4 := hb3.all x34
          obtain ⟨H5, st5, n5, x5', k5⟩ := hb4.k.st12 (lo := lo) (by omega) (i := i) (by omega) s1 s2
          have hb5 := hb4.upd x5' k5
          generalize fK D i = Fi at *
          generalize eK D i = Ei at *
          simp (disch := (first | assumption | omega | (simp only [List.length_append, List.length_cons, List.length_nil]; omega))) only [↓wD,wU,Nat.reduceBEq,zx150,zx151,zx159,zx160,zx161,zx162,Nat.reduceAdd,Nat.reduceSub,Nat.reduceMul,Nat.reduceLeDiff,Nat.reduceLT,Nat.reduceEqDiff,Int.reduceAdd,Int.reduceSub,Int.reduceMul,Int.reduceNeg,Int.reduceLT,Int.reduceLE,Int.reduceEq,Int.reduceToNat,Int.cast_ofNat_Int,↓reduceIte, a0, a3, a23, a24, a25, nc_p, hxL3, hyL3, ld_of hb3.b, ld_of hb3.p, t1, t2, sr.call, hst, ld_of hb4.b, ldn_of g4, st5]
          refine (ih2 hi').go ⟨D.set i (s1, s2), ?_⟩
          simp (disch := (first | assumption | omega | (simp only [List.length_append, List.length_cons, List.length_nil]; omega))) only [↓wD,wU,Nat.reduceBEq,zx150,zx151,zx159,zx160,zx161,zx162,Nat.reduceAdd,Nat.reduceSub,Nat.reduceMul,Nat.reduceLeDiff,Nat.reduceLT,Nat.reduceEqDiff,Int.reduceAdd,Int.reduceSub,Int.reduceMul,Int.reduceNeg,Int.reduceLT,Int.reduceLE,Int.reduceEq,Int.reduceToNat,Int.cast_ofNat_Int,↓reduceIte, a0, a3, a23, a24, a25]
          exact ⟨hb5, hm4, hr4, (hx3.trans x34 fun _ _ _ => trivial).trans x5' fun _ _ h => h⟩
      · obtain rfl : i = xs.length := by omega
        have hxL3 := hb3.x.L
        have hyL3 := hb3.y.L
        have hb3l := hb3.lt
        simp (disch := (first | assumption | omega | (simp only [List.length_append, List.length_cons, List.length_nil]; omega))) only [↓wD,wU,Nat.reduceBEq,zx150,zx151,zx159,zx160,zx161,zx162,Nat.reduceAdd,Nat.reduceSub,Nat.reduceMul,Nat.reduceLeDiff,Nat.reduceLT,Nat.reduceEqDiff,Int.reduceAdd,Int.reduceSub,Int.reduceMul,Int.reduceNeg,Int.reduceLT,Int.reduceLE,Int.reduceEq,Int.reduceToNat,Int.cast_ofNat_Int,↓reduceIte, a0, a3, a23, a24, a25, nc_p, ld_of hb3.b, ld_of hb3.p, hyL3]
        have hc0 : ColsIn xs ys C D 0 := fun j hj => by omega
        refine Wp.for ys.length (fun i a H' => ∃ D, a 0 = .p bp 0 ∧ a 3 = v2 ∧ a 66 = w ∧ a 67 = .i ys.length ∧ a 68 = .i i ∧ Bd L bp pp u w xs ys v kb o H' D ∧ MidL xs ys C D ∧ RowsIn xs ys C D xs.length ∧ ColsIn xs ys C D i ∧ Kx (fun b => b ≠ kb) H2 H') ?_ ?_
        · clear hm3 hr3 hx3 hb3 hl3 hwD hlD hxL3 hyL3 hb3l hc0 hlt hi a0 a3 a23 a24 a25 a D H3
          rintro i a H3 hi ⟨D, a0, a3, a66, a67, a68, hb3, hm3, hr3, hc3, hx3⟩ ih3
          have hl3 := hx3.1
          have hwD := hm3.1
          have hlD := hwD.len
          have hb3l := hb3.lt
          simp (disch := (first | assumption | omega | (simp only [List.length_append, List.length_cons, List.length_nil]; omega))) only [↓wD,wU,Nat.reduceBEq,zx150,zx151,zx159,zx160,zx161,zx162,Nat.reduceAdd,Nat.reduceSub,Nat.reduceMul,Nat.reduceLeDiff,Nat.reduceLT,Nat.reduceEqDiff,Int.reduceAdd,Int.reduceSub,Int.reduceMul,Int.reduceNeg,Int.reduceLT,Int.reduceLE,Int.reduceEq,Int.reduceToNat,Int.cast_ofNat_Int,↓reduceIte, a0, a3, a66, a67, a68]
          refine condP_split (fun hlt => ?_) (fun hlt => ?_)
          · have hi' : i < ys.length := by omega
            have hxL3 := hb3.x.L
            have hyL3 := hb3.y.L
            have g := hb3.y.get (k := (i : Int)) (by omega) (by omega)
            have hD := col_lt hwD i
            have h31 : ∀ i, i < D.length → fK D i ≤ 9223372036854775807 ∧ eK D i ≤ 9223372036854775807 := fun j hj => by
              have := hwD.lt j (by omega)
              omega
            have cr := bcolumn_ret (c := i) hb3 (by omega) (by omega) h31
            have sr := settle_ret (n := xs.length) (f := colN (FK D) i) (e := colN (EK D) i) g x5 (by omega) (by omega)
            obtain ⟨S, eS⟩ : ∃ S, setS xs.length (gi ys (i : Int)) (colN (FK D) i) (colN (EK D) i) = S := ⟨_, rfl⟩
            have sl := setS_lt (n := xs.length) (f := colN (FK D) i) (e := colN (EK D) i) (cl := gi ys (i : Int))
            rw [eS] at sr sl
            obtain ⟨s1, s2, s3⟩ := S
            simp only at sr sl
            cases s3 with
            | false =>
              have hf := col_fail x5 hi' hwD (by rw [eS])
              have hst : st lo (H3 ++ [Blk.cells [.i 0, .i 0]]) H3.length 0 [.i (s1 : Int), .i (s2 : Int)] = some (H3 ++ [Blk.cells [.i (s1 : Int), .i (s2 : Int)]]) := by
                rw [st_of get_last (by omega) (by simp)]
                congr 1
                simp [wr]
              generalize colN (FK D) i = Fi at *
              generalize colN (EK D) i = Ei at *
              simp (disch := (first | assumption | omega | (simp only [List.length_append, List.length_cons, List.length_nil]; omega))) only [↓wD,wU,Nat.reduceBEq,zx150,zx151,zx159,zx160,zx161,zx162,Nat.reduceAdd,Nat.reduceSub,Nat.reduceMul,Nat.reduceLeDiff,Nat.reduceLT,Nat.reduceEqDiff,Int.reduceAdd,Int.reduceSub,Int.reduceMul,Int.reduceNeg,Int.reduceLT,Int.reduceLE,Int.reduceEq,Int.reduceToNat,Int.cast_ofNat_Int,↓reduceIte, a0, a3, a66, a67, a68, nc_p, hxL3, hyL3, ld_of hb3.b, ld_of hb3.p, cr.call, sr.call, hst]
              have xx : Kx (fun b => b ≠ kb) H (H3 ++ [Blk.cells [.i (s1 : Int), .i (s2 : Int)]]) := ((hx1.trans x2 fun _ _ _ => trivial).trans hx3 fun _ _ h => h).app' _
              exact ⟨D, false, rfl, hb3.all (Kx.app _ _ _), xx, hm1.trans hm3, nofun, fun _ => hm1.fail (hm3.fail hf)⟩
            | true =>
              obtain ⟨hm4, hr4, hc4⟩ := colW_step x5 hi' hm3 hwC.len hr3 hc3 eS rfl
              simp only at hm4 hr4 hc4
              obtain ⟨H4, eH4⟩ : ∃ H4, H3 ++ [Blk.cells [.i (s1 : Int), .i (s2 : Int)]] = H4 := ⟨_, rfl⟩
              have x34 : Kx (fun _ => True) H3 H4 := by rw [← eH4]; exact Kx.app _ _ _
              have hst : st lo (H3 ++ [Blk.cells [.i 0, .i 0]]) H3.length 0 [.i (s1 : Int), .i (s2 : Int)] = some H4 := by
                rw [st_of get_last (by omega) (by simp), ← eH4]
                congr 1
                simp [wr]
              have g4 : H4[H3.length]? = some (.cells [.i (s1 : Int), .i (s2 : Int)]) := by rw [← eH4]; exact get_last
              have hb4 := hb3.all x34
              generalize colN (FK D) i = Fi at *
              generalize colN (EK D) i = Ei at *
              simp (disch := (first | assumption | omega | (simp only [List.length_append, List.length_cons, List.length_nil]; omega))) only [↓wD,wU,Nat.reduceBEq,zx150,zx151,zx159,zx160,zx161,zx162,Nat.reduceAdd,Nat.reduceSub,Nat.reduceMul,Nat.reduceLeDiff,Nat.reduceLT,Nat.reduceEqDiff,Int.reduceAdd,Int.reduceSub,Int.reduceMul,Int.reduceNeg,Int.reduceLT,Int.reduceLE,Int.reduceEq,Int.reduceToNat,Int.cast_ofNat_Int,↓reduceIte, a0, a3, a66, a67, a68, nc_p, hxL3, hyL3, ld_of hb3.b, ld_of hb3.p, cr.call, sr.call, hst, ldn_of g4]
              refine callI ((bput_ok (c := i) (f := s1) (e := s2) hb4 hlo (by omega) (by omega) (by omega) (by omega) h31).mono ?_)
              rintro r H5 ⟨hb5, x45⟩
              simp (disch := (first | assumption | omega | (simp only [List.length_append, List.length_cons, List.length_nil]; omega))) only [↓wD,wU,Nat.reduceBEq,zx150,zx151,zx159,zx160,zx161,zx162,Nat.reduceAdd,Nat.reduceSub,Nat.reduceMul,Nat.reduceLeDiff,Nat.reduceLT,Nat.reduceEqDiff,Int.reduceAdd,Int.reduceSub,Int.reduceMul,Int.reduceNeg,Int.reduceLT,Int.reduceLE,Int.reduceEq,Int.reduceToNat,Int.cast_ofNat_Int,↓reduceIte, a0, a3, a66, a67, a68]
              refine (ih3 hi').go ⟨colK D i s1 s2 D.length, ?_⟩
              simp (disch := (first | assumption | omega | (simp only [List.length_append, List.length_cons, List.length_nil]; omega))) only [↓wD,wU,Nat.reduceBEq,zx150,zx151,zx159,zx160,zx161,zx162,Nat.reduceAdd,Nat.reduceSub,Nat.reduceMul,Nat.reduceLeDiff,Nat.reduceLT,Nat.reduceEqDiff,Int.reduceAdd,Int.reduceSub,Int.reduceMul,Int.reduceNeg,Int.reduceLT,Int.reduceLE,Int.reduceEq,Int.reduceToNat,Int.cast_ofNat_Int,↓reduceIte, a0, a3, a66, a67, a68]
              exact ⟨hb5, hm4, hr4, hc4, (hx3.trans x34 fun _ _ _ => trivial).trans x45 fun _ _ h => h⟩
          · obtain rfl : i = ys.length := by omega
            have eq := kequal_ret (hv2.low.kp (hx3.weak fun b _ h => by omega).kp) hb3.k.sl
            have xx := (hx1.trans x2 fun _ _ _ => trivial).trans hx3 fun _ _ h => h
            by_cases he : C = D
            · subst he
              rw [decide_eq_true rfl] at eq
              simp (disch := (first | assumption | omega | (simp only [List.length_append, List.length_cons, List.length_nil]; omega))) only [↓wD,wU,Nat.reduceBEq,zx150,zx151,zx159,zx160,zx161,zx162,Nat.reduceAdd,Nat.reduceSub,Nat.reduceMul,Nat.reduceLeDiff,Nat.reduceLT,Nat.reduceEqDiff,Int.reduceAdd,Int.reduceSub,Int.reduceMul,Int.reduceNeg,Int.reduceLT,Int.reduceLE,Int.reduceEq,Int.reduceToNat,Int.cast_ofNat_Int,↓reduceIte, a0, a3, a66, a67, a68, nc_p, ld_of hb3.b, eq.call]
              exact ⟨C, true, rfl, hb3, xx, hm1, fun _ => sweep_done x5 y5 hwC hr3 hc3, nofun⟩
            · rw [decide_eq_false (fun q => he (pK_inj.1 q))] at eq
              simp (disch := (first | assumption | omega | (simp only [List.length_append, List.length_cons, List.length_nil]; omega))) only [↓wD,wU,Nat.reduceBEq,zx150,zx151,zx159,zx160,zx161,zx162,Nat.reduceAdd,Nat.reduceSub,Nat.reduceMul,Nat.reduceLeDiff,Nat.reduceLT,Nat.reduceEqDiff,Int.reduceAdd,Int.reduceSub,Int.reduceMul,Int.reduceNeg,Int.reduceLT,Int.reduceLE,Int.reduceEq,Int.reduceToNat,Int.cast_ofNat_Int,↓reduceIte, a0, a3, a66, a67, a68, nc_p, ld_of hb3.b, eq.call]
              refine ih.go ⟨_, mes_lt hwC hwD hm3.2.1 he, D, rfl, ?_⟩
              simp (disch := (first | assumption | omega | (simp only [List.length_append, List.length_cons, List.length_nil]; omega))) only [↓wD,wU,Nat.reduceBEq,zx150,zx151,zx159,zx160,zx161,zx162,Nat.reduceAdd,Nat.reduceSub,Nat.reduceMul,Nat.reduceLeDiff,Nat.reduceLT,Nat.reduceEqDiff,Int.reduceAdd,Int.reduceSub,Int.reduceMul,Int.reduceNeg,Int.reduceLT,Int.reduceLE,Int.reduceEq,Int.reduceToNat,Int.cast_ofNat_Int,↓reduceIte, a0]
              exact ⟨hb3, hm1.trans hm3, xx⟩
        · simp (disch := (first | assumption | omega | (simp only [List.length_append, List.length_cons, List.length_nil]; omega))) only [↓wD,wU,Nat.reduceBEq,zx150,zx151,zx159,zx160,zx161,zx162,Nat.reduceAdd,Nat.reduceSub,Nat.reduceMul,Nat.reduceLeDiff,Nat.reduceLT,Nat.reduceEqDiff,Int.reduceAdd,Int.reduceSub,Int.reduceMul,Int.reduceNeg,Int.reduceLT,Int.reduceLE,Int.reduceEq,Int.reduceToNat,Int.cast_ofNat_Int,↓reduceIte, a0, a3]
          exact ⟨D, hb3, hm3, hr3, hc0, hx3⟩
    · simp (disch := (first | assumption | omega | (simp only [List.length_append, List.length_cons, List.length_nil]; omega))) only [↓wD,wU,Nat.reduceBEq,zx150,zx151,zx159,zx160,zx161,zx162,Nat.reduceAdd,Nat.reduceSub,Nat.reduceMul,Nat.reduceLeDiff,Nat.reduceLT,Nat.reduceEqDiff,Int.reduceAdd,Int.reduceSub,Int.reduceMul,Int.reduceNeg,Int.reduceLT,Int.reduceLE,Int.reduceEq,Int.reduceToNat,Int.cast_ofNat_Int,↓reduceIte, a0]
      exact ⟨C, hb2, MidL.refl hwC, fun j hj => by omega, Kx.refl _ _⟩
  · simp (disch := (first | assumption | omega | (simp only [List.length_append, List.length_cons, List.length_nil]; omega))) only [↓wD,wU,Nat.reduceBEq,zx150,zx151,zx159,zx160,zx161,zx162,Nat.reduceAdd,Nat.reduceSub,Nat.reduceMul,Nat.reduceLeDiff,Nat.reduceLT,Nat.reduceEqDiff,Int.reduceAdd,Int.reduceSub,Int.reduceMul,Int.reduceNeg,Int.reduceLT,Int.reduceLE,Int.reduceEq,Int.reduceToNat,Int.cast_ofNat_Int,↓reduceIte]
    exact ⟨K, rfl, h, MidL.refl hw, Kx.refl _ _⟩
end Go.Proofs.YtjjndoigkhabdaaDoor
namespace Go.Proofs.YtjjndoigkhabdaaDoor
open Go Go.AM Go.Proofs
open Classical in
theorem MidL.uniq {xs ys : List (List Int)} {K C D : KS} (h : MidL xs ys K C) (hc : LC xs ys C) (h' : MidL xs ys K D) (hd : LC xs ys D) : C = D := LeK.anti h.1 h'.1 (h.2.2 D h'.1 hd h'.2.1) (h'.2.2 C h.1 hc h.2.1)
end Go.Proofs.YtjjndoigkhabdaaDoor
namespace Go.Proofs.YtjjndoigkhabdaaDoor
open Go Go.AM Go.Proofs
/-- a slice of sets, its block and its place -/
structure IB (v : AV) (b o : Nat) (H : Heap) (P : List Nat) : Prop where
  v : ∃ c, v = .s 1 b o P.length c
  k : ∃ k, H[b]? = some (.cells k) ∧ o + P.length ≤ k.length ∧ ∀ i, i < P.length → k[o + i]? = some (.i (gi P (i : Int) : Nat))
  b : P.length ≤ 1000
section
variable {v : AV} {b o lo : Nat} {H H' : Heap} {P : List Nat}
theorem IB.lt (h : IB v b o H P) : b < H.length := by
  obtain ⟨k, hk, _⟩ := h.k
  exact (List.getElem?_eq_some_iff.1 hk).1
theorem IB.kp {p : Nat → Prop} (h : IB v b o H P) (hx : Kp p H H') (hp : p b) : IB v b o H' P := by
  obtain ⟨k, hk, h2⟩ := h.k
  exact ⟨h.v, ⟨k, hx.2 _ _ hp hk, h2⟩, h.b⟩
theorem IB.T (h : IB v b o H P) : lenV v = some (.i P.length) ∧ (∀ (kk : IntKind) (i : Nat), i < P.length → iaddrV 1 v (.int kk (i : Int)) = some (.p b (o + i))) ∧ v.cells = [v] ∧ v.one = true ∧
    (∀ i, i < P.length → ld H b (o + i) = some (.i (gi P (i : Int) : Nat))) := by
  obtain ⟨⟨c, rfl⟩, ⟨k, hk, h1, h2⟩, hb⟩ := h
  refine ⟨rfl, fun kk i hi => ?_, rfl, rfl, fun i hi => ?_⟩
  · rw [zx178 (by omega) (by omega), Int.toNat_natCast, Nat.mul_one]
  · rw [ld_of hk]; exact h2 i hi
theorem IB.sl (h : IB v b o H P) : Sl (fun b' => b' = b) H v (nL P) := by
  obtain ⟨⟨c, rfl⟩, ⟨k, hk, h1, h2⟩, hb⟩ := h
  refine .inr ⟨b, o, c, k, by rw [nL_len]; rfl, rfl, hk, ?_, by rw [nL_len]; omega, fun i hi => ?_⟩
  · change o + (nL P).length * 1 ≤ _
    rw [nL_len]; omega
  · rw [nL_len] at hi
    have e : (nL P)[i]'(by rw [nL_len]; exact hi) = (gi P (i : Int) : Nat) := by rw [← nL_gi hi, gi_nat (by rw [nL_len]; exact hi)]
    rw [e]
    change (k.drop (o + i * 1)).take 1 = [.i (gi P (i : Int) : Nat)]
    rw [Nat.mul_one, List.take_one, List.head?_drop, h2 i hi]; rfl
theorem IB.of {p : Nat → Prop} (h : Sl p H v (nL P)) (hne : P ≠ []) (hb : P.length ≤ 1000) : ∃ b o, p b ∧ IB v b o H P := by
  rcases h with ⟨_, e⟩ | ⟨b, o, c, k, rfl, h1, hk, h3, h4, h5⟩
  · exact absurd (List.map_eq_nil_iff.1 e) hne
  · change o + (nL P).length * 1 ≤ _ at h3
    rw [nL_len] at h3
    refine ⟨b, o, h1, ⟨c, by rw [nL_len]; rfl⟩, ⟨k, hk, by omega, fun i hi => ?_⟩, hb⟩
    have := h5 i (by rw [nL_len]; exact hi)
    have e : (nL P)[i]'(by rw [nL_len]; exact hi) = (gi P (i : Int) : Nat) := by rw [← nL_gi hi, gi_nat (by rw [nL_len]; exact hi)]
    rw [e] at this
    change (k.drop (o + i * 1)).take 1 = [.i (gi P (i : Int) : Nat)] at this
    rw [Nat.mul_one] at this
    exact take1 this
theorem IB.st (h : IB v b o H P) (hlo : lo ≤ b) {i : Nat} (hi : i < P.length) (x : Nat) : ∃ H', st lo H b (o + i) [.i (x : Int)] = some H' ∧ H'.length = H.length ∧ Kx (fun b' => b' ≠ b) H H' ∧ IB v b o H' (P.set i x) := by
  obtain ⟨hv, ⟨k, hk, h1, h2⟩, hb⟩ := h
  refine ⟨_, st_of hk hlo (by simp; omega), by simp, Kx.set _ _ _, by rwa [List.length_set], ⟨_, get_set hk, ?_, fun j hj => ?_⟩, by rwa [List.length_set]⟩
  · simp [wr]; exact h1
  · rw [List.length_set] at hj
    rw [gi_set hi]
    simp only [wr]
    by_cases e : j = i
    · subst e
      rw [if_pos rfl, List.getElem?_set_self (by omega)]
    · rw [if_neg e, List.getElem?_set_ne (by omega)]
      exact h2 j hj
end
/-- what is known, as two slices apart -/
structure Rd (w1 w2 : AV) (b1 o1 b2 o2 : Nat) (H : Heap) (K : KS) : Prop where
  i1 : IB w1 b1 o1 H (FK K)
  i2 : IB w2 b2 o2 H (EK K)
  ne : b1 ≠ b2
theorem Rd.kp {w1 w2 : AV} {b1 o1 b2 o2 : Nat} {H H' : Heap} {K : KS} {p : Nat → Prop} (h : Rd w1 w2 b1 o1 b2 o2 H K) (hx : Kp p H H') (h1 : p b1) (h2 : p b2) : Rd w1 w2 b1 o1 b2 o2 H' K := ⟨h.i1.kp hx h1, h.i2.kp hx h2, h.ne⟩
theorem Rd.all {w1 w2 : AV} {b1 o1 b2 o2 : Nat} {H H' : Heap} {K : KS} (h : Rd w1 w2 b1 o1 b2 o2 H K) (hx : Kx (fun _ => True) H H') : Rd w1 w2 b1 o1 b2 o2 H' K := h.kp hx.kp trivial trivial
/-- a struct of two slices that holds K, laid behind L -/
def RdV (L : Nat) (r : AV) (H : Heap) (K : KS) : Prop := ∃ w1 w2 b1 o1 b2 o2, r = .ag [w1, w2] ∧ Rd w1 w2 b1 o1 b2 o2 H K ∧ L ≤ b1 ∧ L ≤ b2
theorem RdV.pure {L : Nat} {r : AV} {H : Heap} {K : KS} (h : RdV L r H K) : r.pure = false := by
  obtain ⟨w1, w2, b1, o1, b2, o2, rfl, hr, _⟩ := h
  obtain ⟨c, rfl⟩ := hr.i1.v
  rfl
theorem RdV.kp {L : Nat} {r : AV} {H H' : Heap} {K : KS} (h : RdV L r H K) (hk : Kp (fun _ => True) H H') : RdV L r H' K := by
  obtain ⟨w1, w2, b1, o1, b2, o2, e, hr, h1, h2⟩ := h
  exact ⟨w1, w2, b1, o1, b2, o2, e, hr.kp hk trivial trivial, h1, h2⟩
theorem IB.zero {H' : Heap} {n b : Nat} {P : List Nat} (hl : P.length = n) (hz : ∀ i : Nat, i < n → gi P (i : Int) = 0) (h2 : H'[b]? = some (.cells (reps n [.i 0]))) (h3 : n ≤ 1000) : IB (.s 1 b 0 n (some n)) b 0 H' P := by
  refine ⟨⟨some n, by rw [hl]⟩, ⟨_, h2, by rw [reps_z, hl]; simp, fun i hi => ?_⟩, by omega⟩
  rw [hl] at hi
  rw [reps_z, hz i hi, List.getElem?_replicate, Nat.zero_add, if_pos hi]
  rfl
end Go.Proofs.YtjjndoigkhabdaaDoor
namespace Go.AM
open Go
section
variable {E : Tab} {lo : Nat} {y : AV} {B : Nat} {X : Type} {A : (Nat → Prop) → Heap → List AV → X → Prop}
/-- the items are told one by one: K are the caller's blocks; what is older than B, and they, are kept between rounds; a round keeps what is not the caller's -/
def ItJ (E : Tab) (lo : Nat) (y : AV) (B : Nat) (A : (Nat → Prop) → Heap → List AV → X → Prop) (J : Heap → Prop) (Q : Bool → (Nat → Prop) → Heap → Prop) : List X → (Nat → Prop) → Heap → Prop
  | [], K, H => ∀ H1, Kx (fun b => b < B ∨ K b) H H1 → Q true K H1
  | x :: xs, K, H => ∀ H1 Ki args, Kx (fun b => b < B ∨ K b) H H1 → A Ki H1 args x → (∀ b, Ki b → B ≤ b ∧ b < H1.length ∧ ¬ K b) →
      WpV E lo y args H1 fun v H2 => Kx (fun b => ¬ (K b ∨ Ki b)) H1 H2 ∧
        ((v = .b true ∧ J H2 ∧ ItJ E lo y B A J Q xs (Kn K Ki H1 H2) H2) ∨ (v = .b false ∧ ∀ H3, Kx (fun b => b < B ∨ Kn K Ki H1 H2 b) H2 H3 → Q false (Kn K Ki H1 H2) H3))
theorem ItJ.keep {J : Heap → Prop} {Q : Bool → (Nat → Prop) → Heap → Prop} {xs : List X} {K : Nat → Prop} {H H1 : Heap} (h : ItJ E lo y B A J Q xs K H) (hk : Kx (fun b => b < B ∨ K b) H H1) : ItJ E lo y B A J Q xs K H1 := by
  cases xs with
  | nil => exact fun H2 h2 => h H2 (hk.trans h2 fun _ _ h => h)
  | cons x xs => exact fun H2 Ki args h2 => h H2 Ki args (hk.trans h2 fun _ _ h => h)
end
section
variable {E : Tab} {lo : Nat} {rd : Option Nat} {k : List AI} {a : Fr} {H : Heap} {Q : Out → Fr → Heap → Prop}
/-- **a range over a function, with what holds between rounds**: K0 the caller's blocks that its body may write (not the loop's record) -/
theorem Wp.rangeJ {X : Type} {A : (Nat → Prop) → Heap → List AV → X → Prop} {nt : Nat} {x : AX} {ps : List Nat} {asg body : ACode} {f : Nat} {us caps : List AV} (xs : List X) (J : Heap → Prop) (K0 : Nat → Prop)
    (I : Nat → (Nat → Prop) → Heap → Prop) (S : Jmp → (Nat → Prop) → Heap → Prop)
    (hx : ev a x = .fn f us caps) (hm : mayLoop lo rd H = true) (hlo : lo ≤ H.length) (hK0 : ∀ b, K0 b → b < H.length)
    (hA : ∀ Ki H1 args x, A Ki H1 args x → args.length = ps.length)
    (it : ∀ (K : Nat → Prop) (H1 : Heap) (Q : Bool → (Nat → Prop) → Heap → Prop), H1.length = H.length + 1 → Kx (fun _ => True) H H1 → (∀ b, K b ↔ K0 b ∨ b = H.length) → ItJ E lo (.yl H.length) (H.length + 1) A J Q xs K H1 →
      WpF E lo f (us ++ .yl H.length :: caps) H1 fun _ H' => ∃ ok K', Q ok K' H')
    (st : ∀ i K H1 H2, I i K H1 → Kx (fun b => b < H.length ∨ K b) H1 H2 → I i K H2)
    (sst : ∀ j K H1 H2, S j K H1 → Kx (fun b => b < H.length ∨ K b) H1 H2 → S j K H2)
    (hJ : ∀ i K H, I i K H → J H)
    (h0 : I 0 K0 H)
    (step : ∀ (i : Nat) (hi : i < xs.length) (K Ki : Nat → Prop) (args : List AV) (H1 : Heap), I i K H1 → A Ki H1 args xs[i] → (∀ b, Ki b → H.length < b ∧ b < H1.length ∧ ¬ K b) → (∀ b, K b → b < H1.length ∧ b ≠ H.length) →
      Kx (fun b => b < H.length ∧ ¬ K0 b) H H1 → H.length < H1.length → H1[H.length]? = some (.loop .ready none nt a ps asg body) → (∀ b, b < H.length → (K b ↔ K0 b)) →
      Wp E lo (some H.length) [.code asg, .begin, .code body] (setPs a ps args) H1 fun out _ H2 =>
        H2[H.length]? = some (.loop .busy none nt a ps asg body) ∧ Kx (fun b => ¬ (K b ∨ Ki b) ∧ b ≠ H.length) H1 H2 ∧
        (match out.jmp with | none => I (i + 1) (Kn K Ki H1 H2) H2 | some j => S j (Kn K Ki H1 H2) H2))
    (fin : ∀ K H', I xs.length K H' → Kx (fun b => b < H.length ∧ ¬ K0 b) H H' → H.length < H'.length → Wp E lo rd k a H' Q)
    (stop : ∀ j K H', S j K H' → Kx (fun b => b < H.length ∧ ¬ K0 b) H H' → H.length < H'.length → Wp E lo rd (.code j.code :: k) a H' Q) :
    Wp E lo rd (.code (.rangeF nt x ps asg body) :: k) a H Q := by
  have key : ∀ (n i : Nat), xs.length - i = n → i ≤ xs.length → ∀ (K K' : Nat → Prop) (H1 : Heap), (∀ b, K' b ↔ K b ∨ b = H.length) → I i K H1 → H1[H.length]? = some (.loop .ready none nt a ps asg body) → (∀ b, K b → b < H1.length ∧ b ≠ H.length) → H.length < H1.length → Kx (fun b => b < H.length ∧ ¬ K0 b) H H1 → (∀ b, b < H.length → (K b ↔ K0 b)) →
      ItJ E lo (.yl H.length) (H.length + 1) A J (fun ok _ H' => H.length < H'.length ∧ Kx (fun b => b < H.length ∧ ¬ K0 b) H H' ∧ (ok = true → ∃ K, (∀ b, K b → b ≠ H.length) ∧ I xs.length K H' ∧ H'[H.length]? = some (.loop .ready none nt a ps asg body)) ∧ (ok = false → ∃ K j, (∀ b, K b → b ≠ H.length) ∧ S j K H' ∧ H'[H.length]? = some (.loop .done (some j) nt a ps asg body))) (xs.drop i) K' H1 := by
    intro n
    induction n with
    | zero =>
      intro i e hi K K' H1 hK' hI hl hK hH hkk h00
      have : i = xs.length := by omega
      subst this
      rw [List.drop_length]
      intro H2 h2
      refine ⟨by have := h2.1; omega, hkk.trans h2 fun b _ h => .inl (by omega), fun _ => ⟨K, fun b hb => (hK b hb).2, st _ _ _ _ hI (h2.weak fun b _ h => h.elim (fun h => .inl (by omega)) fun h => .inr ((hK' b).2 (.inl h))), h2.get (.inl (by omega)) hl⟩, nofun⟩
    | succ n ih =>
      intro i e hi K K' H1 hK' hI hl hK hH hkk h00
      have hi' : i < xs.length := by omega
      rw [List.drop_eq_getElem_cons hi']
      intro H2 Ki args h2 ha hf
      have hH2 : H.length < H2.length := by have := h2.1; omega
      have hI2 : I i K H2 := st _ _ _ _ hI (h2.weak fun b _ h => h.elim (fun h => .inl (by omega)) fun h => .inr ((hK' b).2 (.inl h)))
      have hl2 := h2.get (Or.inl (Nat.lt_succ_self _)) hl
      have hKi : ∀ b, Ki b → H.length < b ∧ b < H2.length ∧ ¬ K b := fun b hb => ⟨(hf b hb).1, (hf b hb).2.1, fun h => (hf b hb).2.2 ((hK' b).2 (.inl h))⟩
      have hK2 : ∀ b, K b → b < H2.length ∧ b ≠ H.length := fun b hb => ⟨by have := (hK b hb).1; have := h2.1; omega, (hK b hb).2⟩
      have hkk2 : Kx (fun b => b < H.length ∧ ¬ K0 b) H H2 := hkk.trans h2 fun b _ h => .inl (by omega)
      refine WpV.yl hl2 hlo (hA _ _ _ _ ha) ((step i hi' K Ki args H2 hI2 ha hKi hK2 hkk2 hH2 hl2 h00).mono fun out a' H3 ⟨q1, q2, q3⟩ => ⟨none, nt, a, ps, asg, body, q1, ?_, ?_⟩)
      · refine Kx.set' (q2.weak fun b _ h => ⟨fun hh => h (hh.elim (fun hh => .inl ((hK' b).2 (.inl hh))) .inr), fun e => h (.inl ((hK' b).2 (.inr e)))⟩) (fun _ h => h (.inl ((hK' _).2 (.inr rfl)))) _
      · have hkn : ∀ b, Kn K' Ki H2 (H3.set H.length (.loop (if out.jmp.isNone then .ready else .done) out.jmp nt a ps asg body)) b ↔ Kn K Ki H2 H3 b ∨ b = H.length := by
          intro b
          simp only [Kn, List.length_set, hK']
          constructor
          · rintro ((h | h) | h | h)
            · exact .inl (.inl h)
            · exact .inr h
            · exact .inl (.inr (.inl h))
            · exact .inl (.inr (.inr h))
          · rintro ((h | h | h) | h)
            · exact .inl (.inl h)
            · exact .inr (.inl h)
            · exact .inr (.inr h)
            · exact .inl (.inr h)
        have hne : ∀ b, Kn K Ki H2 H3 b → b ≠ H.length := by
          rintro b (h | h | h)
          · exact (hK2 b h).2
          · have := (hKi b h).1; omega
          · omega
        have h23 := q2.1
        have hset : Kx (fun b => b < H.length ∨ Kn K Ki H2 H3 b) H3 (H3.set H.length (.loop (if out.jmp.isNone then .ready else .done) out.jmp nt a ps asg body)) :=
          (Kx.set _ _ _).weak fun b _ h => h.elim (fun h => by omega) (hne b)
        have hkk3 : Kx (fun b => b < H.length ∧ ¬ K0 b) H (H3.set H.length (.loop (if out.jmp.isNone then .ready else .done) out.jmp nt a ps asg body)) :=
          (hkk2.trans q2 fun b hb h => ⟨fun hh => hh.elim (fun hh => h.2 ((h00 b h.1).1 hh)) fun hh => by have := (hKi b hh).1; omega, by omega⟩).set' (fun _ h => by omega) _
        have hgl : (H3.set H.length (.loop (if out.jmp.isNone then .ready else .done) out.jmp nt a ps asg body))[H.length]? = some (.loop (if out.jmp.isNone then .ready else .done) out.jmp nt a ps asg body) := get_set q1
        cases hj : out.jmp with
        | none =>
          simp only [hj, Option.isNone_none, if_true] at q3 hkn hset hkk3 hgl ⊢
          refine .inl ⟨trivial, hJ _ _ _ (st _ _ _ _ q3 hset), ih (i + 1) (by omega) (by omega) (Kn K Ki H2 H3) _ _ hkn (st _ _ _ _ q3 hset) hgl ?_ (by simp; omega) hkk3 ?_⟩
          · intro b hb
            refine ⟨?_, hne b hb⟩
            rw [List.length_set]
            rcases hb with h | h | h
            · have := (hK2 b h).1; omega
            · have := (hKi b h).2.1; omega
            · omega
          · intro b hb
            refine ⟨?_, fun h => .inl ((h00 b hb).2 h)⟩
            rintro (h | h | h)
            · exact (h00 b hb).1 h
            · have := (hKi b h).1; omega
            · omega
        | some j =>
          simp only [hj, Option.isNone_some, Bool.false_eq_true, if_false] at q3 hkn hset hkk3 hgl ⊢
          refine .inr ⟨trivial, fun H4 h4 => ⟨by have := h4.1; rw [List.length_set] at this; omega, hkk3.trans h4 fun b _ h => .inl (by omega), nofun, fun _ => ⟨Kn K Ki H2 H3, j, hne, sst _ _ _ _ q3 (hset.trans h4 fun b _ h => h.elim (fun h => .inl (by omega)) fun h => .inr ((hkn b).2 (.inl h))), h4.get (.inl (Nat.lt_succ_self _)) hgl⟩⟩⟩
  refine Wp.rangeF hx hm ?_
  have hK0' : ∀ b, K0 b → b < (H ++ [Blk.loop .ready none nt a ps asg body]).length ∧ b ≠ H.length := fun b hb => by have := hK0 b hb; simp; omega
  have hh0 : Kx (fun _ => True) H (H ++ [.loop .ready none nt a ps asg body]) := Kx.app _ _ _
  refine (it (fun b => K0 b ∨ b = H.length) _ _ (by simp) hh0 (fun b => Iff.rfl) (key _ 0 rfl (Nat.zero_le _) K0 _ _ (fun b => Iff.rfl) (st _ _ _ _ h0 (hh0.weak fun _ _ _ => trivial)) get_last hK0' (by simp) (hh0.weak fun _ _ _ => trivial) fun b _ => Iff.rfl)).mono ?_
  rintro v H' ⟨ok, _, hl, hkk, ht, hf⟩
  have hd : ∀ (K : Nat → Prop), (∀ b, K b → b ≠ H.length) → Kx (fun b => b < H.length ∨ K b) H' (H'.set H.length .dead) := fun K hK => (Kx.set _ _ _).weak fun b _ h => h.elim (fun h => by omega) (hK b)
  have hkd : Kx (fun b => b < H.length ∧ ¬ K0 b) H (H'.set H.length .dead) := hkk.set' (fun h => by omega) _
  cases ok with
  | true =>
    obtain ⟨K, h1, h2, h3⟩ := ht rfl
    exact .inl ⟨_, _, _, _, _, h3, fin K _ (st _ _ _ _ h2 (hd K h1)) hkd (by simpa using hl)⟩
  | false =>
    obtain ⟨K, j, h1, h2, h3⟩ := hf rfl
    exact .inr ⟨j, _, _, _, _, _, h3, stop j K _ (sst _ _ _ _ h2 (hd K h1)) hkd (by simpa using hl)⟩
end
end Go.AM
namespace Go.Proofs.YtjjndoigkhabdaaDoor
open Go Go.AM Go.Proofs
instance (K : KS) (i c : Nat) : Decidable (openB K i c) := by unfold openB; infer_instance
/-- the open squares of a row from c on -/
def rowO (K : KS) (w i c : Nat) : List (Nat × Nat) := ((List.range w).drop c).filterMap fun k => if openB K i k then some (i, k) else none
def rowsO (K : KS) (h w i : Nat) : List (Nat × Nat) := ((List.range h).drop i).flatMap fun r => rowO K w r 0
theorem range_drop {n i : Nat} (h : i < n) : (List.range n).drop i = i :: (List.range n).drop (i + 1) := by
  rw [List.drop_eq_getElem_cons (by simpa using h)]; simp
theorem rowO_s {K : KS} {w i c : Nat} (h : c < w) : rowO K w i c = (if openB K i c then [(i, c)] else []) ++ rowO K w i (c + 1) := by
  unfold rowO
  rw [range_drop h, List.filterMap_cons]
  split <;> rename_i q <;> split at q <;> simp_all
theorem rowO_n {K : KS} {w i c : Nat} (h : w ≤ c) : rowO K w i c = [] := by
  unfold rowO
  rw [List.drop_of_length_le (by simpa using h)]; rfl
theorem rowsO_s {K : KS} {h w i : Nat} (hi : i < h) : rowsO K h w i = rowO K w i 0 ++ rowsO K h w (i + 1) := by
  unfold rowsO
  rw [range_drop hi, List.flatMap_cons]
theorem rowsO_n {K : KS} {h w i : Nat} (hi : h ≤ i) : rowsO K h w i = [] := by
  unfold rowsO
  rw [List.drop_of_length_le (by simpa using hi)]; rfl
theorem mem_rowsO {K : KS} {h w : Nat} {x : Nat × Nat} : x ∈ rowsO K h w 0 ↔ x.1 < h ∧ x.2 < w ∧ openB K x.1 x.2 := by
  unfold rowsO rowO
  simp only [List.drop_zero, List.mem_flatMap, List.mem_range, List.mem_filterMap, Option.ite_none_right_eq_some, Option.some.injEq]
  constructor
  · rintro ⟨r, hr, c, hc, ho, rfl⟩
    exact ⟨hr, hc, ho⟩
  · rintro ⟨h1, h2, h3⟩
    exact ⟨x.1, h1, x.2, h2, h3, rfl⟩
/-- an item that is a square -/
def ArgS (_ : Nat → Prop) (_ : Heap) (args : List AV) (x : Nat × Nat) : Prop := args = [.i (x.1 : Int), .i (x.2 : Int)]
theorem open_ops {K : KS} {i c : Nat} (hf : fK K i ≤ 9223372036854775807) (he : eK K i ≤ 9223372036854775807) (hc : c ≤ 31) : ∃ m n k : Nat, binA .or (.i (fK K i : Nat)) (.i (eK K i : Nat)) = some (.i (m : Int)) ∧ binA .shr (.i (m : Int)) (.i (c : Int)) = some (.i (n : Int)) ∧ binA .and (.i (n : Int)) (.i 1) = some (.i (k : Int)) ∧ decide ((k : Int) = 0) = decide (openB K i c) ∧ decide ((k : Int) = 1) = !decide (openB K i c) := by
  have hor := or_le hf he
  have hle : (fK K i ||| eK K i) >>> c ≤ 9223372036854775807 := by
    have : (fK K i ||| eK K i) >>> c ≤ fK K i ||| eK K i := by rw [Nat.shiftRight_eq_div_pow]; exact Nat.div_le_self _ _
    omega
  have e : (((fK K i ||| eK K i) >>> c) &&& 1) = ((fK K i ||| eK K i).testBit c).toNat := by
    rw [Nat.toNat_testBit, Nat.and_one_is_mod, Nat.shiftRight_eq_div_pow]
  refine ⟨fK K i ||| eK K i, (fK K i ||| eK K i) >>> c, ((fK K i ||| eK K i) >>> c) &&& 1, b_or hf he, b_shr (by omega), b_and (b := 1) hle (by omega), ?_, ?_⟩
  · rw [e, Nat.testBit_or]
    have : ∀ p q : Bool, (((p || q).toNat : Nat) : Int) = 0 ↔ p = false ∧ q = false := by decide
    exact decide_eq_decide.2 (this _ _)
  · rw [e, Nat.testBit_or]
    have : ∀ p q : Bool, (((p || q).toNat : Nat) : Int) = 1 ↔ ¬ (p = false ∧ q = false) := by decide
    exact (decide_eq_decide.2 (this _ _)).trans decide_not
theorem open_ok {L bp pp kb o lo : Nat} {u w v y : AV} {xs ys : List (List Int)} {H : Heap} {C : KS} {K : Nat → Prop} {Q : Bool → (Nat → Prop) → Heap → Prop} (h : Bd L bp pp u w xs ys v kb o H C) (hP : PuzP xs ys) (hw : WfK xs.length ys.length C) (hlo : lo ≤ H.length)
    (hK : ∀ b, K b → b < H.length ∧ L ≤ b ∧ b ≠ kb) (hI : ItJ E lo y H.length ArgS (fun H' => H'[bp]? = some (.cells [.p pp 0, v])) Q (rowsO C xs.length ys.length 0) K H) :
    WpF E lo 105 [.p bp 0, y] H fun _ H' => ∃ ok K', Q ok K' H' := by
  refine WpF.wrt rfl fn105 rfl ?_
  unfold f105A
  have x5 : xs.length ≤ 5 := by have := hP.1.2; omega
  have y5 : ys.length ≤ 5 := by have := hP.2.1.2; omega
  have py := pow32 y5
  have hl := hw.len
  have hT := h.k.T
  have hlt := h.lt
  simp (disch := (first | assumption | omega | (simp only [List.length_append, List.length_cons, List.length_nil]; omega))) only [↓wD,wU,Nat.reduceBEq,zx150,zx151,zx159,zx160,zx161,zx162,Nat.reduceAdd,Nat.reduceSub,Nat.reduceMul,Nat.reduceLeDiff,Nat.reduceLT,Nat.reduceEqDiff,Int.reduceAdd,Int.reduceSub,Int.reduceMul,Int.reduceNeg,Int.reduceLT,Int.reduceLE,Int.reduceEq,Int.reduceToNat,Int.cast_ofNat_Int,↓reduceIte, nc_p, ld_of h.b, hT, hl]
  refine Wp.for xs.length (fun i a H1 => a 0 = .p bp 0 ∧ a 1 = y ∧ a 10 = .i xs.length ∧ a 11 = .i i ∧ ∃ K1, ItJ E lo y H.length ArgS (fun H' => H'[bp]? = some (.cells [.p pp 0, v])) Q (rowsO C xs.length ys.length i) K1 H1 ∧ Bd L bp pp u w xs ys v kb o H1 C ∧ H.length ≤ H1.length ∧ ∀ b, K1 b → b < H1.length ∧ (b < H.length → K b)) ?_ ?_
  · rintro i a H1 hi ⟨a0, a1, a10, a11, K1, hI1, hb1, hl1, hK1⟩ ih
    simp (disch := (first | assumption | omega | (simp only [List.length_append, List.length_cons, List.length_nil]; omega))) only [↓wD,wU,Nat.reduceBEq,zx150,zx151,zx159,zx160,zx161,zx162,Nat.reduceAdd,Nat.reduceSub,Nat.reduceMul,Nat.reduceLeDiff,Nat.reduceLT,Nat.reduceEqDiff,Int.reduceAdd,Int.reduceSub,Int.reduceMul,Int.reduceNeg,Int.reduceLT,Int.reduceLE,Int.reduceEq,Int.reduceToNat,Int.cast_ofNat_Int,↓reduceIte, a0, a1, a10, a11]
    refine condP_split (fun hlt => ?_) (fun hlt => ?_)
    · have hi' : i < xs.length := by omega
      rw [rowsO_s hi'] at hI1
      have hyL := hb1.y.L
      simp (disch := (first | assumption | omega | (simp only [List.length_append, List.length_cons, List.length_nil]; omega))) only [↓wD,wU,Nat.reduceBEq,zx150,zx151,zx159,zx160,zx161,zx162,Nat.reduceAdd,Nat.reduceSub,Nat.reduceMul,Nat.reduceLeDiff,Nat.reduceLT,Nat.reduceEqDiff,Int.reduceAdd,Int.reduceSub,Int.reduceMul,Int.reduceNeg,Int.reduceLT,Int.reduceLE,Int.reduceEq,Int.reduceToNat,Int.cast_ofNat_Int,↓reduceIte, a0, a1, a10, a11, nc_p, ld_of hb1.b, ld_of hb1.p, hyL]
      refine Wp.for ys.length (fun c a H1 => a 0 = .p bp 0 ∧ a 1 = y ∧ a 4 = .i i ∧ a 10 = .i xs.length ∧ a 11 = .i i ∧ a 21 = .i ys.length ∧ a 22 = .i c ∧ ∃ K1, ItJ E lo y H.length ArgS (fun H' => H'[bp]? = some (.cells [.p pp 0, v])) Q (rowO C ys.length i c ++ rowsO C xs.length ys.length (i + 1)) K1 H1 ∧ Bd L bp pp u w xs ys v kb o H1 C ∧ H.length ≤ H1.length ∧ ∀ b, K1 b → b < H1.length ∧ (b < H.length → K b)) ?_ ?_
      · clear hyL hK1 hl1 hb1 hI1 K1 hlt a0 a1 a10 a11 hi a H1
        rintro c a H1 hc ⟨a0, a1, a4, a10, a11, a21, a22, K1, hI1, hb1, hl1, hK1⟩ ih2
        simp (disch := (first | assumption | omega | (simp only [List.length_append, List.length_cons, List.length_nil]; omega))) only [↓wD,wU,Nat.reduceBEq,zx150,zx151,zx159,zx160,zx161,zx162,Nat.reduceAdd,Nat.reduceSub,Nat.reduceMul,Nat.reduceLeDiff,Nat.reduceLT,Nat.reduceEqDiff,Int.reduceAdd,Int.reduceSub,Int.reduceMul,Int.reduceNeg,Int.reduceLT,Int.reduceLE,Int.reduceEq,Int.reduceToNat,Int.cast_ofNat_Int,↓reduceIte, a0, a1, a4, a10, a11, a21, a22]
        refine condP_split (fun hlt => ?_) (fun hlt => ?_)
        · have hc' : c < ys.length := by omega
          rw [rowO_s hc'] at hI1
          have hT1 := hb1.k.T
          have t1 : iaddrV 2 v (.i (i : Int)) = some (.p kb (o + 2 * i)) := hT1.2.1 _ i (by omega)
          have t2 := hT1.2.2.2.2.1 i (by omega)
          have t3 := hT1.2.2.2.2.2.1 i (by omega)
          have hwi := hw.lt i hi'
          obtain ⟨m, n, k, o1, o2, o3, o4, _⟩ := open_ops (K := C) (i := i) (c := c) (by omega) (by omega) (by omega)
          by_cases ho : openB C i c
          · rw [decide_eq_true ho] at o4
            rw [if_pos ho] at hI1
            generalize fK C i = Fi at *
            generalize eK C i = Ei at *
            simp (disch := (first | assumption | omega | (simp only [List.length_append, List.length_cons, List.length_nil]; omega))) only [↓wD,wU,Nat.reduceBEq,zx150,zx151,zx159,zx160,zx161,zx162,Nat.reduceAdd,Nat.reduceSub,Nat.reduceMul,Nat.reduceLeDiff,Nat.reduceLT,Nat.reduceEqDiff,Int.reduceAdd,Int.reduceSub,Int.reduceMul,Int.reduceNeg,Int.reduceLT,Int.reduceLE,Int.reduceEq,Int.reduceToNat,Int.cast_ofNat_Int,↓reduceIte, a0, a1, a4, a10, a11, a21, a22, nc_p, ld_of hb1.b, t1, t2, t3, o1, o2, o3, o4]
            refine callvI ((hI1 H1 (fun _ => False) [.i (i : Int), .i (c : Int)] (Kx.refl _ _) rfl fun _ h => h.elim).mono ?_)
            rintro r H2 ⟨hx, hc2⟩
            have h12 := hx.1
            have hKn : ∀ b, Kn K1 (fun _ => False) H1 H2 b → b < H2.length ∧ (b < H.length → K b) := by
              rintro b (q | q | q)
              · exact ⟨by have := (hK1 b q).1; omega, (hK1 b q).2⟩
              · exact q.elim
              · exact ⟨q.2, fun q' => by omega⟩
            rcases hc2 with ⟨rfl, hj, hc2⟩ | ⟨rfl, hc2⟩
            · have hb2 : Bd L bp pp u w xs ys v kb o H2 C := by
                have hne : ∀ b, b < L → ¬ (K1 b ∨ False) := fun b hb q => by
                  rcases q with q | q
                  · by_cases e : b < H.length
                    · have := hK b ((hK1 b q).2 e); omega
                    · have := hlt; have := h.hb; omega
                  · exact q
                exact ⟨hj, hx.get (hne pp hb1.hp) hb1.p, hb1.x.kp (hx.weak fun b _ h => hne b h).kp, hb1.y.kp (hx.weak fun b _ h => hne b h).kp, hb1.k.kx hx (fun q => by
                  rcases q with q | q
                  · have := hK kb ((hK1 kb q).2 (by omega)); omega
                  · exact q), hb1.hp, hb1.hb, hb1.hk, hb1.ne⟩
              simp (disch := (first | assumption | omega | (simp only [List.length_append, List.length_cons, List.length_nil]; omega))) only [↓wD,wU,Nat.reduceBEq,zx150,zx151,zx159,zx160,zx161,zx162,Nat.reduceAdd,Nat.reduceSub,Nat.reduceMul,Nat.reduceLeDiff,Nat.reduceLT,Nat.reduceEqDiff,Int.reduceAdd,Int.reduceSub,Int.reduceMul,Int.reduceNeg,Int.reduceLT,Int.reduceLE,Int.reduceEq,Int.reduceToNat,Int.cast_ofNat_Int,↓reduceIte, a0, a1, a4, a10, a11, a21, a22]
              refine (ih2 hc').go ?_
              simp (disch := (first | assumption | omega | (simp only [List.length_append, List.length_cons, List.length_nil]; omega))) only [↓wD,wU,Nat.reduceBEq,zx150,zx151,zx159,zx160,zx161,zx162,Nat.reduceAdd,Nat.reduceSub,Nat.reduceMul,Nat.reduceLeDiff,Nat.reduceLT,Nat.reduceEqDiff,Int.reduceAdd,Int.reduceSub,Int.reduceMul,Int.reduceNeg,Int.reduceLT,Int.reduceLE,Int.reduceEq,Int.reduceToNat,Int.cast_ofNat_Int,↓reduceIte, a0, a1, a4, a10, a11, a21, a22]
              exact ⟨_, hc2, hb2, by omega, hKn⟩
            · simp (disch := (first | assumption | omega | (simp only [List.length_append, List.length_cons, List.length_nil]; omega))) only [↓wD,wU,Nat.reduceBEq,zx150,zx151,zx159,zx160,zx161,zx162,Nat.reduceAdd,Nat.reduceSub,Nat.reduceMul,Nat.reduceLeDiff,Nat.reduceLT,Nat.reduceEqDiff,Int.reduceAdd,Int.reduceSub,Int.reduceMul,Int.reduceNeg,Int.reduceLT,Int.reduceLE,Int.reduceEq,Int.reduceToNat,Int.cast_ofNat_Int,↓reduceIte, a0, a1, a4, a10, a11, a21, a22]
              exact ⟨false, _, hc2 _ (Kx.refl _ _)⟩
          · rw [decide_eq_false ho] at o4
            rw [if_neg ho, List.nil_append] at hI1
            generalize fK C i = Fi at *
            generalize eK C i = Ei at *
            simp (disch := (first | assumption | omega | (simp only [List.length_append, List.length_cons, List.length_nil]; omega))) only [↓wD,wU,Nat.reduceBEq,zx150,zx151,zx159,zx160,zx161,zx162,Nat.reduceAdd,Nat.reduceSub,Nat.reduceMul,Nat.reduceLeDiff,Nat.reduceLT,Nat.reduceEqDiff,Int.reduceAdd,Int.reduceSub,Int.reduceMul,Int.reduceNeg,Int.reduceLT,Int.reduceLE,Int.reduceEq,Int.reduceToNat,Int.cast_ofNat_Int,↓reduceIte, a0, a1, a4, a10, a11, a21, a22, nc_p, ld_of hb1.b, t1, t2, t3, o1, o2, o3, o4]
            refine (ih2 hc').go ?_
            simp (disch := (first | assumption | omega | (simp only [List.length_append, List.length_cons, List.length_nil]; omega))) only [↓wD,wU,Nat.reduceBEq,zx150,zx151,zx159,zx160,zx161,zx162,Nat.reduceAdd,Nat.reduceSub,Nat.reduceMul,Nat.reduceLeDiff,Nat.reduceLT,Nat.reduceEqDiff,Int.reduceAdd,Int.reduceSub,Int.reduceMul,Int.reduceNeg,Int.reduceLT,Int.reduceLE,Int.reduceEq,Int.reduceToNat,Int.cast_ofNat_Int,↓reduceIte, a0, a1, a4, a10, a11, a21, a22]
            exact ⟨K1, hI1, hb1, hl1, hK1⟩
        · rw [rowO_n (by omega), List.nil_append] at hI1
          simp (disch := (first | assumption | omega | (simp only [List.length_append, List.length_cons, List.length_nil]; omega))) only [↓wD,wU,Nat.reduceBEq,zx150,zx151,zx159,zx160,zx161,zx162,Nat.reduceAdd,Nat.reduceSub,Nat.reduceMul,Nat.reduceLeDiff,Nat.reduceLT,Nat.reduceEqDiff,Int.reduceAdd,Int.reduceSub,Int.reduceMul,Int.reduceNeg,Int.reduceLT,Int.reduceLE,Int.reduceEq,Int.reduceToNat,Int.cast_ofNat_Int,↓reduceIte, a0, a1, a4, a10, a11, a21, a22]
          refine (ih hi').go ?_
          simp (disch := (first | assumption | omega | (simp only [List.length_append, List.length_cons, List.length_nil]; omega))) only [↓wD,wU,Nat.reduceBEq,zx150,zx151,zx159,zx160,zx161,zx162,Nat.reduceAdd,Nat.reduceSub,Nat.reduceMul,Nat.reduceLeDiff,Nat.reduceLT,Nat.reduceEqDiff,Int.reduceAdd,Int.reduceSub,Int.reduceMul,Int.reduceNeg,Int.reduceLT,Int.reduceLE,Int.reduceEq,Int.reduceToNat,Int.cast_ofNat_Int,↓reduceIte, a0, a1, a10, a11]
          exact ⟨K1, hI1, hb1, hl1, hK1⟩
      · simp (disch := (first | assumption | omega | (simp only [List.length_append, List.length_cons, List.length_nil]; omega))) only [↓wD,wU,Nat.reduceBEq,zx150,zx151,zx159,zx160,zx161,zx162,Nat.reduceAdd,Nat.reduceSub,Nat.reduceMul,Nat.reduceLeDiff,Nat.reduceLT,Nat.reduceEqDiff,Int.reduceAdd,Int.reduceSub,Int.reduceMul,Int.reduceNeg,Int.reduceLT,Int.reduceLE,Int.reduceEq,Int.reduceToNat,Int.cast_ofNat_Int,↓reduceIte, a0, a1, a10, a11]
        exact ⟨K1, hI1, hb1, hl1, hK1⟩
    · rw [rowsO_n (by omega)] at hI1
      simp (disch := (first | assumption | omega | (simp only [List.length_append, List.length_cons, List.length_nil]; omega))) only [↓wD,wU,Nat.reduceBEq,zx150,zx151,zx159,zx160,zx161,zx162,Nat.reduceAdd,Nat.reduceSub,Nat.reduceMul,Nat.reduceLeDiff,Nat.reduceLT,Nat.reduceEqDiff,Int.reduceAdd,Int.reduceSub,Int.reduceMul,Int.reduceNeg,Int.reduceLT,Int.reduceLE,Int.reduceEq,Int.reduceToNat,Int.cast_ofNat_Int,↓reduceIte, a0, a1, a10, a11]
      exact ⟨true, K1, hI1 _ (Kx.refl _ _)⟩
  · simp (disch := (first | assumption | omega | (simp only [List.length_append, List.length_cons, List.length_nil]; omega))) only [↓wD,wU,Nat.reduceBEq,zx150,zx151,zx159,zx160,zx161,zx162,Nat.reduceAdd,Nat.reduceSub,Nat.reduceMul,Nat.reduceLeDiff,Nat.reduceLT,Nat.reduceEqDiff,Int.reduceAdd,Int.reduceSub,Int.reduceMul,Int.reduceNeg,Int.reduceLT,Int.reduceLE,Int.reduceEq,Int.reduceToNat,Int.cast_ofNat_Int,↓reduceIte]
    exact ⟨K, hI, h, fun b q => ⟨(hK b q).1, fun _ => q⟩⟩
theorem done_ret {L bp pp kb o : Nat} {u w v : AV} {xs ys : List (List Int)} {H : Heap} {C : KS} (h : Bd L bp pp u w xs ys v kb o H C) (hP : PuzP xs ys) (hw : WfK xs.length ys.length C) : RetP E 84 [.p bp 0] H (.b (decide (rowsO C xs.length ys.length 0 = []))) := by
  refine RetP.ro rfl fn84 rfl rfl ?_
  unfold f84A
  obtain ⟨Hr, eHr⟩ : ∃ Hr, H ++ [Blk.cells [.b false]] = Hr := ⟨_, rfl⟩
  have x0 : Kx (fun _ => True) H Hr := by rw [← eHr]; exact Kx.app _ _ _
  have nr : Hr.length = H.length + 1 := by rw [← eHr]; simp
  have c0 : Hr[H.length]? = some (.cells [.b false]) := by rw [← eHr]; exact get_last
  have hr := h.all x0
  have hlt := h.lt
  have hbb := h.hb
  have hkk := h.hk
  obtain ⟨ts, ets⟩ : ∃ ts, rowsO C xs.length ys.length 0 = ts := ⟨_, rfl⟩
  rw [ets]
  simp (disch := (first | assumption | omega | (simp only [List.length_append, List.length_cons, List.length_nil]; omega))) only [↓wD,wU,Nat.reduceBEq,zx150,zx151,zx159,zx160,zx161,zx162,Nat.reduceAdd,Nat.reduceSub,Nat.reduceMul,Nat.reduceLeDiff,Nat.reduceLT,Nat.reduceEqDiff,Int.reduceAdd,Int.reduceSub,Int.reduceMul,Int.reduceNeg,Int.reduceLT,Int.reduceLE,Int.reduceEq,Int.reduceToNat,Int.cast_ofNat_Int,↓reduceIte]
  rw [eHr]
  refine Wp.rangeJ (A := ArgS) ts (fun H' => H'[bp]? = some (.cells [.p pp 0, v])) (fun b => b = H.length) (fun i K H1 => i = 0 ∧ H1[H.length]? = some (.cells [.b false]) ∧ K H.length ∧ H1[bp]? = some (.cells [.p pp 0, v]))
    (fun j K H1 => j = .ret ∧ ts ≠ [] ∧ H1[H.length]? = some (.cells [.b false]) ∧ K H.length) (by (simp (disch := (first | assumption | omega | (simp only [List.length_append, List.length_cons, List.length_nil]; omega))) only [↓wD,wU,Nat.reduceBEq,zx150,zx151,zx159,zx160,zx161,zx162,Nat.reduceAdd,Nat.reduceSub,Nat.reduceMul,Nat.reduceLeDiff,Nat.reduceLT,Nat.reduceEqDiff,Int.reduceAdd,Int.reduceSub,Int.reduceMul,Int.reduceNeg,Int.reduceLT,Int.reduceLE,Int.reduceEq,Int.reduceToNat,Int.cast_ofNat_Int,↓reduceIte]) <;> rfl) rfl (by omega) (fun b h => by omega) (by rintro _ _ _ _ rfl; rfl) ?_ ?_ ?_ ?_ ?_ ?_ ?_ ?_
  · intro K' H1 Q' e hx' hK' hI
    rw [← ets, ← e] at hI
    refine open_ok (hr.all hx') hP hw (by omega) (fun b q => ?_) hI
    rcases (hK' b).1 q with q | q <;> omega
  · exact fun i K H1 H2 h hx => ⟨h.1, hx.get (.inr h.2.2.1) h.2.1, h.2.2.1, hx.get (.inl (by omega)) h.2.2.2⟩
  · exact fun j K H1 H2 h hx => ⟨h.1, h.2.1, hx.get (.inr h.2.2.2) h.2.2.1, h.2.2.2⟩
  · exact fun i K H h => h.2.2.2
  · exact ⟨rfl, c0, rfl, hr.b⟩
  · rintro i hi K Ki args H1 ⟨rfl, q2, k2, q3⟩ rfl hKi hK hx hl1 hlr hKK
    simp (disch := (first | assumption | omega | (simp only [List.length_append, List.length_cons, List.length_nil]; omega))) only [↓wD,wU,Nat.reduceBEq,zx150,zx151,zx159,zx160,zx161,zx162,Nat.reduceAdd,Nat.reduceSub,Nat.reduceMul,Nat.reduceLeDiff,Nat.reduceLT,Nat.reduceEqDiff,Int.reduceAdd,Int.reduceSub,Int.reduceMul,Int.reduceNeg,Int.reduceLT,Int.reduceLE,Int.reduceEq,Int.reduceToNat,Int.cast_ofNat_Int,↓reduceIte, zx188 (lo := H.length) hlr (by omega), zx189, zx190]
    generalize e2 : H1.set Hr.length _ = H2
    have x12 : Kx (fun b => b ≠ Hr.length) H1 H2 := by rw [← e2]; exact Kx.set _ _ _
    have gl := gset e2 hlr
    have r2 := x12.get (b := H.length) (by omega) q2
    clear e2
    have st1 : st H.length H2 H.length 0 [.b false] = some (H2.set H.length (.cells [.b false])) := by rw [st_of r2 (by omega) (by simp)]; simp [wr]
    simp (disch := (first | assumption | omega | (simp only [List.length_append, List.length_cons, List.length_nil]; omega))) only [↓wD,wU,Nat.reduceBEq,zx150,zx151,zx159,zx160,zx161,zx162,Nat.reduceAdd,Nat.reduceSub,Nat.reduceMul,Nat.reduceLeDiff,Nat.reduceLT,Nat.reduceEqDiff,Int.reduceAdd,Int.reduceSub,Int.reduceMul,Int.reduceNeg,Int.reduceLT,Int.reduceLE,Int.reduceEq,Int.reduceToNat,Int.cast_ofNat_Int,↓reduceIte, st1]
    refine ⟨?_, ?_, rfl, ?_, get_set r2, .inl k2⟩
    · rw [List.getElem?_set_ne (by omega)]; exact gl
    · exact (x12.weak fun b _ h => h.2).set' (fun _ h => h.1 (.inl k2)) _
    · intro e; rw [e] at hi; simp at hi
  · rintro K H1 ⟨e0, q2, k2, q3⟩ hx hl1
    have e1 : ts = [] := List.length_eq_zero_iff.1 e0
    have st1 : st H.length H1 H.length 0 [.b true] = some (H1.set H.length (.cells [.b true])) := by rw [st_of q2 (by omega) (by simp)]; simp [wr]
    rw [decide_eq_true e1]
    simp (disch := (first | assumption | omega | (simp only [List.length_append, List.length_cons, List.length_nil]; omega))) only [↓wD,wU,Nat.reduceBEq,zx150,zx151,zx159,zx160,zx161,zx162,Nat.reduceAdd,Nat.reduceSub,Nat.reduceMul,Nat.reduceLeDiff,Nat.reduceLT,Nat.reduceEqDiff,Int.reduceAdd,Int.reduceSub,Int.reduceMul,Int.reduceNeg,Int.reduceLT,Int.reduceLE,Int.reduceEq,Int.reduceToNat,Int.cast_ofNat_Int,↓reduceIte, st1, ld_of (get_set q2)]
  · rintro j K H1 ⟨rfl, hne, q2, k2⟩ hx hl1
    change Wp E H.length none (.code .ret :: _) _ _ _
    rw [decide_eq_false hne]
    simp (disch := (first | assumption | omega | (simp only [List.length_append, List.length_cons, List.length_nil]; omega))) only [↓wD,wU,Nat.reduceBEq,zx150,zx151,zx159,zx160,zx161,zx162,Nat.reduceAdd,Nat.reduceSub,Nat.reduceMul,Nat.reduceLeDiff,Nat.reduceLT,Nat.reduceEqDiff,Int.reduceAdd,Int.reduceSub,Int.reduceMul,Int.reduceNeg,Int.reduceLT,Int.reduceLE,Int.reduceEq,Int.reduceToNat,Int.cast_ofNat_Int,↓reduceIte, ld_of q2]
end Go.Proofs.YtjjndoigkhabdaaDoor
namespace Go.Proofs.YtjjndoigkhabdaaDoor
open Go Go.AM Go.Proofs
/-- a new board, behind n -/
def NewB (L pp : Nat) (u w : AV) (xs ys : List (List Int)) (C : KS) (n : Nat) (r : AV) (H' : Heap) : Prop := ∃ bp v kb o, r = .p bp 0 ∧ Bd L bp pp u w xs ys v kb o H' C ∧ n ≤ bp ∧ n ≤ kb
theorem bclone_ok {L bp pp kb o lo : Nat} {u w v : AV} {xs ys : List (List Int)} {H : Heap} {C : KS} (h : Bd L bp pp u w xs ys v kb o H C) (hc : 1 ≤ C.length) :
    WpF E lo 113 [.p bp 0] H fun r H' => NewB L pp u w xs ys C H.length r H' ∧ Kx (fun _ => True) H H' := by
  refine WpF.roX rfl fn113 rfl (by rintro v H' ⟨bp, v', kb, o, rfl, _⟩; rfl) (by rintro v H' H'' ⟨bp, v', kb, o, e, h, h1, h2⟩ hk; exact ⟨bp, v', kb, o, e, h.kp hk, h1, h2⟩) ?_
  unfold f113A
  have hlt := h.lt
  have hbb := h.hb
  have hne : C ≠ [] := fun e => by rw [e] at hc; simp at hc
  have h1000 := h.k.b
  simp (disch := (first | assumption | omega | (simp only [List.length_append, List.length_cons, List.length_nil]; omega))) only [↓wD,wU,Nat.reduceBEq,zx150,zx151,zx159,zx160,zx161,zx162,Nat.reduceAdd,Nat.reduceSub,Nat.reduceMul,Nat.reduceLeDiff,Nat.reduceLT,Nat.reduceEqDiff,Int.reduceAdd,Int.reduceSub,Int.reduceMul,Int.reduceNeg,Int.reduceLT,Int.reduceLE,Int.reduceEq,Int.reduceToNat,Int.cast_ofNat_Int,↓reduceIte, nc_p, ld_of h.b]
  refine (kclone_ret h.k.sl (by rw [pK_len]; omega)).toFX fun v2 H2 x2 hv2 => ?_
  have n2 := x2.1
  obtain ⟨kb2, o2, q, k2⟩ := KB.of hv2 hne h1000
  have h2 := h.all x2
  have x3 : Kx (fun _ => True) H2 (H2 ++ [Blk.cells [.p pp 0, v2]]) := Kx.app _ _ _
  have k2l := k2.lt
  simp (disch := (first | assumption | omega | (simp only [List.length_append, List.length_cons, List.length_nil]; omega))) only [↓wD,wU,Nat.reduceBEq,zx150,zx151,zx159,zx160,zx161,zx162,Nat.reduceAdd,Nat.reduceSub,Nat.reduceMul,Nat.reduceLeDiff,Nat.reduceLT,Nat.reduceEqDiff,Int.reduceAdd,Int.reduceSub,Int.reduceMul,Int.reduceNeg,Int.reduceLT,Int.reduceLE,Int.reduceEq,Int.reduceToNat,Int.cast_ofNat_Int,↓reduceIte, hv2.cellsV]
  exact ⟨H2.length, v2, kb2, o2, rfl, ⟨get_last, x3.get trivial h2.p, h2.x.kp (x3.all _).kp, h2.y.kp (x3.all _).kp, k2.kx x3 trivial, h.hp, by omega, by omega, by omega⟩, by omega, q⟩
theorem bitOr_ops {a c : Nat} (ha : a ≤ 9223372036854775807) (hc : c ≤ 31) : ∃ m : Nat, binA .shl (.i 1) (.i (c : Int)) = some (.i (m : Int)) ∧ binA .or (.i (a : Int)) (.i (m : Int)) = some (.i (bitOr a c : Nat)) := by
  have h4 : 2 ^ c ≤ 2 ^ 31 := Nat.pow_le_pow_right (by omega) hc
  have e : 1 <<< c = 2 ^ c := Nat.one_shiftLeft c
  exact ⟨1 <<< c, b_shl (a := 1) (by omega) (by omega), b_or ha (by omega)⟩
theorem suppose_ok {L bp pp kb o lo : Nat} {u w v : AV} {xs ys : List (List Int)} {H : Heap} {C : KS} {i c : Nat} {b : Bool} (h : Bd L bp pp u w xs ys v kb o H C) (hP : PuzP xs ys) (hw : WfK xs.length ys.length C) (hi : i < xs.length) (hc : c < ys.length) :
    WpF E lo 112 [.p bp 0, .i i, .i c, .b b] H fun r H' => NewB L pp u w xs ys (withK C i c b) H.length r H' ∧ Kx (fun _ => True) H H' := by
  refine WpF.roX rfl fn112 rfl (by rintro v H' ⟨bp, v', kb, o, rfl, _⟩; rfl) (by rintro v H' H'' ⟨bp, v', kb, o, e, h, h1, h2⟩ hk; exact ⟨bp, v', kb, o, e, h.kp hk, h1, h2⟩) ?_
  unfold f112A
  have hl := hw.len
  have y5 : ys.length ≤ 5 := by have := hP.2.1.2; omega
  have py := pow32 y5
  have hwi := hw.lt i hi
  simp (disch := (first | assumption | omega | (simp only [List.length_append, List.length_cons, List.length_nil]; omega))) only [↓wD,wU,Nat.reduceBEq,zx150,zx151,zx159,zx160,zx161,zx162,Nat.reduceAdd,Nat.reduceSub,Nat.reduceMul,Nat.reduceLeDiff,Nat.reduceLT,Nat.reduceEqDiff,Int.reduceAdd,Int.reduceSub,Int.reduceMul,Int.reduceNeg,Int.reduceLT,Int.reduceLE,Int.reduceEq,Int.reduceToNat,Int.cast_ofNat_Int,↓reduceIte]
  refine callI ((bclone_ok h (by omega)).mono ?_)
  rintro r H2 ⟨⟨bp2, v2, kb2, o2, rfl, h2, q1, q2⟩, x2⟩
  have hT := h2.k.T
  have t1 : iaddrV 2 v2 (.i (i : Int)) = some (.p kb2 (o2 + 2 * i)) := hT.2.1 _ i (by omega)
  have t2 := hT.2.2.2.2.1 i (by omega)
  have t3 := hT.2.2.2.2.2.1 i (by omega)
  have hic : i < C.length := by omega
  cases b with
  | true =>
    obtain ⟨m, o1, o2'⟩ := bitOr_ops (a := fK C i) (c := c) (by omega) (by omega)
    obtain ⟨H3, st3, n3, x3, k3⟩ := h2.k.st1 (lo := H.length) (by omega) hic (bitOr (fK C i) c)
    have h3 := h2.upd x3 k3
    have e : C.set i (bitOr (fK C i) c, eK C i) = withK C i c true := rfl
    rw [e] at h3
    clear e k3
    generalize bitOr (fK C i) c = B at *
    generalize fK C i = Fi at *
    simp (disch := (first | assumption | omega | (simp only [List.length_append, List.length_cons, List.length_nil]; omega))) only [↓wD,wU,Nat.reduceBEq,zx150,zx151,zx159,zx160,zx161,zx162,Nat.reduceAdd,Nat.reduceSub,Nat.reduceMul,Nat.reduceLeDiff,Nat.reduceLT,Nat.reduceEqDiff,Int.reduceAdd,Int.reduceSub,Int.reduceMul,Int.reduceNeg,Int.reduceLT,Int.reduceLE,Int.reduceEq,Int.reduceToNat,Int.cast_ofNat_Int,↓reduceIte, nc_p, ld_of h2.b, t1, t2, o1, o2', st3]
    exact ⟨bp2, v2, kb2, o2, rfl, h3, q1, q2⟩
  | false =>
    obtain ⟨m, o1, o2'⟩ := bitOr_ops (a := eK C i) (c := c) (by omega) (by omega)
    obtain ⟨H3, st3, n3, x3, k3⟩ := h2.k.st2 (lo := H.length) (by omega) hic (bitOr (eK C i) c)
    have h3 := h2.upd x3 k3
    have e : C.set i (fK C i, bitOr (eK C i) c) = withK C i c false := rfl
    rw [e] at h3
    clear e k3
    generalize bitOr (eK C i) c = B at *
    generalize eK C i = Ei at *
    simp (disch := (first | assumption | omega | (simp only [List.length_append, List.length_cons, List.length_nil]; omega))) only [↓wD,wU,Nat.reduceBEq,zx150,zx151,zx159,zx160,zx161,zx162,Nat.reduceAdd,Nat.reduceSub,Nat.reduceMul,Nat.reduceLeDiff,Nat.reduceLT,Nat.reduceEqDiff,Int.reduceAdd,Int.reduceSub,Int.reduceMul,Int.reduceNeg,Int.reduceLT,Int.reduceLE,Int.reduceEq,Int.reduceToNat,Int.cast_ofNat_Int,↓reduceIte, nc_p, ld_of h2.b, t1, t3, o1, o2', st3]
    exact ⟨bp2, v2, kb2, o2, rfl, h3, q1, q2⟩
/-- what settle does at a depth -/
def SetS (lo L pp : Nat) (u w : AV) (xs ys : List (List Int)) (d : Nat) : Prop := ∀ {bp : Nat} {v : AV} {kb o : Nat} {H : Heap} {C : KS}, Bd L bp pp u w xs ys v kb o H C → WfK xs.length ys.length C →
  WpF E lo 83 [.p bp 0, .i d] H fun r H' => ∃ D b v' kb' o', r = .b b ∧ Bd L bp pp u w xs ys v' kb' o' H' D ∧ WfK xs.length ys.length D ∧ (kb' = kb ∨ H.length ≤ kb') ∧ Kx (fun b => b ≠ bp ∧ b ≠ kb) H H' ∧ (b = true → Res xs ys d C D) ∧ (b = false → Fail xs ys d C)
theorem try_ok {lo L pp : Nat} {u w : AV} {xs ys : List (List Int)} {d : Nat} (hs : SetS lo L pp u w xs ys d) (hP : PuzP xs ys) (hlo : lo ≤ L) (hd : d ≤ 1000) {bp : Nat} {v : AV} {kb o : Nat} {H : Heap} {D : KS} (h : Bd L bp pp u w xs ys v kb o H D) (hw : WfK xs.length ys.length D) :
    WpF E lo 104 [.p bp 0, .i ((d + 1 : Nat) : Int)] H fun r H' => Kx (fun b => b ≠ bp) H H' ∧
      ((r = .b true ∧ ∃ i c b v' kb' o', i < xs.length ∧ c < ys.length ∧ openB D i c ∧ Fail xs ys d (withK D i c b) ∧ Bd L bp pp u w xs ys v' kb' o' H' (withK D i c (!b)) ∧ H.length ≤ kb') ∨
       (r = .b false ∧ Bd L bp pp u w xs ys v kb o H' D ∧ ∀ i c b, i < xs.length → c < ys.length → openB D i c → ∃ M, Res xs ys d (withK D i c b) M)) := by
  refine WpF.wrt rfl fn104 rfl ?_
  unfold f104A
  obtain ⟨Hr, eHr⟩ : ∃ Hr, H ++ [Blk.cells [.p bp 0]] ++ [Blk.cells [.i ((d : Int) + 1)]] ++ [Blk.cells [.b false]] = Hr := ⟨_, rfl⟩
  have x0 : Kx (fun _ => True) H Hr := by rw [← eHr]; exact ((Kx.app _ _ _).app' _).app' _
  have nr : Hr.length = H.length + 3 := by rw [← eHr]; simp
  have c0 : Hr[H.length]? = some (.cells [.p bp 0]) := by rw [← eHr]; simp [List.getElem?_append]
  have c1 : Hr[H.length + 1]? = some (.cells [.i ((d : Int) + 1)]) := by rw [← eHr]; simp [List.getElem?_append]
  have c2 : Hr[H.length + 2]? = some (.cells [.b false]) := by rw [← eHr]; simp [List.getElem?_append]
  have hr := h.all x0
  have hlt := h.lt
  have hbb := h.hb
  have hkk := h.hk
  have hnn := h.ne
  have hpp := h.hp
  obtain ⟨ts, ets⟩ : ∃ ts, rowsO D xs.length ys.length 0 = ts := ⟨_, rfl⟩
  have hmem : ∀ x, x ∈ ts ↔ x.1 < xs.length ∧ x.2 < ys.length ∧ openB D x.1 x.2 := fun x => by rw [← ets]; exact mem_rowsO
  simp (disch := (first | assumption | omega | (simp only [List.length_append, List.length_cons, List.length_nil]; omega))) only [↓wD,wU,Nat.reduceBEq,zx150,zx151,zx159,zx160,zx161,zx162,Nat.reduceAdd,Nat.reduceSub,Nat.reduceMul,Nat.reduceLeDiff,Nat.reduceLT,Nat.reduceEqDiff,Int.reduceAdd,Int.reduceSub,Int.reduceMul,Int.reduceNeg,Int.reduceLT,Int.reduceLE,Int.reduceEq,Int.reduceToNat,Int.cast_ofNat_Int,↓reduceIte]
  rw [eHr]
  refine Wp.rangeJ (A := ArgS) ts (fun H' => H'[bp]? = some (.cells [.p pp 0, v])) (fun b => b = bp ∨ b = H.length + 2)
    (fun i K H1 => H1[H.length + 2]? = some (.cells [.b false]) ∧ K (H.length + 2) ∧ H1[bp]? = some (.cells [.p pp 0, v]) ∧ K bp ∧ ∀ (j : Nat) (hj : j < ts.length), j < i → ∀ b, ∃ M, Res xs ys d (withK D ts[j].1 ts[j].2 b) M)
    (fun j K H1 => j = .ret ∧ H1[H.length + 2]? = some (.cells [.b true]) ∧ K (H.length + 2) ∧ K bp ∧ ∃ i c b v' kb' o', i < xs.length ∧ c < ys.length ∧ openB D i c ∧ Fail xs ys d (withK D i c b) ∧ H1[bp]? = some (.cells [.p pp 0, v']) ∧ KB v' kb' o' H1 (withK D i c (!b)) ∧ Hr.length ≤ kb' ∧ K kb')
    (by (simp (disch := (first | assumption | omega | (simp only [List.length_append, List.length_cons, List.length_nil]; omega))) only [↓wD,wU,Nat.reduceBEq,zx150,zx151,zx159,zx160,zx161,zx162,Nat.reduceAdd,Nat.reduceSub,Nat.reduceMul,Nat.reduceLeDiff,Nat.reduceLT,Nat.reduceEqDiff,Int.reduceAdd,Int.reduceSub,Int.reduceMul,Int.reduceNeg,Int.reduceLT,Int.reduceLE,Int.reduceEq,Int.reduceToNat,Int.cast_ofNat_Int,↓reduceIte]) <;> rfl) rfl (by omega) (fun b h => by omega) (by rintro _ _ _ _ rfl; rfl) ?_ ?_ ?_ ?_ ?_ ?_ ?_ ?_
  · intro K' H1 Q' e hx' hK' hI
    rw [← ets, ← e] at hI
    refine open_ok (hr.all hx') hP hw (by omega) (fun b q => ?_) hI
    rcases (hK' b).1 q with (q | q) | q <;> omega
  · exact fun i K H1 H2 h hx => ⟨hx.get (.inr h.2.1) h.1, h.2.1, hx.get (.inr h.2.2.2.1) h.2.2.1, h.2.2.2⟩
  · rintro j K H1 H2 ⟨rfl, h1, k1, k2, i, c, b, v', kb', o', q1, q2, q3, q4, q5, q6, q7, q8⟩ hx
    exact ⟨rfl, hx.get (.inr k1) h1, k1, k2, i, c, b, v', kb', o', q1, q2, q3, q4, hx.get (.inr k2) q5, q6.kx hx (.inr q8), q7, q8⟩
  · exact fun i K H h => h.2.2.1
  · exact ⟨c2, .inr rfl, hr.b, .inl rfl, fun j _ hj => by omega⟩
  · rintro i hi K Ki args H1 ⟨q2, k2, q3, kb3', hres⟩ rfl hKi hK hx hl1 hlr hKK
    obtain ⟨m1, m2, m3⟩ := (hmem _).1 (List.getElem_mem hi)
    obtain ⟨X, hX⟩ : ∃ X, ts[i] = X := ⟨_, rfl⟩
    rw [hX] at m1 m2 m3 ⊢
    obtain ⟨I1, I2⟩ := X
    simp only at m1 m2 m3
    simp (disch := (first | assumption | omega | (simp only [List.length_append, List.length_cons, List.length_nil]; omega))) only [↓wD,wU,Nat.reduceBEq,zx150,zx151,zx159,zx160,zx161,zx162,Nat.reduceAdd,Nat.reduceSub,Nat.reduceMul,Nat.reduceLeDiff,Nat.reduceLT,Nat.reduceEqDiff,Int.reduceAdd,Int.reduceSub,Int.reduceMul,Int.reduceNeg,Int.reduceLT,Int.reduceLE,Int.reduceEq,Int.reduceToNat,Int.cast_ofNat_Int,↓reduceIte, zx188 (lo := lo) hlr (by omega), zx189, zx190]
    generalize e2 : H1.set Hr.length _ = H2
    have x12 : Kx (fun b => b ≠ Hr.length) H1 H2 := by rw [← e2]; exact Kx.set _ _ _
    have gl := gset e2 hlr
    have n12 := x12.1
    have h1b : Bd L bp pp u w xs ys v kb o H1 D := ⟨q3, hx.get (by omega) hr.p, hr.x.kp (hx.weak fun b _ h => by omega).kp, hr.y.kp (hx.weak fun b _ h => by omega).kp, hr.k.kx hx (by omega), h.hp, h.hb, h.hk, h.ne⟩
    have h2b : Bd L bp pp u w xs ys v kb o H2 D := h1b.kx (x12.weak fun b _ h => by omega)
    have d0 := x12.get (b := H.length) (by omega) (hx.get (by omega) c0)
    have d1 := x12.get (b := H.length + 1) (by omega) (hx.get (by omega) c1)
    have d2 := x12.get (b := H.length + 2) (by omega) q2
    clear e2 hx
    obtain ⟨H3, eH3⟩ : ∃ H3, H2 ++ [Blk.cells [.b true, .b false]] = H3 := ⟨_, rfl⟩
    have x23 : Kx (fun _ => True) H2 H3 := by rw [← eH3]; exact Kx.app _ _ _
    have n3 : H3.length = H2.length + 1 := by rw [← eH3]; simp
    have g3 : H3[H2.length]? = some (.cells [.b true, .b false]) := by rw [← eH3]; exact get_last
    obtain ⟨V, eV⟩ : ∃ V, AV.s 1 H2.length 0 2 (some 2) = V := ⟨_, rfl⟩
    have lV : lenV V = some (.i 2) := by rw [← eV]; rfl
    have iV : ∀ t : Nat, t < 2 → iaddrV 1 V (.i (t : Int)) = some (.p H2.length t) := fun t ht => by
      rw [← eV, zx178 (by omega) (by omega), Int.toNat_natCast, Nat.mul_one, Nat.zero_add]
    have hld : ∀ t : Nat, t < 2 → ([AV.b true, .b false] : List AV)[t]? = some (.b (decide (t = 0))) := by
      intro t ht
      obtain rfl | rfl : t = 0 ∨ t = 1 := by omega
      · rfl
      · rfl
    have h3b := h2b.all x23
    rw [eH3]
    refine Wp.for 2 (fun t a H4 => a 2 = .p H.length 0 ∧ a 3 = .p (H.length + 1) 0 ∧ a 4 = .p (H.length + 2) 0 ∧ a 5 = .i I1 ∧ a 6 = .i I2 ∧ a 13 = V ∧ a 14 = .i 2 ∧ a 15 = .i t ∧ Kx (fun _ => True) H3 H4 ∧ ∀ j : Nat, j < t → ∃ M, Res xs ys d (withK D I1 I2 (decide (j = 0))) M) ?_ ?_
    · rintro t a H4 ht ⟨a2, a3, a4, a5, a6, a13, a14, a15, x34, hres2⟩ ih
      have n4 := x34.1
      have hb4 := h3b.all x34
      simp (disch := (first | assumption | omega | (simp only [List.length_append, List.length_cons, List.length_nil]; omega))) only [↓wD,wU,Nat.reduceBEq,zx150,zx151,zx159,zx160,zx161,zx162,Nat.reduceAdd,Nat.reduceSub,Nat.reduceMul,Nat.reduceLeDiff,Nat.reduceLT,Nat.reduceEqDiff,Int.reduceAdd,Int.reduceSub,Int.reduceMul,Int.reduceNeg,Int.reduceLT,Int.reduceLE,Int.reduceEq,Int.reduceToNat,Int.cast_ofNat_Int,↓reduceIte, a2, a3, a4, a5, a6, a13, a14, a15]
      refine condP_split (fun hlt => ?_) (fun hlt => ?_)
      · have ht' : t < 2 := by omega
        have iVt := iV t ht'
        have g4 := x34.get trivial g3
        have e0 := x34.get trivial (x23.get trivial d0)
        have e1 := x34.get trivial (x23.get trivial d1)
        have lt4 : ld H4 H2.length t = some (.b (decide (t = 0))) := by rw [ld_of g4]; exact hld t ht'
        obtain ⟨val, eval⟩ : ∃ val, decide (t = 0) = val := ⟨_, rfl⟩
        rw [eval] at lt4
        simp (disch := (first | assumption | omega | (simp only [List.length_append, List.length_cons, List.length_nil]; omega))) only [↓wD,wU,Nat.reduceBEq,zx150,zx151,zx159,zx160,zx161,zx162,Nat.reduceAdd,Nat.reduceSub,Nat.reduceMul,Nat.reduceLeDiff,Nat.reduceLT,Nat.reduceEqDiff,Int.reduceAdd,Int.reduceSub,Int.reduceMul,Int.reduceNeg,Int.reduceLT,Int.reduceLE,Int.reduceEq,Int.reduceToNat,Int.cast_ofNat_Int,↓reduceIte, a2, a3, a4, a5, a6, a13, a14, a15, iVt, lt4, ld_of e0]
        refine callI ((suppose_ok (i := I1) (c := I2) (b := val) hb4 hP hw m1 m2).mono ?_)
        rintro r H5 ⟨⟨bp2, v2, kb2, o2, rfl, hb5, p1, p2⟩, x45⟩
        have n5 := x45.1
        have f0 := x45.get trivial e0
        have f1 := x45.get trivial e1
        have hdd : ((d : Int) + 1 - 1) = (d : Int) := by omega
        simp (disch := (first | assumption | omega | (simp only [List.length_append, List.length_cons, List.length_nil]; omega))) only [↓wD,wU,Nat.reduceBEq,zx150,zx151,zx159,zx160,zx161,zx162,Nat.reduceAdd,Nat.reduceSub,Nat.reduceMul,Nat.reduceLeDiff,Nat.reduceLT,Nat.reduceEqDiff,Int.reduceAdd,Int.reduceSub,Int.reduceMul,Int.reduceNeg,Int.reduceLT,Int.reduceLE,Int.reduceEq,Int.reduceToNat,Int.cast_ofNat_Int,↓reduceIte, a2, a3, a4, a5, a6, a13, a14, a15, ld_of f1, hdd]
        refine callI ((hs hb5 (with_wf hw m1 m2 val)).mono ?_)
        rintro r H6 ⟨E', b, v3, kb3, o3, rfl, hb6, hwE, hk6, x56, hT, hF⟩
        have n6 := x56.1
        have x46 : Kx (fun _ => True) H4 H6 := x45.trans x56 fun b hb _ => ⟨by omega, by omega⟩
        have x36 := x34.trans x46 fun _ _ _ => trivial
        cases b with
        | true =>
          simp (disch := (first | assumption | omega | (simp only [List.length_append, List.length_cons, List.length_nil]; omega))) only [↓wD,wU,Nat.reduceBEq,zx150,zx151,zx159,zx160,zx161,zx162,Nat.reduceAdd,Nat.reduceSub,Nat.reduceMul,Nat.reduceLeDiff,Nat.reduceLT,Nat.reduceEqDiff,Int.reduceAdd,Int.reduceSub,Int.reduceMul,Int.reduceNeg,Int.reduceLT,Int.reduceLE,Int.reduceEq,Int.reduceToNat,Int.cast_ofNat_Int,↓reduceIte, a2, a3, a4, a5, a6, a13, a14, a15]
          refine (ih ht').go ?_
          simp (disch := (first | assumption | omega | (simp only [List.length_append, List.length_cons, List.length_nil]; omega))) only [↓wD,wU,Nat.reduceBEq,zx150,zx151,zx159,zx160,zx161,zx162,Nat.reduceAdd,Nat.reduceSub,Nat.reduceMul,Nat.reduceLeDiff,Nat.reduceLT,Nat.reduceEqDiff,Int.reduceAdd,Int.reduceSub,Int.reduceMul,Int.reduceNeg,Int.reduceLT,Int.reduceLE,Int.reduceEq,Int.reduceToNat,Int.cast_ofNat_Int,↓reduceIte, a2, a3, a4, a5, a6, a13, a14, a15]
          refine ⟨x36, fun j hj => ?_⟩
          by_cases ej : j = t
          · subst ej; rw [eval]; exact ⟨E', hT rfl⟩
          · exact hres2 j (by omega)
        | false =>
          have h0 := x46.get trivial e0
          simp (disch := (first | assumption | omega | (simp only [List.length_append, List.length_cons, List.length_nil]; omega))) only [↓wD,wU,Nat.reduceBEq,zx150,zx151,zx159,zx160,zx161,zx162,Nat.reduceAdd,Nat.reduceSub,Nat.reduceMul,Nat.reduceLeDiff,Nat.reduceLT,Nat.reduceEqDiff,Int.reduceAdd,Int.reduceSub,Int.reduceMul,Int.reduceNeg,Int.reduceLT,Int.reduceLE,Int.reduceEq,Int.reduceToNat,Int.cast_ofNat_Int,↓reduceIte, a2, a3, a4, a5, a6, a13, a14, a15, ld_of h0]
          refine callI ((suppose_ok (i := I1) (c := I2) (b := !val) (hb4.all x46) hP hw m1 m2).mono ?_)
          rintro r H7 ⟨⟨bp4, v4, kb4, o4, rfl, hb7, p3, p4⟩, x67⟩
          have n7 := x67.1
          have x37 := x36.trans x67 fun _ _ _ => trivial
          have x27 := x23.trans x37 fun _ _ _ => trivial
          have hb47 := (h2b.all x27)
          have k27 := x27.get trivial d2
          have dd4 : v4.cells = [v4] ∧ v4.one = true := ⟨hb7.k.T.2.2.1, hb7.k.T.2.2.2.1⟩
          have s1 : st lo H7 bp 1 [v4] = some (H7.set bp (.cells [.p pp 0, v4])) := by rw [st_of hb47.b (by omega) (by simp)]; simp [wr]
          have k28 : (H7.set bp (.cells [.p pp 0, v4]))[H.length + 2]? = some (.cells [.b false]) := by rw [List.getElem?_set_ne (by omega)]; exact k27
          have s2 : st lo (H7.set bp (.cells [.p pp 0, v4])) (H.length + 2) 0 [.b true] = some ((H7.set bp (.cells [.p pp 0, v4])).set (H.length + 2) (.cells [.b true])) := by rw [st_of k28 (by omega) (by simp)]; simp [wr]
          have b47 := hb47.b
          have gl7 := x27.get trivial gl
          have hb7b := hb7.b
          have k7l := hb7.k.lt
          simp (disch := (first | assumption | omega | (simp only [List.length_append, List.length_cons, List.length_nil]; omega))) only [↓wD,wU,Nat.reduceBEq,zx150,zx151,zx159,zx160,zx161,zx162,Nat.reduceAdd,Nat.reduceSub,Nat.reduceMul,Nat.reduceLeDiff,Nat.reduceLT,Nat.reduceEqDiff,Int.reduceAdd,Int.reduceSub,Int.reduceMul,Int.reduceNeg,Int.reduceLT,Int.reduceLE,Int.reduceEq,Int.reduceToNat,Int.cast_ofNat_Int,↓reduceIte, a2, a3, a4, a5, a6, a13, a14, a15, nc_p, ld_of hb7b, dd4.1, dd4.2, s1, s2]
          refine ⟨?_, ?_, rfl, get_set k28, .inl k2, .inl kb3', I1, I2, val, v4, kb4, o4, m1, m2, m3, hF rfl, ?_, ?_, by omega, .inr (.inr ⟨by omega, by simp; omega⟩)⟩
          · rw [List.getElem?_set_ne (by omega), List.getElem?_set_ne (by omega)]; exact gl7
          · exact (((x12.weak (q := fun b => ¬ (K b ∨ Ki b) ∧ b ≠ Hr.length) fun b _ h => h.2).trans x27 fun _ _ _ => trivial).set' (fun _ h => h.1 (.inl kb3')) _).set' (fun _ h => h.1 (.inl k2)) _
          · rw [List.getElem?_set_ne (by omega)]; exact get_set b47
          · exact (hb7.k.kx (Kx.set bp H7 _) (by omega)).kx (Kx.set _ _ _) (by omega)
      · obtain rfl : t = 2 := by omega
        simp (disch := (first | assumption | omega | (simp only [List.length_append, List.length_cons, List.length_nil]; omega))) only [↓wD,wU,Nat.reduceBEq,zx150,zx151,zx159,zx160,zx161,zx162,Nat.reduceAdd,Nat.reduceSub,Nat.reduceMul,Nat.reduceLeDiff,Nat.reduceLT,Nat.reduceEqDiff,Int.reduceAdd,Int.reduceSub,Int.reduceMul,Int.reduceNeg,Int.reduceLT,Int.reduceLE,Int.reduceEq,Int.reduceToNat,Int.cast_ofNat_Int,↓reduceIte, a2, a3, a4, a5, a6, a13, a14, a15]
        have x24 := x23.trans x34 fun _ _ _ => trivial
        refine ⟨x24.get trivial gl, (x12.weak (q := fun b => ¬ (K b ∨ Ki b) ∧ b ≠ Hr.length) fun b _ h => h.2).trans x24 fun _ _ _ => trivial, x24.get trivial d2, .inl k2, x24.get trivial h2b.b, .inl kb3', fun j hj hji b => ?_⟩
        by_cases ej : j = i
        · subst ej
          rw [hX]
          cases b with
          | true => exact hres2 0 (by omega)
          | false => exact hres2 1 (by omega)
        · exact hres j hj (by omega) b
    · simp (disch := (first | assumption | omega | (simp only [List.length_append, List.length_cons, List.length_nil]; omega))) only [↓wD,wU,Nat.reduceBEq,zx150,zx151,zx159,zx160,zx161,zx162,Nat.reduceAdd,Nat.reduceSub,Nat.reduceMul,Nat.reduceLeDiff,Nat.reduceLT,Nat.reduceEqDiff,Int.reduceAdd,Int.reduceSub,Int.reduceMul,Int.reduceNeg,Int.reduceLT,Int.reduceLE,Int.reduceEq,Int.reduceToNat,Int.cast_ofNat_Int,↓reduceIte]
      exact ⟨eV, Kx.refl _ _, fun j hj => by omega⟩
  · rintro K H1 ⟨q2, k2, q3, k3, hres⟩ hx hl1
    have st1 : st lo H1 (H.length + 2) 0 [.b false] = some (H1.set (H.length + 2) (.cells [.b false])) := by rw [st_of q2 (by omega) (by simp)]; simp [wr]
    have hx2 : Kx (fun b => b ≠ bp) H (H1.set (H.length + 2) (.cells [.b false])) := ((x0.all (fun b => b ≠ bp)).trans (hx.weak (q := fun b => b < Hr.length ∧ ¬ (b = bp ∨ b = H.length + 2)) fun b _ h => h) fun b hb h => ⟨by omega, by omega⟩).set' (fun hb => by omega) _
    simp (disch := (first | assumption | omega | (simp only [List.length_append, List.length_cons, List.length_nil]; omega))) only [↓wD,wU,Nat.reduceBEq,zx150,zx151,zx159,zx160,zx161,zx162,Nat.reduceAdd,Nat.reduceSub,Nat.reduceMul,Nat.reduceLeDiff,Nat.reduceLT,Nat.reduceEqDiff,Int.reduceAdd,Int.reduceSub,Int.reduceMul,Int.reduceNeg,Int.reduceLT,Int.reduceLE,Int.reduceEq,Int.reduceToNat,Int.cast_ofNat_Int,↓reduceIte, st1, ld_of (get_set q2)]
    refine ⟨hx2, .inr ⟨?_, ?_⟩⟩
    · have h1b : Bd L bp pp u w xs ys v kb o H1 D := ⟨q3, hx.get (by omega) hr.p, hr.x.kp (hx.weak fun b _ h => by omega).kp, hr.y.kp (hx.weak fun b _ h => by omega).kp, hr.k.kx hx (by omega), h.hp, h.hb, h.hk, h.ne⟩
      exact h1b.kx ((Kx.set _ _ _).weak fun b _ h => by omega)
    · intro i c b hi hc ho
      obtain ⟨j, hj, e⟩ := List.mem_iff_getElem.1 ((hmem (i, c)).2 ⟨hi, hc, ho⟩)
      have := hres j hj hj b
      rw [e] at this
      exact this
  · rintro j K H1 ⟨rfl, h1, k1, k2, i, c, b, v', kb', o', q1, q2, q3, q4, q5, q6, q7, q8⟩ hx hl1
    change Wp E lo none (.code .ret :: _) _ _ _
    simp (disch := (first | assumption | omega | (simp only [List.length_append, List.length_cons, List.length_nil]; omega))) only [↓wD,wU,Nat.reduceBEq,zx150,zx151,zx159,zx160,zx161,zx162,Nat.reduceAdd,Nat.reduceSub,Nat.reduceMul,Nat.reduceLeDiff,Nat.reduceLT,Nat.reduceEqDiff,Int.reduceAdd,Int.reduceSub,Int.reduceMul,Int.reduceNeg,Int.reduceLT,Int.reduceLE,Int.reduceEq,Int.reduceToNat,Int.cast_ofNat_Int,↓reduceIte, ld_of h1]
    refine ⟨(x0.all (fun b => b ≠ bp)).trans (hx.weak (q := fun b => b < Hr.length ∧ ¬ (b = bp ∨ b = H.length + 2)) fun b _ h => h) fun b hb h => ⟨by omega, by omega⟩, .inl ⟨i, c, b, v', kb', o', q1, q2, q3, q4, ⟨q5, hx.get (by omega) hr.p, hr.x.kp (hx.weak fun b _ h => by omega).kp, hr.y.kp (hx.weak fun b _ h => by omega).kp, q6, h.hp, h.hb, by omega, by omega⟩, by omega⟩⟩
theorem bsettle_ok {lo L pp : Nat} {u w : AV} {xs ys : List (List Int)} (hP : PuzP xs ys) (hlo : lo ≤ L) : ∀ d : Nat, d ≤ 1000 → SetS lo L pp u w xs ys d := by
  intro d
  induction d with
  | zero =>
    intro _ bp v kb o H C h hw
    refine WpF.wrt rfl fn83 rfl ?_
    unfold f83A
    have z : ((0 : Nat) : Int) = 0 := rfl
    rw [z]
    simp (disch := (first | assumption | omega | (simp only [List.length_append, List.length_cons, List.length_nil]; omega))) only [↓wD,wU,Nat.reduceBEq,zx150,zx151,zx159,zx160,zx161,zx162,Nat.reduceAdd,Nat.reduceSub,Nat.reduceMul,Nat.reduceLeDiff,Nat.reduceLT,Nat.reduceEqDiff,Int.reduceAdd,Int.reduceSub,Int.reduceMul,Int.reduceNeg,Int.reduceLT,Int.reduceLE,Int.reduceEq,Int.reduceToNat,Int.cast_ofNat_Int,↓reduceIte]
    refine Wp.dec (fun m a H' => m = 0 ∧ a 0 = .p bp 0 ∧ a 1 = .i 0 ∧ H' = H) 0 ?_ ?_
    · rintro m a H1 ⟨rfl, a0, a1, rfl⟩ ih
      simp (disch := (first | assumption | omega | (simp only [List.length_append, List.length_cons, List.length_nil]; omega))) only [↓wD,wU,Nat.reduceBEq,zx150,zx151,zx159,zx160,zx161,zx162,Nat.reduceAdd,Nat.reduceSub,Nat.reduceMul,Nat.reduceLeDiff,Nat.reduceLT,Nat.reduceEqDiff,Int.reduceAdd,Int.reduceSub,Int.reduceMul,Int.reduceNeg,Int.reduceLT,Int.reduceLE,Int.reduceEq,Int.reduceToNat,Int.cast_ofNat_Int,↓reduceIte, a0, a1]
      refine callI ((lines_ok h hlo hP hw).mono ?_)
      rintro r H2 ⟨D, b, rfl, hb2, x2, hm, ht, hf⟩
      cases b with
      | true =>
        simp (disch := (first | assumption | omega | (simp only [List.length_append, List.length_cons, List.length_nil]; omega))) only [↓wD,wU,Nat.reduceBEq,zx150,zx151,zx159,zx160,zx161,zx162,Nat.reduceAdd,Nat.reduceSub,Nat.reduceMul,Nat.reduceLeDiff,Nat.reduceLT,Nat.reduceEqDiff,Int.reduceAdd,Int.reduceSub,Int.reduceMul,Int.reduceNeg,Int.reduceLT,Int.reduceLE,Int.reduceEq,Int.reduceToNat,Int.cast_ofNat_Int,↓reduceIte, a0, a1]
        exact ⟨D, true, v, kb, o, rfl, hb2, hm.1, .inl rfl, x2.weak fun _ _ h => h.2, fun _ => ⟨⟨hm.1, ht rfl⟩, hm.2.1, fun L hL h => hm.2.2 L hL.1 hL.2 h⟩, nofun⟩
      | false =>
        simp (disch := (first | assumption | omega | (simp only [List.length_append, List.length_cons, List.length_nil]; omega))) only [↓wD,wU,Nat.reduceBEq,zx150,zx151,zx159,zx160,zx161,zx162,Nat.reduceAdd,Nat.reduceSub,Nat.reduceMul,Nat.reduceLeDiff,Nat.reduceLT,Nat.reduceEqDiff,Int.reduceAdd,Int.reduceSub,Int.reduceMul,Int.reduceNeg,Int.reduceLT,Int.reduceLE,Int.reduceEq,Int.reduceToNat,Int.cast_ofNat_Int,↓reduceIte, a0, a1]
        exact ⟨D, false, v, kb, o, rfl, hb2, hm.1, .inl rfl, x2.weak fun _ _ h => h.2, nofun, fun _ L hL => hf rfl L hL.1 hL.2⟩
    · simp (disch := (first | assumption | omega | (simp only [List.length_append, List.length_cons, List.length_nil]; omega))) only [↓wD,wU,Nat.reduceBEq,zx150,zx151,zx159,zx160,zx161,zx162,Nat.reduceAdd,Nat.reduceSub,Nat.reduceMul,Nat.reduceLeDiff,Nat.reduceLT,Nat.reduceEqDiff,Int.reduceAdd,Int.reduceSub,Int.reduceMul,Int.reduceNeg,Int.reduceLT,Int.reduceLE,Int.reduceEq,Int.reduceToNat,Int.cast_ofNat_Int,↓reduceIte]
  | succ d ih =>
    intro hd bp v kb o H C h hw
    have hs : SetS lo L pp u w xs ys d := @ih (by omega)
    refine WpF.wrt rfl fn83 rfl ?_
    unfold f83A
    obtain ⟨dd, edd⟩ : ∃ dd : Nat, dd = d + 1 := ⟨_, rfl⟩
    have hne : decide ((dd : Int) = 0) = false := decide_eq_false (by omega)
    rw [← edd]
    simp (disch := (first | assumption | omega | (simp only [List.length_append, List.length_cons, List.length_nil]; omega))) only [↓wD,wU,Nat.reduceBEq,zx150,zx151,zx159,zx160,zx161,zx162,Nat.reduceAdd,Nat.reduceSub,Nat.reduceMul,Nat.reduceLeDiff,Nat.reduceLT,Nat.reduceEqDiff,Int.reduceAdd,Int.reduceSub,Int.reduceMul,Int.reduceNeg,Int.reduceLT,Int.reduceLE,Int.reduceEq,Int.reduceToNat,Int.cast_ofNat_Int,↓reduceIte]
    refine Wp.dec (fun m a H' => ∃ D v' kb' o', m = mes xs.length ys.length D ∧ a 0 = .p bp 0 ∧ a 1 = .i dd ∧ Bd L bp pp u w xs ys v' kb' o' H' D ∧ Mid xs ys (d + 1) C D ∧ (kb' = kb ∨ H.length ≤ kb') ∧ Kx (fun b => b ≠ bp ∧ b ≠ kb) H H') (mes xs.length ys.length C) ?_ ?_
    · rintro m a H1 ⟨D, v1, kb1, o1, rfl, a0, a1, hb1, hm1, hk1, x1⟩ ihl
      have n1 := x1.1
      simp (disch := (first | assumption | omega | (simp only [List.length_append, List.length_cons, List.length_nil]; omega))) only [↓wD,wU,Nat.reduceBEq,zx150,zx151,zx159,zx160,zx161,zx162,Nat.reduceAdd,Nat.reduceSub,Nat.reduceMul,Nat.reduceLeDiff,Nat.reduceLT,Nat.reduceEqDiff,Int.reduceAdd,Int.reduceSub,Int.reduceMul,Int.reduceNeg,Int.reduceLT,Int.reduceLE,Int.reduceEq,Int.reduceToNat,Int.cast_ofNat_Int,↓reduceIte, a0, a1]
      refine callI ((lines_ok hb1 hlo hP hm1.1).mono ?_)
      rintro r H2 ⟨D2, b, rfl, hb2, x2, hm, ht, hf⟩
      have n2 := x2.1
      have x12 : Kx (fun b => b ≠ bp ∧ b ≠ kb) H H2 := x1.trans x2 fun b hb h => by rcases hk1 with rfl | q <;> omega
      have hm2 := hm1.lines hm
      cases b with
      | false =>
        simp (disch := (first | assumption | omega | (simp only [List.length_append, List.length_cons, List.length_nil]; omega))) only [↓wD,wU,Nat.reduceBEq,zx150,zx151,zx159,zx160,zx161,zx162,Nat.reduceAdd,Nat.reduceSub,Nat.reduceMul,Nat.reduceLeDiff,Nat.reduceLT,Nat.reduceEqDiff,Int.reduceAdd,Int.reduceSub,Int.reduceMul,Int.reduceNeg,Int.reduceLT,Int.reduceLE,Int.reduceEq,Int.reduceToNat,Int.cast_ofNat_Int,↓reduceIte, a0, a1]
        exact ⟨D2, false, v1, kb1, o1, rfl, hb2, hm.1, hk1, x12, nofun, fun _ => edd ▸ hm1.failL (hf rfl)⟩
      | true =>
        have tr := try_ok hs hP hlo (by omega) hb2 hm.1
        rw [← edd] at tr
        simp (disch := (first | assumption | omega | (simp only [List.length_append, List.length_cons, List.length_nil]; omega))) only [↓wD,wU,Nat.reduceBEq,zx150,zx151,zx159,zx160,zx161,zx162,Nat.reduceAdd,Nat.reduceSub,Nat.reduceMul,Nat.reduceLeDiff,Nat.reduceLT,Nat.reduceEqDiff,Int.reduceAdd,Int.reduceSub,Int.reduceMul,Int.reduceNeg,Int.reduceLT,Int.reduceLE,Int.reduceEq,Int.reduceToNat,Int.cast_ofNat_Int,↓reduceIte, a0, a1, hne]
        refine callI (tr.mono ?_)
        rintro r H3 ⟨x23, hc⟩
        have n3 := x23.1
        have x13 := x12.trans x23 fun b _ h => h.1
        rcases hc with ⟨rfl, i, c, b, v', kb', o', hi, hcc, ho, hF, hb3, hk3⟩ | ⟨rfl, hb3, hres⟩
        · have hi' : i < D2.length := by rw [hm.1.len]; exact hi
          have hm3 := hm2.try hi hcc hF
          have hlt : mes xs.length ys.length (withK D2 i c (!b)) < mes xs.length ys.length D := by
            have h1 := mes_lt hm.1 hm3.1 (le_with hi' (!b)) (with_ne hi' ho)
            have h2 := mes_le (h := xs.length) (w := ys.length) hm.2.1
            omega
          simp (disch := (first | assumption | omega | (simp only [List.length_append, List.length_cons, List.length_nil]; omega))) only [↓wD,wU,Nat.reduceBEq,zx150,zx151,zx159,zx160,zx161,zx162,Nat.reduceAdd,Nat.reduceSub,Nat.reduceMul,Nat.reduceLeDiff,Nat.reduceLT,Nat.reduceEqDiff,Int.reduceAdd,Int.reduceSub,Int.reduceMul,Int.reduceNeg,Int.reduceLT,Int.reduceLE,Int.reduceEq,Int.reduceToNat,Int.cast_ofNat_Int,↓reduceIte, a0, a1, hne]
          refine ihl.go ⟨_, hlt, withK D2 i c (!b), v', kb', o', rfl, ?_⟩
          simp (disch := (first | assumption | omega | (simp only [List.length_append, List.length_cons, List.length_nil]; omega))) only [↓wD,wU,Nat.reduceBEq,zx150,zx151,zx159,zx160,zx161,zx162,Nat.reduceAdd,Nat.reduceSub,Nat.reduceMul,Nat.reduceLeDiff,Nat.reduceLT,Nat.reduceEqDiff,Int.reduceAdd,Int.reduceSub,Int.reduceMul,Int.reduceNeg,Int.reduceLT,Int.reduceLE,Int.reduceEq,Int.reduceToNat,Int.cast_ofNat_Int,↓reduceIte, a0, a1]
          exact ⟨hb3, hm3, .inr (by omega), x13⟩
        · simp (disch := (first | assumption | omega | (simp only [List.length_append, List.length_cons, List.length_nil]; omega))) only [↓wD,wU,Nat.reduceBEq,zx150,zx151,zx159,zx160,zx161,zx162,Nat.reduceAdd,Nat.reduceSub,Nat.reduceMul,Nat.reduceLeDiff,Nat.reduceLT,Nat.reduceEqDiff,Int.reduceAdd,Int.reduceSub,Int.reduceMul,Int.reduceNeg,Int.reduceLT,Int.reduceLE,Int.reduceEq,Int.reduceToNat,Int.cast_ofNat_Int,↓reduceIte, a0, a1, hne]
          exact ⟨D2, true, v1, kb1, o1, rfl, hb3, hm.1, hk1, x13, fun _ => edd ▸ hm2.res (closed_try hm.1 (ht rfl) hres), nofun⟩
    · simp (disch := (first | assumption | omega | (simp only [List.length_append, List.length_cons, List.length_nil]; omega))) only [↓wD,wU,Nat.reduceBEq,zx150,zx151,zx159,zx160,zx161,zx162,Nat.reduceAdd,Nat.reduceSub,Nat.reduceMul,Nat.reduceLeDiff,Nat.reduceLT,Nat.reduceEqDiff,Int.reduceAdd,Int.reduceSub,Int.reduceMul,Int.reduceNeg,Int.reduceLT,Int.reduceLE,Int.reduceEq,Int.reduceToNat,Int.cast_ofNat_Int,↓reduceIte]
      exact ⟨C, v, kb, o, rfl, h, ⟨hw, LeK.refl _, fun _ _ h => h⟩, .inl rfl, Kx.refl _ _⟩
end Go.Proofs.YtjjndoigkhabdaaDoor
namespace Go.Proofs.YtjjndoigkhabdaaDoor
open Go Go.AM Go.Proofs
def solK (w : Nat) (S : List Nat) : KS := S.map fun x => (x, 2 ^ w - (x + 1))
theorem comp_bit {x n i : Nat} (h : x < 2 ^ n) : (2 ^ n - (x + 1)).testBit i = (decide (i < n) && !x.testBit i) := Nat.testBit_two_pow_sub_succ h i
/-- agrees with all of x: x itself -/
theorem agN_full {n x y : Nat} (hx : x < 2 ^ n) (hy : y < 2 ^ n) : agN x (2 ^ n - (x + 1)) y = true ↔ y = x := by
  rw [agN_iff]
  constructor
  · intro h
    apply Nat.eq_of_testBit_eq
    intro c
    have h1 := (h c).1
    have h2 := (h c).2
    rw [comp_bit hx] at h2
    by_cases hc : c < n
    · rw [decide_eq_true hc] at h2
      cases q1 : x.testBit c <;> cases q2 : y.testBit c <;> simp_all
    · rw [Nat.testBit_lt_two_pow (Nat.lt_of_lt_of_le hx (Nat.pow_le_pow_right (by omega) (by omega))), Nat.testBit_lt_two_pow (Nat.lt_of_lt_of_le hy (Nat.pow_le_pow_right (by omega) (by omega)))]
  · rintro rfl c
    rw [comp_bit hx]
    cases q1 : y.testBit c <;> simp
theorem setS_full {n x : Nat} {cl : List Int} (hn : n ≤ 5) (hx : x ∈ linesN n cl) : setS n cl x (2 ^ n - (x + 1)) = (x, 2 ^ n - (x + 1), true) := by
  have hlt := linesN_lt hx
  have hall : ∀ (P : Nat → Bool), ((linesN n cl).all fun y => !agN x (2 ^ n - (x + 1)) y || P y) = P x := by
    intro P
    cases hp : P x
    · rw [List.all_eq_false]
      exact ⟨x, hx, by rw [(agN_full hlt hlt).2 rfl, hp]; decide⟩
    · rw [List.all_eq_true]
      intro y hy
      cases ha : agN x (2 ^ n - (x + 1)) y
      · rfl
      · rw [(agN_full hlt (linesN_lt hy)).1 ha, hp]; rfl
  have h1 : (setS n cl x (2 ^ n - (x + 1))).1 = x := by
    apply Nat.eq_of_testBit_eq
    intro c
    rw [setS_bit1, hall fun y => y.testBit c]
    cases hb : x.testBit c
    · simp
    · rw [decide_eq_true (lt_bit hlt hb)]; rfl
  have h2 : (setS n cl x (2 ^ n - (x + 1))).2.1 = 2 ^ n - (x + 1) := by
    apply Nat.eq_of_testBit_eq
    intro c
    rw [setS_bit2 hn, hall fun y => !y.testBit c, comp_bit hlt]
  have h3 : (setS n cl x (2 ^ n - (x + 1))).2.2 = true := by
    rw [setS_ok, List.any_eq_true]
    exact ⟨x, hx, (agN_full hlt hlt).2 rfl⟩
  exact Prod.ext h1 (Prod.ext h2 h3)
theorem solK_f {w : Nat} {S : List Nat} {i : Nat} (hi : i < S.length) : fK (solK w S) i = gi S (i : Int) ∧ eK (solK w S) i = 2 ^ w - (gi S (i : Int) + 1) := by
  unfold fK eK
  rw [gi_nat (by simpa [solK] using hi), gi_nat hi]
  simp [solK]
theorem solK_len {w : Nat} {S : List Nat} : (solK w S).length = S.length := by simp [solK]
theorem FK_solK {w : Nat} {S : List Nat} : FK (solK w S) = S := by
  unfold FK solK
  rw [List.map_map]
  exact List.map_id S
theorem solK_open {w : Nat} {S : List Nat} (hS : ∀ x ∈ S, x < 2 ^ w) {i c : Nat} (hi : i < S.length) (hc : c < w) : ¬ openB (solK w S) i c := by
  unfold openB
  rw [(solK_f hi).1, (solK_f hi).2, comp_bit (hS _ (mem_gi hi)), decide_eq_true hc]
  cases (gi S (i : Int)).testBit c <;> simp
theorem solK_col {w : Nat} {S : List Nat} (hS : ∀ x ∈ S, x < 2 ^ w) {c : Nat} (hc : c < w) : colN (EK (solK w S)) c = 2 ^ S.length - (colN S c + 1) := by
  apply Nat.eq_of_testBit_eq
  intro r
  rw [colE_bit, comp_bit (colN_lt S c), colN_bit, solK_len]
  by_cases hr : r < S.length
  · rw [decide_eq_true hr, (solK_f hr).2, comp_bit (hS _ (mem_gi hr)), decide_eq_true hc]; simp
  · rw [decide_eq_false hr]; simp
theorem sol_closed {xs ys : List (List Int)} {S : List Nat} (x5 : xs.length ≤ 5) (y5 : ys.length ≤ 5) (h : S ∈ sols xs ys) (d : Nat) : Closed xs ys d (solK ys.length S) := by
  obtain ⟨hl, h1, h2⟩ := mem_sols.1 h
  have hr := sol_rows h
  have hw : WfK xs.length ys.length (solK ys.length S) := ⟨by rw [solK_len]; exact hl, fun i hi => by
    rw [(solK_f (by omega)).1, (solK_f (by omega)).2]
    have := (h1 i hi).1
    omega⟩
  have hlc : LC xs ys (solK ys.length S) := by
    constructor
    · intro i hi
      rw [(solK_f (by omega)).1, (solK_f (by omega)).2]
      exact setS_full y5 (mem_linesN.2 (h1 i hi))
    · intro c hc
      rw [FK_solK, solK_col hr hc, hl]
      exact setS_full x5 (mem_linesN.2 ⟨by rw [← hl]; exact colN_lt S c, h2 c hc⟩)
  cases d with
  | zero => exact ⟨hw, hlc⟩
  | succ d => exact ⟨hw, hlc, fun i c v hi hc ho => absurd ho (solK_open hr (by omega) hc)⟩
/-- all known and closed: a solution -/
theorem full_sol {xs ys : List (List Int)} {L : KS} (hw : WfK xs.length ys.length L) (hl : LC xs ys L) (hn : ∀ i c, i < xs.length → c < ys.length → ¬ openB L i c) : FK L ∈ sols xs ys ∧ LeK L (solK ys.length (FK L)) := by
  have hlen : (FK L).length = xs.length := by rw [FK_len, hw.len]
  have line : ∀ {n f e : Nat} {cl : List Int}, f < 2 ^ n → setS n cl f e = (f, e, true) → (∀ c, c < n → f.testBit c = true ∨ e.testBit c = true) → f ∈ linesN n cl ∧ ∀ c, e.testBit c = true → f.testBit c = false := by
    intro n f e cl hf hs hfull
    have hok : (setS n cl f e).2.2 = true := by rw [hs]
    rw [setS_ok, List.any_eq_true] at hok
    obtain ⟨y, hy, ha⟩ := hok
    rw [agN_iff] at ha
    have : y = f := by
      apply Nat.eq_of_testBit_eq
      intro c
      have a1 := (ha c).1
      have a2 := (ha c).2
      by_cases hc : c < n
      · rcases hfull c hc with q | q
        · rw [q, a1 q]
        · rw [a2 q]
          cases q3 : f.testBit c
          · rfl
          · rw [a1 q3] at a2; exact absurd (a2 q) (by decide)
      · rw [Nat.testBit_lt_two_pow (Nat.lt_of_lt_of_le (linesN_lt hy) (Nat.pow_le_pow_right (by omega) (by omega))), Nat.testBit_lt_two_pow (Nat.lt_of_lt_of_le hf (Nat.pow_le_pow_right (by omega) (by omega)))]
    subst this
    exact ⟨hy, fun c hc => (ha c).2 hc⟩
  have bits : ∀ {i c : Nat}, i < xs.length → c < ys.length → (fK L i).testBit c = true ∨ (eK L i).testBit c = true := by
    intro i c hi hc
    have := hn i c hi hc
    unfold openB at this
    cases q1 : (fK L i).testBit c <;> cases q2 : (eK L i).testBit c <;> simp_all
  have rows := fun i (hi : i < xs.length) => line (hw.lt i hi).1 (hl.1 i hi) fun c hc => bits hi hc
  constructor
  · rw [mem_sols]
    refine ⟨hlen, fun i hi => ?_, fun c hc => ?_⟩
    · rw [FK_gi]
      exact mem_linesN.1 (rows i hi).1
    · have := line (col_lt hw c).1 (hl.2 c hc) fun r hr => by
        rw [colF_bit, colE_bit, hw.len, decide_eq_true hr, Bool.true_and, Bool.true_and]
        exact bits hr hc
      exact (mem_linesN.1 this.1).2
  · intro i
    by_cases hi : i < xs.length
    · rw [(solK_f (by omega)).1, (solK_f (by omega)).2, FK_gi]
      refine ⟨SubB.refl _, fun c hc => ?_⟩
      rw [comp_bit (hw.lt i hi).1, (rows i hi).2 c hc, decide_eq_true (lt_bit (hw.lt i hi).2 hc)]; rfl
    · have e1 : fK L i = 0 := by unfold fK; rw [gi_big (by rw [hw.len]; omega)]; rfl
      have e2 : eK L i = 0 := by unfold eK; rw [gi_big (by rw [hw.len]; omega)]; rfl
      rw [e1, e2]
      have z : ∀ x, SubB 0 x := fun x c h => by rw [Nat.zero_testBit] at h; cases h
      exact ⟨z _, z _⟩
theorem mes_pos {h w : Nat} {K : KS} (h1 : 1 ≤ h) (hw : WfK h w K) : 1 ≤ mes h w K := by
  obtain ⟨n, rfl⟩ : ∃ n, h = n + 1 := ⟨h - 1, by omega⟩
  unfold mes
  rw [sumR_s]
  have := hw.lt n (by omega)
  omega
theorem hasV_ne {L M : KS} {i c : Nat} {v : Bool} (ho : openB L i c) (hv : hasV M i c v) : L ≠ M := fun e => ho.not (e ▸ hv)
theorem exists_sol {xs ys : List (List Int)} (x1 : 1 ≤ xs.length) : ∀ {d : Nat} {L : KS}, Closed xs ys d L → mes xs.length ys.length L ≤ d → ∃ S, S ∈ sols xs ys ∧ LeK L (solK ys.length S)
  | 0, L, h, hm => by have := mes_pos x1 h.wf; omega
  | d + 1, L, h, hm => by
    by_cases hex : ∃ i c, i < xs.length ∧ c < ys.length ∧ openB L i c
    · obtain ⟨i, c, hi, hc, ho⟩ := hex
      obtain ⟨M, hM, hle, hv⟩ := h.2.2 i c true hi hc ho
      have := mes_lt h.wf hM.wf hle (hasV_ne ho hv)
      obtain ⟨S, hS, hle2⟩ := exists_sol x1 hM (by omega)
      exact ⟨S, hS, hle.trans hle2⟩
    · have := full_sol h.wf h.lc fun i c hi hc ho => hex ⟨i, c, hi, hc, ho⟩
      exact ⟨_, this⟩
/-- at depth d all is known -/
def DoneAt (xs ys : List (List Int)) (d : Nat) : Prop := ∃ C, Res xs ys d (K0 xs.length) C ∧ rowsO C xs.length ys.length 0 = []
def LeastD (xs ys : List (List Int)) (d : Nat) : Prop := DoneAt xs ys d ∧ ∀ t, t < d → ¬ DoneAt xs ys t
theorem rowsO_nil {K : KS} {h w : Nat} : rowsO K h w 0 = [] ↔ ∀ i c, i < h → c < w → ¬ openB K i c := by
  rw [List.eq_nil_iff_forall_not_mem]
  constructor
  · intro hh i c hi hc ho
    exact hh (i, c) (mem_rowsO.2 ⟨hi, hc, ho⟩)
  · intro hh x hx
    obtain ⟨h1, h2, h3⟩ := mem_rowsO.1 hx
    exact hh _ _ h1 h2 h3
theorem one_mem {α : Type} {l : List α} (h : l.length = 1) : ∃ S, S ∈ l ∧ ∀ T, T ∈ l → T = S := by
  match l, h with
  | [S], _ => exact ⟨S, by simp, fun T hT => by simpa using hT⟩
theorem not_fail {xs ys : List (List Int)} (x5 : xs.length ≤ 5) (y5 : ys.length ≤ 5) {S : List Nat} (h : S ∈ sols xs ys) (d : Nat) : ¬ Fail xs ys d (K0 xs.length) := fun hf => hf _ (sol_closed x5 y5 h d) K0_le
theorem solK_has {w : Nat} {S : List Nat} (hS : ∀ x ∈ S, x < 2 ^ w) {i c : Nat} (h1 : hasV (solK w S) i c true) (h2 : hasV (solK w S) i c false) : False := by
  unfold hasV at h1 h2
  simp only [if_true, Bool.false_eq_true, if_false] at h1 h2
  by_cases hi : i < S.length
  · rw [(solK_f hi).1] at h1
    rw [(solK_f hi).2, comp_bit (hS _ (mem_gi hi)), h1] at h2
    simp at h2
  · have : fK (solK w S) i = 0 := by unfold fK; rw [gi_big (by rw [solK_len]; omega)]; rfl
    rw [this, Nat.zero_testBit] at h1; cases h1
/-- with one solution alone, and depth enough, all is known -/
theorem done_big {xs ys : List (List Int)} (x1 : 1 ≤ xs.length) (x5 : xs.length ≤ 5) (y5 : ys.length ≤ 5) (h1 : (sols xs ys).length = 1) {d : Nat} (hd : 321 ≤ d) {C : KS} (hr : Res xs ys d (K0 xs.length) C) : rowsO C xs.length ys.length 0 = [] := by
  obtain ⟨S, hS, hu⟩ := one_mem h1
  rw [rowsO_nil]
  intro i c hi hc ho
  obtain ⟨d', rfl⟩ : ∃ d', d = d' + 1 := ⟨d - 1, by omega⟩
  have hb : mes xs.length ys.length C ≤ 320 := by
    have : mes xs.length ys.length C ≤ sumR xs.length fun _ => 64 := sumR_le fun i _ => by
      have := pow32 y5
      omega
    have h2 : sumR xs.length (fun _ => 64) = xs.length * 64 := by
      have : ∀ n, sumR n (fun _ => 64) = n * 64 := fun n => by
        induction n with
        | zero => rfl
        | succ n ih => rw [sumR_s, ih]; omega
      exact this _
    omega
  have two : ∀ v, hasV (solK ys.length S) i c v := fun v => by
    obtain ⟨M, hM, hle, hv⟩ := hr.1.2.2 i c v hi hc ho
    have := mes_le (h := xs.length) (w := ys.length) hle
    obtain ⟨T, hT, hle2⟩ := exists_sol x1 hM (by omega)
    rw [← hu T hT]
    exact hle2.has hv
  exact solK_has (sol_rows hS) (two true) (two false)
theorem LeastD.uniq {xs ys : List (List Int)} {d e : Nat} (h : LeastD xs ys d) (h' : LeastD xs ys e) : d = e := by
  rcases Nat.lt_trichotomy d e with q | q | q
  · exact absurd h.1 (h'.2 d q)
  · exact q
  · exact absurd h'.1 (h.2 e q)
end Go.Proofs.YtjjndoigkhabdaaDoor
namespace Go.Proofs.YtjjndoigkhabdaaDoor
open Go Go.AM Go.Proofs
theorem try_ret {p q : Nat → Prop} {H : Heap} {u w : AV} {x y : List (List Int)} (hx : Sl p H u x) (hy : Sl q H w y) (hP : PuzP x y) (h1 : (sols x y).length = 1) : RetE E 53 [.ag [u, w]] H fun v => ∃ d : Nat, LeastD x y d ∧ d ≤ 321 ∧ v = .tp [.i d, .i 0] := by
  refine RetE.ro rfl fn53 rfl (by rintro v ⟨d, _, _, rfl⟩; rfl) ?_
  unfold f53A
  have x1 : 1 ≤ x.length := by have := hP.1.1; omega
  have x5 : x.length ≤ 5 := by have := hP.1.2; omega
  have y5 : y.length ≤ 5 := by have := hP.2.1.2; omega
  obtain ⟨S, hS, -⟩ := one_mem h1
  have vu := hx.cellsV
  have vw := hy.cellsV
  obtain ⟨H2, eH2⟩ : ∃ H2, H ++ [Blk.cells [u, w]] = H2 := ⟨_, rfl⟩
  have x2 : Kx (fun _ => True) H H2 := by rw [← eH2]; exact Kx.app _ _ _
  have n2 : H2.length = H.length + 1 := by rw [← eH2]; simp
  have g0 : H2[H.length]? = some (.cells [u, w]) := by rw [← eH2]; exact get_last
  have hx2 : Sl (fun b => b < H2.length) H2 u x := (hx.low.weak (q := fun b => b < H2.length) fun b h => by omega).kp (x2.all _).kp
  have hy2 : Sl (fun b => b < H2.length) H2 w y := (hy.low.weak (q := fun b => b < H2.length) fun b h => by omega).kp (x2.all _).kp
  have ct := scount_ret hx2 hy2 hP
  rw [h1] at ct
  simp (disch := (first | assumption | omega | (simp only [List.length_append, List.length_cons, List.length_nil]; omega))) only [↓wD,wU,Nat.reduceBEq,zx150,zx151,zx159,zx160,zx161,zx162,Nat.reduceAdd,Nat.reduceSub,Nat.reduceMul,Nat.reduceLeDiff,Nat.reduceLT,Nat.reduceEqDiff,Int.reduceAdd,Int.reduceSub,Int.reduceMul,Int.reduceNeg,Int.reduceLT,Int.reduceLE,Int.reduceEq,Int.reduceToNat,Int.cast_ofNat_Int,↓reduceIte, vu, vw, eH2, ldn_of g0, ct.call]
  refine Wp.dec (fun m a H' => ∃ t : Nat, t + m = 321 ∧ a 1 = .p H.length 0 ∧ a 6 = .i t ∧ Kx (fun _ => True) H2 H' ∧ ∀ t', t' < t → ¬ DoneAt x y t') 321 ?_ ?_
  · rintro m a H3 ⟨t, htm, a1, a6, x23, hnd⟩ ih
    have n3 := x23.1
    simp (disch := (first | assumption | omega | (simp only [List.length_append, List.length_cons, List.length_nil]; omega))) only [↓wD,wU,Nat.reduceBEq,zx150,zx151,zx159,zx160,zx161,zx162,Nat.reduceAdd,Nat.reduceSub,Nat.reduceMul,Nat.reduceLeDiff,Nat.reduceLT,Nat.reduceEqDiff,Int.reduceAdd,Int.reduceSub,Int.reduceMul,Int.reduceNeg,Int.reduceLT,Int.reduceLE,Int.reduceEq,Int.reduceToNat,Int.cast_ofNat_Int,↓reduceIte, a1, a6]
    refine callI ((start_ok (x23.get trivial g0) (hx2.kp (x23.all _).kp) (hy2.kp (x23.all _).kp) (by omega) n3 x5).mono ?_)
    rintro r H4 ⟨⟨bp, v, kb, o, rfl, hb4, q1, q2⟩, x34⟩
    simp (disch := (first | assumption | omega | (simp only [List.length_append, List.length_cons, List.length_nil]; omega))) only [↓wD,wU,Nat.reduceBEq,zx150,zx151,zx159,zx160,zx161,zx162,Nat.reduceAdd,Nat.reduceSub,Nat.reduceMul,Nat.reduceLeDiff,Nat.reduceLT,Nat.reduceEqDiff,Int.reduceAdd,Int.reduceSub,Int.reduceMul,Int.reduceNeg,Int.reduceLT,Int.reduceLE,Int.reduceEq,Int.reduceToNat,Int.cast_ofNat_Int,↓reduceIte, a1, a6]
    refine callI ((bsettle_ok hP (by omega) t (by omega) hb4 K0_wf).mono ?_)
    rintro r H5 ⟨D, b, v', kb', o', rfl, hb5, hwD, hk, x45, hT, hF⟩
    have hr : Res x y t (K0 x.length) D := by
      cases b with
      | true => exact hT rfl
      | false => exact absurd (hF rfl) (not_fail x5 y5 hS t)
    have dn := done_ret hb5 hP hwD
    have x35 : Kx (fun _ => True) H3 H5 := x34.trans x45 fun b hb _ => ⟨by omega, by omega⟩
    by_cases h0 : rowsO D x.length y.length 0 = []
    · rw [decide_eq_true h0] at dn
      simp (disch := (first | assumption | omega | (simp only [List.length_append, List.length_cons, List.length_nil]; omega))) only [↓wD,wU,Nat.reduceBEq,zx150,zx151,zx159,zx160,zx161,zx162,Nat.reduceAdd,Nat.reduceSub,Nat.reduceMul,Nat.reduceLeDiff,Nat.reduceLT,Nat.reduceEqDiff,Int.reduceAdd,Int.reduceSub,Int.reduceMul,Int.reduceNeg,Int.reduceLT,Int.reduceLE,Int.reduceEq,Int.reduceToNat,Int.cast_ofNat_Int,↓reduceIte, a1, a6, dn.call]
      exact ⟨t, ⟨⟨D, hr, h0⟩, hnd⟩, by omega, rfl⟩
    · rw [decide_eq_false h0] at dn
      have ht : t < 321 := by
        refine Nat.lt_of_not_le fun q => h0 ?_
        exact done_big x1 x5 y5 h1 q hr
      simp (disch := (first | assumption | omega | (simp only [List.length_append, List.length_cons, List.length_nil]; omega))) only [↓wD,wU,Nat.reduceBEq,zx150,zx151,zx159,zx160,zx161,zx162,Nat.reduceAdd,Nat.reduceSub,Nat.reduceMul,Nat.reduceLeDiff,Nat.reduceLT,Nat.reduceEqDiff,Int.reduceAdd,Int.reduceSub,Int.reduceMul,Int.reduceNeg,Int.reduceLT,Int.reduceLE,Int.reduceEq,Int.reduceToNat,Int.cast_ofNat_Int,↓reduceIte, a1, a6, dn.call]
      refine ih.go ⟨m - 1, by omega, t + 1, by omega, ?_⟩
      simp (disch := (first | assumption | omega | (simp only [List.length_append, List.length_cons, List.length_nil]; omega))) only [↓wD,wU,Nat.reduceBEq,zx150,zx151,zx159,zx160,zx161,zx162,Nat.reduceAdd,Nat.reduceSub,Nat.reduceMul,Nat.reduceLeDiff,Nat.reduceLT,Nat.reduceEqDiff,Int.reduceAdd,Int.reduceSub,Int.reduceMul,Int.reduceNeg,Int.reduceLT,Int.reduceLE,Int.reduceEq,Int.reduceToNat,Int.cast_ofNat_Int,↓reduceIte, a1, a6]
      refine ⟨x23.trans x35 fun _ _ _ => trivial, fun t' ht' hd => ?_⟩
      by_cases e : t' = t
      · subst e
        obtain ⟨C, hC, hC0⟩ := hd
        exact h0 (hr.uniq hC ▸ hC0)
      · exact hnd t' (by omega) hd
  · simp (disch := (first | assumption | omega | (simp only [List.length_append, List.length_cons, List.length_nil]; omega))) only [↓wD,wU,Nat.reduceBEq,zx150,zx151,zx159,zx160,zx161,zx162,Nat.reduceAdd,Nat.reduceSub,Nat.reduceMul,Nat.reduceLeDiff,Nat.reduceLT,Nat.reduceEqDiff,Int.reduceAdd,Int.reduceSub,Int.reduceMul,Int.reduceNeg,Int.reduceLT,Int.reduceLE,Int.reduceEq,Int.reduceToNat,Int.cast_ofNat_Int,↓reduceIte]
    refine ⟨0, rfl, rfl, ?_, fun t' ht' => by omega⟩
    exact Kx.refl _ _
theorem try_no {p q : Nat → Prop} {H : Heap} {u w : AV} {x y : List (List Int)} (hx : Sl p H u x) (hy : Sl q H w y) (hP : PuzP x y) (h1 : ¬ (sols x y).length = 1) : RetP E 53 [.ag [u, w]] H (.tp [.i 0, .i 4]) := by
  refine RetP.ro rfl fn53 rfl rfl ?_
  unfold f53A
  have ct := scount_ret (hx.app [Blk.cells [u, w]]) (hy.app [Blk.cells [u, w]]) hP
  have hd : decide (¬ (((sols x y).length : Nat) : Int) = 1) = true := decide_eq_true (by omega)
  simp (disch := (first | assumption | omega | (simp only [List.length_append, List.length_cons, List.length_nil]; omega))) only [↓wD,wU,Nat.reduceBEq,zx150,zx151,zx159,zx160,zx161,zx162,Nat.reduceAdd,Nat.reduceSub,Nat.reduceMul,Nat.reduceLeDiff,Nat.reduceLT,Nat.reduceEqDiff,Int.reduceAdd,Int.reduceSub,Int.reduceMul,Int.reduceNeg,Int.reduceLT,Int.reduceLE,Int.reduceEq,Int.reduceToNat,Int.cast_ofNat_Int,↓reduceIte, hx.cellsV, hy.cellsV, ct.call, hd]
end Go.Proofs.YtjjndoigkhabdaaDoor
namespace Go.Proofs.YtjjndoigkhabdaaDoor
open Go Go.AM Go.Proofs
/-- states of one Puzzle, as states of another -/
structure Sy (xs ys xs' ys' : List (List Int)) (φ : KS → KS) : Prop where
  wf : ∀ L, WfK xs.length ys.length L → WfK xs'.length ys'.length (φ L)
  lc : ∀ L, WfK xs.length ys.length L → LC xs ys L → LC xs' ys' (φ L)
  le : ∀ L M, WfK xs.length ys.length L → WfK xs.length ys.length M → LeK L M → LeK (φ L) (φ M)
  sq : ∀ i' c', i' < xs'.length → c' < ys'.length → ∃ i c, i < xs.length ∧ c < ys.length ∧ ∀ L, WfK xs.length ys.length L → ∀ v, (hasV (φ L) i' c' v ↔ hasV L i c v)
theorem openB_has {K : KS} {i c : Nat} : openB K i c ↔ ∀ v, ¬ hasV K i c v := by
  unfold openB hasV
  constructor
  · rintro ⟨h1, h2⟩ v
    cases v
    · simp [h2]
    · simp [h1]
  · intro h
    have h1 := h true
    have h2 := h false
    simp only [if_true, Bool.false_eq_true, if_false, Bool.not_eq_true] at h1 h2
    exact ⟨h1, h2⟩
section
variable {xs ys xs' ys' : List (List Int)} {φ ψ : KS → KS}
theorem Sy.op (h : Sy xs ys xs' ys' φ) {i' c' : Nat} (hi : i' < xs'.length) (hc : c' < ys'.length) : ∃ i c, i < xs.length ∧ c < ys.length ∧ (∀ L, WfK xs.length ys.length L → ∀ v, (hasV (φ L) i' c' v ↔ hasV L i c v)) ∧ ∀ L, WfK xs.length ys.length L → (openB (φ L) i' c' ↔ openB L i c) := by
  obtain ⟨i, c, h1, h2, h3⟩ := h.sq i' c' hi hc
  refine ⟨i, c, h1, h2, h3, fun L hL => ?_⟩
  rw [openB_has, openB_has]
  exact forall_congr' fun v => not_congr (h3 L hL v)
theorem Sy.closed (h : Sy xs ys xs' ys' φ) : ∀ {d : Nat} {L : KS}, Closed xs ys d L → Closed xs' ys' d (φ L)
  | 0, L, hL => ⟨h.wf L hL.1, h.lc L hL.1 hL.2⟩
  | d + 1, L, hL => ⟨h.wf L hL.1, h.lc L hL.1 hL.2.1, fun i' c' v hi hc ho => by
    obtain ⟨i, c, h1, h2, h3, h4⟩ := h.op hi hc
    obtain ⟨M, hM, hle, hv⟩ := hL.2.2 i c v h1 h2 ((h4 L hL.1).1 ho)
    exact ⟨φ M, h.closed hM, h.le L M hL.1 hM.wf hle, (h3 M hM.wf v).2 hv⟩⟩
theorem Sy.done (h : Sy xs ys xs' ys' φ) (h' : Sy xs' ys' xs ys ψ) (hi : ∀ L, WfK xs'.length ys'.length L → φ (ψ L) = L) {d : Nat} (hd : DoneAt xs ys d) : DoneAt xs' ys' d := by
  obtain ⟨C, hC, h0⟩ := hd
  refine ⟨φ C, ⟨h.closed hC.1, K0_le, fun L hL _ => ?_⟩, ?_⟩
  · have := hC.2.2 (ψ L) (h'.closed hL) K0_le
    have := h.le _ _ hC.1.wf (h'.wf L hL.wf) this
    rwa [hi L hL.wf] at this
  · rw [rowsO_nil] at h0 ⊢
    intro i' c' hi hc ho
    obtain ⟨i, c, h1, h2, _, h4⟩ := h.op hi hc
    exact h0 i c h1 h2 ((h4 C hC.1.wf).1 ho)
theorem Sy.least (h : Sy xs ys xs' ys' φ) (h' : Sy xs' ys' xs ys ψ) (hi : ∀ L, WfK xs'.length ys'.length L → φ (ψ L) = L) (hi' : ∀ L, WfK xs.length ys.length L → ψ (φ L) = L) {d : Nat} (hd : LeastD xs ys d) : LeastD xs' ys' d :=
  ⟨h.done h' hi hd.1, fun t ht q => hd.2 t ht (h'.done h hi' q)⟩
/-- all known: the state of its filled squares -/
theorem full_eq {L : KS} (hw : WfK xs.length ys.length L) (hl : LC xs ys L) (hn : ∀ i c, i < xs.length → c < ys.length → ¬ openB L i c) : L = solK ys.length (FK L) := by
  obtain ⟨_, hle⟩ := full_sol hw hl hn
  have hlen : (FK L).length = xs.length := by rw [FK_len, hw.len]
  refine K_ext hw ⟨by rw [solK_len, hlen], fun i hi => ?_⟩ fun i hi => ?_
  · rw [(solK_f (by omega)).1, (solK_f (by omega)).2, FK_gi]
    have := (hw.lt i hi).1
    omega
  · have h2 := (hle i).2
    rw [(solK_f (by omega)).1, (solK_f (by omega)).2, FK_gi] at *
    refine ⟨rfl, h2.anti fun c hc => ?_⟩
    rw [comp_bit (hw.lt i hi).1, Bool.and_eq_true] at hc
    have := hn i c hi (of_decide_eq_true hc.1)
    unfold openB at this
    cases q1 : (fK L i).testBit c <;> cases q2 : (eK L i).testBit c <;> simp_all
theorem nodup_len {α : Type} [BEq α] [LawfulBEq α] : ∀ {l l' : List α}, l.Nodup → (∀ x ∈ l, x ∈ l') → l.length ≤ l'.length
  | [], _, _, _ => by simp
  | x :: l, l', hn, hs => by
    have hx := hs x (by simp)
    have h1 := nodup_len (l' := l'.erase x) (List.nodup_cons.1 hn).2 fun y hy => by
      have hne : y ≠ x := fun e => (List.nodup_cons.1 hn).1 (e ▸ hy)
      exact (List.mem_erase_of_ne hne).2 (hs y (by simp [hy]))
    have h2 := List.length_erase_of_mem hx
    have h3 := List.length_pos_of_mem hx
    simp only [List.length_cons]
    omega
theorem sols_nodup : (sols xs ys).Nodup := by
  have ho := solR_order (y := ys) (rest := xs) (P := [])
  change (sols xs ys).Pairwise _ at ho
  refine ho.imp fun {a b} h e => ?_
  rw [e, cmpL_refl] at h
  omega
theorem Sy.len_le (h : Sy xs ys xs' ys' φ) (hi' : ∀ L, WfK xs.length ys.length L → ψ (φ L) = L) (x5 : xs.length ≤ 5) (y5 : ys.length ≤ 5) : (sols xs ys).length ≤ (sols xs' ys').length := by
  have key : ∀ S, S ∈ sols xs ys → FK (φ (solK ys.length S)) ∈ sols xs' ys' ∧ φ (solK ys.length S) = solK ys'.length (FK (φ (solK ys.length S))) := fun S hS => by
    have hc := sol_closed x5 y5 hS 0
    have hn : ∀ i c, i < xs'.length → c < ys'.length → ¬ openB (φ (solK ys.length S)) i c := fun i' c' h1 h2 ho => by
      obtain ⟨i, c, q1, q2, _, q4⟩ := h.op h1 h2
      exact solK_open (sol_rows hS) (by have := (mem_sols.1 hS).1; omega) q2 ((q4 _ hc.1).1 ho)
    exact ⟨(full_sol (h.wf _ hc.1) (h.lc _ hc.1 hc.2) hn).1, full_eq (h.wf _ hc.1) (h.lc _ hc.1 hc.2) hn⟩
  have hinj : ((sols xs ys).map fun S => FK (φ (solK ys.length S))).Nodup := by
    rw [List.nodup_iff_pairwise_ne, List.pairwise_map]
    refine (List.nodup_iff_pairwise_ne.1 sols_nodup).imp_of_mem fun {a b} ha hb hne e => hne ?_
    have ea := (key a ha).2
    have eb := (key b hb).2
    rw [e] at ea
    have e2 : φ (solK ys.length a) = φ (solK ys.length b) := ea.trans eb.symm
    have e3 := congrArg ψ e2
    rw [hi' _ (sol_closed x5 y5 ha 0).1, hi' _ (sol_closed x5 y5 hb 0).1] at e3
    have e4 := congrArg FK e3
    rwa [FK_solK, FK_solK] at e4
  have := nodup_len hinj (l' := sols xs' ys') fun T hT => by
    obtain ⟨S, hS, rfl⟩ := List.mem_map.1 hT
    exact (key S hS).1
  rwa [List.length_map] at this
end
/-! ### Turned over -/
def tK (w : Nat) (K : KS) : KS := (List.range w).map fun c => (colN (FK K) c, colN (EK K) c)
theorem tK_f {w : Nat} {K : KS} {c : Nat} (hc : c < w) : fK (tK w K) c = colN (FK K) c ∧ eK (tK w K) c = colN (EK K) c := by
  unfold fK eK
  rw [gi_nat (by simpa [tK] using hc)]
  simp [tK]
theorem tK_len {w : Nat} {K : KS} : (tK w K).length = w := by simp [tK]
theorem tK_col {h w : Nat} {K : KS} (hK : WfK h w K) {i : Nat} (hi : i < h) : colN (FK (tK w K)) i = fK K i ∧ colN (EK (tK w K)) i = eK K i := by
  have hlt := hK.lt i hi
  constructor
  · apply Nat.eq_of_testBit_eq
    intro c
    rw [colF_bit, tK_len]
    by_cases hc : c < w
    · rw [decide_eq_true hc, (tK_f hc).1, colF_bit, hK.len, decide_eq_true hi]; simp
    · rw [decide_eq_false hc, Nat.testBit_lt_two_pow (Nat.lt_of_lt_of_le hlt.1 (Nat.pow_le_pow_right (by omega) (by omega)))]; rfl
  · apply Nat.eq_of_testBit_eq
    intro c
    rw [colE_bit, tK_len]
    by_cases hc : c < w
    · rw [decide_eq_true hc, (tK_f hc).2, colE_bit, hK.len, decide_eq_true hi]; simp
    · rw [decide_eq_false hc, Nat.testBit_lt_two_pow (Nat.lt_of_lt_of_le hlt.2 (Nat.pow_le_pow_right (by omega) (by omega)))]; rfl
theorem tK_wf {h w : Nat} {K : KS} (hK : WfK h w K) : WfK w h (tK w K) := ⟨tK_len, fun c hc => by
  rw [(tK_f hc).1, (tK_f hc).2]
  have h1 := colN_lt (FK K) c
  have h2 := colN_lt (EK K) c
  rw [FK_len, hK.len] at h1
  rw [EK_len, hK.len] at h2
  exact ⟨h1, h2⟩⟩
theorem tK_tK {h w : Nat} {K : KS} (hK : WfK h w K) : tK h (tK w K) = K :=
  K_ext (tK_wf (tK_wf hK)) hK fun i hi => by
    rw [(tK_f hi).1, (tK_f hi).2]
    exact tK_col hK hi
theorem sy_turn {xs ys : List (List Int)} : Sy xs ys ys xs (tK ys.length) where
  wf := fun L hL => tK_wf hL
  lc := fun L hL hl => ⟨fun c hc => by
    rw [(tK_f hc).1, (tK_f hc).2]; exact hl.2 c hc, fun i hi => by
    rw [(tK_col hL hi).1, (tK_col hL hi).2]; exact hl.1 i hi⟩
  le := fun L M hL hM h c => by
    by_cases hc : c < ys.length
    · rw [(tK_f hc).1, (tK_f hc).2, (tK_f hc).1, (tK_f hc).2]
      have hl : L.length = M.length := by rw [hL.len, hM.len]
      exact ⟨colF_sub h hl c, colE_sub h hl c⟩
    · have e1 : fK (tK ys.length L) c = 0 := by unfold fK; rw [gi_big (by rw [tK_len]; omega)]; rfl
      have e2 : eK (tK ys.length L) c = 0 := by unfold eK; rw [gi_big (by rw [tK_len]; omega)]; rfl
      rw [e1, e2]
      have z : ∀ x, SubB 0 x := fun x c h => by rw [Nat.zero_testBit] at h; cases h
      exact ⟨z _, z _⟩
  sq := fun c i hc hi => ⟨i, c, hi, hc, fun L hL v => by
    unfold hasV
    rw [(tK_f hc).1, (tK_f hc).2, colF_bit, colE_bit, hL.len, decide_eq_true hi, Bool.true_and, Bool.true_and]⟩
/-! ### Mirrored -/
def revB (w x : Nat) : Nat := colN ((List.range w).map fun c => (x.testBit (w - 1 - c)).toNat) 0
theorem revB_bit {w x c : Nat} : (revB w x).testBit c = (decide (c < w) && x.testBit (w - 1 - c)) := by
  unfold revB
  rw [colN_bit, List.length_map, List.length_range]
  by_cases hc : c < w
  · rw [decide_eq_true hc, gi_nat (by simpa using hc)]
    simp only [List.getElem_map, List.getElem_range, Bool.true_and]
    cases x.testBit (w - 1 - c) <;> rfl
  · rw [decide_eq_false hc]; rfl
theorem revB_lt {w x : Nat} : revB w x < 2 ^ w := by
  have := colN_lt ((List.range w).map fun c => (x.testBit (w - 1 - c)).toNat) 0
  rwa [List.length_map, List.length_range] at this
theorem revB_revB {w x : Nat} (h : x < 2 ^ w) : revB w (revB w x) = x := by
  apply Nat.eq_of_testBit_eq
  intro c
  rw [revB_bit, revB_bit]
  by_cases hc : c < w
  · rw [decide_eq_true hc, decide_eq_true (by omega), Bool.true_and, Bool.true_and]
    congr 1; omega
  · rw [decide_eq_false hc, Bool.false_and]
    exact (Nat.testBit_lt_two_pow (Nat.lt_of_lt_of_le h (Nat.pow_le_pow_right (by omega) (by omega)))).symm
theorem revB_blk_all : ∀ w, w < 6 → ∀ x, x < 32 → (decide (2 ^ w ≤ x) || decide (blkL (revB w x) = (blkL x).reverse)) = true := by decide +kernel
theorem revB_blk {w x : Nat} (hw : w ≤ 5) (hx : x < 2 ^ w) : blkL (revB w x) = (blkL x).reverse := by
  have := revB_blk_all w (by omega) x (by have := pow32 hw; omega)
  rw [decide_eq_false (by omega), Bool.false_or] at this
  exact of_decide_eq_true this
theorem revB_line {w x : Nat} {cl : List Int} (hw : w ≤ 5) (hx : x ∈ linesN w cl) : revB w x ∈ linesN w cl.reverse := by
  obtain ⟨h1, h2⟩ := mem_linesN.1 hx
  exact mem_linesN.2 ⟨revB_lt, by rw [revB_blk hw h1, h2]⟩
theorem revB_sub {w a b : Nat} (h : SubB a b) : SubB (revB w a) (revB w b) := fun c hc => by
  rw [revB_bit, Bool.and_eq_true] at hc ⊢
  exact ⟨hc.1, h _ hc.2⟩
theorem revB_ag {w f e x : Nat} (hf : f < 2 ^ w) (he : e < 2 ^ w) (h : agN f e x = true) : agN (revB w f) (revB w e) (revB w x) = true := by
  rw [agN_iff] at h ⊢
  intro c
  simp only [revB_bit]
  by_cases hc : c < w
  · rw [decide_eq_true hc]
    simp only [Bool.true_and]
    exact h _
  · rw [decide_eq_false hc]; simp
theorem setS_rev {n f e : Nat} {cl : List Int} (hn : n ≤ 5) (hf : f < 2 ^ n) (he : e < 2 ^ n) (hs : setS n cl f e = (f, e, true)) : setS n cl.reverse (revB n f) (revB n e) = (revB n f, revB n e, true) := by
  have hok : (setS n cl f e).2.2 = true := by rw [hs]
  rw [setS_ok, List.any_eq_true] at hok
  obtain ⟨y, hy, ha⟩ := hok
  have b1 : ∀ c, (setS n cl f e).1.testBit c = f.testBit c := fun c => by rw [hs]
  have b2 : ∀ c, (setS n cl f e).2.1.testBit c = e.testBit c := fun c => by rw [hs]
  have ex1 := setS_ext (n := n) (f := revB n f) (e := revB n e) (cl := cl.reverse) hn revB_lt revB_lt
  have hlt := setS_lt (n := n) (f := revB n f) (e := revB n e) (cl := cl.reverse)
  have back : ∀ c, c < n → ∀ x, x ∈ linesN n cl → agN f e x = true → revB n x ∈ linesN n cl.reverse ∧ agN (revB n f) (revB n e) (revB n x) = true := fun c _ x hx ha => ⟨revB_line hn hx, revB_ag hf he ha⟩
  refine Prod.ext (SubB.anti (fun c hc => ?_) ex1.1) (Prod.ext (SubB.anti (fun c hc => ?_) ex1.2) ?_)
  · have hcn := lt_bit hlt.1 hc
    rw [setS_bit1, Bool.and_eq_true] at hc
    rw [revB_bit, decide_eq_true hcn, Bool.true_and, ← b1, setS_bit1, Bool.and_eq_true]
    refine ⟨decide_eq_true (by omega), List.all_eq_true.2 fun x hx => ?_⟩
    cases hax : agN f e x
    · rfl
    · obtain ⟨q1, q2⟩ := back c hcn x hx hax
      have := List.all_eq_true.1 hc.2 _ q1
      rw [q2, revB_bit, decide_eq_true hcn] at this
      simpa using this
  · have hcn := lt_bit hlt.2 hc
    rw [setS_bit2 hn, Bool.and_eq_true] at hc
    rw [revB_bit, decide_eq_true hcn, Bool.true_and, ← b2, setS_bit2 hn, Bool.and_eq_true]
    refine ⟨decide_eq_true (by omega), List.all_eq_true.2 fun x hx => ?_⟩
    cases hax : agN f e x
    · rfl
    · obtain ⟨q1, q2⟩ := back c hcn x hx hax
      have := List.all_eq_true.1 hc.2 _ q1
      rw [q2, revB_bit, decide_eq_true hcn] at this
      simpa using this
  · rw [setS_ok, List.any_eq_true]
    exact ⟨revB n y, revB_line hn hy, revB_ag hf he ha⟩
def mK (w : Nat) (K : KS) : KS := K.map fun q => (revB w q.1, revB w q.2)
theorem mK_len {w : Nat} {K : KS} : (mK w K).length = K.length := by simp [mK]
theorem revB_0 {w : Nat} : revB w 0 = 0 := by
  apply Nat.eq_of_testBit_eq
  intro c
  rw [revB_bit, Nat.zero_testBit, Nat.zero_testBit, Bool.and_false]
theorem mK_f {w : Nat} {K : KS} {i : Nat} : fK (mK w K) i = revB w (fK K i) ∧ eK (mK w K) i = revB w (eK K i) := by
  unfold fK eK
  by_cases hi : i < K.length
  · rw [gi_nat hi, gi_nat (by rw [mK_len]; exact hi)]
    simp [mK]
  · rw [show gi K (i : Int) = default from gi_big (by omega), show gi (mK w K) (i : Int) = default from gi_big (by rw [mK_len]; omega)]
    exact ⟨revB_0.symm, revB_0.symm⟩
theorem mK_wf {h w : Nat} {K : KS} (hK : WfK h w K) : WfK h w (mK w K) := ⟨by rw [mK_len]; exact hK.len, fun i _ => by rw [mK_f.1, mK_f.2]; exact ⟨revB_lt, revB_lt⟩⟩
theorem mK_mK {h w : Nat} {K : KS} (hK : WfK h w K) : mK w (mK w K) = K := K_ext (mK_wf (mK_wf hK)) hK fun i hi => by
  rw [mK_f.1, mK_f.2, mK_f.1, mK_f.2, revB_revB (hK.lt i hi).1, revB_revB (hK.lt i hi).2]
  exact ⟨rfl, rfl⟩
theorem mK_col {h w : Nat} {K : KS} (hK : WfK h w K) {c : Nat} (hc : c < w) : colN (FK (mK w K)) c = colN (FK K) (w - 1 - c) ∧ colN (EK (mK w K)) c = colN (EK K) (w - 1 - c) := by
  constructor
  · apply Nat.eq_of_testBit_eq
    intro r
    rw [colF_bit, colF_bit, mK_len, mK_f.1, revB_bit, decide_eq_true hc]; rfl
  · apply Nat.eq_of_testBit_eq
    intro r
    rw [colE_bit, colE_bit, mK_len, mK_f.2, revB_bit, decide_eq_true hc]; rfl
theorem gi_rev {α : Type} [Inhabited α] {l : List α} {c : Nat} (hc : c < l.length) : gi l.reverse (c : Int) = gi l ((l.length - 1 - c : Nat) : Int) := by
  rw [gi_nat (by simpa using hc), gi_nat (by omega)]
  simp
theorem gi_mapr {l : List (List Int)} {i : Nat} (hi : i < l.length) : gi (l.map List.reverse) (i : Int) = (gi l (i : Int)).reverse := by
  rw [gi_nat (by simpa using hi), gi_nat hi]
  simp
theorem sy_mirror {xs ys : List (List Int)} (y5 : ys.length ≤ 5) : Sy xs ys (xs.map List.reverse) ys.reverse (mK ys.length) where
  wf := fun L hL => by rw [List.length_map, List.length_reverse]; exact mK_wf hL
  lc := fun L hL hl => by
    constructor
    · intro i hi
      rw [List.length_map] at hi
      rw [List.length_reverse, mK_f.1, mK_f.2, gi_mapr hi]
      exact setS_rev y5 (hL.lt i hi).1 (hL.lt i hi).2 (hl.1 i hi)
    · intro c hc
      rw [List.length_reverse] at hc
      rw [List.length_map, (mK_col hL hc).1, (mK_col hL hc).2, gi_rev hc]
      exact hl.2 _ (by omega)
  le := fun L M hL hM h i => by
    rw [mK_f.1, mK_f.2, mK_f.1, mK_f.2]
    exact ⟨revB_sub (h i).1, revB_sub (h i).2⟩
  sq := fun i c hi hc => ⟨i, ys.length - 1 - c, by rwa [List.length_map] at hi, by rw [List.length_reverse] at hc; omega, fun L hL v => by
    rw [List.length_reverse] at hc
    unfold hasV
    rw [mK_f.1, mK_f.2, revB_bit, revB_bit, decide_eq_true hc, Bool.true_and, Bool.true_and]⟩
end Go.Proofs.YtjjndoigkhabdaaDoor
namespace Go.Proofs.YtjjndoigkhabdaaDoor
open Go Go.AM Go.Proofs
theorem sum_rev : ∀ l : List Int, l.reverse.sum = l.sum
  | [] => rfl
  | x :: l => by
    rw [List.reverse_cons, List.sum_append, sum_rev l]
    simp
    omega
theorem sumP_mapr (x : List (List Int)) : sumP (x.map List.reverse) = sumP x := by
  unfold sumP
  rw [List.map_map]
  congr 1
  exact List.map_congr_left fun l _ => sum_rev l
theorem sumP_rev (x : List (List Int)) : sumP x.reverse = sumP x := by
  unfold sumP
  rw [List.map_reverse, sum_rev]
theorem PuzP.turn {x y : List (List Int)} (h : PuzP x y) : PuzP y x := ⟨h.2.1, h.1, h.2.2.2, h.2.2.1⟩
theorem PuzP.mirror {x y : List (List Int)} (h : PuzP x y) : PuzP (x.map List.reverse) y.reverse := by
  refine ⟨by rw [List.length_map]; exact h.1, by rw [List.length_reverse]; exact h.2.1, fun c hc => ?_, fun c hc => ?_⟩
  · obtain ⟨l, hl, rfl⟩ := List.mem_map.1 hc
    have h1 := h.2.2.1 l hl
    rw [List.length_reverse]
    refine ⟨h1.1, ?_⟩
    have h2 := h1.2
    rw [Int.toNat_natCast, ← linesN_len] at h2 ⊢
    obtain ⟨z, hz⟩ := List.exists_mem_of_length_pos h2
    exact List.length_pos_of_mem (revB_line (by have := h.2.1.2; omega) hz)
  · rw [List.length_map]
    exact h.2.2.2 c (by simpa using hc)
def filV (x y : List (List Int)) : AV := if sumP x = sumP y then AV.tp [.i (sumP x), .i 0] else .tp [.i 0, .i 4]
/-- of as many solutions, filled squares and depth -/
structure Tw (x y x' y' : List (List Int)) : Prop where
  pz : PuzP x' y'
  len : (sols x' y').length = (sols x y).length
  fil : filV x' y' = filV x y
  least : ∀ d, LeastD x' y' d → LeastD x y d
theorem tw_turn {x y : List (List Int)} (h : PuzP x y) : Tw x y y x where
  pz := h.turn
  len := Nat.le_antisymm (sy_turn.len_le (fun L hL => tK_tK hL) (by have := h.2.1.2; omega) (by have := h.1.2; omega)) (sy_turn.len_le (fun L hL => tK_tK hL) (by have := h.1.2; omega) (by have := h.2.1.2; omega))
  fil := by
    unfold filV
    by_cases e : sumP x = sumP y
    · rw [if_pos e, if_pos e.symm, e]
    · rw [if_neg e, if_neg fun q => e q.symm]
  least := fun d hd => sy_turn.least sy_turn (fun L hL => tK_tK hL) (fun L hL => tK_tK hL) hd
theorem tw_mirror {x y : List (List Int)} (h : PuzP x y) : Tw x y (x.map List.reverse) y.reverse := by
  have x5 : x.length ≤ 5 := by have := h.1.2; omega
  have y5 : y.length ≤ 5 := by have := h.2.1.2; omega
  have s1 := sy_mirror (xs := x) (ys := y) y5
  have s2 := sy_mirror (xs := x.map List.reverse) (ys := y.reverse) (by rwa [List.length_reverse])
  rw [List.map_map, show (List.reverse ∘ List.reverse : List Int → List Int) = id from funext fun l => List.reverse_reverse l, List.map_id, List.reverse_reverse, List.length_reverse] at s2
  have i1 : ∀ L, WfK x.length y.length L → mK y.length (mK y.length L) = L := fun L hL => mK_mK hL
  have i2 : ∀ L, WfK (x.map List.reverse).length y.reverse.length L → mK y.length (mK y.length L) = L := fun L hL => by
    rw [List.length_map, List.length_reverse] at hL
    exact mK_mK hL
  exact ⟨h.mirror, Nat.le_antisymm (s2.len_le i2 (by rwa [List.length_map]) (by rwa [List.length_reverse])) (s1.len_le i1 x5 y5), by unfold filV; rw [sumP_mapr, sumP_rev], fun d hd => s2.least s1 i1 i2 hd⟩
/-- a Puzzle in a block -/
structure Pz (H : Heap) (b : Nat) (u w : AV) (x y : List (List Int)) : Prop where
  c : H[b]? = some (.cells [u, w])
  x : Sl (fun _ => True) H u x
  y : Sl (fun _ => True) H w y
theorem Pz.kx {H H' : Heap} {b : Nat} {u w : AV} {x y : List (List Int)} (h : Pz H b u w x y) (hx : Kx (fun _ => True) H H') : Pz H' b u w x y := ⟨hx.get trivial h.c, h.x.kp hx.kp, h.y.kp hx.kp⟩
theorem tw_try {x y x' y' : List (List Int)} {d : Nat} (hd : LeastD x y d) (h1 : (sols x y).length = 1) (t : Tw x y x' y') {p q : Nat → Prop} {H : Heap} {u w : AV} (hx : Sl p H u x') (hy : Sl q H w y') : RetP E 53 [.ag [u, w]] H (.tp [.i d, .i 0]) := fun lo => by
  have := try_ret hx hy t.pz (t.len.trans h1) lo
  exact this.mono fun v H' ⟨⟨e, he, _, hv⟩, hH⟩ => ⟨by rw [hv, hd.uniq (t.least e he)], hH⟩
theorem tw_refl {x y : List (List Int)} (h : PuzP x y) : Tw x y x y := ⟨h, rfl, rfl, fun _ h => h⟩
/-- Try, whatever twin -/
theorem tw_tries {x y : List (List Int)} (hn : (sols x y).length = 1 → ∃ d, LeastD x y d) : ∃ T1 T2 : Int, ∀ {x' y' : List (List Int)} (_ : Tw x y x' y') {p q : Nat → Prop} {H : Heap} {u w : AV} (_ : Sl p H u x') (_ : Sl q H w y'), RetP E 53 [.ag [u, w]] H (.tp [.i T1, .i T2]) := by
  by_cases h1 : (sols x y).length = 1
  · obtain ⟨d, hd⟩ := hn h1
    exact ⟨d, 0, fun t _ _ _ _ _ hx hy => tw_try hd h1 t hx hy⟩
  · exact ⟨0, 4, fun t _ _ _ _ _ hx hy => try_no hx hy t.pz fun q => h1 (t.len.symm.trans q)⟩
end Go.Proofs.YtjjndoigkhabdaaDoor
namespace Go.Proofs.YtjjndoigkhabdaaDoor
open Go Go.AM Go.Proofs
theorem Sl_accI {L : Nat} {H : Heap} {v : AV} {xs : List Int} (h : Sl (fun b => L ≤ b) H v xs) : Acc L (fun _ => False) H v xs := by
  rcases h with h | ⟨b, o, c, k, rfl, hb, hk, h1, h2, h3⟩
  · exact .inl h
  · exact .inr ⟨b, o, c, k, rfl, hb, hk, h1, h2, fun i hi => h3 i hi⟩
theorem get_kx {p : Nat → Prop} {H H' : Heap} {v : AV} {k : Int} (hx : Kx p H H') (h : ∀ b, v.blk = some b → p b ∧ b < H.length) : v.get H' k = v.get H k := by
  cases v <;> try rfl
  rename_i e b o m c
  obtain ⟨h1, h2⟩ := h b rfl
  simp only [AV.get, ld, hx.2 b h2 h1]
/-- the first rows turned over -/
def mixR (t : List (List Int)) (i : Nat) : List (List Int) := (t.take i).map List.reverse ++ t.drop i
theorem mixR_len {t : List (List Int)} {i : Nat} : (mixR t i).length = t.length := by unfold mixR; simp; omega
theorem mixR_gi {t : List (List Int)} {i : Nat} (h : i < t.length) : gi (mixR t i) (i : Int) = gi t (i : Int) := by
  rw [gi_nat (by rw [mixR_len]; exact h), gi_nat h]
  unfold mixR
  rw [List.getElem_append_right (by simp; omega)]
  simp [show min i t.length = i by omega]
theorem mixR_set {t : List (List Int)} {i : Nat} (h : i < t.length) : (mixR t i).set i (gi t (i : Int)).reverse = mixR t (i + 1) := by
  unfold mixR
  have e : t.drop i = gi t (i : Int) :: t.drop (i + 1) := by rw [gi_nat h]; exact List.drop_eq_getElem_cons h
  rw [e, List.set_append_right _ _ (by simp; omega), take_gi h, List.map_append]
  simp [show min i t.length = i by omega]
theorem mirror_ret {p q : Nat → Prop} {H : Heap} {u w : AV} {x y : List (List Int)} (hx : Sl p H u x) (hy : Sl q H w y) (h : PuzP x y) : Ret E 46 [.ag [u, w]] (fun _ => False) H (T2.mk (x.map List.reverse, y.reverse) (0 : Int)) := by
  refine Ret.ro rfl fn46 rfl ?_
  unfold f46A
  have vu := hx.cellsV
  have vw := hy.cellsV
  have c0 : (H ++ [Blk.cells [u, w]] ++ [Blk.cells [.nils, .nils]])[H.length]? = some (.cells [u, w]) := by simp [List.getElem?_append]
  have c1 : (H ++ [Blk.cells [u, w]] ++ [Blk.cells [.nils, .nils]])[H.length + 1]? = some (.cells [.nils, .nils]) := by simp [List.getElem?_append]
  have hx2 := (hx.app [Blk.cells [u, w]]).app [Blk.cells [.nils, .nils]]
  have hy2 := (hy.app [Blk.cells [u, w]]).app [Blk.cells [.nils, .nils]]
  have hn : (H ++ [Blk.cells [u, w]] ++ [Blk.cells [.nils, .nils]]).length = H.length + 2 := by simp
  simp (disch := (first | assumption | omega | (simp only [List.length_append, List.length_cons, List.length_nil]; omega))) only [↓wD,wU,Nat.reduceBEq,zx150,zx151,zx159,zx160,zx161,zx162,Nat.reduceAdd,Nat.reduceSub,Nat.reduceMul,Nat.reduceLeDiff,Nat.reduceLT,Nat.reduceEqDiff,Int.reduceAdd,Int.reduceSub,Int.reduceMul,Int.reduceNeg,Int.reduceLT,Int.reduceLE,Int.reduceEq,Int.reduceToNat,Int.cast_ofNat_Int,↓reduceIte, vu, vw]
  generalize H ++ [Blk.cells [u, w]] ++ [Blk.cells [.nils, .nils]] = H2 at *
  have hv := pvalid_ret hx2 hy2
  rw [decide_eq_true h] at hv
  obtain ⟨sx, sy⟩ := h.small
  have lx5 := sx.1
  have ly5 := sy.1
  simp (disch := (first | assumption | omega | (simp only [List.length_append, List.length_cons, List.length_nil]; omega))) only [↓wD,wU,Nat.reduceBEq,zx150,zx151,zx159,zx160,zx161,zx162,Nat.reduceAdd,Nat.reduceSub,Nat.reduceMul,Nat.reduceLeDiff,Nat.reduceLT,Nat.reduceEqDiff,Int.reduceAdd,Int.reduceSub,Int.reduceMul,Int.reduceNeg,Int.reduceLT,Int.reduceLE,Int.reduceEq,Int.reduceToNat,Int.cast_ofNat_Int,↓reduceIte, ldn_of c0, hv.call, ld_of c0]
  refine (clonet_ret hx2 sx.clone.1 sx.clone.2).toX fun r H3 x3 hr => ?_
  have tr : TB H2.length H3 r x := TB.of hr fun b h => h.elim (fun h => h.elim) id
  have c03 := x3.get trivial c0
  have c13 := x3.get trivial c1
  have hl3 := x3.1
  have rlt : ∀ i : Nat, i < x.length → ∀ c, (r.get H3 (i : Int)).blk = some c → c < H3.length := fun i hi c hc => by
    obtain ⟨y', rfl, _, hs, _⟩ := tr.row hi
    exact (hs.blkp hc).2
  have rb : ∀ b, r.blk = some b → b < H3.length := fun b hb => (tr.blk_lt hb).2
  simp (disch := (first | assumption | omega | (simp only [List.length_append, List.length_cons, List.length_nil]; omega))) only [↓wD,wU,Nat.reduceBEq,zx150,zx151,zx159,zx160,zx161,zx162,Nat.reduceAdd,Nat.reduceSub,Nat.reduceMul,Nat.reduceLeDiff,Nat.reduceLT,Nat.reduceEqDiff,Int.reduceAdd,Int.reduceSub,Int.reduceMul,Int.reduceNeg,Int.reduceLT,Int.reduceLE,Int.reduceEq,Int.reduceToNat,Int.cast_ofNat_Int,↓reduceIte, ld_of c03]
  refine (clonet_ret (hy2.kp (x3.all _).kp) sy.clone.1 sy.clone.2).toX fun s H4 x4 hs => ?_
  have ts : TB H3.length H4 s y := TB.of hs fun b h => h.elim (fun h => h.elim) id
  have c14 := x4.get trivial c13
  have hl4 := x4.1
  have tr4 := tr.gr (x4.all _).kp
  have trV := tr4.sl.cellsV
  have tsV := ts.sl.cellsV
  have rlt4 : ∀ i : Nat, i < x.length → ∀ c, (r.get H4 (i : Int)).blk = some c → c < H3.length := fun i hi c hc => by
    rw [get_kx x4 fun b hb => ⟨trivial, rb b hb⟩] at hc
    exact rlt i hi c hc
  obtain ⟨H5, eH5⟩ : ∃ H5, H4 ++ [Blk.cells [r, s]] = H5 := ⟨_, rfl⟩
  have hst : st H.length (H4 ++ [Blk.cells [.nils, .nils]]) H4.length 0 [r, s] = some H5 := by
    rw [st_of get_last (by omega) (by simp), ← eH5]
    congr 1
    simp [wr]
  have x45 : Kx (fun _ => True) H4 H5 := by rw [← eH5]; exact Kx.app _ _ _
  have n5 : H5.length = H4.length + 1 := by rw [← eH5]; simp
  have g5 : H5[H4.length]? = some (.cells [r, s]) := by rw [← eH5]; exact get_last
  have c15 := x45.get trivial c14
  have tr5 := tr4.gr (x45.all _).kp
  have ts5 := ts.gr (x45.all _).kp
  have sb : ∀ b, s.blk = some b → H3.length ≤ b ∧ b < H4.length := fun b hb => ts.blk_lt hb
  have rlt5 : ∀ i : Nat, i < x.length → ∀ c, (r.get H5 (i : Int)).blk = some c → c < H3.length := fun i hi c hc => by
    rw [get_kx x45 fun b hb => ⟨trivial, by have := rb b hb; omega⟩] at hc
    exact rlt4 i hi c hc
  clear eH5 tr tr4 rlt rlt4 hr hs
  simp (disch := (first | assumption | omega | (simp only [List.length_append, List.length_cons, List.length_nil]; omega))) only [↓wD,wU,Nat.reduceBEq,zx150,zx151,zx159,zx160,zx161,zx162,Nat.reduceAdd,Nat.reduceSub,Nat.reduceMul,Nat.reduceLeDiff,Nat.reduceLT,Nat.reduceEqDiff,Int.reduceAdd,Int.reduceSub,Int.reduceMul,Int.reduceNeg,Int.reduceLT,Int.reduceLE,Int.reduceEq,Int.reduceToNat,Int.cast_ofNat_Int,↓reduceIte, trV, tsV, hst, ld_of g5]
  refine callI (acc_rev rfl (lo := H.length) ts5.accL (by omega) (by omega) (fun _ => rev2_nil) rev2_raw ?_)
  intro _ H6 x56 cs hl6
  have c16 := x56.get (b := H.length + 1) (fun e => by have := sb _ e; omega) c15
  have g6 := x56.get (b := H4.length) (fun e => by have := sb _ e; omega) g5
  have tr6 : TB H2.length H6 r x := by
    obtain ⟨rs, e1, e2, e3⟩ := tr5
    refine ⟨rs, e1, e2, ?_⟩
    have hrs : ∀ z ∈ rs, ∀ c, z.v.blk = some c → c < H3.length := by
      intro z hz c hc
      obtain ⟨i, hi, rfl⟩ := List.mem_iff_getElem.1 hz
      refine rlt5 i (by rw [← e1]; simpa using hi) c ?_
      rcases e3 with ⟨_, rfl⟩ | ⟨b1, o, c', k, rfl, hb1, hk, h1, h2, h3⟩
      · simp at hi
      · obtain ⟨e, _⟩ := h3 i hi
        change (k.drop (o + i * 1)).take 1 = _ at e
        have e2 := take1 e
        have eg : AV.get H5 (.s (Rep.sz RW) b1 o rs.length c') (i : Int) = rs[i].v := by
          change (ld H5 b1 (o + i * 1)).getD .un = _
          simp only [ld, hk, e2]; rfl
        rw [eg]; exact hc
    rcases e3 with e3 | ⟨b1, o, c', k, rfl, hb1, hk, h1, h2, h3⟩
    · exact .inl e3
    · refine .inr ⟨b1, o, c', k, rfl, hb1, x56.get (fun e => by have := sb _ e; have := rb _ rfl; omega) hk, h1, h2, fun i hi => ?_⟩
      obtain ⟨e, hs⟩ := h3 i hi
      refine ⟨e, (hs.own.kp (x56.weak (q := fun b => rs[i].v.blk = some b) fun b _ hb e => ?_).kp).weak fun b hb => (hs.blkp hb).1⟩
      have h9 := hrs _ (List.getElem_mem hi) b hb
      have := sb b e
      omega
  have rlt6 : ∀ i : Nat, i < x.length → ∀ c, (r.get H6 (i : Int)).blk = some c → c < H3.length := fun i hi c hc => by
    rw [get_kx x56 fun b hb => ⟨fun e => by have := sb _ e; have := rb _ hb; omega, by have := rb b hb; omega⟩] at hc
    exact rlt5 i hi c hc
  clear tr5 rlt5 ts5 ts
  have lr := tr6.sl.L
  simp (disch := (first | assumption | omega | (simp only [List.length_append, List.length_cons, List.length_nil]; omega))) only [↓wD,wU,Nat.reduceBEq,zx150,zx151,zx159,zx160,zx161,zx162,Nat.reduceAdd,Nat.reduceSub,Nat.reduceMul,Nat.reduceLeDiff,Nat.reduceLT,Nat.reduceEqDiff,Int.reduceAdd,Int.reduceSub,Int.reduceMul,Int.reduceNeg,Int.reduceLT,Int.reduceLE,Int.reduceEq,Int.reduceToNat,Int.cast_ofNat_Int,↓reduceIte, ld_of g6, lr]
  refine Wp.for x.length (fun i a H' => a 2 = .p (H.length + 1) 0 ∧ a 4 = .p H4.length 0 ∧ a 22 = r ∧ a 23 = .i x.length ∧ a 24 = .i i ∧ TB H2.length H' r (mixR x i) ∧ Kx (fun b => H3.length ≤ b ∨ b < H2.length) H6 H' ∧ (∀ j : Nat, j < x.length → ∀ c, (r.get H' (j : Int)).blk = some c → c < H3.length)) ?_ ?_
  · rintro i a H7 hi ⟨a2, a4, a22, a23, a24, tr7, x67, rlt7⟩ ih
    simp (disch := (first | assumption | omega | (simp only [List.length_append, List.length_cons, List.length_nil]; omega))) only [↓wD,wU,Nat.reduceBEq,zx150,zx151,zx159,zx160,zx161,zx162,Nat.reduceAdd,Nat.reduceSub,Nat.reduceMul,Nat.reduceLeDiff,Nat.reduceLT,Nat.reduceEqDiff,Int.reduceAdd,Int.reduceSub,Int.reduceMul,Int.reduceNeg,Int.reduceLT,Int.reduceLE,Int.reduceEq,Int.reduceToNat,Int.cast_ofNat_Int,↓reduceIte, a2, a4, a22, a23, a24]
    have hl7 := x67.1
    refine condP_split (fun hlt => ?_) (fun hlt => ?_)
    · have hi' : i < x.length := by omega
      obtain ⟨yv, ey, el, hs7, hne, hup⟩ := tr7.row (i := i) (by rw [mixR_len]; exact hi')
      rw [mixR_gi hi'] at hs7
      have hlt7 := rlt7 i hi'
      rw [ey] at hlt7
      have il := tr7.sl.L.2.1 .i64 (i : Int) (by omega) (by rw [mixR_len]; omega)
      have hrl := (sx.2 _ (mem_gi hi')).2
      simp (disch := (first | assumption | omega | (simp only [List.length_append, List.length_cons, List.length_nil]; omega))) only [↓wD,wU,Nat.reduceBEq,zx150,zx151,zx159,zx160,zx161,zx162,Nat.reduceAdd,Nat.reduceSub,Nat.reduceMul,Nat.reduceLeDiff,Nat.reduceLT,Nat.reduceEqDiff,Int.reduceAdd,Int.reduceSub,Int.reduceMul,Int.reduceNeg,Int.reduceLT,Int.reduceLE,Int.reduceEq,Int.reduceToNat,Int.cast_ofNat_Int,↓reduceIte, a2, a4, a22, a23, a24, il, el]
      refine callI (acc_rev rfl (lo := H.length) (Sl_accI hs7) (by omega) (by omega) (fun _ => rev1_nil) rev1_raw ?_)
      intro _ H8 x78 cs8 hl8
      have t8 := hup H8 _ x78 (cs8.sl.weak fun b h => h.elim (fun h => h.elim) id)
      rw [mixR_set hi'] at t8
      simp (disch := (first | assumption | omega | (simp only [List.length_append, List.length_cons, List.length_nil]; omega))) only [↓wD,wU,Nat.reduceBEq,zx150,zx151,zx159,zx160,zx161,zx162,Nat.reduceAdd,Nat.reduceSub,Nat.reduceMul,Nat.reduceLeDiff,Nat.reduceLT,Nat.reduceEqDiff,Int.reduceAdd,Int.reduceSub,Int.reduceMul,Int.reduceNeg,Int.reduceLT,Int.reduceLE,Int.reduceEq,Int.reduceToNat,Int.cast_ofNat_Int,↓reduceIte, a2, a4, a22, a23, a24]
      refine (ih hi').go ?_
      simp (disch := (first | assumption | omega | (simp only [List.length_append, List.length_cons, List.length_nil]; omega))) only [↓wD,wU,Nat.reduceBEq,zx150,zx151,zx159,zx160,zx161,zx162,Nat.reduceAdd,Nat.reduceSub,Nat.reduceMul,Nat.reduceLeDiff,Nat.reduceLT,Nat.reduceEqDiff,Int.reduceAdd,Int.reduceSub,Int.reduceMul,Int.reduceNeg,Int.reduceLT,Int.reduceLE,Int.reduceEq,Int.reduceToNat,Int.cast_ofNat_Int,↓reduceIte, a2, a4, a22, a23, a24]
      refine ⟨t8, x67.trans x78 fun b _ h e => ?_, fun j hj c hc => ?_⟩
      · have h8 := hlt7 b e
        have h9 := (hs7.blkp e).1
        omega
      · rw [get_kx x78 fun b hb => ⟨hne b hb, (tr7.blk_lt hb).2⟩] at hc
        exact rlt7 j hj c hc
    · obtain rfl : i = x.length := by omega
      have em : mixR x x.length = x.map List.reverse := by unfold mixR; simp
      rw [em] at tr7
      have c17 := x67.get (b := H.length + 1) (.inr (by omega)) c16
      have g7 := x67.get (b := H4.length) (.inl (by omega)) g6
      have cs7 := cs.mono (x67.weak fun b _ h => .inl (h.elim id id)).kp fun _ h => h
      have hst2 : st H.length H7 (H.length + 1) 0 [r, s] = some (H7.set (H.length + 1) (.cells [r, s])) := by rw [st_of c17 (by omega) (by simp)]; simp [wr]
      simp (disch := (first | assumption | omega | (simp only [List.length_append, List.length_cons, List.length_nil]; omega))) only [↓wD,wU,Nat.reduceBEq,zx150,zx151,zx159,zx160,zx161,zx162,Nat.reduceAdd,Nat.reduceSub,Nat.reduceMul,Nat.reduceLeDiff,Nat.reduceLT,Nat.reduceEqDiff,Int.reduceAdd,Int.reduceSub,Int.reduceMul,Int.reduceNeg,Int.reduceLT,Int.reduceLE,Int.reduceEq,Int.reduceToNat,Int.cast_ofNat_Int,↓reduceIte, a2, a4, ldn_of g7, trV, tsV, hst2, ldn_of (get_set c17)]
      refine rv_2 (rv_pp ?_ ?_) rv_i
      · exact (tr7.sl.kp ((Kp.set _ _ _).weak fun b h => by omega)).weak fun b h => .inr (by omega)
      · exact (cs7.sl.kp ((Kp.set _ _ _).weak fun b h => by have := h.elim id id; omega)).weak fun b h => .inr (by have := h.elim id id; omega)
  · simp (disch := (first | assumption | omega | (simp only [List.length_append, List.length_cons, List.length_nil]; omega))) only [↓wD,wU,Nat.reduceBEq,zx150,zx151,zx159,zx160,zx161,zx162,Nat.reduceAdd,Nat.reduceSub,Nat.reduceMul,Nat.reduceLeDiff,Nat.reduceLT,Nat.reduceEqDiff,Int.reduceAdd,Int.reduceSub,Int.reduceMul,Int.reduceNeg,Int.reduceLT,Int.reduceLE,Int.reduceEq,Int.reduceToNat,Int.cast_ofNat_Int,↓reduceIte]
    have em : mixR x 0 = x := by unfold mixR; simp
    rw [em]
    exact ⟨tr6, Kx.refl _ _, rlt6⟩
theorem mirror_err {p q : Nat → Prop} {H : Heap} {u w : AV} {x y : List (List Int)} (hx : Sl p H u x) (hy : Sl q H w y) (h : ¬ PuzP x y) : RetP E 46 [.ag [u, w]] H (.tp [.ag [.nils, .nils], .i 2]) := by
  refine RetP.ro rfl fn46 rfl rfl ?_
  unfold f46A
  have vu := hx.cellsV
  have vw := hy.cellsV
  have c0 : (H ++ [Blk.cells [u, w]] ++ [Blk.cells [.nils, .nils]])[H.length]? = some (.cells [u, w]) := by simp [List.getElem?_append]
  have c1 : (H ++ [Blk.cells [u, w]] ++ [Blk.cells [.nils, .nils]])[H.length + 1]? = some (.cells [.nils, .nils]) := by simp [List.getElem?_append]
  have hx2 := (hx.app [Blk.cells [u, w]]).app [Blk.cells [.nils, .nils]]
  have hy2 := (hy.app [Blk.cells [u, w]]).app [Blk.cells [.nils, .nils]]
  simp (disch := (first | assumption | omega | (simp only [List.length_append, List.length_cons, List.length_nil]; omega))) only [↓wD,wU,Nat.reduceBEq,zx150,zx151,zx159,zx160,zx161,zx162,Nat.reduceAdd,Nat.reduceSub,Nat.reduceMul,Nat.reduceLeDiff,Nat.reduceLT,Nat.reduceEqDiff,Int.reduceAdd,Int.reduceSub,Int.reduceMul,Int.reduceNeg,Int.reduceLT,Int.reduceLE,Int.reduceEq,Int.reduceToNat,Int.cast_ofNat_Int,↓reduceIte, vu, vw]
  generalize H ++ [Blk.cells [u, w]] ++ [Blk.cells [.nils, .nils]] = H2 at *
  have hv := pvalid_ret hx2 hy2
  rw [decide_eq_false h] at hv
  have hst : st H.length H2 (H.length + 1) 0 [.nils, .nils] = some (H2.set (H.length + 1) (.cells [.nils, .nils])) := by rw [st_of c1 (by omega) (by simp)]; simp [wr]
  simp (disch := (first | assumption | omega | (simp only [List.length_append, List.length_cons, List.length_nil]; omega))) only [↓wD,wU,Nat.reduceBEq,zx150,zx151,zx159,zx160,zx161,zx162,Nat.reduceAdd,Nat.reduceSub,Nat.reduceMul,Nat.reduceLeDiff,Nat.reduceLT,Nat.reduceEqDiff,Int.reduceAdd,Int.reduceSub,Int.reduceMul,Int.reduceNeg,Int.reduceLT,Int.reduceLE,Int.reduceEq,Int.reduceToNat,Int.cast_ofNat_Int,↓reduceIte, ldn_of c0, hv.call, hst, ldn_of (get_set c1)]
end Go.Proofs.YtjjndoigkhabdaaDoor
namespace Go.Proofs.YtjjndoigkhabdaaDoor
open Go Go.AM Go.Proofs
theorem Walk.SquaresTurned (H : Heap) (cs : List AV) (z : List (List Int) × List (List Int)) (h : Rep.rep (fun b => b < H.length) H cs z) : WpF E H.length 16 [.ag cs] H fun v _ => v = .b true := by
  obtain ⟨u, w, rfl, hx, hy⟩ := rep_pp_elim h
  obtain ⟨x, y⟩ := z
  simp only at hx hy
  refine law_of (RetP.ro rfl fn16 rfl rfl ?_)
  unfold f16A
  have vu := hx.cellsV
  have vw := hy.cellsV
  have p0 : Pz (H ++ [Blk.cells [u, w]]) H.length u w x y := ⟨by simp, (hx.app [Blk.cells [u, w]]).weak fun _ _ => trivial, (hy.app [Blk.cells [u, w]]).weak fun _ _ => trivial⟩
  have hn0 : (H ++ [Blk.cells [u, w]]).length = H.length + 1 := by simp
  simp (disch := (first | assumption | omega | (simp only [List.length_append, List.length_cons, List.length_nil]; omega))) only [↓wD,wU,Nat.reduceBEq,zx150,zx151,zx159,zx160,zx161,zx162,Nat.reduceAdd,Nat.reduceSub,Nat.reduceMul,Nat.reduceLeDiff,Nat.reduceLT,Nat.reduceEqDiff,Int.reduceAdd,Int.reduceSub,Int.reduceMul,Int.reduceNeg,Int.reduceLT,Int.reduceLE,Int.reduceEq,Int.reduceToNat,Int.cast_ofNat_Int,↓reduceIte, vu, vw]
  generalize H ++ [Blk.cells [u, w]] = H0 at *
  refine (of_ret p0.x p0.y).toX fun r1 H1 x1 hr1 => ?_
  obtain ⟨u1, w1, rfl, a1, b1⟩ := rv_pp_elim hr1
  simp only at a1 b1
  replace p0 := p0.kx x1
  have hl1 := x1.1
  have stz : ∀ (G : Heap) (tu tw : AV), H.length ≤ G.length → st H.length (G ++ [Blk.cells [.nils, .nils]]) G.length 0 [tu, tw] = some (G ++ [Blk.cells [tu, tw]]) := fun G tu tw hG => by
    rw [st_of get_last hG (by simp)]
    congr 1
    simp [wr]
  have pzz : ∀ {G : Heap} {p q : Nat → Prop} {tu tw : AV} {x y : List (List Int)}, Sl p G tu x → Sl q G tw y → Pz (G ++ [Blk.cells [tu, tw]]) G.length tu tw x y := fun hx hy => ⟨get_last, (hx.app _).weak fun _ _ => trivial, (hy.app _).weak fun _ _ => trivial⟩
  clear vu vw hx hy h hr1
  by_cases hP : PuzP x y
  · obtain ⟨ex, ey⟩ := cutT_ok hP
    rw [ex] at a1
    rw [ey] at b1
    have hPt := hP.turn
    have hPm := hP.mirror
    obtain ⟨emx, emy⟩ := cutT_ok hPm
    simp (disch := (first | assumption | omega | (simp only [List.length_append, List.length_cons, List.length_nil]; omega))) only [↓wD,wU,Nat.reduceBEq,zx150,zx151,zx159,zx160,zx161,zx162,Nat.reduceAdd,Nat.reduceSub,Nat.reduceMul,Nat.reduceLeDiff,Nat.reduceLT,Nat.reduceEqDiff,Int.reduceAdd,Int.reduceSub,Int.reduceMul,Int.reduceNeg,Int.reduceLT,Int.reduceLE,Int.reduceEq,Int.reduceToNat,Int.cast_ofNat_Int,↓reduceIte]
    refine (turn_ret a1 b1 hP).toX fun r3 H3 x3 hr3 => ?_
    obtain ⟨q3, _, rfl, h3, rfl⟩ := rv2 hr3
    obtain ⟨tu, tw, rfl, t1, t2⟩ := rv_pp_elim h3
    simp only at t1 t2
    have hl3 := x3.1
    have x34 : Kx (fun _ => True) H3 (H3 ++ [Blk.cells [tu, tw]]) := Kx.app _ _ _
    have pT := pzz t1 t2
    have n4 : (H3 ++ [Blk.cells [tu, tw]]).length = H3.length + 1 := by simp
    have st3 := stz H3 tu tw (by omega)
    have d1 := t1.cellsV
    have d2 := t2.cellsV
    replace p0 := (p0.kx x3).kx x34
    clear t1 t2 h3 hr3 a1 b1
    generalize hH4 : H3 ++ [Blk.cells [tu, tw]] = H4 at *
    simp (disch := (first | assumption | omega | (simp only [List.length_append, List.length_cons, List.length_nil]; omega))) only [↓wD,wU,Nat.reduceBEq,zx150,zx151,zx159,zx160,zx161,zx162,Nat.reduceAdd,Nat.reduceSub,Nat.reduceMul,Nat.reduceLeDiff,Nat.reduceLT,Nat.reduceEqDiff,Int.reduceAdd,Int.reduceSub,Int.reduceMul,Int.reduceNeg,Int.reduceLT,Int.reduceLE,Int.reduceEq,Int.reduceToNat,Int.cast_ofNat_Int,↓reduceIte, d1, d2, st3, ldn_of p0.c]
    refine (of_ret p0.x p0.y).toX fun r5 H5 x5 hr5 => ?_
    obtain ⟨u5, w5, rfl, a5, b5⟩ := rv_pp_elim hr5
    simp only at a5 b5
    rw [ex] at a5
    rw [ey] at b5
    simp (disch := (first | assumption | omega | (simp only [List.length_append, List.length_cons, List.length_nil]; omega))) only [↓wD,wU,Nat.reduceBEq,zx150,zx151,zx159,zx160,zx161,zx162,Nat.reduceAdd,Nat.reduceSub,Nat.reduceMul,Nat.reduceLeDiff,Nat.reduceLT,Nat.reduceEqDiff,Int.reduceAdd,Int.reduceSub,Int.reduceMul,Int.reduceNeg,Int.reduceLT,Int.reduceLE,Int.reduceEq,Int.reduceToNat,Int.cast_ofNat_Int,↓reduceIte]
    refine (mirror_ret a5 b5 hP).toX fun r6 H6 x6 hr6 => ?_
    obtain ⟨q6, _, rfl, h6, rfl⟩ := rv2 hr6
    obtain ⟨mu, mw, rfl, m1, m2⟩ := rv_pp_elim h6
    simp only at m1 m2
    have hl5 := x5.1
    have hl6 := x6.1
    have x67 : Kx (fun _ => True) H6 (H6 ++ [Blk.cells [mu, mw]]) := Kx.app _ _ _
    have pM := pzz m1 m2
    have n7 : (H6 ++ [Blk.cells [mu, mw]]).length = H6.length + 1 := by simp
    have st6 := stz H6 mu mw (by omega)
    have dm1 := m1.cellsV
    have dm2 := m2.cellsV
    have x47 := (x5.trans x6 fun _ _ _ => trivial).trans x67 fun _ _ _ => trivial
    replace p0 := p0.kx x47
    replace pT := pT.kx x47
    have rv := rvalid_ret p0.x p0.y
    rw [decide_eq_true hP] at rv
    clear m1 m2 h6 hr6 hr5 a5 b5
    generalize hH7 : H6 ++ [Blk.cells [mu, mw]] = H7 at *
    simp (disch := (first | assumption | omega | (simp only [List.length_append, List.length_cons, List.length_nil]; omega))) only [↓wD,wU,Nat.reduceBEq,zx150,zx151,zx159,zx160,zx161,zx162,Nat.reduceAdd,Nat.reduceSub,Nat.reduceMul,Nat.reduceLeDiff,Nat.reduceLT,Nat.reduceEqDiff,Int.reduceAdd,Int.reduceSub,Int.reduceMul,Int.reduceNeg,Int.reduceLT,Int.reduceLE,Int.reduceEq,Int.reduceToNat,Int.cast_ofNat_Int,↓reduceIte, dm1, dm2, st6, ldn_of p0.c, rv.call, ldn_of pT.c]
    refine (own_ret pT.x pT.y).toX fun r8 H8 x8 hr8 => ?_
    obtain ⟨u8, w8, rfl, a8, b8⟩ := rv_pp_elim hr8
    simp only at a8 b8
    simp (disch := (first | assumption | omega | (simp only [List.length_append, List.length_cons, List.length_nil]; omega))) only [↓wD,wU,Nat.reduceBEq,zx150,zx151,zx159,zx160,zx161,zx162,Nat.reduceAdd,Nat.reduceSub,Nat.reduceMul,Nat.reduceLeDiff,Nat.reduceLT,Nat.reduceEqDiff,Int.reduceAdd,Int.reduceSub,Int.reduceMul,Int.reduceNeg,Int.reduceLT,Int.reduceLE,Int.reduceEq,Int.reduceToNat,Int.cast_ofNat_Int,↓reduceIte]
    refine (of_ret a8 b8).toX fun r9 H9 x9 hr9 => ?_
    obtain ⟨u9, w9, rfl, a9, b9⟩ := rv_pp_elim hr9
    simp only at a9 b9
    rw [ey] at a9
    rw [ex] at b9
    simp (disch := (first | assumption | omega | (simp only [List.length_append, List.length_cons, List.length_nil]; omega))) only [↓wD,wU,Nat.reduceBEq,zx150,zx151,zx159,zx160,zx161,zx162,Nat.reduceAdd,Nat.reduceSub,Nat.reduceMul,Nat.reduceLeDiff,Nat.reduceLT,Nat.reduceEqDiff,Int.reduceAdd,Int.reduceSub,Int.reduceMul,Int.reduceNeg,Int.reduceLT,Int.reduceLE,Int.reduceEq,Int.reduceToNat,Int.cast_ofNat_Int,↓reduceIte]
    refine (turn_ret a9 b9 hPt).toX fun r10 H10 x10 hr10 => ?_
    obtain ⟨q10, _, rfl, h10, rfl⟩ := rv2 hr10
    obtain ⟨su, sw, rfl, s1, s2⟩ := rv_pp_elim h10
    simp only at s1 s2
    have hl8 := x8.1
    have hl9 := x9.1
    have hl10 := x10.1
    have x1011 : Kx (fun _ => True) H10 (H10 ++ [Blk.cells [su, sw]]) := Kx.app _ _ _
    have pS := pzz s1 s2
    have n11 : (H10 ++ [Blk.cells [su, sw]]).length = H10.length + 1 := by simp
    have st10 := stz H10 su sw (by omega)
    have ds1 := s1.cellsV
    have ds2 := s2.cellsV
    have x711 := ((x8.trans x9 fun _ _ _ => trivial).trans x10 fun _ _ _ => trivial).trans x1011 fun _ _ _ => trivial
    replace p0 := p0.kx x711
    replace pT := pT.kx x711
    replace pM := pM.kx x711
    clear s1 s2 h10 hr10 hr9 hr8 a8 b8 a9 b9
    generalize hH11 : H10 ++ [Blk.cells [su, sw]] = H11 at *
    simp (disch := (first | assumption | omega | (simp only [List.length_append, List.length_cons, List.length_nil]; omega))) only [↓wD,wU,Nat.reduceBEq,zx150,zx151,zx159,zx160,zx161,zx162,Nat.reduceAdd,Nat.reduceSub,Nat.reduceMul,Nat.reduceLeDiff,Nat.reduceLT,Nat.reduceEqDiff,Int.reduceAdd,Int.reduceSub,Int.reduceMul,Int.reduceNeg,Int.reduceLT,Int.reduceLE,Int.reduceEq,Int.reduceToNat,Int.cast_ofNat_Int,↓reduceIte, ds1, ds2, st10, ldn_of pM.c]
    refine (own_ret pM.x pM.y).toX fun r12 H12 x12 hr12 => ?_
    obtain ⟨u12, w12, rfl, a12, b12⟩ := rv_pp_elim hr12
    simp only at a12 b12
    simp (disch := (first | assumption | omega | (simp only [List.length_append, List.length_cons, List.length_nil]; omega))) only [↓wD,wU,Nat.reduceBEq,zx150,zx151,zx159,zx160,zx161,zx162,Nat.reduceAdd,Nat.reduceSub,Nat.reduceMul,Nat.reduceLeDiff,Nat.reduceLT,Nat.reduceEqDiff,Int.reduceAdd,Int.reduceSub,Int.reduceMul,Int.reduceNeg,Int.reduceLT,Int.reduceLE,Int.reduceEq,Int.reduceToNat,Int.cast_ofNat_Int,↓reduceIte]
    refine (of_ret a12 b12).toX fun r13 H13 x13 hr13 => ?_
    obtain ⟨u13, w13, rfl, a13, b13⟩ := rv_pp_elim hr13
    simp only at a13 b13
    rw [emx] at a13
    rw [emy] at b13
    simp (disch := (first | assumption | omega | (simp only [List.length_append, List.length_cons, List.length_nil]; omega))) only [↓wD,wU,Nat.reduceBEq,zx150,zx151,zx159,zx160,zx161,zx162,Nat.reduceAdd,Nat.reduceSub,Nat.reduceMul,Nat.reduceLeDiff,Nat.reduceLT,Nat.reduceEqDiff,Int.reduceAdd,Int.reduceSub,Int.reduceMul,Int.reduceNeg,Int.reduceLT,Int.reduceLE,Int.reduceEq,Int.reduceToNat,Int.cast_ofNat_Int,↓reduceIte]
    refine (mirror_ret a13 b13 hPm).toX fun r14 H14 x14 hr14 => ?_
    obtain ⟨q14, _, rfl, h14, rfl⟩ := rv2 hr14
    obtain ⟨nu, nw, rfl, k1, k2⟩ := rv_pp_elim h14
    simp only at k1 k2
    rw [List.map_map, show (List.reverse ∘ List.reverse : List Int → List Int) = id from funext fun l => List.reverse_reverse l, List.map_id] at k1
    rw [List.reverse_reverse] at k2
    have hl12 := x12.1
    have hl13 := x13.1
    have hl14 := x14.1
    have x1415 : Kx (fun _ => True) H14 (H14 ++ [Blk.cells [nu, nw]]) := Kx.app _ _ _
    have pN := pzz k1 k2
    have n15 : (H14 ++ [Blk.cells [nu, nw]]).length = H14.length + 1 := by simp
    have st14 := stz H14 nu nw (by omega)
    have dk1 := k1.cellsV
    have dk2 := k2.cellsV
    have x1115 := ((x12.trans x13 fun _ _ _ => trivial).trans x14 fun _ _ _ => trivial).trans x1415 fun _ _ _ => trivial
    replace p0 := p0.kx x1115
    replace pT := pT.kx x1115
    replace pM := pM.kx x1115
    replace pS := pS.kx x1115
    clear k1 k2 h14 hr14 hr13 hr12 a12 b12 a13 b13
    generalize hH15 : H14 ++ [Blk.cells [nu, nw]] = H15 at *
    simp (disch := (first | assumption | omega | (simp only [List.length_append, List.length_cons, List.length_nil]; omega))) only [↓wD,wU,Nat.reduceBEq,zx150,zx151,zx159,zx160,zx161,zx162,Nat.reduceAdd,Nat.reduceSub,Nat.reduceMul,Nat.reduceLeDiff,Nat.reduceLT,Nat.reduceEqDiff,Int.reduceAdd,Int.reduceSub,Int.reduceMul,Int.reduceNeg,Int.reduceLT,Int.reduceLE,Int.reduceEq,Int.reduceToNat,Int.cast_ofNat_Int,↓reduceIte, dk1, dk2, st14, ldn_of pS.c]
    refine (own_ret pS.x pS.y).toX fun r16 H16 x16 hr16 => ?_
    obtain ⟨u16, w16, rfl, a16, b16⟩ := rv_pp_elim hr16
    simp only at a16 b16
    have hl16 := x16.1
    replace p0 := p0.kx x16
    replace pT := pT.kx x16
    replace pM := pM.kx x16
    replace pN := pN.kx x16
    have sm1 := psame_ret (a16.weak (q := fun _ => True) fun _ _ => trivial) (b16.weak (q := fun _ => True) fun _ _ => trivial) p0.x p0.y
    rw [decide_eq_true ⟨rfl, rfl⟩] at sm1
    clear hr16
    simp (disch := (first | assumption | omega | (simp only [List.length_append, List.length_cons, List.length_nil]; omega))) only [↓wD,wU,Nat.reduceBEq,zx150,zx151,zx159,zx160,zx161,zx162,Nat.reduceAdd,Nat.reduceSub,Nat.reduceMul,Nat.reduceLeDiff,Nat.reduceLT,Nat.reduceEqDiff,Int.reduceAdd,Int.reduceSub,Int.reduceMul,Int.reduceNeg,Int.reduceLT,Int.reduceLE,Int.reduceEq,Int.reduceToNat,Int.cast_ofNat_Int,↓reduceIte, ldn_of p0.c, sm1.call, ldn_of pN.c]
    refine (own_ret pN.x pN.y).toX fun r17 H17 x17 hr17 => ?_
    obtain ⟨u17, w17, rfl, a17, b17⟩ := rv_pp_elim hr17
    simp only at a17 b17
    have hl17 := x17.1
    replace p0 := p0.kx x17
    replace pT := pT.kx x17
    replace pM := pM.kx x17
    have sm2 := psame_ret (a17.weak (q := fun _ => True) fun _ _ => trivial) (b17.weak (q := fun _ => True) fun _ _ => trivial) p0.x p0.y
    rw [decide_eq_true ⟨rfl, rfl⟩] at sm2
    clear hr17
    simp (disch := (first | assumption | omega | (simp only [List.length_append, List.length_cons, List.length_nil]; omega))) only [↓wD,wU,Nat.reduceBEq,zx150,zx151,zx159,zx160,zx161,zx162,Nat.reduceAdd,Nat.reduceSub,Nat.reduceMul,Nat.reduceLeDiff,Nat.reduceLT,Nat.reduceEqDiff,Int.reduceAdd,Int.reduceSub,Int.reduceMul,Int.reduceNeg,Int.reduceLT,Int.reduceLE,Int.reduceEq,Int.reduceToNat,Int.cast_ofNat_Int,↓reduceIte, ldn_of p0.c, sm2.call]
    refine (of_ret p0.x p0.y).toX fun r18 H18 x18 hr18 => ?_
    obtain ⟨u18, w18, rfl, a18, b18⟩ := rv_pp_elim hr18
    simp only at a18 b18
    rw [ex] at a18
    rw [ey] at b18
    have hl18 := x18.1
    replace p0 := p0.kx x18
    replace pT := pT.kx x18
    replace pM := pM.kx x18
    have ct := scount_ret a18 b18 hP
    obtain ⟨T1, T2, hT⟩ := tw_tries (x := x) (y := y) fun h1 => by
      obtain ⟨n, v, H', _, ⟨d, hd, _⟩, _⟩ := try_ret a18 b18 hP h1 0
      exact ⟨d, hd⟩
    obtain ⟨F1, F2, eF⟩ : ∃ F1 F2 : Int, filV x y = .tp [.i F1, .i F2] := by
      unfold filV
      split
      · exact ⟨_, _, rfl⟩
      · exact ⟨_, _, rfl⟩
    have hfil : ∀ {x' y' : List (List Int)} (_ : Tw x y x' y') {p q : Nat → Prop} {H : Heap} {u w : AV} (_ : Sl p H u x') (_ : Sl q H w y'), RetP E 44 [.ag [u, w]] H (.tp [.i F1, .i F2]) := fun t _ _ _ _ _ hx hy => by
      have := filled_ret hx hy t.pz
      rw [← eF, ← t.fil]
      exact this
    have hcnt : ∀ {x' y' : List (List Int)} (_ : Tw x y x' y') {p q : Nat → Prop} {H : Heap} {u w : AV} (_ : Sl p H u x') (_ : Sl q H w y'), RetP E 41 [.ag [u, w]] H (.tp [.i (sols x y).length, .i 0]) := fun t _ _ _ _ _ hx hy => by
      rw [← t.len]
      exact scount_ret hx hy t.pz
    have tR := tw_refl hP
    clear hr18
    simp (disch := (first | assumption | omega | (simp only [List.length_append, List.length_cons, List.length_nil]; omega))) only [↓wD,wU,Nat.reduceBEq,zx150,zx151,zx159,zx160,zx161,zx162,Nat.reduceAdd,Nat.reduceSub,Nat.reduceMul,Nat.reduceLeDiff,Nat.reduceLT,Nat.reduceEqDiff,Int.reduceAdd,Int.reduceSub,Int.reduceMul,Int.reduceNeg,Int.reduceLT,Int.reduceLE,Int.reduceEq,Int.reduceToNat,Int.cast_ofNat_Int,↓reduceIte, ct.call, ldn_of p0.c]
    refine (of_ret p0.x p0.y).toX fun r19 H19 x19 hr19 => ?_
    obtain ⟨u19, w19, rfl, a19, b19⟩ := rv_pp_elim hr19
    simp only at a19 b19
    rw [ex] at a19
    rw [ey] at b19
    have hl19 := x19.1
    replace p0 := p0.kx x19
    replace pT := pT.kx x19
    replace pM := pM.kx x19
    have f19 := hfil tR a19 b19
    clear hr19
    simp (disch := (first | assumption | omega | (simp only [List.length_append, List.length_cons, List.length_nil]; omega))) only [↓wD,wU,Nat.reduceBEq,zx150,zx151,zx159,zx160,zx161,zx162,Nat.reduceAdd,Nat.reduceSub,Nat.reduceMul,Nat.reduceLeDiff,Nat.reduceLT,Nat.reduceEqDiff,Int.reduceAdd,Int.reduceSub,Int.reduceMul,Int.reduceNeg,Int.reduceLT,Int.reduceLE,Int.reduceEq,Int.reduceToNat,Int.cast_ofNat_Int,↓reduceIte, f19.call, ldn_of p0.c]
    refine (of_ret p0.x p0.y).toX fun r20 H20 x20 hr20 => ?_
    obtain ⟨u20, w20, rfl, a20, b20⟩ := rv_pp_elim hr20
    simp only at a20 b20
    rw [ex] at a20
    rw [ey] at b20
    have hl20 := x20.1
    replace pT := pT.kx x20
    replace pM := pM.kx x20
    have t20 := hT tR a20 b20
    clear hr20
    simp (disch := (first | assumption | omega | (simp only [List.length_append, List.length_cons, List.length_nil]; omega))) only [↓wD,wU,Nat.reduceBEq,zx150,zx151,zx159,zx160,zx161,zx162,Nat.reduceAdd,Nat.reduceSub,Nat.reduceMul,Nat.reduceLeDiff,Nat.reduceLT,Nat.reduceEqDiff,Int.reduceAdd,Int.reduceSub,Int.reduceMul,Int.reduceNeg,Int.reduceLT,Int.reduceLE,Int.reduceEq,Int.reduceToNat,Int.cast_ofNat_Int,↓reduceIte, t20.call, ldn_of pT.c]
    refine (own_ret pT.x pT.y).toX fun r21 H21 x21 hr21 => ?_
    obtain ⟨u21, w21, rfl, a21, b21⟩ := rv_pp_elim hr21
    simp only at a21 b21
    have hl21 := x21.1
    replace pM := pM.kx x21
    clear hr21
    simp (disch := (first | assumption | omega | (simp only [List.length_append, List.length_cons, List.length_nil]; omega))) only [↓wD,wU,Nat.reduceBEq,zx150,zx151,zx159,zx160,zx161,zx162,Nat.reduceAdd,Nat.reduceSub,Nat.reduceMul,Nat.reduceLeDiff,Nat.reduceLT,Nat.reduceEqDiff,Int.reduceAdd,Int.reduceSub,Int.reduceMul,Int.reduceNeg,Int.reduceLT,Int.reduceLE,Int.reduceEq,Int.reduceToNat,Int.cast_ofNat_Int,↓reduceIte, ldn_of pM.c]
    refine (own_ret pM.x pM.y).toX fun r22 H22 x22 hr22 => ?_
    obtain ⟨u22, w22, rfl, a22, b22⟩ := rv_pp_elim hr22
    simp only at a22 b22
    have hl22 := x22.1
    clear hr22
    have e21 := a21.cellsV
    have f21 := b21.cellsV
    have e22 := a22.cellsV
    have f22 := b22.cellsV
    obtain ⟨H23, eH23⟩ : ∃ H23, H22 ++ [Blk.cells [u21, w21, u22, w22]] = H23 := ⟨_, rfl⟩
    have x23 : Kx (fun _ => True) H22 H23 := by rw [← eH23]; exact Kx.app _ _ _
    have g23 : H23[H22.length]? = some (.cells [u21, w21, u22, w22]) := by rw [← eH23]; exact get_last
    have n23 : H23.length = H22.length + 1 := by rw [← eH23]; simp
    have el : ∀ t : Nat, t < 2 → ∃ uq wq x' y', ([u21, w21, u22, w22].drop (2 * t)).take 2 = [uq, wq] ∧ Sl (fun _ => True) H23 uq x' ∧ Sl (fun _ => True) H23 wq y' ∧ Tw x y x' y' := fun t ht => by
      obtain rfl | rfl : t = 0 ∨ t = 1 := by omega
      · exact ⟨u21, w21, y, x, rfl, ((a21.kp x22.kp.weakT).kp x23.kp.weakT).weak fun _ _ => trivial, ((b21.kp x22.kp.weakT).kp x23.kp.weakT).weak fun _ _ => trivial, tw_turn hP⟩
      · exact ⟨u22, w22, _, _, rfl, (a22.kp x23.kp.weakT).weak fun _ _ => trivial, (b22.kp x23.kp.weakT).weak fun _ _ => trivial, tw_mirror hP⟩
    simp (disch := (first | assumption | omega | (simp only [List.length_append, List.length_cons, List.length_nil]; omega))) only [↓wD,wU,Nat.reduceBEq,zx150,zx151,zx159,zx160,zx161,zx162,Nat.reduceAdd,Nat.reduceSub,Nat.reduceMul,Nat.reduceLeDiff,Nat.reduceLT,Nat.reduceEqDiff,Int.reduceAdd,Int.reduceSub,Int.reduceMul,Int.reduceNeg,Int.reduceLT,Int.reduceLE,Int.reduceEq,Int.reduceToNat,Int.cast_ofNat_Int,↓reduceIte, e21, f21, e22, f22]
    rw [eH23]
    obtain ⟨V, eV⟩ : ∃ V, AV.s 2 H22.length 0 2 (some 2) = V := ⟨_, rfl⟩
    have iV : ∀ t : Nat, t < 2 → iaddrV 2 V (.i (t : Int)) = some (.p H22.length (2 * t)) := fun t ht => by
      rw [← eV, zx178 (by omega) (by omega), Int.toNat_natCast, Nat.zero_add, Nat.mul_comm]
    have hdn : decide (¬ (((sols x y).length : Nat) : Int) = ((sols x y).length : Nat)) = false := decide_eq_false fun h => h rfl
    have hdF1 : decide (¬ F1 = F1) = false := decide_eq_false fun h => h rfl
    have hdF2 : decide (¬ F2 = F2) = false := decide_eq_false fun h => h rfl
    have hdT1 : decide (¬ T1 = T1) = false := decide_eq_false fun h => h rfl
    have hdT2 : decide (¬ T2 = T2) = false := decide_eq_false fun h => h rfl
    generalize hNN : (((sols x y).length : Nat) : Int) = NN at *
    refine Wp.for 2 (fun t a G => a 9 = .i NN ∧ a 10 = .i 0 ∧ a 11 = .i F1 ∧ a 12 = .i F2 ∧ a 13 = .i T1 ∧ a 14 = .i T2 ∧ a 112 = V ∧ a 113 = .i 2 ∧ a 114 = .i t ∧ Kx (fun _ => True) H23 G) ?_ ?_
    · rintro t a G ht ⟨a9, a10, a11, a12, a13, a14, a112, a113, a114, xG⟩ ih
      have hlG := xG.1
      simp (disch := (first | assumption | omega | (simp only [List.length_append, List.length_cons, List.length_nil]; omega))) only [↓wD,wU,Nat.reduceBEq,zx150,zx151,zx159,zx160,zx161,zx162,Nat.reduceAdd,Nat.reduceSub,Nat.reduceMul,Nat.reduceLeDiff,Nat.reduceLT,Nat.reduceEqDiff,Int.reduceAdd,Int.reduceSub,Int.reduceMul,Int.reduceNeg,Int.reduceLT,Int.reduceLE,Int.reduceEq,Int.reduceToNat,Int.cast_ofNat_Int,↓reduceIte, a9, a10, a11, a12, a13, a14, a112, a113, a114]
      refine condP_split (fun hlt => ?_) (fun hlt => ?_)
      · have ht' : t < 2 := by omega
        obtain ⟨uq, wq, x', y', q1, q2, q3, tq⟩ := el t ht'
        obtain ⟨eqx, eqy⟩ := cutT_ok tq.pz
        have iVt := iV t ht'
        have ldt : ldn G H22.length (2 * t) 2 = some [uq, wq] := by
          rw [ldn_of (xG.get trivial g23), if_pos (by simp; omega), q1]
        have du := q2.cellsV
        have dw := q3.cellsV
        have stG := stz G uq wq (by omega)
        have pQ := pzz (q2.kp xG.kp) (q3.kp xG.kp)
        have xG1 : Kx (fun _ => True) G (G ++ [Blk.cells [uq, wq]]) := Kx.app _ _ _
        generalize hG1 : G ++ [Blk.cells [uq, wq]] = G1 at *
        simp (disch := (first | assumption | omega | (simp only [List.length_append, List.length_cons, List.length_nil]; omega))) only [↓wD,wU,Nat.reduceBEq,zx150,zx151,zx159,zx160,zx161,zx162,Nat.reduceAdd,Nat.reduceSub,Nat.reduceMul,Nat.reduceLeDiff,Nat.reduceLT,Nat.reduceEqDiff,Int.reduceAdd,Int.reduceSub,Int.reduceMul,Int.reduceNeg,Int.reduceLT,Int.reduceLE,Int.reduceEq,Int.reduceToNat,Int.cast_ofNat_Int,↓reduceIte, a9, a10, a11, a12, a13, a14, a112, a113, a114, iVt, ldt, du, dw, stG, ldn_of pQ.c]
        refine (of_ret pQ.x pQ.y).toX fun s1 G2 y1 hs1 => ?_
        obtain ⟨i1, j1, rfl, k1, l1⟩ := rv_pp_elim hs1
        simp only at k1 l1
        rw [eqx] at k1
        rw [eqy] at l1
        replace pQ := pQ.kx y1
        have c1 := hcnt tq k1 l1
        clear hs1
        simp (disch := (first | assumption | omega | (simp only [List.length_append, List.length_cons, List.length_nil]; omega))) only [↓wD,wU,Nat.reduceBEq,zx150,zx151,zx159,zx160,zx161,zx162,Nat.reduceAdd,Nat.reduceSub,Nat.reduceMul,Nat.reduceLeDiff,Nat.reduceLT,Nat.reduceEqDiff,Int.reduceAdd,Int.reduceSub,Int.reduceMul,Int.reduceNeg,Int.reduceLT,Int.reduceLE,Int.reduceEq,Int.reduceToNat,Int.cast_ofNat_Int,↓reduceIte, a9, a10, a11, a12, a13, a14, a112, a113, a114, c1.call, ldn_of pQ.c]
        refine (of_ret pQ.x pQ.y).toX fun s2 G3 y2 hs2 => ?_
        obtain ⟨i2, j2, rfl, k2, l2⟩ := rv_pp_elim hs2
        simp only at k2 l2
        rw [eqx] at k2
        rw [eqy] at l2
        replace pQ := pQ.kx y2
        have c2 := hfil tq k2 l2
        clear hs2
        simp (disch := (first | assumption | omega | (simp only [List.length_append, List.length_cons, List.length_nil]; omega))) only [↓wD,wU,Nat.reduceBEq,zx150,zx151,zx159,zx160,zx161,zx162,Nat.reduceAdd,Nat.reduceSub,Nat.reduceMul,Nat.reduceLeDiff,Nat.reduceLT,Nat.reduceEqDiff,Int.reduceAdd,Int.reduceSub,Int.reduceMul,Int.reduceNeg,Int.reduceLT,Int.reduceLE,Int.reduceEq,Int.reduceToNat,Int.cast_ofNat_Int,↓reduceIte, a9, a10, a11, a12, a13, a14, a112, a113, a114, c2.call, ldn_of pQ.c]
        refine (of_ret pQ.x pQ.y).toX fun s3 G4 y3 hs3 => ?_
        obtain ⟨i3, j3, rfl, k3, l3⟩ := rv_pp_elim hs3
        simp only at k3 l3
        rw [eqx] at k3
        rw [eqy] at l3
        have c3 := hT tq k3 l3
        clear hs3
        simp (disch := (first | assumption | omega | (simp only [List.length_append, List.length_cons, List.length_nil]; omega))) only [↓wD,wU,Nat.reduceBEq,zx150,zx151,zx159,zx160,zx161,zx162,Nat.reduceAdd,Nat.reduceSub,Nat.reduceMul,Nat.reduceLeDiff,Nat.reduceLT,Nat.reduceEqDiff,Int.reduceAdd,Int.reduceSub,Int.reduceMul,Int.reduceNeg,Int.reduceLT,Int.reduceLE,Int.reduceEq,Int.reduceToNat,Int.cast_ofNat_Int,↓reduceIte, a9, a10, a11, a12, a13, a14, a112, a113, a114, c3.call, hdn, hdF1, hdF2, hdT1, hdT2]
        refine (ih ht').go ?_
        simp (disch := (first | assumption | omega | (simp only [List.length_append, List.length_cons, List.length_nil]; omega))) only [↓wD,wU,Nat.reduceBEq,zx150,zx151,zx159,zx160,zx161,zx162,Nat.reduceAdd,Nat.reduceSub,Nat.reduceMul,Nat.reduceLeDiff,Nat.reduceLT,Nat.reduceEqDiff,Int.reduceAdd,Int.reduceSub,Int.reduceMul,Int.reduceNeg,Int.reduceLT,Int.reduceLE,Int.reduceEq,Int.reduceToNat,Int.cast_ofNat_Int,↓reduceIte, a9, a10, a11, a12, a13, a14, a112, a113, a114]
        exact ((((xG.trans xG1 fun _ _ _ => trivial).trans y1 fun _ _ _ => trivial).trans y2 fun _ _ _ => trivial).trans y3 fun _ _ _ => trivial)
      · simp (disch := (first | assumption | omega | (simp only [List.length_append, List.length_cons, List.length_nil]; omega))) only [↓wD,wU,Nat.reduceBEq,zx150,zx151,zx159,zx160,zx161,zx162,Nat.reduceAdd,Nat.reduceSub,Nat.reduceMul,Nat.reduceLeDiff,Nat.reduceLT,Nat.reduceEqDiff,Int.reduceAdd,Int.reduceSub,Int.reduceMul,Int.reduceNeg,Int.reduceLT,Int.reduceLE,Int.reduceEq,Int.reduceToNat,Int.cast_ofNat_Int,↓reduceIte, a9, a10, a11, a12, a13, a14, a112, a113, a114, awake_ret.call]
    · simp (disch := (first | assumption | omega | (simp only [List.length_append, List.length_cons, List.length_nil]; omega))) only [↓wD,wU,Nat.reduceBEq,zx150,zx151,zx159,zx160,zx161,zx162,Nat.reduceAdd,Nat.reduceSub,Nat.reduceMul,Nat.reduceLeDiff,Nat.reduceLT,Nat.reduceEqDiff,Int.reduceAdd,Int.reduceSub,Int.reduceMul,Int.reduceNeg,Int.reduceLT,Int.reduceLE,Int.reduceEq,Int.reduceToNat,Int.cast_ofNat_Int,↓reduceIte]
      exact ⟨eV, Kx.refl _ _⟩
  · have hP' : ¬ PuzP (cutT x) (cutT y) := fun q => hP (PuzP_cut.1 q)
    have st1 := stz H1 .nils .nils (by omega)
    have x2 : Kx (fun _ => True) H1 (H1 ++ [Blk.cells [.nils, .nils]]) := Kx.app _ _ _
    have n2 : (H1 ++ [Blk.cells [.nils, .nils]]).length = H1.length + 1 := by simp
    have g1 := p0.c
    replace p0 := p0.kx x2
    simp (disch := (first | assumption | omega | (simp only [List.length_append, List.length_cons, List.length_nil]; omega))) only [↓wD,wU,Nat.reduceBEq,zx150,zx151,zx159,zx160,zx161,zx162,Nat.reduceAdd,Nat.reduceSub,Nat.reduceMul,Nat.reduceLeDiff,Nat.reduceLT,Nat.reduceEqDiff,Int.reduceAdd,Int.reduceSub,Int.reduceMul,Int.reduceNeg,Int.reduceLT,Int.reduceLE,Int.reduceEq,Int.reduceToNat,Int.cast_ofNat_Int,↓reduceIte, (turn_err a1 b1 hP').call, st1, ldn_of g1]
    generalize hH2 : H1 ++ [Blk.cells [.nils, .nils]] = H2 at *
    refine (of_ret p0.x p0.y).toX fun r3 H3 x3 hr3 => ?_
    obtain ⟨u3, w3, rfl, a3, b3⟩ := rv_pp_elim hr3
    simp only at a3 b3
    have hl3 := x3.1
    have st3 := stz H3 .nils .nils (by omega)
    simp (disch := (first | assumption | omega | (simp only [List.length_append, List.length_cons, List.length_nil]; omega))) only [↓wD,wU,Nat.reduceBEq,zx150,zx151,zx159,zx160,zx161,zx162,Nat.reduceAdd,Nat.reduceSub,Nat.reduceMul,Nat.reduceLeDiff,Nat.reduceLT,Nat.reduceEqDiff,Int.reduceAdd,Int.reduceSub,Int.reduceMul,Int.reduceNeg,Int.reduceLT,Int.reduceLE,Int.reduceEq,Int.reduceToNat,Int.cast_ofNat_Int,↓reduceIte, (mirror_err a3 b3 hP').call, st3, awake_ret.call]
end Go.Proofs.YtjjndoigkhabdaaDoor
