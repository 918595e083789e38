/- What the law needs: what its functions do, and the laws on lists behind it. No condition. -/
import Derived.Test.YtmmbakggmlfffaaPt0
import Derived.Laws.StructEq
import Derived.KernelRfl
import Derived.WalkKit
import Derived.ProofKit
import Derived.OpenShut
import Derived.ShutString
import Derived.ChangeOld
import Derived.Below
import Derived.SizedLaws
import Derived.Carry
set_option linter.unusedSimpArgs false
set_option linter.unusedVariables false
namespace Go.Proofs.Ytmmbakggmlfffaa.A9
open Go Go.AM Go.Proofs
def rng (x n : Int) : List Int := (List.range (n - x).toNat).map fun i : Nat => x + (i : Int)
def sufs (r : Bool) (n : Int) : Nat → Int → List (List Int)
  | 0, _ => [[]]
  | t + 1, x => (rng x n).flatMap fun y => (sufs r n t (if r = true then y + 1 else 0)).map (y :: ·)
def frm (r : Bool) (l : List Int) : Int := if r = true ∧ 0 < l.length then gi l ((l.length : Int) - 1) + 1 else 0
theorem gi_last {l : List Int} {x : Int} : gi (l ++ [x]) (((l ++ [x]).length : Int) - 1) = x := by
  have e : (((l ++ [x]).length : Int) - 1) = ((l.length : Nat) : Int) := by simp
  rw [e, gi_nat (by simp)]; simp
theorem frm_app (r : Bool) (l : List Int) (x : Int) : frm r (l ++ [x]) = if r = true then x + 1 else 0 := by
  unfold frm
  rw [gi_last]
  cases r <;> simp
theorem rng_cons {x n : Int} (h : x < n) : rng x n = x :: rng (x + 1) n := by
  unfold rng
  have e : (n - x).toNat = (n - (x + 1)).toNat + 1 := by omega
  rw [e, List.range_succ_eq_map]
  simp only [List.map_cons, List.map_map]
  congr 1
  · simp
  · apply List.map_congr_left
    intro i _
    simp; omega
theorem rng_nil {x n : Int} (h : n ≤ x) : rng x n = [] := by
  unfold rng
  have e : (n - x).toNat = 0 := by omega
  rw [e]; rfl
/-- the items behind l, from x on -/
def rest (r : Bool) (n : Int) (t : Nat) (l : List Int) (x : Int) : List (List Int) := (rng x n).flatMap fun y => (sufs r n t (frm r (l ++ [y]))).map ((l ++ [y]) ++ ·)
theorem sufs_rest (r : Bool) (n : Int) (t : Nat) (l : List Int) : (sufs r n (t + 1) (frm r l)).map (l ++ ·) = rest r n t l (frm r l) := by
  simp only [sufs, rest, List.map_flatMap, List.map_map, frm_app]
  congr 1
  funext y
  apply List.map_congr_left
  intro s _
  simp
theorem rest_cons {r : Bool} {n : Int} {t : Nat} {l : List Int} {x : Int} (h : x < n) : rest r n t l x = (sufs r n t (frm r (l ++ [x]))).map ((l ++ [x]) ++ ·) ++ rest r n t l (x + 1) := by
  unfold rest; rw [rng_cons h]; rfl
theorem rest_nil {r : Bool} {n : Int} {t : Nat} {l : List Int} {x : Int} (h : n ≤ x) : rest r n t l x = [] := by
  unfold rest; rw [rng_nil h]; rfl
/-- what grow reads: its variables -/
structure Vars (K : Nat → Prop) (H : Heap) (y : AV) (r : Bool) (n t : Int) (bt bY br bn bg : Nat) : Prop where
  t : H[bt]? = some (.cells [.i t]) ∧ ¬ K bt
  y : H[bY]? = some (.cells [y]) ∧ ¬ K bY
  r : H[br]? = some (.cells [.b r]) ∧ ¬ K br
  n : H[bn]? = some (.cells [.i n]) ∧ ¬ K bn
  g : H[bg]? = some (.cells [.fn 63 [] [.p bt 0, .p bY 0, .p br 0, .p bn 0, .p bg 0]]) ∧ ¬ K bg
theorem Vars.mono {K K' : Nat → Prop} {H H' : Heap} {y : AV} {r : Bool} {n t : Int} {bt bY br bn bg : Nat} (h : Vars K H y r n t bt bY br bn bg) (hk : Kx (fun b => ¬ K b) H H') (hK : ∀ b, b < H.length → K' b → K b) : Vars K' H' y r n t bt bY br bn bg :=
  ⟨⟨hk.get h.t.2 h.t.1, fun q => h.t.2 (hK _ (List.getElem?_eq_some_iff.1 h.t.1).1 q)⟩, ⟨hk.get h.y.2 h.y.1, fun q => h.y.2 (hK _ (List.getElem?_eq_some_iff.1 h.y.1).1 q)⟩, ⟨hk.get h.r.2 h.r.1, fun q => h.r.2 (hK _ (List.getElem?_eq_some_iff.1 h.r.1).1 q)⟩, ⟨hk.get h.n.2 h.n.1, fun q => h.n.2 (hK _ (List.getElem?_eq_some_iff.1 h.n.1).1 q)⟩, ⟨hk.get h.g.2 h.g.1, fun q => h.g.2 (hK _ (List.getElem?_eq_some_iff.1 h.g.1).1 q)⟩⟩
theorem grow_ok {lo B : Nat} {y : AV} {r : Bool} {n : Int} {t : Nat} {bt bY br bn bg : Nat} (hlo : lo ≤ B) (ht : t ≤ 1000000) (hn : n ≤ 1000000) :
    ∀ (m : Nat) (l : List Int) (v : AV) (K : Nat → Prop) (H : Heap) (Q : Bool → (Nat → Prop) → Heap → Prop), l.length + m = t → (∀ x ∈ l, 0 ≤ x ∧ x < n) → Vars K H y r n t bt bY br bn bg → Sl (fun b => B ≤ b ∧ ¬ K b) H v l → (∀ b, K b → b < H.length) → B ≤ H.length →
      Its E lo y B ArgI Q ((sufs r n m (frm r l)).map (l ++ ·)) K H →
      WpF E lo 63 [v, .p bt 0, .p bY 0, .p br 0, .p bn 0, .p bg 0] H fun u H' => ∃ ok K', u = .b ok ∧ Q ok K' H' ∧ Kx (fun b => ¬ K b ∧ v.blk ≠ some b) H H' ∧ ∀ b, K' b → b < H'.length ∧ (b < H.length → K b ∨ v.blk = some b) := by
  intro m
  induction m with
  | zero =>
    intro l v K H Q hl hb hv hs hK hB hI
    refine WpF.wrt rfl fn63 rfl ?_
    unfold f63A
    have e : (l.length : Int) = t := by omega
    simp (disch := (first | assumption | omega | (simp only [List.length_append, List.length_cons, List.length_nil]; omega))) only [↓wD,wU,Nat.reduceBEq,zx150,zx151,zx159,zx160,zx161,zx162,Nat.reduceAdd,Nat.reduceSub,Nat.reduceMul,Nat.reduceLeDiff,Nat.reduceLT,Nat.reduceEqDiff,Int.reduceAdd,Int.reduceSub,Int.reduceMul,Int.reduceNeg,Int.reduceLT,Int.reduceLE,Int.reduceEq,Int.reduceToNat,Int.cast_ofNat_Int,↓reduceIte, *, hs.I, ld_of hv.t.1, ld_of hv.y.1]
    refine callvI ((hI H (fun b => v.blk = some b) [v] (Kx.refl _ _) ⟨v, rfl, ?_⟩ ?_).mono ?_)
    · simp only [List.append_nil]; exact hs.own
    · exact fun b e => ⟨(hs.blkp e).1.1, (hs.blkp e).2, (hs.blkp e).1.2⟩
    · rintro u H2 ⟨hx, hc⟩
      rcases hc with ⟨rfl, hc⟩ | ⟨rfl, hc⟩
      · simp (disch := (first | assumption | omega | (simp only [List.length_append, List.length_cons, List.length_nil]; omega))) only [↓wD,wU,Nat.reduceBEq,zx150,zx151,zx159,zx160,zx161,zx162,Nat.reduceAdd,Nat.reduceSub,Nat.reduceMul,Nat.reduceLeDiff,Nat.reduceLT,Nat.reduceEqDiff,Int.reduceAdd,Int.reduceSub,Int.reduceMul,Int.reduceNeg,Int.reduceLT,Int.reduceLE,Int.reduceEq,Int.reduceToNat,Int.cast_ofNat_Int,↓reduceIte, *]
        refine ⟨true, _, rfl, Its.none hc, hx.weak fun b _ h q => q.elim h.1 h.2, ?_⟩
        rintro b (h | h | h)
        · exact ⟨by have := hK b h; have := hx.1; omega, fun _ => .inl h⟩
        · exact ⟨by have := (hs.blkp h).2; have := hx.1; omega, fun _ => .inr h⟩
        · exact ⟨h.2, fun q => by omega⟩
      · simp (disch := (first | assumption | omega | (simp only [List.length_append, List.length_cons, List.length_nil]; omega))) only [↓wD,wU,Nat.reduceBEq,zx150,zx151,zx159,zx160,zx161,zx162,Nat.reduceAdd,Nat.reduceSub,Nat.reduceMul,Nat.reduceLeDiff,Nat.reduceLT,Nat.reduceEqDiff,Int.reduceAdd,Int.reduceSub,Int.reduceMul,Int.reduceNeg,Int.reduceLT,Int.reduceLE,Int.reduceEq,Int.reduceToNat,Int.cast_ofNat_Int,↓reduceIte, *]
        refine ⟨false, _, rfl, hc _ (Kx.refl _ _), hx.weak fun b _ h q => q.elim h.1 h.2, ?_⟩
        rintro b (h | h | h)
        · exact ⟨by have := hK b h; have := hx.1; omega, fun _ => .inl h⟩
        · exact ⟨by have := (hs.blkp h).2; have := hx.1; omega, fun _ => .inr h⟩
        · exact ⟨h.2, fun q => by omega⟩
  | succ m ihm =>
    intro l v K H Q hl hb hv hs hK hB hI
    refine WpF.wrt rfl fn63 rfl ?_
    unfold f63A
    have e : ¬ (l.length : Int) = t := by omega
    rw [sufs_rest] at hI
    obtain ⟨x0, hx0⟩ : ∃ x0, frm r l = x0 := ⟨_, rfl⟩
    rw [hx0] at hI
    have hg : 0 ≤ x0 ∧ x0 ≤ 1000000 ∧ ((r = false ∧ x0 ≤ 0) ∨ (r = true ∧ l.length ≤ 0 ∧ x0 ≤ 0) ∨ (r = true ∧ 0 < l.length ∧ 0 ≤ gi l ((l.length : Int) - 1) ∧ gi l ((l.length : Int) - 1) < n ∧ x0 ≤ gi l ((l.length : Int) - 1) + 1 ∧ gi l ((l.length : Int) - 1) + 1 ≤ x0)) := by
      subst hx0
      cases r
      · simp [frm]
      · by_cases h0 : l.length = 0
        · simp [frm, h0]
        · have := hb _ (gi_mem (xs := l) (k := (l.length : Int) - 1) (by omega) (by omega))
          have e : frm true l = gi l ((l.length : Int) - 1) + 1 := by unfold frm; rw [if_pos ⟨rfl, by omega⟩]
          rw [e]
          exact ⟨by omega, by omega, .inr (.inr ⟨rfl, by omega, this.1, this.2, Int.le_refl _, Int.le_refl _⟩)⟩
    clear hx0
    have hln := hs.bound
    obtain ⟨f1, f2, hg⟩ := hg
    rcases hg with ⟨hr, g1⟩ | ⟨hr, g1, g2⟩ | ⟨hr, g1, g2, g3, g4, g5⟩
    all_goals simp (disch := (first | assumption | omega | (simp only [List.length_append, List.length_cons, List.length_nil]; omega))) only [↓wD,wU,Nat.reduceBEq,zx150,zx151,zx159,zx160,zx161,zx162,Nat.reduceAdd,Nat.reduceSub,Nat.reduceMul,Nat.reduceLeDiff,Nat.reduceLT,Nat.reduceEqDiff,Int.reduceAdd,Int.reduceSub,Int.reduceMul,Int.reduceNeg,Int.reduceLT,Int.reduceLE,Int.reduceEq,Int.reduceToNat,Int.cast_ofNat_Int,↓reduceIte, *, hs.I, ld_of hv.t.1, ld_of hv.y.1, ld_of hv.r.1]
    all_goals clear hr
    all_goals
      refine Wp.for (n - x0).toNat (fun i a H1 => a 0 = v ∧ a 1 = .p bt 0 ∧ a 2 = .p bY 0 ∧ a 3 = .p br 0 ∧ a 4 = .p bn 0 ∧ a 5 = .p bg 0 ∧ (∃ x, a 9 = .i x ∧ x ≤ x0 + i ∧ x0 + i ≤ x) ∧ ∃ K1, Its E lo y B ArgI Q (rest r n m l (x0 + i)) K1 H1 ∧ Kx (fun b => ¬ K b) H H1 ∧ ∀ b, K1 b → b < H1.length ∧ (b < H.length → K b)) ?_ ?_
      · rintro i a H1 hi ⟨a0, a1, a2, a3, a4, a5, ⟨x, a9, hxa, hxb⟩, K1, hI1, hx1, hK1⟩ ih
        rw [Int.le_antisymm hxb hxa] at hI1
        have hv1 := hv.mono hx1 fun b h q => (hK1 b q).2 h
        have hs1 : Sl (fun b => B ≤ b ∧ ¬ K1 b) H1 v l := (hs.low.mono (hx1.weak fun b _ h => h.1.2).kp fun b h => ⟨h.1.1, fun q => h.1.2 ((hK1 b q).2 h.2)⟩)
        simp (disch := (first | assumption | omega | (simp only [List.length_append, List.length_cons, List.length_nil]; omega))) only [↓wD,wU,Nat.reduceBEq,zx150,zx151,zx159,zx160,zx161,zx162,Nat.reduceAdd,Nat.reduceSub,Nat.reduceMul,Nat.reduceLeDiff,Nat.reduceLT,Nat.reduceEqDiff,Int.reduceAdd,Int.reduceSub,Int.reduceMul,Int.reduceNeg,Int.reduceLT,Int.reduceLE,Int.reduceEq,Int.reduceToNat,Int.cast_ofNat_Int,↓reduceIte, *, ld_of hv1.n.1]
        refine condP_split (fun hlt => ?_) (fun hlt => ?_)
        · have hi' : i < (n - x0).toNat := by omega
          obtain ⟨u, hu1, hu2⟩ := hs1.clip (by omega)
          rw [rest_cons hlt] at hI1
          have hI2 := Its.append hI1
          simp (disch := (first | assumption | omega | (simp only [List.length_append, List.length_cons, List.length_nil]; omega))) only [↓wD,wU,Nat.reduceBEq,zx150,zx151,zx159,zx160,zx161,zx162,Nat.reduceAdd,Nat.reduceSub,Nat.reduceMul,Nat.reduceLeDiff,Nat.reduceLT,Nat.reduceEqDiff,Int.reduceAdd,Int.reduceSub,Int.reduceMul,Int.reduceNeg,Int.reduceLT,Int.reduceLE,Int.reduceEq,Int.reduceToNat,Int.cast_ofNat_Int,↓reduceIte, *]
          refine lpI (wpC ?_)
          simp (disch := (first | assumption | omega | (simp only [List.length_append, List.length_cons, List.length_nil]; omega))) only [↓wD,wU,Nat.reduceBEq,zx150,zx151,zx159,zx160,zx161,zx162,Nat.reduceAdd,Nat.reduceSub,Nat.reduceMul,Nat.reduceLeDiff,Nat.reduceLT,Nat.reduceEqDiff,Int.reduceAdd,Int.reduceSub,Int.reduceMul,Int.reduceNeg,Int.reduceLT,Int.reduceLE,Int.reduceEq,Int.reduceToNat,Int.cast_ofNat_Int,↓reduceIte, *, hs1.I, ld_of hv1.g.1, hu1 _ (.inl rfl), hu2 lo H1.length _ rfl]
          have e1 : (l ++ [x]).length = l.length + 1 := by simp
          have hv2 : Vars K1 (H1 ++ [Blk.cells [AV.i x], Blk.cells (List.map AV.i (l ++ [x]))]) y r n t bt bY br bn bg := hv1.mono (Kx.app _ _ _) fun _ _ h => h
          have hs2 : Sl (fun b => B ≤ b ∧ ¬ K1 b) (H1 ++ [Blk.cells [AV.i x], Blk.cells (List.map AV.i (l ++ [x]))]) (.s 1 (H1.length + 1) 0 (l.length + 1) none) (l ++ [x]) := by
            have hh1 := hx1.1
            have := Sl.litI (p := fun b => B ≤ b ∧ ¬ K1 b) (H := H1 ++ [Blk.cells [AV.i x], Blk.cells (List.map AV.i (l ++ [x]))]) (b := H1.length + 1) (c := none) (xs := l ++ [x]) (by simp) ⟨by omega, fun q => by have := (hK1 _ q).1; omega⟩ (by rw [e1]; omega)
            rwa [e1] at this
          refine callvI (WpV.fn (us := []) (vs := [_]) ((ihm (l ++ [x]) _ K1 _ _ (by rw [e1]; omega) ?_ hv2 hs2 (fun b q => by have := (hK1 b q).1; simp; omega) (by have := hx1.1; simp; omega) (hI2.keep (Kx.app _ _ _))).mono ?_))
          · intro z hz
            rcases List.mem_append.1 hz with hz | hz
            · exact hb z hz
            · simp at hz; subst hz; omega
          · rintro u' H' ⟨ok, K', rfl, hq, hx3, hK3⟩
            simp (disch := (first | assumption | omega | (simp only [List.length_append, List.length_cons, List.length_nil]; omega))) only [↓wD,wU,Nat.reduceBEq,zx150,zx151,zx159,zx160,zx161,zx162,Nat.reduceAdd,Nat.reduceSub,Nat.reduceMul,Nat.reduceLeDiff,Nat.reduceLT,Nat.reduceEqDiff,Int.reduceAdd,Int.reduceSub,Int.reduceMul,Int.reduceNeg,Int.reduceLT,Int.reduceLE,Int.reduceEq,Int.reduceToNat,Int.cast_ofNat_Int,↓reduceIte, *]
            refine chkI ?_ ?_
            · have q1 : (H1 ++ [Blk.cells [AV.i x]])[bg]? = _ := (Kx.app (fun _ => True) _ _).get trivial hv1.g.1
              have q2 : (H1 ++ [Blk.cells [AV.i x], Blk.cells (List.map AV.i l ++ [AV.i x])])[bg]? = _ := (Kx.app (fun _ => True) _ _).get trivial hv1.g.1
              simp [chk1, ev, Fr.upd, a5, ld_of q1, ld_of q2, sameO, AV.same_refl]
            · have hx2 : Kx (fun b => ¬ K b) H H' := by
                refine (hx1.app' [Blk.cells [AV.i x], Blk.cells (List.map AV.i (l ++ [x]))]).trans hx3 fun b hb h => ⟨fun q => h ((hK1 b q).2 hb), ?_⟩
                have hh1 := hx1.1
                intro e
                simp only [AV.blk, Option.some.injEq] at e
                omega
              have hK2 : ∀ b, K' b → b < H'.length ∧ (b < H.length → K b) := fun b q => ⟨(hK3 b q).1, fun hb => by
                have hh1 := hx1.1
                rcases (hK3 b q).2 (by simp only [List.length_append]; omega) with h | h
                · exact (hK1 b h).2 hb
                · simp only [AV.blk, Option.some.injEq] at h; omega⟩
              cases ok with
              | true =>
                simp (disch := (first | assumption | omega | (simp only [List.length_append, List.length_cons, List.length_nil]; omega))) only [↓wD,wU,Nat.reduceBEq,zx150,zx151,zx159,zx160,zx161,zx162,Nat.reduceAdd,Nat.reduceSub,Nat.reduceMul,Nat.reduceLeDiff,Nat.reduceLT,Nat.reduceEqDiff,Int.reduceAdd,Int.reduceSub,Int.reduceMul,Int.reduceNeg,Int.reduceLT,Int.reduceLE,Int.reduceEq,Int.reduceToNat,Int.cast_ofNat_Int,↓reduceIte, *]
                refine (ih hi').go ?_
                simp (disch := (first | assumption | omega | (simp only [List.length_append, List.length_cons, List.length_nil]; omega))) only [↓wD,wU,Nat.reduceBEq,zx150,zx151,zx159,zx160,zx161,zx162,Nat.reduceAdd,Nat.reduceSub,Nat.reduceMul,Nat.reduceLeDiff,Nat.reduceLT,Nat.reduceEqDiff,Int.reduceAdd,Int.reduceSub,Int.reduceMul,Int.reduceNeg,Int.reduceLT,Int.reduceLE,Int.reduceEq,Int.reduceToNat,Int.cast_ofNat_Int,↓reduceIte, *]
                exact ⟨⟨x + 1, rfl, by omega, by omega⟩, K', by rw [show x0 + ((i : Int) + 1) = x + 1 by omega]; exact hq.1 rfl, hK2⟩
              | false =>
                simp (disch := (first | assumption | omega | (simp only [List.length_append, List.length_cons, List.length_nil]; omega))) only [↓wD,wU,Nat.reduceBEq,zx150,zx151,zx159,zx160,zx161,zx162,Nat.reduceAdd,Nat.reduceSub,Nat.reduceMul,Nat.reduceLeDiff,Nat.reduceLT,Nat.reduceEqDiff,Int.reduceAdd,Int.reduceSub,Int.reduceMul,Int.reduceNeg,Int.reduceLT,Int.reduceLE,Int.reduceEq,Int.reduceToNat,Int.cast_ofNat_Int,↓reduceIte, *]
                exact ⟨false, K', rfl, hq.2 rfl, hx2.weak fun _ _ h => h.1, fun b q => ⟨(hK2 b q).1, fun hb => .inl ((hK2 b q).2 hb)⟩⟩
        · simp (disch := (first | assumption | omega | (simp only [List.length_append, List.length_cons, List.length_nil]; omega))) only [↓wD,wU,Nat.reduceBEq,zx150,zx151,zx159,zx160,zx161,zx162,Nat.reduceAdd,Nat.reduceSub,Nat.reduceMul,Nat.reduceLeDiff,Nat.reduceLT,Nat.reduceEqDiff,Int.reduceAdd,Int.reduceSub,Int.reduceMul,Int.reduceNeg,Int.reduceLT,Int.reduceLE,Int.reduceEq,Int.reduceToNat,Int.cast_ofNat_Int,↓reduceIte, *]
          rw [rest_nil (by omega)] at hI1
          exact ⟨true, K1, rfl, Its.none hI1, hx1.weak fun _ _ h => h.1, fun b q => ⟨(hK1 b q).1, fun hb => .inl ((hK1 b q).2 hb)⟩⟩
      · simp (disch := (first | assumption | omega | (simp only [List.length_append, List.length_cons, List.length_nil]; omega))) only [↓wD,wU,Nat.reduceBEq,zx150,zx151,zx159,zx160,zx161,zx162,Nat.reduceAdd,Nat.reduceSub,Nat.reduceMul,Nat.reduceLeDiff,Nat.reduceLT,Nat.reduceEqDiff,Int.reduceAdd,Int.reduceSub,Int.reduceMul,Int.reduceNeg,Int.reduceLT,Int.reduceLE,Int.reduceEq,Int.reduceToNat,Int.cast_ofNat_Int,↓reduceIte, *]
        rw [show x0 + 0 = x0 by omega]
        exact ⟨⟨_, rfl, by omega, by omega⟩, K, hI, Kx.refl _ _, fun b q => ⟨hK b q, fun _ => q⟩⟩
theorem tuples_it {lo : Nat} {y : AV} {r : Bool} {n : Int} {t : Nat} {bt br bn : Nat} {K : Nat → Prop} {H : Heap} {Q : Bool → (Nat → Prop) → Heap → Prop} (hlo : lo ≤ H.length) (ht : t ≤ 1000000) (hn : n ≤ 1000000) (hy : y.cells = [y] ∧ y.one = true)
    (h1 : H[bt]? = some (.cells [.i t]) ∧ ¬ K bt) (h2 : H[br]? = some (.cells [.b r]) ∧ ¬ K br) (h3 : H[bn]? = some (.cells [.i n]) ∧ ¬ K bn) (hK : ∀ b, K b → b < H.length)
    (hI : Its E lo y H.length ArgI Q (sufs r n t 0) K H) : WpF E lo 62 [y, .p bt 0, .p br 0, .p bn 0] H fun _ H' => ∃ ok K', Q ok K' H' := by
  refine WpF.wrt rfl fn62 rfl ?_
  unfold f62A
  simp (disch := (first | assumption | omega | (simp only [List.length_append, List.length_cons, List.length_nil]; omega))) only [↓wD,wU,Nat.reduceBEq,zx150,zx151,zx159,zx160,zx161,zx162,Nat.reduceAdd,Nat.reduceSub,Nat.reduceMul,Nat.reduceLeDiff,Nat.reduceLT,Nat.reduceEqDiff,Int.reduceAdd,Int.reduceSub,Int.reduceMul,Int.reduceNeg,Int.reduceLT,Int.reduceLE,Int.reduceEq,Int.reduceToNat,Int.cast_ofNat_Int,↓reduceIte, *]
  have hx : Kx (fun _ => True) H (H ++ [Blk.cells [y]] ++ [Blk.cells [AV.fn 63 [] [AV.p bt 0, AV.p (List.length H) 0, AV.p br 0, AV.p bn 0, AV.p (List.length H + 1) 0]]]) := (Kx.app _ _ _).app' _
  have hv : Vars K _ y r n t bt H.length br bn (H.length + 1) := ⟨⟨hx.get trivial h1.1, h1.2⟩, ⟨by simp, fun q => by have := hK _ q; omega⟩, ⟨hx.get trivial h2.1, h2.2⟩, ⟨hx.get trivial h3.1, h3.2⟩, ⟨by simp, fun q => by have := hK _ q; omega⟩⟩
  refine callvI (WpV.fn (us := []) (vs := [_]) ((grow_ok hlo ht hn t [] .nils K _ Q (by simp) nofun hv Sl.nil (fun b q => by have := hK b q; simp; omega) (by simp) ?_).mono ?_))
  · have e : (sufs r n t (frm r [])).map ([] ++ ·) = sufs r n t 0 := by
      rw [show frm r [] = 0 by simp [frm]]
      simp
    rw [e]
    exact hI.keep (hx.weak fun _ _ _ => trivial)
  · rintro u H' ⟨ok, K', rfl, hq, _⟩
    simp (disch := (first | assumption | omega | (simp only [List.length_append, List.length_cons, List.length_nil]; omega))) only [↓wD,wU,Nat.reduceBEq,zx150,zx151,zx159,zx160,zx161,zx162,Nat.reduceAdd,Nat.reduceSub,Nat.reduceMul,Nat.reduceLeDiff,Nat.reduceLT,Nat.reduceEqDiff,Int.reduceAdd,Int.reduceSub,Int.reduceMul,Int.reduceNeg,Int.reduceLT,Int.reduceLE,Int.reduceEq,Int.reduceToNat,Int.cast_ofNat_Int,↓reduceIte, *]
    exact ⟨ok, K', hq⟩
/-- what tuples returns -/
structure Tup where
  r : Bool
  n : Int
  t : Int
instance : RV Tup where
  rv p H v x := ∃ bt br bn, v = .fn 62 [] [.p bt 0, .p br 0, .p bn 0] ∧ (p bt ∧ p br ∧ p bn) ∧ H[bt]? = some (.cells [.i x.t]) ∧ H[br]? = some (.cells [.b x.r]) ∧ H[bn]? = some (.cells [.i x.n])
  mono := by
    rintro p q H H' v x ⟨bt, br, bn, rfl, hp, h1, h2, h3⟩ hk hq
    exact ⟨bt, br, bn, rfl, ⟨hq _ hp.1, hq _ hp.2.1, hq _ hp.2.2⟩, hk.2 _ _ hp.1 h1, hk.2 _ _ hp.2.1 h2, hk.2 _ _ hp.2.2 h3⟩
  pure := by
    rintro p q H H' v x ⟨bt, br, bn, rfl, _⟩ hp
    simp [AV.pure, AV.pureAll] at hp
theorem tuples_ret {H : Heap} {t n : Int} {r : Bool} : Ret E 57 [.i t, .i n, .b r] (fun _ => False) H (Tup.mk r n t) := by
  refine Ret.ro rfl fn57 rfl ?_
  unfold f57A
  simp (disch := (first | assumption | omega | (simp only [List.length_append, List.length_cons, List.length_nil]; omega))) only [↓wD,wU,Nat.reduceBEq,zx150,zx151,zx159,zx160,zx161,zx162,Nat.reduceAdd,Nat.reduceSub,Nat.reduceMul,Nat.reduceLeDiff,Nat.reduceLT,Nat.reduceEqDiff,Int.reduceAdd,Int.reduceSub,Int.reduceMul,Int.reduceNeg,Int.reduceLT,Int.reduceLE,Int.reduceEq,Int.reduceToNat,Int.cast_ofNat_Int,↓reduceIte, *]
  refine ⟨_, _, _, rfl, ?_, ?_⟩
  · simp; omega
  · refine ⟨by simp, ?_, by simp⟩
    rw [List.getElem?_append_right (by simp)]
    simp
end Go.Proofs.Ytmmbakggmlfffaa.A9
namespace Go.Proofs.Ytmmbakggmlfffaa.A9
open Go Go.AM Go.Proofs
/-- an item of all: a place, and how often it comes -/
def ArgA (Ki : Nat → Prop) (H : Heap) (args : List AV) (x : List Int × Nat) : Prop := ∃ u, args = [u, .i x.2] ∧ Sl Ki H u x.1
def allC (v : Int) (t : List (List Int)) (k : Nat) (cs : List Int) : List (List Int × Nat) := (sufs false v k 0).map fun ks => (cs ++ ks, oft t cs ks)
def allL (v : Int) (t : List (List Int)) (k : Nat) : List (List Int × Nat) := (sufs true (wd t) k 0).flatMap (allC v t k)
theorem rng_mem {x n y : Int} (h : y ∈ rng x n) : x ≤ y ∧ y < n := by
  simp only [rng, List.mem_map, List.mem_range] at h
  obtain ⟨i, hi, rfl⟩ := h
  omega
theorem sufs_len {r : Bool} {n : Int} : ∀ {t : Nat} {x : Int} {s : List Int}, s ∈ sufs r n t x → s.length = t
  | 0, x, s, h => by simp [sufs] at h; subst h; rfl
  | t + 1, x, s, h => by
    simp only [sufs, List.mem_flatMap, List.mem_map] at h
    obtain ⟨y, _, z, hz, rfl⟩ := h
    simp [sufs_len hz]
theorem sufs_in {r : Bool} {n : Int} : ∀ {t : Nat} {x : Int} {s : List Int}, 0 ≤ x → s ∈ sufs r n t x → ∀ c ∈ s, 0 ≤ c ∧ c < n
  | 0, x, s, _, h => by simp [sufs] at h; subst h; nofun
  | t + 1, x, s, hx, h => by
    simp only [sufs, List.mem_flatMap, List.mem_map] at h
    obtain ⟨y, hy, z, hz, rfl⟩ := h
    have h1 := rng_mem hy
    intro c hc
    rcases List.mem_cons.1 hc with rfl | hc
    · omega
    · exact sufs_in (by split <;> omega) hz c hc
theorem gset {b : Nat} {H H2 : Heap} {k k' : Blk} (e : H.set b k = H2) (h : H[b]? = some k') : H2[b]? = some k := by rw [← e]; exact get_set h
theorem all_it {lo : Nat} {y rows : AV} {v : Int} {t : List (List Int)} {k bt ba : Nat} {K : Nat → Prop} {H : Heap} {Q : Bool → (Nat → Prop) → Heap → Prop} (hlo : lo ≤ H.length) (hy : y.cells = [y] ∧ y.one = true)
    (h1 : H[bt]? = some (.cells [.i k]) ∧ ¬ K bt) (h2 : H[ba]? = some (.cells [.i v, rows]) ∧ ¬ K ba) (hr : Sl (fun b => ¬ K b) H rows t) (hA : ArrP v t) (hk : k ≤ 3) (hK : ∀ b, K b → b < H.length)
    (hI : Its E lo y H.length ArgA Q (allL v t k) K H) : WpF E lo 56 [y, .p bt 0, .p ba 0] H fun _ H' => ∃ ok K', Q ok K' H' := by
  refine WpF.wrt rfl fn56 rfl ?_
  unfold f56A
  have hwd := hA.wd
  have hv1 := hA.1
  have hv2 := hA.2.1
  have x1 : Kx (fun _ => True) H (H ++ [.cells [y]]) := Kx.app _ _ _
  have hr1 := hr.app [.cells [y]]
  simp (disch := (first | assumption | omega | (simp only [List.length_append, List.length_cons, List.length_nil]; omega))) only [↓wD,wU,Nat.reduceBEq,zx150,zx151,zx159,zx160,zx161,zx162,Nat.reduceAdd,Nat.reduceSub,Nat.reduceMul,Nat.reduceLeDiff,Nat.reduceLT,Nat.reduceEqDiff,Int.reduceAdd,Int.reduceSub,Int.reduceMul,Int.reduceNeg,Int.reduceLT,Int.reduceLE,Int.reduceEq,Int.reduceToNat,Int.cast_ofNat_Int,↓reduceIte, *, ld_of (x1.get trivial h1.1), ldn_of (x1.get trivial h2.1), (columns_ret hr1 hA.2.2.1).call]
  refine (tuples_ret).toX fun w Hr hg hw => ?_
  obtain ⟨b1, b2, b3, rfl, hp, c1, c2, c3⟩ := hw
  have hp1 : H.length < b1 := by have := hp.1; simp at this; omega
  have hp2 : H.length < b2 := by have := hp.2.1; simp at this; omega
  have hp3 : H.length < b3 := by have := hp.2.2; simp at this; omega
  clear hp
  have x2 : Kx (fun _ => True) H Hr := x1.trans hg fun _ _ _ => trivial
  have d1 := x2.get trivial h1.1
  have d2 := x2.get trivial h2.1
  have d3 : Hr[H.length]? = some (.cells [y]) := hg.get trivial (by simp)
  have hHr : H.length < Hr.length := (List.getElem?_eq_some_iff.1 d3).1
  have hr2 : Sl (fun b => b < H.length ∧ ¬ K b) Hr rows t := (hr.low.weak fun b h => ⟨h.2, h.1⟩).kp x2.kp.weakT
  clear hg hr1 x1
  simp (disch := (first | assumption | omega | (simp only [List.length_append, List.length_cons, List.length_nil]; omega))) only [↓wD,wU,Nat.reduceBEq,zx150,zx151,zx159,zx160,zx161,zx162,Nat.reduceAdd,Nat.reduceSub,Nat.reduceMul,Nat.reduceLeDiff,Nat.reduceLT,Nat.reduceEqDiff,Int.reduceAdd,Int.reduceSub,Int.reduceMul,Int.reduceNeg,Int.reduceLT,Int.reduceLE,Int.reduceEq,Int.reduceToNat,Int.cast_ofNat_Int,↓reduceIte, *]
  refine Wp.range (A := ArgI) (sufs true (wd t) k 0) K (fun i K1 H1 => ∃ Kc, Its E lo y H.length ArgA Q (((sufs true (wd t) k 0).drop i).flatMap (allC v t k)) Kc H1 ∧ ∀ b, Kc b → K1 b ∧ (b < Hr.length → K b))
    (fun j K1 H1 => j = .ret ∧ ∃ Kc, (∀ b, Kc b → K1 b) ∧ ∀ H3, Kx (fun b => b < H.length ∨ Kc b) H1 H3 → Q false Kc H3) (by (simp (disch := (first | assumption | omega | (simp only [List.length_append, List.length_cons, List.length_nil]; omega))) only [↓wD,wU,Nat.reduceBEq,zx150,zx151,zx159,zx160,zx161,zx162,Nat.reduceAdd,Nat.reduceSub,Nat.reduceMul,Nat.reduceLeDiff,Nat.reduceLT,Nat.reduceEqDiff,Int.reduceAdd,Int.reduceSub,Int.reduceMul,Int.reduceNeg,Int.reduceLT,Int.reduceLE,Int.reduceEq,Int.reduceToNat,Int.cast_ofNat_Int,↓reduceIte, *]) <;> rfl) rfl (by omega) (fun b h => by have := hK b h; omega) (by rintro _ _ _ _ ⟨u, rfl, _⟩; rfl) ?_ ?_ ?_ ?_ ?_ ?_ ?_
  · intro K' H1 Q' e hx hK' hI
    rw [← e] at hI
    have hne : ∀ b, H.length < b → b < Hr.length → ¬ K' b := fun b q1 q2 h => by
      rcases (hK' b).1 h with h | h
      · have := hK b h; omega
      · omega
    exact tuples_it (t := k) (n := (wd t : Int)) (by omega) (by omega) (by omega) ⟨rfl, rfl⟩ ⟨hx.get trivial c1, hne _ hp1 (List.getElem?_eq_some_iff.1 c1).1⟩ ⟨hx.get trivial c2, hne _ hp2 (List.getElem?_eq_some_iff.1 c2).1⟩ ⟨hx.get trivial c3, hne _ hp3 (List.getElem?_eq_some_iff.1 c3).1⟩ (fun b h => by
      rcases (hK' b).1 h with h | h
      · have := hK b h; omega
      · omega) hI
  · rintro i K1 H1 H2 ⟨Kc, q1, q2⟩ hx
    exact ⟨Kc, q1.keep (hx.weak fun b _ h => h.elim (fun h => .inl (by omega)) fun h => .inr (q2 b h).1), q2⟩
  · rintro j K1 H1 H2 ⟨rfl, Kc, q0, q1⟩ hx
    exact ⟨rfl, Kc, q0, fun H3 h3 => q1 H3 ((hx.weak fun b _ h => h.elim (fun h => .inl (by omega)) fun h => .inr (q0 b h)).trans h3 fun _ _ h => h)⟩
  · exact ⟨K, hI.keep (x2.all _), fun b h => ⟨h, fun _ => h⟩⟩
  · rintro i hi K1 Ki args H1 ⟨Kc, q1, q2⟩ ⟨cu, rfl, hcu⟩ hKi hK1 hx hl hl1 _
    rw [List.drop_eq_getElem_cons hi, List.flatMap_cons] at q1
    have q1' := Its.append q1
    clear q1
    have hcl := sufs_len (List.getElem_mem hi)
    have hcb := sufs_in (Int.le_refl 0) (List.getElem_mem hi)
    obtain ⟨cs, ecs⟩ : ∃ cs, (sufs true (wd t) k 0)[i] = cs := ⟨_, rfl⟩
    rw [ecs] at hcl hcb q1' hcu
    have f1 := hx.get ⟨(List.getElem?_eq_some_iff.1 d1).1, h1.2⟩ d1
    have f2 := hx.get ⟨(List.getElem?_eq_some_iff.1 d2).1, h2.2⟩ d2
    have f3 := hx.get ⟨hHr, fun q => by have := hK _ q; omega⟩ d3
    have e1 : (H1 ++ [Blk.cells [cu]])[Hr.length]? = _ := (Kx.app (fun _ => True) _ _).get trivial hl1
    simp (disch := (first | assumption | omega | (simp only [List.length_append, List.length_cons, List.length_nil]; omega))) only [↓wD,wU,Nat.reduceBEq,zx150,zx151,zx159,zx160,zx161,zx162,Nat.reduceAdd,Nat.reduceSub,Nat.reduceMul,Nat.reduceLeDiff,Nat.reduceLT,Nat.reduceEqDiff,Int.reduceAdd,Int.reduceSub,Int.reduceMul,Int.reduceNeg,Int.reduceLT,Int.reduceLE,Int.reduceEq,Int.reduceToNat,Int.cast_ofNat_Int,↓reduceIte, *, zx189, zx190, hcu.cellsV, zx188 (lo := lo) e1 (by omega)]
    generalize eH2 : (H1 ++ [Blk.cells [cu]]).set Hr.length _ = H2
    have x12 : Kx (fun b => b ≠ Hr.length) H1 H2 := by rw [← eH2]; exact Kx.set' (Kx.app _ _ _) (fun _ h => h rfl) _
    have n12 : H2.length = H1.length + 1 := by rw [← eH2]; simp
    have gl := gset eH2 e1
    have g4 : H2[H1.length]? = some (.cells [cu]) := by rw [← eH2, List.getElem?_set_ne (by omega)]; simp
    have lt1 := (List.getElem?_eq_some_iff.1 d1).1
    have ltb := (List.getElem?_eq_some_iff.1 h1.1).1
    have lta := (List.getElem?_eq_some_iff.1 h2.1).1
    have g1 := x12.get (by omega) f1
    have g2 := x12.get (by omega) f2
    have g3 := x12.get (by omega) f3
    clear eH2 e1
    simp (disch := (first | assumption | omega | (simp only [List.length_append, List.length_cons, List.length_nil]; omega))) only [↓wD,wU,Nat.reduceBEq,zx150,zx151,zx159,zx160,zx161,zx162,Nat.reduceAdd,Nat.reduceSub,Nat.reduceMul,Nat.reduceLeDiff,Nat.reduceLT,Nat.reduceEqDiff,Int.reduceAdd,Int.reduceSub,Int.reduceMul,Int.reduceNeg,Int.reduceLT,Int.reduceLE,Int.reduceEq,Int.reduceToNat,Int.cast_ofNat_Int,↓reduceIte, *, ld_of g1, ld_of g2]
    refine (tuples_ret).toX fun w3 H3 x23 hw => ?_
    obtain ⟨k1, k2, k3, rfl, hp, m1, m2, m3⟩ := hw
    have hp1 : H1.length < k1 := by have := hp.1; simp at this; omega
    have hp2 : H1.length < k2 := by have := hp.2.1; simp at this; omega
    have hp3 : H1.length < k3 := by have := hp.2.2; simp at this; omega
    clear hp
    have x13 : Kx (fun b => b ≠ Hr.length) H1 H3 := x12.trans x23 fun _ _ _ => trivial
    have gl3 := x23.get trivial gl
    have hl3 := x23.1
    have q2' : ∀ b, Kc b → b < H1.length ∧ b ≠ Hr.length ∧ (b < Hr.length → K b) ∧ ¬ Ki b := fun b h => ⟨(hK1 b (q2 b h).1).1, (hK1 b (q2 b h).1).2, (q2 b h).2, fun q => (hKi b q).2.2 (q2 b h).1⟩
    have hcu3 : Sl (fun b => b < H1.length ∧ Ki b) H3 cu cs := (hcu.low.weak fun b h => ⟨h.2, h.1⟩).kp (x13.weak fun b _ h => by have := (hKi b h.2).1; omega).kp
    have hr3 : Sl (fun b => b < H.length ∧ ¬ K b) H3 rows t := (hr2.kp (hx.weak fun b _ h => ⟨by omega, h.2⟩).kp).kp (x13.weak fun b _ h => by omega).kp
    have s1 := x23.get trivial g1
    have s2 := x23.get trivial g2
    have s3 := x23.get trivial g3
    have s4 := x23.get trivial g4
    simp (disch := (first | assumption | omega | (simp only [List.length_append, List.length_cons, List.length_nil]; omega))) only [↓wD,wU,Nat.reduceBEq,zx150,zx151,zx159,zx160,zx161,zx162,Nat.reduceAdd,Nat.reduceSub,Nat.reduceMul,Nat.reduceLeDiff,Nat.reduceLT,Nat.reduceEqDiff,Int.reduceAdd,Int.reduceSub,Int.reduceMul,Int.reduceNeg,Int.reduceLT,Int.reduceLE,Int.reduceEq,Int.reduceToNat,Int.cast_ofNat_Int,↓reduceIte, *]
    refine Wp.range (A := ArgI) (sufs false v k 0) Kc (fun j K2 H4 => ∃ Kc', Its E lo y H.length ArgA (fun ok K' H' => (ok = true → Its E lo y H.length ArgA Q (((sufs true (wd t) k 0).drop (i + 1)).flatMap (allC v t k)) K' H') ∧ (ok = false → Q false K' H')) ((allC v t k cs).drop j) Kc' H4 ∧ ∀ b, Kc' b → K2 b ∧ b < H4.length ∧ (b < H3.length → Kc b))
      (fun j K2 H4 => j = .ret ∧ ∃ Kc', (∀ b, Kc' b → K2 b ∧ b < H4.length ∧ (b < H3.length → Kc b)) ∧ ∀ H5, Kx (fun b => b < H.length ∨ Kc' b) H4 H5 → Q false Kc' H5) (by (simp (disch := (first | assumption | omega | (simp only [List.length_append, List.length_cons, List.length_nil]; omega))) only [↓wD,wU,Nat.reduceBEq,zx150,zx151,zx159,zx160,zx161,zx162,Nat.reduceAdd,Nat.reduceSub,Nat.reduceMul,Nat.reduceLeDiff,Nat.reduceLT,Nat.reduceEqDiff,Int.reduceAdd,Int.reduceSub,Int.reduceMul,Int.reduceNeg,Int.reduceLT,Int.reduceLE,Int.reduceEq,Int.reduceToNat,Int.cast_ofNat_Int,↓reduceIte, *]) <;> rfl) (mayL gl3 (by omega)) (by omega) (fun b h => by have := (q2' b h).1; omega) (by rintro _ _ _ _ ⟨u, rfl, _⟩; rfl) ?_ ?_ ?_ ?_ ?_ ?_ ?_
    · intro K' H4 Q' e hx' hK' hI
      rw [← e] at hI
      have hne : ∀ b, H1.length < b → b < H3.length → ¬ K' b := fun b q1 q2 h => by
        rcases (hK' b).1 h with h | h
        · have := (q2' b h).1; omega
        · omega
      exact tuples_it (t := k) (n := v) (by omega) (by omega) (by omega) ⟨rfl, rfl⟩ ⟨hx'.get trivial m1, hne _ hp1 (List.getElem?_eq_some_iff.1 m1).1⟩ ⟨hx'.get trivial m2, hne _ hp2 (List.getElem?_eq_some_iff.1 m2).1⟩ ⟨hx'.get trivial m3, hne _ hp3 (List.getElem?_eq_some_iff.1 m3).1⟩ (fun b h => by
        rcases (hK' b).1 h with h | h
        · have := (q2' b h).1; omega
        · omega) hI
    · rintro j K2 H4 H5 ⟨Kc', q1, q2⟩ hx
      exact ⟨Kc', q1.keep (hx.weak fun b _ h => h.elim (fun h => .inl (by omega)) fun h => .inr (q2 b h).1), fun b h => ⟨(q2 b h).1, by have := (q2 b h).2.1; have := hx.1; omega, (q2 b h).2.2⟩⟩
    · rintro j K2 H4 H5 ⟨rfl, Kc', q0, q1⟩ hx
      exact ⟨rfl, Kc', fun b h => ⟨(q0 b h).1, by have := (q0 b h).2.1; have := hx.1; omega, (q0 b h).2.2⟩, fun H6 h6 => q1 H6 ((hx.weak fun b _ h => h.elim (fun h => .inl (by omega)) fun h => .inr (q0 b h).1).trans h6 fun _ _ h => h)⟩
    · exact ⟨Kc, by rw [List.drop_zero]; exact q1'.keep (x13.weak fun b _ h => h.elim (fun h => by omega) fun h => (q2' b h).2.1), fun b h => ⟨h, by have := (q2' b h).1; omega, fun _ => h⟩⟩
    · rintro j hj K2 Ki2 args2 H4 ⟨Kc', q3, q4⟩ ⟨ku, rfl, hku⟩ hKi2 hK2 hx4 hl4 hl41 _
      have hj' : j < (allC v t k cs).length := by unfold allC; rw [List.length_map]; exact hj
      rw [List.drop_eq_getElem_cons hj'] at q3
      have hjl := sufs_len (List.getElem_mem hj)
      have ea : (allC v t k cs)[j] = (cs ++ (sufs false v k 0)[j], oft t cs (sufs false v k 0)[j]) := by simp [allC]
      rw [ea] at q3
      clear ea
      obtain ⟨ks, eks⟩ : ∃ ks, (sufs false v k 0)[j] = ks := ⟨_, rfl⟩
      rw [eks] at q3 hku hjl
      have u2 := hx4.get ⟨(List.getElem?_eq_some_iff.1 s2).1, fun q => h2.2 ((q2' _ q).2.2.1 (by omega))⟩ s2
      have u3 := hx4.get ⟨(List.getElem?_eq_some_iff.1 s3).1, fun q => by have := hK _ ((q2' _ q).2.2.1 hHr); omega⟩ s3
      have u4 := hx4.get ⟨(List.getElem?_eq_some_iff.1 s4).1, fun q => by have := (q2' _ q).1; omega⟩ s4
      have hcu4 := hcu3.kp (hx4.weak fun b _ h => ⟨by omega, fun q => (q2' _ q).2.2.2 h.2⟩).kp
      have hr4 := hr3.kp (hx4.weak fun b _ h => ⟨by omega, fun q => h.2 ((q2' _ q).2.2.1 (by omega))⟩).kp
      simp (disch := (first | assumption | omega | (simp only [List.length_append, List.length_cons, List.length_nil]; omega))) only [↓wD,wU,Nat.reduceBEq,zx150,zx151,zx159,zx160,zx161,zx162,Nat.reduceAdd,Nat.reduceSub,Nat.reduceMul,Nat.reduceLeDiff,Nat.reduceLT,Nat.reduceEqDiff,Int.reduceAdd,Int.reduceSub,Int.reduceMul,Int.reduceNeg,Int.reduceLT,Int.reduceLE,Int.reduceEq,Int.reduceToNat,Int.cast_ofNat_Int,↓reduceIte, *, zx188 (lo := lo) hl41 (by omega)]
      generalize e5 : H4.set H3.length _ = H5
      have x45 : Kx (fun b => b ≠ H3.length) H4 H5 := by rw [← e5]; exact Kx.set _ _ _
      have n45 : H5.length ≤ H4.length ∧ H4.length ≤ H5.length := by rw [← e5]; simp
      have gl5 := gset e5 hl41
      have w2 := x45.get (by omega) u2
      have w3 := x45.get (by omega) u3
      have w4 := x45.get (by omega) u4
      have hcu5 := hcu4.kp (x45.weak fun b _ h => by omega).kp
      have hku5 : Sl (fun b => b < H4.length ∧ Ki2 b) H5 ku ks := (hku.low.weak fun b h => ⟨h.2, h.1⟩).kp (x45.weak fun b _ h => by have := (hKi2 b h.2).1; omega).kp
      have hr5 := hr4.kp (x45.weak fun b _ h => by omega).kp
      clear e5
      simp (disch := (first | assumption | omega | (simp only [List.length_append, List.length_cons, List.length_nil]; omega))) only [↓wD,wU,Nat.reduceBEq,zx150,zx151,zx159,zx160,zx161,zx162,Nat.reduceAdd,Nat.reduceSub,Nat.reduceMul,Nat.reduceLeDiff,Nat.reduceLT,Nat.reduceEqDiff,Int.reduceAdd,Int.reduceSub,Int.reduceMul,Int.reduceNeg,Int.reduceLT,Int.reduceLE,Int.reduceEq,Int.reduceToNat,Int.cast_ofNat_Int,↓reduceIte, *, ld_of w2, ld_of w3, ld_of w4, hcu.cellsV, hku.cellsV]
      have hlit : Sl (fun _ => True) (H5 ++ [Blk.cells [cu, ku]]) (.s 1 H5.length 0 2 (some 2)) [cs, ks] := by
        refine Sl.litL (us := [cu, ku]) (xs := [cs, ks]) (b := H5.length) get_last trivial (show 2 ≤ 9223372036854775807 by omega) rfl fun i h1 h2 => ?_
        match i, h1, h2 with
        | 0, _, _ => exact (hcu5.app _).weak fun _ _ => trivial
        | 1, _, _ => exact (hku5.app _).weak fun _ _ => trivial
        | n + 2, h1, _ => exact absurd h1 (by simp)
      refine (concat_ret hlit (by simp [lsum]; omega)).toFX fun u H6 x56 hu => ?_
      have x56' : Kx (fun _ => True) H5 H6 := (Kx.app _ _ _).trans x56 fun _ _ _ => trivial
      have l56 : H5.length + 1 ≤ H6.length := by have := x56.1; simpa using this
      have v2 := x56'.get trivial w2
      have v3 := x56'.get trivial w3
      have v4 := x56'.get trivial w4
      have hcu6 := hcu5.kp (x56'.all _).kp
      have hku6 := hku5.kp (x56'.all _).kp
      have hr6 := hr5.kp (x56'.all _).kp
      have hu6 : Sl (fun b => H5.length + 1 ≤ b ∧ b < H6.length) H6 u (cs ++ ks) := by
        have := hu.low
        simp only [List.flatten_cons, List.flatten_nil, List.append_nil] at this
        exact this.weak fun b h => ⟨by have := h.1; simpa using this, h.2⟩
      have hof := often_ret (v := v) hr6 hcu6 hku6 (by omega) fun c hc => ⟨(hcb c hc).1, fun r hr => by rw [(hA.row hr).1]; exact (hcb c hc).2⟩
      simp (disch := (first | assumption | omega | (simp only [List.length_append, List.length_cons, List.length_nil]; omega))) only [↓wD,wU,Nat.reduceBEq,zx150,zx151,zx159,zx160,zx161,zx162,Nat.reduceAdd,Nat.reduceSub,Nat.reduceMul,Nat.reduceLeDiff,Nat.reduceLT,Nat.reduceEqDiff,Int.reduceAdd,Int.reduceSub,Int.reduceMul,Int.reduceNeg,Int.reduceLT,Int.reduceLE,Int.reduceEq,Int.reduceToNat,Int.cast_ofNat_Int,↓reduceIte, *, ld_of v2, ldn_of v2, ld_of v3, ld_of v4, hof.call]
      have hq4 : ∀ b, Kc' b → K2 b ∧ b < H4.length ∧ (b < H3.length → Kc b) := q4
      refine callvI ((q3 H6 (fun b => H5.length + 1 ≤ b ∧ b < H6.length) [u, .i (oft t cs ks)] ?_ ⟨u, rfl, hu6⟩ ?_).mono ?_)
      · exact x45.trans (x56'.all _) (fun _ _ _ => trivial) |>.weak fun b _ h => h.elim (fun h => by omega) fun h => (hK2 b (q4 b h).1).2
      · exact fun b h => ⟨by omega, h.2, fun q => by have := (q4 b q).2.1; omega⟩
      · rintro r H7 ⟨x67, hc⟩
        have x47 : Kx (fun b => ¬ (K2 b ∨ Ki2 b) ∧ b ≠ H3.length) H4 H7 := ((x45.trans (x56'.all _) fun _ _ _ => trivial).weak fun b _ h => h.2).trans x67 fun b hb h => fun q => q.elim (fun q => h.1 (.inl (q4 b q).1)) fun q => by omega
        have gl7 := x67.get (b := H3.length) (fun q => q.elim (fun q => (hK2 _ (q4 _ q).1).2 rfl) fun q => by omega) (x56'.get trivial gl5)
        have l67 := x67.1
        have hkn : ∀ b, Kn Kc' (fun b => H5.length + 1 ≤ b ∧ b < H6.length) H6 H7 b → Kn K2 Ki2 H4 H7 b ∧ b < H7.length ∧ (b < H3.length → Kc b) := by
          rintro b (h | h | h)
          · exact ⟨.inl (q4 b h).1, by have := (q4 b h).2.1; omega, (q4 b h).2.2⟩
          · exact ⟨.inr (.inr ⟨by omega, by omega⟩), by omega, fun q => by omega⟩
          · exact ⟨.inr (.inr ⟨by omega, by omega⟩), by omega, fun q => by omega⟩
        rcases hc with ⟨rfl, hc⟩ | ⟨rfl, hc⟩
        · simp (disch := (first | assumption | omega | (simp only [List.length_append, List.length_cons, List.length_nil]; omega))) only [↓wD,wU,Nat.reduceBEq,zx150,zx151,zx159,zx160,zx161,zx162,Nat.reduceAdd,Nat.reduceSub,Nat.reduceMul,Nat.reduceLeDiff,Nat.reduceLT,Nat.reduceEqDiff,Int.reduceAdd,Int.reduceSub,Int.reduceMul,Int.reduceNeg,Int.reduceLT,Int.reduceLE,Int.reduceEq,Int.reduceToNat,Int.cast_ofNat_Int,↓reduceIte, *]
          first | exact ⟨_, hc, hkn⟩ | exact ⟨gl7, x47, _, hc, hkn⟩
        · simp (disch := (first | assumption | omega | (simp only [List.length_append, List.length_cons, List.length_nil]; omega))) only [↓wD,wU,Nat.reduceBEq,zx150,zx151,zx159,zx160,zx161,zx162,Nat.reduceAdd,Nat.reduceSub,Nat.reduceMul,Nat.reduceLeDiff,Nat.reduceLT,Nat.reduceEqDiff,Int.reduceAdd,Int.reduceSub,Int.reduceMul,Int.reduceNeg,Int.reduceLT,Int.reduceLE,Int.reduceEq,Int.reduceToNat,Int.cast_ofNat_Int,↓reduceIte, *]
          first | exact ⟨_, hkn, fun H8 h8 => (hc H8 h8).2 rfl⟩ | exact ⟨gl7, x47, rfl, _, hkn, fun H8 h8 => (hc H8 h8).2 rfl⟩ | exact ⟨rfl, _, hkn, fun H8 h8 => (hc H8 h8).2 rfl⟩
    · rintro K2 H4 ⟨Kc', q3, q4⟩ hx4 hl4
      have gl4 := hx4.get ⟨(List.getElem?_eq_some_iff.1 gl3).1, fun q => (q2' _ q).2.1 rfl⟩ gl3
      rw [List.drop_of_length_le (l := allC v t k cs) (by unfold allC; rw [List.length_map]; exact Nat.le_refl _)] at q3
      have xx : Kx (fun b => ¬ (K1 b ∨ Ki b) ∧ b ≠ Hr.length) H1 H4 := (x13.weak fun b _ h => h.2).trans hx4 fun b hb h => ⟨by omega, fun q => h.1 (.inl (q2 b q).1)⟩
      have hkn : ∀ b, Kc' b → Kn K1 Ki H1 H4 b ∧ (b < Hr.length → K b) := fun b h => by
        by_cases hb : b < H3.length
        · exact ⟨.inl (q2 b ((q4 b h).2.2 hb)).1, fun q => (q2' b ((q4 b h).2.2 hb)).2.2.1 q⟩
        · exact ⟨.inr (.inr ⟨by omega, (q4 b h).2.1⟩), fun q => by omega⟩
      have q5 := q3.none.1 rfl
      simp (disch := (first | assumption | omega | (simp only [List.length_append, List.length_cons, List.length_nil]; omega))) only [↓wD,wU,Nat.reduceBEq,zx150,zx151,zx159,zx160,zx161,zx162,Nat.reduceAdd,Nat.reduceSub,Nat.reduceMul,Nat.reduceLeDiff,Nat.reduceLT,Nat.reduceEqDiff,Int.reduceAdd,Int.reduceSub,Int.reduceMul,Int.reduceNeg,Int.reduceLT,Int.reduceLE,Int.reduceEq,Int.reduceToNat,Int.cast_ofNat_Int,↓reduceIte, *]
      first | exact ⟨_, q5, hkn⟩ | exact ⟨gl4, xx, _, q5, hkn⟩
    · rintro j K2 H4 ⟨rfl, Kc', q3, q4⟩ hx4 hl4
      have gl4 := hx4.get ⟨(List.getElem?_eq_some_iff.1 gl3).1, fun q => (q2' _ q).2.1 rfl⟩ gl3
      have xx : Kx (fun b => ¬ (K1 b ∨ Ki b) ∧ b ≠ Hr.length) H1 H4 := (x13.weak fun b _ h => h.2).trans hx4 fun b hb h => ⟨by omega, fun q => h.1 (.inl (q2 b q).1)⟩
      have hkn : ∀ b, Kc' b → Kn K1 Ki H1 H4 b := fun b h => by
        by_cases hb : b < H3.length
        · exact .inl (q2 b ((q3 b h).2.2 hb)).1
        · exact .inr (.inr ⟨by omega, (q3 b h).2.1⟩)
      change Wp E lo _ (.code .ret :: _) _ _ _
      simp (disch := (first | assumption | omega | (simp only [List.length_append, List.length_cons, List.length_nil]; omega))) only [↓wD,wU,Nat.reduceBEq,zx150,zx151,zx159,zx160,zx161,zx162,Nat.reduceAdd,Nat.reduceSub,Nat.reduceMul,Nat.reduceLeDiff,Nat.reduceLT,Nat.reduceEqDiff,Int.reduceAdd,Int.reduceSub,Int.reduceMul,Int.reduceNeg,Int.reduceLT,Int.reduceLE,Int.reduceEq,Int.reduceToNat,Int.cast_ofNat_Int,↓reduceIte, *]
      first | exact ⟨_, hkn, q4⟩ | exact ⟨gl4, xx, rfl, _, hkn, q4⟩ | exact ⟨rfl, _, hkn, q4⟩
  · rintro K1 H1 ⟨Kc, q1, _⟩ hx hl
    simp (disch := (first | assumption | omega | (simp only [List.length_append, List.length_cons, List.length_nil]; omega))) only [↓wD,wU,Nat.reduceBEq,zx150,zx151,zx159,zx160,zx161,zx162,Nat.reduceAdd,Nat.reduceSub,Nat.reduceMul,Nat.reduceLeDiff,Nat.reduceLT,Nat.reduceEqDiff,Int.reduceAdd,Int.reduceSub,Int.reduceMul,Int.reduceNeg,Int.reduceLT,Int.reduceLE,Int.reduceEq,Int.reduceToNat,Int.cast_ofNat_Int,↓reduceIte, *]
    rw [List.drop_length] at q1
    exact ⟨true, Kc, q1.none⟩
  · rintro j K1 H1 ⟨rfl, Kc, q0, q1⟩ hx hl
    change Wp E lo none (.code .ret :: _) _ _ _
    simp (disch := (first | assumption | omega | (simp only [List.length_append, List.length_cons, List.length_nil]; omega))) only [↓wD,wU,Nat.reduceBEq,zx150,zx151,zx159,zx160,zx161,zx162,Nat.reduceAdd,Nat.reduceSub,Nat.reduceMul,Nat.reduceLeDiff,Nat.reduceLT,Nat.reduceEqDiff,Int.reduceAdd,Int.reduceSub,Int.reduceMul,Int.reduceNeg,Int.reduceLT,Int.reduceLE,Int.reduceEq,Int.reduceToNat,Int.cast_ofNat_Int,↓reduceIte, *]
    exact ⟨false, Kc, q1 _ (Kx.refl _ _)⟩
end Go.Proofs.Ytmmbakggmlfffaa.A9
namespace Go.Proofs.Ytmmbakggmlfffaa.A9
open Go Go.AM Go.Proofs
/-- what all returns -/
structure AllR where
  v : Int
  rows : AV
  k : Int
instance : RV AllR where
  rv p H w x := ∃ bt ba, w = .fn 56 [] [.p bt 0, .p ba 0] ∧ (p bt ∧ p ba) ∧ H[bt]? = some (.cells [.i x.k]) ∧ H[ba]? = some (.cells [.i x.v, x.rows])
  mono := by
    rintro p q H H' v x ⟨bt, ba, rfl, hp, h1, h2⟩ hk hq
    exact ⟨bt, ba, rfl, ⟨hq _ hp.1, hq _ hp.2⟩, hk.2 _ _ hp.1 h1, hk.2 _ _ hp.2 h2⟩
  pure := by
    rintro p q H H' v x ⟨bt, ba, rfl, _⟩ hp
    simp [AV.pure, AV.pureAll] at hp
theorem all_ret {H : Heap} {v k : Int} {rows : AV} (hr : rows.cells = [rows] ∧ rows.one = true) : Ret E 47 [.ag [.i v, rows], .i k] (fun _ => False) H (AllR.mk v rows k) := by
  refine Ret.ro rfl fn47 rfl ?_
  unfold f47A
  simp (disch := (first | assumption | omega | (simp only [List.length_append, List.length_cons, List.length_nil]; omega))) only [↓wD,wU,Nat.reduceBEq,zx150,zx151,zx159,zx160,zx161,zx162,Nat.reduceAdd,Nat.reduceSub,Nat.reduceMul,Nat.reduceLeDiff,Nat.reduceLT,Nat.reduceEqDiff,Int.reduceAdd,Int.reduceSub,Int.reduceMul,Int.reduceNeg,Int.reduceLT,Int.reduceLE,Int.reduceEq,Int.reduceToNat,Int.cast_ofNat_Int,↓reduceIte, *]
  refine ⟨_, _, rfl, ?_, ?_⟩
  · simp
  · simp
/-- the iterator, behind a range over it -/
theorem all_range {lo : Nat} {v : Int} {rows : AV} {t : List (List Int)} {k bt ba : Nat} {H0 Hr H1 : Heap} {K0 K : Nat → Prop} {Q : Bool → (Nat → Prop) → Heap → Prop} (hlo : lo ≤ Hr.length)
    (c1 : Hr[bt]? = some (.cells [.i k])) (c2 : Hr[ba]? = some (.cells [.i v, rows])) (n1 : ¬ K0 bt) (n2 : ¬ K0 ba) (hr : Sl (fun b => b < H0.length) H0 rows t) (hg : Kx (fun _ => True) H0 Hr) (hK0 : ∀ b, K0 b → H0.length ≤ b ∧ b < Hr.length)
    (hA : ArrP v t) (hk : k ≤ 3) (e : H1.length = Hr.length + 1) (hx : Kx (fun _ => True) Hr H1) (hK : ∀ b, K b ↔ K0 b ∨ b = Hr.length) (hI : Its E lo (.yl Hr.length) (Hr.length + 1) ArgA Q (allL v t k) K H1) :
    WpF E lo 56 ([] ++ .yl Hr.length :: [.p bt 0, .p ba 0]) H1 fun _ H' => ∃ ok K', Q ok K' H' := by
  rw [← e] at hI
  have b1 := (List.getElem?_eq_some_iff.1 c1).1
  have b2 := (List.getElem?_eq_some_iff.1 c2).1
  refine all_it (by omega) ⟨rfl, rfl⟩ ⟨hx.get trivial c1, fun q => ((hK _).1 q).elim n1 (by omega)⟩ ⟨hx.get trivial c2, fun q => ((hK _).1 q).elim n2 (by omega)⟩ (((hr.kp (hg.all _).kp).kp (hx.all _).kp).weak fun b h q => ?_) hA hk (fun b q => ?_) hI
  · rcases (hK b).1 q with q | q
    · have := (hK0 b q).1; omega
    · have := hg.1; omega
  · rcases (hK b).1 q with q | q
    · have := (hK0 b q).2; omega
    · omega
theorem argA_len : ∀ (Ki : Nat → Prop) (H1 : Heap) (args : List AV) (x : List Int × Nat), ArgA Ki H1 args x → args.length = 2 := by rintro _ _ _ _ ⟨u, rfl, _⟩; rfl
end Go.Proofs.Ytmmbakggmlfffaa.A9
namespace Go.Proofs.Ytmmbakggmlfffaa.A9
open Go Go.AM Go.Proofs
def fstN (l : List (List Int × Nat)) : Nat := (l.head?.map Prod.snd).getD 0
def evenB (l : List (List Int × Nat)) : Bool := l.all fun x => x.2 == fstN l
def idxL (l : List (List Int × Nat)) : Int := if l.length = 0 then -1 else if evenB l = true then fstN l else 0
theorem index_ret {p : Nat → Prop} {H : Heap} {rows : AV} {v : Int} {t : List (List Int)} {k : Nat} (ht : Sl p H rows t) (hA : ArrP v t) (h2 : k ≤ 3) :
    RetP E 30 [.ag [.i v, rows], .i k] H (.i (idxL (allL v t k))) := by
  refine RetP.ro rfl fn30 rfl rfl ?_
  unfold f30A
  have hlow : Sl (fun b => b < H.length) H rows t := ht.low.weak fun _ h => h.2
  simp (disch := (first | assumption | omega | (simp only [List.length_append, List.length_cons, List.length_nil]; omega))) only [↓wD,wU,Nat.reduceBEq,zx150,zx151,zx159,zx160,zx161,zx162,Nat.reduceAdd,Nat.reduceSub,Nat.reduceMul,Nat.reduceLeDiff,Nat.reduceLT,Nat.reduceEqDiff,Int.reduceAdd,Int.reduceSub,Int.reduceMul,Int.reduceNeg,Int.reduceLT,Int.reduceLE,Int.reduceEq,Int.reduceToNat,Int.cast_ofNat_Int,↓reduceIte, *, ht.cellsV]
  refine (all_ret ht.cellsV).toX fun w Hr x1 hw => ?_
  obtain ⟨bt, ba, rfl, hp, c1, c2⟩ := hw
  have hp1 : H.length + 3 ≤ bt := by have := hp.1; simp at this; omega
  have hp2 : H.length + 3 ≤ ba := by have := hp.2; simp at this; omega
  clear hp
  have d4 : Hr[H.length + 1]? = some (.cells [.i 0]) := x1.get trivial (by simp [List.getElem?_append])
  have d5 : Hr[H.length + 2]? = some (.cells [.i (-1)]) := x1.get trivial (by simp [List.getElem?_append])
  have hx0 : Kx (fun _ => True) H Hr := (((Kx.app (fun _ => True) H _).app' _).app' _).trans x1 fun _ _ _ => trivial
  have hl := (List.getElem?_eq_some_iff.1 c1).1
  clear x1
  simp (disch := (first | assumption | omega | (simp only [List.length_append, List.length_cons, List.length_nil]; omega))) only [↓wD,wU,Nat.reduceBEq,zx150,zx151,zx159,zx160,zx161,zx162,Nat.reduceAdd,Nat.reduceSub,Nat.reduceMul,Nat.reduceLeDiff,Nat.reduceLT,Nat.reduceEqDiff,Int.reduceAdd,Int.reduceSub,Int.reduceMul,Int.reduceNeg,Int.reduceLT,Int.reduceLE,Int.reduceEq,Int.reduceToNat,Int.cast_ofNat_Int,↓reduceIte, *]
  obtain ⟨l, el⟩ : ∃ l, allL v t k = l := ⟨_, rfl⟩
  refine Wp.range (A := ArgA) l (fun b => b = H.length + 1 ∨ b = H.length + 2) (fun i K H1 => H1[H.length + 1]? = some (.cells [.i 0]) ∧ ∃ f, H1[H.length + 2]? = some (.cells [.i f]) ∧ ((i = 0 ∧ f = -1) ∨ (0 < i ∧ f = fstN l ∧ ∀ x ∈ l.take i, x.2 = fstN l)))
    (fun j K H1 => j = .ret ∧ H1[H.length + 1]? = some (.cells [.i 0]) ∧ 0 < l.length ∧ evenB l = false) (by (simp (disch := (first | assumption | omega | (simp only [List.length_append, List.length_cons, List.length_nil]; omega))) only [↓wD,wU,Nat.reduceBEq,zx150,zx151,zx159,zx160,zx161,zx162,Nat.reduceAdd,Nat.reduceSub,Nat.reduceMul,Nat.reduceLeDiff,Nat.reduceLT,Nat.reduceEqDiff,Int.reduceAdd,Int.reduceSub,Int.reduceMul,Int.reduceNeg,Int.reduceLT,Int.reduceLE,Int.reduceEq,Int.reduceToNat,Int.cast_ofNat_Int,↓reduceIte, *]) <;> rfl) rfl (by omega) (fun b h => by omega) argA_len ?_ ?_ ?_ ?_ ?_ ?_ ?_
  · exact fun K' H1 Q' e hx hK' hI => all_range (by omega) c1 c2 (by omega) (by omega) hlow hx0 (fun b h => by omega) hA h2 e hx hK' (by rw [el]; exact hI)
  · rintro i K H1 H2 ⟨q1, f, q2, q3⟩ hx
    exact ⟨hx.get (.inl (by omega)) q1, f, hx.get (.inl (by omega)) q2, q3⟩
  · exact fun j K H1 H2 h hx => ⟨h.1, hx.get (.inl (by omega)) h.2.1, h.2.2⟩
  · exact ⟨d4, -1, d5, .inl ⟨rfl, rfl⟩⟩
  · rintro i hi K Ki args H1 ⟨q4, f, q5, q6⟩ ⟨u, rfl, hu⟩ hKi hK hx hl1 hlr hKK
    have hfst : fstN l = (l[0]'(by omega)).2 := by unfold fstN; cases l with | nil => simp at hi | cons x r => rfl
    obtain ⟨n, en⟩ : ∃ n, (l[i]).2 = n := ⟨_, rfl⟩
    rw [en]
    have kc1 := (hKK (H.length + 1) (by omega)).2 (.inl rfl)
    have kc2 := (hKK (H.length + 2) (by omega)).2 (.inr rfl)
    simp (disch := (first | assumption | omega | (simp only [List.length_append, List.length_cons, List.length_nil]; omega))) only [↓wD,wU,Nat.reduceBEq,zx150,zx151,zx159,zx160,zx161,zx162,Nat.reduceAdd,Nat.reduceSub,Nat.reduceMul,Nat.reduceLeDiff,Nat.reduceLT,Nat.reduceEqDiff,Int.reduceAdd,Int.reduceSub,Int.reduceMul,Int.reduceNeg,Int.reduceLT,Int.reduceLE,Int.reduceEq,Int.reduceToNat,Int.cast_ofNat_Int,↓reduceIte, *, zx188 (lo := H.length) hlr (by omega)]
    generalize e2 : H1.set Hr.length _ = H2
    have x12 : Kx (fun b => b ≠ Hr.length) H1 H2 := by rw [← e2]; exact Kx.set _ _ _
    have l12 : H2.length ≤ H1.length ∧ H1.length ≤ H2.length := by rw [← e2]; simp
    have gl := gset e2 hlr
    have r4 := x12.get (by omega) q4
    have r5 := x12.get (by omega) q5
    clear e2
    have bad : ∀ (x : Nat), 0 < i → x = n → ¬ (x = fstN l) → 0 < l.length ∧ evenB l = false := fun x _ hx hne => ⟨by omega, by
      rw [evenB, ← Bool.not_eq_true, List.all_eq_true]
      intro hh
      have := hh _ (List.getElem_mem hi)
      simp at this; omega⟩
    rcases q6 with ⟨i0, f0⟩ | ⟨i1, f1, q7⟩
    · subst f0
      have en' : n ≤ fstN l ∧ fstN l ≤ n := by rw [hfst, ← en]; subst i0; exact ⟨Nat.le_refl _, Nat.le_refl _⟩
      clear hfst en bad
      simp (disch := (first | assumption | omega | (simp only [List.length_append, List.length_cons, List.length_nil]; omega))) only [↓wD,wU,Nat.reduceBEq,zx150,zx151,zx159,zx160,zx161,zx162,Nat.reduceAdd,Nat.reduceSub,Nat.reduceMul,Nat.reduceLeDiff,Nat.reduceLT,Nat.reduceEqDiff,Int.reduceAdd,Int.reduceSub,Int.reduceMul,Int.reduceNeg,Int.reduceLT,Int.reduceLE,Int.reduceEq,Int.reduceToNat,Int.cast_ofNat_Int,↓reduceIte, *, ld_of r5, st_of r5, ld_of (get_set r5)]
      have e : ∀ x ∈ l.take (i + 1), x.2 = fstN l := by
        subst i0
        intro x hx
        cases l with
        | nil => simp at hi
        | cons y r => simp at hx; subst hx; rfl
      refine ⟨?_, ?_, ?_, n, get_set r5, ?_⟩
      · rw [List.getElem?_set_ne (by omega)]; exact gl
      · exact (x12.weak fun b _ h => h.2).set' (fun _ h => h.1 (.inl kc2)) _
      · rw [List.getElem?_set_ne (by omega)]; exact r4
      · subst i0; first | exact e | exact .inr ⟨by omega, e⟩
    · have f2 : 0 ≤ f ∧ f ≤ fstN l ∧ fstN l ≤ f := by omega
      clear f1 hfst
      simp (disch := (first | assumption | omega | (simp only [List.length_append, List.length_cons, List.length_nil]; omega))) only [↓wD,wU,Nat.reduceBEq,zx150,zx151,zx159,zx160,zx161,zx162,Nat.reduceAdd,Nat.reduceSub,Nat.reduceMul,Nat.reduceLeDiff,Nat.reduceLT,Nat.reduceEqDiff,Int.reduceAdd,Int.reduceSub,Int.reduceMul,Int.reduceNeg,Int.reduceLT,Int.reduceLE,Int.reduceEq,Int.reduceToNat,Int.cast_ofNat_Int,↓reduceIte, *, ld_of r5]
      refine condP_split (fun h0 => ?_) (fun h0 => ?_)
      · have hb := bad n i1 rfl (by omega)
        clear en bad
        simp (disch := (first | assumption | omega | (simp only [List.length_append, List.length_cons, List.length_nil]; omega))) only [↓wD,wU,Nat.reduceBEq,zx150,zx151,zx159,zx160,zx161,zx162,Nat.reduceAdd,Nat.reduceSub,Nat.reduceMul,Nat.reduceLeDiff,Nat.reduceLT,Nat.reduceEqDiff,Int.reduceAdd,Int.reduceSub,Int.reduceMul,Int.reduceNeg,Int.reduceLT,Int.reduceLE,Int.reduceEq,Int.reduceToNat,Int.cast_ofNat_Int,↓reduceIte, h0, st_of r4]
        refine ⟨?_, ((x12.weak fun b _ h => h.2).set' (fun _ h => h.1 (.inl kc1)) _), rfl, get_set r4, hb⟩
        rw [List.getElem?_set_ne (by omega)]; exact gl
      · simp (disch := (first | assumption | omega | (simp only [List.length_append, List.length_cons, List.length_nil]; omega))) only [↓wD,wU,Nat.reduceBEq,zx150,zx151,zx159,zx160,zx161,zx162,Nat.reduceAdd,Nat.reduceSub,Nat.reduceMul,Nat.reduceLeDiff,Nat.reduceLT,Nat.reduceEqDiff,Int.reduceAdd,Int.reduceSub,Int.reduceMul,Int.reduceNeg,Int.reduceLT,Int.reduceLE,Int.reduceEq,Int.reduceToNat,Int.cast_ofNat_Int,↓reduceIte, *]
        have e : ∀ x ∈ l.take (i + 1), x.2 = fstN l := by
          rw [List.take_succ_eq_append_getElem hi]
          intro x hx
          rcases List.mem_append.1 hx with hx | hx
          · exact q7 x hx
          · simp at hx; subst hx; omega
        refine ⟨x12.weak fun b _ h => h.2, f, rfl, .inr ⟨by omega, by omega, e⟩⟩
  · rintro K H1 ⟨q4, f, q5, q6⟩ hx hl1
    simp (disch := (first | assumption | omega | (simp only [List.length_append, List.length_cons, List.length_nil]; omega))) only [↓wD,wU,Nat.reduceBEq,zx150,zx151,zx159,zx160,zx161,zx162,Nat.reduceAdd,Nat.reduceSub,Nat.reduceMul,Nat.reduceLeDiff,Nat.reduceLT,Nat.reduceEqDiff,Int.reduceAdd,Int.reduceSub,Int.reduceMul,Int.reduceNeg,Int.reduceLT,Int.reduceLE,Int.reduceEq,Int.reduceToNat,Int.cast_ofNat_Int,↓reduceIte, *, ld_of q5, st_of q4, ld_of (get_set q4)]
    rcases q6 with ⟨i0, f0⟩ | ⟨i1, f1, q7⟩
    · rw [idxL, if_pos i0, f0]
    · rw [List.take_length] at q7
      have hev : evenB l = true := by
        rw [evenB, List.all_eq_true]
        intro x hx
        simp [q7 x hx]
      rw [idxL, if_neg (by omega), if_pos hev, f1]
  · rintro j K H1 ⟨rfl, q4, q5, q6⟩ hx hl1
    change Wp E H.length none (.code .ret :: _) _ _ _
    simp (disch := (first | assumption | omega | (simp only [List.length_append, List.length_cons, List.length_nil]; omega))) only [↓wD,wU,Nat.reduceBEq,zx150,zx151,zx159,zx160,zx161,zx162,Nat.reduceAdd,Nat.reduceSub,Nat.reduceMul,Nat.reduceLeDiff,Nat.reduceLT,Nat.reduceEqDiff,Int.reduceAdd,Int.reduceSub,Int.reduceMul,Int.reduceNeg,Int.reduceLT,Int.reduceLE,Int.reduceEq,Int.reduceToNat,Int.cast_ofNat_Int,↓reduceIte, *, ld_of q4]
    rw [idxL, if_neg (by omega), q6]; rfl
theorem indexX_ret {p : Nat → Prop} {H : Heap} {rows : AV} {v : Int} {t : List (List Int)} {k : Nat} (ht : Sl p H rows t) (hA : ArrP v t) (h1 : 1 ≤ k) (h2 : k ≤ 3) (h3 : k ≤ wd t) :
    RetP E 13 [.ag [.i v, rows], .i k] H (if idxL (allL v t k) = 0 then .tp [.i 0, .i 4] else .tp [.i (idxL (allL v t k)), .i 0]) := by
  refine RetP.ro rfl fn13 rfl (by split <;> rfl) ?_
  unfold f13A
  have k1 := ht.app [.cells [.i v, rows]]
  have g1 : ArrP v t ∧ 1 ≤ (k : Int) ∧ (k : Int) ≤ 3 ∧ (k : Int) ≤ wd t := ⟨hA, by omega, by omega, by omega⟩
  by_cases h0 : idxL (allL v t k) = 0
  · simp (disch := (first | assumption | omega | (simp only [List.length_append, List.length_cons, List.length_nil]; omega))) only [↓wD,wU,Nat.reduceBEq,zx150,zx151,zx159,zx160,zx161,zx162,Nat.reduceAdd,Nat.reduceSub,Nat.reduceMul,Nat.reduceLeDiff,Nat.reduceLT,Nat.reduceEqDiff,Int.reduceAdd,Int.reduceSub,Int.reduceMul,Int.reduceNeg,Int.reduceLT,Int.reduceLE,Int.reduceEq,Int.reduceToNat,Int.cast_ofNat_Int,↓reduceIte, *, ht.cellsV, (strong_ret k1).call, decide_eq_true g1, (index_ret k1 hA h2).call]
  · simp (disch := (first | assumption | omega | (simp only [List.length_append, List.length_cons, List.length_nil]; omega))) only [↓wD,wU,Nat.reduceBEq,zx150,zx151,zx159,zx160,zx161,zx162,Nat.reduceAdd,Nat.reduceSub,Nat.reduceMul,Nat.reduceLeDiff,Nat.reduceLT,Nat.reduceEqDiff,Int.reduceAdd,Int.reduceSub,Int.reduceMul,Int.reduceNeg,Int.reduceLT,Int.reduceLE,Int.reduceEq,Int.reduceToNat,Int.cast_ofNat_Int,↓reduceIte, *, ht.cellsV, (strong_ret k1).call, decide_eq_true g1, (index_ret k1 hA h2).call]
end Go.Proofs.Ytmmbakggmlfffaa.A9
namespace Go.Proofs.Ytmmbakggmlfffaa.A9
open Go Go.AM Go.Proofs
theorem Acc.int {L : Nat} {q : Nat → Prop} {H : Heap} {v : AV} {xs : List Int} (h : Acc L q H v xs) : Sl (fun b => L ≤ b) H v xs := by
  rcases h with h | ⟨b, o, c, k, e, hb, hk, h1, h2, h3⟩
  · exact .inl h
  · exact .inr ⟨b, o, c, k, e, hb, hk, h1, h2, h3⟩
end Go.Proofs.Ytmmbakggmlfffaa.A9
namespace Go.Proofs.Ytmmbakggmlfffaa.A9
open Go Go.AM Go.Proofs
theorem indexX_err {p : Nat → Prop} {H : Heap} {rows : AV} {v k : Int} {t : List (List Int)} (ht : Sl p H rows t) (h : ¬ (ArrP v t ∧ 1 ≤ k ∧ k ≤ 3 ∧ k ≤ wd t)) :
    RetP E 13 [.ag [.i v, rows], .i k] H (.tp [.i 0, .i 2]) := by
  refine RetP.ro rfl fn13 rfl rfl ?_
  unfold f13A
  have k1 := ht.app [.cells [.i v, rows]]
  simp (disch := (first | assumption | omega | (simp only [List.length_append, List.length_cons, List.length_nil]; omega))) only [↓wD,wU,Nat.reduceBEq,zx150,zx151,zx159,zx160,zx161,zx162,Nat.reduceAdd,Nat.reduceSub,Nat.reduceMul,Nat.reduceLeDiff,Nat.reduceLT,Nat.reduceEqDiff,Int.reduceAdd,Int.reduceSub,Int.reduceMul,Int.reduceNeg,Int.reduceLT,Int.reduceLE,Int.reduceEq,Int.reduceToNat,Int.cast_ofNat_Int,↓reduceIte, *, ht.cellsV, (strong_ret k1).call, decide_eq_false h]
end Go.Proofs.Ytmmbakggmlfffaa.A9
namespace Go.Proofs.Ytmmbakggmlfffaa.A9
open Go Go.AM Go.Proofs
def rfairB (l : List (List Int × Nat)) : Bool := l.all fun x => x.2 == fstN l && x.2 != 0
theorem fstN_pre {P l : List (List Int × Nat)} (h : P <+: l) (hne : P ≠ []) : fstN l = fstN P := by
  obtain ⟨r, rfl⟩ := h
  cases P with
  | nil => exact absurd rfl hne
  | cons x P => rfl
/-- what is known behind P: f the first number, or -1 -/
def FSt (l P : List (List Int × Nat)) (f : Int) : Prop := (P = [] ∧ f = -1) ∨ (P ≠ [] ∧ f = fstN l ∧ ∀ x ∈ P, x.2 = fstN l ∧ x.2 ≠ 0)
theorem FSt.step {l P : List (List Int × Nat)} {f : Int} {x : List Int × Nat} (h : FSt l P f) (hp : P ++ [x] <+: l) :
    (f < 0 → (x.2 : Int) = fstN l) ∧ (¬ f < 0 → f = fstN l) := by
  rcases h with ⟨rfl, rfl⟩ | ⟨hne, rfl, h⟩
  · refine ⟨fun _ => ?_, fun h => by omega⟩
    rw [fstN_pre hp (by simp)]; rfl
  · exact ⟨fun h => by omega, fun _ => rfl⟩
end Go.Proofs.Ytmmbakggmlfffaa.A9
namespace Go.Proofs.Ytmmbakggmlfffaa.A9
open Go Go.AM Go.Proofs
theorem sufs_ne_t {n : Int} : ∀ {t : Nat} {x : Int}, x + t ≤ n → 0 < (sufs true n t x).length
  | 0, x, _ => by simp [sufs]
  | t + 1, x, h => by
    have : x < n := by omega
    simp only [sufs, rng_cons this, List.flatMap_cons, List.length_append, List.length_map, if_true]
    have := sufs_ne_t (n := n) (t := t) (x := x + 1) (by omega)
    omega
theorem sufs_ne_f {n : Int} (h : 0 < n) : ∀ {t : Nat} {x : Int}, x = 0 → 0 < (sufs false n t x).length
  | 0, x, _ => by simp [sufs]
  | t + 1, x, hx => by
    subst hx
    simp only [sufs, rng_cons h, List.flatMap_cons, List.length_append, List.length_map, Bool.false_eq_true, if_false]
    have := sufs_ne_f h (t := t) (x := 0) rfl
    omega
theorem allL_ne {v : Int} {t : List (List Int)} {k : Nat} (hA : ArrP v t) (h3 : k ≤ wd t) : 0 < (allL v t k).length := by
  have h1 := sufs_ne_t (n := wd t) (t := k) (x := 0) (by omega)
  have h2 := sufs_ne_f (n := v) (by have := hA.1; omega) (t := k) (x := 0) rfl
  unfold allL
  cases hc : sufs true (wd t) k 0 with
  | nil => rw [hc] at h1; simp at h1
  | cons c cs =>
    simp only [List.flatMap_cons, List.length_append]
    have : (allC v t k c).length = (sufs false v k 0).length := by simp [allC]
    omega
theorem rfair_idx {l : List (List Int × Nat)} (h : 0 < l.length) : decide (0 < idxL l) = rfairB l := by
  have h0 : ¬ l.length = 0 := by omega
  unfold idxL
  rw [if_neg h0]
  cases he : evenB l with
  | false =>
    have : rfairB l = false := by
      rw [← Bool.not_eq_true] at he ⊢
      intro hh
      apply he
      unfold rfairB at hh; unfold evenB
      rw [List.all_eq_true] at hh ⊢
      intro x hx
      have := hh x hx
      simp at this ⊢; exact this.1
    rw [this]; simp
  | true =>
    simp only [if_true]
    unfold evenB at he
    rw [List.all_eq_true] at he
    by_cases h2 : fstN l = 0
    · have : rfairB l = false := by
        rw [← Bool.not_eq_true]
        intro hh
        unfold rfairB at hh
        rw [List.all_eq_true] at hh
        cases l with
        | nil => simp at h
        | cons x r =>
          have := hh x (by simp)
          have e : fstN (x :: r) = x.2 := rfl
          rw [e] at h2
          simp at this; omega
      rw [this, h2]; simp
    · have : rfairB l = true := by
        unfold rfairB
        rw [List.all_eq_true]
        intro x hx
        have := he x hx
        simp at this
        simp [this]; exact h2
      rw [this]; simp; omega
def fairK (v : Int) (t : List (List Int)) (k : Nat) : Bool := decide (0 < idxL (allL v t k))
end Go.Proofs.Ytmmbakggmlfffaa.A9
namespace Go.Proofs.Ytmmbakggmlfffaa.A9
open Go Go.AM Go.Proofs
theorem idx_all {l : List (List Int × Nat)} {m : Nat} (h : 0 < l.length) (hm : ∀ x ∈ l, x.2 = m) : idxL l = m := by
  have hf : fstN l = m := by
    cases l with
    | nil => simp at h
    | cons x r => exact hm x (by simp)
  have he : evenB l = true := by
    unfold evenB
    rw [List.all_eq_true]
    intro x hx
    simp [hm x hx, hf]
  unfold idxL
  rw [if_neg (by omega), if_pos he, hf]
theorem fairK_iff {v : Int} {t : List (List Int)} {k : Nat} (hA : ArrP v t) (h3 : k ≤ wd t) : fairK v t k = true ↔ ∃ m, 0 < m ∧ ∀ x ∈ allL v t k, x.2 = m := by
  have hne := allL_ne hA h3
  constructor
  · intro h
    unfold fairK at h
    rw [rfair_idx hne] at h
    unfold rfairB at h
    rw [List.all_eq_true] at h
    refine ⟨fstN (allL v t k), ?_, fun x hx => ?_⟩
    · cases hl : allL v t k with
      | nil => rw [hl] at hne; simp at hne
      | cons y r =>
        have := h y (by rw [hl]; simp)
        rw [hl] at this
        simp at this
        have e : fstN (y :: r) = y.2 := rfl
        omega
    · have := h x hx
      simp at this
      exact this.1
  · rintro ⟨m, hm, h⟩
    unfold fairK
    rw [idx_all hne h]
    simp; omega
theorem mem_rng {x n y : Int} : y ∈ rng x n ↔ x ≤ y ∧ y < n :=
  ⟨rng_mem, fun ⟨h1, h2⟩ => by simp only [rng, List.mem_map, List.mem_range]; exact ⟨(y - x).toNat, by omega, by omega⟩⟩
theorem mem_sufs_f {n : Int} : ∀ {t : Nat} {s : List Int}, s ∈ sufs false n t 0 ↔ s.length = t ∧ ∀ c ∈ s, 0 ≤ c ∧ c < n
  | 0, s => by
    simp only [sufs, List.mem_singleton]
    constructor
    · rintro rfl; exact ⟨rfl, nofun⟩
    · rintro ⟨h, _⟩; exact List.length_eq_zero_iff.1 h
  | t + 1, s => by
    simp only [sufs, List.mem_flatMap, List.mem_map, Bool.false_eq_true, if_false]
    constructor
    · rintro ⟨y, hy, z, hz, rfl⟩
      have h1 := mem_rng.1 hy
      have h2 := mem_sufs_f.1 hz
      refine ⟨by simp [h2.1], fun c hc => ?_⟩
      rcases List.mem_cons.1 hc with rfl | hc
      · exact h1
      · exact h2.2 c hc
    · rintro ⟨h1, h2⟩
      cases s with
      | nil => simp at h1
      | cons y z => exact ⟨y, mem_rng.2 (h2 y (by simp)), z, mem_sufs_f.2 ⟨by simpa using h1, fun c hc => h2 c (by simp [hc])⟩, rfl⟩
theorem sufs_cons_t {n x y : Int} {t : Nat} {z : List Int} (h1 : x ≤ y) (h2 : y < n) (h3 : z ∈ sufs true n t (y + 1)) : y :: z ∈ sufs true n (t + 1) x := by
  simp only [sufs, List.mem_flatMap, List.mem_map, if_true]
  exact ⟨y, mem_rng.2 ⟨h1, h2⟩, z, h3, rfl⟩
theorem mem_allL {v : Int} {t : List (List Int)} {k : Nat} {cs ks : List Int} (h1 : cs ∈ sufs true (wd t) k 0) (h2 : ks ∈ sufs false v k 0) : (cs ++ ks, oft t cs ks) ∈ allL v t k := by
  unfold allL
  rw [List.mem_flatMap]
  refine ⟨cs, h1, ?_⟩
  unfold allC
  rw [List.mem_map]
  exact ⟨ks, h2, rfl⟩
end Go.Proofs.Ytmmbakggmlfffaa.A9
namespace Go.Proofs.Ytmmbakggmlfffaa.A9
open Go Go.AM Go.Proofs
theorem apart_ret {H : Heap} : RetP E 17 [] H (.b true) :=
  RetP.closed (n := 300) rfl fn17 rfl rfl (by kernel_rfl)
theorem array_ret {p : Nat → Prop} {H : Heap} {rows : AV} {v : Int} {t : List (List Int)} (ht : Sl p H rows t) : Ret E 14 [.ag [.i v, rows]] (fun _ => False) H ((v, cutA t) : Int × List (List Int)) := by
  refine Ret.ro rfl fn14 rfl ?_
  unfold f14A
  have hb := ht.bound
  simp (disch := (first | assumption | omega | (simp only [List.length_append, List.length_cons, List.length_nil]; omega))) only [↓wD,wU,Nat.reduceBEq,zx150,zx151,zx159,zx160,zx161,zx162,Nat.reduceAdd,Nat.reduceSub,Nat.reduceMul,Nat.reduceLeDiff,Nat.reduceLT,Nat.reduceEqDiff,Int.reduceAdd,Int.reduceSub,Int.reduceMul,Int.reduceNeg,Int.reduceLT,Int.reduceLE,Int.reduceEq,Int.reduceToNat,Int.cast_ofNat_Int,↓reduceIte, *, ht.L]
  replace ht : Sl (fun b => b < H.length) H rows t := ht.low.weak fun _ h => h.2
  refine Wp.for t.length (fun i a H' => ∃ u, a 10 = rows ∧ a 11 = .i t.length ∧ a 12 = .i i ∧ a 2 = .p (H.length + 1) 0 ∧ a 3 = .p (H.length + 2) 0 ∧ Gr H H' ∧ H.length + 3 ≤ H'.length ∧
    H'[H.length + 1]? = some (.cells [.i 0, .nils]) ∧ H'[H.length + 2]? = some (.cells [.i v, u]) ∧ Acc (H.length + 3) (fun b => H.length + 3 ≤ b) H' u (((t.take i).take 19).map fun r => r.take 11)) ?_ ?_
  · rintro i a H1 hi ⟨u, a10, a11, a12, a2, a3, hg, hl, c2, c3, hu⟩ ih
    simp (disch := (first | assumption | omega | (simp only [List.length_append, List.length_cons, List.length_nil]; omega))) only [↓wD,wU,Nat.reduceBEq,zx150,zx151,zx159,zx160,zx161,zx162,Nat.reduceAdd,Nat.reduceSub,Nat.reduceMul,Nat.reduceLeDiff,Nat.reduceLT,Nat.reduceEqDiff,Int.reduceAdd,Int.reduceSub,Int.reduceMul,Int.reduceNeg,Int.reduceLT,Int.reduceLE,Int.reduceEq,Int.reduceToNat,Int.cast_ofNat_Int,↓reduceIte, *]
    refine condP_split (fun hlt => ?_) (fun hlt => ?_)
    · have hi' : i < t.length := by omega
      have ht1 := ht.gr hg
      have g := ht1.get (k := (i : Int)) (by omega) (by omega)
      have hbg := g.bound
      obtain ⟨xs, exs⟩ : ∃ xs, gi t (i : Int) = xs := ⟨_, rfl⟩
      rw [exs] at g hbg
      have hs : slV 1 (rows.get H1 (i : Int)) none (some (.i (min (xs.length : Int) 11))) none = some ((rows.get H1 (i : Int)).cut 0 (min xs.length 11)) := by
        refine g.slV_lh none _ (b := min xs.length 11) ?_ (bound_none (by omega)) (by omega) (by omega)
        rw [bound_some (by omega) (by omega)]
        congr 1
        omega
      have hcut := g.cut (a := 0) (b := min xs.length 11) (by omega) (by omega)
      have e : (xs.drop 0).take (min xs.length 11 - 0) = xs.take 11 := by
        rw [List.drop_zero, Nat.sub_zero]
        by_cases hl : xs.length ≤ 11
        · rw [List.take_of_length_le (by omega), List.take_of_length_le hl]
        · congr 1; omega
      rw [e] at hcut
      have gI := g.I
      simp (disch := (first | assumption | omega | (simp only [List.length_append, List.length_cons, List.length_nil]; omega))) only [↓wD,wU,Nat.reduceBEq,zx150,zx151,zx159,zx160,zx161,zx162,Nat.reduceAdd,Nat.reduceSub,Nat.reduceMul,Nat.reduceLeDiff,Nat.reduceLT,Nat.reduceEqDiff,Int.reduceAdd,Int.reduceSub,Int.reduceMul,Int.reduceNeg,Int.reduceLT,Int.reduceLE,Int.reduceEq,Int.reduceToNat,Int.cast_ofNat_Int,↓reduceIte, *, ht1.L]
      refine condP_split (fun h6 => ?_) (fun h6 => ?_)
      · simp (disch := (first | assumption | omega | (simp only [List.length_append, List.length_cons, List.length_nil]; omega))) only [↓wD,wU,Nat.reduceBEq,zx150,zx151,zx159,zx160,zx161,zx162,Nat.reduceAdd,Nat.reduceSub,Nat.reduceMul,Nat.reduceLeDiff,Nat.reduceLT,Nat.reduceEqDiff,Int.reduceAdd,Int.reduceSub,Int.reduceMul,Int.reduceNeg,Int.reduceLT,Int.reduceLE,Int.reduceEq,Int.reduceToNat,Int.cast_ofNat_Int,↓reduceIte, *, ld_of c3, gI, hs]
        refine (clone_ret hcut (by rw [List.length_take]; omega)).toF fun y H2 hg2 hy => ?_
        have hl2 := hg2.1
        simp (disch := (first | assumption | omega | (simp only [List.length_append, List.length_cons, List.length_nil]; omega))) only [↓wD,wU,Nat.reduceBEq,zx150,zx151,zx159,zx160,zx161,zx162,Nat.reduceAdd,Nat.reduceSub,Nat.reduceMul,Nat.reduceLeDiff,Nat.reduceLT,Nat.reduceEqDiff,Int.reduceAdd,Int.reduceSub,Int.reduceMul,Int.reduceNeg,Int.reduceLT,Int.reduceLE,Int.reduceEq,Int.reduceToNat,Int.cast_ofNat_Int,↓reduceIte, *, hy.cellsV]
        have hu2 := hu.gr hg2
        refine hu2.pushL (by omega) (by omega) hy (fun b hb => ⟨by omega, fun e => by have := hu.blk_lt e; omega⟩) ?_ fun u' H3 hu' hk3 hl3' _ => ?_
        · simp; omega
        · have c33 := hk3.get (b := H.length + 2) (fun e => by have := hu2.blk_lt e; omega) (hg2.get c3)
          have c23 := hk3.get (b := H.length + 1) (fun e => by have := hu2.blk_lt e; omega) (hg2.get c2)
          simp (disch := (first | assumption | omega | (simp only [List.length_append, List.length_cons, List.length_nil]; omega))) only [↓wD,wU,Nat.reduceBEq,zx150,zx151,zx159,zx160,zx161,zx162,Nat.reduceAdd,Nat.reduceSub,Nat.reduceMul,Nat.reduceLeDiff,Nat.reduceLT,Nat.reduceEqDiff,Int.reduceAdd,Int.reduceSub,Int.reduceMul,Int.reduceNeg,Int.reduceLT,Int.reduceLE,Int.reduceEq,Int.reduceToNat,Int.cast_ofNat_Int,↓reduceIte, *, st_of c33, hu'.cellsV]
          refine (ih hi').go ⟨u', ?_⟩
          simp (disch := (first | assumption | omega | (simp only [List.length_append, List.length_cons, List.length_nil]; omega))) only [↓wD,wU,Nat.reduceBEq,zx150,zx151,zx159,zx160,zx161,zx162,Nat.reduceAdd,Nat.reduceSub,Nat.reduceMul,Nat.reduceLeDiff,Nat.reduceLT,Nat.reduceEqDiff,Int.reduceAdd,Int.reduceSub,Int.reduceMul,Int.reduceNeg,Int.reduceLT,Int.reduceLE,Int.reduceEq,Int.reduceToNat,Int.cast_ofNat_Int,↓reduceIte, *]
          have e : ((t.take (i + 1)).take 19) = (t.take i).take 19 ++ [gi t i] := by
            rw [List.take_take, List.take_take, show min 19 (i + 1) = i + 1 by omega, show min 19 i = i by omega, take_gi hi']
          rw [e, List.map_append, exs]
          refine ⟨((hg.trans hg2).push hu2 (by omega) hk3).set (by omega) _, by simp; omega, by rw [List.getElem?_set_ne (by omega)]; exact c23, get_set c33, ?_⟩
          exact hu'.mono ((Kp.set _ _ _).weak fun b hb => by omega) fun _ h => h
      · simp (disch := (first | assumption | omega | (simp only [List.length_append, List.length_cons, List.length_nil]; omega))) only [↓wD,wU,Nat.reduceBEq,zx150,zx151,zx159,zx160,zx161,zx162,Nat.reduceAdd,Nat.reduceSub,Nat.reduceMul,Nat.reduceLeDiff,Nat.reduceLT,Nat.reduceEqDiff,Int.reduceAdd,Int.reduceSub,Int.reduceMul,Int.reduceNeg,Int.reduceLT,Int.reduceLE,Int.reduceEq,Int.reduceToNat,Int.cast_ofNat_Int,↓reduceIte, *]
        refine (ih hi').go ⟨u, ?_⟩
        simp (disch := (first | assumption | omega | (simp only [List.length_append, List.length_cons, List.length_nil]; omega))) only [↓wD,wU,Nat.reduceBEq,zx150,zx151,zx159,zx160,zx161,zx162,Nat.reduceAdd,Nat.reduceSub,Nat.reduceMul,Nat.reduceLeDiff,Nat.reduceLT,Nat.reduceEqDiff,Int.reduceAdd,Int.reduceSub,Int.reduceMul,Int.reduceNeg,Int.reduceLT,Int.reduceLE,Int.reduceEq,Int.reduceToNat,Int.cast_ofNat_Int,↓reduceIte, *]
        have e : ((t.take (i + 1)).take 19) = (t.take i).take 19 := by
          rw [List.take_take, List.take_take]; congr 1; omega
        rw [e]; first | exact hu | exact ⟨hg, hu⟩ | exact ⟨hg, hl, hu⟩
    · have e : i = t.length := by omega
      subst e
      simp (disch := (first | assumption | omega | (simp only [List.length_append, List.length_cons, List.length_nil]; omega))) only [↓wD,wU,Nat.reduceBEq,zx150,zx151,zx159,zx160,zx161,zx162,Nat.reduceAdd,Nat.reduceSub,Nat.reduceMul,Nat.reduceLeDiff,Nat.reduceLT,Nat.reduceEqDiff,Int.reduceAdd,Int.reduceSub,Int.reduceMul,Int.reduceNeg,Int.reduceLT,Int.reduceLE,Int.reduceEq,Int.reduceToNat,Int.cast_ofNat_Int,↓reduceIte, *, ldn_of c3, st_of c2, hu.cellsV]
      simp (disch := (first | assumption | omega | (simp only [List.length_append, List.length_cons, List.length_nil]; omega))) only [↓wD,wU,Nat.reduceBEq,zx150,zx151,zx159,zx160,zx161,zx162,Nat.reduceAdd,Nat.reduceSub,Nat.reduceMul,Nat.reduceLeDiff,Nat.reduceLT,Nat.reduceEqDiff,Int.reduceAdd,Int.reduceSub,Int.reduceMul,Int.reduceNeg,Int.reduceLT,Int.reduceLE,Int.reduceEq,Int.reduceToNat,Int.cast_ofNat_Int,↓reduceIte, *, ldn_of (get_set c2)]
      rw [List.take_length] at hu
      exact rv_si ((hu.mono ((Kp.set _ _ _).weak fun b hb => by omega) fun _ h => h).sl.weak fun b h => .inr (by omega))
  · simp (disch := (first | assumption | omega | (simp only [List.length_append, List.length_cons, List.length_nil]; omega))) only [↓wD,wU,Nat.reduceBEq,zx150,zx151,zx159,zx160,zx161,zx162,Nat.reduceAdd,Nat.reduceSub,Nat.reduceMul,Nat.reduceLeDiff,Nat.reduceLT,Nat.reduceEqDiff,Int.reduceAdd,Int.reduceSub,Int.reduceMul,Int.reduceNeg,Int.reduceLT,Int.reduceLE,Int.reduceEq,Int.reduceToNat,Int.cast_ofNat_Int,↓reduceIte, *]
    refine ⟨.nils, ?_⟩
    simp (disch := (first | assumption | omega | (simp only [List.length_append, List.length_cons, List.length_nil]; omega))) only [↓wD,wU,Nat.reduceBEq,zx150,zx151,zx159,zx160,zx161,zx162,Nat.reduceAdd,Nat.reduceSub,Nat.reduceMul,Nat.reduceLeDiff,Nat.reduceLT,Nat.reduceEqDiff,Int.reduceAdd,Int.reduceSub,Int.reduceMul,Int.reduceNeg,Int.reduceLT,Int.reduceLE,Int.reduceEq,Int.reduceToNat,Int.cast_ofNat_Int,↓reduceIte, *]
    exact ⟨(((Gr.refl H).app _).app _).app _, Acc.nil⟩
/-- where Index gives a number, each pair of choices of two columns comes so often -/
theorem index_two {v : Int} {t : List (List Int)} (hA : ArrP v t) (hw : 2 ≤ wd t) (h : idxL (allL v t 2) ≠ 0) : ∃ m : Nat, 0 < m ∧ idxL (allL v t 2) = m ∧ ∀ (i j : Nat) (a b : Int), i < j → j < wd t → 0 ≤ a → a < v → 0 ≤ b → b < v → oft t [(i : Int), (j : Int)] [a, b] = m := by
  have hne := allL_ne hA hw
  have hf : fairK v t 2 = true := by
    unfold fairK
    refine decide_eq_true ?_
    have h' := h
    unfold idxL at h' ⊢
    rw [if_neg (by omega)] at h' ⊢
    by_cases q : evenB (allL v t 2) = true
    · rw [if_pos q] at h' ⊢; omega
    · rw [if_neg q] at h'; exact absurd rfl h'
  obtain ⟨m, hm, hall⟩ := (fairK_iff hA hw).1 hf
  refine ⟨m, hm, idx_all hne hall, fun i j a b hij hj ha ha' hb hb' => ?_⟩
  have h1 : [(i : Int), (j : Int)] ∈ sufs true (wd t) 2 0 := sufs_cons_t (by omega) (by omega) (sufs_cons_t (by omega) (by omega) (by simp [sufs]))
  have h2 : [a, b] ∈ sufs false v 2 0 := mem_sufs_f.2 ⟨rfl, fun c hc => by
    simp only [List.mem_cons, List.not_mem_nil, or_false] at hc
    rcases hc with rfl | rfl
    · exact ⟨ha, ha'⟩
    · exact ⟨hb, hb'⟩⟩
  exact hall _ (mem_allL h1 h2)
end Go.Proofs.Ytmmbakggmlfffaa.A9
namespace Go.Proofs.Ytmmbakggmlfffaa.A9
open Go Go.AM Go.Proofs
/-- how often a stands in column i and b in column j -/
def prs (t : List (List Int)) (i j : Nat) (a b : Int) : Nat := t.countP fun r => gi r (i : Int) == a && gi r (j : Int) == b
theorem prs_oft {t : List (List Int)} {i j : Nat} {a b : Int} : prs t i j a b = oft t [(i : Int), (j : Int)] [a, b] := by
  unfold prs oft
  congr 1
  funext r
  simp [comesL]
theorem prs_comm {t : List (List Int)} {i j : Nat} {a b : Int} : prs t i j a b = prs t j i b a := by
  unfold prs
  congr 1
  funext r
  rw [Bool.and_comm]
theorem prs_cons {t : List (List Int)} {r : List Int} {i j : Nat} {a b : Int} : prs (r :: t) i j a b = prs t i j a b + if gi r (i : Int) = a ∧ gi r (j : Int) = b then 1 else 0 := by
  unfold prs
  rw [List.countP_cons]
  congr 1
  by_cases h1 : gi r (i : Int) = a <;> by_cases h2 : gi r (j : Int) = b <;> simp [h1, h2]
theorem prs_two {i j : Nat} : ∀ {t : List (List Int)}, (∀ r ∈ t, (0 ≤ gi r (i : Int) ∧ gi r (i : Int) < 2) ∧ 0 ≤ gi r (j : Int) ∧ gi r (j : Int) < 2) → prs t i j 0 0 + prs t i j 0 1 + prs t i j 1 0 + prs t i j 1 1 = t.length
  | [], _ => by simp [prs]
  | r :: t, h => by
    have ih := prs_two (t := t) fun r hr => h r (by simp [hr])
    obtain ⟨⟨q1, q2⟩, q3, q4⟩ := h r (by simp)
    simp only [prs_cons, List.length_cons]
    generalize gi r (i : Int) = x at *
    generalize gi r (j : Int) = y at *
    have hx : x = 0 ∨ x = 1 := by omega
    have hy : y = 0 ∨ y = 1 := by omega
    rcases hx with rfl | rfl <;> rcases hy with rfl | rfl <;> simp <;> omega
theorem prs_three {i j : Nat} : ∀ {t : List (List Int)}, (∀ r ∈ t, (0 ≤ gi r (i : Int) ∧ gi r (i : Int) < 3) ∧ 0 ≤ gi r (j : Int) ∧ gi r (j : Int) < 3) → prs t i j 0 0 + prs t i j 0 1 + prs t i j 0 2 + prs t i j 1 0 + prs t i j 1 1 + prs t i j 1 2 + prs t i j 2 0 + prs t i j 2 1 + prs t i j 2 2 = t.length
  | [], _ => by simp [prs]
  | r :: t, h => by
    have ih := prs_three (t := t) fun r hr => h r (by simp [hr])
    obtain ⟨⟨q1, q2⟩, q3, q4⟩ := h r (by simp)
    simp only [prs_cons, List.length_cons]
    generalize gi r (i : Int) = x at *
    generalize gi r (j : Int) = y at *
    have hx : x = 0 ∨ x = 1 ∨ x = 2 := by omega
    have hy : y = 0 ∨ y = 1 ∨ y = 2 := by omega
    rcases hx with rfl | rfl | rfl <;> rcases hy with rfl | rfl | rfl <;> simp <;> omega
/-- an Array's entries lie below the number of choices -/
theorem arr_in {v : Int} {t : List (List Int)} (hA : ArrP v t) {r : List Int} (hr : r ∈ t) {i : Nat} (hi : i < wd t) : 0 ≤ gi r (i : Int) ∧ gi r (i : Int) < v := by
  have h := hA.2.2.2.2 r hr
  unfold RowP at h
  unfold wd at hi
  have hl : i < r.length := by omega
  exact h.2.2.2 _ (mem_gi hl)
/-- all pairs so often: few choices, few rows -/
theorem uni_of {v : Int} {t : List (List Int)} (hA : ArrP v t) (h3 : v ≤ 3) {i j m : Nat} (hi : i < wd t) (hj : j < wd t) (hm : 0 < m) (h : ∀ a b : Int, 0 ≤ a → a < v → 0 ≤ b → b < v → prs t i j a b = m) : UniP v.toNat m := by
  have hl := hA.2.2.2.1
  have hv : v = 2 ∨ v = 3 := by have := hA.1; omega
  rcases hv with rfl | rfl
  · have := prs_two (t := t) (i := i) (j := j) fun r hr => ⟨arr_in hA hr hi, arr_in hA hr hj⟩
    rw [h 0 0 (by omega) (by omega) (by omega) (by omega), h 0 1 (by omega) (by omega) (by omega) (by omega), h 1 0 (by omega) (by omega) (by omega) (by omega), h 1 1 (by omega) (by omega) (by omega) (by omega)] at this
    exact .inl ⟨rfl, by omega, by omega⟩
  · have := prs_three (t := t) (i := i) (j := j) fun r hr => ⟨arr_in hA hr hi, arr_in hA hr hj⟩
    have e : ∀ a b : Int, 0 ≤ a → a < 3 → 0 ≤ b → b < 3 → prs t i j a b = m := h
    rw [e 0 0 (by omega) (by omega) (by omega) (by omega), e 0 1 (by omega) (by omega) (by omega) (by omega), e 0 2 (by omega) (by omega) (by omega) (by omega), e 1 0 (by omega) (by omega) (by omega) (by omega), e 1 1 (by omega) (by omega) (by omega) (by omega), e 1 2 (by omega) (by omega) (by omega) (by omega), e 2 0 (by omega) (by omega) (by omega) (by omega), e 2 1 (by omega) (by omega) (by omega) (by omega), e 2 2 (by omega) (by omega) (by omega) (by omega)] at this
    exact .inr ⟨rfl, by omega⟩
/-- where Index gives m, each pair of any two different columns comes m times -/
theorem pairs_all {v : Int} {t : List (List Int)} (hA : ArrP v t) (hw : 2 ≤ wd t) (h : idxL (allL v t 2) ≠ 0) : ∃ m : Nat, 0 < m ∧ idxL (allL v t 2) = m ∧ ∀ (i j : Nat), i ≠ j → i < wd t → j < wd t → ∀ a b : Int, 0 ≤ a → a < v → 0 ≤ b → b < v → prs t i j a b = m := by
  obtain ⟨m, h1, h2, h3⟩ := index_two hA hw h
  refine ⟨m, h1, h2, fun i j hij hi hj a b ha ha' hb hb' => ?_⟩
  rcases Nat.lt_or_gt_of_ne hij with q | q
  · rw [prs_oft]; exact h3 i j a b q hj ha ha' hb hb'
  · rw [prs_comm, prs_oft]; exact h3 j i b a q hi hb hb' ha ha'
end Go.Proofs.Ytmmbakggmlfffaa.A9
namespace Go.Proofs.Ytmmbakggmlfffaa.A9
open Go Go.AM Go.Proofs
/-- how often each pair comes in the first n rows -/
def cntT (V : Nat) (t : List (List Int)) (i j n : Nat) : Tab := (List.range V).map fun a : Nat => (List.range V).map fun b : Nat => (prs (t.take n) i j (a : Int) (b : Int) : Int)
theorem cntT_len {V : Nat} {t : List (List Int)} {i j n : Nat} : (cntT V t i j n).length = V := by simp [cntT]
theorem cntT_row {V : Nat} {t : List (List Int)} {i j n a : Nat} (ha : a < V) : gi (cntT V t i j n) (a : Int) = (List.range V).map fun b : Nat => (prs (t.take n) i j (a : Int) (b : Int) : Int) := by
  rw [gi_nat (by rw [cntT_len]; exact ha)]
  simp [cntT]
theorem cntT_gi {V : Nat} {t : List (List Int)} {i j n a b : Nat} (ha : a < V) (hb : b < V) : gi (gi (cntT V t i j n) (a : Int)) (b : Int) = (prs (t.take n) i j (a : Int) (b : Int) : Int) := by
  rw [cntT_row ha, gi_nat (by simpa using hb)]
  simp
theorem prs_take {t : List (List Int)} {i j n : Nat} (hn : n < t.length) {a b : Int} : prs (t.take (n + 1)) i j a b = prs (t.take n) i j a b + if gi (gi t (n : Int)) (i : Int) = a ∧ gi (gi t (n : Int)) (j : Int) = b then 1 else 0 := by
  rw [take_gi hn]
  unfold prs
  rw [List.countP_append]
  congr 1
  by_cases h1 : gi (gi t (n : Int)) (i : Int) = a <;> by_cases h2 : gi (gi t (n : Int)) (j : Int) = b <;> simp [List.countP_cons, h1, h2]
theorem cntT_s {V : Nat} {t : List (List Int)} {i j n a b : Nat} (hn : n < t.length) (ha : a < V) (hb : b < V) (e1 : gi (gi t (n : Int)) (i : Int) = (a : Int)) (e2 : gi (gi t (n : Int)) (j : Int) = (b : Int)) :
    (cntT V t i j n).set a ((gi (cntT V t i j n) (a : Int)).set b (gi (gi (cntT V t i j n) (a : Int)) (b : Int) + 1)) = cntT V t i j (n + 1) := by
  rw [cntT_gi ha hb, cntT_row ha]
  apply List.ext_getElem (by simp [cntT])
  intro k h1 h2
  have hk : k < V := by simpa [cntT] using h2
  rw [List.getElem_set]
  have e3 : (cntT V t i j (n + 1))[k]'h2 = (List.range V).map fun c : Nat => (prs (t.take (n + 1)) i j (k : Int) (c : Int) : Int) := by simp [cntT]
  rw [e3]
  by_cases e : a = k
  · subst e
    rw [if_pos rfl]
    apply List.ext_getElem (by simp)
    intro c h3 h4
    rw [List.getElem_set]
    simp only [List.getElem_map, List.getElem_range]
    rw [prs_take hn, e1, e2]
    by_cases ec : b = c
    · subst ec; simp
    · rw [if_neg ec, if_neg fun q => ec (by have := q.2; omega)]; simp
  · rw [if_neg e]
    have e4 : (cntT V t i j n)[k]'(by rw [cntT_len]; exact hk) = (List.range V).map fun c : Nat => (prs (t.take n) i j (k : Int) (c : Int) : Int) := by simp [cntT]
    rw [e4]
    apply List.ext_getElem (by simp)
    intro c h3 h4
    simp only [List.getElem_map, List.getElem_range]
    rw [prs_take hn, e1, if_neg fun q => e (by have := q.1; omega), Nat.add_zero]
theorem cntT_0 {V : Nat} {t : List (List Int)} {i j : Nat} : cntT V t i j 0 = List.replicate V (List.replicate V 0) := by
  apply List.ext_getElem (by simp [cntT])
  intro k h1 h2
  simp only [cntT, List.getElem_map, List.getElem_range, List.getElem_replicate]
  apply List.ext_getElem (by simp)
  intro c h3 h4
  simp [prs]
/-- a table laid row by row -/
theorem MT_mk {L ob V : Nat} {H : Heap} (hL : L ≤ ob) (hV : V ≤ 100) (h0 : H[ob]? = some (.cells ((List.range V).map fun a : Nat => .s 1 (ob + 1 + a) 0 V (some V)))) (hr : ∀ a, a < V → H[ob + 1 + a]? = some (.cells (reps V [.i 0]))) : MT L H (.s 1 ob 0 V (some V)) (List.replicate V (List.replicate V 0)) := by
  refine ⟨(List.range V).map fun a : Nat => ⟨ob + 1 + a, List.replicate V 0⟩, ?_, ?_, .inr ⟨ob, 0, some V, _, by simp; rfl, hL, h0, ?_, by simp; omega, fun a ha => ?_⟩⟩
  · rw [List.map_map]
    apply List.ext_getElem (by simp)
    intro k h1 h2
    simp
  · rw [List.map_map, List.nodup_iff_pairwise_ne, List.pairwise_map]
    exact List.pairwise_lt_range.imp fun {a b} h e => by simp at e; omega
  · change 0 + ((List.range V).map _).length * 1 ≤ _
    simp
  · have ha' : a < V := by simpa using ha
    simp only [List.getElem_map, List.getElem_range]
    refine ⟨0, some V, _, ?_, ⟨(show L ≤ ob + 1 + a by omega), (show ob + 1 + a ≠ ob by omega)⟩, hr a ha', by simp [reps_z], by simp; omega, fun m hm => ?_⟩
    · change (List.drop (0 + a * 1) _).take 1 = _
      rw [Nat.mul_one, Nat.zero_add, List.take_one, List.head?_drop]
      simp [ha']
    · have hm' : m < V := by simpa using hm
      rw [reps_z, Nat.zero_add]
      simp [hm']
end Go.Proofs.Ytmmbakggmlfffaa.A9
namespace Go.Proofs.Ytmmbakggmlfffaa.A9
open Go Go.AM Go.Proofs
/-- the outer slice's cells behind k rows -/
def hdr (ob V a : Nat) : AV := .s 1 (ob + 1 + a) 0 V (some V)
def outC (ob V k : Nat) : List AV := (List.range V).map fun a : Nat => if a < k then hdr ob V a else .nils
theorem outC_len {ob V k : Nat} : (outC ob V k).length = V := by simp [outC]
theorem outC_0 {ob V : Nat} : outC ob V 0 = reps V [.nils] := by
  rw [reps_z]
  apply List.ext_getElem (by simp [outC])
  intro k h1 h2
  simp [outC]
theorem outC_s {ob V k : Nat} (hk : k < V) : (outC ob V k).set k (hdr ob V k) = outC ob V (k + 1) := by
  apply List.ext_getElem (by simp [outC])
  intro c h1 h2
  rw [List.getElem_set]
  simp only [outC, List.getElem_map, List.getElem_range]
  by_cases e : k = c
  · subst e; rw [if_pos rfl, if_pos (by omega)]
  · rw [if_neg e]
    by_cases q : c < k
    · rw [if_pos q, if_pos (by omega)]
    · rw [if_neg q, if_neg (by omega)]
theorem outC_n {ob V : Nat} : outC ob V V = (List.range V).map fun a : Nat => .s 1 (ob + 1 + a) 0 V (some V) := by
  unfold outC
  refine List.map_congr_left fun a ha => ?_
  rw [if_pos (List.mem_range.1 ha)]; rfl
/-- what holds behind k rows -/
structure Zk (G0 G : Heap) (V k : Nat) : Prop where
  len : G.length = G0.length + 1 + k
  keep : Kx (fun b => b < G0.length) G0 G
  out : G[G0.length]? = some (.cells (outC G0.length V k))
  row : ∀ a, a < k → G[G0.length + 1 + a]? = some (.cells (reps V [.i 0]))
theorem Zk.zero {G0 : Heap} {V : Nat} : Zk G0 (G0 ++ [.cells (reps V [.nils])]) V 0 :=
  ⟨by simp, Kx.app _ _ _, by rw [outC_0]; exact get_last, fun a ha => by omega⟩
theorem Zk.step {G0 G : Heap} {V k lo : Nat} (h : Zk G0 G V k) (hk : k < V) (hlo : lo ≤ G0.length) : ∃ G', st lo G G0.length k [hdr G0.length V k] = some G' ∧ Zk G0 (G' ++ [.cells (reps V [.i 0])]) V (k + 1) := by
  have hl := h.len
  have g1 := h.out
  refine ⟨G.set G0.length (.cells (outC G0.length V (k + 1))), ?_, ⟨by simp; omega, ?_, ?_, fun a ha => ?_⟩⟩
  · rw [st_of g1 hlo (by rw [outC_len]; simp; omega)]
    simp only [wr]
    rw [outC_s hk]
  · exact (h.keep.set' (fun _ q => by omega) _).app' _
  · rw [List.getElem?_append_left (by simp; omega)]
    exact get_set g1
  · by_cases e : a = k
    · subst e
      have : G0.length + 1 + a = (G.set G0.length (.cells (outC G0.length V (a + 1)))).length := by simp; omega
      rw [this]; exact get_last
    · rw [List.getElem?_append_left (by simp; omega), List.getElem?_set_ne (by omega)]
      exact h.row a (by omega)
theorem hdr_cells {ob V a : Nat} : (hdr ob V a).cells = [hdr ob V a] ∧ (hdr ob V a).one = true := ⟨rfl, rfl⟩
theorem Zk.mt {G0 G : Heap} {V : Nat} (h : Zk G0 G V V) (hV : V ≤ 100) : MT G0.length G (.s 1 G0.length 0 V (some V)) (List.replicate V (List.replicate V 0)) :=
  MT_mk (Nat.le_refl _) hV (by rw [h.out, outC_n]) h.row
end Go.Proofs.Ytmmbakggmlfffaa.A9
namespace Go.Proofs.Ytmmbakggmlfffaa
open Go Go.AM Go.Proofs
open A9 in
theorem Walk.TopEven (H : Heap) (cs : List AV) (x : Int × List (List Int)) (h : Rep.rep (fun b => b < H.length) H cs x) (k1 k2 : Int) : WpF E H.length 4 [.ag cs, .i k1, .i k2] H fun v _ => v = .b true := by
  obtain ⟨r, rfl, hs⟩ := rep_si_elim h
  obtain ⟨v, t⟩ := x
  change Sl _ H r t at hs
  refine law_of (RetP.ro rfl fn4 rfl rfl ?_)
  unfold f4A
  have c0 : (H ++ [.cells [.i v, r]])[H.length]? = some (.cells [.i v, r]) := get_last
  have hs0 := hs.app [.cells [.i v, r]]
  have n0 : (H ++ [Blk.cells [.i v, r]]).length = H.length + 1 := by simp
  simp (disch := (first | assumption | omega | (simp only [List.length_append, List.length_cons, List.length_nil]; omega))) only [↓wD,wU,Nat.reduceBEq,zx150,zx151,zx159,zx160,zx161,zx162,Nat.reduceAdd,Nat.reduceSub,Nat.reduceMul,Nat.reduceLeDiff,Nat.reduceLT,Nat.reduceEqDiff,Int.reduceAdd,Int.reduceSub,Int.reduceMul,Int.reduceNeg,Int.reduceLT,Int.reduceLE,Int.reduceEq,Int.reduceToNat,Int.cast_ofNat_Int,↓reduceIte, hs.cellsV]
  generalize H ++ [Blk.cells [.i v, r]] = H0 at *
  refine (array_ret hs0).toX fun w H1 x1 hw => ?_
  obtain ⟨u1, rfl, hu1⟩ := rv_si_elim hw
  have c1 := x1.get trivial c0
  have hs1 := hs0.kp (x1.all _).kp
  have n1 := x1.1
  have rv := A9.rvalid_ret (v := v) hs1
  clear hs hs0 h hw c0 x1
  by_cases hA : ArrP v t
  case neg =>
    have ie := indexX_err (k := 2) hu1 (fun q => hA (ArrP_cut.1 q.1))
    rw [decide_eq_false hA] at rv
    simp (disch := (first | assumption | omega | (simp only [List.length_append, List.length_cons, List.length_nil]; omega))) only [↓wD,wU,Nat.reduceBEq,zx150,zx151,zx159,zx160,zx161,zx162,Nat.reduceAdd,Nat.reduceSub,Nat.reduceMul,Nat.reduceLeDiff,Nat.reduceLT,Nat.reduceEqDiff,Int.reduceAdd,Int.reduceSub,Int.reduceMul,Int.reduceNeg,Int.reduceLT,Int.reduceLE,Int.reduceEq,Int.reduceToNat,Int.cast_ofNat_Int,↓reduceIte, ie.call, ldn_of c1, rv.call, apart_ret.call]
  change Sl _ H1 u1 (cutA t) at hu1
  rw [cutA_ok hA] at hu1
  rw [decide_eq_true hA] at rv
  have hwd := width_ret (v := v) hs1 (by have := hA.2.2.1; omega)
  by_cases hw2 : 2 ≤ wd t
  case neg =>
    have ie := indexX_err (v := v) (k := 2) hu1 (fun q => hw2 (by have := q.2.2.2; omega))
    have hd : decide ((wd t : Int) < 2) = true := decide_eq_true (by omega)
    simp (disch := (first | assumption | omega | (simp only [List.length_append, List.length_cons, List.length_nil]; omega))) only [↓wD,wU,Nat.reduceBEq,zx150,zx151,zx159,zx160,zx161,zx162,Nat.reduceAdd,Nat.reduceSub,Nat.reduceMul,Nat.reduceLeDiff,Nat.reduceLT,Nat.reduceEqDiff,Int.reduceAdd,Int.reduceSub,Int.reduceMul,Int.reduceNeg,Int.reduceLT,Int.reduceLE,Int.reduceEq,Int.reduceToNat,Int.cast_ofNat_Int,↓reduceIte, ie.call, ldn_of c1, rv.call, hwd.call, hd, apart_ret.call]
  have ix := indexX_ret (k := 2) hu1 hA (by omega) (by omega) hw2
  have e2 : ((2 : Nat) : Int) = 2 := rfl
  rw [e2] at ix
  have hd : decide ((wd t : Int) < 2) = false := decide_eq_false (by omega)
  by_cases hv3 : v ≤ 3
  case neg =>
    have hd4 : decide (3 < v) = true := decide_eq_true (by omega)
    by_cases hz : idxL (allL v t 2) = 0
    · rw [if_pos hz] at ix
      simp (disch := (first | assumption | omega | (simp only [List.length_append, List.length_cons, List.length_nil]; omega))) only [↓wD,wU,Nat.reduceBEq,zx150,zx151,zx159,zx160,zx161,zx162,Nat.reduceAdd,Nat.reduceSub,Nat.reduceMul,Nat.reduceLeDiff,Nat.reduceLT,Nat.reduceEqDiff,Int.reduceAdd,Int.reduceSub,Int.reduceMul,Int.reduceNeg,Int.reduceLT,Int.reduceLE,Int.reduceEq,Int.reduceToNat,Int.cast_ofNat_Int,↓reduceIte, ix.call, ldn_of c1, ld_of c1, rv.call, hwd.call, hd, hd4, apart_ret.call]
    · rw [if_neg hz] at ix
      simp (disch := (first | assumption | omega | (simp only [List.length_append, List.length_cons, List.length_nil]; omega))) only [↓wD,wU,Nat.reduceBEq,zx150,zx151,zx159,zx160,zx161,zx162,Nat.reduceAdd,Nat.reduceSub,Nat.reduceMul,Nat.reduceLeDiff,Nat.reduceLT,Nat.reduceEqDiff,Int.reduceAdd,Int.reduceSub,Int.reduceMul,Int.reduceNeg,Int.reduceLT,Int.reduceLE,Int.reduceEq,Int.reduceToNat,Int.cast_ofNat_Int,↓reduceIte, ix.call, ldn_of c1, ld_of c1, rv.call, hwd.call, hd, hd4, apart_ret.call]
  have hd4 : decide (3 < v) = false := decide_eq_false (by omega)
  have hl16 := hA.2.2.2.1
  have hw8 : wd t ≤ 8 := by
    have h1 := hA.2.2.1
    have hr := hA.2.2.2.2 _ (mem_gi (show 0 < t.length by omega))
    exact hr.2.2.1
  obtain ⟨i, hi, i2, i3, i4⟩ := u64_idx (k := k1) (n := wd t) (by omega) (by omega)
  obtain ⟨j, hj, j2, j3, j4⟩ := u64_idx (k := k2) (n := wd t) (by omega) (by omega)
  have hu0 : ¬ (wd t : Int) = 0 := by omega
  obtain ⟨V, rfl⟩ := Int.eq_ofNat_of_zero_le (show 0 ≤ v by have := hA.1; omega)
  have hV := hA.1
  obtain ⟨m, er, e8, e48, hix⟩ : ∃ m er : Int, (er = 0 ∨ er = 4) ∧ (er = 0 → m ≠ 0 ∧ idxL (allL (V : Int) t 2) = m) ∧ RetP E 13 [.ag [.i V, u1], .i 2] H1 (.tp [.i m, .i er]) := by
    by_cases hz : idxL (allL (V : Int) t 2) = 0
    · rw [if_pos hz] at ix; exact ⟨0, 4, .inr rfl, fun q => absurd q (by decide), ix⟩
    · rw [if_neg hz] at ix; exact ⟨_, 0, .inl rfl, fun _ => ⟨hz, rfl⟩, ix⟩
  by_cases hij : i = j
  · subst hij
    have hdd : decide ((i : Int) = (i : Int)) = true := decide_eq_true rfl
    simp (disch := (first | assumption | omega | (simp only [List.length_append, List.length_cons, List.length_nil]; omega))) only [↓wD,wU,Nat.reduceBEq,zx150,zx151,zx159,zx160,zx161,zx162,Nat.reduceAdd,Nat.reduceSub,Nat.reduceMul,Nat.reduceLeDiff,Nat.reduceLT,Nat.reduceEqDiff,Int.reduceAdd,Int.reduceSub,Int.reduceMul,Int.reduceNeg,Int.reduceLT,Int.reduceLE,Int.reduceEq,Int.reduceToNat,Int.cast_ofNat_Int,↓reduceIte, hix.call, ldn_of c1, ld_of c1, rv.call, hwd.call, hd, hd4, i2, i3, i4, j2, j3, j4, hu0, hdd, apart_ret.call]
  have hdd : decide ((i : Int) = (j : Int)) = false := decide_eq_false (by omega)
  have hmk := zx177 (z := .nils) (n := (V : Int)) (by omega) (by omega)
  rw [Int.toNat_natCast] at hmk
  have hmk8 := zx176 (z := .i 0) (n := (V : Int)) (by omega) (by omega)
  rw [Int.toNat_natCast] at hmk8
  obtain ⟨Vv, eV⟩ : ∃ Vv, AV.s 1 H1.length 0 V (some V) = Vv := ⟨_, rfl⟩
  have lV : lenV Vv = some (.i V) := by rw [← eV]; rfl
  have iV : ∀ k : Nat, k < V → iaddrV 1 Vv (.i (k : Int)) = some (.p H1.length k) := fun k hk => by
    rw [← eV, zx178 hk]
  clear ix
  simp (disch := (first | assumption | omega | (simp only [List.length_append, List.length_cons, List.length_nil]; omega))) only [↓wD,wU,Nat.reduceBEq,zx150,zx151,zx159,zx160,zx161,zx162,Nat.reduceAdd,Nat.reduceSub,Nat.reduceMul,Nat.reduceLeDiff,Nat.reduceLT,Nat.reduceEqDiff,Int.reduceAdd,Int.reduceSub,Int.reduceMul,Int.reduceNeg,Int.reduceLT,Int.reduceLE,Int.reduceEq,Int.reduceToNat,Int.cast_ofNat_Int,↓reduceIte, hix.call, ldn_of c1, ld_of c1, rv.call, hwd.call, hd, hd4, i2, i3, i4, j2, j3, j4, hu0, hdd, hmk]
  refine Wp.for V (fun k a G => a 1 = .i i ∧ a 2 = .i j ∧ a 3 = .p H.length 0 ∧ a 7 = .i m ∧ a 8 = .i er ∧ a 9 = Vv ∧ a 78 = .i V ∧ a 79 = .i k ∧ Zk H1 G V k) ?_ ?_
  · rintro k a G hk ⟨a1, a2, a3, a7, a8, a9, a78, a79, hz⟩ ih
    simp (disch := (first | assumption | omega | (simp only [List.length_append, List.length_cons, List.length_nil]; omega))) only [↓wD,wU,Nat.reduceBEq,zx150,zx151,zx159,zx160,zx161,zx162,Nat.reduceAdd,Nat.reduceSub,Nat.reduceMul,Nat.reduceLeDiff,Nat.reduceLT,Nat.reduceEqDiff,Int.reduceAdd,Int.reduceSub,Int.reduceMul,Int.reduceNeg,Int.reduceLT,Int.reduceLE,Int.reduceEq,Int.reduceToNat,Int.cast_ofNat_Int,↓reduceIte, a1, a2, a3, a7, a8, a9, a78, a79]
    refine condP_split (fun hlt => ?_) (fun hlt => ?_)
    · have hk' : k < V := by omega
      obtain ⟨G', st1, hz'⟩ := hz.step (lo := H.length) hk' (by omega)
      have iVk := iV k hk'
      have gl := hz.len
      have cG := hz.keep.get (List.getElem?_eq_some_iff.1 c1).1 c1
      have eh : AV.s 1 G.length 0 V (some V) = hdr H1.length V k := by unfold hdr; rw [gl]
      simp (disch := (first | assumption | omega | (simp only [List.length_append, List.length_cons, List.length_nil]; omega))) only [↓wD,wU,Nat.reduceBEq,zx150,zx151,zx159,zx160,zx161,zx162,Nat.reduceAdd,Nat.reduceSub,Nat.reduceMul,Nat.reduceLeDiff,Nat.reduceLT,Nat.reduceEqDiff,Int.reduceAdd,Int.reduceSub,Int.reduceMul,Int.reduceNeg,Int.reduceLT,Int.reduceLE,Int.reduceEq,Int.reduceToNat,Int.cast_ofNat_Int,↓reduceIte, a1, a2, a3, a7, a8, a9, a78, a79, ld_of cG, hmk8, iVk, eh, hdr_cells.1, hdr_cells.2, st1]
      refine (ih hk').go ?_
      simp (disch := (first | assumption | omega | (simp only [List.length_append, List.length_cons, List.length_nil]; omega))) only [↓wD,wU,Nat.reduceBEq,zx150,zx151,zx159,zx160,zx161,zx162,Nat.reduceAdd,Nat.reduceSub,Nat.reduceMul,Nat.reduceLeDiff,Nat.reduceLT,Nat.reduceEqDiff,Int.reduceAdd,Int.reduceSub,Int.reduceMul,Int.reduceNeg,Int.reduceLT,Int.reduceLE,Int.reduceEq,Int.reduceToNat,Int.cast_ofNat_Int,↓reduceIte, a1, a2, a3, a7, a8, a9, a78, a79]
      exact hz'
    · obtain rfl : V = k := by omega
      have mt := hz.mt (by omega)
      rw [eV] at mt
      have gl := hz.len
      have cG := hz.keep.get (List.getElem?_eq_some_iff.1 c1).1 c1
      have hsG := hs1.kp (hz.keep.weak fun b _ hb => by have := n1; omega).kp
      have hsL := hsG.lenV
      have c1l := (List.getElem?_eq_some_iff.1 c1).1
      simp (disch := (first | assumption | omega | (simp only [List.length_append, List.length_cons, List.length_nil]; omega))) only [↓wD,wU,Nat.reduceBEq,zx150,zx151,zx159,zx160,zx161,zx162,Nat.reduceAdd,Nat.reduceSub,Nat.reduceMul,Nat.reduceLeDiff,Nat.reduceLT,Nat.reduceEqDiff,Int.reduceAdd,Int.reduceSub,Int.reduceMul,Int.reduceNeg,Int.reduceLT,Int.reduceLE,Int.reduceEq,Int.reduceToNat,Int.cast_ofNat_Int,↓reduceIte, a1, a2, a3, a7, a8, a9, a78, a79, ld_of cG, hsL]
      refine Wp.for t.length (fun n a G' => a 1 = .i i ∧ a 2 = .i j ∧ a 3 = .p H.length 0 ∧ a 7 = .i m ∧ a 8 = .i er ∧ a 9 = Vv ∧ a 90 = r ∧ a 91 = .i t.length ∧ a 92 = .i n ∧ MT H1.length G' Vv (cntT V t i j n) ∧ Kp (fun b => b < H1.length) G G') ?_ ?_
      · clear a1 a2 a3 a7 a8 a9 a78 a79 hlt ih hk a
        rintro n a G2 hn ⟨a1, a2, a3, a7, a8, a9, a90, a91, a92, mm, kp⟩ ih
        have cl := kp.1
        simp (disch := (first | assumption | omega | (simp only [List.length_append, List.length_cons, List.length_nil]; omega))) only [↓wD,wU,Nat.reduceBEq,zx150,zx151,zx159,zx160,zx161,zx162,Nat.reduceAdd,Nat.reduceSub,Nat.reduceMul,Nat.reduceLeDiff,Nat.reduceLT,Nat.reduceEqDiff,Int.reduceAdd,Int.reduceSub,Int.reduceMul,Int.reduceNeg,Int.reduceLT,Int.reduceLE,Int.reduceEq,Int.reduceToNat,Int.cast_ofNat_Int,↓reduceIte, a1, a2, a3, a7, a8, a9, a90, a91, a92]
        refine condP_split (fun hlt => ?_) (fun hlt => ?_)
        · have hn' : n < t.length := by omega
          have hsr := (hsG.weak (q := fun b => b < H1.length) fun b hb => by omega).kp kp
          have rL := hsr.L
          have g := hsr.get (k := (n : Int)) (by omega) (by omega)
          have gI := g.I
          have hrow := hA.2.2.2.2 _ (mem_gi hn')
          have hrl : (gi t (n : Int)).length = wd t := hrow.1
          rw [hrl] at gI
          have ai := arr_in hA (mem_gi hn') hi
          have aj := arr_in hA (mem_gi hn') hj
          obtain ⟨A, eA⟩ := Int.eq_ofNat_of_zero_le ai.1
          obtain ⟨B, eB⟩ := Int.eq_ofNat_of_zero_le aj.1
          have hAV : A < V := by omega
          have hBV : B < V := by omega
          have mL := mm.sl.L
          rw [cntT_len] at mL
          have row := mm.sl.get (k := (A : Int)) (by omega) (by rw [cntT_len]; omega)
          have rI := row.I
          have rl : (gi (cntT V t i j n) (A : Int)).length = V := by rw [cntT_row hAV]; simp
          rw [rl] at rI
          have st := cntT_s hn' hAV hBV eA eB
          have hb : gi (gi (cntT V t i j n) (A : Int)) (B : Int) = (prs (t.take n) i j (A : Int) (B : Int) : Int) := cntT_gi hAV hBV
          have hpl : prs (t.take n) i j (A : Int) (B : Int) ≤ 16 := Nat.le_trans List.countP_le_length (by rw [List.length_take]; have := hA.2.2.2.1; omega)
          rw [hb] at st
          simp (disch := (first | assumption | omega | (simp only [List.length_append, List.length_cons, List.length_nil]; omega))) only [↓wD,wU,Nat.reduceBEq,zx150,zx151,zx159,zx160,zx161,zx162,Nat.reduceAdd,Nat.reduceSub,Nat.reduceMul,Nat.reduceLeDiff,Nat.reduceLT,Nat.reduceEqDiff,Int.reduceAdd,Int.reduceSub,Int.reduceMul,Int.reduceNeg,Int.reduceLT,Int.reduceLE,Int.reduceEq,Int.reduceToNat,Int.cast_ofNat_Int,↓reduceIte, a1, a2, a3, a7, a8, a9, a90, a91, a92, rL, gI, eA, eB, mL, rI, hb]
          refine mm.store (lo := H.length) (by omega) (by omega) (by rw [cntT_len]; omega) (by omega) (by rw [rl]; omega) fun G3 mm3 kp3 n3 => ?_
          rw [Int.toNat_natCast, Int.toNat_natCast, st] at mm3
          simp (disch := (first | assumption | omega | (simp only [List.length_append, List.length_cons, List.length_nil]; omega))) only [↓wD,wU,Nat.reduceBEq,zx150,zx151,zx159,zx160,zx161,zx162,Nat.reduceAdd,Nat.reduceSub,Nat.reduceMul,Nat.reduceLeDiff,Nat.reduceLT,Nat.reduceEqDiff,Int.reduceAdd,Int.reduceSub,Int.reduceMul,Int.reduceNeg,Int.reduceLT,Int.reduceLE,Int.reduceEq,Int.reduceToNat,Int.cast_ofNat_Int,↓reduceIte, a1, a2, a3, a7, a8, a9, a90, a91, a92]
          refine (ih hn').go ?_
          simp (disch := (first | assumption | omega | (simp only [List.length_append, List.length_cons, List.length_nil]; omega))) only [↓wD,wU,Nat.reduceBEq,zx150,zx151,zx159,zx160,zx161,zx162,Nat.reduceAdd,Nat.reduceSub,Nat.reduceMul,Nat.reduceLeDiff,Nat.reduceLT,Nat.reduceEqDiff,Int.reduceAdd,Int.reduceSub,Int.reduceMul,Int.reduceNeg,Int.reduceLT,Int.reduceLE,Int.reduceEq,Int.reduceToNat,Int.cast_ofNat_Int,↓reduceIte, a1, a2, a3, a7, a8, a9, a90, a91, a92]
          exact ⟨mm3, kp.trans kp3 fun _ h => h⟩
        · obtain rfl : n = t.length := by omega
          rcases e8 with rfl | rfl
          case inr =>
            simp (disch := (first | assumption | omega | (simp only [List.length_append, List.length_cons, List.length_nil]; omega))) only [↓wD,wU,Nat.reduceBEq,zx150,zx151,zx159,zx160,zx161,zx162,Nat.reduceAdd,Nat.reduceSub,Nat.reduceMul,Nat.reduceLeDiff,Nat.reduceLT,Nat.reduceEqDiff,Int.reduceAdd,Int.reduceSub,Int.reduceMul,Int.reduceNeg,Int.reduceLT,Int.reduceLE,Int.reduceEq,Int.reduceToNat,Int.cast_ofNat_Int,↓reduceIte, a1, a2, a3, a7, a8, a9, a90, a91, a92, apart_ret.call]
          obtain ⟨hm0, hidx⟩ := e48 rfl
          obtain ⟨M, hM, hM1, hall⟩ := pairs_all hA hw2 (by rw [hidx]; exact hm0)
          have hMm : m = (M : Int) := by rw [← hidx, hM1]
          have hpr := hall i j hij hi hj
          have hU := uni_of hA hv3 hi hj hM hpr
          rw [Int.toNat_natCast] at hU
          have ecnt : cntT V t i j t.length = uniT V M := by
            unfold cntT uniT
            rw [List.take_length]
            apply List.ext_getElem (by simp)
            intro a q1 q2
            simp only [List.getElem_map, List.getElem_range, List.getElem_replicate]
            apply List.ext_getElem (by simp)
            intro b q3 q4
            simp only [List.getElem_map, List.getElem_range, List.getElem_replicate]
            rw [hpr a b (by omega) (by simp at q1; omega) (by omega) (by simp at q3; omega)]
          rw [ecnt] at mm
          clear ih a1 a2 a90 a91 a92 hlt hn
          have ul : (uniT V M).length = V := by simp [uniT]
          have urow : ∀ a : Nat, a < V → gi (uniT V M) (a : Int) = List.replicate V (M : Int) := fun a ha => by
            rw [gi_nat (by rw [ul]; exact ha)]; simp [uniT]
          have mL := mm.sl.L
          rw [ul] at mL
          subst hMm
          have hV3 : V ≤ 3 := by omega
          simp (disch := (first | assumption | omega | (simp only [List.length_append, List.length_cons, List.length_nil]; omega))) only [↓wD,wU,Nat.reduceBEq,zx150,zx151,zx159,zx160,zx161,zx162,Nat.reduceAdd,Nat.reduceSub,Nat.reduceMul,Nat.reduceLeDiff,Nat.reduceLT,Nat.reduceEqDiff,Int.reduceAdd,Int.reduceSub,Int.reduceMul,Int.reduceNeg,Int.reduceLT,Int.reduceLE,Int.reduceEq,Int.reduceToNat,Int.cast_ofNat_Int,↓reduceIte, a7, a8, a9, lV]
          refine Wp.for V (fun n a G' => G' = G2 ∧ a 7 = .i M ∧ a 8 = .i 0 ∧ a 9 = Vv ∧ a 119 = Vv ∧ a 120 = .i V ∧ a 121 = .i n) ?_ ?_
          · clear a3 a7 a8 a9 a
            rintro n a G' hn ⟨rfl, a7, a8, a9, a119, a120, a121⟩ ih
            simp (disch := (first | assumption | omega | (simp only [List.length_append, List.length_cons, List.length_nil]; omega))) only [↓wD,wU,Nat.reduceBEq,zx150,zx151,zx159,zx160,zx161,zx162,Nat.reduceAdd,Nat.reduceSub,Nat.reduceMul,Nat.reduceLeDiff,Nat.reduceLT,Nat.reduceEqDiff,Int.reduceAdd,Int.reduceSub,Int.reduceMul,Int.reduceNeg,Int.reduceLT,Int.reduceLE,Int.reduceEq,Int.reduceToNat,Int.cast_ofNat_Int,↓reduceIte, a7, a8, a9, a119, a120, a121]
            refine condP_split (fun hlt => ?_) (fun hlt => ?_)
            · have hn' : n < V := by omega
              have row := mm.sl.get (k := (n : Int)) (by omega) (by rw [ul]; omega)
              rw [urow n hn'] at row
              have rI := row.I
              rw [List.length_replicate] at rI
              obtain ⟨y, ey⟩ : ∃ y, Vv.get G' (n : Int) = y := ⟨_, rfl⟩
              rw [ey] at rI
              simp (disch := (first | assumption | omega | (simp only [List.length_append, List.length_cons, List.length_nil]; omega))) only [↓wD,wU,Nat.reduceBEq,zx150,zx151,zx159,zx160,zx161,zx162,Nat.reduceAdd,Nat.reduceSub,Nat.reduceMul,Nat.reduceLeDiff,Nat.reduceLT,Nat.reduceEqDiff,Int.reduceAdd,Int.reduceSub,Int.reduceMul,Int.reduceNeg,Int.reduceLT,Int.reduceLE,Int.reduceEq,Int.reduceToNat,Int.cast_ofNat_Int,↓reduceIte, a7, a8, a9, a119, a120, a121, mL, ey, rI]
              refine Wp.for V (fun c a K => K = G' ∧ a 7 = .i M ∧ a 8 = .i 0 ∧ a 9 = Vv ∧ a 119 = Vv ∧ a 120 = .i V ∧ a 121 = .i n ∧ a 125 = y ∧ a 126 = .i V ∧ a 127 = .i c) ?_ ?_
              · clear a7 a8 a9 a119 a120 a121 hlt a
                rintro c a K hc ⟨rfl, a7, a8, a9, a119, a120, a121, a125, a126, a127⟩ ih2
                simp (disch := (first | assumption | omega | (simp only [List.length_append, List.length_cons, List.length_nil]; omega))) only [↓wD,wU,Nat.reduceBEq,zx150,zx151,zx159,zx160,zx161,zx162,Nat.reduceAdd,Nat.reduceSub,Nat.reduceMul,Nat.reduceLeDiff,Nat.reduceLT,Nat.reduceEqDiff,Int.reduceAdd,Int.reduceSub,Int.reduceMul,Int.reduceNeg,Int.reduceLT,Int.reduceLE,Int.reduceEq,Int.reduceToNat,Int.cast_ofNat_Int,↓reduceIte, a7, a8, a9, a119, a120, a121, a125, a126, a127]
                refine condP_split (fun hlt => ?_) (fun hlt => ?_)
                · have hc' : c < V := by omega
                  have ec : gi (List.replicate V (M : Int)) (c : Int) = M := by rw [gi_nat (by simpa using hc')]; simp
                  have hne : decide (¬ (M : Int) = M) = false := decide_eq_false fun q => q rfl
                  simp (disch := (first | assumption | omega | (simp only [List.length_append, List.length_cons, List.length_nil]; omega))) only [↓wD,wU,Nat.reduceBEq,zx150,zx151,zx159,zx160,zx161,zx162,Nat.reduceAdd,Nat.reduceSub,Nat.reduceMul,Nat.reduceLeDiff,Nat.reduceLT,Nat.reduceEqDiff,Int.reduceAdd,Int.reduceSub,Int.reduceMul,Int.reduceNeg,Int.reduceLT,Int.reduceLE,Int.reduceEq,Int.reduceToNat,Int.cast_ofNat_Int,↓reduceIte, a7, a8, a9, a119, a120, a121, a125, a126, a127, rI, ec, hne]
                  refine (ih2 hc').go ?_
                  simp (disch := (first | assumption | omega | (simp only [List.length_append, List.length_cons, List.length_nil]; omega))) only [↓wD,wU,Nat.reduceBEq,zx150,zx151,zx159,zx160,zx161,zx162,Nat.reduceAdd,Nat.reduceSub,Nat.reduceMul,Nat.reduceLeDiff,Nat.reduceLT,Nat.reduceEqDiff,Int.reduceAdd,Int.reduceSub,Int.reduceMul,Int.reduceNeg,Int.reduceLT,Int.reduceLE,Int.reduceEq,Int.reduceToNat,Int.cast_ofNat_Int,↓reduceIte, a7, a8, a9, a119, a120, a121, a125, a126, a127]
                · simp (disch := (first | assumption | omega | (simp only [List.length_append, List.length_cons, List.length_nil]; omega))) only [↓wD,wU,Nat.reduceBEq,zx150,zx151,zx159,zx160,zx161,zx162,Nat.reduceAdd,Nat.reduceSub,Nat.reduceMul,Nat.reduceLeDiff,Nat.reduceLT,Nat.reduceEqDiff,Int.reduceAdd,Int.reduceSub,Int.reduceMul,Int.reduceNeg,Int.reduceLT,Int.reduceLE,Int.reduceEq,Int.reduceToNat,Int.cast_ofNat_Int,↓reduceIte, a7, a8, a9, a119, a120, a121, a125, a126, a127]
                  refine (ih hn').go ?_
                  simp (disch := (first | assumption | omega | (simp only [List.length_append, List.length_cons, List.length_nil]; omega))) only [↓wD,wU,Nat.reduceBEq,zx150,zx151,zx159,zx160,zx161,zx162,Nat.reduceAdd,Nat.reduceSub,Nat.reduceMul,Nat.reduceLeDiff,Nat.reduceLT,Nat.reduceEqDiff,Int.reduceAdd,Int.reduceSub,Int.reduceMul,Int.reduceNeg,Int.reduceLT,Int.reduceLE,Int.reduceEq,Int.reduceToNat,Int.cast_ofNat_Int,↓reduceIte, a7, a8, a9, a119, a120, a121]
              · simp (disch := (first | assumption | omega | (simp only [List.length_append, List.length_cons, List.length_nil]; omega))) only [↓wD,wU,Nat.reduceBEq,zx150,zx151,zx159,zx160,zx161,zx162,Nat.reduceAdd,Nat.reduceSub,Nat.reduceMul,Nat.reduceLeDiff,Nat.reduceLT,Nat.reduceEqDiff,Int.reduceAdd,Int.reduceSub,Int.reduceMul,Int.reduceNeg,Int.reduceLT,Int.reduceLE,Int.reduceEq,Int.reduceToNat,Int.cast_ofNat_Int,↓reduceIte, a7, a8, a9, a119, a120, a121]
            · simp (disch := (first | assumption | omega | (simp only [List.length_append, List.length_cons, List.length_nil]; omega))) only [↓wD,wU,Nat.reduceBEq,zx150,zx151,zx159,zx160,zx161,zx162,Nat.reduceAdd,Nat.reduceSub,Nat.reduceMul,Nat.reduceLeDiff,Nat.reduceLT,Nat.reduceEqDiff,Int.reduceAdd,Int.reduceSub,Int.reduceMul,Int.reduceNeg,Int.reduceLT,Int.reduceLE,Int.reduceEq,Int.reduceToNat,Int.cast_ofNat_Int,↓reduceIte, a7, a8, a9, a119, a120, a121, lV]
              have hlG := List.getElem?_eq_some_iff.1 c1
              refine Wp.for V (fun n a K => ∃ z, a 7 = .i M ∧ a 8 = .i 0 ∧ a 9 = Vv ∧ a 17 = z ∧ a 136 = Vv ∧ a 137 = .i V ∧ a 138 = .i n ∧ Gr G' K ∧ Acc G'.length (fun b => G'.length ≤ b) K z ((uniT V M).take n)) ?_ ?_
              · clear a7 a8 a9 a119 a120 a121 hlt ih hn a
                rintro n a K hn ⟨z, a7, a8, a9, a17, a136, a137, a138, hg, hz2⟩ ih
                have hgl := hg.1
                simp (disch := (first | assumption | omega | (simp only [List.length_append, List.length_cons, List.length_nil]; omega))) only [↓wD,wU,Nat.reduceBEq,zx150,zx151,zx159,zx160,zx161,zx162,Nat.reduceAdd,Nat.reduceSub,Nat.reduceMul,Nat.reduceLeDiff,Nat.reduceLT,Nat.reduceEqDiff,Int.reduceAdd,Int.reduceSub,Int.reduceMul,Int.reduceNeg,Int.reduceLT,Int.reduceLE,Int.reduceEq,Int.reduceToNat,Int.cast_ofNat_Int,↓reduceIte, a7, a8, a9, a17, a136, a137, a138]
                refine condP_split (fun hlt => ?_) (fun hlt => ?_)
                · have hn' : n < V := by omega
                  have sK := mm.sl.gr hg
                  have kL := sK.L
                  rw [ul] at kL
                  have row := sK.get (k := (n : Int)) (by omega) (by rw [ul]; omega)
                  have etk : (uniT V M).take (n + 1) = (uniT V M).take n ++ [gi (uniT V M) (n : Int)] := take_gi (by rw [ul]; exact hn')
                  simp (disch := (first | assumption | omega | (simp only [List.length_append, List.length_cons, List.length_nil]; omega))) only [↓wD,wU,Nat.reduceBEq,zx150,zx151,zx159,zx160,zx161,zx162,Nat.reduceAdd,Nat.reduceSub,Nat.reduceMul,Nat.reduceLeDiff,Nat.reduceLT,Nat.reduceEqDiff,Int.reduceAdd,Int.reduceSub,Int.reduceMul,Int.reduceNeg,Int.reduceLT,Int.reduceLE,Int.reduceEq,Int.reduceToNat,Int.cast_ofNat_Int,↓reduceIte, a7, a8, a9, a17, a136, a137, a138, kL]
                  refine (clone_ret row (by rw [urow n hn', List.length_replicate]; omega)).toF fun y K2 hg2 hy => ?_
                  have hl2 := hg2.1
                  simp (disch := (first | assumption | omega | (simp only [List.length_append, List.length_cons, List.length_nil]; omega))) only [↓wD,wU,Nat.reduceBEq,zx150,zx151,zx159,zx160,zx161,zx162,Nat.reduceAdd,Nat.reduceSub,Nat.reduceMul,Nat.reduceLeDiff,Nat.reduceLT,Nat.reduceEqDiff,Int.reduceAdd,Int.reduceSub,Int.reduceMul,Int.reduceNeg,Int.reduceLT,Int.reduceLE,Int.reduceEq,Int.reduceToNat,Int.cast_ofNat_Int,↓reduceIte, hy.cellsV, a7, a8, a9, a17, a136, a137, a138]
                  refine (hz2.gr hg2).pushL (by omega) (by omega) hy (fun b hb => ⟨by omega, fun e => by have := hz2.blk_lt e; omega⟩) ?_ fun z' K3 hz3 hk3 hl3 _ => ?_
                  · rw [List.length_take, ul]; omega
                  · simp (disch := (first | assumption | omega | (simp only [List.length_append, List.length_cons, List.length_nil]; omega))) only [↓wD,wU,Nat.reduceBEq,zx150,zx151,zx159,zx160,zx161,zx162,Nat.reduceAdd,Nat.reduceSub,Nat.reduceMul,Nat.reduceLeDiff,Nat.reduceLT,Nat.reduceEqDiff,Int.reduceAdd,Int.reduceSub,Int.reduceMul,Int.reduceNeg,Int.reduceLT,Int.reduceLE,Int.reduceEq,Int.reduceToNat,Int.cast_ofNat_Int,↓reduceIte, a7, a8, a9, a17, a136, a137, a138]
                    refine (ih hn').go ⟨z', ?_⟩
                    simp (disch := (first | assumption | omega | (simp only [List.length_append, List.length_cons, List.length_nil]; omega))) only [↓wD,wU,Nat.reduceBEq,zx150,zx151,zx159,zx160,zx161,zx162,Nat.reduceAdd,Nat.reduceSub,Nat.reduceMul,Nat.reduceLeDiff,Nat.reduceLT,Nat.reduceEqDiff,Int.reduceAdd,Int.reduceSub,Int.reduceMul,Int.reduceNeg,Int.reduceLT,Int.reduceLE,Int.reduceEq,Int.reduceToNat,Int.cast_ofNat_Int,↓reduceIte, a7, a8, a9, a17, a136, a137, a138]
                    rw [etk]
                    exact ⟨(hg.trans hg2).push (hz2.gr hg2) (Nat.le_refl _) hk3, hz3⟩
                · obtain rfl : n = V := by omega
                  have et : (uniT n M).take n = uniT n M := List.take_of_length_le (by rw [ul]; omega)
                  rw [et] at hz2
                  have sK := mm.sl.gr hg
                  have of := off_ret sK (uni_full hU)
                  rw [uni_off hU] at of
                  have ta := tail_ret hz2.sl (uni_ok hU)
                  rw [uni_tail hU] at ta
                  have st0 : ∀ (G : Heap) (x y : Int), H.length ≤ G.length → st H.length (G ++ [Blk.cells [.i 0, .i 0]]) G.length 0 [.i x, .i y] = some (G ++ [Blk.cells [.i x, .i y]]) := fun G x y hG => by
                    rw [st_of get_last hG (by simp)]
                    congr 1
                    simp [wr]
                  have s1 := st0 K 0 1 (by omega)
                  have x1 : Kx (fun _ => True) K (K ++ [Blk.cells [.i 0, .i 1]]) := Kx.app _ _ _
                  have ta2 := tail_ret (hz2.sl.kp (x1.all _).kp) (uni_ok hU)
                  rw [uni_tail hU] at ta2
                  have g20 : (K ++ [Blk.cells [.i 0, .i 1]])[K.length]? = some (.cells [.i 0, .i 1]) := get_last
                  have nK : (K ++ [Blk.cells [.i 0, .i 1]]).length = K.length + 1 := by simp
                  generalize hK1 : K ++ [Blk.cells [.i 0, .i 1]] = K1 at *
                  have s2 := st0 K1 1 1 (by omega)
                  have g22 : (K1 ++ [Blk.cells [.i 1, .i 1]])[K1.length]? = some (.cells [.i 1, .i 1]) := get_last
                  have g201 : (K1 ++ [Blk.cells [.i 1, .i 1]])[K.length]? = some (.cells [.i 0, .i 1]) := (Kx.app (fun _ => True) K1 _).get trivial g20
                  simp (disch := (first | assumption | omega | (simp only [List.length_append, List.length_cons, List.length_nil]; omega))) only [↓wD,wU,Nat.reduceBEq,zx150,zx151,zx159,zx160,zx161,zx162,Nat.reduceAdd,Nat.reduceSub,Nat.reduceMul,Nat.reduceLeDiff,Nat.reduceLT,Nat.reduceEqDiff,Int.reduceAdd,Int.reduceSub,Int.reduceMul,Int.reduceNeg,Int.reduceLT,Int.reduceLE,Int.reduceEq,Int.reduceToNat,Int.cast_ofNat_Int,↓reduceIte, a7, a8, a9, a17, a136, a137, a138, of.call, s1, hK1, ta2.call, s2, ldn_of g22, ldn_of g201, ldn_of g20, apart_ret.call]
              · simp (disch := (first | assumption | omega | (simp only [List.length_append, List.length_cons, List.length_nil]; omega))) only [↓wD,wU,Nat.reduceBEq,zx150,zx151,zx159,zx160,zx161,zx162,Nat.reduceAdd,Nat.reduceSub,Nat.reduceMul,Nat.reduceLeDiff,Nat.reduceLT,Nat.reduceEqDiff,Int.reduceAdd,Int.reduceSub,Int.reduceMul,Int.reduceNeg,Int.reduceLT,Int.reduceLE,Int.reduceEq,Int.reduceToNat,Int.cast_ofNat_Int,↓reduceIte, a7, a8, a9]
                exact ⟨.nils, rfl, Gr.refl _, Acc.nil⟩
          · simp (disch := (first | assumption | omega | (simp only [List.length_append, List.length_cons, List.length_nil]; omega))) only [↓wD,wU,Nat.reduceBEq,zx150,zx151,zx159,zx160,zx161,zx162,Nat.reduceAdd,Nat.reduceSub,Nat.reduceMul,Nat.reduceLeDiff,Nat.reduceLT,Nat.reduceEqDiff,Int.reduceAdd,Int.reduceSub,Int.reduceMul,Int.reduceNeg,Int.reduceLT,Int.reduceLE,Int.reduceEq,Int.reduceToNat,Int.cast_ofNat_Int,↓reduceIte, a7, a8, a9]
      · simp (disch := (first | assumption | omega | (simp only [List.length_append, List.length_cons, List.length_nil]; omega))) only [↓wD,wU,Nat.reduceBEq,zx150,zx151,zx159,zx160,zx161,zx162,Nat.reduceAdd,Nat.reduceSub,Nat.reduceMul,Nat.reduceLeDiff,Nat.reduceLT,Nat.reduceEqDiff,Int.reduceAdd,Int.reduceSub,Int.reduceMul,Int.reduceNeg,Int.reduceLT,Int.reduceLE,Int.reduceEq,Int.reduceToNat,Int.cast_ofNat_Int,↓reduceIte, a1, a2, a3, a7, a8, a9]
        rw [cntT_0]
        exact ⟨mt, Kp.refl _ _⟩
  · simp (disch := (first | assumption | omega | (simp only [List.length_append, List.length_cons, List.length_nil]; omega))) only [↓wD,wU,Nat.reduceBEq,zx150,zx151,zx159,zx160,zx161,zx162,Nat.reduceAdd,Nat.reduceSub,Nat.reduceMul,Nat.reduceLeDiff,Nat.reduceLT,Nat.reduceEqDiff,Int.reduceAdd,Int.reduceSub,Int.reduceMul,Int.reduceNeg,Int.reduceLT,Int.reduceLE,Int.reduceEq,Int.reduceToNat,Int.cast_ofNat_Int,↓reduceIte, eV]
    exact Zk.zero
end Go.Proofs.Ytmmbakggmlfffaa
