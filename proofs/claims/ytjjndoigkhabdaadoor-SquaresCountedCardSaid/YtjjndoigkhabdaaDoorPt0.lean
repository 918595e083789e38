/- What the law needs: what its functions do, and the laws on lists behind it. No condition. -/
import Derived.Test.YtjjndoigkhabdaaDoorPi
import Derived.Test.YtjjndoigkhabdaaDoorBo
import Derived.Lib.TrailingZeros
import Derived.Shelf.Spec.TrailingZeros
import Derived.KernelRfl
import Derived.Laws.StructEq
import Derived.Test.YtjjndoigkhabdaaDoorRows
import Derived.ProofKit
import Derived.LaidMore
import Derived.OpenShut
import Derived.Stop.Joined
import Derived.WalkKit
import Derived.ShutString
import Derived.ChangeOld
import Derived.Below
import Derived.SizedLaws
import Derived.Carry
import Derived.SevenTiedAt
set_option linter.unusedSimpArgs false
set_option linter.unusedVariables false
namespace Go.Proofs.YtjjndoigkhabdaaDoor
open Go Go.AM Go.Proofs Go.Shelf Go.RowKit
def tzRen : Ren where
  f n := if n = 27 then 87 else if n = 28 then 108 else 109
  t n := if n = 22 then 112 else if n = 25 then 65 else if n = 27 then 110 else if n = 53 then 117 else if n = 54 then 118 else n
  g n := n
theorem tzLays : Lays7.n27 Tryd.prog tzRen where
  mixed := by kernel_rfl
  f27 := by kernel_rfl
  f28 := by kernel_rfl
  f29 := by kernel_rfl
  t0 := by kernel_rfl
  a0 := fun w => by kernel_rfl
  z0 := fun w => by kernel_rfl
  v0 := fun w => by kernel_rfl
  i0 := by kernel_rfl
  t3 := by kernel_rfl
  a3 := fun w => by kernel_rfl
  z3 := fun w => by kernel_rfl
  v3 := fun w => by kernel_rfl
  i3 := by kernel_rfl
  t4 := by kernel_rfl
  a4 := fun w => by kernel_rfl
  z4 := fun w => by kernel_rfl
  v4 := fun w => by kernel_rfl
  i4 := by kernel_rfl
  t5 := by kernel_rfl
  a5 := fun w => by kernel_rfl
  z5 := fun w => by kernel_rfl
  v5 := fun w => by kernel_rfl
  i5 := by kernel_rfl
  t22 := by kernel_rfl
  a22 := fun w => by kernel_rfl
  z22 := fun w => by kernel_rfl
  v22 := fun w => by kernel_rfl
  i22 := by kernel_rfl
  t25 := by kernel_rfl
  a25 := fun w => by kernel_rfl
  z25 := fun w => by kernel_rfl
  v25 := fun w => by kernel_rfl
  i25 := by kernel_rfl
  t27 := by kernel_rfl
  a27 := fun w => by kernel_rfl
  z27 := fun w => by kernel_rfl
  v27 := fun w => by kernel_rfl
  i27 := by kernel_rfl
  t53 := by kernel_rfl
  a53 := fun w => by kernel_rfl
  z53 := fun w => by kernel_rfl
  v53 := fun w => by kernel_rfl
  i53 := by kernel_rfl
  t54 := by kernel_rfl
  a54 := fun w => by kernel_rfl
  z54 := fun w => by kernel_rfl
  g0 := by kernel_rfl
  g1 := by kernel_rfl
/-- the library's table lies in its variable -/
def TzI (w : World) : Prop := TabAt 1 Lib.deBruijn64tab w
theorem tzI_stable : Stable TzI := fun w w' h hb j hj => by
  have h1 := h j hj
  have hlt : (1 : Nat) < w.heap.size := by
    rcases Nat.lt_or_ge 1 w.heap.size with q | q
    · exact q
    · simp [World.cell?, Array.getElem?_eq_none q] at h1
  rw [← h1]
  exact hb.cell hlt
theorem tz_prim (I : World → Prop) (hI : ∀ w, I w → TzI w) : ∀ (vs : List AV) (v : AV) (args : Array Value) (w : World), tzP vs = some v → VRelL (fun _ => none) vs args.toList → I w → ∀ cs, ∃ x w', Rets Tryd.prog 87 args cs w x w' ∧ VRel (fun _ => none) v x ∧ Below w.heap.size w w' := by
  intro vs v args w hv hr hw cs
  obtain ⟨n, rfl, h0, h1, rfl⟩ : ∃ n : Int, vs = [.int .u64 n] ∧ 0 ≤ n ∧ n ≤ 18446744073709551615 ∧ v = .i (Lib.ctz 64 n.toNat : Nat) := by
    unfold tzP at hv
    split at hv
    · rename_i n
      split at hv
      · rename_i h
        simp only [Option.some.injEq] at hv
        exact ⟨n, rfl, h.1, h.2, hv.symm⟩
      · cases hv
    · cases hv
  obtain ⟨n, rfl⟩ := Int.eq_ofNat_of_zero_le h0
  have ha : args = #[.int .u64 (n : Int)] := by
    simp only [VRelL] at hr
    obtain ⟨x, xs, e, hx, hxs⟩ := hr
    simp only [VRel] at hx
    cases args
    simp_all
  subst ha
  obtain ⟨e, w', fr, ⟨rfl, rfl⟩, hc, hf, hl⟩ := Any7.bits_TrailingZeros tzLays n (by omega) w (fun _ => hI w hw) cs
  exact ⟨_, _, ⟨fr, hc, hf, hl⟩, by simp [VRel], Below.refl _ _⟩
theorem tz_enters : Enters' Tryd.prog 87 := enters_of tzLays.f27 (by kernel_rfl) rfl
end Go.Proofs.YtjjndoigkhabdaaDoor
namespace Go.Proofs.YtjjndoigkhabdaaDoor
open Go Go.AM Go.Proofs Go.RowKit
theorem list2 {xs : List Int} (h : xs.length = 2) : ∃ a b, xs = [a, b] := by
  match xs, h with
  | [a, b], _ => exact ⟨a, b, rfl⟩
theorem eq72 (w : World) (x0 x1 y0 y1 : Int) : (Op.equalIn 10000 72 (.agg #[.int .i64 x0, .int .i64 x1]) (.agg #[.int .i64 y0, .int .i64 y1])).run C.P w = .ok ([x0, x1] == [y0, y1]) w := by
  rw [run_equalIn_struct w 9999 72 _ _ (by kernel_rfl) (by kernel_rfl)]
  have hi : Tryd.prog.underlying 3 = some (.int .i64) := Tryd.underlying3
  have e : ∀ a b : Int, (Op.equalIn 9999 3 (.int .i64 a) (.int .i64 b)).run Tryd.prog w = .ok (a == b) w := fun a b => run_equalIn_int w 9998 3 .i64 .i64 a b hi
  have pt : ∀ (a b : Int) (k : Nat), k < 2 → (part 3 #[.int .i64 a, .int .i64 b] k).run Tryd.prog w = .ok (.int .i64 (if k = 0 then a else b)) w := by
    intro a b k hk
    have : k = 0 ∨ k = 1 := by omega
    rcases this with rfl | rfl <;> go_simp
  simp [Tryd.underlying72, Program.fieldsOf, C, Op.eqFields, pt, e]
  by_cases h1 : x0 = y0 <;> by_cases h2 : x1 = y1 <;> simp [h1, h2]
theorem eqOk : EqOk C := by
  intro t n ht xs ys hx hy neg xo yo w
  obtain ⟨rfl, rfl⟩ : t = 72 ∧ n = 2 := by
    simp only [C] at ht
    split at ht
    · rename_i h; cases ht; exact ⟨by simpa using h, rfl⟩
    · cases ht
  obtain ⟨x0, x1, rfl⟩ := list2 hx
  obtain ⟨y0, y1, rfl⟩ := list2 hy
  have g : ∀ op, (eqGuard op 72 xo yo (.agg (ints [x0, x1])) (.agg (ints [y0, y1]))).run C.P w = .ok () w := fun op => run_eqGuard_agg w op 72 xo yo _ _ (by kernel_rfl)
  have e := eq72 w x0 x1 y0 y1
  cases neg
  · simp only [Bool.false_eq_true, if_false, Sem.run_bind, g, Result.andThen_ok, run_eql_struct]
    simp [ints] at e ⊢; rw [e]; rfl
  · simp only [if_true, Sem.run_bind, g, Result.andThen_ok, run_neq_struct]
    simp [ints] at e ⊢; rw [e]; simp [Result.andThen, Bool.not_and]
theorem eOk : EOk C TzI E where
  kd := rfl
  fn := fun f af h => tab_ok (f, af) (lookup_mem h)
  prim := fun f g h => by
    simp only [C, kd] at h
    split at h
    · cases h
    · split at h
      · cases h
      · split at h
        · rename_i e
          cases h
          subst e
          exact ⟨tz_enters, tz_prim TzI fun _ h => h⟩
        · cases h
  stable := tzI_stable
  eq := eqOk
  mixed := mixed
theorem hrelI {ρ : Mp} {H : Heap} {w : World} {I : World → Prop} (h : FRel C ρ H w) (hI : I w) : HRel C I ρ H.length w H w where
  below := Below.refl _ _
  inv := hI
  lt := Nat.le_refl _
  dom := h.1
  own b r e hb := absurd (h.1 b r e) (by omega)
  apart b b' r r' k k' e _ hb := absurd (h.1 b r e) (by omega)
  blk b r k e hk := by
    have hb : ¬ H.length ≤ b := by have := h.1 b r e; omega
    have := h.2 b r k e hk
    cases k with
    | cells vs => exact ⟨this.1, fun q => absurd q hb, fun _ => this.2.2 (fun q => q)⟩
    | dead => trivial
    | loop st pend nt fr ps asg body => exact fun q => absurd q hb
/-- from the abstract machine to the row's walk -/
theorem walk_lawI {f : Nat} {vs : List AV} {H : Heap} (hx : WpF E H.length f vs H fun v _ => v = .b true) {ρ : Mp} {w : World} (hF : FRel C ρ H w) (hI : TzI w) {args : Array Value} (ha : VRelL ρ vs args.toList) :
    Calls C.P f args w fun e W' => e = .returned (.bool true) ∧ Below w.heap.size w W' := by
  obtain ⟨n, v, H', h1, rfl⟩ := hx
  refine (calls_of eOk rfl h1 (hrelI hF hI) ha (Nat.le_refl _)).mono fun e W' h => ?_
  obtain ⟨ρ', x, rfl, h2, h3, _⟩ := h
  rw [h2.bool]
  exact ⟨rfl, h3.below⟩
end Go.Proofs.YtjjndoigkhabdaaDoor
namespace Go.Proofs.YtjjndoigkhabdaaDoor
open Go Go.AM Go.Proofs Go.ChangeShapes Go.WideShapes Go.ChangeAt Go.WideMaps Go.WideElems Go.RowKit
theorem gT64 : Tryd.prog.globalNamed "math/bits.deBruijn64tab" = some 1 := by kernel_rfl
theorem tT64 : (Tryd.prog.globals[1]?).map (·.type) = some 118 := by kernel_rfl
abbrev laid2 {H : Type} : List (String × DataW H) := [("math/bits.deBruijn32tab", Rows.laid_math_bits_deBruijn32tab), ("math/bits.deBruijn64tab", Rows.laid_math_bits_deBruijn64tab)]
/-- the door's own heap meets the condition -/
theorem door_met (os : Os) (args : Array Value) : laidMetH Tryd.prog laid2 ((World.doorLaid Tryd.prog 400 os).forCall (fun _ _ => 0) ⟨#[], args, []⟩).memory :=
  laidMetH_of_parts3 (fuel := 8) (laidMet_of_run' 8 (by kernel_rfl) (by kernel_rfl)) (by kernel_rfl) (by kernel_rfl)
theorem lits64 {H : Type} : ∃ l : List (DataW H), Rows.laid_math_bits_deBruijn64tab = .agg l ∧ l = Lib.deBruijn64tab.map fun k : Nat => .lit (.int .u8 (k : Int)) := ⟨_, rfl, rfl⟩
theorem tzI_of_laid {W : World} (h : laidMetH Tryd.prog laid2 W) : TzI W := by
  rw [MakeChecks.laidMetH_plain _ _ _ (by kernel_rfl)] at h
  obtain ⟨ps, ⟨g0, t0, cs0, f0, p0, q0, hg0, ht0, hv0, hd0, ⟨g1, t1, cs1, f1, p1, q1, hg1, ht1, hv1, hd1, _, _⟩, _⟩, _, _⟩ := h
  obtain rfl := Option.some.inj (gT64.symm.trans hg1)
  obtain rfl := Option.some.inj (tT64.symm.trans ht1)
  intro j hj
  have hj64 : j < 64 := hj
  obtain ⟨xs, m1, rfl, hx1, hlen, hn3, hel⟩ := DataW.trod_array Tryd.underlying118 hd1
  have c5 : Tryd.prog.cellsOf 5 = 1 := by kernel_rfl
  have h0 := hel j hj64
  obtain ⟨l, el, hl⟩ := lits64 (H := _)
  simp only [Prod.mk.injEq] at hx1
  rw [el] at hx1
  have hmap : l = xs.map (·.1) := by
    have := hx1.1
    simpa using this
  have hxj : xs[j]? = some (xs[j]'(by omega)) := List.getElem?_eq_getElem (by omega)
  rw [hxj, c5, Nat.mul_one] at h0
  obtain ⟨k, e1, e2, _⟩ := DataW.trod_int Tryd.underlying5 h0
  have e3 : l[j]? = some (xs[j]'(by omega)).1 := by rw [hmap, List.getElem?_map, hxj]; rfl
  rw [e2, hl, List.getElem?_map] at e3
  have e4 : Lib.deBruijn64tab[j]? = some (Lib.deBruijn64tab.getD j 0) := by
    rw [List.getD_eq_getElem?_getD]
    have : j < Lib.deBruijn64tab.length := hj
    rw [List.getElem?_eq_getElem this]; rfl
  rw [e4] at e3
  simp only [Option.map_some, Option.some.injEq, DataW.lit.injEq, Lit.int.injEq, true_and] at e3
  have hc := World.var?_cell hg1 hv1 j
  have e5 : cs1[j]? = some (.int .u8 k) := by
    have : (cs1.toList.drop j).take 1 = [.int .u8 k] := e1
    have := take1 this
    simpa using this
  rw [e5, ← e3] at hc
  exact hc
end Go.Proofs.YtjjndoigkhabdaaDoor
namespace Go.Proofs.YtjjndoigkhabdaaDoor
open Go Go.AM Go.Proofs
theorem equal_ret {p q : Nat → Prop} {H : Heap} {v u : AV} {xs ys : List Int} (hx : Sl p H v xs) (hy : Sl q H u ys) : RetP E 21 [v, u] H (.b (decide (xs = ys))) := by
  refine RetP.ro rfl fn21 rfl rfl ?_
  unfold f21A
  have hbx := hx.bound
  repeat' (first | refine condP_split (fun _ => ?_) (fun _ => ?_) | refine guardP_split (fun _ => ?_) (fun _ => ?_) | refine guardP_splitF (fun _ => ?_) (fun _ => ?_) | (simp (disch := (first | assumption | omega | (simp only [List.length_append, List.length_cons, List.length_nil]; omega))) only [↓wD,wU,Nat.reduceBEq,zx150,zx151,zx159,zx160,zx161,zx162,Nat.reduceAdd,Nat.reduceSub,Nat.reduceMul,Nat.reduceLeDiff,Nat.reduceLT,Nat.reduceEqDiff,Int.reduceAdd,Int.reduceSub,Int.reduceMul,Int.reduceNeg,Int.reduceLT,Int.reduceLE,Int.reduceEq,Int.reduceToNat,Int.cast_ofNat_Int,↓reduceIte, *, hx.I, hy.I]))
  · exact avb_f fun h => by simp_all
  · have hl : xs.length = ys.length := by omega
    refine Wp.for xs.length (fun i a H' => H' = H ∧ a 0 = v ∧ a 1 = u ∧ a 12 = .i xs.length ∧ a 13 = .i i ∧ xs.take i = ys.take i) ?_ ?_
    · rintro i a H' hi ⟨rfl, h0, h1, h12, h13, hh⟩ ih
      simp (disch := (first | assumption | omega | (simp only [List.length_append, List.length_cons, List.length_nil]; omega))) only [↓wD,wU,Nat.reduceBEq,zx150,zx151,zx159,zx160,zx161,zx162,Nat.reduceAdd,Nat.reduceSub,Nat.reduceMul,Nat.reduceLeDiff,Nat.reduceLT,Nat.reduceEqDiff,Int.reduceAdd,Int.reduceSub,Int.reduceMul,Int.reduceNeg,Int.reduceLT,Int.reduceLE,Int.reduceEq,Int.reduceToNat,Int.cast_ofNat_Int,↓reduceIte, *]
      refine condP_split (fun hlt => ?_) (fun hlt => ?_)
      · have hi' : i < xs.length := by omega
        repeat' (first | refine condP_split (fun _ => ?_) (fun _ => ?_) | refine guardP_split (fun _ => ?_) (fun _ => ?_) | refine guardP_splitF (fun _ => ?_) (fun _ => ?_) | (simp (disch := (first | assumption | omega | (simp only [List.length_append, List.length_cons, List.length_nil]; omega))) only [↓wD,wU,Nat.reduceBEq,zx150,zx151,zx159,zx160,zx161,zx162,Nat.reduceAdd,Nat.reduceSub,Nat.reduceMul,Nat.reduceLeDiff,Nat.reduceLT,Nat.reduceEqDiff,Int.reduceAdd,Int.reduceSub,Int.reduceMul,Int.reduceNeg,Int.reduceLT,Int.reduceLE,Int.reduceEq,Int.reduceToNat,Int.cast_ofNat_Int,↓reduceIte, *, hx.I, hy.I]))
        · exact avb_f fun h => by simp_all
        · refine (ih hi').go ⟨rfl, ?_⟩
          simp (disch := (first | assumption | omega | (simp only [List.length_append, List.length_cons, List.length_nil]; omega))) only [↓wD,wU,Nat.reduceBEq,zx150,zx151,zx159,zx160,zx161,zx162,Nat.reduceAdd,Nat.reduceSub,Nat.reduceMul,Nat.reduceLeDiff,Nat.reduceLT,Nat.reduceEqDiff,Int.reduceAdd,Int.reduceSub,Int.reduceMul,Int.reduceNeg,Int.reduceLT,Int.reduceLE,Int.reduceEq,Int.reduceToNat,Int.cast_ofNat_Int,↓reduceIte, *]
          exact take_eq_succ hh hi' (by omega) (by simp_all)
      · simp (disch := (first | assumption | omega | (simp only [List.length_append, List.length_cons, List.length_nil]; omega))) only [↓wD,wU,Nat.reduceBEq,zx150,zx151,zx159,zx160,zx161,zx162,Nat.reduceAdd,Nat.reduceSub,Nat.reduceMul,Nat.reduceLeDiff,Nat.reduceLT,Nat.reduceEqDiff,Int.reduceAdd,Int.reduceSub,Int.reduceMul,Int.reduceNeg,Int.reduceLT,Int.reduceLE,Int.reduceEq,Int.reduceToNat,Int.cast_ofNat_Int,↓reduceIte, *]
        exact avb_t (take_all hh hl (by omega))
    · (simp (disch := (first | assumption | omega | (simp only [List.length_append, List.length_cons, List.length_nil]; omega))) only [↓wD,wU,Nat.reduceBEq,zx150,zx151,zx159,zx160,zx161,zx162,Nat.reduceAdd,Nat.reduceSub,Nat.reduceMul,Nat.reduceLeDiff,Nat.reduceLT,Nat.reduceEqDiff,Int.reduceAdd,Int.reduceSub,Int.reduceMul,Int.reduceNeg,Int.reduceLT,Int.reduceLE,Int.reduceEq,Int.reduceToNat,Int.cast_ofNat_Int,↓reduceIte, *]) <;> simp
theorem clone_ret {p : Nat → Prop} {H : Heap} {v : AV} {xs : List Int} (hx : Sl p H v xs) (hs : xs.length * 8 ≤ 1099511627776) : Ret E 33 [v] (fun _ => False) H xs := by
  refine Ret.ro rfl fn33 rfl ?_
  unfold f33A
  have main : ∀ {Q : AV × Heap → Prop}, (∀ v' H', Sl (fun b => H.length ≤ b) H' v' xs → Q (v', H')) → @optP _ (appendV H.length 1 8 (.s 1 H.length 0 0 (some 0)) v (H ++ [.cells []])) ⟨Q⟩ := fun {Q} go => by
    have ha : Acc H.length (fun _ => True) (H ++ [.cells []]) (.s 1 H.length 0 0 (some 0)) ([] : List Int) := Acc.fresh0 (Nat.le_refl _)
    refine ha.extend (q := fun b => b < H.length) (Nat.le_refl _) (by simp) ((hx.low.app [.cells []]).weak fun b h => h.2) (fun b hb => ⟨trivial, ?_⟩) (by simpa using hs) (by omega) fun v' H' h' _ => go _ _ ?_
    · intro e; simp only [AV.blk, Option.some.injEq] at e; omega
    · rw [List.nil_append] at h'
      rcases h' with h' | ⟨b, o, c, k, e, hb, hk, h1, h2, h3⟩
      · exact .inl h'
      · exact .inr ⟨b, o, c, k, e, hb, hk, h1, h2, h3⟩
  rcases hx with ⟨rfl, rfl⟩ | ⟨b, o, c, k, e, hb, hk, h1, h2, h3⟩
  · simp (disch := (first | assumption | omega | (simp only [List.length_append, List.length_cons, List.length_nil]; omega))) only [↓wD,wU,Nat.reduceBEq,zx150,zx151,zx159,zx160,zx161,zx162,Nat.reduceAdd,Nat.reduceSub,Nat.reduceMul,Nat.reduceLeDiff,Nat.reduceLT,Nat.reduceEqDiff,Int.reduceAdd,Int.reduceSub,Int.reduceMul,Int.reduceNeg,Int.reduceLT,Int.reduceLE,Int.reduceEq,Int.reduceToNat,Int.cast_ofNat_Int,↓reduceIte, *]
    exact Sl.nil
  · subst e
    simp (disch := (first | assumption | omega | (simp only [List.length_append, List.length_cons, List.length_nil]; omega))) only [↓wD,wU,Nat.reduceBEq,zx150,zx151,zx159,zx160,zx161,zx162,Nat.reduceAdd,Nat.reduceSub,Nat.reduceMul,Nat.reduceLeDiff,Nat.reduceLT,Nat.reduceEqDiff,Int.reduceAdd,Int.reduceSub,Int.reduceMul,Int.reduceNeg,Int.reduceLT,Int.reduceLE,Int.reduceEq,Int.reduceToNat,Int.cast_ofNat_Int,↓reduceIte, *]
    refine main fun v' H' h' => ?_
    simp (disch := (first | assumption | omega | (simp only [List.length_append, List.length_cons, List.length_nil]; omega))) only [↓wD,wU,Nat.reduceBEq,zx150,zx151,zx159,zx160,zx161,zx162,Nat.reduceAdd,Nat.reduceSub,Nat.reduceMul,Nat.reduceLeDiff,Nat.reduceLT,Nat.reduceEqDiff,Int.reduceAdd,Int.reduceSub,Int.reduceMul,Int.reduceNeg,Int.reduceLT,Int.reduceLE,Int.reduceEq,Int.reduceToNat,Int.cast_ofNat_Int,↓reduceIte, *]
    exact h'.weak fun _ h => .inr h
end Go.Proofs.YtjjndoigkhabdaaDoor
namespace Go.Proofs.YtjjndoigkhabdaaDoor
open Go Go.AM Go.Proofs
theorem _root_.Go.AM.RetP.prim {E : Tab} {f : Nat} {g : List AV → Option AV} {vs : List AV} {v : AV} {H : Heap} (hk : E.kd f = .prim g) (h : g vs = some v) (hv : v.pure = true) (ha : AV.pureAll vs = true) : RetP E f vs H v := fun lo => by
  refine ⟨0, v, H, ?_, rfl, rfl⟩
  unfold callF
  simp [hk, h, hv, ha]
/-! ### Bits -/
theorem ofI {a : Nat} (h : a ≤ 9223372036854775807) : (BitVec.ofInt 64 (a : Int)).toNat = a := by
  rw [BitVec.ofInt_natCast, BitVec.toNat_ofNat]; exact Nat.mod_eq_of_lt (by omega)
theorem and_le {a b : Nat} (h : a ≤ 9223372036854775807) : a &&& b ≤ 9223372036854775807 := Nat.le_trans Nat.and_le_left h
theorem or_le {a b : Nat} (h : a ≤ 9223372036854775807) (h' : b ≤ 9223372036854775807) : a ||| b ≤ 9223372036854775807 := by
  have : a ||| b < 2 ^ 63 := Nat.or_lt_two_pow (by omega) (by omega)
  omega
theorem b_and {a b : Nat} (h : a ≤ 9223372036854775807) (h' : b ≤ 9223372036854775807) : binA .and (.i (a : Int)) (.i (b : Int)) = some (.i ((a &&& b : Nat) : Int)) := by
  have e : (BitVec.ofInt 64 (a : Int) &&& BitVec.ofInt 64 (b : Int)).toNat = a &&& b := by rw [BitVec.toNat_and, ofI h, ofI h']
  show some (AV.int .i64 (IntKind.wrap .i64 ((BitVec.ofInt 64 (a : Int) &&& BitVec.ofInt 64 (b : Int)).toNat : Int))) = _
  have := and_le (b := b) h
  rw [e, zx172 (by omega) (by omega)]
theorem b_or {a b : Nat} (h : a ≤ 9223372036854775807) (h' : b ≤ 9223372036854775807) : binA .or (.i (a : Int)) (.i (b : Int)) = some (.i ((a ||| b : Nat) : Int)) := by
  have e : (BitVec.ofInt 64 (a : Int) ||| BitVec.ofInt 64 (b : Int)).toNat = a ||| b := by rw [BitVec.toNat_or, ofI h, ofI h']
  show some (AV.int .i64 (IntKind.wrap .i64 ((BitVec.ofInt 64 (a : Int) ||| BitVec.ofInt 64 (b : Int)).toNat : Int))) = _
  have := or_le h h'
  rw [e, zx172 (by omega) (by omega)]
/-- the bits of a that are not in b -/
def andN (a b : Nat) : Nat := a &&& (18446744073709551615 - b)
theorem andN_bit {a b : Nat} (h : a ≤ 9223372036854775807) (h' : b ≤ 9223372036854775807) (i : Nat) : (andN a b).testBit i = (a.testBit i && !b.testBit i) := by
  unfold andN
  rw [Nat.testBit_and]
  have e := Nat.testBit_two_pow_sub_succ (n := 64) (x := b) (by omega) i
  rw [show 2 ^ 64 - (b + 1) = 18446744073709551615 - b by omega] at e
  rw [e]
  by_cases hi : i < 64
  · simp [hi]
  · have : a.testBit i = false := Nat.testBit_lt_two_pow (Nat.lt_of_lt_of_le (show a < 2 ^ 64 by omega) (Nat.pow_le_pow_right (by omega) (by omega)))
    simp [this]
theorem andN_le {a b : Nat} : andN a b ≤ a := Nat.and_le_left
theorem b_andNot {a b : Nat} (h : a ≤ 9223372036854775807) (h' : b ≤ 9223372036854775807) : binA .andNot (.i (a : Int)) (.i (b : Int)) = some (.i ((andN a b : Nat) : Int)) := by
  have e : (BitVec.ofInt 64 (a : Int) &&& ~~~(BitVec.ofInt 64 (b : Int))).toNat = andN a b := by
    rw [BitVec.toNat_and, BitVec.toNat_not, ofI h, ofI h']
    unfold andN
    congr 1
  show some (AV.int .i64 (IntKind.wrap .i64 ((BitVec.ofInt 64 (a : Int) &&& ~~~(BitVec.ofInt 64 (b : Int))).toNat : Int))) = _
  have := andN_le (a := a) (b := b)
  rw [e, zx172 (by omega) (by omega)]
theorem b_shr {a b : Nat} (h' : b ≤ 63) : binA .shr (.i (a : Int)) (.i (b : Int)) = some (.i ((a >>> b : Nat) : Int)) := by
  show (if (b : Int) < 0 then none else some (AV.int .i64 ((a : Int).fdiv (2 ^ (min (b : Int).toNat 64))))) = _
  rw [if_neg (by omega), show min (b : Int).toNat 64 = b by omega, Nat.shiftRight_eq_div_pow]
  congr 2
  rw [Int.fdiv_eq_ediv_of_nonneg _ (by exact_mod_cast Nat.zero_le (2 ^ b))]
  simp
theorem b_shl {a b : Nat} (h' : b ≤ 63) (h : a <<< b ≤ 9223372036854775807) : binA .shl (.i (a : Int)) (.i (b : Int)) = some (.i ((a <<< b : Nat) : Int)) := by
  show (if (b : Int) < 0 then none else some (AV.int .i64 (IntKind.wrap .i64 ((a : Int) * 2 ^ (min (b : Int).toNat 64))))) = _
  have e : (a : Int) * 2 ^ b = ((a <<< b : Nat) : Int) := by rw [Nat.shiftLeft_eq]; simp
  rw [if_neg (by omega), show min (b : Int).toNat 64 = b by omega, e]
  generalize a <<< b = c at h
  rw [zx172 (by omega) (by omega)]
/-! ### Blocks -/
def tzQ (x : Nat) : Nat := Lib.ctz 64 x
def yQ (x : Nat) : Nat := x >>> tzQ x
def nQ (x : Nat) : Nat := 18446744073709551615 - yQ x
def cnQ (x : Nat) : Nat := Lib.ctz 64 (nQ x)
def nxQ (x : Nat) : Nat := yQ x >>> cnQ x
def blkF : Nat → Nat → List Int
  | 0, _ => []
  | f + 1, x => if x = 0 then [] else (cnQ x : Int) :: blkF f (nxQ x)
/-- the blocks of a line -/
def blkL (x : Nat) : List Int := blkF 5 x
def osame (o : Option AV) (v : AV) : Bool := match o with
  | some u => u.same v
  | none => false
theorem osame_eq {o : Option AV} {v : AV} (h : osame o v = true) : o = some v := by
  cases o with
  | none => cases h
  | some u => rw [AV.eq_of_same _ _ h]
def qOk (x : Nat) : Bool := x = 0 || (decide (nxQ x < x) && decide (cnQ x ≤ 5) && decide (blkL x = (cnQ x : Int) :: blkL (nxQ x)) && osame (tzP [.int .u64 x]) (.i (tzQ x)) && osame (binA .shr (.int .u64 x) (.i (tzQ x))) (.int .u64 (yQ x)) &&
  osame (unA .xor (.int .u64 (yQ x))) (.int .u64 (nQ x)) && osame (tzP [.int .u64 (nQ x)]) (.i (cnQ x)) && osame (binA .shr (.int .u64 (yQ x)) (.i (cnQ x))) (.int .u64 (nxQ x)))
theorem qOk_all : ∀ x, x < 32 → qOk x = true := by decide +kernel
theorem q_facts {x : Nat} (h : x < 32) (h0 : x ≠ 0) : nxQ x < x ∧ cnQ x ≤ 5 ∧ blkL x = (cnQ x : Int) :: blkL (nxQ x) ∧ tzP [.int .u64 (x : Int)] = some (.i (tzQ x : Nat)) ∧ binA .shr (.int .u64 (x : Int)) (.i (tzQ x : Nat)) = some (.int .u64 (yQ x : Nat)) ∧
    unA .xor (.int .u64 (yQ x : Nat)) = some (.int .u64 (nQ x : Nat)) ∧ tzP [.int .u64 (nQ x : Nat)] = some (.i (cnQ x : Nat)) ∧ binA .shr (.int .u64 (yQ x : Nat)) (.i (cnQ x : Nat)) = some (.int .u64 (nxQ x : Nat)) := by
  have q := qOk_all x h
  unfold qOk at q
  simp only [h0, decide_false, Bool.false_or, Bool.and_eq_true, decide_eq_true_eq] at q
  obtain ⟨⟨⟨⟨⟨⟨⟨q1, q2⟩, q3⟩, q4⟩, q5⟩, q6⟩, q7⟩, q8⟩ := q
  exact ⟨q1, q2, q3, osame_eq q4, osame_eq q5, osame_eq q6, osame_eq q7, osame_eq q8⟩
theorem blkL_0 : blkL 0 = [] := rfl
theorem blkL_len (x : Nat) : (blkL x).length ≤ 5 := by
  have : ∀ f x, (blkF f x).length ≤ f := by
    intro f
    induction f with
    | zero => intro x; simp [blkF]
    | succ f ih => intro x; unfold blkF; split <;> simp; exact ih _
  exact this 5 x
theorem blocks_ret {H : Heap} {x : Nat} (hx : x < 32) : Ret E 56 [.i x] (fun _ => False) H (blkL x) := by
  refine Ret.ro rfl fn56 rfl ?_
  unfold f56A
  have hc : convV .u64 (.i (x : Int)) = some (.int .u64 x) := by rw [zx95, wrapU (by omega) (by omega)]
  simp (disch := (first | assumption | omega | (simp only [List.length_append, List.length_cons, List.length_nil]; omega))) only [↓wD,wU,Nat.reduceBEq,zx150,zx151,zx159,zx160,zx161,zx162,Nat.reduceAdd,Nat.reduceSub,Nat.reduceMul,Nat.reduceLeDiff,Nat.reduceLT,Nat.reduceEqDiff,Int.reduceAdd,Int.reduceSub,Int.reduceMul,Int.reduceNeg,Int.reduceLT,Int.reduceLE,Int.reduceEq,Int.reduceToNat,Int.cast_ofNat_Int,↓reduceIte, hc]
  refine Wp.dec (fun y a H' => ∃ u acc, a 4 = .int .u64 y ∧ a 3 = u ∧ y < 32 ∧ Gr H H' ∧ Acc H.length (fun _ => False) H' u acc ∧ acc ++ blkL y = blkL x) x ?_ ?_
  · rintro y a H1 ⟨u, acc, a4, a3, hy, hg, hu, he⟩ ih
    by_cases h0 : y = 0
    · subst h0
      rw [blkL_0, List.append_nil] at he
      subst he
      have hd : decide (¬ ((0 : Nat) : Int) = 0) = false := by decide
      simp (disch := (first | assumption | omega | (simp only [List.length_append, List.length_cons, List.length_nil]; omega))) only [↓wD,wU,Nat.reduceBEq,zx150,zx151,zx159,zx160,zx161,zx162,Nat.reduceAdd,Nat.reduceSub,Nat.reduceMul,Nat.reduceLeDiff,Nat.reduceLT,Nat.reduceEqDiff,Int.reduceAdd,Int.reduceSub,Int.reduceMul,Int.reduceNeg,Int.reduceLT,Int.reduceLE,Int.reduceEq,Int.reduceToNat,Int.cast_ofNat_Int,↓reduceIte, a4, a3, hd]
      exact hu.sl
    · obtain ⟨q1, q2, q3, q4, q5, q6, q7, q8⟩ := q_facts hy h0
      have hd : decide (¬ (y : Int) = 0) = true := decide_eq_true (by omega)
      have t1 := RetP.prim (E := E) (H := H1) (f := 87) rfl q4 rfl rfl
      have t2 := RetP.prim (E := E) (H := H1) (f := 87) rfl q7 rfl rfl
      have hl : acc.length + (blkL y).length = (blkL x).length := by rw [← he, List.length_append]
      have hl5 := blkL_len x
      simp (disch := (first | assumption | omega | (simp only [List.length_append, List.length_cons, List.length_nil]; omega))) only [↓wD,wU,Nat.reduceBEq,zx150,zx151,zx159,zx160,zx161,zx162,Nat.reduceAdd,Nat.reduceSub,Nat.reduceMul,Nat.reduceLeDiff,Nat.reduceLT,Nat.reduceEqDiff,Int.reduceAdd,Int.reduceSub,Int.reduceMul,Int.reduceNeg,Int.reduceLT,Int.reduceLE,Int.reduceEq,Int.reduceToNat,Int.cast_ofNat_Int,↓reduceIte, a4, a3, hd, t1.call, q5, q6, t2.call, q8]
      refine hu.pushI (Nat.le_refl _) hg.1 (by omega) fun u' H2 hu' hk2 _ _ => ?_
      simp (disch := (first | assumption | omega | (simp only [List.length_append, List.length_cons, List.length_nil]; omega))) only [↓wD,wU,Nat.reduceBEq,zx150,zx151,zx159,zx160,zx161,zx162,Nat.reduceAdd,Nat.reduceSub,Nat.reduceMul,Nat.reduceLeDiff,Nat.reduceLT,Nat.reduceEqDiff,Int.reduceAdd,Int.reduceSub,Int.reduceMul,Int.reduceNeg,Int.reduceLT,Int.reduceLE,Int.reduceEq,Int.reduceToNat,Int.cast_ofNat_Int,↓reduceIte, q8]
      refine ih.go ⟨nxQ y, q1, u', acc ++ [(cnQ y : Int)], ?_⟩
      simp (disch := (first | assumption | omega | (simp only [List.length_append, List.length_cons, List.length_nil]; omega))) only [↓wD,wU,Nat.reduceBEq,zx150,zx151,zx159,zx160,zx161,zx162,Nat.reduceAdd,Nat.reduceSub,Nat.reduceMul,Nat.reduceLeDiff,Nat.reduceLT,Nat.reduceEqDiff,Int.reduceAdd,Int.reduceSub,Int.reduceMul,Int.reduceNeg,Int.reduceLT,Int.reduceLE,Int.reduceEq,Int.reduceToNat,Int.cast_ofNat_Int,↓reduceIte]
      refine ⟨by omega, hg.push hu (Nat.le_refl _) hk2, hu', ?_⟩
      rw [← he, q3]; simp
  · simp (disch := (first | assumption | omega | (simp only [List.length_append, List.length_cons, List.length_nil]; omega))) only [↓wD,wU,Nat.reduceBEq,zx150,zx151,zx159,zx160,zx161,zx162,Nat.reduceAdd,Nat.reduceSub,Nat.reduceMul,Nat.reduceLeDiff,Nat.reduceLT,Nat.reduceEqDiff,Int.reduceAdd,Int.reduceSub,Int.reduceMul,Int.reduceNeg,Int.reduceLT,Int.reduceLE,Int.reduceEq,Int.reduceToNat,Int.cast_ofNat_Int,↓reduceIte]
    exact ⟨.nils, [], rfl, hx, Gr.refl _, Acc.nil, rfl⟩
end Go.Proofs.YtjjndoigkhabdaaDoor
namespace Go.Proofs.YtjjndoigkhabdaaDoor
open Go Go.AM Go.Proofs
theorem b_shl1 {n : Nat} (h : n ≤ 62) : binA .shl (.i 1) (.i (n : Int)) = some (.i ((2 ^ n : Nat) : Int)) := by
  have hp : 2 ^ n ≤ 2 ^ 62 := Nat.pow_le_pow_right (by omega) h
  have := b_shl (a := 1) (b := n) (by omega) (by rw [Nat.shiftLeft_eq]; omega)
  rw [Nat.shiftLeft_eq, Nat.one_mul] at this
  exact this
theorem pow5 {n : Nat} (h : n ≤ 5) : 1 ≤ 2 ^ n ∧ 2 ^ n ≤ 32 := ⟨Nat.one_le_two_pow, Nat.pow_le_pow_right (n := 2) (by omega) h⟩
def SizeP (n : Int) : Prop := 1 ≤ n ∧ n ≤ 5
instance (n : Int) : Decidable (SizeP n) := by unfold SizeP; infer_instance
def SetP (n x : Int) : Prop := SizeP n ∧ 0 ≤ x ∧ x < ((2 ^ n.toNat : Nat) : Int)
instance (n x : Int) : Decidable (SetP n x) := by unfold SetP; infer_instance
theorem SizeP.nat {n : Int} (h : SizeP n) : ∃ m : Nat, n = m ∧ 1 ≤ m ∧ m ≤ 5 := by
  obtain ⟨m, rfl⟩ := Int.eq_ofNat_of_zero_le (show 0 ≤ n by have := h.1; omega)
  exact ⟨m, rfl, by have := h.1; omega, by have := h.2; omega⟩
theorem SetP.nat {n x : Int} (h : SetP n x) : ∃ m y : Nat, n = m ∧ x = y ∧ 1 ≤ m ∧ m ≤ 5 ∧ y < 2 ^ m ∧ y < 32 := by
  obtain ⟨m, rfl, h1, h2⟩ := h.1.nat
  obtain ⟨y, rfl⟩ := Int.eq_ofNat_of_zero_le h.2.1
  have h3 := h.2.2
  rw [Int.toNat_natCast] at h3
  have := pow5 h2
  exact ⟨m, y, rfl, rfl, h1, h2, by omega, by omega⟩
theorem isSize_ret {H : Heap} {n : Int} : RetP E 86 [.i n] H (.b (decide (SizeP n))) := by
  refine RetP.ro rfl fn86 rfl rfl ?_
  unfold f86A
  by_cases h1 : 1 ≤ n
  · by_cases h2 : n ≤ 5
    · have e : decide (SizeP n) = true := decide_eq_true ⟨h1, h2⟩
      simp (disch := (first | assumption | omega | (simp only [List.length_append, List.length_cons, List.length_nil]; omega))) only [↓wD,wU,Nat.reduceBEq,zx150,zx151,zx159,zx160,zx161,zx162,Nat.reduceAdd,Nat.reduceSub,Nat.reduceMul,Nat.reduceLeDiff,Nat.reduceLT,Nat.reduceEqDiff,Int.reduceAdd,Int.reduceSub,Int.reduceMul,Int.reduceNeg,Int.reduceLT,Int.reduceLE,Int.reduceEq,Int.reduceToNat,Int.cast_ofNat_Int,↓reduceIte, decide_eq_true h1, decide_eq_true h2, e]
    · have e : decide (SizeP n) = false := decide_eq_false fun h => h2 h.2
      simp (disch := (first | assumption | omega | (simp only [List.length_append, List.length_cons, List.length_nil]; omega))) only [↓wD,wU,Nat.reduceBEq,zx150,zx151,zx159,zx160,zx161,zx162,Nat.reduceAdd,Nat.reduceSub,Nat.reduceMul,Nat.reduceLeDiff,Nat.reduceLT,Nat.reduceEqDiff,Int.reduceAdd,Int.reduceSub,Int.reduceMul,Int.reduceNeg,Int.reduceLT,Int.reduceLE,Int.reduceEq,Int.reduceToNat,Int.cast_ofNat_Int,↓reduceIte, decide_eq_true h1, decide_eq_false h2, e]
  · have e : decide (SizeP n) = false := decide_eq_false fun h => h1 h.1
    simp (disch := (first | assumption | omega | (simp only [List.length_append, List.length_cons, List.length_nil]; omega))) only [↓wD,wU,Nat.reduceBEq,zx150,zx151,zx159,zx160,zx161,zx162,Nat.reduceAdd,Nat.reduceSub,Nat.reduceMul,Nat.reduceLeDiff,Nat.reduceLT,Nat.reduceEqDiff,Int.reduceAdd,Int.reduceSub,Int.reduceMul,Int.reduceNeg,Int.reduceLT,Int.reduceLE,Int.reduceEq,Int.reduceToNat,Int.cast_ofNat_Int,↓reduceIte, decide_eq_false h1, e]
theorem isSet_ret {H : Heap} {n x : Int} : RetP E 55 [.i n, .i x] H (.b (decide (SetP n x))) := by
  refine RetP.ro rfl fn55 rfl rfl ?_
  unfold f55A
  have hz := isSize_ret (H := H) (n := n)
  by_cases h : SizeP n
  · rw [decide_eq_true h] at hz
    obtain ⟨m, rfl, h1, h2⟩ := h.nat
    have e : decide (SetP (m : Int) x) = (decide (0 ≤ x) && decide (x < ((2 ^ m : Nat) : Int))) := by
      by_cases q1 : 0 ≤ x <;> by_cases q2 : x < ((2 ^ m : Nat) : Int) <;> simp only [q1, q2, decide_true, decide_false, Bool.and_true, Bool.and_false, Bool.true_and]
      · exact decide_eq_true ⟨h, q1, by rwa [Int.toNat_natCast]⟩
      · exact decide_eq_false fun q => q2 (by have := q.2.2; rwa [Int.toNat_natCast] at this)
      · exact decide_eq_false fun q => q1 q.2.1
      · exact decide_eq_false fun q => q1 q.2.1
    have hsh := b_shl1 (n := m) (by omega)
    rw [e]
    generalize 2 ^ m = M at hsh
    by_cases q1 : 0 ≤ x
    · simp (disch := (first | assumption | omega | (simp only [List.length_append, List.length_cons, List.length_nil]; omega))) only [↓wD,wU,Nat.reduceBEq,zx150,zx151,zx159,zx160,zx161,zx162,Nat.reduceAdd,Nat.reduceSub,Nat.reduceMul,Nat.reduceLeDiff,Nat.reduceLT,Nat.reduceEqDiff,Int.reduceAdd,Int.reduceSub,Int.reduceMul,Int.reduceNeg,Int.reduceLT,Int.reduceLE,Int.reduceEq,Int.reduceToNat,Int.cast_ofNat_Int,↓reduceIte, hz.call, hsh, decide_eq_true q1]
    · simp (disch := (first | assumption | omega | (simp only [List.length_append, List.length_cons, List.length_nil]; omega))) only [↓wD,wU,Nat.reduceBEq,zx150,zx151,zx159,zx160,zx161,zx162,Nat.reduceAdd,Nat.reduceSub,Nat.reduceMul,Nat.reduceLeDiff,Nat.reduceLT,Nat.reduceEqDiff,Int.reduceAdd,Int.reduceSub,Int.reduceMul,Int.reduceNeg,Int.reduceLT,Int.reduceLE,Int.reduceEq,Int.reduceToNat,Int.cast_ofNat_Int,↓reduceIte, hz.call, hsh, decide_eq_false q1]
  · rw [decide_eq_false h] at hz
    have e : decide (SetP n x) = false := decide_eq_false fun q => h q.1
    simp (disch := (first | assumption | omega | (simp only [List.length_append, List.length_cons, List.length_nil]; omega))) only [↓wD,wU,Nat.reduceBEq,zx150,zx151,zx159,zx160,zx161,zx162,Nat.reduceAdd,Nat.reduceSub,Nat.reduceMul,Nat.reduceLeDiff,Nat.reduceLT,Nat.reduceEqDiff,Int.reduceAdd,Int.reduceSub,Int.reduceMul,Int.reduceNeg,Int.reduceLT,Int.reduceLE,Int.reduceEq,Int.reduceToNat,Int.cast_ofNat_Int,↓reduceIte, hz.call, e]
def linesTo (i : Nat) (cl : List Int) : List Int := ((List.range i).filter fun x => decide (blkL x = cl)).map fun x : Nat => (x : Int)
/-- all lines of n squares with some blocks -/
def linesL (n : Nat) (cl : List Int) : List Int := linesTo (2 ^ n) cl
theorem linesTo_succ {i : Nat} {cl : List Int} : linesTo (i + 1) cl = linesTo i cl ++ if blkL i = cl then [(i : Int)] else [] := by
  unfold linesTo
  rw [List.range_succ, List.filter_append, List.map_append]
  by_cases h : blkL i = cl <;> simp [h]
theorem linesTo_len {i : Nat} {cl : List Int} : (linesTo i cl).length ≤ i := by
  unfold linesTo
  rw [List.length_map]
  exact Nat.le_trans (List.length_filter_le _ _) (by simp)
theorem lines_ret {p : Nat → Prop} {H : Heap} {v : AV} {n : Nat} {cl : List Int} (hc : Sl p H v cl) (hn : n ≤ 5) : Ret E 58 [.i n, v] (fun _ => False) H (linesL n cl) := by
  refine Ret.ro rfl fn58 rfl ?_
  unfold f58A
  have hsh := b_shl1 (n := n) (by omega)
  obtain ⟨p1, p2⟩ := pow5 hn
  unfold linesL
  generalize 2 ^ n = M at *
  simp (disch := (first | assumption | omega | (simp only [List.length_append, List.length_cons, List.length_nil]; omega))) only [↓wD,wU,Nat.reduceBEq,zx150,zx151,zx159,zx160,zx161,zx162,Nat.reduceAdd,Nat.reduceSub,Nat.reduceMul,Nat.reduceLeDiff,Nat.reduceLT,Nat.reduceEqDiff,Int.reduceAdd,Int.reduceSub,Int.reduceMul,Int.reduceNeg,Int.reduceLT,Int.reduceLE,Int.reduceEq,Int.reduceToNat,Int.cast_ofNat_Int,↓reduceIte, hsh]
  refine Wp.for M (fun i a H' => ∃ u, a 1 = v ∧ a 5 = u ∧ a 8 = .i M ∧ a 9 = .i i ∧ Gr H H' ∧ Acc H.length (fun _ => False) H' u (linesTo i cl)) ?_ ?_
  · rintro i a H1 hi ⟨u, a1, a5, a8, a9, hg, hu⟩ ih
    simp (disch := (first | assumption | omega | (simp only [List.length_append, List.length_cons, List.length_nil]; omega))) only [↓wD,wU,Nat.reduceBEq,zx150,zx151,zx159,zx160,zx161,zx162,Nat.reduceAdd,Nat.reduceSub,Nat.reduceMul,Nat.reduceLeDiff,Nat.reduceLT,Nat.reduceEqDiff,Int.reduceAdd,Int.reduceSub,Int.reduceMul,Int.reduceNeg,Int.reduceLT,Int.reduceLE,Int.reduceEq,Int.reduceToNat,Int.cast_ofNat_Int,↓reduceIte, a1, a5, a8, a9]
    refine condP_split (fun hlt => ?_) (fun hlt => ?_)
    · have hi' : i < M := by omega
      simp (disch := (first | assumption | omega | (simp only [List.length_append, List.length_cons, List.length_nil]; omega))) only [↓wD,wU,Nat.reduceBEq,zx150,zx151,zx159,zx160,zx161,zx162,Nat.reduceAdd,Nat.reduceSub,Nat.reduceMul,Nat.reduceLeDiff,Nat.reduceLT,Nat.reduceEqDiff,Int.reduceAdd,Int.reduceSub,Int.reduceMul,Int.reduceNeg,Int.reduceLT,Int.reduceLE,Int.reduceEq,Int.reduceToNat,Int.cast_ofNat_Int,↓reduceIte, a1, a5, a8, a9]
      refine (blocks_ret (x := i) (by omega)).toF fun y H2 hg2 hy => ?_
      have eq := equal_ret hy ((hc.gr hg).gr hg2)
      have hu2 := hu.gr hg2
      have hl := linesTo_len (i := i) (cl := cl)
      by_cases h : blkL i = cl
      · rw [decide_eq_true h] at eq
        simp (disch := (first | assumption | omega | (simp only [List.length_append, List.length_cons, List.length_nil]; omega))) only [↓wD,wU,Nat.reduceBEq,zx150,zx151,zx159,zx160,zx161,zx162,Nat.reduceAdd,Nat.reduceSub,Nat.reduceMul,Nat.reduceLeDiff,Nat.reduceLT,Nat.reduceEqDiff,Int.reduceAdd,Int.reduceSub,Int.reduceMul,Int.reduceNeg,Int.reduceLT,Int.reduceLE,Int.reduceEq,Int.reduceToNat,Int.cast_ofNat_Int,↓reduceIte, a1, a5, a8, a9, eq.call]
        refine hu2.pushI (Nat.le_refl _) (by have := hg.1; have := hg2.1; omega) (by omega) fun u' H3 hu' hk3 _ _ => ?_
        simp (disch := (first | assumption | omega | (simp only [List.length_append, List.length_cons, List.length_nil]; omega))) only [↓wD,wU,Nat.reduceBEq,zx150,zx151,zx159,zx160,zx161,zx162,Nat.reduceAdd,Nat.reduceSub,Nat.reduceMul,Nat.reduceLeDiff,Nat.reduceLT,Nat.reduceEqDiff,Int.reduceAdd,Int.reduceSub,Int.reduceMul,Int.reduceNeg,Int.reduceLT,Int.reduceLE,Int.reduceEq,Int.reduceToNat,Int.cast_ofNat_Int,↓reduceIte, a1, a5, a8, a9]
        refine (ih hi').go ⟨u', ?_⟩
        simp (disch := (first | assumption | omega | (simp only [List.length_append, List.length_cons, List.length_nil]; omega))) only [↓wD,wU,Nat.reduceBEq,zx150,zx151,zx159,zx160,zx161,zx162,Nat.reduceAdd,Nat.reduceSub,Nat.reduceMul,Nat.reduceLeDiff,Nat.reduceLT,Nat.reduceEqDiff,Int.reduceAdd,Int.reduceSub,Int.reduceMul,Int.reduceNeg,Int.reduceLT,Int.reduceLE,Int.reduceEq,Int.reduceToNat,Int.cast_ofNat_Int,↓reduceIte, a1, a5, a8, a9]
        refine ⟨(hg.trans hg2).push hu2 (Nat.le_refl _) hk3, ?_⟩
        rw [linesTo_succ, if_pos h]; exact hu'
      · rw [decide_eq_false h] at eq
        simp (disch := (first | assumption | omega | (simp only [List.length_append, List.length_cons, List.length_nil]; omega))) only [↓wD,wU,Nat.reduceBEq,zx150,zx151,zx159,zx160,zx161,zx162,Nat.reduceAdd,Nat.reduceSub,Nat.reduceMul,Nat.reduceLeDiff,Nat.reduceLT,Nat.reduceEqDiff,Int.reduceAdd,Int.reduceSub,Int.reduceMul,Int.reduceNeg,Int.reduceLT,Int.reduceLE,Int.reduceEq,Int.reduceToNat,Int.cast_ofNat_Int,↓reduceIte, a1, a5, a8, a9, eq.call]
        refine (ih hi').go ⟨u, ?_⟩
        simp (disch := (first | assumption | omega | (simp only [List.length_append, List.length_cons, List.length_nil]; omega))) only [↓wD,wU,Nat.reduceBEq,zx150,zx151,zx159,zx160,zx161,zx162,Nat.reduceAdd,Nat.reduceSub,Nat.reduceMul,Nat.reduceLeDiff,Nat.reduceLT,Nat.reduceEqDiff,Int.reduceAdd,Int.reduceSub,Int.reduceMul,Int.reduceNeg,Int.reduceLT,Int.reduceLE,Int.reduceEq,Int.reduceToNat,Int.cast_ofNat_Int,↓reduceIte, a1, a5, a8, a9]
        refine ⟨hg.trans hg2, ?_⟩
        rw [linesTo_succ, if_neg h, List.append_nil]; exact hu2
    · obtain rfl : i = M := by omega
      simp (disch := (first | assumption | omega | (simp only [List.length_append, List.length_cons, List.length_nil]; omega))) only [↓wD,wU,Nat.reduceBEq,zx150,zx151,zx159,zx160,zx161,zx162,Nat.reduceAdd,Nat.reduceSub,Nat.reduceMul,Nat.reduceLeDiff,Nat.reduceLT,Nat.reduceEqDiff,Int.reduceAdd,Int.reduceSub,Int.reduceMul,Int.reduceNeg,Int.reduceLT,Int.reduceLE,Int.reduceEq,Int.reduceToNat,Int.cast_ofNat_Int,↓reduceIte, a1, a5, a8, a9]
      exact hu.sl
  · simp (disch := (first | assumption | omega | (simp only [List.length_append, List.length_cons, List.length_nil]; omega))) only [↓wD,wU,Nat.reduceBEq,zx150,zx151,zx159,zx160,zx161,zx162,Nat.reduceAdd,Nat.reduceSub,Nat.reduceMul,Nat.reduceLeDiff,Nat.reduceLT,Nat.reduceEqDiff,Int.reduceAdd,Int.reduceSub,Int.reduceMul,Int.reduceNeg,Int.reduceLT,Int.reduceLE,Int.reduceEq,Int.reduceToNat,Int.cast_ofNat_Int,↓reduceIte]
    exact ⟨.nils, rfl, Gr.refl _, Acc.nil⟩
def ClueP (n : Int) (cl : List Int) : Prop := SizeP n ∧ 0 < (linesL n.toNat cl).length
instance (n : Int) (cl : List Int) : Decidable (ClueP n cl) := by unfold ClueP; infer_instance
theorem linesL_len {n : Nat} {cl : List Int} (hn : n ≤ 5) : (linesL n cl).length ≤ 32 := Nat.le_trans linesTo_len (pow5 hn).2
theorem isClue_ret {p : Nat → Prop} {H : Heap} {v : AV} {n : Int} {cl : List Int} (hc : Sl p H v cl) : RetP E 57 [.i n, v] H (.b (decide (ClueP n cl))) := by
  refine RetP.ro rfl fn57 rfl rfl ?_
  unfold f57A
  have hz := isSize_ret (H := H) (n := n)
  by_cases h : SizeP n
  · rw [decide_eq_true h] at hz
    obtain ⟨m, rfl, h1, h2⟩ := h.nat
    have e : decide (ClueP (m : Int) cl) = decide (0 < ((linesL m cl).length : Int)) := by
      apply decide_eq_decide.2
      exact ⟨fun q => by have := q.2; rw [Int.toNat_natCast] at this; omega, fun q => ⟨h, by rw [Int.toNat_natCast]; omega⟩⟩
    rw [e]
    simp (disch := (first | assumption | omega | (simp only [List.length_append, List.length_cons, List.length_nil]; omega))) only [↓wD,wU,Nat.reduceBEq,zx150,zx151,zx159,zx160,zx161,zx162,Nat.reduceAdd,Nat.reduceSub,Nat.reduceMul,Nat.reduceLeDiff,Nat.reduceLT,Nat.reduceEqDiff,Int.reduceAdd,Int.reduceSub,Int.reduceMul,Int.reduceNeg,Int.reduceLT,Int.reduceLE,Int.reduceEq,Int.reduceToNat,Int.cast_ofNat_Int,↓reduceIte, hz.call]
    refine (lines_ret hc h2).toF fun y H1 hg hy => ?_
    simp (disch := (first | assumption | omega | (simp only [List.length_append, List.length_cons, List.length_nil]; omega))) only [↓wD,wU,Nat.reduceBEq,zx150,zx151,zx159,zx160,zx161,zx162,Nat.reduceAdd,Nat.reduceSub,Nat.reduceMul,Nat.reduceLeDiff,Nat.reduceLT,Nat.reduceEqDiff,Int.reduceAdd,Int.reduceSub,Int.reduceMul,Int.reduceNeg,Int.reduceLT,Int.reduceLE,Int.reduceEq,Int.reduceToNat,Int.cast_ofNat_Int,↓reduceIte, hy.I]
  · rw [decide_eq_false h] at hz
    have e : decide (ClueP n cl) = false := decide_eq_false fun q => h q.1
    simp (disch := (first | assumption | omega | (simp only [List.length_append, List.length_cons, List.length_nil]; omega))) only [↓wD,wU,Nat.reduceBEq,zx150,zx151,zx159,zx160,zx161,zx162,Nat.reduceAdd,Nat.reduceSub,Nat.reduceMul,Nat.reduceLeDiff,Nat.reduceLT,Nat.reduceEqDiff,Int.reduceAdd,Int.reduceSub,Int.reduceMul,Int.reduceNeg,Int.reduceLT,Int.reduceLE,Int.reduceEq,Int.reduceToNat,Int.cast_ofNat_Int,↓reduceIte, hz.call, e]
theorem list_ret {p : Nat → Prop} {H : Heap} {v : AV} {xs : List Int} (hx : Sl p H v xs) : Ret E 19 [v] (fun _ => False) H (xs.take 8) := by
  refine Ret.ro rfl fn19 rfl ?_
  unfold f19A
  have hb := hx.bound
  have hs : slV 1 v none (some (.i (min (xs.length : Int) 8))) none = some (v.cut 0 (min xs.length 8)) := by
    refine hx.slV_lh none _ (b := min xs.length 8) ?_ (bound_none (by omega)) (by omega) (by omega)
    rw [bound_some (by omega) (by omega)]
    congr 1
    omega
  simp (disch := (first | assumption | omega | (simp only [List.length_append, List.length_cons, List.length_nil]; omega))) only [↓wD,wU,Nat.reduceBEq,zx150,zx151,zx159,zx160,zx161,zx162,Nat.reduceAdd,Nat.reduceSub,Nat.reduceMul,Nat.reduceLeDiff,Nat.reduceLT,Nat.reduceEqDiff,Int.reduceAdd,Int.reduceSub,Int.reduceMul,Int.reduceNeg,Int.reduceLT,Int.reduceLE,Int.reduceEq,Int.reduceToNat,Int.cast_ofNat_Int,↓reduceIte, *, hx.I, hs]
  have hc := hx.cut (a := 0) (b := min xs.length 8) (by omega) (by omega)
  have e : (xs.drop 0).take (min xs.length 8 - 0) = xs.take 8 := by
    rw [List.drop_zero, Nat.sub_zero]
    by_cases hl : xs.length ≤ 8
    · rw [List.take_of_length_le (by omega), List.take_of_length_le hl]
    · congr 1; omega
  rw [e] at hc
  refine (clone_ret hc (by rw [List.length_take]; omega)).go fun u N hu => ?_
  simp (disch := (first | assumption | omega | (simp only [List.length_append, List.length_cons, List.length_nil]; omega))) only [↓wD,wU,Nat.reduceBEq,zx150,zx151,zx159,zx160,zx161,zx162,Nat.reduceAdd,Nat.reduceSub,Nat.reduceMul,Nat.reduceLeDiff,Nat.reduceLT,Nat.reduceEqDiff,Int.reduceAdd,Int.reduceSub,Int.reduceMul,Int.reduceNeg,Int.reduceLT,Int.reduceLE,Int.reduceEq,Int.reduceToNat,Int.cast_ofNat_Int,↓reduceIte]
  exact hu
/-- the first ones of a clue say as much: longer ones have no line -/
theorem linesTo_nil {cl : List Int} (h : 5 < cl.length) : ∀ i, linesTo i cl = []
  | 0 => rfl
  | i + 1 => by
    rw [linesTo_succ, linesTo_nil h, if_neg]
    · rfl
    · intro e; have := blkL_len i; rw [e] at this; omega
end Go.Proofs.YtjjndoigkhabdaaDoor
namespace Go.Proofs.YtjjndoigkhabdaaDoor
open Go Go.AM Go.Proofs
theorem same_ret {p q : Nat → Prop} {H : Heap} {v u : AV} {xs ys : List Int} (hx : Sl p H v xs) (hy : Sl q H u ys) : RetP E 60 [v, u] H (.b (decide (xs = ys))) := by
  refine RetP.ro rfl fn60 rfl rfl ?_
  unfold f60A
  have hbx := hx.bound
  by_cases hl : xs.length = ys.length
  · have e0 : decide (¬ (xs.length : Int) = ys.length) = false := decide_eq_false (by omega)
    simp (disch := (first | assumption | omega | (simp only [List.length_append, List.length_cons, List.length_nil]; omega))) only [↓wD,wU,Nat.reduceBEq,zx150,zx151,zx159,zx160,zx161,zx162,Nat.reduceAdd,Nat.reduceSub,Nat.reduceMul,Nat.reduceLeDiff,Nat.reduceLT,Nat.reduceEqDiff,Int.reduceAdd,Int.reduceSub,Int.reduceMul,Int.reduceNeg,Int.reduceLT,Int.reduceLE,Int.reduceEq,Int.reduceToNat,Int.cast_ofNat_Int,↓reduceIte, hx.I, hy.I, e0]
    refine Wp.for xs.length (fun i a H' => H' = H ∧ a 1 = u ∧ a 12 = v ∧ a 13 = .i xs.length ∧ a 14 = .i i ∧ xs.take i = ys.take i) ?_ ?_
    · rintro i a H' hi ⟨rfl, a1, a12, a13, a14, hh⟩ ih
      simp (disch := (first | assumption | omega | (simp only [List.length_append, List.length_cons, List.length_nil]; omega))) only [↓wD,wU,Nat.reduceBEq,zx150,zx151,zx159,zx160,zx161,zx162,Nat.reduceAdd,Nat.reduceSub,Nat.reduceMul,Nat.reduceLeDiff,Nat.reduceLT,Nat.reduceEqDiff,Int.reduceAdd,Int.reduceSub,Int.reduceMul,Int.reduceNeg,Int.reduceLT,Int.reduceLE,Int.reduceEq,Int.reduceToNat,Int.cast_ofNat_Int,↓reduceIte, a1, a12, a13, a14]
      refine condP_split (fun hlt => ?_) (fun hlt => ?_)
      · have hi' : i < xs.length := by omega
        by_cases he : gi xs (i : Int) = gi ys (i : Int)
        · have hh2 := take_eq_succ hh hi' (by omega) he
          have hd : decide (¬ gi xs (i : Int) = gi ys (i : Int)) = false := decide_eq_false fun q => q he
          simp (disch := (first | assumption | omega | (simp only [List.length_append, List.length_cons, List.length_nil]; omega))) only [↓wD,wU,Nat.reduceBEq,zx150,zx151,zx159,zx160,zx161,zx162,Nat.reduceAdd,Nat.reduceSub,Nat.reduceMul,Nat.reduceLeDiff,Nat.reduceLT,Nat.reduceEqDiff,Int.reduceAdd,Int.reduceSub,Int.reduceMul,Int.reduceNeg,Int.reduceLT,Int.reduceLE,Int.reduceEq,Int.reduceToNat,Int.cast_ofNat_Int,↓reduceIte, a1, a12, a13, a14, hx.I, hy.I, hd]
          refine (ih hi').go ⟨rfl, ?_⟩
          simp (disch := (first | assumption | omega | (simp only [List.length_append, List.length_cons, List.length_nil]; omega))) only [↓wD,wU,Nat.reduceBEq,zx150,zx151,zx159,zx160,zx161,zx162,Nat.reduceAdd,Nat.reduceSub,Nat.reduceMul,Nat.reduceLeDiff,Nat.reduceLT,Nat.reduceEqDiff,Int.reduceAdd,Int.reduceSub,Int.reduceMul,Int.reduceNeg,Int.reduceLT,Int.reduceLE,Int.reduceEq,Int.reduceToNat,Int.cast_ofNat_Int,↓reduceIte, a1, a12, a13, a14]
          exact hh2
        · have e : decide (xs = ys) = false := decide_eq_false fun h => he (by rw [h])
          have hd : decide (¬ gi xs (i : Int) = gi ys (i : Int)) = true := decide_eq_true he
          simp (disch := (first | assumption | omega | (simp only [List.length_append, List.length_cons, List.length_nil]; omega))) only [↓wD,wU,Nat.reduceBEq,zx150,zx151,zx159,zx160,zx161,zx162,Nat.reduceAdd,Nat.reduceSub,Nat.reduceMul,Nat.reduceLeDiff,Nat.reduceLT,Nat.reduceEqDiff,Int.reduceAdd,Int.reduceSub,Int.reduceMul,Int.reduceNeg,Int.reduceLT,Int.reduceLE,Int.reduceEq,Int.reduceToNat,Int.cast_ofNat_Int,↓reduceIte, a1, a12, a13, a14, hx.I, hy.I, hd, e]
      · have e : decide (xs = ys) = true := decide_eq_true (take_all hh hl (by omega))
        simp (disch := (first | assumption | omega | (simp only [List.length_append, List.length_cons, List.length_nil]; omega))) only [↓wD,wU,Nat.reduceBEq,zx150,zx151,zx159,zx160,zx161,zx162,Nat.reduceAdd,Nat.reduceSub,Nat.reduceMul,Nat.reduceLeDiff,Nat.reduceLT,Nat.reduceEqDiff,Int.reduceAdd,Int.reduceSub,Int.reduceMul,Int.reduceNeg,Int.reduceLT,Int.reduceLE,Int.reduceEq,Int.reduceToNat,Int.cast_ofNat_Int,↓reduceIte, a1, a12, a13, a14, e]
    · (simp (disch := (first | assumption | omega | (simp only [List.length_append, List.length_cons, List.length_nil]; omega))) only [↓wD,wU,Nat.reduceBEq,zx150,zx151,zx159,zx160,zx161,zx162,Nat.reduceAdd,Nat.reduceSub,Nat.reduceMul,Nat.reduceLeDiff,Nat.reduceLT,Nat.reduceEqDiff,Int.reduceAdd,Int.reduceSub,Int.reduceMul,Int.reduceNeg,Int.reduceLT,Int.reduceLE,Int.reduceEq,Int.reduceToNat,Int.cast_ofNat_Int,↓reduceIte]) <;> simp
  · have e0 : decide (¬ (xs.length : Int) = ys.length) = true := decide_eq_true (by omega)
    have e : decide (xs = ys) = false := decide_eq_false fun h => hl (by rw [h])
    simp (disch := (first | assumption | omega | (simp only [List.length_append, List.length_cons, List.length_nil]; omega))) only [↓wD,wU,Nat.reduceBEq,zx150,zx151,zx159,zx160,zx161,zx162,Nat.reduceAdd,Nat.reduceSub,Nat.reduceMul,Nat.reduceLeDiff,Nat.reduceLT,Nat.reduceEqDiff,Int.reduceAdd,Int.reduceSub,Int.reduceMul,Int.reduceNeg,Int.reduceLT,Int.reduceLE,Int.reduceEq,Int.reduceToNat,Int.cast_ofNat_Int,↓reduceIte, hx.I, hy.I, e0, e]
theorem awake_ret {H : Heap} : RetP E 24 [] H (.b true) :=
  RetP.closed (n := 300) rfl fn24 rfl rfl (by kernel_rfl)
end Go.Proofs.YtjjndoigkhabdaaDoor
namespace Go.Proofs.YtjjndoigkhabdaaDoor
open Go Go.AM Go.Proofs
/-- whether a line agrees with what is known -/
def agN (f e x : Nat) : Bool := decide (x &&& f = f) && decide (x &&& e = 0)
def linesN (n : Nat) (cl : List Int) : List Nat := (List.range (2 ^ n)).filter fun x => decide (blkL x = cl)
theorem linesL_N (n : Nat) (cl : List Int) : linesL n cl = (linesN n cl).map fun x : Nat => (x : Int) := rfl
theorem linesN_lt {n : Nat} {cl : List Int} {x : Nat} (h : x ∈ linesN n cl) : x < 2 ^ n := List.mem_range.1 (List.mem_filter.1 h).1
theorem linesN_len {n : Nat} {cl : List Int} : (linesN n cl).length = (linesL n cl).length := by rw [linesL_N, List.length_map]
theorem linesL_gi {n : Nat} {cl : List Int} {i : Nat} (h : i < (linesN n cl).length) : gi (linesL n cl) (i : Int) = (gi (linesN n cl) (i : Int) : Nat) := by
  rw [gi_nat (by rw [← linesN_len]; exact h), gi_nat h]
  simp [linesL_N]
/-- filled, empty, and whether some line agrees -/
def stepS (f e : Nat) (s : Nat × Nat × Bool) (x : Nat) : Nat × Nat × Bool := if agN f e x then (s.1 &&& x, andN s.2.1 x, true) else s
def foldS (f e : Nat) (ls : List Nat) (a : Nat) : Nat × Nat × Bool := ls.foldl (stepS f e) (a, a, false)
/-- what a line settles -/
def setS (n : Nat) (cl : List Int) (f e : Nat) : Nat × Nat × Bool := foldS f e (linesN n cl) (2 ^ n - 1)
theorem foldS_take {f e a : Nat} {ls : List Nat} {i : Nat} (h : i < ls.length) : foldS f e (ls.take (i + 1)) a = stepS f e (foldS f e (ls.take i) a) (gi ls (i : Int)) := by
  unfold foldS
  rw [take_gi h, List.foldl_append]; rfl
theorem step_le {f e x : Nat} {s : Nat × Nat × Bool} : (stepS f e s x).1 ≤ s.1 ∧ (stepS f e s x).2.1 ≤ s.2.1 := by
  unfold stepS
  split
  · exact ⟨Nat.and_le_left, andN_le⟩
  · exact ⟨Nat.le_refl _, Nat.le_refl _⟩
theorem fold_le {f e : Nat} : ∀ {ls : List Nat} {s : Nat × Nat × Bool}, (ls.foldl (stepS f e) s).1 ≤ s.1 ∧ (ls.foldl (stepS f e) s).2.1 ≤ s.2.1
  | [], s => ⟨Nat.le_refl _, Nat.le_refl _⟩
  | x :: ls, s => by
    have h1 := fold_le (f := f) (e := e) (ls := ls) (s := stepS f e s x)
    have h2 := step_le (f := f) (e := e) (x := x) (s := s)
    exact ⟨Nat.le_trans h1.1 h2.1, Nat.le_trans h1.2 h2.2⟩
theorem foldS_le {f e a : Nat} {ls : List Nat} : (foldS f e ls a).1 ≤ a ∧ (foldS f e ls a).2.1 ≤ a := fold_le
theorem agrees_ret {H : Heap} {f e x : Nat} (hf : f ≤ 9223372036854775807) (he : e ≤ 9223372036854775807) (hx : x ≤ 9223372036854775807) : RetP E 88 [.ag [.i f, .i e], .i x] H (.b (agN f e x)) := by
  refine RetP.ro rfl fn88 rfl rfl ?_
  unfold f88A
  have a1 := b_and hx hf
  have a2 := b_and hx he
  unfold agN
  by_cases h1 : x &&& f = f
  · rw [h1] at a1
    have d2 : decide (((x &&& e : Nat) : Int) = 0) = decide (x &&& e = 0) := decide_eq_decide.2 (by omega)
    have e1 : decide (x &&& f = f) = true := decide_eq_true h1
    simp (disch := (first | assumption | omega | (simp only [List.length_append, List.length_cons, List.length_nil]; omega))) only [↓wD,wU,Nat.reduceBEq,zx150,zx151,zx159,zx160,zx161,zx162,Nat.reduceAdd,Nat.reduceSub,Nat.reduceMul,Nat.reduceLeDiff,Nat.reduceLT,Nat.reduceEqDiff,Int.reduceAdd,Int.reduceSub,Int.reduceMul,Int.reduceNeg,Int.reduceLT,Int.reduceLE,Int.reduceEq,Int.reduceToNat,Int.cast_ofNat_Int,↓reduceIte, a1, a2, e1, d2]
  · have d1 : decide (((x &&& f : Nat) : Int) = f) = false := decide_eq_false (by omega)
    have e1 : decide (x &&& f = f) = false := decide_eq_false h1
    simp (disch := (first | assumption | omega | (simp only [List.length_append, List.length_cons, List.length_nil]; omega))) only [↓wD,wU,Nat.reduceBEq,zx150,zx151,zx159,zx160,zx161,zx162,Nat.reduceAdd,Nat.reduceSub,Nat.reduceMul,Nat.reduceLeDiff,Nat.reduceLT,Nat.reduceEqDiff,Int.reduceAdd,Int.reduceSub,Int.reduceMul,Int.reduceNeg,Int.reduceLT,Int.reduceLE,Int.reduceEq,Int.reduceToNat,Int.cast_ofNat_Int,↓reduceIte, a1, d1, e1]
theorem settle_ret {p : Nat → Prop} {H : Heap} {v : AV} {n f e : Nat} {cl : List Int} (hc : Sl p H v cl) (hn : n ≤ 5) (hf : f ≤ 9223372036854775807) (he : e ≤ 9223372036854775807) :
    RetP E 61 [.i n, v, .ag [.i f, .i e]] H (.tp [.ag [.i (setS n cl f e).1, .i (setS n cl f e).2.1], .b (setS n cl f e).2.2]) := by
  refine RetP.ro rfl fn61 rfl rfl ?_
  unfold f61A
  have hsh := b_shl1 (n := n) (by omega)
  have p5 := pow5 hn
  have hlen := linesN_len (n := n) (cl := cl)
  have hlt : ∀ i : Nat, i < (linesN n cl).length → gi (linesN n cl) (i : Int) ≤ 31 ∧ gi (linesL n cl) (i : Int) = (gi (linesN n cl) (i : Int) : Nat) := fun i hi => ⟨by
    have := linesN_lt (mem_gi hi)
    omega, linesL_gi hi⟩
  have hlr := fun (H : Heap) (h : Sl p H v cl) => lines_ret h hn
  unfold setS
  have hM : ((2 ^ n - 1 : Nat) : Int) = ((2 ^ n : Nat) : Int) - 1 := by omega
  have hl32 := linesL_len (n := n) (cl := cl) hn
  generalize linesN n cl = ls at *
  generalize linesL n cl = li at *
  generalize 2 ^ n = M at *
  obtain ⟨A, eA⟩ : ∃ A, M - 1 = A := ⟨_, rfl⟩
  have hA : ((M : Nat) : Int) - 1 = (A : Nat) := by omega
  rw [eA]
  replace hc : Sl (fun b => p b ∧ b < H.length) H v cl := hc.low
  obtain ⟨H2, eH2⟩ : ∃ H2, H ++ [Blk.cells [.i (f : Int), .i (e : Int)]] ++ [Blk.cells [.i (A : Int), .i (A : Int)]] = H2 := ⟨_, rfl⟩
  have n2 : H2.length = H.length + 2 := by rw [← eH2]; simp
  have d1 : H2[H.length]? = some (.cells [.i (f : Int), .i (e : Int)]) := by rw [← eH2]; simp [List.getElem?_append]
  have d2 : H2[H.length + 1]? = some (.cells [.i (A : Int), .i (A : Int)]) := by rw [← eH2]; simp [List.getElem?_append]
  have x2 : Kx (fun _ => True) H H2 := by rw [← eH2]; exact (Kx.app _ _ _).app' _
  have hst : st H.length (H ++ [Blk.cells [.i (f : Int), .i (e : Int)]] ++ [Blk.cells [.i 0, .i 0]]) (H.length + 1) 0 [.i (A : Int), .i (A : Int)] = some H2 := by
    rw [st_of (cs := [.i 0, .i 0]) (by simp [List.getElem?_append]) (by omega) (by simp), ← eH2]
    congr 1
    simp [wr, List.set_append]
  have hc2 := hc.kp (x2.all _).kp
  clear eH2
  simp (disch := (first | assumption | omega | (simp only [List.length_append, List.length_cons, List.length_nil]; omega))) only [↓wD,wU,Nat.reduceBEq,zx150,zx151,zx159,zx160,zx161,zx162,Nat.reduceAdd,Nat.reduceSub,Nat.reduceMul,Nat.reduceLeDiff,Nat.reduceLT,Nat.reduceEqDiff,Int.reduceAdd,Int.reduceSub,Int.reduceMul,Int.reduceNeg,Int.reduceLT,Int.reduceLE,Int.reduceEq,Int.reduceToNat,Int.cast_ofNat_Int,↓reduceIte, hsh, hA, hst]
  refine (hlr H2 (hc2.weak fun _ h => h.1)).toFX fun y H3 x3 hy => ?_
  have g1 := x3.get trivial d1
  have g2 := x3.get trivial d2
  have hyI := hy.I
  rw [← hlen] at hyI
  simp (disch := (first | assumption | omega | (simp only [List.length_append, List.length_cons, List.length_nil]; omega))) only [↓wD,wU,Nat.reduceBEq,zx150,zx151,zx159,zx160,zx161,zx162,Nat.reduceAdd,Nat.reduceSub,Nat.reduceMul,Nat.reduceLeDiff,Nat.reduceLT,Nat.reduceEqDiff,Int.reduceAdd,Int.reduceSub,Int.reduceMul,Int.reduceNeg,Int.reduceLT,Int.reduceLE,Int.reduceEq,Int.reduceToNat,Int.cast_ofNat_Int,↓reduceIte, hyI]
  refine Wp.for ls.length (fun i a H' => a 5 = .p H.length 0 ∧ a 6 = .p (H.length + 1) 0 ∧ a 7 = .b (foldS f e (ls.take i) A).2.2 ∧ a 19 = y ∧ a 20 = .i ls.length ∧ a 21 = .i i ∧ Kx (fun b => b ≠ H.length + 1) H3 H' ∧ H'[H.length + 1]? = some (.cells [.i (foldS f e (ls.take i) A).1, .i (foldS f e (ls.take i) A).2.1])) ?_ ?_
  · rintro i a H' hi ⟨a5, a6, a7, a19, a20, a21, hx, hcell⟩ ih
    simp (disch := (first | assumption | omega | (simp only [List.length_append, List.length_cons, List.length_nil]; omega))) only [↓wD,wU,Nat.reduceBEq,zx150,zx151,zx159,zx160,zx161,zx162,Nat.reduceAdd,Nat.reduceSub,Nat.reduceMul,Nat.reduceLeDiff,Nat.reduceLT,Nat.reduceEqDiff,Int.reduceAdd,Int.reduceSub,Int.reduceMul,Int.reduceNeg,Int.reduceLT,Int.reduceLE,Int.reduceEq,Int.reduceToNat,Int.cast_ofNat_Int,↓reduceIte, a5, a6, a7, a19, a20, a21]
    have k1 := hx.get (b := H.length) (by omega) g1
    refine condP_split (fun hlt2 => ?_) (fun hlt2 => ?_)
    · have hi' : i < ls.length := by omega
      obtain ⟨l31, el⟩ := hlt i hi'
      have hy' := (hy.weak (q := fun b => b ≠ H.length + 1) fun b h => by omega).kp hx.kp
      have hyI' := hy'.I
      rw [← hlen] at hyI'
      have ag := agrees_ret (H := H') hf he (x := gi ls (i : Int)) (by omega)
      have et := foldS_take (f := f) (e := e) (a := A) hi'
      have fl := foldS_le (f := f) (e := e) (a := A) (ls := ls.take i)
      obtain ⟨⟨s1, s2, s3⟩, es⟩ : ∃ s, foldS f e (ls.take i) A = s := ⟨_, rfl⟩
      rw [es] at a7 hcell et fl
      simp only at a7 hcell fl
      unfold stepS at et
      by_cases h : agN f e (gi ls (i : Int)) = true
      · rw [h] at ag
        rw [if_pos h] at et
        have o1 := b_and (a := s1) (b := gi ls (i : Int)) (by omega) (by omega)
        have o2 := b_andNot (a := s2) (b := gi ls (i : Int)) (by omega) (by omega)
        obtain ⟨T1, eT1⟩ : ∃ T, s1 &&& gi ls (i : Int) = T := ⟨_, rfl⟩
        obtain ⟨T2, eT2⟩ : ∃ T, andN s2 (gi ls (i : Int)) = T := ⟨_, rfl⟩
        rw [eT1] at o1 et
        rw [eT2] at o2 et
        obtain ⟨L, eL⟩ : ∃ L, gi ls (i : Int) = L := ⟨_, rfl⟩
        rw [eL] at ag o1 o2 el
        have hs1 : st H.length H' (H.length + 1) 0 [.i (T1 : Int)] = some (H'.set (H.length + 1) (.cells [.i (T1 : Int), .i (s2 : Int)])) := by rw [st_of hcell (by omega) (by simp)]; simp [wr]
        have c1 := get_set (k := .cells [.i (T1 : Int), .i (s2 : Int)]) hcell
        have hs2 : st H.length (H'.set (H.length + 1) (.cells [.i (T1 : Int), .i (s2 : Int)])) (H.length + 1) 1 [.i (T2 : Int)] = some ((H'.set (H.length + 1) (.cells [.i (T1 : Int), .i (s2 : Int)])).set (H.length + 1) (.cells [.i (T1 : Int), .i (T2 : Int)])) := by rw [st_of c1 (by omega) (by simp)]; simp [wr]
        simp (disch := (first | assumption | omega | (simp only [List.length_append, List.length_cons, List.length_nil]; omega))) only [↓wD,wU,Nat.reduceBEq,zx150,zx151,zx159,zx160,zx161,zx162,Nat.reduceAdd,Nat.reduceSub,Nat.reduceMul,Nat.reduceLeDiff,Nat.reduceLT,Nat.reduceEqDiff,Int.reduceAdd,Int.reduceSub,Int.reduceMul,Int.reduceNeg,Int.reduceLT,Int.reduceLE,Int.reduceEq,Int.reduceToNat,Int.cast_ofNat_Int,↓reduceIte, a5, a6, a7, a19, a20, a21, hyI', el, ldn_of k1, ag.call, ld_of hcell, o1, hs1, ld_of c1, o2, hs2]
        refine (ih hi').go ?_
        rw [et]
        simp (disch := (first | assumption | omega | (simp only [List.length_append, List.length_cons, List.length_nil]; omega))) only [↓wD,wU,Nat.reduceBEq,zx150,zx151,zx159,zx160,zx161,zx162,Nat.reduceAdd,Nat.reduceSub,Nat.reduceMul,Nat.reduceLeDiff,Nat.reduceLT,Nat.reduceEqDiff,Int.reduceAdd,Int.reduceSub,Int.reduceMul,Int.reduceNeg,Int.reduceLT,Int.reduceLE,Int.reduceEq,Int.reduceToNat,Int.cast_ofNat_Int,↓reduceIte, a5, a6, a7, a19, a20, a21]
        exact ⟨(hx.set' (fun _ h => h rfl) _).set' (fun _ h => h rfl) _, get_set c1⟩
      · have h' : agN f e (gi ls (i : Int)) = false := by simpa using h
        rw [h'] at ag
        rw [if_neg h] at et
        obtain ⟨L, eL⟩ : ∃ L, gi ls (i : Int) = L := ⟨_, rfl⟩
        rw [eL] at ag el
        simp (disch := (first | assumption | omega | (simp only [List.length_append, List.length_cons, List.length_nil]; omega))) only [↓wD,wU,Nat.reduceBEq,zx150,zx151,zx159,zx160,zx161,zx162,Nat.reduceAdd,Nat.reduceSub,Nat.reduceMul,Nat.reduceLeDiff,Nat.reduceLT,Nat.reduceEqDiff,Int.reduceAdd,Int.reduceSub,Int.reduceMul,Int.reduceNeg,Int.reduceLT,Int.reduceLE,Int.reduceEq,Int.reduceToNat,Int.cast_ofNat_Int,↓reduceIte, a5, a6, a7, a19, a20, a21, hyI', el, ldn_of k1, ag.call]
        refine (ih hi').go ?_
        rw [et]
        simp (disch := (first | assumption | omega | (simp only [List.length_append, List.length_cons, List.length_nil]; omega))) only [↓wD,wU,Nat.reduceBEq,zx150,zx151,zx159,zx160,zx161,zx162,Nat.reduceAdd,Nat.reduceSub,Nat.reduceMul,Nat.reduceLeDiff,Nat.reduceLT,Nat.reduceEqDiff,Int.reduceAdd,Int.reduceSub,Int.reduceMul,Int.reduceNeg,Int.reduceLT,Int.reduceLE,Int.reduceEq,Int.reduceToNat,Int.cast_ofNat_Int,↓reduceIte, a5, a6, a7, a19, a20, a21]
        exact ⟨hx, hcell⟩
    · obtain rfl : i = ls.length := by omega
      rw [List.take_length] at a7 hcell
      obtain ⟨⟨s1, s2, s3⟩, es⟩ : ∃ s, foldS f e ls A = s := ⟨_, rfl⟩
      rw [es] at a7 hcell ⊢
      simp only at a7 hcell ⊢
      have hs1 : st H.length H' (H.length + 1) 0 [.i (s1 : Int), .i (s2 : Int)] = some (H'.set (H.length + 1) (.cells [.i (s1 : Int), .i (s2 : Int)])) := by rw [st_of hcell (by omega) (by simp)]; simp [wr]
      simp (disch := (first | assumption | omega | (simp only [List.length_append, List.length_cons, List.length_nil]; omega))) only [↓wD,wU,Nat.reduceBEq,zx150,zx151,zx159,zx160,zx161,zx162,Nat.reduceAdd,Nat.reduceSub,Nat.reduceMul,Nat.reduceLeDiff,Nat.reduceLT,Nat.reduceEqDiff,Int.reduceAdd,Int.reduceSub,Int.reduceMul,Int.reduceNeg,Int.reduceLT,Int.reduceLE,Int.reduceEq,Int.reduceToNat,Int.cast_ofNat_Int,↓reduceIte, a5, a6, a7, ldn_of hcell, hs1, ldn_of (get_set hcell)]
  · simp (disch := (first | assumption | omega | (simp only [List.length_append, List.length_cons, List.length_nil]; omega))) only [↓wD,wU,Nat.reduceBEq,zx150,zx151,zx159,zx160,zx161,zx162,Nat.reduceAdd,Nat.reduceSub,Nat.reduceMul,Nat.reduceLeDiff,Nat.reduceLT,Nat.reduceEqDiff,Int.reduceAdd,Int.reduceSub,Int.reduceMul,Int.reduceNeg,Int.reduceLT,Int.reduceLE,Int.reduceEq,Int.reduceToNat,Int.cast_ofNat_Int,↓reduceIte]
    exact ⟨rfl, Kx.refl _ _, g2⟩
end Go.Proofs.YtjjndoigkhabdaaDoor
namespace Go.Proofs.YtjjndoigkhabdaaDoor
open Go Go.AM Go.Proofs
theorem agN_iff {f e x : Nat} : agN f e x = true ↔ ∀ c, (f.testBit c = true → x.testBit c = true) ∧ (e.testBit c = true → x.testBit c = false) := by
  unfold agN
  rw [Bool.and_eq_true, decide_eq_true_eq, decide_eq_true_eq]
  constructor
  · rintro ⟨h1, h2⟩ c
    have b1 : (x &&& f).testBit c = f.testBit c := by rw [h1]
    have b2 : (x &&& e).testBit c = (0 : Nat).testBit c := by rw [h2]
    rw [Nat.testBit_and] at b1 b2
    rw [Nat.zero_testBit] at b2
    cases q1 : x.testBit c <;> cases q2 : f.testBit c <;> cases q3 : e.testBit c <;> simp_all
  · intro h
    constructor
    · apply Nat.eq_of_testBit_eq
      intro c
      rw [Nat.testBit_and]
      have := (h c).1
      cases q1 : x.testBit c <;> cases q2 : f.testBit c <;> simp_all
    · apply Nat.eq_of_testBit_eq
      intro c
      rw [Nat.testBit_and, Nat.zero_testBit]
      have := (h c).2
      cases q1 : x.testBit c <;> cases q2 : e.testBit c <;> simp_all
theorem fold_ok {f e : Nat} : ∀ {ls : List Nat} {s : Nat × Nat × Bool}, (ls.foldl (stepS f e) s).2.2 = (s.2.2 || ls.any (agN f e))
  | [], s => by simp
  | x :: ls, s => by
    rw [List.foldl_cons, fold_ok, List.any_cons]
    unfold stepS
    cases h : agN f e x <;> simp
theorem lt_bit {x n c : Nat} (h : x < 2 ^ n) (hb : x.testBit c = true) : c < n := by
  rcases Nat.lt_or_ge c n with q | q
  · exact q
  · rw [Nat.testBit_lt_two_pow (Nat.lt_of_lt_of_le h (Nat.pow_le_pow_right (by omega) q))] at hb
    cases hb
theorem all_bit {n c : Nat} : (2 ^ n - 1).testBit c = decide (c < n) := Nat.testBit_two_pow_sub_one n c
theorem setS_ok {n f e : Nat} {cl : List Int} : (setS n cl f e).2.2 = (linesN n cl).any (agN f e) := by
  unfold setS foldS
  rw [fold_ok]; simp
end Go.Proofs.YtjjndoigkhabdaaDoor
namespace Go.Proofs.YtjjndoigkhabdaaDoor
open Go Go.AM Go.Proofs
theorem _root_.Go.AM.RetP.callv {E : Tab} {f : Nat} {us caps vs : List AV} {H : Heap} {v : AV} (h : RetP E f (us ++ vs ++ caps) H v) {lo : Nat} {Q : AV → Heap → Prop} : @callvP E lo (.fn f us caps) vs H ⟨Q⟩ = Q v H := h.iff
theorem _root_.Go.AM.RetP.callv1 {E : Tab} {f : Nat} {caps vs : List AV} {H : Heap} {v : AV} (h : RetP E f (vs ++ caps) H v) {lo : Nat} {Q : AV → Heap → Prop} : @callvP E lo (.fn f [] caps) vs H ⟨Q⟩ = Q v H := RetP.callv (us := []) (by simpa using h)
def cmpI (x y : Int) : Int := if x < y then -1 else if y < x then 1 else 0
/-- how two slices compare -/
def cmpL : List Int → List Int → Int
  | [], [] => 0
  | [], _ :: _ => -1
  | _ :: _, [] => 1
  | x :: xs, y :: ys => if cmpI x y ≠ 0 then cmpI x y else cmpL xs ys
theorem cmpL_refl : ∀ xs : List Int, cmpL xs xs = 0
  | [] => rfl
  | x :: xs => by simp [cmpL, cmpI, cmpL_refl xs]
end Go.Proofs.YtjjndoigkhabdaaDoor
namespace Go.Proofs.YtjjndoigkhabdaaDoor
open Go Go.AM Go.Proofs
theorem rv_pp {α β : Type} [Rep α] [Rep β] {p : Nat → Prop} {H : Heap} {u w : AV} {x : List α} {y : List β} (h1 : Sl p H u x) (h2 : Sl p H w y) : RV.rv p H (.ag [u, w]) ((x, y) : List α × List β) :=
  ⟨[u, w], rfl, [u], [w], rfl, ⟨u, rfl, h1⟩, ⟨w, rfl, h2⟩⟩
theorem rv_pp_elim {α β : Type} [Rep α] [Rep β] {p : Nat → Prop} {H : Heap} {v : AV} {x : List α × List β} (h : RV.rv p H v x) : ∃ u w, v = .ag [u, w] ∧ Sl p H u x.1 ∧ Sl p H w x.2 := by
  obtain ⟨cs, rfl, c1, c2, rfl, ⟨u, rfl, h1⟩, ⟨w, rfl, h2⟩⟩ := h
  exact ⟨u, w, rfl, h1, h2⟩
theorem rep_pp_elim {α β : Type} [Rep α] [Rep β] {p : Nat → Prop} {H : Heap} {cs : List AV} {x : List α × List β} (h : Rep.rep p H cs x) : ∃ u w, cs = [u, w] ∧ Sl p H u x.1 ∧ Sl p H w x.2 := by
  obtain ⟨c1, c2, rfl, ⟨u, rfl, h1⟩, ⟨w, rfl, h2⟩⟩ := h
  exact ⟨u, w, rfl, h1, h2⟩
def findG {α : Type} (P : α → Bool) : List α → Nat → Int
  | [], _ => -1
  | y :: ys, i => if P y then i else findG P ys (i + 1)
theorem findG_ge {α : Type} {P : α → Bool} : ∀ {xs : List α} {i : Nat}, decide (0 ≤ findG P xs i) = xs.any P
  | [], i => by simp [findG]
  | y :: ys, i => by
    unfold findG
    cases h : P y
    · simp [h, findG_ge]
    · simp [h]
theorem idxI_ret {p : Nat → Prop} {H : Heap} {v : AV} {f : Nat} {caps : List AV} {xs : List Int} {P : Int → Bool} (hx : Sl p H v xs) (hf : ∀ x ∈ xs, RetP E f ([.i x] ++ caps) H (.b (P x))) : RetP E 110 [v, .fn f [] caps] H (.i (findG P xs 0)) := by
  refine RetP.ro rfl fn110 rfl rfl ?_
  unfold f110A
  have hI := hx.I
  have hb := hx.bound
  obtain ⟨r, er⟩ : ∃ r, findG P xs 0 = r := ⟨_, rfl⟩
  rw [er]
  simp (disch := (first | assumption | omega | (simp only [List.length_append, List.length_cons, List.length_nil]; omega))) only [↓wD,wU,Nat.reduceBEq,zx150,zx151,zx159,zx160,zx161,zx162,Nat.reduceAdd,Nat.reduceSub,Nat.reduceMul,Nat.reduceLeDiff,Nat.reduceLT,Nat.reduceEqDiff,Int.reduceAdd,Int.reduceSub,Int.reduceMul,Int.reduceNeg,Int.reduceLT,Int.reduceLE,Int.reduceEq,Int.reduceToNat,Int.cast_ofNat_Int,↓reduceIte, hI]
  refine Wp.for xs.length (fun i a H' => H' = H ∧ a 0 = v ∧ a 1 = .fn f [] caps ∧ a 7 = .i xs.length ∧ a 8 = .i i ∧ findG P (xs.drop i) i = r) ?_ ?_
  · clear er
    rintro i a H' hi ⟨rfl, a0, a1, a7, a8, hh⟩ ih
    simp (disch := (first | assumption | omega | (simp only [List.length_append, List.length_cons, List.length_nil]; omega))) only [↓wD,wU,Nat.reduceBEq,zx150,zx151,zx159,zx160,zx161,zx162,Nat.reduceAdd,Nat.reduceSub,Nat.reduceMul,Nat.reduceLeDiff,Nat.reduceLT,Nat.reduceEqDiff,Int.reduceAdd,Int.reduceSub,Int.reduceMul,Int.reduceNeg,Int.reduceLT,Int.reduceLE,Int.reduceEq,Int.reduceToNat,Int.cast_ofNat_Int,↓reduceIte, a0, a1, a7, a8]
    refine condP_split (fun hlt => ?_) (fun hlt => ?_)
    · have hi' : i < xs.length := by omega
      have e : xs.drop i = gi xs (i : Int) :: xs.drop (i + 1) := by rw [gi_nat hi']; exact List.drop_eq_getElem_cons hi'
      rw [e, findG] at hh
      clear e
      have hc := hf _ (mem_gi hi')
      cases hp : P (gi xs (i : Int))
      · rw [hp] at hc hh
        simp only [Bool.false_eq_true, if_false] at hh
        simp (disch := (first | assumption | omega | (simp only [List.length_append, List.length_cons, List.length_nil]; omega))) only [↓wD,wU,Nat.reduceBEq,zx150,zx151,zx159,zx160,zx161,zx162,Nat.reduceAdd,Nat.reduceSub,Nat.reduceMul,Nat.reduceLeDiff,Nat.reduceLT,Nat.reduceEqDiff,Int.reduceAdd,Int.reduceSub,Int.reduceMul,Int.reduceNeg,Int.reduceLT,Int.reduceLE,Int.reduceEq,Int.reduceToNat,Int.cast_ofNat_Int,↓reduceIte, a0, a1, a7, a8, hI, hc.callv1]
        refine (ih hi').go ⟨rfl, ?_⟩
        simp (disch := (first | assumption | omega | (simp only [List.length_append, List.length_cons, List.length_nil]; omega))) only [↓wD,wU,Nat.reduceBEq,zx150,zx151,zx159,zx160,zx161,zx162,Nat.reduceAdd,Nat.reduceSub,Nat.reduceMul,Nat.reduceLeDiff,Nat.reduceLT,Nat.reduceEqDiff,Int.reduceAdd,Int.reduceSub,Int.reduceMul,Int.reduceNeg,Int.reduceLT,Int.reduceLE,Int.reduceEq,Int.reduceToNat,Int.cast_ofNat_Int,↓reduceIte, a0, a1, a7, a8]
        exact hh
      · rw [hp] at hc hh
        simp only [if_true] at hh
        simp (disch := (first | assumption | omega | (simp only [List.length_append, List.length_cons, List.length_nil]; omega))) only [↓wD,wU,Nat.reduceBEq,zx150,zx151,zx159,zx160,zx161,zx162,Nat.reduceAdd,Nat.reduceSub,Nat.reduceMul,Nat.reduceLeDiff,Nat.reduceLT,Nat.reduceEqDiff,Int.reduceAdd,Int.reduceSub,Int.reduceMul,Int.reduceNeg,Int.reduceLT,Int.reduceLE,Int.reduceEq,Int.reduceToNat,Int.cast_ofNat_Int,↓reduceIte, a0, a1, a7, a8, hI, hc.callv1]
        rw [hh]
    · rw [List.drop_of_length_le (by omega), findG] at hh
      subst hh
      simp (disch := (first | assumption | omega | (simp only [List.length_append, List.length_cons, List.length_nil]; omega))) only [↓wD,wU,Nat.reduceBEq,zx150,zx151,zx159,zx160,zx161,zx162,Nat.reduceAdd,Nat.reduceSub,Nat.reduceMul,Nat.reduceLeDiff,Nat.reduceLT,Nat.reduceEqDiff,Int.reduceAdd,Int.reduceSub,Int.reduceMul,Int.reduceNeg,Int.reduceLT,Int.reduceLE,Int.reduceEq,Int.reduceToNat,Int.cast_ofNat_Int,↓reduceIte, a0, a1, a7, a8]
  · simp (disch := (first | assumption | omega | (simp only [List.length_append, List.length_cons, List.length_nil]; omega))) only [↓wD,wU,Nat.reduceBEq,zx150,zx151,zx159,zx160,zx161,zx162,Nat.reduceAdd,Nat.reduceSub,Nat.reduceMul,Nat.reduceLeDiff,Nat.reduceLT,Nat.reduceEqDiff,Int.reduceAdd,Int.reduceSub,Int.reduceMul,Int.reduceNeg,Int.reduceLT,Int.reduceLE,Int.reduceEq,Int.reduceToNat,Int.cast_ofNat_Int,↓reduceIte]
    exact er
theorem hasI_ret {p : Nat → Prop} {H : Heap} {v : AV} {f : Nat} {caps : List AV} {xs : List Int} {P : Int → Bool} (hx : Sl p H v xs) (hf : ∀ x ∈ xs, RetP E f ([.i x] ++ caps) H (.b (P x))) : RetP E 89 [v, .fn f [] caps] H (.b (xs.any P)) := by
  refine RetP.ro rfl fn89 rfl rfl ?_
  unfold f89A
  have h := findG_ge (P := P) (xs := xs) (i := 0)
  simp (disch := (first | assumption | omega | (simp only [List.length_append, List.length_cons, List.length_nil]; omega))) only [↓wD,wU,Nat.reduceBEq,zx150,zx151,zx159,zx160,zx161,zx162,Nat.reduceAdd,Nat.reduceSub,Nat.reduceMul,Nat.reduceLeDiff,Nat.reduceLT,Nat.reduceEqDiff,Int.reduceAdd,Int.reduceSub,Int.reduceMul,Int.reduceNeg,Int.reduceLT,Int.reduceLE,Int.reduceEq,Int.reduceToNat,Int.cast_ofNat_Int,↓reduceIte, (idxI_ret hx hf).call, h]
theorem idxL_ret {p : Nat → Prop} {H : Heap} {v : AV} {f : Nat} {caps : List AV} {xs : List (List Int)} {P : List Int → Bool} (hx : Sl p H v xs) (hf : ∀ i : Nat, i < xs.length → RetP E f ([v.get H (i : Int)] ++ caps) H (.b (P (gi xs (i : Int))))) : RetP E 111 [v, .fn f [] caps] H (.i (findG P xs 0)) := by
  refine RetP.ro rfl fn111 rfl rfl ?_
  unfold f111A
  have hI := hx.L
  have hb := hx.bound
  obtain ⟨r, er⟩ : ∃ r, findG P xs 0 = r := ⟨_, rfl⟩
  rw [er]
  simp (disch := (first | assumption | omega | (simp only [List.length_append, List.length_cons, List.length_nil]; omega))) only [↓wD,wU,Nat.reduceBEq,zx150,zx151,zx159,zx160,zx161,zx162,Nat.reduceAdd,Nat.reduceSub,Nat.reduceMul,Nat.reduceLeDiff,Nat.reduceLT,Nat.reduceEqDiff,Int.reduceAdd,Int.reduceSub,Int.reduceMul,Int.reduceNeg,Int.reduceLT,Int.reduceLE,Int.reduceEq,Int.reduceToNat,Int.cast_ofNat_Int,↓reduceIte, hI]
  refine Wp.for xs.length (fun i a H' => H' = H ∧ a 0 = v ∧ a 1 = .fn f [] caps ∧ a 7 = .i xs.length ∧ a 8 = .i i ∧ findG P (xs.drop i) i = r) ?_ ?_
  · clear er
    rintro i a H' hi ⟨rfl, a0, a1, a7, a8, hh⟩ ih
    simp (disch := (first | assumption | omega | (simp only [List.length_append, List.length_cons, List.length_nil]; omega))) only [↓wD,wU,Nat.reduceBEq,zx150,zx151,zx159,zx160,zx161,zx162,Nat.reduceAdd,Nat.reduceSub,Nat.reduceMul,Nat.reduceLeDiff,Nat.reduceLT,Nat.reduceEqDiff,Int.reduceAdd,Int.reduceSub,Int.reduceMul,Int.reduceNeg,Int.reduceLT,Int.reduceLE,Int.reduceEq,Int.reduceToNat,Int.cast_ofNat_Int,↓reduceIte, a0, a1, a7, a8]
    refine condP_split (fun hlt => ?_) (fun hlt => ?_)
    · have hi' : i < xs.length := by omega
      have e : xs.drop i = gi xs (i : Int) :: xs.drop (i + 1) := by rw [gi_nat hi']; exact List.drop_eq_getElem_cons hi'
      rw [e, findG] at hh
      clear e
      have hc := hf i hi'
      cases hp : P (gi xs (i : Int))
      · rw [hp] at hc hh
        simp only [Bool.false_eq_true, if_false] at hh
        simp (disch := (first | assumption | omega | (simp only [List.length_append, List.length_cons, List.length_nil]; omega))) only [↓wD,wU,Nat.reduceBEq,zx150,zx151,zx159,zx160,zx161,zx162,Nat.reduceAdd,Nat.reduceSub,Nat.reduceMul,Nat.reduceLeDiff,Nat.reduceLT,Nat.reduceEqDiff,Int.reduceAdd,Int.reduceSub,Int.reduceMul,Int.reduceNeg,Int.reduceLT,Int.reduceLE,Int.reduceEq,Int.reduceToNat,Int.cast_ofNat_Int,↓reduceIte, a0, a1, a7, a8, hI, hc.callv1]
        refine (ih hi').go ⟨rfl, ?_⟩
        simp (disch := (first | assumption | omega | (simp only [List.length_append, List.length_cons, List.length_nil]; omega))) only [↓wD,wU,Nat.reduceBEq,zx150,zx151,zx159,zx160,zx161,zx162,Nat.reduceAdd,Nat.reduceSub,Nat.reduceMul,Nat.reduceLeDiff,Nat.reduceLT,Nat.reduceEqDiff,Int.reduceAdd,Int.reduceSub,Int.reduceMul,Int.reduceNeg,Int.reduceLT,Int.reduceLE,Int.reduceEq,Int.reduceToNat,Int.cast_ofNat_Int,↓reduceIte, a0, a1, a7, a8]
        exact hh
      · rw [hp] at hc hh
        simp only [if_true] at hh
        simp (disch := (first | assumption | omega | (simp only [List.length_append, List.length_cons, List.length_nil]; omega))) only [↓wD,wU,Nat.reduceBEq,zx150,zx151,zx159,zx160,zx161,zx162,Nat.reduceAdd,Nat.reduceSub,Nat.reduceMul,Nat.reduceLeDiff,Nat.reduceLT,Nat.reduceEqDiff,Int.reduceAdd,Int.reduceSub,Int.reduceMul,Int.reduceNeg,Int.reduceLT,Int.reduceLE,Int.reduceEq,Int.reduceToNat,Int.cast_ofNat_Int,↓reduceIte, a0, a1, a7, a8, hI, hc.callv1]
        rw [hh]
    · rw [List.drop_of_length_le (by omega), findG] at hh
      subst hh
      simp (disch := (first | assumption | omega | (simp only [List.length_append, List.length_cons, List.length_nil]; omega))) only [↓wD,wU,Nat.reduceBEq,zx150,zx151,zx159,zx160,zx161,zx162,Nat.reduceAdd,Nat.reduceSub,Nat.reduceMul,Nat.reduceLeDiff,Nat.reduceLT,Nat.reduceEqDiff,Int.reduceAdd,Int.reduceSub,Int.reduceMul,Int.reduceNeg,Int.reduceLT,Int.reduceLE,Int.reduceEq,Int.reduceToNat,Int.cast_ofNat_Int,↓reduceIte, a0, a1, a7, a8]
  · simp (disch := (first | assumption | omega | (simp only [List.length_append, List.length_cons, List.length_nil]; omega))) only [↓wD,wU,Nat.reduceBEq,zx150,zx151,zx159,zx160,zx161,zx162,Nat.reduceAdd,Nat.reduceSub,Nat.reduceMul,Nat.reduceLeDiff,Nat.reduceLT,Nat.reduceEqDiff,Int.reduceAdd,Int.reduceSub,Int.reduceMul,Int.reduceNeg,Int.reduceLT,Int.reduceLE,Int.reduceEq,Int.reduceToNat,Int.cast_ofNat_Int,↓reduceIte]
    exact er
theorem hasL_ret {p : Nat → Prop} {H : Heap} {v : AV} {f : Nat} {caps : List AV} {xs : List (List Int)} {P : List Int → Bool} (hx : Sl p H v xs) (hf : ∀ i : Nat, i < xs.length → RetP E f ([v.get H (i : Int)] ++ caps) H (.b (P (gi xs (i : Int))))) : RetP E 93 [v, .fn f [] caps] H (.b (xs.any P)) := by
  refine RetP.ro rfl fn93 rfl rfl ?_
  unfold f93A
  have h := findG_ge (P := P) (xs := xs) (i := 0)
  simp (disch := (first | assumption | omega | (simp only [List.length_append, List.length_cons, List.length_nil]; omega))) only [↓wD,wU,Nat.reduceBEq,zx150,zx151,zx159,zx160,zx161,zx162,Nat.reduceAdd,Nat.reduceSub,Nat.reduceMul,Nat.reduceLeDiff,Nat.reduceLT,Nat.reduceEqDiff,Int.reduceAdd,Int.reduceSub,Int.reduceMul,Int.reduceNeg,Int.reduceLT,Int.reduceLE,Int.reduceEq,Int.reduceToNat,Int.cast_ofNat_Int,↓reduceIte, (idxL_ret hx hf).call, h]
/-! ### Pictures -/
def PicP (w : Int) (xs : List Int) : Prop := SizeP xs.length ∧ SizeP w ∧ ∀ x ∈ xs, SetP w x
instance (w : Int) (xs : List Int) : Decidable (PicP w xs) := by unfold PicP; infer_instance
theorem pic1_ret {H : Heap} {b : Nat} {w x : Int} (hb : H[b]? = some (.cells [.i w])) : RetP E 90 ([.i x] ++ [.p b 0]) H (.b (!decide (SetP w x))) := by
  refine RetP.ro rfl fn90 rfl rfl ?_
  unfold f90A
  simp (disch := (first | assumption | omega | (simp only [List.length_append, List.length_cons, List.length_nil]; omega))) only [↓wD,wU,Nat.reduceBEq,zx150,zx151,zx159,zx160,zx161,zx162,Nat.reduceAdd,Nat.reduceSub,Nat.reduceMul,Nat.reduceLeDiff,Nat.reduceLT,Nat.reduceEqDiff,Int.reduceAdd,Int.reduceSub,Int.reduceMul,Int.reduceNeg,Int.reduceLT,Int.reduceLE,Int.reduceEq,Int.reduceToNat,Int.cast_ofNat_Int,↓reduceIte, ld_of hb, isSet_ret.call]
theorem isPic_ret {p : Nat → Prop} {H : Heap} {v : AV} {w : Int} {xs : List Int} (hx : Sl p H v xs) : RetP E 62 [.i w, v] H (.b (decide (PicP w xs))) := by
  refine RetP.ro rfl fn62 rfl rfl ?_
  unfold f62A
  have hx1 := hx.app [.cells [.i w]]
  have z1 := isSize_ret (H := H ++ [.cells [.i w]]) (n := xs.length)
  have z2 := isSize_ret (H := H ++ [.cells [.i w]]) (n := w)
  have c0 : (H ++ [.cells [.i w]])[H.length]? = some (.cells [.i w]) := get_last
  have hs := hasI_ret (P := fun x => !decide (SetP w x)) hx1 fun x _ => pic1_ret c0
  have hI := hx1.I
  by_cases h1 : SizeP xs.length
  · rw [decide_eq_true h1] at z1
    by_cases h2 : SizeP w
    · rw [decide_eq_true h2] at z2
      have e : decide (PicP w xs) = !xs.any fun x => !decide (SetP w x) := by
        by_cases h3 : ∀ x ∈ xs, SetP w x
        · rw [decide_eq_true (show PicP w xs from ⟨h1, h2, h3⟩)]
          symm
          rw [Bool.not_eq_true', List.any_eq_false]
          intro x hx
          simp [h3 x hx]
        · rw [decide_eq_false (show ¬ PicP w xs from fun h => h3 h.2.2)]
          symm
          rw [Bool.not_eq_false', List.any_eq_true]
          refine Classical.byContradiction fun hh => h3 fun x hx => Classical.byContradiction fun hn => hh ⟨x, hx, by simp [hn]⟩
      rw [e]
      simp (disch := (first | assumption | omega | (simp only [List.length_append, List.length_cons, List.length_nil]; omega))) only [↓wD,wU,Nat.reduceBEq,zx150,zx151,zx159,zx160,zx161,zx162,Nat.reduceAdd,Nat.reduceSub,Nat.reduceMul,Nat.reduceLeDiff,Nat.reduceLT,Nat.reduceEqDiff,Int.reduceAdd,Int.reduceSub,Int.reduceMul,Int.reduceNeg,Int.reduceLT,Int.reduceLE,Int.reduceEq,Int.reduceToNat,Int.cast_ofNat_Int,↓reduceIte, hI, z1.call, ld_of c0, z2.call, hs.call]
    · rw [decide_eq_false h2] at z2
      have e : decide (PicP w xs) = false := decide_eq_false fun h => h2 h.2.1
      simp (disch := (first | assumption | omega | (simp only [List.length_append, List.length_cons, List.length_nil]; omega))) only [↓wD,wU,Nat.reduceBEq,zx150,zx151,zx159,zx160,zx161,zx162,Nat.reduceAdd,Nat.reduceSub,Nat.reduceMul,Nat.reduceLeDiff,Nat.reduceLT,Nat.reduceEqDiff,Int.reduceAdd,Int.reduceSub,Int.reduceMul,Int.reduceNeg,Int.reduceLT,Int.reduceLE,Int.reduceEq,Int.reduceToNat,Int.cast_ofNat_Int,↓reduceIte, hI, z1.call, ld_of c0, z2.call, e]
  · rw [decide_eq_false h1] at z1
    have e : decide (PicP w xs) = false := decide_eq_false fun h => h1 h.1
    simp (disch := (first | assumption | omega | (simp only [List.length_append, List.length_cons, List.length_nil]; omega))) only [↓wD,wU,Nat.reduceBEq,zx150,zx151,zx159,zx160,zx161,zx162,Nat.reduceAdd,Nat.reduceSub,Nat.reduceMul,Nat.reduceLeDiff,Nat.reduceLT,Nat.reduceEqDiff,Int.reduceAdd,Int.reduceSub,Int.reduceMul,Int.reduceNeg,Int.reduceLT,Int.reduceLE,Int.reduceEq,Int.reduceToNat,Int.cast_ofNat_Int,↓reduceIte, hI, z1.call, e]
def nL (P : List Nat) : List Int := P.map fun x : Nat => (x : Int)
theorem nL_len (P : List Nat) : (nL P).length = P.length := by simp [nL]
theorem nL_gi {P : List Nat} {i : Nat} (h : i < P.length) : gi (nL P) (i : Int) = (gi P (i : Int) : Nat) := by
  rw [gi_nat (by rw [nL_len]; exact h), gi_nat h]; simp [nL]
/-- a column, behind i rows -/
def colT (P : List Nat) (c : Nat) : Nat → Nat
  | 0 => 0
  | i + 1 => colT P c i ||| ((gi P (i : Int) >>> c) % 2) <<< i
def colN (P : List Nat) (c : Nat) : Nat := colT P c P.length
theorem colT_lt (P : List Nat) (c : Nat) : ∀ i, colT P c i < 2 ^ i
  | 0 => by simp [colT]
  | i + 1 => by
    have h := colT_lt P c i
    have h1 : colT P c i < 2 ^ (i + 1) := Nat.lt_of_lt_of_le h (Nat.pow_le_pow_right (by omega) (by omega))
    have h2 : ((gi P (i : Int) >>> c) % 2) <<< i < 2 ^ (i + 1) := by
      rw [Nat.shiftLeft_eq, Nat.pow_succ, Nat.mul_comm]
      have : (gi P (i : Int) >>> c) % 2 ≤ 1 := by omega
      have h3 := Nat.mul_le_mul_left (2 ^ i) this
      have h4 : 0 < 2 ^ i := Nat.two_pow_pos i
      omega
    exact Nat.or_lt_two_pow h1 h2
theorem col_step {P : List Nat} {c i : Nat} (hc : c ≤ 31) (hi : i ≤ 31) : binA .shr (.i (gi P (i : Int) : Nat)) (.i (c : Int)) = some (.i ((gi P (i : Int) >>> c : Nat) : Int)) ∧ (gi P (i : Int) ≤ 9223372036854775807 → binA .and (.i ((gi P (i : Int) >>> c : Nat) : Int)) (.i 1) = some (.i (((gi P (i : Int) >>> c) % 2 : Nat) : Int))) ∧
    binA .shl (.i (((gi P (i : Int) >>> c) % 2 : Nat) : Int)) (.i (i : Int)) = some (.i ((((gi P (i : Int) >>> c) % 2) <<< i : Nat) : Int)) ∧
    binA .or (.i ((colT P c i : Nat) : Int)) (.i ((((gi P (i : Int) >>> c) % 2) <<< i : Nat) : Int)) = some (.i ((colT P c (i + 1) : Nat) : Int)) := by
  have hm : (gi P (i : Int) >>> c) % 2 ≤ 1 := by omega
  have h3 := Nat.mul_le_mul_right (2 ^ i) hm
  have h4 : 2 ^ i ≤ 2 ^ 31 := Nat.pow_le_pow_right (by omega) hi
  have h5 : ((gi P (i : Int) >>> c) % 2) <<< i ≤ 9223372036854775807 := by rw [Nat.shiftLeft_eq]; omega
  have h6 := colT_lt P c i
  refine ⟨b_shr (by omega), fun hp => ?_, b_shl (by omega) h5, b_or (by omega) h5⟩
  have sle : gi P (i : Int) >>> c ≤ gi P (i : Int) := by rw [Nat.shiftRight_eq_div_pow]; exact Nat.div_le_self _ _
  have := b_and (a := gi P (i : Int) >>> c) (b := 1) (by omega) (by omega)
  rw [Nat.and_one_is_mod] at this
  exact this
theorem column_ret {p : Nat → Prop} {H : Heap} {v : AV} {P : List Nat} {c : Nat} (hx : Sl p H v (nL P)) (hl : P.length ≤ 31) (hc : c ≤ 31) (h31 : ∀ x ∈ P, x ≤ 9223372036854775807) : RetP E 91 [v, .i c] H (.i (colN P c : Nat)) := by
  refine RetP.ro rfl fn91 rfl rfl ?_
  unfold f91A
  have hI := hx.I
  rw [nL_len] at hI
  simp (disch := (first | assumption | omega | (simp only [List.length_append, List.length_cons, List.length_nil]; omega))) only [↓wD,wU,Nat.reduceBEq,zx150,zx151,zx159,zx160,zx161,zx162,Nat.reduceAdd,Nat.reduceSub,Nat.reduceMul,Nat.reduceLeDiff,Nat.reduceLT,Nat.reduceEqDiff,Int.reduceAdd,Int.reduceSub,Int.reduceMul,Int.reduceNeg,Int.reduceLT,Int.reduceLE,Int.reduceEq,Int.reduceToNat,Int.cast_ofNat_Int,↓reduceIte, hI]
  refine Wp.for P.length (fun i a H' => H' = H ∧ a 1 = .i c ∧ a 5 = .i (colT P c i : Nat) ∧ a 8 = v ∧ a 9 = .i P.length ∧ a 10 = .i i) ?_ ?_
  · rintro i a H' hi ⟨rfl, a1, a5, a8, a9, a10⟩ ih
    simp (disch := (first | assumption | omega | (simp only [List.length_append, List.length_cons, List.length_nil]; omega))) only [↓wD,wU,Nat.reduceBEq,zx150,zx151,zx159,zx160,zx161,zx162,Nat.reduceAdd,Nat.reduceSub,Nat.reduceMul,Nat.reduceLeDiff,Nat.reduceLT,Nat.reduceEqDiff,Int.reduceAdd,Int.reduceSub,Int.reduceMul,Int.reduceNeg,Int.reduceLT,Int.reduceLE,Int.reduceEq,Int.reduceToNat,Int.cast_ofNat_Int,↓reduceIte, a1, a5, a8, a9, a10]
    refine condP_split (fun hlt => ?_) (fun hlt => ?_)
    · have hi' : i < P.length := by omega
      obtain ⟨o1, o2, o3, o4⟩ := col_step (P := P) (c := c) (i := i) hc (by omega)
      replace o2 := o2 (h31 _ (mem_gi hi'))
      have eg := nL_gi hi'
      simp (disch := (first | assumption | omega | (simp only [List.length_append, List.length_cons, List.length_nil]; omega))) only [↓wD,wU,Nat.reduceBEq,zx150,zx151,zx159,zx160,zx161,zx162,Nat.reduceAdd,Nat.reduceSub,Nat.reduceMul,Nat.reduceLeDiff,Nat.reduceLT,Nat.reduceEqDiff,Int.reduceAdd,Int.reduceSub,Int.reduceMul,Int.reduceNeg,Int.reduceLT,Int.reduceLE,Int.reduceEq,Int.reduceToNat,Int.cast_ofNat_Int,↓reduceIte, a1, a5, a8, a9, a10, hI, eg, o1, o2, o3, o4]
      refine (ih hi').go ⟨rfl, ?_⟩
      simp (disch := (first | assumption | omega | (simp only [List.length_append, List.length_cons, List.length_nil]; omega))) only [↓wD,wU,Nat.reduceBEq,zx150,zx151,zx159,zx160,zx161,zx162,Nat.reduceAdd,Nat.reduceSub,Nat.reduceMul,Nat.reduceLeDiff,Nat.reduceLT,Nat.reduceEqDiff,Int.reduceAdd,Int.reduceSub,Int.reduceMul,Int.reduceNeg,Int.reduceLT,Int.reduceLE,Int.reduceEq,Int.reduceToNat,Int.cast_ofNat_Int,↓reduceIte, a1, a5, a8, a9, a10]
    · obtain rfl : i = P.length := by omega
      simp (disch := (first | assumption | omega | (simp only [List.length_append, List.length_cons, List.length_nil]; omega))) only [↓wD,wU,Nat.reduceBEq,zx150,zx151,zx159,zx160,zx161,zx162,Nat.reduceAdd,Nat.reduceSub,Nat.reduceMul,Nat.reduceLeDiff,Nat.reduceLT,Nat.reduceEqDiff,Int.reduceAdd,Int.reduceSub,Int.reduceMul,Int.reduceNeg,Int.reduceLT,Int.reduceLE,Int.reduceEq,Int.reduceToNat,Int.cast_ofNat_Int,↓reduceIte, a1, a5, a8, a9, a10]
      rfl
  · simp (disch := (first | assumption | omega | (simp only [List.length_append, List.length_cons, List.length_nil]; omega))) only [↓wD,wU,Nat.reduceBEq,zx150,zx151,zx159,zx160,zx161,zx162,Nat.reduceAdd,Nat.reduceSub,Nat.reduceMul,Nat.reduceLeDiff,Nat.reduceLT,Nat.reduceEqDiff,Int.reduceAdd,Int.reduceSub,Int.reduceMul,Int.reduceNeg,Int.reduceLT,Int.reduceLE,Int.reduceEq,Int.reduceToNat,Int.cast_ofNat_Int,↓reduceIte]
    rfl
theorem PicP.nat {w : Int} {xs : List Int} (h : PicP w xs) : ∃ (m : Nat) (P : List Nat), w = m ∧ xs = nL P ∧ 1 ≤ m ∧ m ≤ 5 ∧ 1 ≤ P.length ∧ P.length ≤ 5 ∧ ∀ x ∈ P, x < 2 ^ m := by
  obtain ⟨m, rfl, m1, m5⟩ := h.2.1.nat
  refine ⟨m, xs.map Int.toNat, rfl, ?_, m1, m5, by have := h.1.1; simp; omega, by have := h.1.2; simp; omega, fun x hx => ?_⟩
  · unfold nL
    rw [List.map_map]
    conv => lhs; rw [← List.map_id xs]
    apply List.map_congr_left
    intro x hx
    obtain ⟨_, y, _, e, _⟩ := (h.2.2 x hx).nat
    rw [e]; rfl
  · obtain ⟨y, hy, rfl⟩ := List.mem_map.1 hx
    obtain ⟨_, z, _, e, _, _, hz, _⟩ := (h.2.2 y hy).nat
    subst e
    rw [Int.toNat_natCast]
    have := (h.2.2 _ hy).2.2
    rw [Int.toNat_natCast] at this
    omega
end Go.Proofs.YtjjndoigkhabdaaDoor
namespace Go.Proofs.YtjjndoigkhabdaaDoor
open Go Go.AM Go.Proofs
/-- the Puzzle of a picture -/
def cluesL (m : Nat) (P : List Nat) : List (List Int) × List (List Int) := (P.map blkL, (List.range m).map fun c => blkL (colN P c))
theorem clues_ret {p : Nat → Prop} {H : Heap} {v : AV} {m : Nat} {P : List Nat} (hx : Sl p H v (nL P)) (m5 : m ≤ 5) (hl : P.length ≤ 5) (hP : ∀ x ∈ P, x < 2 ^ m) : Ret E 63 [.i m, v] (fun _ => False) H (cluesL m P) := by
  refine Ret.ro rfl fn63 rfl ?_
  unfold f63A
  have p5 := pow5 m5
  have h32 : ∀ x ∈ P, x < 32 := fun x hx => by have := hP x hx; omega
  replace hx : Sl (fun b => b < H.length) H v (nL P) := hx.low.weak fun _ h => h.2
  have hI0 := ((hx.app [.cells [.nils, .nils]]).app [.cells [.nils, .nils]]).I
  rw [nL_len] at hI0
  simp (disch := (first | assumption | omega | (simp only [List.length_append, List.length_cons, List.length_nil]; omega))) only [↓wD,wU,Nat.reduceBEq,zx150,zx151,zx159,zx160,zx161,zx162,Nat.reduceAdd,Nat.reduceSub,Nat.reduceMul,Nat.reduceLeDiff,Nat.reduceLT,Nat.reduceEqDiff,Int.reduceAdd,Int.reduceSub,Int.reduceMul,Int.reduceNeg,Int.reduceLT,Int.reduceLE,Int.reduceEq,Int.reduceToNat,Int.cast_ofNat_Int,↓reduceIte, hI0]
  refine Wp.for P.length (fun i a H' => ∃ u, a 0 = .i m ∧ a 1 = v ∧ a 4 = .p H.length 0 ∧ a 5 = .p (H.length + 1) 0 ∧ a 9 = v ∧ a 10 = .i P.length ∧ a 11 = .i i ∧ Gr H H' ∧ H.length + 2 ≤ H'.length ∧
    H'[H.length]? = some (.cells [.nils, .nils]) ∧ H'[H.length + 1]? = some (.cells [u, .nils]) ∧ Acc (H.length + 2) (fun b => H.length + 2 ≤ b) H' u ((P.take i).map blkL)) ?_ ?_
  · rintro i a H1 hi ⟨u, a0, a1, a4, a5, a9, a10, a11, hg, hln, c1, c2, hu⟩ ih
    simp (disch := (first | assumption | omega | (simp only [List.length_append, List.length_cons, List.length_nil]; omega))) only [↓wD,wU,Nat.reduceBEq,zx150,zx151,zx159,zx160,zx161,zx162,Nat.reduceAdd,Nat.reduceSub,Nat.reduceMul,Nat.reduceLeDiff,Nat.reduceLT,Nat.reduceEqDiff,Int.reduceAdd,Int.reduceSub,Int.reduceMul,Int.reduceNeg,Int.reduceLT,Int.reduceLE,Int.reduceEq,Int.reduceToNat,Int.cast_ofNat_Int,↓reduceIte, a0, a1, a4, a5, a9, a10, a11]
    have hxg := hx.gr hg
    refine condP_split (fun hlt => ?_) (fun hlt => ?_)
    · have hi' : i < P.length := by omega
      have hI := hxg.I
      rw [nL_len] at hI
      have eg := nL_gi hi'
      have hgx := h32 _ (mem_gi hi')
      simp (disch := (first | assumption | omega | (simp only [List.length_append, List.length_cons, List.length_nil]; omega))) only [↓wD,wU,Nat.reduceBEq,zx150,zx151,zx159,zx160,zx161,zx162,Nat.reduceAdd,Nat.reduceSub,Nat.reduceMul,Nat.reduceLeDiff,Nat.reduceLT,Nat.reduceEqDiff,Int.reduceAdd,Int.reduceSub,Int.reduceMul,Int.reduceNeg,Int.reduceLT,Int.reduceLE,Int.reduceEq,Int.reduceToNat,Int.cast_ofNat_Int,↓reduceIte, a0, a1, a4, a5, a9, a10, a11, hI, eg, ld_of c2]
      refine (blocks_ret hgx).toF fun y H2 hg2 hy => ?_
      have hl2 := hg2.1
      have hu2 := hu.gr hg2
      simp (disch := (first | assumption | omega | (simp only [List.length_append, List.length_cons, List.length_nil]; omega))) only [↓wD,wU,Nat.reduceBEq,zx150,zx151,zx159,zx160,zx161,zx162,Nat.reduceAdd,Nat.reduceSub,Nat.reduceMul,Nat.reduceLeDiff,Nat.reduceLT,Nat.reduceEqDiff,Int.reduceAdd,Int.reduceSub,Int.reduceMul,Int.reduceNeg,Int.reduceLT,Int.reduceLE,Int.reduceEq,Int.reduceToNat,Int.cast_ofNat_Int,↓reduceIte, hy.cellsV]
      refine hu2.pushL (by omega) (by omega) hy (fun b hb => ⟨by omega, fun e => by have := hu.blk_lt e; omega⟩) (by rw [List.length_map, List.length_take]; omega) fun u' H3 hu' hk3 hl3' _ => ?_
      have c33 := hk3.get (b := H.length + 1) (fun e => by have := hu2.blk_lt e; omega) (hg2.get c2)
      have c23 := hk3.get (b := H.length) (fun e => by have := hu2.blk_lt e; omega) (hg2.get c1)
      simp (disch := (first | assumption | omega | (simp only [List.length_append, List.length_cons, List.length_nil]; omega))) only [↓wD,wU,Nat.reduceBEq,zx150,zx151,zx159,zx160,zx161,zx162,Nat.reduceAdd,Nat.reduceSub,Nat.reduceMul,Nat.reduceLeDiff,Nat.reduceLT,Nat.reduceEqDiff,Int.reduceAdd,Int.reduceSub,Int.reduceMul,Int.reduceNeg,Int.reduceLT,Int.reduceLE,Int.reduceEq,Int.reduceToNat,Int.cast_ofNat_Int,↓reduceIte, a0, a1, a4, a5, a9, a10, a11, st_of c33, hu'.cellsV]
      refine (ih hi').go ⟨u', ?_⟩
      simp (disch := (first | assumption | omega | (simp only [List.length_append, List.length_cons, List.length_nil]; omega))) only [↓wD,wU,Nat.reduceBEq,zx150,zx151,zx159,zx160,zx161,zx162,Nat.reduceAdd,Nat.reduceSub,Nat.reduceMul,Nat.reduceLeDiff,Nat.reduceLT,Nat.reduceEqDiff,Int.reduceAdd,Int.reduceSub,Int.reduceMul,Int.reduceNeg,Int.reduceLT,Int.reduceLE,Int.reduceEq,Int.reduceToNat,Int.cast_ofNat_Int,↓reduceIte, a0, a1, a4, a5, a9, a10, a11]
      have e : (P.take (i + 1)).map blkL = (P.take i).map blkL ++ [blkL (gi P (i : Int))] := by rw [take_gi hi', List.map_append]; rfl
      rw [e]
      refine ⟨((hg.trans hg2).push hu2 (by omega) hk3).set (by omega) _, by simp; omega, by rw [List.getElem?_set_ne (by omega)]; exact c23, get_set c33, ?_⟩
      exact hu'.mono ((Kp.set _ _ _).weak fun b hb => by omega) fun _ h => h
    · obtain rfl : i = P.length := by omega
      rw [List.take_length] at hu
      have hus : Sl (fun b => H.length + 2 ≤ b ∧ b < H1.length) H1 u (P.map blkL) := hu.sl.low.weak fun b h => ⟨h.1.elim id id, h.2⟩
      clear ih
      simp (disch := (first | assumption | omega | (simp only [List.length_append, List.length_cons, List.length_nil]; omega))) only [↓wD,wU,Nat.reduceBEq,zx150,zx151,zx159,zx160,zx161,zx162,Nat.reduceAdd,Nat.reduceSub,Nat.reduceMul,Nat.reduceLeDiff,Nat.reduceLT,Nat.reduceEqDiff,Int.reduceAdd,Int.reduceSub,Int.reduceMul,Int.reduceNeg,Int.reduceLT,Int.reduceLE,Int.reduceEq,Int.reduceToNat,Int.cast_ofNat_Int,↓reduceIte, a0, a1, a4, a5, a9, a10, a11]
      refine Wp.for m (fun i a H' => ∃ w, a 1 = v ∧ a 4 = .p H.length 0 ∧ a 5 = .p (H.length + 1) 0 ∧  a 23 = .i m ∧ a 24 = .i i ∧ Kp (fun b => b < H1.length ∧ b ≠ H.length + 1) H1 H' ∧
        H'[H.length + 1]? = some (.cells [u, w]) ∧ Acc H1.length (fun b => H1.length ≤ b) H' w ((List.range i).map fun c => blkL (colN P c))) ?_ ?_
      · clear a0 a1 a4 a5 a9 a10 a11
        rintro i a H2 hi ⟨w, a1, a4, a5,  aT1, aT2, hk, c2', hw⟩ ih
        simp (disch := (first | assumption | omega | (simp only [List.length_append, List.length_cons, List.length_nil]; omega))) only [↓wD,wU,Nat.reduceBEq,zx150,zx151,zx159,zx160,zx161,zx162,Nat.reduceAdd,Nat.reduceSub,Nat.reduceMul,Nat.reduceLeDiff,Nat.reduceLT,Nat.reduceEqDiff,Int.reduceAdd,Int.reduceSub,Int.reduceMul,Int.reduceNeg,Int.reduceLT,Int.reduceLE,Int.reduceEq,Int.reduceToNat,Int.cast_ofNat_Int,↓reduceIte, a1, a4, a5,  aT1, aT2]
        refine condP_split (fun hlt => ?_) (fun hlt => ?_)
        · have hi' : i < m := by omega
          have hx2 : Sl (fun b => b < H.length) H2 v (nL P) := hxg.mono (hk.weak fun b h => by omega) fun _ h => h
          have hx2I := hx2.I
          rw [nL_len] at hx2I
          have cr := column_ret (c := i) hx2 (by omega) (by omega) fun x hx => by have := h32 x hx; omega
          have clt : colN P i < 2 ^ P.length := colT_lt P i P.length
          have cl32 := pow5 hl
          simp (disch := (first | assumption | omega | (simp only [List.length_append, List.length_cons, List.length_nil]; omega))) only [↓wD,wU,Nat.reduceBEq,zx150,zx151,zx159,zx160,zx161,zx162,Nat.reduceAdd,Nat.reduceSub,Nat.reduceMul,Nat.reduceLeDiff,Nat.reduceLT,Nat.reduceEqDiff,Int.reduceAdd,Int.reduceSub,Int.reduceMul,Int.reduceNeg,Int.reduceLT,Int.reduceLE,Int.reduceEq,Int.reduceToNat,Int.cast_ofNat_Int,↓reduceIte, a1, a4, a5,  aT1, aT2, ld_of c2', cr.call, hx2I]
          refine (blocks_ret (x := colN P i) (by omega)).toF fun y H3 hg3 hy => ?_
          have hl3 := hg3.1
          have hk1 := hk.1
          have hw3 := hw.gr hg3
          simp (disch := (first | assumption | omega | (simp only [List.length_append, List.length_cons, List.length_nil]; omega))) only [↓wD,wU,Nat.reduceBEq,zx150,zx151,zx159,zx160,zx161,zx162,Nat.reduceAdd,Nat.reduceSub,Nat.reduceMul,Nat.reduceLeDiff,Nat.reduceLT,Nat.reduceEqDiff,Int.reduceAdd,Int.reduceSub,Int.reduceMul,Int.reduceNeg,Int.reduceLT,Int.reduceLE,Int.reduceEq,Int.reduceToNat,Int.cast_ofNat_Int,↓reduceIte, hy.cellsV]
          refine hw3.pushL (by omega) (by omega) hy (fun b hb => ⟨by omega, fun e => by have := hw.blk_lt e; omega⟩) (by rw [List.length_map, List.length_range]; omega) fun w' H4 hw' hk4 hl4 _ => ?_
          have c34 := hk4.get (b := H.length + 1) (fun e => by have := hw3.blk_lt e; omega) (hg3.get c2')
          simp (disch := (first | assumption | omega | (simp only [List.length_append, List.length_cons, List.length_nil]; omega))) only [↓wD,wU,Nat.reduceBEq,zx150,zx151,zx159,zx160,zx161,zx162,Nat.reduceAdd,Nat.reduceSub,Nat.reduceMul,Nat.reduceLeDiff,Nat.reduceLT,Nat.reduceEqDiff,Int.reduceAdd,Int.reduceSub,Int.reduceMul,Int.reduceNeg,Int.reduceLT,Int.reduceLE,Int.reduceEq,Int.reduceToNat,Int.cast_ofNat_Int,↓reduceIte, a1, a4, a5,  aT1, aT2, st_of c34, hw'.cellsV]
          refine (ih hi').go ⟨w', ?_⟩
          simp (disch := (first | assumption | omega | (simp only [List.length_append, List.length_cons, List.length_nil]; omega))) only [↓wD,wU,Nat.reduceBEq,zx150,zx151,zx159,zx160,zx161,zx162,Nat.reduceAdd,Nat.reduceSub,Nat.reduceMul,Nat.reduceLeDiff,Nat.reduceLT,Nat.reduceEqDiff,Int.reduceAdd,Int.reduceSub,Int.reduceMul,Int.reduceNeg,Int.reduceLT,Int.reduceLE,Int.reduceEq,Int.reduceToNat,Int.cast_ofNat_Int,↓reduceIte, a1, a4, a5,  aT1, aT2]
          have e : (List.range (i + 1)).map (fun c => blkL (colN P c)) = (List.range i).map (fun c => blkL (colN P c)) ++ [blkL (colN P i)] := by rw [List.range_succ, List.map_append]; rfl
          rw [e]
          refine ⟨?_, get_set c34, hw'.mono ((Kp.set _ _ _).weak fun b hb => by omega) fun _ h => h⟩
          exact ((hk.trans hg3.all fun _ _ => trivial).trans hk4 fun b hb e => by have := hw3.blk_lt e; omega).trans (Kp.set _ _ _) fun b hb => hb.2
        · obtain rfl : i = m := by omega
          have c14 := hk.get (b := H.length) ⟨by omega, by omega⟩ c1
          have hu3 : Sl (fun b => H.length + 2 ≤ b ∧ b < H1.length) H2 u (P.map blkL) := hus.kp (hk.weak fun b h => by omega)
          have hst : st H.length H2 H.length 0 [u, w] = some (H2.set H.length (.cells [u, w])) := by rw [st_of c14 (Nat.le_refl _) (by simp)]; simp [wr]
          simp (disch := (first | assumption | omega | (simp only [List.length_append, List.length_cons, List.length_nil]; omega))) only [↓wD,wU,Nat.reduceBEq,zx150,zx151,zx159,zx160,zx161,zx162,Nat.reduceAdd,Nat.reduceSub,Nat.reduceMul,Nat.reduceLeDiff,Nat.reduceLT,Nat.reduceEqDiff,Int.reduceAdd,Int.reduceSub,Int.reduceMul,Int.reduceNeg,Int.reduceLT,Int.reduceLE,Int.reduceEq,Int.reduceToNat,Int.cast_ofNat_Int,↓reduceIte, a1, a4, a5,  aT1, aT2, ldn_of c2', hu3.cellsV, hw.cellsV, hst, ldn_of (get_set c14)]
          refine rv_pp ?_ ?_
          · exact (hu3.kp ((Kp.set _ _ _).weak fun b h => by omega)).weak fun b h => .inr (by omega)
          · exact (hw.mono ((Kp.set _ _ _).weak fun b hb => by omega) fun _ h => h).sl.weak fun b h => .inr (by omega)
      · simp (disch := (first | assumption | omega | (simp only [List.length_append, List.length_cons, List.length_nil]; omega))) only [↓wD,wU,Nat.reduceBEq,zx150,zx151,zx159,zx160,zx161,zx162,Nat.reduceAdd,Nat.reduceSub,Nat.reduceMul,Nat.reduceLeDiff,Nat.reduceLT,Nat.reduceEqDiff,Int.reduceAdd,Int.reduceSub,Int.reduceMul,Int.reduceNeg,Int.reduceLT,Int.reduceLE,Int.reduceEq,Int.reduceToNat,Int.cast_ofNat_Int,↓reduceIte, a0, a1, a4, a5, a9, a10, a11]
        exact ⟨.nils, Kp.refl _ _, c2, Acc.nil⟩
  · simp (disch := (first | assumption | omega | (simp only [List.length_append, List.length_cons, List.length_nil]; omega))) only [↓wD,wU,Nat.reduceBEq,zx150,zx151,zx159,zx160,zx161,zx162,Nat.reduceAdd,Nat.reduceSub,Nat.reduceMul,Nat.reduceLeDiff,Nat.reduceLT,Nat.reduceEqDiff,Int.reduceAdd,Int.reduceSub,Int.reduceMul,Int.reduceNeg,Int.reduceLT,Int.reduceLE,Int.reduceEq,Int.reduceToNat,Int.cast_ofNat_Int,↓reduceIte]
    first | exact ⟨.nils, ((Gr.refl H).app _).app _, rfl, Acc.nil⟩ | exact ⟨.nils, ((Gr.refl H).app _).app _, rfl, rfl, Acc.nil⟩
end Go.Proofs.YtjjndoigkhabdaaDoor
namespace Go.Proofs.YtjjndoigkhabdaaDoor
open Go Go.AM Go.Proofs
theorem own_ret {p : Nat → Prop} {H : Heap} {u w : AV} {x y : List (List Int)} (hx : Sl p H u x) (hy : Sl p H w y) : Ret E 31 [.ag [u, w]] p H (x, y) := by
  refine Ret.ro rfl fn31 rfl ?_
  unfold f31A
  have c0 : (H ++ [Blk.cells [u, w]] ++ [Blk.cells [.nils, .nils]])[H.length]? = some (.cells [u, w]) := by simp [List.getElem?_append]
  have c1 : (H ++ [Blk.cells [u, w]] ++ [Blk.cells [.nils, .nils]])[H.length + 1]? = some (.cells [.nils, .nils]) := by simp [List.getElem?_append]
  have hx2 := (hx.low.app [Blk.cells [u, w]]).app [Blk.cells [.nils, .nils]]
  have hy2 := (hy.low.app [Blk.cells [u, w]]).app [Blk.cells [.nils, .nils]]
  have hu := hx.cellsV
  have hw := hy.cellsV
  have hst : st H.length (H ++ [Blk.cells [u, w]] ++ [Blk.cells [.nils, .nils]]) (H.length + 1) 0 [u, w] = some ((H ++ [Blk.cells [u, w]] ++ [Blk.cells [.nils, .nils]]).set (H.length + 1) (.cells [u, w])) := by rw [st_of c1 (by omega) (by simp)]; simp [wr]
  have g1 := get_set (k := .cells [u, w]) c1
  have e1 := (hx2.kp ((Kp.set (H.length + 1) _ (.cells [u, w])).weak fun b h => by omega)).weak (q := fun b => p b ∨ H.length ≤ b) fun b h => .inl h.1
  have e2 := (hy2.kp ((Kp.set (H.length + 1) _ (.cells [u, w])).weak fun b h => by omega)).weak (q := fun b => p b ∨ H.length ≤ b) fun b h => .inl h.1
  generalize (H ++ [Blk.cells [u, w]] ++ [Blk.cells [.nils, .nils]]).set (H.length + 1) (.cells [u, w]) = H3 at *
  simp (disch := (first | assumption | omega | (simp only [List.length_append, List.length_cons, List.length_nil]; omega))) only [↓wD,wU,Nat.reduceBEq,zx150,zx151,zx159,zx160,zx161,zx162,Nat.reduceAdd,Nat.reduceSub,Nat.reduceMul,Nat.reduceLeDiff,Nat.reduceLT,Nat.reduceEqDiff,Int.reduceAdd,Int.reduceSub,Int.reduceMul,Int.reduceNeg,Int.reduceLT,Int.reduceLE,Int.reduceEq,Int.reduceToNat,Int.cast_ofNat_Int,↓reduceIte, hu, hw, ld_of c0, hst, ldn_of g1]
  exact rv_pp e1 e2
theorem psame_ret {p q : Nat → Prop} {H : Heap} {u w u' w' : AV} {x y x' y' : List (List Int)} (hx : Sl p H u x) (hy : Sl p H w y) (hx' : Sl q H u' x') (hy' : Sl q H w' y') : RetP E 30 [.ag [u, w], .ag [u', w']] H (.b (decide (x = x' ∧ y = y'))) := by
  refine RetP.ro rfl fn30 rfl rfl ?_
  unfold f30A
  have c0 : (H ++ [Blk.cells [u, w]] ++ [Blk.cells [u', w']])[H.length]? = some (.cells [u, w]) := by simp [List.getElem?_append]
  have c1 : (H ++ [Blk.cells [u, w]] ++ [Blk.cells [u', w']])[H.length + 1]? = some (.cells [u', w']) := by simp [List.getElem?_append]
  have kx := (hx.app [Blk.cells [u, w]]).app [Blk.cells [u', w']]
  have ky := (hy.app [Blk.cells [u, w]]).app [Blk.cells [u', w']]
  have kx' := (hx'.app [Blk.cells [u, w]]).app [Blk.cells [u', w']]
  have ky' := (hy'.app [Blk.cells [u, w]]).app [Blk.cells [u', w']]
  have vu := hx.cellsV
  have vw := hy.cellsV
  have vu' := hx'.cellsV
  have vw' := hy'.cellsV
  have bx := hx.bound
  have bY := hy.bound
  clear hx hy hx' hy'
  have lx := kx.L
  have ly := ky.L
  have lx' := kx'.L
  have ly' := ky'.L
  by_cases h1 : x.length = x'.length
  case neg =>
    have d1 : decide (¬ (x.length : Int) = x'.length) = true := decide_eq_true (by omega)
    have e : decide (x = x' ∧ y = y') = false := decide_eq_false fun h => h1 (by rw [h.1])
    simp (disch := (first | assumption | omega | (simp only [List.length_append, List.length_cons, List.length_nil]; omega))) only [↓wD,wU,Nat.reduceBEq,zx150,zx151,zx159,zx160,zx161,zx162,Nat.reduceAdd,Nat.reduceSub,Nat.reduceMul,Nat.reduceLeDiff,Nat.reduceLT,Nat.reduceEqDiff,Int.reduceAdd,Int.reduceSub,Int.reduceMul,Int.reduceNeg,Int.reduceLT,Int.reduceLE,Int.reduceEq,Int.reduceToNat,Int.cast_ofNat_Int,↓reduceIte, vu, vw, vu', vw', ld_of c0, ld_of c1, lx, ly, lx', ly', d1, e]
  have d1 : decide (¬ (x.length : Int) = x'.length) = false := decide_eq_false (by omega)
  by_cases h2 : y.length = y'.length
  case neg =>
    have d2 : decide (¬ (y.length : Int) = y'.length) = true := decide_eq_true (by omega)
    have e : decide (x = x' ∧ y = y') = false := decide_eq_false fun h => h2 (by rw [h.2])
    simp (disch := (first | assumption | omega | (simp only [List.length_append, List.length_cons, List.length_nil]; omega))) only [↓wD,wU,Nat.reduceBEq,zx150,zx151,zx159,zx160,zx161,zx162,Nat.reduceAdd,Nat.reduceSub,Nat.reduceMul,Nat.reduceLeDiff,Nat.reduceLT,Nat.reduceEqDiff,Int.reduceAdd,Int.reduceSub,Int.reduceMul,Int.reduceNeg,Int.reduceLT,Int.reduceLE,Int.reduceEq,Int.reduceToNat,Int.cast_ofNat_Int,↓reduceIte, vu, vw, vu', vw', ld_of c0, ld_of c1, lx, ly, lx', ly', d1, d2, e]
  have d2 : decide (¬ (y.length : Int) = y'.length) = false := decide_eq_false (by omega)
  simp (disch := (first | assumption | omega | (simp only [List.length_append, List.length_cons, List.length_nil]; omega))) only [↓wD,wU,Nat.reduceBEq,zx150,zx151,zx159,zx160,zx161,zx162,Nat.reduceAdd,Nat.reduceSub,Nat.reduceMul,Nat.reduceLeDiff,Nat.reduceLT,Nat.reduceEqDiff,Int.reduceAdd,Int.reduceSub,Int.reduceMul,Int.reduceNeg,Int.reduceLT,Int.reduceLE,Int.reduceEq,Int.reduceToNat,Int.cast_ofNat_Int,↓reduceIte, vu, vw, vu', vw', ld_of c0, ld_of c1, lx, ly, lx', ly', d1, d2]
  generalize H ++ [Blk.cells [u, w]] ++ [Blk.cells [u', w']] = H2 at *
  refine Wp.for x.length (fun i a H' => H' = H2 ∧ a 2 = .p H.length 0 ∧ a 3 = .p (H.length + 1) 0 ∧ a 26 = u ∧ a 27 = .i x.length ∧ a 28 = .i i ∧ x.take i = x'.take i) ?_ ?_
  · rintro i a H' hi ⟨rfl, a2, a3, a26, a27, a28, hh⟩ ih
    simp (disch := (first | assumption | omega | (simp only [List.length_append, List.length_cons, List.length_nil]; omega))) only [↓wD,wU,Nat.reduceBEq,zx150,zx151,zx159,zx160,zx161,zx162,Nat.reduceAdd,Nat.reduceSub,Nat.reduceMul,Nat.reduceLeDiff,Nat.reduceLT,Nat.reduceEqDiff,Int.reduceAdd,Int.reduceSub,Int.reduceMul,Int.reduceNeg,Int.reduceLT,Int.reduceLE,Int.reduceEq,Int.reduceToNat,Int.cast_ofNat_Int,↓reduceIte, a2, a3, a26, a27, a28]
    refine condP_split (fun hlt => ?_) (fun hlt => ?_)
    · have hi' : i < x.length := by omega
      have g := kx.get (k := (i : Int)) (by omega) (by omega)
      have g' := kx'.get (k := (i : Int)) (by omega) (by omega)
      have sm := same_ret g g'
      by_cases he : gi x (i : Int) = gi x' (i : Int)
      · rw [decide_eq_true he] at sm
        have hh2 := take_eq_succ hh hi' (by omega) he
        simp (disch := (first | assumption | omega | (simp only [List.length_append, List.length_cons, List.length_nil]; omega))) only [↓wD,wU,Nat.reduceBEq,zx150,zx151,zx159,zx160,zx161,zx162,Nat.reduceAdd,Nat.reduceSub,Nat.reduceMul,Nat.reduceLeDiff,Nat.reduceLT,Nat.reduceEqDiff,Int.reduceAdd,Int.reduceSub,Int.reduceMul,Int.reduceNeg,Int.reduceLT,Int.reduceLE,Int.reduceEq,Int.reduceToNat,Int.cast_ofNat_Int,↓reduceIte, a2, a3, a26, a27, a28, lx, lx', ld_of c1, sm.call]
        refine (ih hi').go ⟨rfl, ?_⟩
        simp (disch := (first | assumption | omega | (simp only [List.length_append, List.length_cons, List.length_nil]; omega))) only [↓wD,wU,Nat.reduceBEq,zx150,zx151,zx159,zx160,zx161,zx162,Nat.reduceAdd,Nat.reduceSub,Nat.reduceMul,Nat.reduceLeDiff,Nat.reduceLT,Nat.reduceEqDiff,Int.reduceAdd,Int.reduceSub,Int.reduceMul,Int.reduceNeg,Int.reduceLT,Int.reduceLE,Int.reduceEq,Int.reduceToNat,Int.cast_ofNat_Int,↓reduceIte, a2, a3, a26, a27, a28]
        exact hh2
      · rw [decide_eq_false he] at sm
        have e : decide (x = x' ∧ y = y') = false := decide_eq_false fun h => he (by rw [h.1])
        simp (disch := (first | assumption | omega | (simp only [List.length_append, List.length_cons, List.length_nil]; omega))) only [↓wD,wU,Nat.reduceBEq,zx150,zx151,zx159,zx160,zx161,zx162,Nat.reduceAdd,Nat.reduceSub,Nat.reduceMul,Nat.reduceLeDiff,Nat.reduceLT,Nat.reduceEqDiff,Int.reduceAdd,Int.reduceSub,Int.reduceMul,Int.reduceNeg,Int.reduceLT,Int.reduceLE,Int.reduceEq,Int.reduceToNat,Int.cast_ofNat_Int,↓reduceIte, a2, a3, a26, a27, a28, lx, lx', ld_of c1, sm.call, e]
    · have ex := take_all hh h1 (by omega)
      clear ih hh
      simp (disch := (first | assumption | omega | (simp only [List.length_append, List.length_cons, List.length_nil]; omega))) only [↓wD,wU,Nat.reduceBEq,zx150,zx151,zx159,zx160,zx161,zx162,Nat.reduceAdd,Nat.reduceSub,Nat.reduceMul,Nat.reduceLeDiff,Nat.reduceLT,Nat.reduceEqDiff,Int.reduceAdd,Int.reduceSub,Int.reduceMul,Int.reduceNeg,Int.reduceLT,Int.reduceLE,Int.reduceEq,Int.reduceToNat,Int.cast_ofNat_Int,↓reduceIte, a2, a3, a26, a27, a28, ld_of c0, ly]
      refine Wp.for y.length (fun i a Hh => Hh = H' ∧ a 2 = .p H.length 0 ∧ a 3 = .p (H.length + 1) 0 ∧ a 43 = w ∧ a 44 = .i y.length ∧ a 45 = .i i ∧ y.take i = y'.take i) ?_ ?_
      · clear a2 a3 a26 a27 a28
        rintro i a Hh hi ⟨rfl, a2, a3, a43, a44, a45, hh⟩ ih
        simp (disch := (first | assumption | omega | (simp only [List.length_append, List.length_cons, List.length_nil]; omega))) only [↓wD,wU,Nat.reduceBEq,zx150,zx151,zx159,zx160,zx161,zx162,Nat.reduceAdd,Nat.reduceSub,Nat.reduceMul,Nat.reduceLeDiff,Nat.reduceLT,Nat.reduceEqDiff,Int.reduceAdd,Int.reduceSub,Int.reduceMul,Int.reduceNeg,Int.reduceLT,Int.reduceLE,Int.reduceEq,Int.reduceToNat,Int.cast_ofNat_Int,↓reduceIte, a2, a3, a43, a44, a45]
        refine condP_split (fun hlt => ?_) (fun hlt => ?_)
        · have hi' : i < y.length := by omega
          have g := ky.get (k := (i : Int)) (by omega) (by omega)
          have g' := ky'.get (k := (i : Int)) (by omega) (by omega)
          have sm := same_ret g g'
          by_cases he : gi y (i : Int) = gi y' (i : Int)
          · rw [decide_eq_true he] at sm
            have hh2 := take_eq_succ hh hi' (by omega) he
            simp (disch := (first | assumption | omega | (simp only [List.length_append, List.length_cons, List.length_nil]; omega))) only [↓wD,wU,Nat.reduceBEq,zx150,zx151,zx159,zx160,zx161,zx162,Nat.reduceAdd,Nat.reduceSub,Nat.reduceMul,Nat.reduceLeDiff,Nat.reduceLT,Nat.reduceEqDiff,Int.reduceAdd,Int.reduceSub,Int.reduceMul,Int.reduceNeg,Int.reduceLT,Int.reduceLE,Int.reduceEq,Int.reduceToNat,Int.cast_ofNat_Int,↓reduceIte, a2, a3, a43, a44, a45, ly, ly', ld_of c1, sm.call]
            refine (ih hi').go ⟨rfl, ?_⟩
            simp (disch := (first | assumption | omega | (simp only [List.length_append, List.length_cons, List.length_nil]; omega))) only [↓wD,wU,Nat.reduceBEq,zx150,zx151,zx159,zx160,zx161,zx162,Nat.reduceAdd,Nat.reduceSub,Nat.reduceMul,Nat.reduceLeDiff,Nat.reduceLT,Nat.reduceEqDiff,Int.reduceAdd,Int.reduceSub,Int.reduceMul,Int.reduceNeg,Int.reduceLT,Int.reduceLE,Int.reduceEq,Int.reduceToNat,Int.cast_ofNat_Int,↓reduceIte, a2, a3, a43, a44, a45]
            exact hh2
          · rw [decide_eq_false he] at sm
            have e : decide (x = x' ∧ y = y') = false := decide_eq_false fun h => he (by rw [h.2])
            simp (disch := (first | assumption | omega | (simp only [List.length_append, List.length_cons, List.length_nil]; omega))) only [↓wD,wU,Nat.reduceBEq,zx150,zx151,zx159,zx160,zx161,zx162,Nat.reduceAdd,Nat.reduceSub,Nat.reduceMul,Nat.reduceLeDiff,Nat.reduceLT,Nat.reduceEqDiff,Int.reduceAdd,Int.reduceSub,Int.reduceMul,Int.reduceNeg,Int.reduceLT,Int.reduceLE,Int.reduceEq,Int.reduceToNat,Int.cast_ofNat_Int,↓reduceIte, a2, a3, a43, a44, a45, ly, ly', ld_of c1, sm.call, e]
        · have e : decide (x = x' ∧ y = y') = true := decide_eq_true ⟨ex, take_all hh h2 (by omega)⟩
          simp (disch := (first | assumption | omega | (simp only [List.length_append, List.length_cons, List.length_nil]; omega))) only [↓wD,wU,Nat.reduceBEq,zx150,zx151,zx159,zx160,zx161,zx162,Nat.reduceAdd,Nat.reduceSub,Nat.reduceMul,Nat.reduceLeDiff,Nat.reduceLT,Nat.reduceEqDiff,Int.reduceAdd,Int.reduceSub,Int.reduceMul,Int.reduceNeg,Int.reduceLT,Int.reduceLE,Int.reduceEq,Int.reduceToNat,Int.cast_ofNat_Int,↓reduceIte, a2, a3, a43, a44, a45, e]
      · (simp (disch := (first | assumption | omega | (simp only [List.length_append, List.length_cons, List.length_nil]; omega))) only [↓wD,wU,Nat.reduceBEq,zx150,zx151,zx159,zx160,zx161,zx162,Nat.reduceAdd,Nat.reduceSub,Nat.reduceMul,Nat.reduceLeDiff,Nat.reduceLT,Nat.reduceEqDiff,Int.reduceAdd,Int.reduceSub,Int.reduceMul,Int.reduceNeg,Int.reduceLT,Int.reduceLE,Int.reduceEq,Int.reduceToNat,Int.cast_ofNat_Int,↓reduceIte, a2, a3, a26, a27, a28]) <;> simp
  · (simp (disch := (first | assumption | omega | (simp only [List.length_append, List.length_cons, List.length_nil]; omega))) only [↓wD,wU,Nat.reduceBEq,zx150,zx151,zx159,zx160,zx161,zx162,Nat.reduceAdd,Nat.reduceSub,Nat.reduceMul,Nat.reduceLeDiff,Nat.reduceLT,Nat.reduceEqDiff,Int.reduceAdd,Int.reduceSub,Int.reduceMul,Int.reduceNeg,Int.reduceLT,Int.reduceLE,Int.reduceEq,Int.reduceToNat,Int.cast_ofNat_Int,↓reduceIte]) <;> simp
theorem cluesX_ret {p : Nat → Prop} {H : Heap} {v : AV} {w : Int} {xs : List Int} {m : Nat} {P : List Nat} (hx : Sl p H v xs) (h : PicP w xs) (ew : w = m) (ex : xs = nL P) (m5 : m ≤ 5) (hl : P.length ≤ 5) (hP : ∀ x ∈ P, x < 2 ^ m) : Ret E 28 [.i w, v] (fun _ => False) H (T2.mk (cluesL m P) (0 : Int)) := by
  subst ew ex
  refine Ret.ro rfl fn28 rfl ?_
  unfold f28A
  have hx1 := hx.app [.cells [.nils, .nils]]
  have ip := isPic_ret (w := (m : Int)) hx1
  rw [decide_eq_true h] at ip
  simp (disch := (first | assumption | omega | (simp only [List.length_append, List.length_cons, List.length_nil]; omega))) only [↓wD,wU,Nat.reduceBEq,zx150,zx151,zx159,zx160,zx161,zx162,Nat.reduceAdd,Nat.reduceSub,Nat.reduceMul,Nat.reduceLeDiff,Nat.reduceLT,Nat.reduceEqDiff,Int.reduceAdd,Int.reduceSub,Int.reduceMul,Int.reduceNeg,Int.reduceLT,Int.reduceLE,Int.reduceEq,Int.reduceToNat,Int.cast_ofNat_Int,↓reduceIte, ip.call]
  refine (clues_ret hx1 m5 hl hP).toX fun u H1 x1 hu => ?_
  obtain ⟨r, c, rfl, h1, h2⟩ := rv_pp_elim hu
  have c0 : H1[H.length]? = some (.cells [.nils, .nils]) := x1.get trivial get_last
  have hst : st H.length H1 H.length 0 [r, c] = some (H1.set H.length (.cells [r, c])) := by rw [st_of c0 (Nat.le_refl _) (by simp)]; simp [wr]
  have hn : (H ++ [Blk.cells [.nils, .nils]]).length = H.length + 1 := by simp
  have k1 := (h1.weak (q := fun b => H.length + 1 ≤ b) fun b h => h.elim (fun h => h.elim) fun h => by omega).kp ((Kp.set H.length H1 (.cells [r, c])).weak fun b h => by omega)
  have k2 := (h2.weak (q := fun b => H.length + 1 ≤ b) fun b h => h.elim (fun h => h.elim) fun h => by omega).kp ((Kp.set H.length H1 (.cells [r, c])).weak fun b h => by omega)
  simp (disch := (first | assumption | omega | (simp only [List.length_append, List.length_cons, List.length_nil]; omega))) only [↓wD,wU,Nat.reduceBEq,zx150,zx151,zx159,zx160,zx161,zx162,Nat.reduceAdd,Nat.reduceSub,Nat.reduceMul,Nat.reduceLeDiff,Nat.reduceLT,Nat.reduceEqDiff,Int.reduceAdd,Int.reduceSub,Int.reduceMul,Int.reduceNeg,Int.reduceLT,Int.reduceLE,Int.reduceEq,Int.reduceToNat,Int.cast_ofNat_Int,↓reduceIte, h1.cellsV, h2.cellsV, hst, ldn_of (get_set c0)]
  exact rv_2 (rv_pp (k1.weak fun b h => .inr (by omega)) (k2.weak fun b h => .inr (by omega))) rv_i
end Go.Proofs.YtjjndoigkhabdaaDoor
namespace Go.Proofs.YtjjndoigkhabdaaDoor
open Go Go.AM Go.Proofs
def cutT (t : List (List Int)) : List (List Int) := (t.take 8).map fun r => r.take 8
theorem table_ret {p : Nat → Prop} {H : Heap} {v : AV} {t : List (List Int)} (ht : Sl p H v t) : Ret E 70 [v] (fun _ => False) H (cutT t) := by
  refine Ret.ro rfl fn70 rfl ?_
  unfold f70A
  have hb := ht.bound
  simp (disch := (first | assumption | omega | (simp only [List.length_append, List.length_cons, List.length_nil]; omega))) only [↓wD,wU,Nat.reduceBEq,zx150,zx151,zx159,zx160,zx161,zx162,Nat.reduceAdd,Nat.reduceSub,Nat.reduceMul,Nat.reduceLeDiff,Nat.reduceLT,Nat.reduceEqDiff,Int.reduceAdd,Int.reduceSub,Int.reduceMul,Int.reduceNeg,Int.reduceLT,Int.reduceLE,Int.reduceEq,Int.reduceToNat,Int.cast_ofNat_Int,↓reduceIte, ht.L]
  replace ht : Sl (fun b => b < H.length) H v t := ht.low.weak fun _ h => h.2
  refine Wp.for t.length (fun i a H' => ∃ u, a 6 = v ∧ a 7 = .i t.length ∧ a 8 = .i i ∧ a 3 = u ∧ Gr H H' ∧ Acc H.length (fun b => H.length ≤ b) H' u (((t.take i).take 8).map fun r => r.take 8)) ?_ ?_
  · rintro i a H1 hi ⟨u, h6, h7, h8, h3, hg, hu⟩ ih
    simp (disch := (first | assumption | omega | (simp only [List.length_append, List.length_cons, List.length_nil]; omega))) only [↓wD,wU,Nat.reduceBEq,zx150,zx151,zx159,zx160,zx161,zx162,Nat.reduceAdd,Nat.reduceSub,Nat.reduceMul,Nat.reduceLeDiff,Nat.reduceLT,Nat.reduceEqDiff,Int.reduceAdd,Int.reduceSub,Int.reduceMul,Int.reduceNeg,Int.reduceLT,Int.reduceLE,Int.reduceEq,Int.reduceToNat,Int.cast_ofNat_Int,↓reduceIte, h6, h7, h8, h3]
    refine condP_split (fun hlt => ?_) (fun hlt => ?_)
    · have hi' : i < t.length := by omega
      have ht1 := ht.gr hg
      have g := ht1.get (k := (i : Int)) (by omega) (by omega)
      by_cases h8' : i < 8
      · have hd : decide ((i : Int) < 8) = true := decide_eq_true (by omega)
        simp (disch := (first | assumption | omega | (simp only [List.length_append, List.length_cons, List.length_nil]; omega))) only [↓wD,wU,Nat.reduceBEq,zx150,zx151,zx159,zx160,zx161,zx162,Nat.reduceAdd,Nat.reduceSub,Nat.reduceMul,Nat.reduceLeDiff,Nat.reduceLT,Nat.reduceEqDiff,Int.reduceAdd,Int.reduceSub,Int.reduceMul,Int.reduceNeg,Int.reduceLT,Int.reduceLE,Int.reduceEq,Int.reduceToNat,Int.cast_ofNat_Int,↓reduceIte, h6, h7, h8, h3, ht1.L, hd]
        refine (list_ret g).toF fun y H2 hg2 hy => ?_
        have hl2 := hg2.1
        simp (disch := (first | assumption | omega | (simp only [List.length_append, List.length_cons, List.length_nil]; omega))) only [↓wD,wU,Nat.reduceBEq,zx150,zx151,zx159,zx160,zx161,zx162,Nat.reduceAdd,Nat.reduceSub,Nat.reduceMul,Nat.reduceLeDiff,Nat.reduceLT,Nat.reduceEqDiff,Int.reduceAdd,Int.reduceSub,Int.reduceMul,Int.reduceNeg,Int.reduceLT,Int.reduceLE,Int.reduceEq,Int.reduceToNat,Int.cast_ofNat_Int,↓reduceIte, hy.cellsV]
        refine (hu.gr hg2).pushL (Nat.le_refl _) (by have := hg.1; omega) hy (fun b hb => ⟨by have := hg.1; omega, fun e => by have := hu.blk_lt e; omega⟩) ?_ fun u' H3 hu' hk3 hl3' _ => ?_
        · simp; omega
        · simp (disch := (first | assumption | omega | (simp only [List.length_append, List.length_cons, List.length_nil]; omega))) only [↓wD,wU,Nat.reduceBEq,zx150,zx151,zx159,zx160,zx161,zx162,Nat.reduceAdd,Nat.reduceSub,Nat.reduceMul,Nat.reduceLeDiff,Nat.reduceLT,Nat.reduceEqDiff,Int.reduceAdd,Int.reduceSub,Int.reduceMul,Int.reduceNeg,Int.reduceLT,Int.reduceLE,Int.reduceEq,Int.reduceToNat,Int.cast_ofNat_Int,↓reduceIte, h6, h7, h8, h3]
          refine (ih hi').go ⟨u', ?_⟩
          simp (disch := (first | assumption | omega | (simp only [List.length_append, List.length_cons, List.length_nil]; omega))) only [↓wD,wU,Nat.reduceBEq,zx150,zx151,zx159,zx160,zx161,zx162,Nat.reduceAdd,Nat.reduceSub,Nat.reduceMul,Nat.reduceLeDiff,Nat.reduceLT,Nat.reduceEqDiff,Int.reduceAdd,Int.reduceSub,Int.reduceMul,Int.reduceNeg,Int.reduceLT,Int.reduceLE,Int.reduceEq,Int.reduceToNat,Int.cast_ofNat_Int,↓reduceIte, h6, h7, h8, h3]
          refine ⟨((hg.trans hg2).push (hu.gr hg2) (Nat.le_refl _) hk3), ?_⟩
          have e : ((t.take (i + 1)).take 8) = (t.take i).take 8 ++ [gi t i] := by
            rw [List.take_take, List.take_take, show min 8 (i + 1) = i + 1 by omega, show min 8 i = i by omega, take_gi hi']
          rw [e, List.map_append]; exact hu'
      · have hd : decide ((i : Int) < 8) = false := decide_eq_false (by omega)
        simp (disch := (first | assumption | omega | (simp only [List.length_append, List.length_cons, List.length_nil]; omega))) only [↓wD,wU,Nat.reduceBEq,zx150,zx151,zx159,zx160,zx161,zx162,Nat.reduceAdd,Nat.reduceSub,Nat.reduceMul,Nat.reduceLeDiff,Nat.reduceLT,Nat.reduceEqDiff,Int.reduceAdd,Int.reduceSub,Int.reduceMul,Int.reduceNeg,Int.reduceLT,Int.reduceLE,Int.reduceEq,Int.reduceToNat,Int.cast_ofNat_Int,↓reduceIte, h6, h7, h8, h3, ht1.L, hd]
        refine (ih hi').go ⟨u, ?_⟩
        simp (disch := (first | assumption | omega | (simp only [List.length_append, List.length_cons, List.length_nil]; omega))) only [↓wD,wU,Nat.reduceBEq,zx150,zx151,zx159,zx160,zx161,zx162,Nat.reduceAdd,Nat.reduceSub,Nat.reduceMul,Nat.reduceLeDiff,Nat.reduceLT,Nat.reduceEqDiff,Int.reduceAdd,Int.reduceSub,Int.reduceMul,Int.reduceNeg,Int.reduceLT,Int.reduceLE,Int.reduceEq,Int.reduceToNat,Int.cast_ofNat_Int,↓reduceIte, h6, h7, h8, h3]
        have e : ((t.take (i + 1)).take 8) = (t.take i).take 8 := by
          rw [List.take_take, List.take_take]; congr 1; omega
        rw [e]; exact ⟨hg, hu⟩
    · have e : i = t.length := by omega
      subst e
      simp (disch := (first | assumption | omega | (simp only [List.length_append, List.length_cons, List.length_nil]; omega))) only [↓wD,wU,Nat.reduceBEq,zx150,zx151,zx159,zx160,zx161,zx162,Nat.reduceAdd,Nat.reduceSub,Nat.reduceMul,Nat.reduceLeDiff,Nat.reduceLT,Nat.reduceEqDiff,Int.reduceAdd,Int.reduceSub,Int.reduceMul,Int.reduceNeg,Int.reduceLT,Int.reduceLE,Int.reduceEq,Int.reduceToNat,Int.cast_ofNat_Int,↓reduceIte, h6, h7, h8, h3]
      rw [List.take_length] at hu
      exact hu.sl.weak fun b h => .inr (by omega)
  · simp (disch := (first | assumption | omega | (simp only [List.length_append, List.length_cons, List.length_nil]; omega))) only [↓wD,wU,Nat.reduceBEq,zx150,zx151,zx159,zx160,zx161,zx162,Nat.reduceAdd,Nat.reduceSub,Nat.reduceMul,Nat.reduceLeDiff,Nat.reduceLT,Nat.reduceEqDiff,Int.reduceAdd,Int.reduceSub,Int.reduceMul,Int.reduceNeg,Int.reduceLT,Int.reduceLE,Int.reduceEq,Int.reduceToNat,Int.cast_ofNat_Int,↓reduceIte]
    exact ⟨.nils, rfl, Gr.refl _, Acc.nil⟩
theorem of_ret {p q : Nat → Prop} {H : Heap} {u w : AV} {x y : List (List Int)} (hx : Sl p H u x) (hy : Sl q H w y) : Ret E 37 [.ag [u, w]] (fun _ => False) H (cutT x, cutT y) := by
  refine Ret.ro rfl fn37 rfl ?_
  unfold f37A
  have vu := hx.cellsV
  have vw := hy.cellsV
  have c0 : (H ++ [Blk.cells [u, w]] ++ [Blk.cells [.nils, .nils]])[H.length]? = some (.cells [u, w]) := by simp [List.getElem?_append]
  have c1 : (H ++ [Blk.cells [u, w]] ++ [Blk.cells [.nils, .nils]])[H.length + 1]? = some (.cells [.nils, .nils]) := by simp [List.getElem?_append]
  have hx2 := (hx.app [Blk.cells [u, w]]).app [Blk.cells [.nils, .nils]]
  have hy2 := (hy.app [Blk.cells [u, w]]).app [Blk.cells [.nils, .nils]]
  have hn : (H ++ [Blk.cells [u, w]] ++ [Blk.cells [.nils, .nils]]).length = H.length + 2 := by simp
  simp (disch := (first | assumption | omega | (simp only [List.length_append, List.length_cons, List.length_nil]; omega))) only [↓wD,wU,Nat.reduceBEq,zx150,zx151,zx159,zx160,zx161,zx162,Nat.reduceAdd,Nat.reduceSub,Nat.reduceMul,Nat.reduceLeDiff,Nat.reduceLT,Nat.reduceEqDiff,Int.reduceAdd,Int.reduceSub,Int.reduceMul,Int.reduceNeg,Int.reduceLT,Int.reduceLE,Int.reduceEq,Int.reduceToNat,Int.cast_ofNat_Int,↓reduceIte, vu, vw, ld_of c0]
  generalize H ++ [Blk.cells [u, w]] ++ [Blk.cells [.nils, .nils]] = H2 at *
  refine (table_ret hx2).toFX fun r H3 x3 hr => ?_
  have c03 := x3.get trivial c0
  have c13 := x3.get trivial c1
  simp (disch := (first | assumption | omega | (simp only [List.length_append, List.length_cons, List.length_nil]; omega))) only [↓wD,wU,Nat.reduceBEq,zx150,zx151,zx159,zx160,zx161,zx162,Nat.reduceAdd,Nat.reduceSub,Nat.reduceMul,Nat.reduceLeDiff,Nat.reduceLT,Nat.reduceEqDiff,Int.reduceAdd,Int.reduceSub,Int.reduceMul,Int.reduceNeg,Int.reduceLT,Int.reduceLE,Int.reduceEq,Int.reduceToNat,Int.cast_ofNat_Int,↓reduceIte, ld_of c03]
  refine (table_ret (hy2.kp (x3.all _).kp)).toFX fun s H4 x4 hs => ?_
  have hl3 := x3.1
  have c14 := x4.get trivial c13
  have hr4 := hr.kp (x4.all _).kp
  have hst : st H.length H4 (H.length + 1) 0 [r, s] = some (H4.set (H.length + 1) (.cells [r, s])) := by rw [st_of c14 (by omega) (by simp)]; simp [wr]
  simp (disch := (first | assumption | omega | (simp only [List.length_append, List.length_cons, List.length_nil]; omega))) only [↓wD,wU,Nat.reduceBEq,zx150,zx151,zx159,zx160,zx161,zx162,Nat.reduceAdd,Nat.reduceSub,Nat.reduceMul,Nat.reduceLeDiff,Nat.reduceLT,Nat.reduceEqDiff,Int.reduceAdd,Int.reduceSub,Int.reduceMul,Int.reduceNeg,Int.reduceLT,Int.reduceLE,Int.reduceEq,Int.reduceToNat,Int.cast_ofNat_Int,↓reduceIte, hr.cellsV, hs.cellsV, hst, ldn_of (get_set c14)]
  refine rv_pp ?_ ?_
  · exact (hr4.kp ((Kp.set _ _ _).weak fun b h => by omega)).weak fun b h => .inr (by omega)
  · exact (hs.kp ((Kp.set _ _ _).weak fun b h => by omega)).weak fun b h => .inr (by omega)
/-! ### Valid -/
def PuzP (x y : List (List Int)) : Prop := SizeP x.length ∧ SizeP y.length ∧ (∀ c ∈ x, ClueP y.length c) ∧ ∀ c ∈ y, ClueP x.length c
instance (x y : List (List Int)) : Decidable (PuzP x y) := by unfold PuzP; infer_instance
theorem clue_len {n : Int} {c : List Int} (h : ClueP n c) : c.length ≤ 5 := by
  rcases Nat.lt_or_ge 5 c.length with q | q
  · have h1 := h.2
    unfold linesL at h1
    rw [linesTo_nil q] at h1
    simp at h1
  · exact q
theorem cutT_ok {x y : List (List Int)} (h : PuzP x y) : cutT x = x ∧ cutT y = y := by
  have go : ∀ {t : List (List Int)} {n : Int}, t.length ≤ 5 → (∀ c ∈ t, ClueP n c) → cutT t = t := fun {t n} hl hc => by
    unfold cutT
    rw [List.take_of_length_le (by omega)]
    conv => rhs; rw [← List.map_id t]
    apply List.map_congr_left
    intro r hr
    exact List.take_of_length_le (by have := clue_len (hc r hr); omega)
  exact ⟨go (by have := h.1.2; omega) h.2.2.1, go (by have := h.2.1.2; omega) h.2.2.2⟩
theorem val1_ret {p : Nat → Prop} {H : Heap} {b : Nat} {n : Int} {u : AV} {c : List Int} (hb : H[b]? = some (.cells [.i n])) (hc : Sl p H u c) : RetP E 94 ([u] ++ [.p b 0]) H (.b (!decide (ClueP n c))) := by
  refine RetP.ro rfl fn94 rfl rfl ?_
  unfold f94A
  simp (disch := (first | assumption | omega | (simp only [List.length_append, List.length_cons, List.length_nil]; omega))) only [↓wD,wU,Nat.reduceBEq,zx150,zx151,zx159,zx160,zx161,zx162,Nat.reduceAdd,Nat.reduceSub,Nat.reduceMul,Nat.reduceLeDiff,Nat.reduceLT,Nat.reduceEqDiff,Int.reduceAdd,Int.reduceSub,Int.reduceMul,Int.reduceNeg,Int.reduceLT,Int.reduceLE,Int.reduceEq,Int.reduceToNat,Int.cast_ofNat_Int,↓reduceIte, ld_of hb, (isClue_ret hc).call]
theorem val2_ret {p : Nat → Prop} {H : Heap} {b : Nat} {n : Int} {u : AV} {c : List Int} (hb : H[b]? = some (.cells [.i n])) (hc : Sl p H u c) : RetP E 95 ([u] ++ [.p b 0]) H (.b (!decide (ClueP n c))) := by
  refine RetP.ro rfl fn95 rfl rfl ?_
  unfold f95A
  simp (disch := (first | assumption | omega | (simp only [List.length_append, List.length_cons, List.length_nil]; omega))) only [↓wD,wU,Nat.reduceBEq,zx150,zx151,zx159,zx160,zx161,zx162,Nat.reduceAdd,Nat.reduceSub,Nat.reduceMul,Nat.reduceLeDiff,Nat.reduceLT,Nat.reduceEqDiff,Int.reduceAdd,Int.reduceSub,Int.reduceMul,Int.reduceNeg,Int.reduceLT,Int.reduceLE,Int.reduceEq,Int.reduceToNat,Int.cast_ofNat_Int,↓reduceIte, ld_of hb, (isClue_ret hc).call]
theorem PuzP_dec {x y : List (List Int)} : decide (PuzP x y) = (decide (SizeP x.length) && (decide (SizeP y.length) && ((!x.any fun c => !decide (ClueP y.length c)) && (!y.any fun c => !decide (ClueP x.length c))))) := by
  have go : ∀ {t : List (List Int)} {n : Int}, (!t.any fun c => !decide (ClueP n c)) = true ↔ ∀ c ∈ t, ClueP n c := fun {t n} => by
    rw [Bool.not_eq_true', List.any_eq_false]
    constructor
    · intro h c hc; have := h c hc; simpa using this
    · intro h c hc; simp [h c hc]
  apply Bool.eq_iff_iff.2
  rw [Bool.and_eq_true, Bool.and_eq_true, Bool.and_eq_true, go, go]
  simp only [decide_eq_true_eq]
  exact Iff.rfl
theorem pvalid_ret {p q : Nat → Prop} {H : Heap} {u w : AV} {x y : List (List Int)} (hx : Sl p H u x) (hy : Sl q H w y) : RetP E 67 [.ag [u, w]] H (.b (decide (PuzP x y))) := by
  refine RetP.ro rfl fn67 rfl rfl ?_
  unfold f67A
  have vu := hx.cellsV
  have vw := hy.cellsV
  have lx := (hx.app [Blk.cells [u, w]]).L
  have ly := (hy.app [Blk.cells [u, w]]).L
  have c0 : (H ++ [Blk.cells [u, w]])[H.length]? = some (.cells [u, w]) := by simp
  rw [PuzP_dec]
  obtain ⟨H2, eH2⟩ : ∃ H2, H ++ [Blk.cells [u, w]] ++ [Blk.cells [.i (x.length : Int)]] ++ [Blk.cells [.i (y.length : Int)]] = H2 := ⟨_, rfl⟩
  have d0 : H2[H.length]? = some (.cells [u, w]) := by rw [← eH2]; simp [List.getElem?_append]
  have d1 : H2[H.length + 1]? = some (.cells [.i (x.length : Int)]) := by rw [← eH2]; simp [List.getElem?_append]
  have d2 : H2[H.length + 2]? = some (.cells [.i (y.length : Int)]) := by rw [← eH2]; simp [List.getElem?_append]
  have hx2 : Sl p H2 u x := by rw [← eH2]; exact ((hx.app _).app _).app _
  have hy2 : Sl q H2 w y := by rw [← eH2]; exact ((hy.app _).app _).app _
  have s1 : st H.length (H ++ [Blk.cells [u, w]] ++ [Blk.cells [.i 0]] ++ [Blk.cells [.i 0]]) (H.length + 1) 0 [.i (x.length : Int)] = some (H ++ [Blk.cells [u, w]] ++ [Blk.cells [.i (x.length : Int)]] ++ [Blk.cells [.i 0]]) := by
    rw [st_of (cs := [.i 0]) (by simp [List.getElem?_append]) (by omega) (by simp)]
    congr 1
    simp [wr, List.set_append]
  have s2 : st H.length (H ++ [Blk.cells [u, w]] ++ [Blk.cells [.i (x.length : Int)]] ++ [Blk.cells [.i 0]]) (H.length + 2) 0 [.i (y.length : Int)] = some H2 := by
    rw [st_of (cs := [.i 0]) (by simp [List.getElem?_append]) (by omega) (by simp), ← eH2]
    congr 1
    simp [wr, List.set_append]
  have z1 := isSize_ret (H := H2) (n := x.length)
  have z2 := isSize_ret (H := H2) (n := y.length)
  have h1 := hasL_ret (P := fun c => !decide (ClueP y.length c)) hx2 fun i hi => val1_ret (p := p) d2 (hx2.get (k := (i : Int)) (by omega) (by omega))
  have h2 := hasL_ret (P := fun c => !decide (ClueP x.length c)) hy2 fun i hi => val2_ret (p := q) d1 (hy2.get (k := (i : Int)) (by omega) (by omega))
  clear hx hy hx2 hy2
  generalize (x.any fun c => !decide (ClueP y.length c)) = b3 at *
  generalize (y.any fun c => !decide (ClueP x.length c)) = b4 at *
  generalize decide (SizeP x.length) = b1 at *
  generalize decide (SizeP y.length) = b2 at *
  simp (disch := (first | assumption | omega | (simp only [List.length_append, List.length_cons, List.length_nil]; omega))) only [↓wD,wU,Nat.reduceBEq,zx150,zx151,zx159,zx160,zx161,zx162,Nat.reduceAdd,Nat.reduceSub,Nat.reduceMul,Nat.reduceLeDiff,Nat.reduceLT,Nat.reduceEqDiff,Int.reduceAdd,Int.reduceSub,Int.reduceMul,Int.reduceNeg,Int.reduceLT,Int.reduceLE,Int.reduceEq,Int.reduceToNat,Int.cast_ofNat_Int,↓reduceIte, vu, vw]
  refine lpI (wpC ?_)
  simp (disch := (first | assumption | omega | (simp only [List.length_append, List.length_cons, List.length_nil]; omega))) only [↓wD,wU,Nat.reduceBEq,zx150,zx151,zx159,zx160,zx161,zx162,Nat.reduceAdd,Nat.reduceSub,Nat.reduceMul,Nat.reduceLeDiff,Nat.reduceLT,Nat.reduceEqDiff,Int.reduceAdd,Int.reduceSub,Int.reduceMul,Int.reduceNeg,Int.reduceLT,Int.reduceLE,Int.reduceEq,Int.reduceToNat,Int.cast_ofNat_Int,↓reduceIte, ld_of c0, lx, ly, s1, s2]
  refine chkI ?_ ?_
  · simp [chk1, ev, Fr.upd, sameO, ld, List.getElem?_append, AV.same_refl]
  · cases b1
    · simp (disch := (first | assumption | omega | (simp only [List.length_append, List.length_cons, List.length_nil]; omega))) only [↓wD,wU,Nat.reduceBEq,zx150,zx151,zx159,zx160,zx161,zx162,Nat.reduceAdd,Nat.reduceSub,Nat.reduceMul,Nat.reduceLeDiff,Nat.reduceLT,Nat.reduceEqDiff,Int.reduceAdd,Int.reduceSub,Int.reduceMul,Int.reduceNeg,Int.reduceLT,Int.reduceLE,Int.reduceEq,Int.reduceToNat,Int.cast_ofNat_Int,↓reduceIte, ld_of d1, z1.call]
    · cases b2
      · simp (disch := (first | assumption | omega | (simp only [List.length_append, List.length_cons, List.length_nil]; omega))) only [↓wD,wU,Nat.reduceBEq,zx150,zx151,zx159,zx160,zx161,zx162,Nat.reduceAdd,Nat.reduceSub,Nat.reduceMul,Nat.reduceLeDiff,Nat.reduceLT,Nat.reduceEqDiff,Int.reduceAdd,Int.reduceSub,Int.reduceMul,Int.reduceNeg,Int.reduceLT,Int.reduceLE,Int.reduceEq,Int.reduceToNat,Int.cast_ofNat_Int,↓reduceIte, ld_of d1, z1.call, ld_of d2, z2.call]
      · cases b3
        · simp (disch := (first | assumption | omega | (simp only [List.length_append, List.length_cons, List.length_nil]; omega))) only [↓wD,wU,Nat.reduceBEq,zx150,zx151,zx159,zx160,zx161,zx162,Nat.reduceAdd,Nat.reduceSub,Nat.reduceMul,Nat.reduceLeDiff,Nat.reduceLT,Nat.reduceEqDiff,Int.reduceAdd,Int.reduceSub,Int.reduceMul,Int.reduceNeg,Int.reduceLT,Int.reduceLE,Int.reduceEq,Int.reduceToNat,Int.cast_ofNat_Int,↓reduceIte, ld_of d1, z1.call, ld_of d2, z2.call, ld_of d0, h1.call, h2.call]
        · simp (disch := (first | assumption | omega | (simp only [List.length_append, List.length_cons, List.length_nil]; omega))) only [↓wD,wU,Nat.reduceBEq,zx150,zx151,zx159,zx160,zx161,zx162,Nat.reduceAdd,Nat.reduceSub,Nat.reduceMul,Nat.reduceLeDiff,Nat.reduceLT,Nat.reduceEqDiff,Int.reduceAdd,Int.reduceSub,Int.reduceMul,Int.reduceNeg,Int.reduceLT,Int.reduceLE,Int.reduceEq,Int.reduceToNat,Int.cast_ofNat_Int,↓reduceIte, ld_of d1, z1.call, ld_of d2, z2.call, ld_of d0, h1.call]
end Go.Proofs.YtjjndoigkhabdaaDoor
namespace Go.Proofs.YtjjndoigkhabdaaDoor
open Go Go.AM Go.Proofs
/-- whether column c can still be filled -/
def possC (h : Nat) (cl : List Int) (P : List Nat) (c : Nat) : Bool := (setS h cl (colN P c) (andN (2 ^ P.length - 1) (colN P c))).2.2
def possB (h : Nat) (y : List (List Int)) (P : List Nat) : Bool := (List.range y.length).all fun c => possC h (gi y (c : Int)) P c
theorem possB_false {h : Nat} {y : List (List Int)} {P : List Nat} {c : Nat} (hc : c < y.length) (hf : possC h (gi y (c : Int)) P c = false) : possB h y P = false := by
  unfold possB
  rw [List.all_eq_false]
  exact ⟨c, List.mem_range.2 hc, by simp [hf]⟩
theorem possB_true {h : Nat} {y : List (List Int)} {P : List Nat} (ht : ∀ c, c < y.length → possC h (gi y (c : Int)) P c = true) : possB h y P = true := by
  unfold possB
  rw [List.all_eq_true]
  exact fun c hc => ht c (List.mem_range.1 hc)
theorem colN_lt (P : List Nat) (c : Nat) : colN P c < 2 ^ P.length := colT_lt P c P.length
theorem possible_ret {p q r : Nat → Prop} {H : Heap} {u w v : AV} {x y : List (List Int)} {P : List Nat} (hx : Sl p H u x) (hy : Sl q H w y) (hP : Sl r H v (nL P)) (lx : x.length ≤ 5) (ly : y.length ≤ 5) (lP : P.length ≤ 5) (h32 : ∀ z ∈ P, z < 32) :
    RetP E 102 [.ag [u, w], v] H (.b (possB x.length y P)) := by
  refine RetP.ro rfl fn102 rfl rfl ?_
  unfold f102A
  have vu := hx.cellsV
  have vw := hy.cellsV
  have c0 : (H ++ [Blk.cells [u, w]])[H.length]? = some (.cells [u, w]) := by simp
  have kx := hx.app [Blk.cells [u, w]]
  have ky := hy.app [Blk.cells [u, w]]
  have kP := hP.app [Blk.cells [u, w]]
  have lxL := kx.L
  have lyL := ky.L
  have p5 := pow5 lP
  have hn2 : (H ++ [Blk.cells [u, w]]).length = H.length + 1 := by simp
  simp (disch := (first | assumption | omega | (simp only [List.length_append, List.length_cons, List.length_nil]; omega))) only [↓wD,wU,Nat.reduceBEq,zx150,zx151,zx159,zx160,zx161,zx162,Nat.reduceAdd,Nat.reduceSub,Nat.reduceMul,Nat.reduceLeDiff,Nat.reduceLT,Nat.reduceEqDiff,Int.reduceAdd,Int.reduceSub,Int.reduceMul,Int.reduceNeg,Int.reduceLT,Int.reduceLE,Int.reduceEq,Int.reduceToNat,Int.cast_ofNat_Int,↓reduceIte, vu, vw, lxL, lyL]
  generalize H ++ [Blk.cells [u, w]] = H2 at *
  refine Wp.for y.length (fun i a H' => a 1 = v ∧ a 5 = .i x.length ∧ a 15 = w ∧ a 16 = .i y.length ∧ a 17 = .i i ∧ Kx (fun _ => True) H2 H' ∧ ∀ c, c < i → possC x.length (gi y (c : Int)) P c = true) ?_ ?_
  · rintro i a H3 hi ⟨a1, a5, a15, a16, a17, hk, hh⟩ ih
    have hl3 := hk.1
    simp (disch := (first | assumption | omega | (simp only [List.length_append, List.length_cons, List.length_nil]; omega))) only [↓wD,wU,Nat.reduceBEq,zx150,zx151,zx159,zx160,zx161,zx162,Nat.reduceAdd,Nat.reduceSub,Nat.reduceMul,Nat.reduceLeDiff,Nat.reduceLT,Nat.reduceEqDiff,Int.reduceAdd,Int.reduceSub,Int.reduceMul,Int.reduceNeg,Int.reduceLT,Int.reduceLE,Int.reduceEq,Int.reduceToNat,Int.cast_ofNat_Int,↓reduceIte, a1, a5, a15, a16, a17]
    refine condP_split (fun hlt => ?_) (fun hlt => ?_)
    · have hi' : i < y.length := by omega
      have ky3 := ky.kp (hk.all _).kp
      have kP3 := kP.kp (hk.all _).kp
      have g := ky3.get (k := (i : Int)) (by omega) (by omega)
      have cr := column_ret (c := i) kP3 (by omega) (by omega) fun z hz => by have := h32 z hz; omega
      have clt := colN_lt P i
      have hpc : possC x.length (gi y (i : Int)) P i = (setS x.length (gi y (i : Int)) (colN P i) (andN (2 ^ P.length - 1) (colN P i))).2.2 := rfl
      obtain ⟨C, eC⟩ : ∃ C, colN P i = C := ⟨_, rfl⟩
      rw [eC] at cr clt hpc
      obtain ⟨M, eM⟩ : ∃ M, 2 ^ P.length = M := ⟨_, rfl⟩
      have sh := b_shl1 (n := P.length) (by omega)
      rw [eM] at p5 clt hpc sh
      obtain ⟨A, eA⟩ : ∃ A, M - 1 = A := ⟨_, rfl⟩
      have hA : (M : Int) - 1 = (A : Nat) := by omega
      rw [eA] at hpc
      have an := b_andNot (a := A) (b := C) (by omega) (by omega)
      have anl := andN_le (a := A) (b := C)
      obtain ⟨D, eD⟩ : ∃ D, andN A C = D := ⟨_, rfl⟩
      rw [eD] at an anl hpc
      have s1 : st H.length (H3 ++ [Blk.cells [.i 0, .i 0]]) H3.length 0 [.i (C : Int), .i 0] = some (H3 ++ [Blk.cells [.i (C : Int), .i 0]]) := by
        rw [st_of get_last (by omega) (by simp)]
        congr 1
        simp [wr]
      have s2 : st H.length (H3 ++ [Blk.cells [.i (C : Int), .i 0]]) H3.length 1 [.i (D : Int)] = some (H3 ++ [Blk.cells [.i (C : Int), .i (D : Int)]]) := by
        rw [st_of get_last (by omega) (by simp)]
        congr 1
        simp [wr]
      have hPI := (kP3.app [Blk.cells [.i (C : Int), .i 0]]).I
      rw [nL_len] at hPI
      have g4 := g.app [Blk.cells [.i (C : Int), .i (D : Int)]]
      have sr := settle_ret (f := C) (e := D) g4 lx (by omega) (by omega)
      obtain ⟨⟨t1, t2, t3⟩, et⟩ : ∃ t, setS x.length (gi y (i : Int)) C D = t := ⟨_, rfl⟩
      rw [et] at sr hpc
      simp only at sr hpc
      have s3 : st H.length (H3 ++ [Blk.cells [.i (C : Int), .i (D : Int)]] ++ [Blk.cells [.i 0, .i 0]]) (H3.length + 1) 0 [.i (t1 : Int), .i (t2 : Int)] = some (H3 ++ [Blk.cells [.i (C : Int), .i (D : Int)]] ++ [Blk.cells [.i (t1 : Int), .i (t2 : Int)]]) := by
        rw [st_of (cs := [.i 0, .i 0]) (by simp [List.getElem?_append]) (by omega) (by simp)]
        congr 1
        simp [wr, List.set_append]
      cases t3
      · have hb := possB_false hi' hpc
        simp (disch := (first | assumption | omega | (simp only [List.length_append, List.length_cons, List.length_nil]; omega))) only [↓wD,wU,Nat.reduceBEq,zx150,zx151,zx159,zx160,zx161,zx162,Nat.reduceAdd,Nat.reduceSub,Nat.reduceMul,Nat.reduceLeDiff,Nat.reduceLT,Nat.reduceEqDiff,Int.reduceAdd,Int.reduceSub,Int.reduceMul,Int.reduceNeg,Int.reduceLT,Int.reduceLE,Int.reduceEq,Int.reduceToNat,Int.cast_ofNat_Int,↓reduceIte, a1, a5, a15, a16, a17, ky3.L, cr.call, s1, hPI, sh, hA, an, s2, sr.call, s3, hb]
      · simp (disch := (first | assumption | omega | (simp only [List.length_append, List.length_cons, List.length_nil]; omega))) only [↓wD,wU,Nat.reduceBEq,zx150,zx151,zx159,zx160,zx161,zx162,Nat.reduceAdd,Nat.reduceSub,Nat.reduceMul,Nat.reduceLeDiff,Nat.reduceLT,Nat.reduceEqDiff,Int.reduceAdd,Int.reduceSub,Int.reduceMul,Int.reduceNeg,Int.reduceLT,Int.reduceLE,Int.reduceEq,Int.reduceToNat,Int.cast_ofNat_Int,↓reduceIte, a1, a5, a15, a16, a17, ky3.L, cr.call, s1, hPI, sh, hA, an, s2, sr.call, s3]
        refine (ih hi').go ?_
        simp (disch := (first | assumption | omega | (simp only [List.length_append, List.length_cons, List.length_nil]; omega))) only [↓wD,wU,Nat.reduceBEq,zx150,zx151,zx159,zx160,zx161,zx162,Nat.reduceAdd,Nat.reduceSub,Nat.reduceMul,Nat.reduceLeDiff,Nat.reduceLT,Nat.reduceEqDiff,Int.reduceAdd,Int.reduceSub,Int.reduceMul,Int.reduceNeg,Int.reduceLT,Int.reduceLE,Int.reduceEq,Int.reduceToNat,Int.cast_ofNat_Int,↓reduceIte, a1, a5, a15, a16, a17]
        refine ⟨(hk.app' _).app' _, fun c hc => ?_⟩
        by_cases e : c = i
        · subst e; exact hpc
        · exact hh c (by omega)
    · obtain rfl : i = y.length := by omega
      have hb := possB_true hh
      simp (disch := (first | assumption | omega | (simp only [List.length_append, List.length_cons, List.length_nil]; omega))) only [↓wD,wU,Nat.reduceBEq,zx150,zx151,zx159,zx160,zx161,zx162,Nat.reduceAdd,Nat.reduceSub,Nat.reduceMul,Nat.reduceLeDiff,Nat.reduceLT,Nat.reduceEqDiff,Int.reduceAdd,Int.reduceSub,Int.reduceMul,Int.reduceNeg,Int.reduceLT,Int.reduceLE,Int.reduceEq,Int.reduceToNat,Int.cast_ofNat_Int,↓reduceIte, a1, a5, a15, a16, a17, hb]
  · (simp (disch := (first | assumption | omega | (simp only [List.length_append, List.length_cons, List.length_nil]; omega))) only [↓wD,wU,Nat.reduceBEq,zx150,zx151,zx159,zx160,zx161,zx162,Nat.reduceAdd,Nat.reduceSub,Nat.reduceMul,Nat.reduceLeDiff,Nat.reduceLT,Nat.reduceEqDiff,Int.reduceAdd,Int.reduceSub,Int.reduceMul,Int.reduceNeg,Int.reduceLT,Int.reduceLE,Int.reduceEq,Int.reduceToNat,Int.cast_ofNat_Int,↓reduceIte]) <;> simp [Kx.refl]
/-! ### Solutions, plain -/
/-- whether all columns have their blocks -/
def okC (y : List (List Int)) (P : List Nat) : Bool := (List.range y.length).all fun c => decide (blkL (colN P c) = gi y (c : Int))
/-- the reference's: all solutions that begin with some rows -/
def solR (y : List (List Int)) : List (List Int) → List Nat → List (List Nat)
  | [], P => if okC y P then [P] else []
  | cl :: rest, P => (linesN y.length cl).flatMap fun l => solR y rest (P ++ [l])
/-- the program's -/
def solP (h : Nat) (y : List (List Int)) : List (List Int) → List Nat → List (List Nat)
  | [], P => [P]
  | cl :: rest, P => (linesN y.length cl).flatMap fun l => if possB h y (P ++ [l]) then solP h y rest (P ++ [l]) else []
theorem colT_bit (P : List Nat) (c : Nat) : ∀ i r, (colT P c i).testBit r = (decide (r < i) && (gi P (r : Int)).testBit c)
  | 0, r => by simp [colT]
  | i + 1, r => by
    unfold colT
    rw [Nat.testBit_or, colT_bit P c i r, Nat.testBit_shiftLeft]
    have hb : (gi P (i : Int) >>> c) % 2 = if (gi P (i : Int)).testBit c then 1 else 0 := by
      rw [Nat.testBit, Nat.and_comm, Nat.and_one_is_mod]
      have : (gi P (i : Int) >>> c) % 2 < 2 := Nat.mod_lt _ (by omega)
      rcases Nat.lt_or_ge ((gi P (i : Int) >>> c) % 2) 1 with q | q
      · have : (gi P (i : Int) >>> c) % 2 = 0 := by omega
        simp [this]
      · have : (gi P (i : Int) >>> c) % 2 = 1 := by omega
        simp [this]
    rw [hb]
    by_cases e : r = i
    · subst e
      rw [Nat.sub_self]
      cases q : (gi P (r : Int)).testBit c <;> simp
    · by_cases h : r < i
      · simp [h, show r < i + 1 by omega, show ¬ r ≥ i by omega]
      · have h2 : ¬ r < i + 1 := by omega
        have h3 : r - i ≠ 0 := by omega
        cases q : (gi P (i : Int)).testBit c
        · simp [h, h2]
        · obtain ⟨m, hm⟩ : ∃ m, r - i = m + 1 := ⟨r - i - 1, by omega⟩
          simp [h, h2, hm, Nat.testBit_succ]
theorem colN_bit (P : List Nat) (c r : Nat) : (colN P c).testBit r = (decide (r < P.length) && (gi P (r : Int)).testBit c) := colT_bit P c P.length r
theorem gi_append {α : Type} [Inhabited α] {xs ys : List α} {i : Nat} (h : i < xs.length) : gi (xs ++ ys) (i : Int) = gi xs (i : Int) := by
  rw [gi_nat (by simp; omega), gi_nat h, List.getElem_append_left h]
/-- a solution's beginning can be one's -/
theorem poss_of {h : Nat} {y : List (List Int)} {P Q : List Nat} (hh : h ≤ 5) (hl : (P ++ Q).length = h) (hok : okC y (P ++ Q) = true) : possB h y P = true := by
  apply possB_true
  intro c hc
  have h1 := List.all_eq_true.1 hok c (List.mem_range.2 hc)
  have h1 : blkL (colN (P ++ Q) c) = gi y (c : Int) := by simpa using h1
  have p5 := pow5 hh
  have lt := colN_lt (P ++ Q) c
  rw [hl] at lt
  have lP : P.length ≤ h := by rw [List.length_append] at hl; omega
  have pP : 2 ^ P.length ≤ 2 ^ h := Nat.pow_le_pow_right (by omega) lP
  have ltP := colN_lt P c
  unfold possC
  rw [setS_ok, List.any_eq_true]
  refine ⟨colN (P ++ Q) c, List.mem_filter.2 ⟨List.mem_range.2 lt, by simpa using h1⟩, ?_⟩
  rw [agN_iff]
  intro r
  rw [colN_bit, colN_bit, andN_bit (by omega) (by omega), all_bit, colN_bit]
  by_cases hr : r < P.length
  · rw [gi_append hr]
    have : r < P.length + Q.length := by omega
    cases (gi P (r : Int)).testBit c <;> simp [hr, this]
  · simp [hr]
theorem ok_of {h : Nat} {y : List (List Int)} {P : List Nat} (hh : h ≤ 5) (hl : P.length = h) (hp : possB h y P = true) : okC y P = true := by
  unfold okC
  rw [List.all_eq_true]
  intro c hc
  have h1 := List.all_eq_true.1 hp c hc
  unfold possC at h1
  have p5 := pow5 hh
  have lt := colN_lt P c
  rw [hl] at h1 lt
  rw [setS_ok, List.any_eq_true] at h1
  obtain ⟨z, hz, ha⟩ := h1
  have hzl := linesN_lt hz
  have hzb : blkL z = gi y (c : Int) := by simpa using (List.mem_filter.1 hz).2
  have : z = colN P c := by
    rw [agN_iff] at ha
    apply Nat.eq_of_testBit_eq
    intro r
    have hr := ha r
    rw [andN_bit (by omega) (by omega), all_bit] at hr
    cases q : (colN P c).testBit r
    · by_cases hrh : r < h
      · exact hr.2 (by simp [q, hrh])
      · cases q2 : z.testBit r
        · rfl
        · exact absurd (lt_bit hzl q2) hrh
    · exact hr.1 q
  rw [← this, hzb]
  simp
theorem solR_begin {y : List (List Int)} : ∀ {rest : List (List Int)} {P S : List Nat}, S ∈ solR y rest P → ∃ Q, S = P ++ Q ∧ Q.length = rest.length ∧ okC y S = true
  | [], P, S, h => by
    unfold solR at h
    split at h
    · rename_i hc
      simp at h
      subst h
      exact ⟨[], by simp, rfl, hc⟩
    · simp at h
  | cl :: rest, P, S, h => by
    unfold solR at h
    rw [List.mem_flatMap] at h
    obtain ⟨l, _, h⟩ := h
    obtain ⟨Q, e, hl, hok⟩ := solR_begin h
    exact ⟨l :: Q, by rw [e]; simp, by simp [hl], hok⟩
theorem flatMap_congr' {α β : Type} {f g : α → List β} : ∀ {l : List α}, (∀ x ∈ l, f x = g x) → l.flatMap f = l.flatMap g
  | [], _ => rfl
  | x :: l, h => by rw [List.flatMap_cons, List.flatMap_cons, h x (by simp), flatMap_congr' fun y hy => h y (by simp [hy])]
theorem sol_eq {h : Nat} {y : List (List Int)} (hh : h ≤ 5) : ∀ {rest : List (List Int)} {P : List Nat}, P.length + rest.length = h → rest ≠ [] → solP h y rest P = solR y rest P
  | [], P, _, hne => absurd rfl hne
  | cl :: rest, P, hl, _ => by
    unfold solP solR
    apply flatMap_congr'
    intro l hll
    have hl2 : (P ++ [l]).length + rest.length = h := by simp at hl ⊢; omega
    cases hp : possB h y (P ++ [l])
    · simp only [Bool.false_eq_true, if_false]
      symm
      rw [List.eq_nil_iff_forall_not_mem]
      intro S hS
      obtain ⟨Q, e, hlq, hok⟩ := solR_begin hS
      rw [e] at hok
      have := poss_of hh (by rw [List.length_append]; omega) hok
      rw [hp] at this
      cases this
    · simp only [if_true]
      cases rest with
      | nil =>
        have hok := ok_of hh (by simpa using hl2) hp
        unfold solP solR
        rw [if_pos hok]
      | cons c r => exact sol_eq hh hl2 (by simp)
end Go.Proofs.YtjjndoigkhabdaaDoor
namespace Go.Proofs.YtjjndoigkhabdaaDoor
open Go Go.AM Go.Proofs
/-- what grow reads: its variables -/
structure SVars (K : Nat → Prop) (H : Heap) (y u w : AV) (bp bY bg : Nat) : Prop where
  p : H[bp]? = some (.cells [u, w]) ∧ ¬ K bp
  y : H[bY]? = some (.cells [y]) ∧ ¬ K bY
  g : H[bg]? = some (.cells [.fn 101 [] [.p bp 0, .p bY 0, .p bg 0]]) ∧ ¬ K bg
theorem SVars.mono {K K' : Nat → Prop} {H H' : Heap} {y u w : AV} {bp bY bg : Nat} (h : SVars K H y u w bp bY bg) (hk : Kx (fun b => ¬ K b) H H') (hK : ∀ b, b < H.length → K' b → K b) : SVars K' H' y u w bp bY bg :=
  ⟨⟨hk.get h.p.2 h.p.1, fun q => h.p.2 (hK _ (List.getElem?_eq_some_iff.1 h.p.1).1 q)⟩, ⟨hk.get h.y.2 h.y.1, fun q => h.y.2 (hK _ (List.getElem?_eq_some_iff.1 h.y.1).1 q)⟩, ⟨hk.get h.g.2 h.g.1, fun q => h.g.2 (hK _ (List.getElem?_eq_some_iff.1 h.g.1).1 q)⟩⟩
/-- the items behind P, from the i-th line on -/
def restS (h : Nat) (y : List (List Int)) (cl : List Int) (rest : List (List Int)) (P : List Nat) (i : Nat) : List (List Nat) := ((linesN y.length cl).drop i).flatMap fun l => if possB h y (P ++ [l]) then solP h y rest (P ++ [l]) else []
theorem restS_0 {h : Nat} {y : List (List Int)} {cl : List Int} {rest : List (List Int)} {P : List Nat} : restS h y cl rest P 0 = solP h y (cl :: rest) P := rfl
theorem restS_s {h : Nat} {y : List (List Int)} {cl : List Int} {rest : List (List Int)} {P : List Nat} {i : Nat} (hi : i < (linesN y.length cl).length) : restS h y cl rest P i = (if possB h y (P ++ [gi (linesN y.length cl) (i : Int)]) then solP h y rest (P ++ [gi (linesN y.length cl) (i : Int)]) else []) ++ restS h y cl rest P (i + 1) := by
  unfold restS
  rw [List.drop_eq_getElem_cons hi, List.flatMap_cons, gi_nat hi]
theorem restS_n {h : Nat} {y : List (List Int)} {cl : List Int} {rest : List (List Int)} {P : List Nat} {i : Nat} (hi : (linesN y.length cl).length ≤ i) : restS h y cl rest P i = [] := by
  unfold restS
  rw [List.drop_of_length_le hi]; rfl
theorem nL_app (P : List Nat) (l : Nat) : nL (P ++ [l]) = nL P ++ [(l : Int)] := by simp [nL]
theorem sgrow_ok {lo B : Nat} {y u w : AV} {xs ys : List (List Int)} {bp bY bg : Nat} (hlo : lo ≤ B) (hP : PuzP xs ys) :
    ∀ (rest : List (List Int)) (P : List Nat) (v : AV) (K : Nat → Prop) (H : Heap) (Q : Bool → (Nat → Prop) → Heap → Prop), (∃ pre, xs = pre ++ rest ∧ pre.length = P.length) → (∀ z ∈ P, z < 32) → SVars K H y u w bp bY bg → Sl (fun b => ¬ K b) H u xs → Sl (fun b => ¬ K b) H w ys → Sl (fun b => B ≤ b ∧ ¬ K b) H v (nL P) → (∀ b, K b → b < H.length) → B ≤ H.length →
      Its E lo y B ArgI Q ((solP xs.length ys rest P).map nL) K H →
      WpF E lo 101 [v, .p bp 0, .p bY 0, .p bg 0] H fun r H' => ∃ ok K', r = .b ok ∧ Q ok K' H' ∧ Kx (fun b => ¬ K b ∧ v.blk ≠ some b) H H' ∧ ∀ b, K' b → b < H'.length ∧ (b < H.length → K b ∨ v.blk = some b) := by
  have lx5 := hP.1.2
  have ly5 := hP.2.1.2
  intro rest
  induction rest with
  | nil =>
    intro P v K H Q hpre h32 hv hx hy hs hK hB hI
    obtain ⟨pre, e1, e2⟩ := hpre
    refine WpF.wrt rfl fn101 rfl ?_
    unfold f101A
    have e : P.length = xs.length := by rw [e1, List.append_nil, e2]
    have hI1 := hs.I
    rw [nL_len, e] at hI1
    simp (disch := (first | assumption | omega | (simp only [List.length_append, List.length_cons, List.length_nil]; omega))) only [↓wD,wU,Nat.reduceBEq,zx150,zx151,zx159,zx160,zx161,zx162,Nat.reduceAdd,Nat.reduceSub,Nat.reduceMul,Nat.reduceLeDiff,Nat.reduceLT,Nat.reduceEqDiff,Int.reduceAdd,Int.reduceSub,Int.reduceMul,Int.reduceNeg,Int.reduceLT,Int.reduceLE,Int.reduceEq,Int.reduceToNat,Int.cast_ofNat_Int,↓reduceIte, hI1, ld_of hv.p.1, hx.L, ld_of hv.y.1]
    refine callvI ((hI H (fun b => v.blk = some b) [v] (Kx.refl _ _) ⟨v, rfl, hs.own⟩ ?_).mono ?_)
    · exact fun b e => ⟨(hs.blkp e).1.1, (hs.blkp e).2, (hs.blkp e).1.2⟩
    · rintro r H2 ⟨hx, hc⟩
      rcases hc with ⟨rfl, hc⟩ | ⟨rfl, hc⟩
      · simp (disch := (first | assumption | omega | (simp only [List.length_append, List.length_cons, List.length_nil]; omega))) only [↓wD,wU,Nat.reduceBEq,zx150,zx151,zx159,zx160,zx161,zx162,Nat.reduceAdd,Nat.reduceSub,Nat.reduceMul,Nat.reduceLeDiff,Nat.reduceLT,Nat.reduceEqDiff,Int.reduceAdd,Int.reduceSub,Int.reduceMul,Int.reduceNeg,Int.reduceLT,Int.reduceLE,Int.reduceEq,Int.reduceToNat,Int.cast_ofNat_Int,↓reduceIte]
        refine ⟨true, _, rfl, Its.none hc, hx.weak fun b _ h q => q.elim h.1 h.2, ?_⟩
        rintro b (h | h | h)
        · exact ⟨by have := hK b h; have := hx.1; omega, fun _ => .inl h⟩
        · exact ⟨by have := (hs.blkp h).2; have := hx.1; omega, fun _ => .inr h⟩
        · exact ⟨h.2, fun q => by omega⟩
      · simp (disch := (first | assumption | omega | (simp only [List.length_append, List.length_cons, List.length_nil]; omega))) only [↓wD,wU,Nat.reduceBEq,zx150,zx151,zx159,zx160,zx161,zx162,Nat.reduceAdd,Nat.reduceSub,Nat.reduceMul,Nat.reduceLeDiff,Nat.reduceLT,Nat.reduceEqDiff,Int.reduceAdd,Int.reduceSub,Int.reduceMul,Int.reduceNeg,Int.reduceLT,Int.reduceLE,Int.reduceEq,Int.reduceToNat,Int.cast_ofNat_Int,↓reduceIte]
        refine ⟨false, _, rfl, hc _ (Kx.refl _ _), hx.weak fun b _ h q => q.elim h.1 h.2, ?_⟩
        rintro b (h | h | h)
        · exact ⟨by have := hK b h; have := hx.1; omega, fun _ => .inl h⟩
        · exact ⟨by have := (hs.blkp h).2; have := hx.1; omega, fun _ => .inr h⟩
        · exact ⟨h.2, fun q => by omega⟩
  | cons cl rest ihm =>
    intro P v K H Q hpre h32 hv hx hy hs hK hB hI
    obtain ⟨pre, e1, e2⟩ := hpre
    refine WpF.wrt rfl fn101 rfl ?_
    unfold f101A
    have hlen : P.length < xs.length := by rw [e1, List.length_append, e2]; simp
    have hne : decide ((P.length : Int) = xs.length) = false := decide_eq_false (by omega)
    have hcl : gi xs (P.length : Int) = cl := by
      rw [gi_nat hlen]
      have : ∀ (h : P.length < xs.length), xs[P.length] = cl := by
        rw [e1, ← e2]
        intro h
        rw [List.getElem_append_right (Nat.le_refl _)]
        simp
      exact this hlen
    have hI1 := hs.I
    rw [nL_len] at hI1
    have g := hx.get (k := (P.length : Int)) (by omega) (by omega)
    rw [hcl] at g
    have hyL := hy.L
    simp (disch := (first | assumption | omega | (simp only [List.length_append, List.length_cons, List.length_nil]; omega))) only [↓wD,wU,Nat.reduceBEq,zx150,zx151,zx159,zx160,zx161,zx162,Nat.reduceAdd,Nat.reduceSub,Nat.reduceMul,Nat.reduceLeDiff,Nat.reduceLT,Nat.reduceEqDiff,Int.reduceAdd,Int.reduceSub,Int.reduceMul,Int.reduceNeg,Int.reduceLT,Int.reduceLE,Int.reduceEq,Int.reduceToNat,Int.cast_ofNat_Int,↓reduceIte, hI1, ld_of hv.p.1, hx.L, hne, hyL]
    refine (lines_ret (n := ys.length) g (by omega)).toFX fun li H2 x2 hli => ?_
    have hl2 := x2.1
    have hliI := hli.I
    rw [← linesN_len] at hliI
    have hel : ∀ i : Nat, i < (linesN ys.length cl).length → gi (linesN ys.length cl) (i : Int) < 32 ∧ gi (linesL ys.length cl) (i : Int) = (gi (linesN ys.length cl) (i : Int) : Nat) := fun i hi => ⟨by
      have := linesN_lt (mem_gi hi)
      have := pow5 (n := ys.length) (by omega)
      omega, linesL_gi hi⟩
    have hl32 := linesL_len (n := ys.length) (cl := cl) (by omega)
    rw [← linesN_len] at hl32
    rw [← restS_0, List.map_congr_left (fun _ _ => rfl)] at hI
    simp (disch := (first | assumption | omega | (simp only [List.length_append, List.length_cons, List.length_nil]; omega))) only [↓wD,wU,Nat.reduceBEq,zx150,zx151,zx159,zx160,zx161,zx162,Nat.reduceAdd,Nat.reduceSub,Nat.reduceMul,Nat.reduceLeDiff,Nat.reduceLT,Nat.reduceEqDiff,Int.reduceAdd,Int.reduceSub,Int.reduceMul,Int.reduceNeg,Int.reduceLT,Int.reduceLE,Int.reduceEq,Int.reduceToNat,Int.cast_ofNat_Int,↓reduceIte, hliI]
    refine Wp.for (linesN ys.length cl).length (fun i a H1 => a 0 = v ∧ a 1 = .p bp 0 ∧ a 2 = .p bY 0 ∧ a 3 = .p bg 0 ∧ a 6 = .i P.length ∧ a 28 = li ∧ a 29 = .i (linesN ys.length cl).length ∧ a 30 = .i i ∧ ∃ K1, Its E lo y B ArgI Q ((restS xs.length ys cl rest P i).map nL) K1 H1 ∧ Kx (fun b => ¬ K b) H H1 ∧ Kx (fun b => H.length ≤ b) H2 H1 ∧ ∀ b, K1 b → b < H1.length ∧ (b < H2.length → K b)) ?_ ?_
    · rintro i a H1 hi ⟨a0, a1, a2, a3, a6, a28, a29, a30, K1, hI1', hx1, hx21, hK1⟩ ih
      have hh1 := hx1.1
      have hh21 := hx21.1
      simp (disch := (first | assumption | omega | (simp only [List.length_append, List.length_cons, List.length_nil]; omega))) only [↓wD,wU,Nat.reduceBEq,zx150,zx151,zx159,zx160,zx161,zx162,Nat.reduceAdd,Nat.reduceSub,Nat.reduceMul,Nat.reduceLeDiff,Nat.reduceLT,Nat.reduceEqDiff,Int.reduceAdd,Int.reduceSub,Int.reduceMul,Int.reduceNeg,Int.reduceLT,Int.reduceLE,Int.reduceEq,Int.reduceToNat,Int.cast_ofNat_Int,↓reduceIte, a0, a1, a2, a3, a6, a28, a29, a30]
      refine condP_split (fun hlt => ?_) (fun hlt => ?_)
      · have hi' : i < (linesN ys.length cl).length := by omega
        obtain ⟨l32, el⟩ := hel i hi'
        have hv1 := hv.mono hx1 fun b hb q => (hK1 b q).2 (by omega)
        have hs1 : Sl (fun b => B ≤ b ∧ ¬ K1 b) H1 v (nL P) := hs.low.mono (hx1.weak fun b _ h => h.1.2).kp fun b h => ⟨h.1.1, fun q => h.1.2 ((hK1 b q).2 (by omega))⟩
        have hxx : Sl (fun b => ¬ K1 b) H1 u xs := hx.low.mono (hx1.weak fun b _ h => h.1).kp fun b h q => h.1 ((hK1 b q).2 (by omega))
        have hyy : Sl (fun b => ¬ K1 b) H1 w ys := hy.low.mono (hx1.weak fun b _ h => h.1).kp fun b h q => h.1 ((hK1 b q).2 (by omega))
        have hli1 := (hli.kp hx21.kp).I
        rw [← linesN_len] at hli1
        obtain ⟨c, hc1, hc2⟩ := hs1.clip (by rw [nL_len]; omega)
        rw [nL_len] at hc1
        have ha := hc2 lo H1.length (gi (linesN ys.length cl) (i : Int) : Nat) rfl
        rw [nL_len, ← nL_app] at ha
        rw [restS_s hi'] at hI1'
        obtain ⟨L, eL⟩ : ∃ L, gi (linesN ys.length cl) (i : Int) = L := ⟨_, rfl⟩
        rw [eL] at l32 el ha hI1'
        obtain ⟨H5, eH5⟩ : ∃ H5, H1 ++ [Blk.cells [.i (L : Int)], .cells ((nL (P ++ [L])).map AV.i)] = H5 := ⟨_, rfl⟩
        have x15 : Kx (fun _ => True) H1 H5 := by rw [← eH5]; exact Kx.app _ _ _
        have n5 : H5.length = H1.length + 2 := by rw [← eH5]; simp
        have g5 : H5[H1.length + 1]? = some (.cells ((nL (P ++ [L])).map AV.i)) := by rw [← eH5]; simp [List.getElem?_append]
        rw [eH5] at ha
        have h32' : ∀ z ∈ P ++ [L], z < 32 := fun z hz => by
          rcases List.mem_append.1 hz with hz | hz
          · exact h32 z hz
          · simp at hz; omega
        have hs5 : Sl (fun b => B ≤ b ∧ ¬ K1 b) H5 (.s 1 (H1.length + 1) 0 (P.length + 1) none) (nL (P ++ [L])) := by
          have := Sl.litI (p := fun b => B ≤ b ∧ ¬ K1 b) (c := none) g5 ⟨by omega, fun q => by have := (hK1 _ q).1; omega⟩ (by rw [nL_len]; simp; omega)
          rwa [show (nL (P ++ [L])).length = P.length + 1 by rw [nL_len]; simp] at this
        have hv5 := hv1.mono (K' := K1) (x15.all _) fun _ _ h => h
        have hx5 := hxx.kp (x15.all _).kp
        have hy5 := hyy.kp (x15.all _).kp
        have ps := possible_ret hx5 hy5 hs5 (by omega) (by omega) (by simp; omega) h32'
        have l5 := hx5.cellsV
        cases hb : possB xs.length ys (P ++ [L])
        · rw [hb] at ps hI1'
          simp only [Bool.false_eq_true, if_false, List.nil_append] at hI1'
          simp (disch := (first | assumption | omega | (simp only [List.length_append, List.length_cons, List.length_nil]; omega))) only [↓wD,wU,Nat.reduceBEq,zx150,zx151,zx159,zx160,zx161,zx162,Nat.reduceAdd,Nat.reduceSub,Nat.reduceMul,Nat.reduceLeDiff,Nat.reduceLT,Nat.reduceEqDiff,Int.reduceAdd,Int.reduceSub,Int.reduceMul,Int.reduceNeg,Int.reduceLT,Int.reduceLE,Int.reduceEq,Int.reduceToNat,Int.cast_ofNat_Int,↓reduceIte, a0, a1, a2, a3, a6, a28, a29, a30, hli1, el, hc1 none (.inl rfl), ha, ldn_of hv5.p.1, ps.call]
          refine (ih hi').go ?_
          simp (disch := (first | assumption | omega | (simp only [List.length_append, List.length_cons, List.length_nil]; omega))) only [↓wD,wU,Nat.reduceBEq,zx150,zx151,zx159,zx160,zx161,zx162,Nat.reduceAdd,Nat.reduceSub,Nat.reduceMul,Nat.reduceLeDiff,Nat.reduceLT,Nat.reduceEqDiff,Int.reduceAdd,Int.reduceSub,Int.reduceMul,Int.reduceNeg,Int.reduceLT,Int.reduceLE,Int.reduceEq,Int.reduceToNat,Int.cast_ofNat_Int,↓reduceIte, a0, a1, a2, a3, a6, a28, a29, a30]
          exact ⟨K1, hI1'.keep (x15.all _), hx1.trans x15 fun _ _ _ => trivial, hx21.trans x15 fun _ _ _ => trivial, fun b q => ⟨by have := (hK1 b q).1; omega, (hK1 b q).2⟩⟩
        · rw [hb] at ps hI1'
          simp only [if_true, List.map_append] at hI1'
          have hI2 := Its.append hI1'
          simp (disch := (first | assumption | omega | (simp only [List.length_append, List.length_cons, List.length_nil]; omega))) only [↓wD,wU,Nat.reduceBEq,zx150,zx151,zx159,zx160,zx161,zx162,Nat.reduceAdd,Nat.reduceSub,Nat.reduceMul,Nat.reduceLeDiff,Nat.reduceLT,Nat.reduceEqDiff,Int.reduceAdd,Int.reduceSub,Int.reduceMul,Int.reduceNeg,Int.reduceLT,Int.reduceLE,Int.reduceEq,Int.reduceToNat,Int.cast_ofNat_Int,↓reduceIte, a0, a1, a2, a3, a6, a28, a29, a30, hli1, el, hc1 none (.inl rfl), ha, ldn_of hv5.p.1, ps.call, ld_of hv5.g.1]
          refine callvI (WpV.fn (us := []) (vs := [_]) ((ihm (P ++ [L]) _ K1 H5 _ ⟨pre ++ [cl], by rw [e1]; simp, by simp [e2]⟩ h32' hv5 hx5 hy5 hs5 (fun b q => by have := (hK1 b q).1; omega) (by omega) (hI2.keep (x15.all _))).mono ?_))
          rintro r' H' ⟨ok, K', rfl, hq, hx3, hK3⟩
          have hh3 := hx3.1
          have hx6 : Kx (fun b => ¬ K b) H H' := (hx1.trans x15 fun _ _ _ => trivial).trans hx3 fun b hb h => ⟨fun q => h ((hK1 b q).2 (by omega)), fun e => by simp only [AV.blk, Option.some.injEq] at e; omega⟩
          have hx7 : Kx (fun b => H.length ≤ b) H2 H' := (hx21.trans x15 fun _ _ _ => trivial).trans hx3 fun b hb h => ⟨fun q => by have := hK b ((hK1 b q).2 hb); omega, fun e => by simp only [AV.blk, Option.some.injEq] at e; omega⟩
          have hK2 : ∀ b, K' b → b < H'.length ∧ (b < H2.length → K b) := fun b q => ⟨(hK3 b q).1, fun hb => by
            rcases (hK3 b q).2 (by omega) with h | h
            · exact (hK1 b h).2 hb
            · simp only [AV.blk, Option.some.injEq] at h; omega⟩
          cases ok with
          | true =>
            simp (disch := (first | assumption | omega | (simp only [List.length_append, List.length_cons, List.length_nil]; omega))) only [↓wD,wU,Nat.reduceBEq,zx150,zx151,zx159,zx160,zx161,zx162,Nat.reduceAdd,Nat.reduceSub,Nat.reduceMul,Nat.reduceLeDiff,Nat.reduceLT,Nat.reduceEqDiff,Int.reduceAdd,Int.reduceSub,Int.reduceMul,Int.reduceNeg,Int.reduceLT,Int.reduceLE,Int.reduceEq,Int.reduceToNat,Int.cast_ofNat_Int,↓reduceIte, a0, a1, a2, a3, a6, a28, a29, a30]
            refine (ih hi').go ?_
            simp (disch := (first | assumption | omega | (simp only [List.length_append, List.length_cons, List.length_nil]; omega))) only [↓wD,wU,Nat.reduceBEq,zx150,zx151,zx159,zx160,zx161,zx162,Nat.reduceAdd,Nat.reduceSub,Nat.reduceMul,Nat.reduceLeDiff,Nat.reduceLT,Nat.reduceEqDiff,Int.reduceAdd,Int.reduceSub,Int.reduceMul,Int.reduceNeg,Int.reduceLT,Int.reduceLE,Int.reduceEq,Int.reduceToNat,Int.cast_ofNat_Int,↓reduceIte, a0, a1, a2, a3, a6, a28, a29, a30]
            exact ⟨K', hq.1 rfl, hx6, hx7, hK2⟩
          | false =>
            simp (disch := (first | assumption | omega | (simp only [List.length_append, List.length_cons, List.length_nil]; omega))) only [↓wD,wU,Nat.reduceBEq,zx150,zx151,zx159,zx160,zx161,zx162,Nat.reduceAdd,Nat.reduceSub,Nat.reduceMul,Nat.reduceLeDiff,Nat.reduceLT,Nat.reduceEqDiff,Int.reduceAdd,Int.reduceSub,Int.reduceMul,Int.reduceNeg,Int.reduceLT,Int.reduceLE,Int.reduceEq,Int.reduceToNat,Int.cast_ofNat_Int,↓reduceIte, a0, a1, a2, a3, a6, a28, a29, a30]
            exact ⟨false, K', rfl, hq.2 rfl, hx6.weak fun _ _ h => h.1, fun b q => ⟨(hK2 b q).1, fun hb => .inl ((hK2 b q).2 (by omega))⟩⟩
      · simp (disch := (first | assumption | omega | (simp only [List.length_append, List.length_cons, List.length_nil]; omega))) only [↓wD,wU,Nat.reduceBEq,zx150,zx151,zx159,zx160,zx161,zx162,Nat.reduceAdd,Nat.reduceSub,Nat.reduceMul,Nat.reduceLeDiff,Nat.reduceLT,Nat.reduceEqDiff,Int.reduceAdd,Int.reduceSub,Int.reduceMul,Int.reduceNeg,Int.reduceLT,Int.reduceLE,Int.reduceEq,Int.reduceToNat,Int.cast_ofNat_Int,↓reduceIte, a0, a1, a2, a3]
        rw [restS_n (by omega)] at hI1'
        exact ⟨true, K1, rfl, Its.none hI1', hx1.weak fun _ _ h => h.1, fun b q => ⟨(hK1 b q).1, fun hb => .inl ((hK1 b q).2 (by omega))⟩⟩
    · simp (disch := (first | assumption | omega | (simp only [List.length_append, List.length_cons, List.length_nil]; omega))) only [↓wD,wU,Nat.reduceBEq,zx150,zx151,zx159,zx160,zx161,zx162,Nat.reduceAdd,Nat.reduceSub,Nat.reduceMul,Nat.reduceLeDiff,Nat.reduceLT,Nat.reduceEqDiff,Int.reduceAdd,Int.reduceSub,Int.reduceMul,Int.reduceNeg,Int.reduceLT,Int.reduceLE,Int.reduceEq,Int.reduceToNat,Int.cast_ofNat_Int,↓reduceIte]
      exact ⟨K, hI.keep (x2.all _), x2.all _, Kx.refl _ _, fun b q => ⟨by have := hK b q; omega, fun _ => q⟩⟩
/-- the iterator itself -/
theorem sols_it {lo : Nat} {y u w : AV} {xs ys : List (List Int)} {K : Nat → Prop} {H : Heap} {Q : Bool → (Nat → Prop) → Heap → Prop} (hlo : lo ≤ H.length) (hP : PuzP xs ys) (hy0 : y.cells = [y] ∧ y.one = true)
    (hx : Sl (fun b => ¬ K b) H u xs) (hy : Sl (fun b => ¬ K b) H w ys) (hK : ∀ b, K b → b < H.length)
    (hI : Its E lo y H.length ArgI Q ((solR ys xs []).map nL) K H) : WpF E lo 73 [.ag [u, w], y] H fun _ H' => ∃ ok K', Q ok K' H' := by
  refine WpF.wrt rfl fn73 rfl ?_
  unfold f73A
  have vu := hx.cellsV
  have vw := hy.cellsV
  obtain ⟨H2, eH2⟩ : ∃ H2, H ++ [Blk.cells [u, w]] ++ [Blk.cells [y]] ++ [Blk.cells [AV.fn 101 [] [.p H.length 0, .p (H.length + 1) 0, .p (H.length + 2) 0]]] = H2 := ⟨_, rfl⟩
  have hst : st lo (H ++ [Blk.cells [u, w]] ++ [Blk.cells [y]] ++ [Blk.cells [.nilf]]) (H.length + 2) 0 [AV.fn 101 [] [.p H.length 0, .p (H.length + 1) 0, .p (H.length + 2) 0]] = some H2 := by
    rw [st_of (cs := [.nilf]) (by simp [List.getElem?_append]) (by omega) (by simp), ← eH2]
    congr 1
    simp [wr, List.set_append]
  have x2 : Kx (fun _ => True) H H2 := by rw [← eH2]; exact ((Kx.app _ _ _).app' _).app' _
  have n2 : H2.length = H.length + 3 := by rw [← eH2]; simp
  have d0 : H2[H.length]? = some (.cells [u, w]) := by rw [← eH2]; simp [List.getElem?_append]
  have d1 : H2[H.length + 1]? = some (.cells [y]) := by rw [← eH2]; simp [List.getElem?_append]
  have d2 : H2[H.length + 2]? = some (.cells [AV.fn 101 [] [.p H.length 0, .p (H.length + 1) 0, .p (H.length + 2) 0]]) := by rw [← eH2]; simp [List.getElem?_append]
  have hkn : ∀ b, H.length ≤ b → ¬ K b := fun b h q => by have := hK b q; omega
  have lx := hP.1
  simp (disch := (first | assumption | omega | (simp only [List.length_append, List.length_cons, List.length_nil]; omega))) only [↓wD,wU,Nat.reduceBEq,zx150,zx151,zx159,zx160,zx161,zx162,Nat.reduceAdd,Nat.reduceSub,Nat.reduceMul,Nat.reduceLeDiff,Nat.reduceLT,Nat.reduceEqDiff,Int.reduceAdd,Int.reduceSub,Int.reduceMul,Int.reduceNeg,Int.reduceLT,Int.reduceLE,Int.reduceEq,Int.reduceToNat,Int.cast_ofNat_Int,↓reduceIte, vu, vw, hy0.1, hy0.2, hst, ld_of d2]
  refine callvI (WpV.fn (us := []) (vs := [_]) ((sgrow_ok hlo hP xs [] .nils K H2 Q ⟨[], rfl, rfl⟩ (by simp) ⟨⟨d0, hkn _ (by omega)⟩, ⟨d1, hkn _ (by omega)⟩, ⟨d2, hkn _ (by omega)⟩⟩ (hx.kp (x2.all _).kp) (hy.kp (x2.all _).kp) (Sl.nil) (fun b q => by have := hK b q; omega) (by omega) ?_).mono ?_))
  · rw [sol_eq (h := xs.length) (by have := lx.2; omega) (by simp) (fun e => by have := lx.1; rw [e] at this; simp at this)]
    exact hI.keep (x2.all _)
  · rintro r H' ⟨ok, K', rfl, hq, _⟩
    simp (disch := (first | assumption | omega | (simp only [List.length_append, List.length_cons, List.length_nil]; omega))) only [↓wD,wU,Nat.reduceBEq,zx150,zx151,zx159,zx160,zx161,zx162,Nat.reduceAdd,Nat.reduceSub,Nat.reduceMul,Nat.reduceLeDiff,Nat.reduceLT,Nat.reduceEqDiff,Int.reduceAdd,Int.reduceSub,Int.reduceMul,Int.reduceNeg,Int.reduceLT,Int.reduceLE,Int.reduceEq,Int.reduceToNat,Int.cast_ofNat_Int,↓reduceIte]
    exact ⟨ok, K', hq⟩
end Go.Proofs.YtjjndoigkhabdaaDoor
namespace Go.Proofs.YtjjndoigkhabdaaDoor
open Go Go.AM Go.Proofs
def sols (xs ys : List (List Int)) : List (List Nat) := solR ys xs []
theorem flatMap_len {α β : Type} {b : Nat} {f : α → List β} : ∀ {l : List α}, (∀ x ∈ l, (f x).length ≤ b) → (l.flatMap f).length ≤ l.length * b
  | [], _ => by simp
  | x :: l, h => by
    rw [List.flatMap_cons, List.length_append, List.length_cons, Nat.add_mul, Nat.one_mul]
    have h1 := h x (by simp)
    have h2 := flatMap_len (l := l) fun y hy => h y (by simp [hy])
    omega
theorem solR_len {y : List (List Int)} (hy : y.length ≤ 5) : ∀ {rest : List (List Int)} {P : List Nat}, (solR y rest P).length ≤ 32 ^ rest.length
  | [], P => by
    unfold solR
    split <;> simp
  | cl :: rest, P => by
    unfold solR
    refine Nat.le_trans (flatMap_len (b := 32 ^ rest.length) fun l _ => solR_len hy) ?_
    rw [List.length_cons, Nat.pow_succ, Nat.mul_comm]
    exact Nat.mul_le_mul_left _ (by rw [linesN_len]; exact linesL_len hy)
theorem sols_len {xs ys : List (List Int)} (h : PuzP xs ys) : (sols xs ys).length ≤ 33554432 := by
  refine Nat.le_trans (solR_len (by have := h.2.1.2; omega)) ?_
  have : 32 ^ xs.length ≤ 32 ^ 5 := Nat.pow_le_pow_right (by omega) (by have := h.1.2; omega)
  omega
theorem gset {b : Nat} {H H2 : Heap} {k k' : Blk} (e : H.set b k = H2) (h : H[b]? = some k') : H2[b]? = some k := by rw [← e]; exact get_set h
theorem argI_len : ∀ (Ki : Nat → Prop) (H1 : Heap) (args : List AV) (x : List Int), ArgI Ki H1 args x → args.length = 1 := by rintro _ _ _ _ ⟨u, rfl, _⟩; rfl
theorem sols_range {lo : Nat} {u w : AV} {xs ys : List (List Int)} {Hr H1 : Heap} {K0 K : Nat → Prop} {Q : Bool → (Nat → Prop) → Heap → Prop} (hlo : lo ≤ Hr.length) (hP : PuzP xs ys) (hx : Sl (fun b => ¬ K0 b) Hr u xs) (hy : Sl (fun b => ¬ K0 b) Hr w ys) (hK0 : ∀ b, K0 b → b < Hr.length)
    (e : H1.length = Hr.length + 1) (hx' : Kx (fun _ => True) Hr H1) (hK : ∀ b, K b ↔ K0 b ∨ b = Hr.length) (hI : Its E lo (.yl Hr.length) (Hr.length + 1) ArgI Q ((sols xs ys).map nL) K H1) :
    WpF E lo 73 [.ag [u, w], .yl Hr.length] H1 fun _ H' => ∃ ok K', Q ok K' H' := by
  rw [← e] at hI
  have hn : ∀ b, ¬ K0 b ∧ b < Hr.length → ¬ K b := fun b h q => by
    rcases (hK b).1 q with q | q
    · exact h.1 q
    · omega
  exact sols_it (by omega) hP ⟨rfl, rfl⟩ ((hx.low.kp (hx'.all _).kp).weak hn) ((hy.low.kp (hx'.all _).kp).weak hn) (fun b q => by
    rcases (hK b).1 q with q | q
    · have := hK0 b q; omega
    · omega) hI
theorem scount_ret {p q : Nat → Prop} {H : Heap} {u w : AV} {x y : List (List Int)} (hx : Sl p H u x) (hy : Sl q H w y) (h : PuzP x y) : RetP E 41 [.ag [u, w]] H (.tp [.i (sols x y).length, .i 0]) := by
  refine RetP.ro rfl fn41 rfl rfl ?_
  unfold f41A
  have vu := hx.cellsV
  have vw := hy.cellsV
  have hlen := sols_len h
  replace hx : Sl (fun b => b < H.length) H u x := hx.low.weak fun _ h => h.2
  replace hy : Sl (fun b => b < H.length) H w y := hy.low.weak fun _ h => h.2
  obtain ⟨Hr, eHr⟩ : ∃ Hr, H ++ [.cells [u, w]] ++ [Blk.cells [.i 0]] = Hr := ⟨_, rfl⟩
  have x0 : Kx (fun _ => True) H Hr := by rw [← eHr]; exact (Kx.app _ _ _).app' _
  have nr : Hr.length = H.length + 2 := by rw [← eHr]; simp
  have d0 : Hr[H.length]? = some (.cells [u, w]) := by rw [← eHr]; simp [List.getElem?_append]
  have c0 : Hr[H.length + 1]? = some (.cells [.i 0]) := by rw [← eHr]; simp [List.getElem?_append]
  have hst : st H.length Hr (H.length + 1) 0 [.i 0] = some Hr := by
    rw [st_of c0 (by omega) (by simp)]
    congr 1
    rw [← eHr]
    simp [wr, List.set_append]
  have hv := pvalid_ret (hx.app [Blk.cells [u, w]]) (hy.app [Blk.cells [u, w]])
  rw [decide_eq_true h] at hv
  obtain ⟨ts, ets⟩ : ∃ ts, (sols x y).map nL = ts := ⟨_, rfl⟩
  have etl : ts.length = (sols x y).length := by rw [← ets, List.length_map]
  rw [← etl] at hlen ⊢
  simp (disch := (first | assumption | omega | (simp only [List.length_append, List.length_cons, List.length_nil]; omega))) only [↓wD,wU,Nat.reduceBEq,zx150,zx151,zx159,zx160,zx161,zx162,Nat.reduceAdd,Nat.reduceSub,Nat.reduceMul,Nat.reduceLeDiff,Nat.reduceLT,Nat.reduceEqDiff,Int.reduceAdd,Int.reduceSub,Int.reduceMul,Int.reduceNeg,Int.reduceLT,Int.reduceLE,Int.reduceEq,Int.reduceToNat,Int.cast_ofNat_Int,↓reduceIte, vu, vw, hv.call, eHr, hst, ldn_of d0]
  refine Wp.range (A := ArgI) ts (fun b => b = H.length + 1) (fun i K H1 => H1[H.length + 1]? = some (.cells [.i i])) (fun j K H1 => False) (by (simp (disch := (first | assumption | omega | (simp only [List.length_append, List.length_cons, List.length_nil]; omega))) only [↓wD,wU,Nat.reduceBEq,zx150,zx151,zx159,zx160,zx161,zx162,Nat.reduceAdd,Nat.reduceSub,Nat.reduceMul,Nat.reduceLeDiff,Nat.reduceLT,Nat.reduceEqDiff,Int.reduceAdd,Int.reduceSub,Int.reduceMul,Int.reduceNeg,Int.reduceLT,Int.reduceLE,Int.reduceEq,Int.reduceToNat,Int.cast_ofNat_Int,↓reduceIte]) <;> rfl) rfl (by omega) (fun b h => by omega) argI_len ?_ ?_ ?_ ?_ ?_ ?_ ?_
  · intro K' H1 Q' e hx' hK' hI
    rw [← ets] at hI
    exact sols_range (by omega) h ((hx.kp (x0.all _).kp).weak fun b hb => by omega) ((hy.kp (x0.all _).kp).weak fun b hb => by omega) (fun b hb => by omega) e hx' hK' hI
  · exact fun i K H1 H2 h hx => hx.get (.inl (by omega)) h
  · exact fun j K H1 H2 h hx => h.elim
  · exact c0
  · rintro i hi K Ki args H1 q4 ⟨v, rfl, hu⟩ hKi hK hx hl1 hlr hKK
    simp (disch := (first | assumption | omega | (simp only [List.length_append, List.length_cons, List.length_nil]; omega))) only [↓wD,wU,Nat.reduceBEq,zx150,zx151,zx159,zx160,zx161,zx162,Nat.reduceAdd,Nat.reduceSub,Nat.reduceMul,Nat.reduceLeDiff,Nat.reduceLT,Nat.reduceEqDiff,Int.reduceAdd,Int.reduceSub,Int.reduceMul,Int.reduceNeg,Int.reduceLT,Int.reduceLE,Int.reduceEq,Int.reduceToNat,Int.cast_ofNat_Int,↓reduceIte, zx188 (lo := H.length) hlr (by omega), zx189, zx190]
    generalize e2 : H1.set Hr.length _ = H2
    have x12 : Kx (fun b => b ≠ Hr.length) H1 H2 := by rw [← e2]; exact Kx.set _ _ _
    have gl := gset e2 hlr
    have r4 := x12.get (by omega) q4
    have kc1 := (hKK (H.length + 1) (by omega)).2 rfl
    clear e2
    have hst2 : st H.length H2 (H.length + 1) 0 [.i (i + 1)] = some (H2.set (H.length + 1) (.cells [.i (i + 1)])) := by
      rw [st_of r4 (by omega) (by simp)]; simp [wr]
    simp (disch := (first | assumption | omega | (simp only [List.length_append, List.length_cons, List.length_nil]; omega))) only [↓wD,wU,Nat.reduceBEq,zx150,zx151,zx159,zx160,zx161,zx162,Nat.reduceAdd,Nat.reduceSub,Nat.reduceMul,Nat.reduceLeDiff,Nat.reduceLT,Nat.reduceEqDiff,Int.reduceAdd,Int.reduceSub,Int.reduceMul,Int.reduceNeg,Int.reduceLT,Int.reduceLE,Int.reduceEq,Int.reduceToNat,Int.cast_ofNat_Int,↓reduceIte, ld_of r4, hst2]
    refine ⟨?_, ?_, get_set r4⟩
    · rw [List.getElem?_set_ne (by omega)]; exact gl
    · exact (x12.weak fun b _ h => h.2).set' (fun _ h => h.1 (.inl kc1)) _
  · rintro K H1 q4 hx hl1
    simp (disch := (first | assumption | omega | (simp only [List.length_append, List.length_cons, List.length_nil]; omega))) only [↓wD,wU,Nat.reduceBEq,zx150,zx151,zx159,zx160,zx161,zx162,Nat.reduceAdd,Nat.reduceSub,Nat.reduceMul,Nat.reduceLeDiff,Nat.reduceLT,Nat.reduceEqDiff,Int.reduceAdd,Int.reduceSub,Int.reduceMul,Int.reduceNeg,Int.reduceLT,Int.reduceLE,Int.reduceEq,Int.reduceToNat,Int.cast_ofNat_Int,↓reduceIte, ld_of q4]
  · exact fun j K H' h _ _ => h.elim
/-- what Solve says -/
def solE (xs ys : List (List Int)) : Int := if (sols xs ys) = [] then 4 else 0
def solF (xs ys : List (List Int)) : List Int := nL ((sols xs ys).headD [])
theorem solve_ret {p q : Nat → Prop} {H : Heap} {u w : AV} {x y : List (List Int)} (hx : Sl p H u x) (hy : Sl q H w y) (h : PuzP x y) : Ret E 40 [.ag [u, w]] (fun _ => False) H (T2.mk (solF x y) (solE x y)) := by
  refine Ret.ro rfl fn40 rfl ?_
  unfold f40A
  have vu := hx.cellsV
  have vw := hy.cellsV
  replace hx : Sl (fun b => b < H.length) H u x := hx.low.weak fun _ h => h.2
  replace hy : Sl (fun b => b < H.length) H w y := hy.low.weak fun _ h => h.2
  obtain ⟨Hr, eHr⟩ : ∃ Hr, H ++ [.cells [u, w]] ++ [Blk.cells [.nils]] ++ [Blk.cells [.i 0]] = Hr := ⟨_, rfl⟩
  have x0 : Kx (fun _ => True) H Hr := by rw [← eHr]; exact ((Kx.app _ _ _).app' _).app' _
  have nr : Hr.length = H.length + 3 := by rw [← eHr]; simp
  have d0 : Hr[H.length]? = some (.cells [u, w]) := by rw [← eHr]; simp [List.getElem?_append]
  have c2 : Hr[H.length + 1]? = some (.cells [.nils]) := by rw [← eHr]; simp [List.getElem?_append]
  have c3 : Hr[H.length + 2]? = some (.cells [.i 0]) := by rw [← eHr]; simp [List.getElem?_append]
  have hx1 := hx.kp (x0.all _).kp
  have hy1 := hy.kp (x0.all _).kp
  have hv := pvalid_ret hx1 hy1
  rw [decide_eq_true h] at hv
  obtain ⟨ts, ets⟩ : ∃ ts, (sols x y).map nL = ts := ⟨_, rfl⟩
  have eF : solF x y = ts.headD [] := by
    unfold solF
    rw [← ets]
    cases sols x y <;> rfl
  have eE : solE x y = if ts = [] then 4 else 0 := by
    unfold solE
    rw [← ets]
    cases sols x y <;> simp
  rw [eF, eE]
  simp (disch := (first | assumption | omega | (simp only [List.length_append, List.length_cons, List.length_nil]; omega))) only [↓wD,wU,Nat.reduceBEq,zx150,zx151,zx159,zx160,zx161,zx162,Nat.reduceAdd,Nat.reduceSub,Nat.reduceMul,Nat.reduceLeDiff,Nat.reduceLT,Nat.reduceEqDiff,Int.reduceAdd,Int.reduceSub,Int.reduceMul,Int.reduceNeg,Int.reduceLT,Int.reduceLE,Int.reduceEq,Int.reduceToNat,Int.cast_ofNat_Int,↓reduceIte, vu, vw, eHr, ldn_of d0, hv.call]
  refine Wp.range (A := ArgI) ts (fun b => b = H.length + 1 ∨ b = H.length + 2) (fun i K H1 => i = 0 ∧ H1[H.length + 1]? = some (.cells [.nils]) ∧ H1[H.length + 2]? = some (.cells [.i 0]) ∧ K (H.length + 1) ∧ K (H.length + 2))
    (fun j K H1 => j = .ret ∧ ts ≠ [] ∧ ∃ v, H1[H.length + 1]? = some (.cells [v]) ∧ H1[H.length + 2]? = some (.cells [.i 0]) ∧ K (H.length + 1) ∧ K (H.length + 2) ∧ Sl (fun b => K b ∧ H.length + 3 ≤ b) H1 v (ts.headD [])) (by (simp (disch := (first | assumption | omega | (simp only [List.length_append, List.length_cons, List.length_nil]; omega))) only [↓wD,wU,Nat.reduceBEq,zx150,zx151,zx159,zx160,zx161,zx162,Nat.reduceAdd,Nat.reduceSub,Nat.reduceMul,Nat.reduceLeDiff,Nat.reduceLT,Nat.reduceEqDiff,Int.reduceAdd,Int.reduceSub,Int.reduceMul,Int.reduceNeg,Int.reduceLT,Int.reduceLE,Int.reduceEq,Int.reduceToNat,Int.cast_ofNat_Int,↓reduceIte]) <;> rfl) rfl (by omega) (fun b h => by omega) argI_len ?_ ?_ ?_ ?_ ?_ ?_ ?_
  · intro K' H1 Q' e hx' hK' hI
    rw [← ets] at hI
    exact sols_range (by omega) h (hx1.weak fun b hb => by omega) (hy1.weak fun b hb => by omega) (fun b hb => by omega) e hx' hK' hI
  · exact fun i K H1 H2 h hx => ⟨h.1, hx.get (.inr h.2.2.2.1) h.2.1, hx.get (.inr h.2.2.2.2) h.2.2.1, h.2.2.2⟩
  · rintro j K H1 H2 ⟨rfl, hne, v, h1, h2, h3, h4, h5⟩ hx
    exact ⟨rfl, hne, v, hx.get (.inr h3) h1, hx.get (.inr h4) h2, h3, h4, h5.kp (hx.weak (q := fun b => K b ∧ H.length + 3 ≤ b) fun b _ h => .inr h.1).kp⟩
  · exact ⟨rfl, c2, c3, .inl rfl, .inr rfl⟩
  · rintro i hi K Ki args H1 ⟨rfl, q2, q3, k2, k3⟩ ⟨v, rfl, hu⟩ hKi hK hx hl1 hlr hKK
    simp (disch := (first | assumption | omega | (simp only [List.length_append, List.length_cons, List.length_nil]; omega))) only [↓wD,wU,Nat.reduceBEq,zx150,zx151,zx159,zx160,zx161,zx162,Nat.reduceAdd,Nat.reduceSub,Nat.reduceMul,Nat.reduceLeDiff,Nat.reduceLT,Nat.reduceEqDiff,Int.reduceAdd,Int.reduceSub,Int.reduceMul,Int.reduceNeg,Int.reduceLT,Int.reduceLE,Int.reduceEq,Int.reduceToNat,Int.cast_ofNat_Int,↓reduceIte, zx188 (lo := H.length) hlr (by omega), zx189, zx190]
    generalize e2 : H1.set Hr.length _ = H2
    have x12 : Kx (fun b => b ≠ Hr.length) H1 H2 := by rw [← e2]; exact Kx.set _ _ _
    have gl := gset e2 hlr
    have r2 := x12.get (b := H.length + 1) (by omega) q2
    have r3 := x12.get (b := H.length + 2) (by omega) q3
    have hu2 : Sl (fun b => Ki b ∧ b < H1.length) H2 v ts[0] := hu.low.kp (x12.weak (q := fun b => Ki b ∧ b < H1.length) fun b _ h => by have := (hKi b h.1).1; omega).kp
    have l12 := x12.1
    clear e2
    have st1 : st H.length H2 (H.length + 1) 0 [v] = some (H2.set (H.length + 1) (.cells [v])) := by rw [st_of r2 (by omega) (by simp)]; simp [wr]
    have r3' : (H2.set (H.length + 1) (.cells [v]))[H.length + 2]? = some (.cells [.i 0]) := by rw [List.getElem?_set_ne (by omega)]; exact r3
    have st2 : st H.length (H2.set (H.length + 1) (.cells [v])) (H.length + 2) 0 [.i 0] = some ((H2.set (H.length + 1) (.cells [v])).set (H.length + 2) (.cells [.i 0])) := by rw [st_of r3' (by omega) (by simp)]; simp [wr]
    simp (disch := (first | assumption | omega | (simp only [List.length_append, List.length_cons, List.length_nil]; omega))) only [↓wD,wU,Nat.reduceBEq,zx150,zx151,zx159,zx160,zx161,zx162,Nat.reduceAdd,Nat.reduceSub,Nat.reduceMul,Nat.reduceLeDiff,Nat.reduceLT,Nat.reduceEqDiff,Int.reduceAdd,Int.reduceSub,Int.reduceMul,Int.reduceNeg,Int.reduceLT,Int.reduceLE,Int.reduceEq,Int.reduceToNat,Int.cast_ofNat_Int,↓reduceIte, hu2.cellsV, st1, st2]
    refine ⟨?_, ?_, rfl, ?_, v, ?_, get_set r3', .inl k2, .inl k3, ?_⟩
    · rw [List.getElem?_set_ne (by omega), List.getElem?_set_ne (by omega)]; exact gl
    · exact ((x12.weak fun b _ h => h.2).set' (fun _ h => h.1 (.inl k2)) _).set' (fun _ h => h.1 (.inl k3)) _
    · intro e; rw [e] at hi; simp at hi
    · rw [List.getElem?_set_ne (by omega)]; exact get_set r2
    · have e0 : ts.headD [] = ts[0] := by
        match ts, hi with
        | t :: _, _ => rfl
      rw [e0]
      refine ((hu2.kp ((Kp.set _ _ _).weak fun b h => ?_)).kp ((Kp.set _ _ _).weak fun b h => ?_)).weak fun b h => ⟨.inr (.inl h.1), by have := (hKi b h.1).1; omega⟩
      · have := (hKi b h.1).1; omega
      · have := (hKi b h.1).1; omega
  · rintro K H1 ⟨e0, q2, q3, k2, k3⟩ hx hl1
    have e1 : ts = [] := List.length_eq_zero_iff.1 e0
    have st1 : st H.length H1 (H.length + 1) 0 [.nils] = some (H1.set (H.length + 1) (.cells [.nils])) := by rw [st_of q2 (by omega) (by simp)]; simp [wr]
    have r3' : (H1.set (H.length + 1) (.cells [.nils]))[H.length + 2]? = some (.cells [.i 0]) := by rw [List.getElem?_set_ne (by omega)]; exact q3
    have st2 : st H.length (H1.set (H.length + 1) (.cells [.nils])) (H.length + 2) 0 [.i 4] = some ((H1.set (H.length + 1) (.cells [.nils])).set (H.length + 2) (.cells [.i 4])) := by rw [st_of r3' (by omega) (by simp)]; simp [wr]
    have g2 : ((H1.set (H.length + 1) (.cells [.nils])).set (H.length + 2) (.cells [.i 4]))[H.length + 1]? = some (.cells [.nils]) := by rw [List.getElem?_set_ne (by omega)]; exact get_set q2
    simp (disch := (first | assumption | omega | (simp only [List.length_append, List.length_cons, List.length_nil]; omega))) only [↓wD,wU,Nat.reduceBEq,zx150,zx151,zx159,zx160,zx161,zx162,Nat.reduceAdd,Nat.reduceSub,Nat.reduceMul,Nat.reduceLeDiff,Nat.reduceLT,Nat.reduceEqDiff,Int.reduceAdd,Int.reduceSub,Int.reduceMul,Int.reduceNeg,Int.reduceLT,Int.reduceLE,Int.reduceEq,Int.reduceToNat,Int.cast_ofNat_Int,↓reduceIte, st1, st2, ld_of g2, ld_of (get_set r3')]
    rw [e1]
    exact rv_2 Sl.nil rv_i
  · rintro j K H1 ⟨rfl, hne, v, h1, h2, h3, h4, h5⟩ hx hl1
    change Wp E H.length none (.code .ret :: _) _ _ _
    simp (disch := (first | assumption | omega | (simp only [List.length_append, List.length_cons, List.length_nil]; omega))) only [↓wD,wU,Nat.reduceBEq,zx150,zx151,zx159,zx160,zx161,zx162,Nat.reduceAdd,Nat.reduceSub,Nat.reduceMul,Nat.reduceLeDiff,Nat.reduceLT,Nat.reduceEqDiff,Int.reduceAdd,Int.reduceSub,Int.reduceMul,Int.reduceNeg,Int.reduceLT,Int.reduceLE,Int.reduceEq,Int.reduceToNat,Int.cast_ofNat_Int,↓reduceIte, ld_of h1, ld_of h2]
    rw [if_neg hne]
    exact rv_2 (h5.weak fun b h => .inr (by omega)) rv_i
end Go.Proofs.YtjjndoigkhabdaaDoor
namespace Go.Proofs.YtjjndoigkhabdaaDoor
open Go Go.AM Go.Proofs
theorem mem_linesN {n x : Nat} {cl : List Int} : x ∈ linesN n cl ↔ x < 2 ^ n ∧ blkL x = cl := by
  unfold linesN
  rw [List.mem_filter, List.mem_range]
  simp
theorem gi_consS' {α : Type} [Inhabited α] {x : α} {xs : List α} {i : Nat} : gi (x :: xs) ((i + 1 : Nat) : Int) = gi xs (i : Int) := by simp [gi]
theorem mem_solR {y : List (List Int)} : ∀ {rest : List (List Int)} {P S : List Nat}, S ∈ solR y rest P ↔ ∃ Q, S = P ++ Q ∧ Q.length = rest.length ∧ (∀ i : Nat, i < rest.length → gi Q (i : Int) ∈ linesN y.length (gi rest (i : Int))) ∧ okC y S = true
  | [], P, S => by
    unfold solR
    constructor
    · intro h
      split at h
      · rename_i hc
        simp at h
        subst h
        exact ⟨[], by simp, rfl, fun i hi => by simp at hi, hc⟩
      · simp at h
    · rintro ⟨Q, e, hl, _, hok⟩
      have : Q = [] := List.length_eq_zero_iff.1 hl
      subst this
      rw [List.append_nil] at e
      subst e
      rw [if_pos hok]; simp
  | cl :: rest, P, S => by
    unfold solR
    rw [List.mem_flatMap]
    constructor
    · rintro ⟨l, hl, h⟩
      obtain ⟨Q, e, hq, hm, hok⟩ := mem_solR.1 h
      refine ⟨l :: Q, by rw [e]; simp, by simp [hq], fun i hi => ?_, hok⟩
      cases i with
      | zero => exact hl
      | succ i => rw [gi_consS', gi_consS']; exact hm i (by simpa using hi)
    · rintro ⟨Q, e, hq, hm, hok⟩
      match Q, hq with
      | l :: Q, hq =>
        refine ⟨l, hm 0 (by simp), mem_solR.2 ⟨Q, by rw [e]; simp, by simpa using hq, fun i hi => ?_, hok⟩⟩
        have := hm (i + 1) (by simp; omega)
        rwa [gi_consS', gi_consS'] at this
/-- a solution -/
theorem mem_sols {xs ys : List (List Int)} {S : List Nat} : S ∈ sols xs ys ↔ S.length = xs.length ∧ (∀ i : Nat, i < xs.length → gi S (i : Int) < 2 ^ ys.length ∧ blkL (gi S (i : Int)) = gi xs (i : Int)) ∧ ∀ c : Nat, c < ys.length → blkL (colN S c) = gi ys (c : Int) := by
  unfold sols
  rw [mem_solR]
  have hok : okC ys S = true ↔ ∀ c : Nat, c < ys.length → blkL (colN S c) = gi ys (c : Int) := by
    unfold okC
    rw [List.all_eq_true]
    constructor
    · intro h c hc; simpa using h c (List.mem_range.2 hc)
    · intro h c hc; simpa using h c (List.mem_range.1 hc)
  rw [hok]
  constructor
  · rintro ⟨Q, rfl, hl, hm, h⟩
    exact ⟨hl, fun i hi => mem_linesN.1 (hm i hi), h⟩
  · rintro ⟨hl, hm, h⟩
    exact ⟨S, by simp, hl, fun i hi => mem_linesN.2 (hm i hi), h⟩
theorem cmp_pre : ∀ {P Q Q' : List Nat} {l l' : Nat}, l < l' → cmpL (nL (P ++ l :: Q)) (nL (P ++ l' :: Q')) < 0
  | [], Q, Q', l, l', h => by
    show cmpL ((l : Int) :: nL Q) ((l' : Int) :: nL Q') < 0
    have : cmpI (l : Int) l' = -1 := by unfold cmpI; rw [if_pos (by omega)]
    simp [cmpL, this]
  | p :: P, Q, Q', l, l', h => by
    have := cmp_pre (P := P) (Q := Q) (Q' := Q') h
    show cmpL ((p : Int) :: nL (P ++ l :: Q)) ((p : Int) :: nL (P ++ l' :: Q')) < 0
    simpa [cmpL, cmpI] using this
theorem solR_order {y : List (List Int)} : ∀ {rest : List (List Int)} {P : List Nat}, (solR y rest P).Pairwise fun a b => cmpL (nL a) (nL b) < 0
  | [], P => by
    unfold solR
    split <;> simp
  | cl :: rest, P => by
    unfold solR
    rw [List.pairwise_flatMap]
    refine ⟨fun l _ => solR_order, ?_⟩
    have hr : (linesN y.length cl).Pairwise (· < ·) := List.Pairwise.filter _ List.pairwise_lt_range
    refine hr.imp fun {l l'} hl a ha b hb => ?_
    obtain ⟨Q, e, _⟩ := mem_solR.1 ha
    obtain ⟨Q', e', _⟩ := mem_solR.1 hb
    rw [e, e']
    simp only [List.append_assoc, List.singleton_append]
    exact cmp_pre hl
/-- the first one is no later than any -/
theorem first_le {xs ys : List (List Int)} {S : List Nat} (h : S ∈ sols xs ys) : ∃ F, F ∈ sols xs ys ∧ solF xs ys = nL F ∧ solE xs ys = 0 ∧ cmpL (nL F) (nL S) ≤ 0 ∧ 1 ≤ (sols xs ys).length ∧ ((sols xs ys).length = 1 → F = S) := by
  have ho := solR_order (y := ys) (rest := xs) (P := [])
  change (sols xs ys).Pairwise _ at ho
  unfold solF solE
  generalize sols xs ys = l at *
  match l, h with
  | F :: l, h =>
    refine ⟨F, by simp, rfl, rfl, ?_, by simp, fun hl => ?_⟩
    · rcases List.mem_cons.1 h with rfl | h
      · rw [cmpL_refl]; omega
      · have := List.rel_of_pairwise_cons ho h; omega
    · have : l = [] := List.length_eq_zero_iff.1 (by simpa using hl)
      subst this
      simp at h
      exact h.symm
theorem cluesL_puz {m : Nat} {P : List Nat} (m1 : 1 ≤ m) (m5 : m ≤ 5) (l1 : 1 ≤ P.length) (l5 : P.length ≤ 5) (hP : ∀ x ∈ P, x < 2 ^ m) : PuzP (cluesL m P).1 (cluesL m P).2 := by
  have e1 : (cluesL m P).1.length = P.length := by simp [cluesL]
  have e2 : (cluesL m P).2.length = m := by simp [cluesL]
  have sm : SizeP m := ⟨by omega, by omega⟩
  have sl : SizeP P.length := ⟨by omega, by omega⟩
  unfold PuzP
  rw [e1, e2]
  refine ⟨sl, sm, fun c hc => ⟨sm, ?_⟩, fun c hc => ⟨sl, ?_⟩⟩
  · obtain ⟨x, hx, rfl⟩ := List.mem_map.1 hc
    rw [Int.toNat_natCast, ← linesN_len]
    exact List.length_pos_of_mem (mem_linesN.2 ⟨hP x hx, rfl⟩)
  · obtain ⟨k, _, rfl⟩ := List.mem_map.1 hc
    rw [Int.toNat_natCast, ← linesN_len]
    exact List.length_pos_of_mem (mem_linesN.2 ⟨colN_lt P k, rfl⟩)
theorem cluesL_has {m : Nat} {P : List Nat} (hP : ∀ x ∈ P, x < 2 ^ m) : P ∈ sols (cluesL m P).1 (cluesL m P).2 := by
  rw [mem_sols]
  have e2 : (cluesL m P).2.length = m := by simp [cluesL]
  rw [e2]
  refine ⟨by simp [cluesL], fun i hi => ?_, fun c hc => ?_⟩
  · have hi' : i < P.length := by simpa [cluesL] using hi
    refine ⟨hP _ (mem_gi hi'), ?_⟩
    rw [gi_nat hi', gi_nat hi]
    simp [cluesL]
  · rw [gi_nat (by rw [e2]; exact hc)]
    simp [cluesL]
/-- a solution has the same Puzzle -/
theorem cluesL_of {xs ys : List (List Int)} {S : List Nat} (h : S ∈ sols xs ys) : cluesL ys.length S = (xs, ys) := by
  obtain ⟨hl, h1, h2⟩ := mem_sols.1 h
  unfold cluesL
  congr 1
  · apply gi_ext (by simpa using hl)
    intro i hi
    have hi' : i < S.length := by simpa using hi
    rw [← (h1 i (by omega)).2, gi_nat hi, gi_nat hi']
    simp
  · apply gi_ext (by simp)
    intro c hc
    have hc' : c < ys.length := by simpa using hc
    rw [← h2 c hc', gi_nat hc]
    simp
theorem sol_rows {xs ys : List (List Int)} {S : List Nat} (h : S ∈ sols xs ys) : ∀ x ∈ S, x < 2 ^ ys.length := by
  obtain ⟨hl, h1, h2⟩ := mem_sols.1 h
  intro x hx
  obtain ⟨i, hi, rfl⟩ := List.mem_iff_getElem.1 hx
  have := (h1 i (by omega)).1
  rwa [gi_nat hi] at this
theorem pic_of {m : Nat} {S : List Nat} (m1 : 1 ≤ m) (m5 : m ≤ 5) (l1 : 1 ≤ S.length) (l5 : S.length ≤ 5) (h : ∀ x ∈ S, x < 2 ^ m) : PicP m (nL S) := by
  refine ⟨by rw [nL_len]; exact ⟨by omega, by omega⟩, ⟨by omega, by omega⟩, fun x hx => ?_⟩
  obtain ⟨z, hz, rfl⟩ := List.mem_map.1 hx
  have := h z hz
  exact ⟨⟨by omega, by omega⟩, by omega, by rw [Int.toNat_natCast]; omega⟩
end Go.Proofs.YtjjndoigkhabdaaDoor
namespace Go.AM
open Go
/-- a row, and the value that stands for it -/
structure RW where
  v : AV
  xs : List Int
instance : Inhabited RW := ⟨⟨.nils, []⟩⟩
instance : Rep RW where
  sz := 1
  pos := Nat.one_pos
  rep p H cs r := cs = [r.v] ∧ Sl p H r.v r.xs
  len := by rintro p H cs x ⟨rfl, _⟩; rfl
  one := by rintro p H cs x ⟨rfl, h⟩; simp [h.one]
  mono := by rintro p q H H' cs x ⟨rfl, h⟩ hk hq; exact ⟨rfl, h.mono hk hq⟩
  pure := by rintro p q H H' cs x ⟨rfl, h⟩ hp; exact ⟨rfl, h.pure (by simpa [AV.pureAll] using hp)⟩
  low := by rintro p H cs x ⟨rfl, h⟩; exact ⟨rfl, h.low⟩
/-- in no block of the other one's -/
def Apart (a b : AV) : Prop := ∀ c, a.blk = some c → b.blk ≠ some c
/-- a table of the call's own, from L on; its rows apart -/
def TB (L : Nat) (H : Heap) (v : AV) (t : List (List Int)) : Prop :=
  ∃ rs : List RW, rs.map (·.xs) = t ∧ rs.Pairwise (fun a b => Apart a.v b.v) ∧ Acc L (fun b => L ≤ b) H v rs
section
variable {L lo : Nat} {p : Nat → Prop} {H H' : Heap} {v : AV} {t : List (List Int)}
theorem TB.nil : TB L H .nils [] := ⟨[], rfl, List.Pairwise.nil, Acc.nil⟩
theorem TB.accL (h : TB L H v t) : Acc L (fun b => L ≤ b) H v t := by
  obtain ⟨rs, rfl, _, h⟩ := h
  rcases h with ⟨rfl, rfl⟩ | ⟨b, o, c, k, rfl, hb, hk, h1, h2, h3⟩
  · exact .inl ⟨rfl, rfl⟩
  · refine .inr ⟨b, o, c, k, by rw [List.length_map]; rfl, hb, hk, by rw [List.length_map]; exact h1, by rwa [List.length_map], fun i hi => ?_⟩
    have hi' : i < rs.length := by simpa using hi
    obtain ⟨e, hs⟩ := h3 i hi'
    refine ⟨_, e, ?_⟩
    have e2 : (rs.map (·.xs))[i]'hi = rs[i].xs := by simp
    rw [e2]; exact hs
theorem TB.sl (h : TB L H v t) : Sl (fun b => L ≤ b) H v t := h.accL.sl.weak fun b h => h.elim id id
theorem TB.kp (h : TB L H v t) (hk : Kp (fun b => L ≤ b) H H') : TB L H' v t := by
  obtain ⟨rs, e, hn, h⟩ := h
  exact ⟨rs, e, hn, h.mono (hk.weak fun b hb => hb.elim id id) fun _ h => h⟩
theorem TB.gr (h : TB L H v t) (hg : Gr H H') : TB L H' v t := h.kp hg.all.weakT
theorem TB.blk_lt (h : TB L H v t) {b : Nat} (e : v.blk = some b) : L ≤ b ∧ b < H.length := h.accL.blk_lt e
theorem RW.lt {rs : List RW} (h : Acc L p H v rs) : ∀ r ∈ rs, ∀ c, r.v.blk = some c → c < H.length := by
  intro r hr c hc
  rcases h with ⟨rfl, rfl⟩ | ⟨b, o, c', k, rfl, hb, hk, h1, h2, h3⟩
  · cases hr
  · obtain ⟨i, hi, rfl⟩ := List.mem_iff_getElem.1 hr
    obtain ⟨_, h4⟩ := h3 i hi
    exact (h4.blkp hc).2
theorem TB.push {n : Nat} {y : AV} {x : List Int} {Q : AV × Heap → Prop} {H0 : Heap} (h : TB L H0 v t) (hg : Gr H0 H) (hlo : lo ≤ L) (hL : L ≤ H0.length) (hy : Sl (fun b => H0.length ≤ b) H y x) (hb : (t.length + 1) * 24 ≤ 1099511627776)
    (go : ∀ v' H', TB L H' v' (t ++ [x]) → Kp (fun b => v.blk ≠ some b) H H' → Q (v', H')) (hn : n = H.length := by first | rfl | simp) :
    @optP _ (appendV lo 1 24 v (.s 1 n 0 1 (some 1)) (H ++ [.cells [y]])) ⟨Q⟩ := by
  subst hn
  obtain ⟨rs, rfl, hn, ha⟩ := h
  have hrl := RW.lt ha
  refine Acc.push1 (α := RW) (q := fun b => H0.length ≤ b) (cs := [y]) (x := ⟨y, x⟩) (bytes := 24) (ha.gr hg) hlo (Nat.le_trans hL hg.1) ⟨rfl, hy⟩ (fun b hb => ⟨by omega, fun e => ?_⟩) (by simpa using hb) (by omega) fun v' H' h1 h2 _ _ => go v' H' ⟨rs ++ [⟨y, x⟩], by simp, ?_, h1⟩ h2
  · have := (ha.blk_lt e).2; omega
  · rw [List.pairwise_append]
    refine ⟨hn, List.pairwise_singleton _ _, ?_⟩
    intro a ha' b hb c hc e
    simp at hb
    subst hb
    have h1 := hrl a ha' c hc
    have h2 := (hy.blkp e).1
    omega
/-- row i, written in place -/
theorem TB.row (h : TB L H v t) {i : Nat} (hi : i < t.length) : ∃ y, v.get H (i : Int) = y ∧ ldA H none (v.at 1 (i : Int)) = some y ∧ Sl (fun b => L ≤ b) H y (gi t (i : Int)) ∧ (∀ b, v.blk = some b → y.blk ≠ some b) ∧
    ∀ H' x', Kx (fun b => y.blk ≠ some b) H H' → Sl (fun b => L ≤ b) H' y x' → TB L H' v (t.set i x') := by
  have g := h.sl.get (k := (i : Int)) (by omega) (by omega)
  have gl := (h.sl.ld_get (k := (i : Int)) (by omega) (by omega)).1
  refine ⟨_, rfl, gl, g, ?_, ?_⟩
  · intro b hb
    obtain ⟨rs, rfl, hn, ha⟩ := h
    rcases ha with ⟨rfl, rfl⟩ | ⟨b1, o, c, k, rfl, hb1, hk, h1, h2, h3⟩
    · simp at hi
    · have hi' : i < rs.length := by simpa using hi
      obtain ⟨e, h4⟩ := h3 i hi'
      change (k.drop (o + i * 1)).take 1 = _ at e
      have e2 := take1 e
      have eg : AV.get H (.s (Rep.sz RW) b1 o rs.length c) (i : Int) = rs[i].v := by
        change (ld H b1 (o + i * 1)).getD .un = _
        simp only [ld, hk, e2]; rfl
      rw [eg]
      cases hb
      intro q
      exact (h4.blkp q).1.2 rfl
  · intro H' x' hx hs
    obtain ⟨rs, rfl, hn, ha⟩ := h
    rcases ha with ⟨rfl, rfl⟩ | ⟨b1, o, c, k, rfl, hb1, hk, h1, h2, h3⟩
    · simp at hi
    · have hi' : i < rs.length := by simpa using hi
      obtain ⟨e, h4⟩ := h3 i hi'
      change (k.drop (o + i * 1)).take 1 = _ at e
      have e2 := take1 e
      have eg : AV.get H (.s (Rep.sz RW) b1 o rs.length c) (i : Int) = rs[i].v := by
        change (ld H b1 (o + i * 1)).getD .un = _
        simp only [ld, hk, e2]; rfl
      rw [eg] at hx hs
      have hne : ∀ q, rs[i].v.blk = some q → q ≠ b1 := fun q hq => (h4.blkp hq).1.2
      refine ⟨rs.set i ⟨rs[i].v, x'⟩, by simp [List.map_set], ?_, .inr ⟨b1, o, c, k, by rw [List.length_set], hb1, hx.get (fun q => hne _ q rfl) hk, by rw [List.length_set]; exact h1, by rw [List.length_set]; exact h2, fun j hj => ?_⟩⟩
      · rw [List.pairwise_iff_getElem] at hn ⊢
        intro a b ha hb hab
        have e1 : ∀ m (hm : m < (rs.set i ⟨rs[i].v, x'⟩).length), (rs.set i ⟨rs[i].v, x'⟩)[m].v = (rs[m]'(by simpa using hm)).v := by
          intro m hm
          simp only [List.getElem_set]
          split
          · rename_i q; subst q; rfl
          · rfl
        rw [e1 a ha, e1 b hb]
        exact hn a b _ _ hab
      · have hj' : j < rs.length := by simpa using hj
        by_cases q : i = j
        · subst q
          simp only [List.getElem_set_self]
          exact ⟨e, hs.own.weak (q := fun b => rs[i].v.blk = some b) (fun _ h => h) |>.weak fun b hb => ⟨(hs.blkp hb).1, hne b hb⟩⟩
        · rw [List.getElem_set_ne q]
          obtain ⟨ej, hj4⟩ := h3 j hj'
          refine ⟨ej, (hj4.own.kp (hx.weak (q := fun b => rs[j].v.blk = some b) fun b _ hb => ?_).kp).weak fun b hb => (hj4.blkp hb).1⟩
          rw [List.pairwise_iff_getElem] at hn
          rcases Nat.lt_or_gt_of_ne q with ql | ql
          · exact fun e => hn i j hi' hj' ql b e hb
          · exact fun e => hn j i hj' hi' ql b hb e
/-- a table of the call's own, as a result -/
structure TW where
  t : List (List Int)
instance : RV TW where
  rv p H v x := ∃ rs : List RW, rs.map (·.xs) = x.t ∧ rs.Pairwise (fun a b => Apart a.v b.v) ∧ ((v = .nils ∧ rs = []) ∨ ∃ b o c k, v = .s 1 b o rs.length c ∧ p b ∧ H[b]? = some (.cells k) ∧ o + rs.length ≤ k.length ∧ rs.length ≤ 9223372036854775807 ∧ ∀ (i : Nat) (h : i < rs.length), Rep.rep (fun b' => p b' ∧ b' ≠ b) H ((k.drop (o + i)).take 1) rs[i])
  mono := by
    rintro p q H H' v x ⟨rs, e, hn, h⟩ hk hq
    refine ⟨rs, e, hn, ?_⟩
    rcases h with h | ⟨b, o, c, k, rfl, hb, hk1, h1, h2, h3⟩
    · exact .inl h
    · exact .inr ⟨b, o, c, k, rfl, hq b hb, hk.2 b k hb hk1, h1, h2, fun i hi => Rep.mono (h3 i hi) (hk.weak fun _ h => h.1) fun b h => ⟨hq b h.1, h.2⟩⟩
  pure := by
    rintro p q H H' v x ⟨rs, e, hn, h⟩ hp
    rcases h with h | ⟨b, o, c, k, rfl, _⟩
    · exact ⟨rs, e, hn, .inl h⟩
    · simp [AV.pure] at hp
theorem TB.rv (h : TB L H v t) (hp : ∀ b, L ≤ b → p b) : RV.rv p H v (TW.mk t) := by
  obtain ⟨rs, e, hn, h⟩ := h
  refine ⟨rs, e, hn, ?_⟩
  rcases h with h | ⟨b, o, c, k, rfl, hb, hk1, h1, h2, h3⟩
  · exact .inl h
  · refine .inr ⟨b, o, c, k, rfl, hp b hb, hk1, by change o + rs.length * 1 ≤ _ at h1; simpa using h1, h2, fun i hi => ?_⟩
    have := h3 i hi
    change Rep.rep _ H ((k.drop (o + i * 1)).take 1) _ at this
    rw [Nat.mul_one] at this
    exact Rep.mono this (Kp.refl _ _) fun b h => ⟨hp b h.1, h.2⟩
theorem TB.of (h : RV.rv p H v (TW.mk t)) (hp : ∀ b, p b → L ≤ b) : TB L H v t := by
  obtain ⟨rs, e, hn, h⟩ := h
  refine ⟨rs, e, hn, ?_⟩
  rcases h with h | ⟨b, o, c, k, rfl, hb, hk1, h1, h2, h3⟩
  · exact .inl h
  · refine .inr ⟨b, o, c, k, rfl, hp b hb, hk1, by change o + rs.length * 1 ≤ _; simpa using h1, h2, fun i hi => ?_⟩
    change Rep.rep _ H ((k.drop (o + i * 1)).take 1) _
    rw [Nat.mul_one]
    exact Rep.mono (h3 i hi) (Kp.refl _ _) fun b h => ⟨hp b h.1, h.2⟩
end
section
variable {k : List AV} {o n i j : Nat}
end
end Go.AM
namespace Go.Proofs.YtjjndoigkhabdaaDoor
open Go Go.AM Go.Proofs
end Go.Proofs.YtjjndoigkhabdaaDoor
namespace Go.Proofs.YtjjndoigkhabdaaDoor
open Go Go.AM Go.Proofs
/-! ### Sums -/
theorem blk_small : ∀ x, x < 32 → (blkL x).all (fun y => decide (0 ≤ y ∧ y ≤ 5)) = true ∧ decide ((blkL x).length ≤ 5) = true := by decide +kernel
theorem clue_small {n : Int} {c : List Int} (h : ClueP n c) : (∀ y ∈ c, 0 ≤ y ∧ y ≤ 5) ∧ c.length ≤ 5 := by
  obtain ⟨m, rfl, m1, m5⟩ := h.1.nat
  have h1 := h.2
  rw [Int.toNat_natCast, ← linesN_len] at h1
  have hm := mem_gi (xs := linesN m c) (i := 0) h1
  have hl := linesN_lt hm
  have p5 := pow5 m5
  have hb : blkL (gi (linesN m c) ((0 : Nat) : Int)) = c := by simpa using (List.mem_filter.1 hm).2
  have hs := blk_small _ (show gi (linesN m c) ((0 : Nat) : Int) < 32 by omega)
  rw [hb] at hs
  exact ⟨fun y hy => by simpa using List.all_eq_true.1 hs.1 y hy, by simpa using hs.2⟩
/-- clues that are small -/
def SmallP (x : List (List Int)) : Prop := x.length ≤ 5 ∧ ∀ c ∈ x, (∀ y ∈ c, 0 ≤ y ∧ y ≤ 5) ∧ c.length ≤ 5
theorem PuzP.small {x y : List (List Int)} (h : PuzP x y) : SmallP x ∧ SmallP y :=
  ⟨⟨by have := h.1.2; omega, fun c hc => clue_small (h.2.2.1 c hc)⟩, ⟨by have := h.2.1.2; omega, fun c hc => clue_small (h.2.2.2 c hc)⟩⟩
theorem SmallP.take {x : List (List Int)} (h : SmallP x) (i : Nat) : SmallP (x.take i) := ⟨by rw [List.length_take]; have := h.1; omega, fun c hc => h.2 c (List.mem_of_mem_take hc)⟩
end Go.Proofs.YtjjndoigkhabdaaDoor
namespace Go.Proofs.YtjjndoigkhabdaaDoor
open Go Go.AM Go.Proofs
theorem pow32 {n : Nat} (h : n ≤ 5) : 2 ^ n ≤ 32 := (Nat.pow_le_pow_right (by omega) h : 2 ^ n ≤ 2 ^ 5)
end Go.Proofs.YtjjndoigkhabdaaDoor
namespace Go.Proofs.YtjjndoigkhabdaaDoor
open Go Go.AM Go.Proofs
abbrev KS := List (Nat × Nat)
def fK (K : KS) (i : Nat) : Nat := (gi K (i : Int)).1
def eK (K : KS) (i : Nat) : Nat := (gi K (i : Int)).2
def FK (K : KS) : List Nat := K.map Prod.fst
def EK (K : KS) : List Nat := K.map Prod.snd
structure WfK (h w : Nat) (K : KS) : Prop where
  len : K.length = h
  lt : ∀ i, i < h → fK K i < 2 ^ w ∧ eK K i < 2 ^ w
/-- bits of a lie in b -/
def SubB (a b : Nat) : Prop := ∀ c, a.testBit c = true → b.testBit c = true
theorem SubB.refl (a : Nat) : SubB a a := fun _ h => h
theorem SubB.trans {a b c : Nat} (h : SubB a b) (h' : SubB b c) : SubB a c := fun k q => h' k (h k q)
theorem SubB.le {a b : Nat} (h : SubB a b) : a ≤ b := by
  have : a &&& b = a := by
    apply Nat.eq_of_testBit_eq
    intro c
    rw [Nat.testBit_and]
    have := h c
    cases q1 : a.testBit c <;> simp_all
  rw [← this]
  exact Nat.and_le_right
def LeK (K L : KS) : Prop := ∀ i, SubB (fK K i) (fK L i) ∧ SubB (eK K i) (eK L i)
theorem LeK.refl (K : KS) : LeK K K := fun _ => ⟨SubB.refl _, SubB.refl _⟩
theorem LeK.trans {K L M : KS} (h : LeK K L) (h' : LeK L M) : LeK K M := fun i => ⟨(h i).1.trans (h' i).1, (h i).2.trans (h' i).2⟩
theorem gi_big {α : Type} [Inhabited α] {xs : List α} {i : Nat} (h : xs.length ≤ i) : gi xs (i : Int) = default := by
  unfold gi
  rw [Int.toNat_natCast, List.getD_eq_getElem?_getD, List.getElem?_eq_none h]; rfl
theorem FK_gi {K : KS} {i : Nat} : gi (FK K) (i : Int) = fK K i := by
  by_cases h : i < K.length
  · unfold fK
    rw [gi_nat h, gi_nat (by simpa [FK] using h)]
    simp [FK]
  · unfold fK
    rw [show gi K (i : Int) = default from gi_big (by omega)]
    exact gi_big (by unfold FK; rw [List.length_map]; omega)
theorem EK_gi {K : KS} {i : Nat} : gi (EK K) (i : Int) = eK K i := by
  by_cases h : i < K.length
  · unfold eK
    rw [gi_nat h, gi_nat (by simpa [EK] using h)]
    simp [EK]
  · unfold eK
    rw [show gi K (i : Int) = default from gi_big (by omega)]
    exact gi_big (by unfold EK; rw [List.length_map]; omega)
theorem FK_len {K : KS} : (FK K).length = K.length := by simp [FK]
theorem EK_len {K : KS} : (EK K).length = K.length := by simp [EK]
theorem colF_bit {K : KS} {c r : Nat} : (colN (FK K) c).testBit r = (decide (r < K.length) && (fK K r).testBit c) := by rw [colN_bit, FK_gi, FK_len]
theorem colE_bit {K : KS} {c r : Nat} : (colN (EK K) c).testBit r = (decide (r < K.length) && (eK K r).testBit c) := by rw [colN_bit, EK_gi, EK_len]
theorem colF_sub {K L : KS} (h : LeK K L) (hl : K.length = L.length) (c : Nat) : SubB (colN (FK K) c) (colN (FK L) c) := fun r hr => by
  rw [colF_bit, Bool.and_eq_true] at hr ⊢
  rw [← hl]
  exact ⟨hr.1, (h r).1 c hr.2⟩
theorem colE_sub {K L : KS} (h : LeK K L) (hl : K.length = L.length) (c : Nat) : SubB (colN (EK K) c) (colN (EK L) c) := fun r hr => by
  rw [colE_bit, Bool.and_eq_true] at hr ⊢
  rw [← hl]
  exact ⟨hr.1, (h r).2 c hr.2⟩
/-- all lines hold, and settle no more -/
def LC (xs ys : List (List Int)) (L : KS) : Prop :=
  (∀ i, i < xs.length → setS ys.length (gi xs (i : Int)) (fK L i) (eK L i) = (fK L i, eK L i, true)) ∧
  ∀ c, c < ys.length → setS xs.length (gi ys (c : Int)) (colN (FK L) c) (colN (EK L) c) = (colN (FK L) c, colN (EK L) c, true)
/-! ### One row, one column -/
theorem gi_set {α : Type} [Inhabited α] {xs : List α} {i : Nat} (hi : i < xs.length) (q : α) (j : Nat) : gi (xs.set i q) (j : Int) = if j = i then q else gi xs (j : Int) := by
  unfold gi
  rw [Int.toNat_natCast, List.getD_eq_getElem?_getD, List.getD_eq_getElem?_getD, List.getElem?_set]
  by_cases h : j = i
  · subst h; simp [hi]
  · rw [if_neg (by omega), if_neg h]
theorem fK_set {K : KS} {i : Nat} (hi : i < K.length) (q : Nat × Nat) (j : Nat) : fK (K.set i q) j = if j = i then q.1 else fK K j := by
  unfold fK; rw [gi_set hi]; split <;> rfl
theorem eK_set {K : KS} {i : Nat} (hi : i < K.length) (q : Nat × Nat) (j : Nat) : eK (K.set i q) j = if j = i then q.2 else eK K j := by
  unfold eK; rw [gi_set hi]; split <;> rfl
end Go.Proofs.YtjjndoigkhabdaaDoor
namespace Go.Proofs.YtjjndoigkhabdaaDoor
open Go Go.AM Go.Proofs
/-- what follows from the lines, so far -/
def MidL (xs ys : List (List Int)) (K C : KS) : Prop := WfK xs.length ys.length C ∧ LeK K C ∧ ∀ L, WfK xs.length ys.length L → LC xs ys L → LeK K L → LeK C L
theorem MidL.refl {xs ys : List (List Int)} {K : KS} (h : WfK xs.length ys.length K) : MidL xs ys K K := ⟨h, LeK.refl _, fun _ _ _ h => h⟩
theorem MidL.trans {xs ys : List (List Int)} {K C D : KS} (h : MidL xs ys K C) (h' : MidL xs ys C D) : MidL xs ys K D := ⟨h'.1, h.2.1.trans h'.2.1, fun L h1 h2 h3 => h'.2.2 L h1 h2 (h.2.2 L h1 h2 h3)⟩
/-- the rows before i have settled all that they settle at K -/
def RowsIn (xs ys : List (List Int)) (K C : KS) (i : Nat) : Prop := ∀ j, j < i → (setS ys.length (gi xs (j : Int)) (fK K j) (eK K j)).2.2 = true ∧ SubB (setS ys.length (gi xs (j : Int)) (fK K j) (eK K j)).1 (fK C j) ∧ SubB (setS ys.length (gi xs (j : Int)) (fK K j) (eK K j)).2.1 (eK C j)
def ColsIn (xs ys : List (List Int)) (K C : KS) (i : Nat) : Prop := ∀ j, j < i → (setS xs.length (gi ys (j : Int)) (colN (FK K) j) (colN (EK K) j)).2.2 = true ∧ SubB (setS xs.length (gi ys (j : Int)) (colN (FK K) j) (colN (EK K) j)).1 (colN (FK C) j) ∧ SubB (setS xs.length (gi ys (j : Int)) (colN (FK K) j) (colN (EK K) j)).2.1 (colN (EK C) j)
theorem RowsIn.mono {xs ys : List (List Int)} {K C D : KS} {i : Nat} (h : RowsIn xs ys K C i) (hd : LeK C D) : RowsIn xs ys K D i := fun j hj => ⟨(h j hj).1, (h j hj).2.1.trans (hd j).1, (h j hj).2.2.trans (hd j).2⟩
theorem ColsIn.mono {xs ys : List (List Int)} {K C D : KS} {i : Nat} (h : ColsIn xs ys K C i) (hd : LeK C D) (hl : C.length = D.length) : ColsIn xs ys K D i := fun j hj => ⟨(h j hj).1, (h j hj).2.1.trans (colF_sub hd hl j), (h j hj).2.2.trans (colE_sub hd hl j)⟩
section
variable {xs ys : List (List Int)} {K C : KS}
end
/-! ### How much is open yet -/
def openB (K : KS) (i c : Nat) : Prop := (fK K i).testBit c = false ∧ (eK K i).testBit c = false
def hasV (L : KS) (i c : Nat) (v : Bool) : Prop := if v then (fK L i).testBit c = true else (eK L i).testBit c = true
theorem LeK.has {K L : KS} (h : LeK K L) {i c : Nat} {v : Bool} (hv : hasV K i c v) : hasV L i c v := by
  unfold hasV at *
  cases v
  · exact (h i).2 c hv
  · exact (h i).1 c hv
theorem openB.not {K : KS} {i c : Nat} {v : Bool} (h : openB K i c) : ¬ hasV K i c v := by
  unfold hasV
  cases v
  · simp [h.2]
  · simp [h.1]
/-- closed: no line, and no supposing at a depth less, settles more -/
def Closed (xs ys : List (List Int)) : Nat → KS → Prop
  | 0, L => WfK xs.length ys.length L ∧ LC xs ys L
  | d + 1, L => WfK xs.length ys.length L ∧ LC xs ys L ∧ ∀ i c v, i < xs.length → c < ys.length → openB L i c → ∃ M, Closed xs ys d M ∧ LeK L M ∧ hasV M i c v
section
variable {xs ys : List (List Int)}
theorem Closed.wf : ∀ {d : Nat} {L : KS}, Closed xs ys d L → WfK xs.length ys.length L
  | 0, _, h => h.1
  | _ + 1, _, h => h.1
theorem Closed.lc : ∀ {d : Nat} {L : KS}, Closed xs ys d L → LC xs ys L
  | 0, _, h => h.2
  | _ + 1, _, h => h.2.1
def Mid (xs ys : List (List Int)) (d : Nat) (K C : KS) : Prop := WfK xs.length ys.length C ∧ LeK K C ∧ ∀ L, Closed xs ys d L → LeK K L → LeK C L
theorem Mid.lines {d : Nat} {K C D : KS} (h : Mid xs ys d K C) (h' : MidL xs ys C D) : Mid xs ys d K D := ⟨h'.1, h.2.1.trans h'.2.1, fun L h1 h2 => h'.2.2 L h1.wf h1.lc (h.2.2 L h1 h2)⟩
end
end Go.Proofs.YtjjndoigkhabdaaDoor
namespace Go.AM
open Go
def OAcc (p : Nat → Prop) (H : Heap) (u : AV) (xs : List (List Int)) : Prop :=
  (u = .nils ∧ xs = []) ∨ ∃ b o c k, u = .s 1 b o xs.length c ∧ p b ∧ H[b]? = some (.cells k) ∧ o + xs.length ≤ k.length ∧ xs.length ≤ 9223372036854775807 ∧ ∀ (i : Nat) (h : i < xs.length), Rep.rep (fun b' => p b' ∧ b' ≠ b) H ((k.drop (o + i)).take 1) xs[i]
theorem OAcc.of {L : Nat} {p q : Nat → Prop} {H : Heap} {u : AV} {xs : List (List Int)} (h : Acc L p H u xs) (hL : ∀ b, L ≤ b → q b) (hp : ∀ b, p b → q b) : OAcc q H u xs := by
  rcases h with h | ⟨b, o, c, k, rfl, hb, hk1, h1, h2, h3⟩
  · exact .inl h
  · refine .inr ⟨b, o, c, k, rfl, hL b hb, hk1, by change o + xs.length * 1 ≤ _ at h1; omega, h2, fun i hi => ?_⟩
    have := h3 i hi
    change Rep.rep _ H ((k.drop (o + i * 1)).take 1) _ at this
    rw [Nat.mul_one] at this
    exact Rep.mono this (Kp.refl _ _) fun b h => ⟨hp b h.1, h.2⟩
theorem OAcc.acc {L : Nat} {q : Nat → Prop} {H : Heap} {u : AV} {xs : List (List Int)} (h : OAcc q H u xs) (hL : ∀ b, q b → L ≤ b) : Acc L q H u xs := by
  rcases h with h | ⟨b, o, c, k, rfl, hb, hk1, h1, h2, h3⟩
  · exact .inl h
  · refine .inr ⟨b, o, c, k, rfl, hL b hb, hk1, by change o + xs.length * 1 ≤ _; omega, h2, fun i hi => ?_⟩
    change Rep.rep _ H ((k.drop (o + i * 1)).take 1) _
    rw [Nat.mul_one]
    exact h3 i hi
end Go.AM
namespace Go.Proofs.YtjjndoigkhabdaaDoor
open Go Go.AM Go.Proofs
/-- a slice of what is known, its block and its place -/
structure KB (v : AV) (kb o : Nat) (H : Heap) (K : KS) : Prop where
  v : ∃ c, v = .s 2 kb o K.length c
  k : ∃ k, H[kb]? = some (.cells k) ∧ o + 2 * K.length ≤ k.length ∧ ∀ i, i < K.length → k[o + 2 * i]? = some (.i (fK K i : Nat)) ∧ k[o + 2 * i + 1]? = some (.i (eK K i : Nat))
  b : K.length ≤ 1000
def pK (K : KS) : List (Int × Int) := K.map fun q => ((q.1 : Int), (q.2 : Int))
theorem pK_len {K : KS} : (pK K).length = K.length := by simp [pK]
theorem pK_gi {K : KS} {i : Nat} (h : i < K.length) : gi (pK K) (i : Int) = ((fK K i : Int), (eK K i : Int)) := by
  unfold fK eK
  rw [gi_nat h, gi_nat (by rw [pK_len]; exact h)]
  simp [pK]
section
variable {v : AV} {kb o lo : Nat} {H H' : Heap} {K : KS}
theorem KB.lt (h : KB v kb o H K) : kb < H.length := by
  obtain ⟨k, hk, _⟩ := h.k
  exact (List.getElem?_eq_some_iff.1 hk).1
theorem KB.kx {p : Nat → Prop} (h : KB v kb o H K) (hx : Kx p H H') (hp : p kb) : KB v kb o H' K := by
  obtain ⟨k, hk, h2⟩ := h.k
  exact ⟨h.v, ⟨k, hx.get hp hk, h2⟩, h.b⟩
theorem dt2 {α : Type} {l : List α} {n : Nat} {a b : α} (h1 : l[n]? = some a) (h2 : l[n + 1]? = some b) : (l.drop n).take 2 = [a, b] := by
  obtain ⟨hn, e1⟩ := List.getElem?_eq_some_iff.1 h1
  obtain ⟨hn2, e2⟩ := List.getElem?_eq_some_iff.1 h2
  rw [List.drop_eq_getElem_cons hn, List.drop_eq_getElem_cons hn2]
  simp [e1, e2]
theorem KB.T (h : KB v kb o H K) : lenV v = some (.i K.length) ∧ (∀ (kk : IntKind) (i : Nat), i < K.length → iaddrV 2 v (.int kk (i : Int)) = some (.p kb (o + 2 * i))) ∧ v.cells = [v] ∧ v.one = true ∧
    (∀ i, i < K.length → ld H kb (o + 2 * i) = some (.i (fK K i : Nat))) ∧ (∀ i, i < K.length → ld H kb (o + 2 * i + 1) = some (.i (eK K i : Nat))) ∧ (∀ i, i < K.length → ldn H kb (o + 2 * i) 2 = some [.i (fK K i : Nat), .i (eK K i : Nat)]) := by
  obtain ⟨⟨c, rfl⟩, ⟨k, hk, h1, h2⟩, hb⟩ := h
  refine ⟨rfl, fun kk i hi => ?_, rfl, rfl, fun i hi => ?_, fun i hi => ?_, fun i hi => ?_⟩
  · rw [zx178 (by omega) (by omega), Int.toNat_natCast, Nat.mul_comm]
  · rw [ld_of hk]; exact (h2 i hi).1
  · rw [ld_of hk]; exact (h2 i hi).2
  · rw [ldn_of hk, if_pos (by omega), dt2 (h2 i hi).1 (h2 i hi).2]
theorem KB.sl (h : KB v kb o H K) : Sl (fun b => b = kb) H v (pK K) := by
  obtain ⟨⟨c, rfl⟩, ⟨k, hk, h1, h2⟩, hb⟩ := h
  refine .inr ⟨kb, o, c, k, by rw [pK_len]; rfl, rfl, hk, ?_, by rw [pK_len]; omega, fun i hi => ?_⟩
  · change o + (pK K).length * 2 ≤ _
    rw [pK_len]; omega
  · rw [pK_len] at hi
    have e : (pK K)[i]'(by rw [pK_len]; exact hi) = ((fK K i : Int), (eK K i : Int)) := by rw [← pK_gi hi, gi_nat (by rw [pK_len]; exact hi)]
    rw [e]
    have e2 : (k.drop (o + i * 2)).take 2 = [.i (fK K i : Nat), .i (eK K i : Nat)] := by
      rw [Nat.mul_comm i 2]
      exact dt2 (h2 i hi).1 (h2 i hi).2
    exact ⟨[.i (fK K i : Nat)], [.i (eK K i : Nat)], e2, rfl, rfl⟩
theorem KB.of {p : Nat → Prop} (h : Sl p H v (pK K)) (hne : K ≠ []) (hb : K.length ≤ 1000) : ∃ kb o, p kb ∧ KB v kb o H K := by
  rcases h with ⟨_, e⟩ | ⟨b, o, c, k, rfl, h1, hk, h3, h4, h5⟩
  · exact absurd (List.map_eq_nil_iff.1 e) hne
  · change o + (pK K).length * 2 ≤ _ at h3
    rw [pK_len] at h3
    refine ⟨b, o, h1, ⟨c, by rw [pK_len]; rfl⟩, ⟨k, hk, by omega, fun i hi => ?_⟩, hb⟩
    have := h5 i (by rw [pK_len]; exact hi)
    have e : (pK K)[i]'(by rw [pK_len]; exact hi) = ((fK K i : Int), (eK K i : Int)) := by rw [← pK_gi hi, gi_nat (by rw [pK_len]; exact hi)]
    rw [e] at this
    obtain ⟨c1, c2, this, r1, r2⟩ := this
    change (k.drop (o + i * 2)).take 2 = _ at this
    change c1 = [.i (fK K i : Nat)] at r1
    change c2 = [.i (eK K i : Nat)] at r2
    rw [Nat.mul_comm i 2, r1, r2] at this
    have l1 : o + 2 * i < k.length := by omega
    have l2 : o + 2 * i + 1 < k.length := by omega
    rw [List.drop_eq_getElem_cons l1, List.drop_eq_getElem_cons l2] at this
    simp only [List.take_succ_cons, List.take_zero, List.cons.injEq, and_true, List.cons_append, List.nil_append] at this
    exact ⟨by rw [List.getElem?_eq_getElem l1, this.1], by rw [List.getElem?_eq_getElem l2, this.2]⟩
theorem KB.st1 (h : KB v kb o H K) (hlo : lo ≤ kb) {i : Nat} (hi : i < K.length) (x : Nat) : ∃ H', st lo H kb (o + 2 * i) [.i (x : Int)] = some H' ∧ H'.length = H.length ∧ Kx (fun b => b ≠ kb) H H' ∧ KB v kb o H' (K.set i (x, eK K i)) := by
  obtain ⟨hv, ⟨k, hk, h1, h2⟩, hb⟩ := h
  refine ⟨_, st_of hk hlo (by simp; omega), by simp, Kx.set _ _ _, by rwa [List.length_set], ⟨_, get_set hk, ?_, fun j hj => ?_⟩, by rwa [List.length_set]⟩
  · simp [wr]; exact h1
  · rw [List.length_set] at hj
    rw [fK_set hi, eK_set hi]
    simp only [wr]
    by_cases e : j = i
    · subst e
      rw [if_pos rfl, if_pos rfl, List.getElem?_set_self (by omega), List.getElem?_set_ne (by omega)]
      exact ⟨rfl, (h2 j hj).2⟩
    · rw [if_neg e, if_neg e, List.getElem?_set_ne (by omega), List.getElem?_set_ne (by omega)]
      exact h2 j hj
theorem KB.st2 (h : KB v kb o H K) (hlo : lo ≤ kb) {i : Nat} (hi : i < K.length) (x : Nat) : ∃ H', st lo H kb (o + 2 * i + 1) [.i (x : Int)] = some H' ∧ H'.length = H.length ∧ Kx (fun b => b ≠ kb) H H' ∧ KB v kb o H' (K.set i (fK K i, x)) := by
  obtain ⟨hv, ⟨k, hk, h1, h2⟩, hb⟩ := h
  refine ⟨_, st_of hk hlo (by simp; omega), by simp, Kx.set _ _ _, by rwa [List.length_set], ⟨_, get_set hk, ?_, fun j hj => ?_⟩, by rwa [List.length_set]⟩
  · simp [wr]; exact h1
  · rw [List.length_set] at hj
    rw [fK_set hi, eK_set hi]
    simp only [wr]
    by_cases e : j = i
    · subst e
      rw [if_pos rfl, if_pos rfl, List.getElem?_set_ne (by omega), List.getElem?_set_self (by omega)]
      exact ⟨(h2 j hj).1, rfl⟩
    · rw [if_neg e, if_neg e, List.getElem?_set_ne (by omega), List.getElem?_set_ne (by omega)]
      exact h2 j hj
end
end Go.Proofs.YtjjndoigkhabdaaDoor
namespace Go.Proofs.YtjjndoigkhabdaaDoor
open Go Go.AM Go.Proofs
/-- a board: its block, the Puzzle's block, what is known -/
structure Bd (L bp pp : Nat) (u w : AV) (xs ys : List (List Int)) (v : AV) (kb o : Nat) (H : Heap) (K : KS) : Prop where
  b : H[bp]? = some (.cells [.p pp 0, v])
  p : H[pp]? = some (.cells [u, w])
  x : Sl (fun b => b < L) H u xs
  y : Sl (fun b => b < L) H w ys
  k : KB v kb o H K
  hp : pp < L
  hb : L ≤ bp
  hk : L ≤ kb
  ne : bp ≠ kb
section
variable {L bp pp kb o lo : Nat} {u w v : AV} {xs ys : List (List Int)} {H H' : Heap} {K K' : KS}
theorem Bd.kx (h : Bd L bp pp u w xs ys v kb o H K) (hx : Kx (fun b => b < L ∨ b = bp ∨ b = kb) H H') : Bd L bp pp u w xs ys v kb o H' K :=
  ⟨hx.get (.inr (.inl rfl)) h.b, hx.get (.inl h.hp) h.p, h.x.kp (hx.weak fun b _ h => .inl h).kp, h.y.kp (hx.weak fun b _ h => .inl h).kp, h.k.kx hx (.inr (.inr rfl)), h.hp, h.hb, h.hk, h.ne⟩
theorem Bd.all (h : Bd L bp pp u w xs ys v kb o H K) (hx : Kx (fun _ => True) H H') : Bd L bp pp u w xs ys v kb o H' K := h.kx (hx.all _)
theorem Bd.upd (h : Bd L bp pp u w xs ys v kb o H K) (hx : Kx (fun b => b ≠ kb) H H') (hk : KB v kb o H' K') : Bd L bp pp u w xs ys v kb o H' K' :=
  ⟨hx.get h.ne h.b, hx.get (by have := h.hp; have := h.hk; omega) h.p, h.x.kp (hx.weak fun b _ q => by have := h.hk; omega).kp, h.y.kp (hx.weak fun b _ q => by have := h.hk; omega).kp, hk, h.hp, h.hb, h.hk, h.ne⟩
theorem Bd.lt (h : Bd L bp pp u w xs ys v kb o H K) : bp < H.length ∧ pp < H.length ∧ kb < H.length := ⟨(List.getElem?_eq_some_iff.1 h.b).1, (List.getElem?_eq_some_iff.1 h.p).1, h.k.lt⟩
end
end Go.Proofs.YtjjndoigkhabdaaDoor
namespace Go.Proofs.YtjjndoigkhabdaaDoor
open Go Go.AM Go.Proofs
def K0 (h : Nat) : KS := List.replicate h (0, 0)
theorem Bd.kp {L bp pp kb o : Nat} {u w v : AV} {xs ys : List (List Int)} {H H' : Heap} {K : KS} (h : Bd L bp pp u w xs ys v kb o H K) (hx : Kp (fun _ => True) H H') : Bd L bp pp u w xs ys v kb o H' K :=
  ⟨hx.2 _ _ trivial h.b, hx.2 _ _ trivial h.p, h.x.kp (hx.weak fun _ _ => trivial), h.y.kp (hx.weak fun _ _ => trivial), ⟨h.k.v, by
    obtain ⟨k, hk, h2⟩ := h.k.k
    exact ⟨k, hx.2 _ _ trivial hk, h2⟩, h.k.b⟩, h.hp, h.hb, h.hk, h.ne⟩
end Go.Proofs.YtjjndoigkhabdaaDoor
namespace Go.Proofs.YtjjndoigkhabdaaDoor
open Go Go.AM Go.Proofs
/-- a slice of sets, its block and its place -/
structure IB (v : AV) (b o : Nat) (H : Heap) (P : List Nat) : Prop where
  v : ∃ c, v = .s 1 b o P.length c
  k : ∃ k, H[b]? = some (.cells k) ∧ o + P.length ≤ k.length ∧ ∀ i, i < P.length → k[o + i]? = some (.i (gi P (i : Int) : Nat))
  b : P.length ≤ 1000
section
variable {v : AV} {b o lo : Nat} {H H' : Heap} {P : List Nat}
theorem IB.lt (h : IB v b o H P) : b < H.length := by
  obtain ⟨k, hk, _⟩ := h.k
  exact (List.getElem?_eq_some_iff.1 hk).1
theorem IB.kp {p : Nat → Prop} (h : IB v b o H P) (hx : Kp p H H') (hp : p b) : IB v b o H' P := by
  obtain ⟨k, hk, h2⟩ := h.k
  exact ⟨h.v, ⟨k, hx.2 _ _ hp hk, h2⟩, h.b⟩
theorem IB.T (h : IB v b o H P) : lenV v = some (.i P.length) ∧ (∀ (kk : IntKind) (i : Nat), i < P.length → iaddrV 1 v (.int kk (i : Int)) = some (.p b (o + i))) ∧ v.cells = [v] ∧ v.one = true ∧
    (∀ i, i < P.length → ld H b (o + i) = some (.i (gi P (i : Int) : Nat))) := by
  obtain ⟨⟨c, rfl⟩, ⟨k, hk, h1, h2⟩, hb⟩ := h
  refine ⟨rfl, fun kk i hi => ?_, rfl, rfl, fun i hi => ?_⟩
  · rw [zx178 (by omega) (by omega), Int.toNat_natCast, Nat.mul_one]
  · rw [ld_of hk]; exact h2 i hi
theorem IB.sl (h : IB v b o H P) : Sl (fun b' => b' = b) H v (nL P) := by
  obtain ⟨⟨c, rfl⟩, ⟨k, hk, h1, h2⟩, hb⟩ := h
  refine .inr ⟨b, o, c, k, by rw [nL_len]; rfl, rfl, hk, ?_, by rw [nL_len]; omega, fun i hi => ?_⟩
  · change o + (nL P).length * 1 ≤ _
    rw [nL_len]; omega
  · rw [nL_len] at hi
    have e : (nL P)[i]'(by rw [nL_len]; exact hi) = (gi P (i : Int) : Nat) := by rw [← nL_gi hi, gi_nat (by rw [nL_len]; exact hi)]
    rw [e]
    change (k.drop (o + i * 1)).take 1 = [.i (gi P (i : Int) : Nat)]
    rw [Nat.mul_one, List.take_one, List.head?_drop, h2 i hi]; rfl
theorem IB.of {p : Nat → Prop} (h : Sl p H v (nL P)) (hne : P ≠ []) (hb : P.length ≤ 1000) : ∃ b o, p b ∧ IB v b o H P := by
  rcases h with ⟨_, e⟩ | ⟨b, o, c, k, rfl, h1, hk, h3, h4, h5⟩
  · exact absurd (List.map_eq_nil_iff.1 e) hne
  · change o + (nL P).length * 1 ≤ _ at h3
    rw [nL_len] at h3
    refine ⟨b, o, h1, ⟨c, by rw [nL_len]; rfl⟩, ⟨k, hk, by omega, fun i hi => ?_⟩, hb⟩
    have := h5 i (by rw [nL_len]; exact hi)
    have e : (nL P)[i]'(by rw [nL_len]; exact hi) = (gi P (i : Int) : Nat) := by rw [← nL_gi hi, gi_nat (by rw [nL_len]; exact hi)]
    rw [e] at this
    change (k.drop (o + i * 1)).take 1 = [.i (gi P (i : Int) : Nat)] at this
    rw [Nat.mul_one] at this
    exact take1 this
theorem IB.st (h : IB v b o H P) (hlo : lo ≤ b) {i : Nat} (hi : i < P.length) (x : Nat) : ∃ H', st lo H b (o + i) [.i (x : Int)] = some H' ∧ H'.length = H.length ∧ Kx (fun b' => b' ≠ b) H H' ∧ IB v b o H' (P.set i x) := by
  obtain ⟨hv, ⟨k, hk, h1, h2⟩, hb⟩ := h
  refine ⟨_, st_of hk hlo (by simp; omega), by simp, Kx.set _ _ _, by rwa [List.length_set], ⟨_, get_set hk, ?_, fun j hj => ?_⟩, by rwa [List.length_set]⟩
  · simp [wr]; exact h1
  · rw [List.length_set] at hj
    rw [gi_set hi]
    simp only [wr]
    by_cases e : j = i
    · subst e
      rw [if_pos rfl, List.getElem?_set_self (by omega)]
    · rw [if_neg e, List.getElem?_set_ne (by omega)]
      exact h2 j hj
end
/-- what is known, as two slices apart -/
structure Rd (w1 w2 : AV) (b1 o1 b2 o2 : Nat) (H : Heap) (K : KS) : Prop where
  i1 : IB w1 b1 o1 H (FK K)
  i2 : IB w2 b2 o2 H (EK K)
  ne : b1 ≠ b2
theorem Rd.kp {w1 w2 : AV} {b1 o1 b2 o2 : Nat} {H H' : Heap} {K : KS} {p : Nat → Prop} (h : Rd w1 w2 b1 o1 b2 o2 H K) (hx : Kp p H H') (h1 : p b1) (h2 : p b2) : Rd w1 w2 b1 o1 b2 o2 H' K := ⟨h.i1.kp hx h1, h.i2.kp hx h2, h.ne⟩
theorem Rd.all {w1 w2 : AV} {b1 o1 b2 o2 : Nat} {H H' : Heap} {K : KS} (h : Rd w1 w2 b1 o1 b2 o2 H K) (hx : Kx (fun _ => True) H H') : Rd w1 w2 b1 o1 b2 o2 H' K := h.kp hx.kp trivial trivial
/-- a struct of two slices that holds K, laid behind L -/
def RdV (L : Nat) (r : AV) (H : Heap) (K : KS) : Prop := ∃ w1 w2 b1 o1 b2 o2, r = .ag [w1, w2] ∧ Rd w1 w2 b1 o1 b2 o2 H K ∧ L ≤ b1 ∧ L ≤ b2
theorem RdV.pure {L : Nat} {r : AV} {H : Heap} {K : KS} (h : RdV L r H K) : r.pure = false := by
  obtain ⟨w1, w2, b1, o1, b2, o2, rfl, hr, _⟩ := h
  obtain ⟨c, rfl⟩ := hr.i1.v
  rfl
theorem RdV.kp {L : Nat} {r : AV} {H H' : Heap} {K : KS} (h : RdV L r H K) (hk : Kp (fun _ => True) H H') : RdV L r H' K := by
  obtain ⟨w1, w2, b1, o1, b2, o2, e, hr, h1, h2⟩ := h
  exact ⟨w1, w2, b1, o1, b2, o2, e, hr.kp hk trivial trivial, h1, h2⟩
theorem IB.zero {H' : Heap} {n b : Nat} {P : List Nat} (hl : P.length = n) (hz : ∀ i : Nat, i < n → gi P (i : Int) = 0) (h2 : H'[b]? = some (.cells (reps n [.i 0]))) (h3 : n ≤ 1000) : IB (.s 1 b 0 n (some n)) b 0 H' P := by
  refine ⟨⟨some n, by rw [hl]⟩, ⟨_, h2, by rw [reps_z, hl]; simp, fun i hi => ?_⟩, by omega⟩
  rw [hl] at hi
  rw [reps_z, hz i hi, List.getElem?_replicate, Nat.zero_add, if_pos hi]
  rfl
end Go.Proofs.YtjjndoigkhabdaaDoor
namespace Go.AM
open Go
section
variable {E : Tab} {lo : Nat} {y : AV} {B : Nat} {X : Type} {A : (Nat → Prop) → Heap → List AV → X → Prop}
/-- the items are told one by one: K are the caller's blocks; what is older than B, and they, are kept between rounds; a round keeps what is not the caller's -/
def ItJ (E : Tab) (lo : Nat) (y : AV) (B : Nat) (A : (Nat → Prop) → Heap → List AV → X → Prop) (J : Heap → Prop) (Q : Bool → (Nat → Prop) → Heap → Prop) : List X → (Nat → Prop) → Heap → Prop
  | [], K, H => ∀ H1, Kx (fun b => b < B ∨ K b) H H1 → Q true K H1
  | x :: xs, K, H => ∀ H1 Ki args, Kx (fun b => b < B ∨ K b) H H1 → A Ki H1 args x → (∀ b, Ki b → B ≤ b ∧ b < H1.length ∧ ¬ K b) →
      WpV E lo y args H1 fun v H2 => Kx (fun b => ¬ (K b ∨ Ki b)) H1 H2 ∧
        ((v = .b true ∧ J H2 ∧ ItJ E lo y B A J Q xs (Kn K Ki H1 H2) H2) ∨ (v = .b false ∧ ∀ H3, Kx (fun b => b < B ∨ Kn K Ki H1 H2 b) H2 H3 → Q false (Kn K Ki H1 H2) H3))
theorem ItJ.keep {J : Heap → Prop} {Q : Bool → (Nat → Prop) → Heap → Prop} {xs : List X} {K : Nat → Prop} {H H1 : Heap} (h : ItJ E lo y B A J Q xs K H) (hk : Kx (fun b => b < B ∨ K b) H H1) : ItJ E lo y B A J Q xs K H1 := by
  cases xs with
  | nil => exact fun H2 h2 => h H2 (hk.trans h2 fun _ _ h => h)
  | cons x xs => exact fun H2 Ki args h2 => h H2 Ki args (hk.trans h2 fun _ _ h => h)
end
section
variable {E : Tab} {lo : Nat} {rd : Option Nat} {k : List AI} {a : Fr} {H : Heap} {Q : Out → Fr → Heap → Prop}
end
end Go.AM
namespace Go.Proofs.YtjjndoigkhabdaaDoor
open Go Go.AM Go.Proofs
instance (K : KS) (i c : Nat) : Decidable (openB K i c) := by unfold openB; infer_instance
end Go.Proofs.YtjjndoigkhabdaaDoor
namespace Go.Proofs.YtjjndoigkhabdaaDoor
open Go Go.AM Go.Proofs
/-- states of one Puzzle, as states of another -/
structure Sy (xs ys xs' ys' : List (List Int)) (φ : KS → KS) : Prop where
  wf : ∀ L, WfK xs.length ys.length L → WfK xs'.length ys'.length (φ L)
  lc : ∀ L, WfK xs.length ys.length L → LC xs ys L → LC xs' ys' (φ L)
  le : ∀ L M, WfK xs.length ys.length L → WfK xs.length ys.length M → LeK L M → LeK (φ L) (φ M)
  sq : ∀ i' c', i' < xs'.length → c' < ys'.length → ∃ i c, i < xs.length ∧ c < ys.length ∧ ∀ L, WfK xs.length ys.length L → ∀ v, (hasV (φ L) i' c' v ↔ hasV L i c v)
theorem openB_has {K : KS} {i c : Nat} : openB K i c ↔ ∀ v, ¬ hasV K i c v := by
  unfold openB hasV
  constructor
  · rintro ⟨h1, h2⟩ v
    cases v
    · simp [h2]
    · simp [h1]
  · intro h
    have h1 := h true
    have h2 := h false
    simp only [if_true, Bool.false_eq_true, if_false, Bool.not_eq_true] at h1 h2
    exact ⟨h1, h2⟩
section
variable {xs ys xs' ys' : List (List Int)} {φ ψ : KS → KS}
theorem Sy.op (h : Sy xs ys xs' ys' φ) {i' c' : Nat} (hi : i' < xs'.length) (hc : c' < ys'.length) : ∃ i c, i < xs.length ∧ c < ys.length ∧ (∀ L, WfK xs.length ys.length L → ∀ v, (hasV (φ L) i' c' v ↔ hasV L i c v)) ∧ ∀ L, WfK xs.length ys.length L → (openB (φ L) i' c' ↔ openB L i c) := by
  obtain ⟨i, c, h1, h2, h3⟩ := h.sq i' c' hi hc
  refine ⟨i, c, h1, h2, h3, fun L hL => ?_⟩
  rw [openB_has, openB_has]
  exact forall_congr' fun v => not_congr (h3 L hL v)
theorem Sy.closed (h : Sy xs ys xs' ys' φ) : ∀ {d : Nat} {L : KS}, Closed xs ys d L → Closed xs' ys' d (φ L)
  | 0, L, hL => ⟨h.wf L hL.1, h.lc L hL.1 hL.2⟩
  | d + 1, L, hL => ⟨h.wf L hL.1, h.lc L hL.1 hL.2.1, fun i' c' v hi hc ho => by
    obtain ⟨i, c, h1, h2, h3, h4⟩ := h.op hi hc
    obtain ⟨M, hM, hle, hv⟩ := hL.2.2 i c v h1 h2 ((h4 L hL.1).1 ho)
    exact ⟨φ M, h.closed hM, h.le L M hL.1 hM.wf hle, (h3 M hM.wf v).2 hv⟩⟩
theorem nodup_len {α : Type} [BEq α] [LawfulBEq α] : ∀ {l l' : List α}, l.Nodup → (∀ x ∈ l, x ∈ l') → l.length ≤ l'.length
  | [], _, _, _ => by simp
  | x :: l, l', hn, hs => by
    have hx := hs x (by simp)
    have h1 := nodup_len (l' := l'.erase x) (List.nodup_cons.1 hn).2 fun y hy => by
      have hne : y ≠ x := fun e => (List.nodup_cons.1 hn).1 (e ▸ hy)
      exact (List.mem_erase_of_ne hne).2 (hs y (by simp [hy]))
    have h2 := List.length_erase_of_mem hx
    have h3 := List.length_pos_of_mem hx
    simp only [List.length_cons]
    omega
theorem sols_nodup : (sols xs ys).Nodup := by
  have ho := solR_order (y := ys) (rest := xs) (P := [])
  change (sols xs ys).Pairwise _ at ho
  refine ho.imp fun {a b} h e => ?_
  rw [e, cmpL_refl] at h
  omega
end
/-! ### Turned over -/
end Go.Proofs.YtjjndoigkhabdaaDoor
namespace Go.Proofs.YtjjndoigkhabdaaDoor
open Go Go.AM Go.Proofs
/-- a Puzzle in a block -/
structure Pz (H : Heap) (b : Nat) (u w : AV) (x y : List (List Int)) : Prop where
  c : H[b]? = some (.cells [u, w])
  x : Sl (fun _ => True) H u x
  y : Sl (fun _ => True) H w y
theorem Pz.kx {H H' : Heap} {b : Nat} {u w : AV} {x y : List (List Int)} (h : Pz H b u w x y) (hx : Kx (fun _ => True) H H') : Pz H' b u w x y := ⟨hx.get trivial h.c, h.x.kp hx.kp, h.y.kp hx.kp⟩
end Go.Proofs.YtjjndoigkhabdaaDoor
namespace Go.Proofs.YtjjndoigkhabdaaDoor
open Go Go.AM Go.Proofs
abbrev Puz := List (List Int) × List (List Int)
def picR (w h b : Nat) : List Nat := (List.range h).map fun i => (b >>> (w * i)) &&& (2 ^ w - 1)
theorem picR_len {w h b : Nat} : (picR w h b).length = h := by simp [picR]
theorem picR_gi {w h b i : Nat} (hi : i < h) : gi (picR w h b) (i : Int) = (b >>> (w * i)) &&& (2 ^ w - 1) := by
  rw [gi_nat (by rw [picR_len]; exact hi)]
  simp [picR]
theorem picR_lt {w h b : Nat} : ∀ x ∈ picR w h b, x < 2 ^ w := by
  intro x hx
  obtain ⟨i, _, rfl⟩ := List.mem_map.1 hx
  have h1 : (b >>> (w * i)) &&& (2 ^ w - 1) ≤ 2 ^ w - 1 := Nat.and_le_right
  have h2 := Nat.two_pow_pos w
  omega
theorem picR_bit {w h b i c : Nat} (hi : i < h) : (gi (picR w h b) (i : Int)).testBit c = (decide (c < w) && b.testBit (w * i + c)) := by
  rw [picR_gi hi, Nat.testBit_and, Nat.testBit_shiftRight, all_bit, Bool.and_comm]
def encR (w h : Nat) (S : List Nat) : Nat := colN ((List.range (w * h)).map fun k => ((gi S ((k / w : Nat) : Int)).testBit (k % w)).toNat) 0
theorem encR_bit {w h : Nat} {S : List Nat} {k : Nat} : (encR w h S).testBit k = (decide (k < w * h) && (gi S ((k / w : Nat) : Int)).testBit (k % w)) := by
  unfold encR
  rw [colN_bit, List.length_map, List.length_range]
  by_cases hc : k < w * h
  · rw [decide_eq_true hc, gi_nat (by simpa using hc)]
    simp only [List.getElem_map, List.getElem_range, Bool.true_and]
    cases (gi S ((k / w : Nat) : Int)).testBit (k % w) <;> rfl
  · rw [decide_eq_false hc]; rfl
theorem encR_lt {w h : Nat} {S : List Nat} : encR w h S < 2 ^ (w * h) := by
  have := colN_lt ((List.range (w * h)).map fun k => ((gi S ((k / w : Nat) : Int)).testBit (k % w)).toNat) 0
  rwa [List.length_map, List.length_range] at this
theorem pic_enc {w h : Nat} (w1 : 1 ≤ w) {S : List Nat} (hl : S.length = h) (hS : ∀ x ∈ S, x < 2 ^ w) : picR w h (encR w h S) = S := by
  apply gi_ext (by rw [picR_len, hl])
  intro i hi
  rw [picR_len] at hi
  apply Nat.eq_of_testBit_eq
  intro c
  rw [picR_bit hi, encR_bit]
  by_cases hc : c < w
  · have e1 : (w * i + c) / w = i := by rw [Nat.mul_add_div (by omega), Nat.div_eq_of_lt hc, Nat.add_zero]
    have e2 : (w * i + c) % w = c := by rw [Nat.mul_add_mod, Nat.mod_eq_of_lt hc]
    have e3 : w * i + c < w * h := by
      have : w * (i + 1) ≤ w * h := Nat.mul_le_mul_left _ (by omega)
      rw [Nat.mul_add, Nat.mul_one] at this
      omega
    rw [e1, e2, decide_eq_true hc, decide_eq_true e3]; simp
  · rw [decide_eq_false hc, Bool.false_and]
    exact (Nat.testBit_lt_two_pow (Nat.lt_of_lt_of_le (hS _ (mem_gi (by omega))) (Nat.pow_le_pow_right (by omega) (by omega)))).symm
theorem pic_inj {w h b b' : Nat} (w1 : 1 ≤ w) (hb : b < 2 ^ (w * h)) (hb' : b' < 2 ^ (w * h)) (e : picR w h b = picR w h b') : b = b' := by
  apply Nat.eq_of_testBit_eq
  intro k
  by_cases hk : k < w * h
  · have hi : k / w < h := Nat.div_lt_of_lt_mul hk
    have hm : k % w < w := Nat.mod_lt _ (by omega)
    have h1 := picR_bit (w := w) (b := b) (c := k % w) hi
    have h2 := picR_bit (w := w) (b := b') (c := k % w) hi
    rw [e, h2, decide_eq_true hm, Bool.true_and, Bool.true_and, Nat.div_add_mod] at h1
    exact h1.symm
  · rw [Nat.testBit_lt_two_pow (Nat.lt_of_lt_of_le hb (Nat.pow_le_pow_right (by omega) (by omega))), Nat.testBit_lt_two_pow (Nat.lt_of_lt_of_le hb' (Nat.pow_le_pow_right (by omega) (by omega)))]
/-- the Puzzle of a picture -/
def clB (w h b : Nat) : Puz := cluesL w (picR w h b)
def isF (w h b : Nat) : Bool := decide (solF (clB w h b).1 (clB w h b).2 = nL (picR w h b))
def idxB (w h n : Nat) : List Nat := (List.range n).filter (isF w h)
def puzB (w h n : Nat) : List Puz := (idxB w h n).map (clB w h)
def tot (l : List Puz) : Nat := (l.map fun q => (sols q.1 q.2).length).sum
theorem puzB_s {w h n : Nat} : puzB w h (n + 1) = puzB w h n ++ if isF w h n then [clB w h n] else [] := by
  unfold puzB idxB
  rw [List.range_succ, List.filter_append, List.map_append]
  congr 1
  cases h : isF w h n <;> simp [h]
theorem tot_s {l : List Puz} {i : Nat} (h : i < l.length) : tot (l.take (i + 1)) = tot (l.take i) + (sols (gi l (i : Int)).1 (gi l (i : Int)).2).length := by
  unfold tot
  rw [take_gi h]
  simp
theorem tot_le {l : List Puz} {i : Nat} : tot (l.take i) ≤ tot l := by
  unfold tot
  conv => rhs; rw [← List.take_append_drop i l]
  rw [List.map_append, List.sum_append]
  omega
theorem nLinj {P Q : List Nat} (h : nL P = nL Q) : P = Q := List.map_inj_right (fun x y h => Int.ofNat.inj h) |>.1 h
theorem puzB_new {w h n : Nat} (w1 : 1 ≤ w) (hn : n < 2 ^ (w * h)) (hf : isF w h n = true) : ∀ q ∈ puzB w h n, q ≠ clB w h n := by
  rintro q hq rfl
  obtain ⟨b, hb, e⟩ := List.mem_map.1 hq
  obtain ⟨h1, h2⟩ := List.mem_filter.1 hb
  have h1 := List.mem_range.1 h1
  have f1 := of_decide_eq_true h2
  have f2 := of_decide_eq_true hf
  rw [e, f2] at f1
  have := pic_inj w1 hn (by omega) (nLinj f1)
  omega
section
variable {w h : Nat} (w1 : 1 ≤ w) (w5 : w ≤ 5) (h1 : 1 ≤ h) (h5 : h ≤ 5)
include w1 w5 h1 h5
theorem clB_puz (b : Nat) : PuzP (clB w h b).1 (clB w h b).2 := cluesL_puz w1 w5 (by rw [picR_len]; exact h1) (by rw [picR_len]; exact h5) picR_lt
omit w1 w5 h1 h5 in
theorem clB_has (b : Nat) : picR w h b ∈ sols (clB w h b).1 (clB w h b).2 := cluesL_has picR_lt
omit w1 w5 h1 h5 in
theorem clB_len (b : Nat) : (clB w h b).1.length = h ∧ (clB w h b).2.length = w := by simp [clB, cluesL, picR_len]
omit w5 h1 h5 in
/-- a solution is a picture, of the same Puzzle -/
theorem clB_sol {b : Nat} {S : List Nat} (hS : S ∈ sols (clB w h b).1 (clB w h b).2) : ∃ c, c < 2 ^ (w * h) ∧ S = picR w h c ∧ clB w h c = clB w h b := by
  have e := cluesL_of hS
  have hl := (mem_sols.1 hS).1
  have hr := sol_rows hS
  rw [(clB_len b).2] at e hr
  rw [(clB_len b).1] at hl
  have hp := pic_enc w1 hl hr
  exact ⟨encR w h S, encR_lt, hp.symm, by unfold clB at *; rw [hp]; exact e⟩
omit w5 h1 h5 in
theorem tot_all : tot (puzB w h (2 ^ (w * h))) = 2 ^ (w * h) := by
  have e : tot (puzB w h (2 ^ (w * h))) = ((idxB w h (2 ^ (w * h))).flatMap fun b => sols (clB w h b).1 (clB w h b).2).length := by
    unfold tot puzB
    rw [List.length_flatMap, List.map_map]
    rfl
  have hmem : ∀ b, b ∈ idxB w h (2 ^ (w * h)) → b < 2 ^ (w * h) ∧ solF (clB w h b).1 (clB w h b).2 = nL (picR w h b) := fun b hb => by
    obtain ⟨q1, q2⟩ := List.mem_filter.1 hb
    exact ⟨List.mem_range.1 q1, of_decide_eq_true q2⟩
  have hnd : ((idxB w h (2 ^ (w * h))).flatMap fun b => sols (clB w h b).1 (clB w h b).2).Nodup := by
    rw [List.nodup_iff_pairwise_ne, List.pairwise_flatMap]
    refine ⟨fun b _ => List.nodup_iff_pairwise_ne.1 sols_nodup, ?_⟩
    have hr : (idxB w h (2 ^ (w * h))).Pairwise (· < ·) := List.Pairwise.filter _ List.pairwise_lt_range
    refine hr.imp_of_mem fun {a b} ha hb hab S hS T hT e => ?_
    subst e
    obtain ⟨c, _, e1, e2⟩ := clB_sol w1 hS
    obtain ⟨c', hc', e3, e4⟩ := clB_sol w1 hT
    have q1 := (hmem a ha).2
    have q2 := (hmem b hb).2
    have ec : clB w h c = clB w h c' := by unfold clB; rw [← e1, ← e3]
    rw [← e2, ec, e4, q2] at q1
    have := pic_inj w1 (hmem b hb).1 (hmem a ha).1 (nLinj q1)
    omega
  have hnp : ((List.range (2 ^ (w * h))).map (picR w h)).Nodup := by
    rw [List.nodup_iff_pairwise_ne, List.pairwise_map]
    refine (List.pairwise_lt_range (n := 2 ^ (w * h))).imp_of_mem fun {a b} ha hb hab e => ?_
    have := pic_inj w1 (List.mem_range.1 ha) (List.mem_range.1 hb) e
    omega
  have l1 := nodup_len hnd (l' := (List.range (2 ^ (w * h))).map (picR w h)) fun S hS => by
    obtain ⟨b, _, hS⟩ := List.mem_flatMap.1 hS
    obtain ⟨c, hc, e1, _⟩ := clB_sol w1 hS
    exact List.mem_map.2 ⟨c, List.mem_range.2 hc, e1.symm⟩
  have l2 := nodup_len hnp (l' := (idxB w h (2 ^ (w * h))).flatMap fun b => sols (clB w h b).1 (clB w h b).2) fun S hS => by
    obtain ⟨b, hb, rfl⟩ := List.mem_map.1 hS
    obtain ⟨F, hF, eF, -⟩ := first_le (clB_has (w := w) (h := h) b)
    obtain ⟨c, hc, e1, e2⟩ := clB_sol w1 hF
    refine List.mem_flatMap.2 ⟨c, List.mem_filter.2 ⟨List.mem_range.2 hc, decide_eq_true ?_⟩, ?_⟩
    · rw [e2, eF, e1]
    · rw [e2]; exact clB_has b
  rw [List.length_map, List.length_range] at l1 l2
  omega
end
end Go.Proofs.YtjjndoigkhabdaaDoor
namespace Go.Proofs.YtjjndoigkhabdaaDoor
open Go Go.AM Go.Proofs
/-- an element of a slice of Puzzles -/
theorem Sl.P {p : Nat → Prop} {H : Heap} {v : AV} {qs : List Puz} (h : Sl p H v qs) {i : Nat} (hi : i < qs.length) : lenV v = some (.i qs.length) ∧ iaddrV 2 v (.i (i : Int)) = some (v.at 2 i) ∧ ∃ u w, ldA H (some 2) (v.at 2 i) = some (.ag [u, w]) ∧ Sl p H u (gi qs (i : Int)).1 ∧ Sl p H w (gi qs (i : Int)).2 := by
  refine ⟨h.lenV, h.iaddr (by omega) (by omega), ?_⟩
  obtain ⟨e1, e2⟩ := h.ld_n (k := (i : Int)) (by omega) (by omega)
  obtain ⟨u, w, e, h1, h2⟩ := rep_pp_elim e2
  refine ⟨u, w, ?_, h1, h2⟩
  change ldA H (some 2) (v.at 2 i) = _ at e1
  rw [e1, e]
theorem Acc.pushP {L lo n : Nat} {p q : Nat → Prop} {H : Heap} {v u w : AV} {qs : List Puz} {x : Puz} {Q : AV × Heap → Prop} (h : Acc L p H v qs) (hlo : lo ≤ L) (hL : L ≤ H.length) (hu : Sl q H u x.1) (hw : Sl q H w x.2) (hq : ∀ b, q b → p b ∧ v.blk ≠ some b) (hb : (qs.length + 1) * 48 ≤ 1099511627776)
    (go : ∀ v' H', Acc L p H' v' (qs ++ [x]) → Kp (fun b => v.blk ≠ some b) H H' → H.length < H'.length → v'.blk = some (H'.length - 1) → Q (v', H')) (hn : n = H.length) :
    @optP _ (appendV lo 2 48 v (.s 2 n 0 1 (some 1)) (H ++ [.cells [u, w]])) ⟨Q⟩ := by
  subst hn
  exact Acc.push1 (q := q) (cs := [u, w]) (x := x) h hlo hL ⟨[u], [w], rfl, ⟨u, rfl, hu⟩, ⟨w, rfl, hw⟩⟩ hq hb (by omega) go
theorem cnt1_ret {p q : Nat → Prop} {H : Heap} {u w u2 w2 : AV} {x y x2 y2 : List (List Int)} {b : Nat} (hx : Sl p H u x) (hy : Sl p H w y) (g : H[b]? = some (.cells [u2, w2])) (hx2 : Sl q H u2 x2) (hy2 : Sl q H w2 y2) : RetP E 51 [.ag [u, w], .p b 0] H (.b (decide (x = x2 ∧ y = y2))) := by
  refine RetP.ro rfl fn51 rfl rfl ?_
  unfold f51A
  have vu := hx.cellsV
  have vw := hy.cellsV
  have x1 : Kx (fun _ => True) H (H ++ [Blk.cells [u, w]]) := Kx.app _ _ _
  have g1 := x1.get trivial g
  have g0 : (H ++ [Blk.cells [u, w]])[H.length]? = some (.cells [u, w]) := get_last
  have hx1 := hx.app [Blk.cells [u, w]]
  have hy1 := hy.app [Blk.cells [u, w]]
  have h2 := hx2.app [Blk.cells [u, w]]
  have h3 := hy2.app [Blk.cells [u, w]]
  have hb : b < H.length := (List.getElem?_eq_some_iff.1 g).1
  simp (disch := (first | assumption | omega | (simp only [List.length_append, List.length_cons, List.length_nil]; omega))) only [↓wD,wU,Nat.reduceBEq,zx150,zx151,zx159,zx160,zx161,zx162,Nat.reduceAdd,Nat.reduceSub,Nat.reduceMul,Nat.reduceLeDiff,Nat.reduceLT,Nat.reduceEqDiff,Int.reduceAdd,Int.reduceSub,Int.reduceMul,Int.reduceNeg,Int.reduceLT,Int.reduceLE,Int.reduceEq,Int.reduceToNat,Int.cast_ofNat_Int,↓reduceIte, vu, vw, ldn_of g]
  generalize H ++ [Blk.cells [u, w]] = H1 at *
  refine (own_ret h2 h3).toX fun r H2 x12 hr => ?_
  obtain ⟨u3, w3, rfl, a, c⟩ := rv_pp_elim hr
  simp only at a c
  have sm := psame_ret (hx1.kp (x12.all _).kp) (hy1.kp (x12.all _).kp) a c
  simp (disch := (first | assumption | omega | (simp only [List.length_append, List.length_cons, List.length_nil]; omega))) only [↓wD,wU,Nat.reduceBEq,zx150,zx151,zx159,zx160,zx161,zx162,Nat.reduceAdd,Nat.reduceSub,Nat.reduceMul,Nat.reduceLeDiff,Nat.reduceLT,Nat.reduceEqDiff,Int.reduceAdd,Int.reduceSub,Int.reduceMul,Int.reduceNeg,Int.reduceLT,Int.reduceLE,Int.reduceEq,Int.reduceToNat,Int.cast_ofNat_Int,↓reduceIte, sm.call]
theorem idxP_ret {p : Nat → Prop} {H : Heap} {v : AV} {f : Nat} {caps : List AV} {qs : List Puz} {P : Puz → Bool} (hx : Sl p H v qs) (hf : ∀ (q : Puz) (u w : AV), Sl p H u q.1 → Sl p H w q.2 → RetP E f ([.ag [u, w]] ++ caps) H (.b (P q))) : RetP E 81 [v, .fn f [] caps] H (.i (findG P qs 0)) := by
  refine RetP.ro rfl fn81 rfl rfl ?_
  unfold f81A
  have hb := hx.bound
  have hlv := hx.lenV
  obtain ⟨r, er⟩ : ∃ r, findG P qs 0 = r := ⟨_, rfl⟩
  rw [er]
  simp (disch := (first | assumption | omega | (simp only [List.length_append, List.length_cons, List.length_nil]; omega))) only [↓wD,wU,Nat.reduceBEq,zx150,zx151,zx159,zx160,zx161,zx162,Nat.reduceAdd,Nat.reduceSub,Nat.reduceMul,Nat.reduceLeDiff,Nat.reduceLT,Nat.reduceEqDiff,Int.reduceAdd,Int.reduceSub,Int.reduceMul,Int.reduceNeg,Int.reduceLT,Int.reduceLE,Int.reduceEq,Int.reduceToNat,Int.cast_ofNat_Int,↓reduceIte, hlv]
  refine Wp.for qs.length (fun i a H' => H' = H ∧ a 0 = v ∧ a 1 = .fn f [] caps ∧ a 7 = .i qs.length ∧ a 8 = .i i ∧ findG P (qs.drop i) i = r) ?_ ?_
  · clear er
    rintro i a H' hi ⟨rfl, a0, a1, a7, a8, hh⟩ ih
    simp (disch := (first | assumption | omega | (simp only [List.length_append, List.length_cons, List.length_nil]; omega))) only [↓wD,wU,Nat.reduceBEq,zx150,zx151,zx159,zx160,zx161,zx162,Nat.reduceAdd,Nat.reduceSub,Nat.reduceMul,Nat.reduceLeDiff,Nat.reduceLT,Nat.reduceEqDiff,Int.reduceAdd,Int.reduceSub,Int.reduceMul,Int.reduceNeg,Int.reduceLT,Int.reduceLE,Int.reduceEq,Int.reduceToNat,Int.cast_ofNat_Int,↓reduceIte, a0, a1, a7, a8]
    refine condP_split (fun hlt => ?_) (fun hlt => ?_)
    · have hi' : i < qs.length := by omega
      have e : qs.drop i = gi qs (i : Int) :: qs.drop (i + 1) := by rw [gi_nat hi']; exact List.drop_eq_getElem_cons hi'
      rw [e, findG] at hh
      clear e
      obtain ⟨_, e1, u, w, e2, h1, h2⟩ := Sl.P hx hi'
      have hc := hf _ u w h1 h2
      cases hp : P (gi qs (i : Int))
      · rw [hp] at hc hh
        simp only [Bool.false_eq_true, if_false] at hh
        simp (disch := (first | assumption | omega | (simp only [List.length_append, List.length_cons, List.length_nil]; omega))) only [↓wD,wU,Nat.reduceBEq,zx150,zx151,zx159,zx160,zx161,zx162,Nat.reduceAdd,Nat.reduceSub,Nat.reduceMul,Nat.reduceLeDiff,Nat.reduceLT,Nat.reduceEqDiff,Int.reduceAdd,Int.reduceSub,Int.reduceMul,Int.reduceNeg,Int.reduceLT,Int.reduceLE,Int.reduceEq,Int.reduceToNat,Int.cast_ofNat_Int,↓reduceIte, a0, a1, a7, a8, e1, e2, hc.callv1]
        refine (ih hi').go ⟨rfl, ?_⟩
        simp (disch := (first | assumption | omega | (simp only [List.length_append, List.length_cons, List.length_nil]; omega))) only [↓wD,wU,Nat.reduceBEq,zx150,zx151,zx159,zx160,zx161,zx162,Nat.reduceAdd,Nat.reduceSub,Nat.reduceMul,Nat.reduceLeDiff,Nat.reduceLT,Nat.reduceEqDiff,Int.reduceAdd,Int.reduceSub,Int.reduceMul,Int.reduceNeg,Int.reduceLT,Int.reduceLE,Int.reduceEq,Int.reduceToNat,Int.cast_ofNat_Int,↓reduceIte, a0, a1, a7, a8]
        exact hh
      · rw [hp] at hc hh
        simp only [if_true] at hh
        simp (disch := (first | assumption | omega | (simp only [List.length_append, List.length_cons, List.length_nil]; omega))) only [↓wD,wU,Nat.reduceBEq,zx150,zx151,zx159,zx160,zx161,zx162,Nat.reduceAdd,Nat.reduceSub,Nat.reduceMul,Nat.reduceLeDiff,Nat.reduceLT,Nat.reduceEqDiff,Int.reduceAdd,Int.reduceSub,Int.reduceMul,Int.reduceNeg,Int.reduceLT,Int.reduceLE,Int.reduceEq,Int.reduceToNat,Int.cast_ofNat_Int,↓reduceIte, a0, a1, a7, a8, e1, e2, hc.callv1]
        rw [hh]
    · rw [List.drop_of_length_le (by omega), findG] at hh
      subst hh
      simp (disch := (first | assumption | omega | (simp only [List.length_append, List.length_cons, List.length_nil]; omega))) only [↓wD,wU,Nat.reduceBEq,zx150,zx151,zx159,zx160,zx161,zx162,Nat.reduceAdd,Nat.reduceSub,Nat.reduceMul,Nat.reduceLeDiff,Nat.reduceLT,Nat.reduceEqDiff,Int.reduceAdd,Int.reduceSub,Int.reduceMul,Int.reduceNeg,Int.reduceLT,Int.reduceLE,Int.reduceEq,Int.reduceToNat,Int.cast_ofNat_Int,↓reduceIte, a0, a1, a7, a8]
  · simp (disch := (first | assumption | omega | (simp only [List.length_append, List.length_cons, List.length_nil]; omega))) only [↓wD,wU,Nat.reduceBEq,zx150,zx151,zx159,zx160,zx161,zx162,Nat.reduceAdd,Nat.reduceSub,Nat.reduceMul,Nat.reduceLeDiff,Nat.reduceLT,Nat.reduceEqDiff,Int.reduceAdd,Int.reduceSub,Int.reduceMul,Int.reduceNeg,Int.reduceLT,Int.reduceLE,Int.reduceEq,Int.reduceToNat,Int.cast_ofNat_Int,↓reduceIte]
    exact er
theorem hasP_ret {p : Nat → Prop} {H : Heap} {v : AV} {f : Nat} {caps : List AV} {qs : List Puz} {P : Puz → Bool} (hx : Sl p H v qs) (hf : ∀ (q : Puz) (u w : AV), Sl p H u q.1 → Sl p H w q.2 → RetP E f ([.ag [u, w]] ++ caps) H (.b (P q))) : RetP E 50 [v, .fn f [] caps] H (.b (qs.any P)) := by
  refine RetP.ro rfl fn50 rfl rfl ?_
  unfold f50A
  have hc := idxP_ret hx hf
  have ge := findG_ge (P := P) (xs := qs) (i := 0)
  simp (disch := (first | assumption | omega | (simp only [List.length_append, List.length_cons, List.length_nil]; omega))) only [↓wD,wU,Nat.reduceBEq,zx150,zx151,zx159,zx160,zx161,zx162,Nat.reduceAdd,Nat.reduceSub,Nat.reduceMul,Nat.reduceLeDiff,Nat.reduceLT,Nat.reduceEqDiff,Int.reduceAdd,Int.reduceSub,Int.reduceMul,Int.reduceNeg,Int.reduceLT,Int.reduceLE,Int.reduceEq,Int.reduceToNat,Int.cast_ofNat_Int,↓reduceIte, hc.call, ge]
end Go.Proofs.YtjjndoigkhabdaaDoor
namespace Go.Proofs.YtjjndoigkhabdaaDoor
open Go Go.AM Go.Proofs
theorem idx4 {k : Int} : ∃ r : Nat, r < 4 ∧ (IntKind.wrap .u64 k).tmod 4 = r ∧ IntKind.wrap .i64 (r : Int) = r := by
  have h2 : 0 ≤ IntKind.wrap .u64 k := by
    have e1 : IntKind.u64.bits = 64 := rfl
    have e2 : IntKind.u64.signed = false := rfl
    simp only [IntKind.wrap, e1, e2, Bool.false_and, Bool.false_eq_true, if_false]
    exact Int.emod_nonneg _ (by decide)
  have h3 := Int.tmod_nonneg 4 h2
  have h4 := Int.tmod_lt_of_pos (IntKind.wrap .u64 k) (show (0 : Int) < 4 by omega)
  obtain ⟨r, hr⟩ := Int.eq_ofNat_of_zero_le h3
  exact ⟨r, by omega, hr, zx172 (by omega) (by omega)⟩
theorem Walk.SquaresCounted (H : Heap) (n1 n2 : Int) : WpF E H.length 11 [.i n1, .i n2] H fun v _ => v = .b true := by
  refine law_of (RetP.ro rfl fn11 rfl rfl ?_)
  unfold f11A
  obtain ⟨r1, h11, h12, h13⟩ := idx4 (k := n1)
  obtain ⟨r2, h21, h22, h23⟩ := idx4 (k := n2)
  obtain ⟨w, hw⟩ : ∃ w : Nat, w = r1 + 1 := ⟨_, rfl⟩
  obtain ⟨h, hh⟩ : ∃ h : Nat, h = r2 + 1 := ⟨_, rfl⟩
  have ew : (1 : Int) + (r1 : Int) = (w : Int) := by omega
  have eh : (1 : Int) + (r2 : Int) = (h : Int) := by omega
  have w1 : 1 ≤ w := by omega
  have w4 : w ≤ 4 := by omega
  have h1 : 1 ≤ h := by omega
  have h4 : h ≤ 4 := by omega
  clear hw hh
  obtain ⟨wh, hwh⟩ : ∃ wh, w * h = wh := ⟨_, rfl⟩
  have ewh : (w : Int) * (h : Int) = (wh : Int) := by rw [← hwh]; simp
  by_cases h9 : wh ≤ 9
  case neg =>
    have hd : decide ((9 : Int) < (wh : Int)) = true := decide_eq_true (by omega)
    have hwb : wh ≤ 16 := by rw [← hwh]; exact Nat.mul_le_mul w4 h4
    simp (disch := (first | assumption | omega | (simp only [List.length_append, List.length_cons, List.length_nil]; omega))) only [↓wD,wU,Nat.reduceBEq,zx150,zx151,zx159,zx160,zx161,zx162,Nat.reduceAdd,Nat.reduceSub,Nat.reduceMul,Nat.reduceLeDiff,Nat.reduceLT,Nat.reduceEqDiff,Int.reduceAdd,Int.reduceSub,Int.reduceMul,Int.reduceNeg,Int.reduceLT,Int.reduceLE,Int.reduceEq,Int.reduceToNat,Int.cast_ofNat_Int,↓reduceIte, h12, h13, h22, h23, ew, eh, ewh, hd, awake_ret.call]
  have hd : decide ((9 : Int) < (wh : Int)) = false := decide_eq_false (by omega)
  have hsN := b_shl1 (n := wh) (by omega)
  have hsW := b_shl1 (n := w) (by omega)
  obtain ⟨NN, hNN⟩ : ∃ NN, 2 ^ wh = NN := ⟨_, rfl⟩
  have hN9 : NN ≤ 512 := by rw [← hNN]; exact (Nat.pow_le_pow_right (by omega) h9 : 2 ^ wh ≤ 2 ^ 9)
  have hta := tot_all (w := w) (h := h) w1
  rw [hwh, hNN] at hta
  rw [hNN] at hsN
  have pw := pow32 (n := w) (by omega)
  have pw1 := Nat.two_pow_pos w
  have hW : ((2 ^ w : Nat) : Int) - 1 = ((2 ^ w - 1 : Nat) : Int) := by omega
  have lenB : ∀ n, n ≤ NN → (puzB w h n).length ≤ n := fun n _ => by
    unfold puzB idxB
    rw [List.length_map]
    exact Nat.le_trans (List.length_filter_le _ _) (by simp)
  have stz : ∀ (G : Heap) (tu tw : AV), H.length ≤ G.length → st H.length (G ++ [Blk.cells [.nils, .nils]]) G.length 0 [tu, tw] = some (G ++ [Blk.cells [tu, tw]]) := fun G tu tw hG => by
    rw [st_of get_last hG (by simp)]
    congr 1
    simp [wr]
  simp (disch := (first | assumption | omega | (simp only [List.length_append, List.length_cons, List.length_nil]; omega))) only [↓wD,wU,Nat.reduceBEq,zx150,zx151,zx159,zx160,zx161,zx162,Nat.reduceAdd,Nat.reduceSub,Nat.reduceMul,Nat.reduceLeDiff,Nat.reduceLT,Nat.reduceEqDiff,Int.reduceAdd,Int.reduceSub,Int.reduceMul,Int.reduceNeg,Int.reduceLT,Int.reduceLE,Int.reduceEq,Int.reduceToNat,Int.cast_ofNat_Int,↓reduceIte, h12, h13, h22, h23, ew, eh, ewh, hd, hsN]
  refine Wp.for NN (fun b a G => ∃ v, a 0 = .i w ∧ a 1 = .i h ∧ a 5 = v ∧ a 6 = .i (puzB w h b).length ∧ a 39 = .i NN ∧ a 40 = .i b ∧ H.length ≤ G.length ∧ Acc H.length (fun x => H.length ≤ x) G v (puzB w h b)) ?_ ?_
  · rintro b a G hb ⟨v, a0, a1, a5, a6, a39, a40, hG, hv⟩ ih
    have hlb := lenB b (by omega)
    simp (disch := (first | assumption | omega | (simp only [List.length_append, List.length_cons, List.length_nil]; omega))) only [↓wD,wU,Nat.reduceBEq,zx150,zx151,zx159,zx160,zx161,zx162,Nat.reduceAdd,Nat.reduceSub,Nat.reduceMul,Nat.reduceLeDiff,Nat.reduceLT,Nat.reduceEqDiff,Int.reduceAdd,Int.reduceSub,Int.reduceMul,Int.reduceNeg,Int.reduceLT,Int.reduceLE,Int.reduceEq,Int.reduceToNat,Int.cast_ofNat_Int,↓reduceIte, a0, a1, a5, a6, a39, a40]
    refine condP_split (fun hlt => ?_) (fun hlt => ?_)
    · have hb' : b < NN := by omega
      simp (disch := (first | assumption | omega | (simp only [List.length_append, List.length_cons, List.length_nil]; omega))) only [↓wD,wU,Nat.reduceBEq,zx150,zx151,zx159,zx160,zx161,zx162,Nat.reduceAdd,Nat.reduceSub,Nat.reduceMul,Nat.reduceLeDiff,Nat.reduceLT,Nat.reduceEqDiff,Int.reduceAdd,Int.reduceSub,Int.reduceMul,Int.reduceNeg,Int.reduceLT,Int.reduceLE,Int.reduceEq,Int.reduceToNat,Int.cast_ofNat_Int,↓reduceIte, a0, a1, a5, a6, a39, a40]
      refine Wp.for h (fun i a G' => ∃ z, a 0 = .i w ∧ a 1 = .i h ∧ a 5 = v ∧ a 6 = .i (puzB w h b).length ∧ a 7 = .i b ∧ a 39 = .i NN ∧ a 40 = .i b ∧ a 8 = z ∧ a 43 = .i h ∧ a 44 = .i i ∧ Gr G G' ∧ Acc G.length (fun _ => False) G' z (nL ((picR w h b).take i))) ?_ ?_
      · clear a0 a1 a5 a6 a39 a40 hlt a
        rintro i a G' hi ⟨z, a0, a1, a5, a6, a7, a39, a40, a8, a43, a44, hg, hz⟩ ih2
        have hg1 := hg.1
        simp (disch := (first | assumption | omega | (simp only [List.length_append, List.length_cons, List.length_nil]; omega))) only [↓wD,wU,Nat.reduceBEq,zx150,zx151,zx159,zx160,zx161,zx162,Nat.reduceAdd,Nat.reduceSub,Nat.reduceMul,Nat.reduceLeDiff,Nat.reduceLT,Nat.reduceEqDiff,Int.reduceAdd,Int.reduceSub,Int.reduceMul,Int.reduceNeg,Int.reduceLT,Int.reduceLE,Int.reduceEq,Int.reduceToNat,Int.cast_ofNat_Int,↓reduceIte, a0, a1, a5, a6, a7, a39, a40, a8, a43, a44]
        refine condP_split (fun hlt => ?_) (fun hlt => ?_)
        · have hi' : i < h := by omega
          obtain ⟨wi, hwi⟩ : ∃ wi, w * i = wi := ⟨_, rfl⟩
          have ewi : (w : Int) * (i : Int) = (wi : Int) := by rw [← hwi]; simp
          have wi9 : wi ≤ 9 := by
            have : w * i ≤ w * h := Nat.mul_le_mul_left _ (by omega)
            omega
          have eg := picR_gi (w := w) (b := b) hi'
          rw [hwi] at eg
          have o1 := b_shr (a := b) (b := wi) (by omega)
          have hsh : b >>> wi ≤ 9223372036854775807 := by
            have : b >>> wi ≤ b := by rw [Nat.shiftRight_eq_div_pow]; exact Nat.div_le_self _ _
            omega
          have o2 := b_and (a := b >>> wi) (b := 2 ^ w - 1) hsh (by omega)
          rw [← eg] at o2
          have hlt2 : gi (picR w h b) (i : Int) < 2 ^ w := picR_lt _ (mem_gi (by rw [picR_len]; exact hi'))
          have ltk : (nL ((picR w h b).take i)).length = i := by rw [nL_len, List.length_take, picR_len]; omega
          have etk : nL ((picR w h b).take (i + 1)) = nL ((picR w h b).take i) ++ [((gi (picR w h b) (i : Int) : Nat) : Int)] := by rw [take_gi (by rw [picR_len]; exact hi')]; simp [nL]
          generalize gi (picR w h b) (i : Int) = X at *
          generalize b >>> wi = Y at *
          simp (disch := (first | assumption | omega | (simp only [List.length_append, List.length_cons, List.length_nil]; omega))) only [↓wD,wU,Nat.reduceBEq,zx150,zx151,zx159,zx160,zx161,zx162,Nat.reduceAdd,Nat.reduceSub,Nat.reduceMul,Nat.reduceLeDiff,Nat.reduceLT,Nat.reduceEqDiff,Int.reduceAdd,Int.reduceSub,Int.reduceMul,Int.reduceNeg,Int.reduceLT,Int.reduceLE,Int.reduceEq,Int.reduceToNat,Int.cast_ofNat_Int,↓reduceIte, a0, a1, a5, a6, a7, a39, a40, a8, a43, a44, ewi, o1, hsW, hW, o2]
          refine hz.pushI (by omega) (by omega) (by omega) fun z' G2 hz' hk _ _ => ?_
          simp (disch := (first | assumption | omega | (simp only [List.length_append, List.length_cons, List.length_nil]; omega))) only [↓wD,wU,Nat.reduceBEq,zx150,zx151,zx159,zx160,zx161,zx162,Nat.reduceAdd,Nat.reduceSub,Nat.reduceMul,Nat.reduceLeDiff,Nat.reduceLT,Nat.reduceEqDiff,Int.reduceAdd,Int.reduceSub,Int.reduceMul,Int.reduceNeg,Int.reduceLT,Int.reduceLE,Int.reduceEq,Int.reduceToNat,Int.cast_ofNat_Int,↓reduceIte, a0, a1, a5, a6, a7, a39, a40, a8, a43, a44]
          refine (ih2 hi').go ⟨z', ?_⟩
          simp (disch := (first | assumption | omega | (simp only [List.length_append, List.length_cons, List.length_nil]; omega))) only [↓wD,wU,Nat.reduceBEq,zx150,zx151,zx159,zx160,zx161,zx162,Nat.reduceAdd,Nat.reduceSub,Nat.reduceMul,Nat.reduceLeDiff,Nat.reduceLT,Nat.reduceEqDiff,Int.reduceAdd,Int.reduceSub,Int.reduceMul,Int.reduceNeg,Int.reduceLT,Int.reduceLE,Int.reduceEq,Int.reduceToNat,Int.cast_ofNat_Int,↓reduceIte, a0, a1, a5, a6, a7, a39, a40, a8, a43, a44]
          rw [etk]
          exact ⟨hg.push hz (Nat.le_refl _) hk, hz'⟩
        · obtain rfl : i = h := by omega
          have ep : (picR w i b).take i = picR w i b := List.take_of_length_le (by rw [picR_len]; omega)
          rw [ep] at hz
          have lP : (picR w i b).length = i := picR_len
          have hpic : PicP (w : Int) (nL (picR w i b)) := pic_of w1 (by omega) (by omega) (by omega) picR_lt
          have hpz := clB_puz (w := w) (h := i) w1 (by omega) h1 (by omega) b
          obtain ⟨F, hF, eF, eE, -⟩ := first_le (clB_has (w := w) (h := i) b)
          have hzs := hz.sl
          have hv1 := hv.gr hg
          clear hz ih2 hlt hi ep
          simp (disch := (first | assumption | omega | (simp only [List.length_append, List.length_cons, List.length_nil]; omega))) only [↓wD,wU,Nat.reduceBEq,zx150,zx151,zx159,zx160,zx161,zx162,Nat.reduceAdd,Nat.reduceSub,Nat.reduceMul,Nat.reduceLeDiff,Nat.reduceLT,Nat.reduceEqDiff,Int.reduceAdd,Int.reduceSub,Int.reduceMul,Int.reduceNeg,Int.reduceLT,Int.reduceLE,Int.reduceEq,Int.reduceToNat,Int.cast_ofNat_Int,↓reduceIte, a0, a1, a5, a6, a7, a39, a40, a8, a43, a44]
          refine (clone_ret hzs (by rw [nL_len, lP]; omega)).toFX fun y G2 x2 hy => ?_
          have n2 := x2.1
          simp (disch := (first | assumption | omega | (simp only [List.length_append, List.length_cons, List.length_nil]; omega))) only [↓wD,wU,Nat.reduceBEq,zx150,zx151,zx159,zx160,zx161,zx162,Nat.reduceAdd,Nat.reduceSub,Nat.reduceMul,Nat.reduceLeDiff,Nat.reduceLT,Nat.reduceEqDiff,Int.reduceAdd,Int.reduceSub,Int.reduceMul,Int.reduceNeg,Int.reduceLT,Int.reduceLE,Int.reduceEq,Int.reduceToNat,Int.cast_ofNat_Int,↓reduceIte, a0, a1, a5, a6, a7, a39, a40, a8, a43, a44]
          refine (cluesX_ret hy hpic rfl rfl (by omega) (by omega) picR_lt).toX fun u3 G3 x3 hu3 => ?_
          obtain ⟨t3, _, rfl, ht3, rfl⟩ := rv2 hu3
          obtain ⟨cu, cw, rfl, k1, k2⟩ := rv_pp_elim ht3
          change Sl _ G3 cu (clB w i b).1 at k1
          change Sl _ G3 cw (clB w i b).2 at k2
          have n3 := x3.1
          obtain ⟨G4, eG4⟩ : ∃ G4, G3 ++ [Blk.cells [cu, cw]] = G4 := ⟨_, rfl⟩
          have x34 : Kx (fun _ => True) G3 G4 := by rw [← eG4]; exact Kx.app _ _ _
          have g4 : G4[G3.length]? = some (.cells [cu, cw]) := by rw [← eG4]; exact get_last
          have st3 := stz G3 cu cw (by omega)
          rw [eG4] at st3
          have n4 := x34.1
          have k14 := k1.kp (x34.all _).kp
          have k24 := k2.kp (x34.all _).kp
          have d1 := k1.cellsV
          have d2 := k2.cellsV
          clear hu3 ht3 k1 k2 hy
          simp (disch := (first | assumption | omega | (simp only [List.length_append, List.length_cons, List.length_nil]; omega))) only [↓wD,wU,Nat.reduceBEq,zx150,zx151,zx159,zx160,zx161,zx162,Nat.reduceAdd,Nat.reduceSub,Nat.reduceMul,Nat.reduceLeDiff,Nat.reduceLT,Nat.reduceEqDiff,Int.reduceAdd,Int.reduceSub,Int.reduceMul,Int.reduceNeg,Int.reduceLT,Int.reduceLE,Int.reduceEq,Int.reduceToNat,Int.cast_ofNat_Int,↓reduceIte, a0, a1, a5, a6, a7, a39, a40, a8, a43, a44, d1, d2, st3, ldn_of g4]
          refine (solve_ret k14 k24 hpz).toX fun u5 G5 x5 hu5 => ?_
          obtain ⟨l5, _, rfl, hl5, rfl⟩ := rv2 hu5
          replace hl5 := rvs hl5
          rw [eE]
          have n5 := x5.1
          have x15 : Kx (fun _ => True) G' G5 := ((x2.trans x3 fun _ _ _ => trivial).trans x34 fun _ _ _ => trivial).trans x5 fun _ _ _ => trivial
          have hz5 := hzs.kp (x15.all _).kp
          have hv5 := hv1.gr (x15.all _).kp
          have eq := equal_ret hl5 hz5
          have eis : decide (solF (clB w i b).1 (clB w i b).2 = nL (picR w i b)) = isF w i b := rfl
          rw [eis] at eq
          clear hu5 k14 k24 hl5 g4 hzs hv1 eis
          have ps := puzB_s (w := w) (h := i) (n := b)
          cases hif : isF w i b
          · rw [hif] at eq ps
            simp only [Bool.false_eq_true, if_false, List.append_nil] at ps
            simp (disch := (first | assumption | omega | (simp only [List.length_append, List.length_cons, List.length_nil]; omega))) only [↓wD,wU,Nat.reduceBEq,zx150,zx151,zx159,zx160,zx161,zx162,Nat.reduceAdd,Nat.reduceSub,Nat.reduceMul,Nat.reduceLeDiff,Nat.reduceLT,Nat.reduceEqDiff,Int.reduceAdd,Int.reduceSub,Int.reduceMul,Int.reduceNeg,Int.reduceLT,Int.reduceLE,Int.reduceEq,Int.reduceToNat,Int.cast_ofNat_Int,↓reduceIte, a0, a1, a5, a6, a7, a39, a40, a8, a43, a44, eq.call]
            refine (ih hb').go ⟨v, ?_⟩
            simp (disch := (first | assumption | omega | (simp only [List.length_append, List.length_cons, List.length_nil]; omega))) only [↓wD,wU,Nat.reduceBEq,zx150,zx151,zx159,zx160,zx161,zx162,Nat.reduceAdd,Nat.reduceSub,Nat.reduceMul,Nat.reduceLeDiff,Nat.reduceLT,Nat.reduceEqDiff,Int.reduceAdd,Int.reduceSub,Int.reduceMul,Int.reduceNeg,Int.reduceLT,Int.reduceLE,Int.reduceEq,Int.reduceToNat,Int.cast_ofNat_Int,↓reduceIte, a0, a1, a5, a6, a7, a39, a40, a8, a43, a44]
            rw [ps]
            exact ⟨rfl, by omega, hv5⟩
          · rw [hif] at eq ps
            simp only [if_true] at ps
            have hnew := puzB_new (w := w) (h := i) w1 (by rw [hwh, hNN]; exact hb') hif
            simp (disch := (first | assumption | omega | (simp only [List.length_append, List.length_cons, List.length_nil]; omega))) only [↓wD,wU,Nat.reduceBEq,zx150,zx151,zx159,zx160,zx161,zx162,Nat.reduceAdd,Nat.reduceSub,Nat.reduceMul,Nat.reduceLeDiff,Nat.reduceLT,Nat.reduceEqDiff,Int.reduceAdd,Int.reduceSub,Int.reduceMul,Int.reduceNeg,Int.reduceLT,Int.reduceLE,Int.reduceEq,Int.reduceToNat,Int.cast_ofNat_Int,↓reduceIte, a0, a1, a5, a6, a7, a39, a40, a8, a43, a44, eq.call]
            refine (cluesX_ret hz5 hpic rfl rfl (by omega) (by omega) picR_lt).toX fun u6 G6 x6 hu6 => ?_
            obtain ⟨t6, _, rfl, ht6, rfl⟩ := rv2 hu6
            obtain ⟨du, dw, rfl, k1, k2⟩ := rv_pp_elim ht6
            replace k1 : Sl (fun x => G5.length ≤ x) G6 du (clB w i b).1 := k1.weak fun x h => h.elim (fun h => h.elim) id
            replace k2 : Sl (fun x => G5.length ≤ x) G6 dw (clB w i b).2 := k2.weak fun x h => h.elim (fun h => h.elim) id
            have n6 := x6.1
            obtain ⟨G7, eG7⟩ : ∃ G7, G6 ++ [Blk.cells [du, dw]] = G7 := ⟨_, rfl⟩
            have x67 : Kx (fun _ => True) G6 G7 := by rw [← eG7]; exact Kx.app _ _ _
            have g7 : G7[G6.length]? = some (.cells [du, dw]) := by rw [← eG7]; exact get_last
            have st6 := stz G6 du dw (by omega)
            rw [eG7] at st6
            have n7 := x67.1
            have k17 := k1.kp (x67.all _).kp
            have k27 := k2.kp (x67.all _).kp
            have hv7 := (hv5.gr (x6.all _).kp).gr (x67.all _).kp
            have has := hasP_ret (P := fun q => decide (q.1 = (clB w i b).1 ∧ q.2 = (clB w i b).2)) (f := 51) (caps := [.p G6.length 0]) hv7.sl fun q u' w' hu hw => cnt1_ret hu hw g7 k17 k27
            have hany : (puzB w i b).any (fun q => decide (q.1 = (clB w i b).1 ∧ q.2 = (clB w i b).2)) = false := by
              rw [List.any_eq_false]
              intro q hq hqq
              exact hnew q hq (Prod.ext (of_decide_eq_true hqq).1 (of_decide_eq_true hqq).2)
            rw [hany] at has
            have dd1 := k1.cellsV
            have dd2 := k2.cellsV
            clear hu6 ht6 k1 k2 hany
            simp (disch := (first | assumption | omega | (simp only [List.length_append, List.length_cons, List.length_nil]; omega))) only [↓wD,wU,Nat.reduceBEq,zx150,zx151,zx159,zx160,zx161,zx162,Nat.reduceAdd,Nat.reduceSub,Nat.reduceMul,Nat.reduceLeDiff,Nat.reduceLT,Nat.reduceEqDiff,Int.reduceAdd,Int.reduceSub,Int.reduceMul,Int.reduceNeg,Int.reduceLT,Int.reduceLE,Int.reduceEq,Int.reduceToNat,Int.cast_ofNat_Int,↓reduceIte, a0, a1, a5, a6, a7, a39, a40, a8, a43, a44, dd1, dd2, st6, has.call, ldn_of g7]
            refine (own_ret k17 k27).toX fun u8 G8 x8 hu8 => ?_
            obtain ⟨ou, ow, rfl, m1, m2⟩ := rv_pp_elim hu8
            simp only at m1 m2
            replace m1 : Sl (fun x => G5.length ≤ x) G8 ou (clB w i b).1 := m1.weak fun x h => by omega
            replace m2 : Sl (fun x => G5.length ≤ x) G8 ow (clB w i b).2 := m2.weak fun x h => by omega
            have n8 := x8.1
            have hv8 := hv7.gr (x8.all _).kp
            have dm1 := m1.cellsV
            have dm2 := m2.cellsV
            clear hu8 has k17 k27 g7
            simp (disch := (first | assumption | omega | (simp only [List.length_append, List.length_cons, List.length_nil]; omega))) only [↓wD,wU,Nat.reduceBEq,zx150,zx151,zx159,zx160,zx161,zx162,Nat.reduceAdd,Nat.reduceSub,Nat.reduceMul,Nat.reduceLeDiff,Nat.reduceLT,Nat.reduceEqDiff,Int.reduceAdd,Int.reduceSub,Int.reduceMul,Int.reduceNeg,Int.reduceLT,Int.reduceLE,Int.reduceEq,Int.reduceToNat,Int.cast_ofNat_Int,↓reduceIte, a0, a1, a5, a6, a7, a39, a40, a8, a43, a44, dm1, dm2]
            refine Acc.pushP hv8 (Nat.le_refl _) (by omega) m1 m2 (fun x hx => ⟨by omega, fun e => by have := (hv5.blk_lt e).2; omega⟩) (by omega) (fun v' G9 hv9 hk9 hl9 _ => ?_) rfl
            simp (disch := (first | assumption | omega | (simp only [List.length_append, List.length_cons, List.length_nil]; omega))) only [↓wD,wU,Nat.reduceBEq,zx150,zx151,zx159,zx160,zx161,zx162,Nat.reduceAdd,Nat.reduceSub,Nat.reduceMul,Nat.reduceLeDiff,Nat.reduceLT,Nat.reduceEqDiff,Int.reduceAdd,Int.reduceSub,Int.reduceMul,Int.reduceNeg,Int.reduceLT,Int.reduceLE,Int.reduceEq,Int.reduceToNat,Int.cast_ofNat_Int,↓reduceIte, a0, a1, a5, a6, a7, a39, a40, a8, a43, a44]
            refine (ih hb').go ⟨v', ?_⟩
            simp (disch := (first | assumption | omega | (simp only [List.length_append, List.length_cons, List.length_nil]; omega))) only [↓wD,wU,Nat.reduceBEq,zx150,zx151,zx159,zx160,zx161,zx162,Nat.reduceAdd,Nat.reduceSub,Nat.reduceMul,Nat.reduceLeDiff,Nat.reduceLT,Nat.reduceEqDiff,Int.reduceAdd,Int.reduceSub,Int.reduceMul,Int.reduceNeg,Int.reduceLT,Int.reduceLE,Int.reduceEq,Int.reduceToNat,Int.cast_ofNat_Int,↓reduceIte, a0, a1, a5, a6, a7, a39, a40, a8, a43, a44]
            rw [ps]
            exact ⟨by rw [List.length_append]; rfl, by omega, hv9⟩
      · simp (disch := (first | assumption | omega | (simp only [List.length_append, List.length_cons, List.length_nil]; omega))) only [↓wD,wU,Nat.reduceBEq,zx150,zx151,zx159,zx160,zx161,zx162,Nat.reduceAdd,Nat.reduceSub,Nat.reduceMul,Nat.reduceLeDiff,Nat.reduceLT,Nat.reduceEqDiff,Int.reduceAdd,Int.reduceSub,Int.reduceMul,Int.reduceNeg,Int.reduceLT,Int.reduceLE,Int.reduceEq,Int.reduceToNat,Int.cast_ofNat_Int,↓reduceIte, a0, a1, a5, a6, a39, a40]
        exact ⟨.nils, rfl, Gr.refl _, Acc.nil⟩
    · obtain rfl : b = NN := by omega
      have hvs := hv.sl
      have hvl := hvs.lenV
      obtain ⟨qs, eqs⟩ : ∃ qs, puzB w h b = qs := ⟨_, rfl⟩
      have hpq : ∀ q ∈ qs, PuzP q.1 q.2 ∧ 1 ≤ (sols q.1 q.2).length := fun q hq => by
        rw [← eqs] at hq
        obtain ⟨c, _, rfl⟩ := List.mem_map.1 hq
        exact ⟨clB_puz w1 (by omega) h1 (by omega) c, List.length_pos_of_mem (clB_has c)⟩
      rw [eqs] at hvs hvl hta hlb a6
      clear hv ih
      simp (disch := (first | assumption | omega | (simp only [List.length_append, List.length_cons, List.length_nil]; omega))) only [↓wD,wU,Nat.reduceBEq,zx150,zx151,zx159,zx160,zx161,zx162,Nat.reduceAdd,Nat.reduceSub,Nat.reduceMul,Nat.reduceLeDiff,Nat.reduceLT,Nat.reduceEqDiff,Int.reduceAdd,Int.reduceSub,Int.reduceMul,Int.reduceNeg,Int.reduceLT,Int.reduceLE,Int.reduceEq,Int.reduceToNat,Int.cast_ofNat_Int,↓reduceIte, a0, a1, a5, a6, a39, a40, hvl]
      refine Wp.for qs.length (fun i a G' => a 0 = .i w ∧ a 1 = .i h ∧ a 5 = v ∧ a 6 = .i qs.length ∧ a 16 = .i (tot (qs.take i) : Nat) ∧ a 102 = v ∧ a 103 = .i qs.length ∧ a 104 = .i i ∧ Kx (fun _ => True) G G') ?_ ?_
      · clear a0 a1 a5 a6 a39 a40 hlt a
        rintro i a G1 hi ⟨a0, a1, a5, a6, a16, a102, a103, a104, xG⟩ ih2
        have n1 := xG.1
        simp (disch := (first | assumption | omega | (simp only [List.length_append, List.length_cons, List.length_nil]; omega))) only [↓wD,wU,Nat.reduceBEq,zx150,zx151,zx159,zx160,zx161,zx162,Nat.reduceAdd,Nat.reduceSub,Nat.reduceMul,Nat.reduceLeDiff,Nat.reduceLT,Nat.reduceEqDiff,Int.reduceAdd,Int.reduceSub,Int.reduceMul,Int.reduceNeg,Int.reduceLT,Int.reduceLE,Int.reduceEq,Int.reduceToNat,Int.cast_ofNat_Int,↓reduceIte, a0, a1, a5, a6, a16, a102, a103, a104]
        refine condP_split (fun hlt => ?_) (fun hlt => ?_)
        · have hi' : i < qs.length := by omega
          obtain ⟨_, e1, u, w', e2, k1, k2⟩ := Sl.P (hvs.kp (xG.all _).kp) hi'
          obtain ⟨hP, hpos⟩ := hpq _ (mem_gi hi')
          obtain ⟨ex, ey⟩ := cutT_ok hP
          have ts := tot_s hi'
          have tl := tot_le (l := qs) (i := i + 1)
          obtain ⟨G2, eG2⟩ : ∃ G2, G1 ++ [Blk.cells [u, w']] = G2 := ⟨_, rfl⟩
          have x12 : Kx (fun _ => True) G1 G2 := by rw [← eG2]; exact Kx.app _ _ _
          have g2 : G2[G1.length]? = some (.cells [u, w']) := by rw [← eG2]; exact get_last
          have st1 := stz G1 u w' (by omega)
          rw [eG2] at st1
          have d1 := k1.cellsV
          have d2 := k2.cellsV
          simp (disch := (first | assumption | omega | (simp only [List.length_append, List.length_cons, List.length_nil]; omega))) only [↓wD,wU,Nat.reduceBEq,zx150,zx151,zx159,zx160,zx161,zx162,Nat.reduceAdd,Nat.reduceSub,Nat.reduceMul,Nat.reduceLeDiff,Nat.reduceLT,Nat.reduceEqDiff,Int.reduceAdd,Int.reduceSub,Int.reduceMul,Int.reduceNeg,Int.reduceLT,Int.reduceLE,Int.reduceEq,Int.reduceToNat,Int.cast_ofNat_Int,↓reduceIte, a0, a1, a5, a6, a16, a102, a103, a104, e1, e2, d1, d2, st1, ldn_of g2]
          refine (of_ret (k1.kp (x12.all _).kp) (k2.kp (x12.all _).kp)).toX fun r3 G3 x3 hr3 => ?_
          obtain ⟨u3, w3, rfl, m1, m2⟩ := rv_pp_elim hr3
          simp only at m1 m2
          rw [ex] at m1
          rw [ey] at m2
          have ct := scount_ret m1 m2 hP
          have hd1 : decide (((sols (gi qs (i : Int)).1 (gi qs (i : Int)).2).length : Int) < 1) = false := decide_eq_false (by omega)
          clear hr3 k1 k2
          generalize (sols (gi qs (i : Int)).1 (gi qs (i : Int)).2).length = C at *
          simp (disch := (first | assumption | omega | (simp only [List.length_append, List.length_cons, List.length_nil]; omega))) only [↓wD,wU,Nat.reduceBEq,zx150,zx151,zx159,zx160,zx161,zx162,Nat.reduceAdd,Nat.reduceSub,Nat.reduceMul,Nat.reduceLeDiff,Nat.reduceLT,Nat.reduceEqDiff,Int.reduceAdd,Int.reduceSub,Int.reduceMul,Int.reduceNeg,Int.reduceLT,Int.reduceLE,Int.reduceEq,Int.reduceToNat,Int.cast_ofNat_Int,↓reduceIte, a0, a1, a5, a6, a16, a102, a103, a104, ct.call, hd1]
          refine (ih2 hi').go ?_
          simp (disch := (first | assumption | omega | (simp only [List.length_append, List.length_cons, List.length_nil]; omega))) only [↓wD,wU,Nat.reduceBEq,zx150,zx151,zx159,zx160,zx161,zx162,Nat.reduceAdd,Nat.reduceSub,Nat.reduceMul,Nat.reduceLeDiff,Nat.reduceLT,Nat.reduceEqDiff,Int.reduceAdd,Int.reduceSub,Int.reduceMul,Int.reduceNeg,Int.reduceLT,Int.reduceLE,Int.reduceEq,Int.reduceToNat,Int.cast_ofNat_Int,↓reduceIte, a0, a1, a5, a6, a16, a102, a103, a104]
          rw [ts]
          exact ⟨by simp, (xG.trans x12 fun _ _ _ => trivial).trans x3 fun _ _ _ => trivial⟩
        · obtain rfl : i = qs.length := by omega
          rw [List.take_length, hta] at a16
          have hdd : decide (((b : Nat) : Int) = (b : Int)) = true := decide_eq_true rfl
          have hdl : decide (((qs.length : Nat) : Int) = (qs.length : Int)) = true := decide_eq_true rfl
          have hvl2 := (hvs.kp (xG.all _).kp).lenV
          simp (disch := (first | assumption | omega | (simp only [List.length_append, List.length_cons, List.length_nil]; omega))) only [↓wD,wU,Nat.reduceBEq,zx150,zx151,zx159,zx160,zx161,zx162,Nat.reduceAdd,Nat.reduceSub,Nat.reduceMul,Nat.reduceLeDiff,Nat.reduceLT,Nat.reduceEqDiff,Int.reduceAdd,Int.reduceSub,Int.reduceMul,Int.reduceNeg,Int.reduceLT,Int.reduceLE,Int.reduceEq,Int.reduceToNat,Int.cast_ofNat_Int,↓reduceIte, a0, a1, a5, a6, a16, a102, a103, a104, ewh, hsN, hdd, hdl, hvl2, awake_ret.call]
      · simp (disch := (first | assumption | omega | (simp only [List.length_append, List.length_cons, List.length_nil]; omega))) only [↓wD,wU,Nat.reduceBEq,zx150,zx151,zx159,zx160,zx161,zx162,Nat.reduceAdd,Nat.reduceSub,Nat.reduceMul,Nat.reduceLeDiff,Nat.reduceLT,Nat.reduceEqDiff,Int.reduceAdd,Int.reduceSub,Int.reduceMul,Int.reduceNeg,Int.reduceLT,Int.reduceLE,Int.reduceEq,Int.reduceToNat,Int.cast_ofNat_Int,↓reduceIte, a0, a1, a5, a6]
        exact ⟨rfl, Kx.refl _ _⟩
  · simp (disch := (first | assumption | omega | (simp only [List.length_append, List.length_cons, List.length_nil]; omega))) only [↓wD,wU,Nat.reduceBEq,zx150,zx151,zx159,zx160,zx161,zx162,Nat.reduceAdd,Nat.reduceSub,Nat.reduceMul,Nat.reduceLeDiff,Nat.reduceLT,Nat.reduceEqDiff,Int.reduceAdd,Int.reduceSub,Int.reduceMul,Int.reduceNeg,Int.reduceLT,Int.reduceLE,Int.reduceEq,Int.reduceToNat,Int.cast_ofNat_Int,↓reduceIte]
    exact ⟨.nils, rfl, rfl, Acc.nil⟩
end Go.Proofs.YtjjndoigkhabdaaDoor
