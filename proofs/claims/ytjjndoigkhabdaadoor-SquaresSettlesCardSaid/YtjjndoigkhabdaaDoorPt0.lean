/- What the law needs: what its functions do, and the laws on lists behind it. No condition. -/
import Derived.Test.YtjjndoigkhabdaaDoorPi
import Derived.Test.YtjjndoigkhabdaaDoorBo
import Derived.Lib.TrailingZeros
import Derived.Shelf.Spec.TrailingZeros
import Derived.KernelRfl
import Derived.Laws.StructEq
import Derived.Test.YtjjndoigkhabdaaDoorRows
import Derived.ProofKit
import Derived.LaidMore
import Derived.OpenShut
import Derived.Stop.Joined
import Derived.WalkKit
import Derived.ShutString
import Derived.ChangeOld
import Derived.Below
import Derived.SizedLaws
import Derived.Carry
import Derived.SevenTiedAt
set_option linter.unusedSimpArgs false
set_option linter.unusedVariables false
namespace Go.Proofs.YtjjndoigkhabdaaDoor
open Go Go.AM Go.Proofs Go.Shelf Go.RowKit
def tzRen : Ren where
  f n := if n = 27 then 87 else if n = 28 then 108 else 109
  t n := if n = 22 then 112 else if n = 25 then 65 else if n = 27 then 110 else if n = 53 then 117 else if n = 54 then 118 else n
  g n := n
theorem tzLays : Lays7.n27 Tryd.prog tzRen where
  mixed := by kernel_rfl
  f27 := by kernel_rfl
  f28 := by kernel_rfl
  f29 := by kernel_rfl
  t0 := by kernel_rfl
  a0 := fun w => by kernel_rfl
  z0 := fun w => by kernel_rfl
  v0 := fun w => by kernel_rfl
  i0 := by kernel_rfl
  t3 := by kernel_rfl
  a3 := fun w => by kernel_rfl
  z3 := fun w => by kernel_rfl
  v3 := fun w => by kernel_rfl
  i3 := by kernel_rfl
  t4 := by kernel_rfl
  a4 := fun w => by kernel_rfl
  z4 := fun w => by kernel_rfl
  v4 := fun w => by kernel_rfl
  i4 := by kernel_rfl
  t5 := by kernel_rfl
  a5 := fun w => by kernel_rfl
  z5 := fun w => by kernel_rfl
  v5 := fun w => by kernel_rfl
  i5 := by kernel_rfl
  t22 := by kernel_rfl
  a22 := fun w => by kernel_rfl
  z22 := fun w => by kernel_rfl
  v22 := fun w => by kernel_rfl
  i22 := by kernel_rfl
  t25 := by kernel_rfl
  a25 := fun w => by kernel_rfl
  z25 := fun w => by kernel_rfl
  v25 := fun w => by kernel_rfl
  i25 := by kernel_rfl
  t27 := by kernel_rfl
  a27 := fun w => by kernel_rfl
  z27 := fun w => by kernel_rfl
  v27 := fun w => by kernel_rfl
  i27 := by kernel_rfl
  t53 := by kernel_rfl
  a53 := fun w => by kernel_rfl
  z53 := fun w => by kernel_rfl
  v53 := fun w => by kernel_rfl
  i53 := by kernel_rfl
  t54 := by kernel_rfl
  a54 := fun w => by kernel_rfl
  z54 := fun w => by kernel_rfl
  g0 := by kernel_rfl
  g1 := by kernel_rfl
/-- the library's table lies in its variable -/
def TzI (w : World) : Prop := TabAt 1 Lib.deBruijn64tab w
theorem tzI_stable : Stable TzI := fun w w' h hb j hj => by
  have h1 := h j hj
  have hlt : (1 : Nat) < w.heap.size := by
    rcases Nat.lt_or_ge 1 w.heap.size with q | q
    · exact q
    · simp [World.cell?, Array.getElem?_eq_none q] at h1
  rw [← h1]
  exact hb.cell hlt
theorem tz_prim (I : World → Prop) (hI : ∀ w, I w → TzI w) : ∀ (vs : List AV) (v : AV) (args : Array Value) (w : World), tzP vs = some v → VRelL (fun _ => none) vs args.toList → I w → ∀ cs, ∃ x w', Rets Tryd.prog 87 args cs w x w' ∧ VRel (fun _ => none) v x ∧ Below w.heap.size w w' := by
  intro vs v args w hv hr hw cs
  obtain ⟨n, rfl, h0, h1, rfl⟩ : ∃ n : Int, vs = [.int .u64 n] ∧ 0 ≤ n ∧ n ≤ 18446744073709551615 ∧ v = .i (Lib.ctz 64 n.toNat : Nat) := by
    unfold tzP at hv
    split at hv
    · rename_i n
      split at hv
      · rename_i h
        simp only [Option.some.injEq] at hv
        exact ⟨n, rfl, h.1, h.2, hv.symm⟩
      · cases hv
    · cases hv
  obtain ⟨n, rfl⟩ := Int.eq_ofNat_of_zero_le h0
  have ha : args = #[.int .u64 (n : Int)] := by
    simp only [VRelL] at hr
    obtain ⟨x, xs, e, hx, hxs⟩ := hr
    simp only [VRel] at hx
    cases args
    simp_all
  subst ha
  obtain ⟨e, w', fr, ⟨rfl, rfl⟩, hc, hf, hl⟩ := Any7.bits_TrailingZeros tzLays n (by omega) w (fun _ => hI w hw) cs
  exact ⟨_, _, ⟨fr, hc, hf, hl⟩, by simp [VRel], Below.refl _ _⟩
theorem tz_enters : Enters' Tryd.prog 87 := enters_of tzLays.f27 (by kernel_rfl) rfl
end Go.Proofs.YtjjndoigkhabdaaDoor
namespace Go.Proofs.YtjjndoigkhabdaaDoor
open Go Go.AM Go.Proofs Go.RowKit
theorem list2 {xs : List Int} (h : xs.length = 2) : ∃ a b, xs = [a, b] := by
  match xs, h with
  | [a, b], _ => exact ⟨a, b, rfl⟩
theorem eq72 (w : World) (x0 x1 y0 y1 : Int) : (Op.equalIn 10000 72 (.agg #[.int .i64 x0, .int .i64 x1]) (.agg #[.int .i64 y0, .int .i64 y1])).run C.P w = .ok ([x0, x1] == [y0, y1]) w := by
  rw [run_equalIn_struct w 9999 72 _ _ (by kernel_rfl) (by kernel_rfl)]
  have hi : Tryd.prog.underlying 3 = some (.int .i64) := Tryd.underlying3
  have e : ∀ a b : Int, (Op.equalIn 9999 3 (.int .i64 a) (.int .i64 b)).run Tryd.prog w = .ok (a == b) w := fun a b => run_equalIn_int w 9998 3 .i64 .i64 a b hi
  have pt : ∀ (a b : Int) (k : Nat), k < 2 → (part 3 #[.int .i64 a, .int .i64 b] k).run Tryd.prog w = .ok (.int .i64 (if k = 0 then a else b)) w := by
    intro a b k hk
    have : k = 0 ∨ k = 1 := by omega
    rcases this with rfl | rfl <;> go_simp
  simp [Tryd.underlying72, Program.fieldsOf, C, Op.eqFields, pt, e]
  by_cases h1 : x0 = y0 <;> by_cases h2 : x1 = y1 <;> simp [h1, h2]
theorem eqOk : EqOk C := by
  intro t n ht xs ys hx hy neg xo yo w
  obtain ⟨rfl, rfl⟩ : t = 72 ∧ n = 2 := by
    simp only [C] at ht
    split at ht
    · rename_i h; cases ht; exact ⟨by simpa using h, rfl⟩
    · cases ht
  obtain ⟨x0, x1, rfl⟩ := list2 hx
  obtain ⟨y0, y1, rfl⟩ := list2 hy
  have g : ∀ op, (eqGuard op 72 xo yo (.agg (ints [x0, x1])) (.agg (ints [y0, y1]))).run C.P w = .ok () w := fun op => run_eqGuard_agg w op 72 xo yo _ _ (by kernel_rfl)
  have e := eq72 w x0 x1 y0 y1
  cases neg
  · simp only [Bool.false_eq_true, if_false, Sem.run_bind, g, Result.andThen_ok, run_eql_struct]
    simp [ints] at e ⊢; rw [e]; rfl
  · simp only [if_true, Sem.run_bind, g, Result.andThen_ok, run_neq_struct]
    simp [ints] at e ⊢; rw [e]; simp [Result.andThen, Bool.not_and]
theorem eOk : EOk C TzI E where
  kd := rfl
  fn := fun f af h => tab_ok (f, af) (lookup_mem h)
  prim := fun f g h => by
    simp only [C, kd] at h
    split at h
    · cases h
    · split at h
      · cases h
      · split at h
        · rename_i e
          cases h
          subst e
          exact ⟨tz_enters, tz_prim TzI fun _ h => h⟩
        · cases h
  stable := tzI_stable
  eq := eqOk
  mixed := mixed
theorem hrelI {ρ : Mp} {H : Heap} {w : World} {I : World → Prop} (h : FRel C ρ H w) (hI : I w) : HRel C I ρ H.length w H w where
  below := Below.refl _ _
  inv := hI
  lt := Nat.le_refl _
  dom := h.1
  own b r e hb := absurd (h.1 b r e) (by omega)
  apart b b' r r' k k' e _ hb := absurd (h.1 b r e) (by omega)
  blk b r k e hk := by
    have hb : ¬ H.length ≤ b := by have := h.1 b r e; omega
    have := h.2 b r k e hk
    cases k with
    | cells vs => exact ⟨this.1, fun q => absurd q hb, fun _ => this.2.2 (fun q => q)⟩
    | dead => trivial
    | loop st pend nt fr ps asg body => exact fun q => absurd q hb
/-- from the abstract machine to the row's walk -/
theorem walk_lawI {f : Nat} {vs : List AV} {H : Heap} (hx : WpF E H.length f vs H fun v _ => v = .b true) {ρ : Mp} {w : World} (hF : FRel C ρ H w) (hI : TzI w) {args : Array Value} (ha : VRelL ρ vs args.toList) :
    Calls C.P f args w fun e W' => e = .returned (.bool true) ∧ Below w.heap.size w W' := by
  obtain ⟨n, v, H', h1, rfl⟩ := hx
  refine (calls_of eOk rfl h1 (hrelI hF hI) ha (Nat.le_refl _)).mono fun e W' h => ?_
  obtain ⟨ρ', x, rfl, h2, h3, _⟩ := h
  rw [h2.bool]
  exact ⟨rfl, h3.below⟩
end Go.Proofs.YtjjndoigkhabdaaDoor
namespace Go.Proofs.YtjjndoigkhabdaaDoor
open Go Go.AM Go.Proofs Go.ChangeShapes Go.WideShapes Go.ChangeAt Go.WideMaps Go.WideElems Go.RowKit
theorem gT64 : Tryd.prog.globalNamed "math/bits.deBruijn64tab" = some 1 := by kernel_rfl
theorem tT64 : (Tryd.prog.globals[1]?).map (·.type) = some 118 := by kernel_rfl
abbrev laid2 {H : Type} : List (String × DataW H) := [("math/bits.deBruijn32tab", Rows.laid_math_bits_deBruijn32tab), ("math/bits.deBruijn64tab", Rows.laid_math_bits_deBruijn64tab)]
/-- the door's own heap meets the condition -/
theorem door_met (os : Os) (args : Array Value) : laidMetH Tryd.prog laid2 ((World.doorLaid Tryd.prog 400 os).forCall (fun _ _ => 0) ⟨#[], args, []⟩).memory :=
  laidMetH_of_parts3 (fuel := 8) (laidMet_of_run' 8 (by kernel_rfl) (by kernel_rfl)) (by kernel_rfl) (by kernel_rfl)
theorem lits64 {H : Type} : ∃ l : List (DataW H), Rows.laid_math_bits_deBruijn64tab = .agg l ∧ l = Lib.deBruijn64tab.map fun k : Nat => .lit (.int .u8 (k : Int)) := ⟨_, rfl, rfl⟩
theorem tzI_of_laid {W : World} (h : laidMetH Tryd.prog laid2 W) : TzI W := by
  rw [MakeChecks.laidMetH_plain _ _ _ (by kernel_rfl)] at h
  obtain ⟨ps, ⟨g0, t0, cs0, f0, p0, q0, hg0, ht0, hv0, hd0, ⟨g1, t1, cs1, f1, p1, q1, hg1, ht1, hv1, hd1, _, _⟩, _⟩, _, _⟩ := h
  obtain rfl := Option.some.inj (gT64.symm.trans hg1)
  obtain rfl := Option.some.inj (tT64.symm.trans ht1)
  intro j hj
  have hj64 : j < 64 := hj
  obtain ⟨xs, m1, rfl, hx1, hlen, hn3, hel⟩ := DataW.trod_array Tryd.underlying118 hd1
  have c5 : Tryd.prog.cellsOf 5 = 1 := by kernel_rfl
  have h0 := hel j hj64
  obtain ⟨l, el, hl⟩ := lits64 (H := _)
  simp only [Prod.mk.injEq] at hx1
  rw [el] at hx1
  have hmap : l = xs.map (·.1) := by
    have := hx1.1
    simpa using this
  have hxj : xs[j]? = some (xs[j]'(by omega)) := List.getElem?_eq_getElem (by omega)
  rw [hxj, c5, Nat.mul_one] at h0
  obtain ⟨k, e1, e2, _⟩ := DataW.trod_int Tryd.underlying5 h0
  have e3 : l[j]? = some (xs[j]'(by omega)).1 := by rw [hmap, List.getElem?_map, hxj]; rfl
  rw [e2, hl, List.getElem?_map] at e3
  have e4 : Lib.deBruijn64tab[j]? = some (Lib.deBruijn64tab.getD j 0) := by
    rw [List.getD_eq_getElem?_getD]
    have : j < Lib.deBruijn64tab.length := hj
    rw [List.getElem?_eq_getElem this]; rfl
  rw [e4] at e3
  simp only [Option.map_some, Option.some.injEq, DataW.lit.injEq, Lit.int.injEq, true_and] at e3
  have hc := World.var?_cell hg1 hv1 j
  have e5 : cs1[j]? = some (.int .u8 k) := by
    have : (cs1.toList.drop j).take 1 = [.int .u8 k] := e1
    have := take1 this
    simpa using this
  rw [e5, ← e3] at hc
  exact hc
end Go.Proofs.YtjjndoigkhabdaaDoor
namespace Go.Proofs.YtjjndoigkhabdaaDoor
open Go Go.AM Go.Proofs
theorem equal_ret {p q : Nat → Prop} {H : Heap} {v u : AV} {xs ys : List Int} (hx : Sl p H v xs) (hy : Sl q H u ys) : RetP E 21 [v, u] H (.b (decide (xs = ys))) := by
  refine RetP.ro rfl fn21 rfl rfl ?_
  unfold f21A
  have hbx := hx.bound
  repeat' (first | refine condP_split (fun _ => ?_) (fun _ => ?_) | refine guardP_split (fun _ => ?_) (fun _ => ?_) | refine guardP_splitF (fun _ => ?_) (fun _ => ?_) | (simp (disch := (first | assumption | omega | (simp only [List.length_append, List.length_cons, List.length_nil]; omega))) only [↓wD,wU,Nat.reduceBEq,zx150,zx151,zx159,zx160,zx161,zx162,Nat.reduceAdd,Nat.reduceSub,Nat.reduceMul,Nat.reduceLeDiff,Nat.reduceLT,Nat.reduceEqDiff,Int.reduceAdd,Int.reduceSub,Int.reduceMul,Int.reduceNeg,Int.reduceLT,Int.reduceLE,Int.reduceEq,Int.reduceToNat,Int.cast_ofNat_Int,↓reduceIte, *, hx.I, hy.I]))
  · exact avb_f fun h => by simp_all
  · have hl : xs.length = ys.length := by omega
    refine Wp.for xs.length (fun i a H' => H' = H ∧ a 0 = v ∧ a 1 = u ∧ a 12 = .i xs.length ∧ a 13 = .i i ∧ xs.take i = ys.take i) ?_ ?_
    · rintro i a H' hi ⟨rfl, h0, h1, h12, h13, hh⟩ ih
      simp (disch := (first | assumption | omega | (simp only [List.length_append, List.length_cons, List.length_nil]; omega))) only [↓wD,wU,Nat.reduceBEq,zx150,zx151,zx159,zx160,zx161,zx162,Nat.reduceAdd,Nat.reduceSub,Nat.reduceMul,Nat.reduceLeDiff,Nat.reduceLT,Nat.reduceEqDiff,Int.reduceAdd,Int.reduceSub,Int.reduceMul,Int.reduceNeg,Int.reduceLT,Int.reduceLE,Int.reduceEq,Int.reduceToNat,Int.cast_ofNat_Int,↓reduceIte, *]
      refine condP_split (fun hlt => ?_) (fun hlt => ?_)
      · have hi' : i < xs.length := by omega
        repeat' (first | refine condP_split (fun _ => ?_) (fun _ => ?_) | refine guardP_split (fun _ => ?_) (fun _ => ?_) | refine guardP_splitF (fun _ => ?_) (fun _ => ?_) | (simp (disch := (first | assumption | omega | (simp only [List.length_append, List.length_cons, List.length_nil]; omega))) only [↓wD,wU,Nat.reduceBEq,zx150,zx151,zx159,zx160,zx161,zx162,Nat.reduceAdd,Nat.reduceSub,Nat.reduceMul,Nat.reduceLeDiff,Nat.reduceLT,Nat.reduceEqDiff,Int.reduceAdd,Int.reduceSub,Int.reduceMul,Int.reduceNeg,Int.reduceLT,Int.reduceLE,Int.reduceEq,Int.reduceToNat,Int.cast_ofNat_Int,↓reduceIte, *, hx.I, hy.I]))
        · exact avb_f fun h => by simp_all
        · refine (ih hi').go ⟨rfl, ?_⟩
          simp (disch := (first | assumption | omega | (simp only [List.length_append, List.length_cons, List.length_nil]; omega))) only [↓wD,wU,Nat.reduceBEq,zx150,zx151,zx159,zx160,zx161,zx162,Nat.reduceAdd,Nat.reduceSub,Nat.reduceMul,Nat.reduceLeDiff,Nat.reduceLT,Nat.reduceEqDiff,Int.reduceAdd,Int.reduceSub,Int.reduceMul,Int.reduceNeg,Int.reduceLT,Int.reduceLE,Int.reduceEq,Int.reduceToNat,Int.cast_ofNat_Int,↓reduceIte, *]
          exact take_eq_succ hh hi' (by omega) (by simp_all)
      · simp (disch := (first | assumption | omega | (simp only [List.length_append, List.length_cons, List.length_nil]; omega))) only [↓wD,wU,Nat.reduceBEq,zx150,zx151,zx159,zx160,zx161,zx162,Nat.reduceAdd,Nat.reduceSub,Nat.reduceMul,Nat.reduceLeDiff,Nat.reduceLT,Nat.reduceEqDiff,Int.reduceAdd,Int.reduceSub,Int.reduceMul,Int.reduceNeg,Int.reduceLT,Int.reduceLE,Int.reduceEq,Int.reduceToNat,Int.cast_ofNat_Int,↓reduceIte, *]
        exact avb_t (take_all hh hl (by omega))
    · (simp (disch := (first | assumption | omega | (simp only [List.length_append, List.length_cons, List.length_nil]; omega))) only [↓wD,wU,Nat.reduceBEq,zx150,zx151,zx159,zx160,zx161,zx162,Nat.reduceAdd,Nat.reduceSub,Nat.reduceMul,Nat.reduceLeDiff,Nat.reduceLT,Nat.reduceEqDiff,Int.reduceAdd,Int.reduceSub,Int.reduceMul,Int.reduceNeg,Int.reduceLT,Int.reduceLE,Int.reduceEq,Int.reduceToNat,Int.cast_ofNat_Int,↓reduceIte, *]) <;> simp
theorem clone_ret {p : Nat → Prop} {H : Heap} {v : AV} {xs : List Int} (hx : Sl p H v xs) (hs : xs.length * 8 ≤ 1099511627776) : Ret E 33 [v] (fun _ => False) H xs := by
  refine Ret.ro rfl fn33 rfl ?_
  unfold f33A
  have main : ∀ {Q : AV × Heap → Prop}, (∀ v' H', Sl (fun b => H.length ≤ b) H' v' xs → Q (v', H')) → @optP _ (appendV H.length 1 8 (.s 1 H.length 0 0 (some 0)) v (H ++ [.cells []])) ⟨Q⟩ := fun {Q} go => by
    have ha : Acc H.length (fun _ => True) (H ++ [.cells []]) (.s 1 H.length 0 0 (some 0)) ([] : List Int) := Acc.fresh0 (Nat.le_refl _)
    refine ha.extend (q := fun b => b < H.length) (Nat.le_refl _) (by simp) ((hx.low.app [.cells []]).weak fun b h => h.2) (fun b hb => ⟨trivial, ?_⟩) (by simpa using hs) (by omega) fun v' H' h' _ => go _ _ ?_
    · intro e; simp only [AV.blk, Option.some.injEq] at e; omega
    · rw [List.nil_append] at h'
      rcases h' with h' | ⟨b, o, c, k, e, hb, hk, h1, h2, h3⟩
      · exact .inl h'
      · exact .inr ⟨b, o, c, k, e, hb, hk, h1, h2, h3⟩
  rcases hx with ⟨rfl, rfl⟩ | ⟨b, o, c, k, e, hb, hk, h1, h2, h3⟩
  · simp (disch := (first | assumption | omega | (simp only [List.length_append, List.length_cons, List.length_nil]; omega))) only [↓wD,wU,Nat.reduceBEq,zx150,zx151,zx159,zx160,zx161,zx162,Nat.reduceAdd,Nat.reduceSub,Nat.reduceMul,Nat.reduceLeDiff,Nat.reduceLT,Nat.reduceEqDiff,Int.reduceAdd,Int.reduceSub,Int.reduceMul,Int.reduceNeg,Int.reduceLT,Int.reduceLE,Int.reduceEq,Int.reduceToNat,Int.cast_ofNat_Int,↓reduceIte, *]
    exact Sl.nil
  · subst e
    simp (disch := (first | assumption | omega | (simp only [List.length_append, List.length_cons, List.length_nil]; omega))) only [↓wD,wU,Nat.reduceBEq,zx150,zx151,zx159,zx160,zx161,zx162,Nat.reduceAdd,Nat.reduceSub,Nat.reduceMul,Nat.reduceLeDiff,Nat.reduceLT,Nat.reduceEqDiff,Int.reduceAdd,Int.reduceSub,Int.reduceMul,Int.reduceNeg,Int.reduceLT,Int.reduceLE,Int.reduceEq,Int.reduceToNat,Int.cast_ofNat_Int,↓reduceIte, *]
    refine main fun v' H' h' => ?_
    simp (disch := (first | assumption | omega | (simp only [List.length_append, List.length_cons, List.length_nil]; omega))) only [↓wD,wU,Nat.reduceBEq,zx150,zx151,zx159,zx160,zx161,zx162,Nat.reduceAdd,Nat.reduceSub,Nat.reduceMul,Nat.reduceLeDiff,Nat.reduceLT,Nat.reduceEqDiff,Int.reduceAdd,Int.reduceSub,Int.reduceMul,Int.reduceNeg,Int.reduceLT,Int.reduceLE,Int.reduceEq,Int.reduceToNat,Int.cast_ofNat_Int,↓reduceIte, *]
    exact h'.weak fun _ h => .inr h
end Go.Proofs.YtjjndoigkhabdaaDoor
namespace Go.Proofs.YtjjndoigkhabdaaDoor
open Go Go.AM Go.Proofs
theorem _root_.Go.AM.RetP.prim {E : Tab} {f : Nat} {g : List AV → Option AV} {vs : List AV} {v : AV} {H : Heap} (hk : E.kd f = .prim g) (h : g vs = some v) (hv : v.pure = true) (ha : AV.pureAll vs = true) : RetP E f vs H v := fun lo => by
  refine ⟨0, v, H, ?_, rfl, rfl⟩
  unfold callF
  simp [hk, h, hv, ha]
/-! ### Bits -/
theorem ofI {a : Nat} (h : a ≤ 9223372036854775807) : (BitVec.ofInt 64 (a : Int)).toNat = a := by
  rw [BitVec.ofInt_natCast, BitVec.toNat_ofNat]; exact Nat.mod_eq_of_lt (by omega)
theorem and_le {a b : Nat} (h : a ≤ 9223372036854775807) : a &&& b ≤ 9223372036854775807 := Nat.le_trans Nat.and_le_left h
theorem b_and {a b : Nat} (h : a ≤ 9223372036854775807) (h' : b ≤ 9223372036854775807) : binA .and (.i (a : Int)) (.i (b : Int)) = some (.i ((a &&& b : Nat) : Int)) := by
  have e : (BitVec.ofInt 64 (a : Int) &&& BitVec.ofInt 64 (b : Int)).toNat = a &&& b := by rw [BitVec.toNat_and, ofI h, ofI h']
  show some (AV.int .i64 (IntKind.wrap .i64 ((BitVec.ofInt 64 (a : Int) &&& BitVec.ofInt 64 (b : Int)).toNat : Int))) = _
  have := and_le (b := b) h
  rw [e, zx172 (by omega) (by omega)]
/-- the bits of a that are not in b -/
def andN (a b : Nat) : Nat := a &&& (18446744073709551615 - b)
theorem andN_bit {a b : Nat} (h : a ≤ 9223372036854775807) (h' : b ≤ 9223372036854775807) (i : Nat) : (andN a b).testBit i = (a.testBit i && !b.testBit i) := by
  unfold andN
  rw [Nat.testBit_and]
  have e := Nat.testBit_two_pow_sub_succ (n := 64) (x := b) (by omega) i
  rw [show 2 ^ 64 - (b + 1) = 18446744073709551615 - b by omega] at e
  rw [e]
  by_cases hi : i < 64
  · simp [hi]
  · have : a.testBit i = false := Nat.testBit_lt_two_pow (Nat.lt_of_lt_of_le (show a < 2 ^ 64 by omega) (Nat.pow_le_pow_right (by omega) (by omega)))
    simp [this]
theorem andN_le {a b : Nat} : andN a b ≤ a := Nat.and_le_left
theorem b_andNot {a b : Nat} (h : a ≤ 9223372036854775807) (h' : b ≤ 9223372036854775807) : binA .andNot (.i (a : Int)) (.i (b : Int)) = some (.i ((andN a b : Nat) : Int)) := by
  have e : (BitVec.ofInt 64 (a : Int) &&& ~~~(BitVec.ofInt 64 (b : Int))).toNat = andN a b := by
    rw [BitVec.toNat_and, BitVec.toNat_not, ofI h, ofI h']
    unfold andN
    congr 1
  show some (AV.int .i64 (IntKind.wrap .i64 ((BitVec.ofInt 64 (a : Int) &&& ~~~(BitVec.ofInt 64 (b : Int))).toNat : Int))) = _
  have := andN_le (a := a) (b := b)
  rw [e, zx172 (by omega) (by omega)]
theorem b_shl {a b : Nat} (h' : b ≤ 63) (h : a <<< b ≤ 9223372036854775807) : binA .shl (.i (a : Int)) (.i (b : Int)) = some (.i ((a <<< b : Nat) : Int)) := by
  show (if (b : Int) < 0 then none else some (AV.int .i64 (IntKind.wrap .i64 ((a : Int) * 2 ^ (min (b : Int).toNat 64))))) = _
  have e : (a : Int) * 2 ^ b = ((a <<< b : Nat) : Int) := by rw [Nat.shiftLeft_eq]; simp
  rw [if_neg (by omega), show min (b : Int).toNat 64 = b by omega, e]
  generalize a <<< b = c at h
  rw [zx172 (by omega) (by omega)]
/-! ### Blocks -/
def tzQ (x : Nat) : Nat := Lib.ctz 64 x
def yQ (x : Nat) : Nat := x >>> tzQ x
def nQ (x : Nat) : Nat := 18446744073709551615 - yQ x
def cnQ (x : Nat) : Nat := Lib.ctz 64 (nQ x)
def nxQ (x : Nat) : Nat := yQ x >>> cnQ x
def blkF : Nat → Nat → List Int
  | 0, _ => []
  | f + 1, x => if x = 0 then [] else (cnQ x : Int) :: blkF f (nxQ x)
/-- the blocks of a line -/
def blkL (x : Nat) : List Int := blkF 5 x
def osame (o : Option AV) (v : AV) : Bool := match o with
  | some u => u.same v
  | none => false
theorem osame_eq {o : Option AV} {v : AV} (h : osame o v = true) : o = some v := by
  cases o with
  | none => cases h
  | some u => rw [AV.eq_of_same _ _ h]
def qOk (x : Nat) : Bool := x = 0 || (decide (nxQ x < x) && decide (cnQ x ≤ 5) && decide (blkL x = (cnQ x : Int) :: blkL (nxQ x)) && osame (tzP [.int .u64 x]) (.i (tzQ x)) && osame (binA .shr (.int .u64 x) (.i (tzQ x))) (.int .u64 (yQ x)) &&
  osame (unA .xor (.int .u64 (yQ x))) (.int .u64 (nQ x)) && osame (tzP [.int .u64 (nQ x)]) (.i (cnQ x)) && osame (binA .shr (.int .u64 (yQ x)) (.i (cnQ x))) (.int .u64 (nxQ x)))
theorem qOk_all : ∀ x, x < 32 → qOk x = true := by decide +kernel
theorem q_facts {x : Nat} (h : x < 32) (h0 : x ≠ 0) : nxQ x < x ∧ cnQ x ≤ 5 ∧ blkL x = (cnQ x : Int) :: blkL (nxQ x) ∧ tzP [.int .u64 (x : Int)] = some (.i (tzQ x : Nat)) ∧ binA .shr (.int .u64 (x : Int)) (.i (tzQ x : Nat)) = some (.int .u64 (yQ x : Nat)) ∧
    unA .xor (.int .u64 (yQ x : Nat)) = some (.int .u64 (nQ x : Nat)) ∧ tzP [.int .u64 (nQ x : Nat)] = some (.i (cnQ x : Nat)) ∧ binA .shr (.int .u64 (yQ x : Nat)) (.i (cnQ x : Nat)) = some (.int .u64 (nxQ x : Nat)) := by
  have q := qOk_all x h
  unfold qOk at q
  simp only [h0, decide_false, Bool.false_or, Bool.and_eq_true, decide_eq_true_eq] at q
  obtain ⟨⟨⟨⟨⟨⟨⟨q1, q2⟩, q3⟩, q4⟩, q5⟩, q6⟩, q7⟩, q8⟩ := q
  exact ⟨q1, q2, q3, osame_eq q4, osame_eq q5, osame_eq q6, osame_eq q7, osame_eq q8⟩
theorem blkL_0 : blkL 0 = [] := rfl
theorem blkL_len (x : Nat) : (blkL x).length ≤ 5 := by
  have : ∀ f x, (blkF f x).length ≤ f := by
    intro f
    induction f with
    | zero => intro x; simp [blkF]
    | succ f ih => intro x; unfold blkF; split <;> simp; exact ih _
  exact this 5 x
theorem blocks_ret {H : Heap} {x : Nat} (hx : x < 32) : Ret E 56 [.i x] (fun _ => False) H (blkL x) := by
  refine Ret.ro rfl fn56 rfl ?_
  unfold f56A
  have hc : convV .u64 (.i (x : Int)) = some (.int .u64 x) := by rw [zx95, wrapU (by omega) (by omega)]
  simp (disch := (first | assumption | omega | (simp only [List.length_append, List.length_cons, List.length_nil]; omega))) only [↓wD,wU,Nat.reduceBEq,zx150,zx151,zx159,zx160,zx161,zx162,Nat.reduceAdd,Nat.reduceSub,Nat.reduceMul,Nat.reduceLeDiff,Nat.reduceLT,Nat.reduceEqDiff,Int.reduceAdd,Int.reduceSub,Int.reduceMul,Int.reduceNeg,Int.reduceLT,Int.reduceLE,Int.reduceEq,Int.reduceToNat,Int.cast_ofNat_Int,↓reduceIte, hc]
  refine Wp.dec (fun y a H' => ∃ u acc, a 4 = .int .u64 y ∧ a 3 = u ∧ y < 32 ∧ Gr H H' ∧ Acc H.length (fun _ => False) H' u acc ∧ acc ++ blkL y = blkL x) x ?_ ?_
  · rintro y a H1 ⟨u, acc, a4, a3, hy, hg, hu, he⟩ ih
    by_cases h0 : y = 0
    · subst h0
      rw [blkL_0, List.append_nil] at he
      subst he
      have hd : decide (¬ ((0 : Nat) : Int) = 0) = false := by decide
      simp (disch := (first | assumption | omega | (simp only [List.length_append, List.length_cons, List.length_nil]; omega))) only [↓wD,wU,Nat.reduceBEq,zx150,zx151,zx159,zx160,zx161,zx162,Nat.reduceAdd,Nat.reduceSub,Nat.reduceMul,Nat.reduceLeDiff,Nat.reduceLT,Nat.reduceEqDiff,Int.reduceAdd,Int.reduceSub,Int.reduceMul,Int.reduceNeg,Int.reduceLT,Int.reduceLE,Int.reduceEq,Int.reduceToNat,Int.cast_ofNat_Int,↓reduceIte, a4, a3, hd]
      exact hu.sl
    · obtain ⟨q1, q2, q3, q4, q5, q6, q7, q8⟩ := q_facts hy h0
      have hd : decide (¬ (y : Int) = 0) = true := decide_eq_true (by omega)
      have t1 := RetP.prim (E := E) (H := H1) (f := 87) rfl q4 rfl rfl
      have t2 := RetP.prim (E := E) (H := H1) (f := 87) rfl q7 rfl rfl
      have hl : acc.length + (blkL y).length = (blkL x).length := by rw [← he, List.length_append]
      have hl5 := blkL_len x
      simp (disch := (first | assumption | omega | (simp only [List.length_append, List.length_cons, List.length_nil]; omega))) only [↓wD,wU,Nat.reduceBEq,zx150,zx151,zx159,zx160,zx161,zx162,Nat.reduceAdd,Nat.reduceSub,Nat.reduceMul,Nat.reduceLeDiff,Nat.reduceLT,Nat.reduceEqDiff,Int.reduceAdd,Int.reduceSub,Int.reduceMul,Int.reduceNeg,Int.reduceLT,Int.reduceLE,Int.reduceEq,Int.reduceToNat,Int.cast_ofNat_Int,↓reduceIte, a4, a3, hd, t1.call, q5, q6, t2.call, q8]
      refine hu.pushI (Nat.le_refl _) hg.1 (by omega) fun u' H2 hu' hk2 _ _ => ?_
      simp (disch := (first | assumption | omega | (simp only [List.length_append, List.length_cons, List.length_nil]; omega))) only [↓wD,wU,Nat.reduceBEq,zx150,zx151,zx159,zx160,zx161,zx162,Nat.reduceAdd,Nat.reduceSub,Nat.reduceMul,Nat.reduceLeDiff,Nat.reduceLT,Nat.reduceEqDiff,Int.reduceAdd,Int.reduceSub,Int.reduceMul,Int.reduceNeg,Int.reduceLT,Int.reduceLE,Int.reduceEq,Int.reduceToNat,Int.cast_ofNat_Int,↓reduceIte, q8]
      refine ih.go ⟨nxQ y, q1, u', acc ++ [(cnQ y : Int)], ?_⟩
      simp (disch := (first | assumption | omega | (simp only [List.length_append, List.length_cons, List.length_nil]; omega))) only [↓wD,wU,Nat.reduceBEq,zx150,zx151,zx159,zx160,zx161,zx162,Nat.reduceAdd,Nat.reduceSub,Nat.reduceMul,Nat.reduceLeDiff,Nat.reduceLT,Nat.reduceEqDiff,Int.reduceAdd,Int.reduceSub,Int.reduceMul,Int.reduceNeg,Int.reduceLT,Int.reduceLE,Int.reduceEq,Int.reduceToNat,Int.cast_ofNat_Int,↓reduceIte]
      refine ⟨by omega, hg.push hu (Nat.le_refl _) hk2, hu', ?_⟩
      rw [← he, q3]; simp
  · simp (disch := (first | assumption | omega | (simp only [List.length_append, List.length_cons, List.length_nil]; omega))) only [↓wD,wU,Nat.reduceBEq,zx150,zx151,zx159,zx160,zx161,zx162,Nat.reduceAdd,Nat.reduceSub,Nat.reduceMul,Nat.reduceLeDiff,Nat.reduceLT,Nat.reduceEqDiff,Int.reduceAdd,Int.reduceSub,Int.reduceMul,Int.reduceNeg,Int.reduceLT,Int.reduceLE,Int.reduceEq,Int.reduceToNat,Int.cast_ofNat_Int,↓reduceIte]
    exact ⟨.nils, [], rfl, hx, Gr.refl _, Acc.nil, rfl⟩
end Go.Proofs.YtjjndoigkhabdaaDoor
namespace Go.Proofs.YtjjndoigkhabdaaDoor
open Go Go.AM Go.Proofs
theorem b_shl1 {n : Nat} (h : n ≤ 62) : binA .shl (.i 1) (.i (n : Int)) = some (.i ((2 ^ n : Nat) : Int)) := by
  have hp : 2 ^ n ≤ 2 ^ 62 := Nat.pow_le_pow_right (by omega) h
  have := b_shl (a := 1) (b := n) (by omega) (by rw [Nat.shiftLeft_eq]; omega)
  rw [Nat.shiftLeft_eq, Nat.one_mul] at this
  exact this
theorem pow5 {n : Nat} (h : n ≤ 5) : 1 ≤ 2 ^ n ∧ 2 ^ n ≤ 32 := ⟨Nat.one_le_two_pow, Nat.pow_le_pow_right (n := 2) (by omega) h⟩
def SizeP (n : Int) : Prop := 1 ≤ n ∧ n ≤ 5
instance (n : Int) : Decidable (SizeP n) := by unfold SizeP; infer_instance
def SetP (n x : Int) : Prop := SizeP n ∧ 0 ≤ x ∧ x < ((2 ^ n.toNat : Nat) : Int)
instance (n x : Int) : Decidable (SetP n x) := by unfold SetP; infer_instance
theorem SizeP.nat {n : Int} (h : SizeP n) : ∃ m : Nat, n = m ∧ 1 ≤ m ∧ m ≤ 5 := by
  obtain ⟨m, rfl⟩ := Int.eq_ofNat_of_zero_le (show 0 ≤ n by have := h.1; omega)
  exact ⟨m, rfl, by have := h.1; omega, by have := h.2; omega⟩
theorem SetP.nat {n x : Int} (h : SetP n x) : ∃ m y : Nat, n = m ∧ x = y ∧ 1 ≤ m ∧ m ≤ 5 ∧ y < 2 ^ m ∧ y < 32 := by
  obtain ⟨m, rfl, h1, h2⟩ := h.1.nat
  obtain ⟨y, rfl⟩ := Int.eq_ofNat_of_zero_le h.2.1
  have h3 := h.2.2
  rw [Int.toNat_natCast] at h3
  have := pow5 h2
  exact ⟨m, y, rfl, rfl, h1, h2, by omega, by omega⟩
theorem isSize_ret {H : Heap} {n : Int} : RetP E 86 [.i n] H (.b (decide (SizeP n))) := by
  refine RetP.ro rfl fn86 rfl rfl ?_
  unfold f86A
  by_cases h1 : 1 ≤ n
  · by_cases h2 : n ≤ 5
    · have e : decide (SizeP n) = true := decide_eq_true ⟨h1, h2⟩
      simp (disch := (first | assumption | omega | (simp only [List.length_append, List.length_cons, List.length_nil]; omega))) only [↓wD,wU,Nat.reduceBEq,zx150,zx151,zx159,zx160,zx161,zx162,Nat.reduceAdd,Nat.reduceSub,Nat.reduceMul,Nat.reduceLeDiff,Nat.reduceLT,Nat.reduceEqDiff,Int.reduceAdd,Int.reduceSub,Int.reduceMul,Int.reduceNeg,Int.reduceLT,Int.reduceLE,Int.reduceEq,Int.reduceToNat,Int.cast_ofNat_Int,↓reduceIte, decide_eq_true h1, decide_eq_true h2, e]
    · have e : decide (SizeP n) = false := decide_eq_false fun h => h2 h.2
      simp (disch := (first | assumption | omega | (simp only [List.length_append, List.length_cons, List.length_nil]; omega))) only [↓wD,wU,Nat.reduceBEq,zx150,zx151,zx159,zx160,zx161,zx162,Nat.reduceAdd,Nat.reduceSub,Nat.reduceMul,Nat.reduceLeDiff,Nat.reduceLT,Nat.reduceEqDiff,Int.reduceAdd,Int.reduceSub,Int.reduceMul,Int.reduceNeg,Int.reduceLT,Int.reduceLE,Int.reduceEq,Int.reduceToNat,Int.cast_ofNat_Int,↓reduceIte, decide_eq_true h1, decide_eq_false h2, e]
  · have e : decide (SizeP n) = false := decide_eq_false fun h => h1 h.1
    simp (disch := (first | assumption | omega | (simp only [List.length_append, List.length_cons, List.length_nil]; omega))) only [↓wD,wU,Nat.reduceBEq,zx150,zx151,zx159,zx160,zx161,zx162,Nat.reduceAdd,Nat.reduceSub,Nat.reduceMul,Nat.reduceLeDiff,Nat.reduceLT,Nat.reduceEqDiff,Int.reduceAdd,Int.reduceSub,Int.reduceMul,Int.reduceNeg,Int.reduceLT,Int.reduceLE,Int.reduceEq,Int.reduceToNat,Int.cast_ofNat_Int,↓reduceIte, decide_eq_false h1, e]
theorem rsize_ret {H : Heap} {n : Int} : RetP E 59 [.i n] H (.b (decide (SizeP n))) := by
  refine RetP.ro rfl fn59 rfl rfl ?_
  unfold f59A
  by_cases h1 : 1 ≤ n
  · by_cases h2 : n ≤ 5
    · have e : decide (SizeP n) = true := decide_eq_true ⟨h1, h2⟩
      simp (disch := (first | assumption | omega | (simp only [List.length_append, List.length_cons, List.length_nil]; omega))) only [↓wD,wU,Nat.reduceBEq,zx150,zx151,zx159,zx160,zx161,zx162,Nat.reduceAdd,Nat.reduceSub,Nat.reduceMul,Nat.reduceLeDiff,Nat.reduceLT,Nat.reduceEqDiff,Int.reduceAdd,Int.reduceSub,Int.reduceMul,Int.reduceNeg,Int.reduceLT,Int.reduceLE,Int.reduceEq,Int.reduceToNat,Int.cast_ofNat_Int,↓reduceIte, decide_eq_true h1, decide_eq_true h2, e]
    · have e : decide (SizeP n) = false := decide_eq_false fun h => h2 h.2
      simp (disch := (first | assumption | omega | (simp only [List.length_append, List.length_cons, List.length_nil]; omega))) only [↓wD,wU,Nat.reduceBEq,zx150,zx151,zx159,zx160,zx161,zx162,Nat.reduceAdd,Nat.reduceSub,Nat.reduceMul,Nat.reduceLeDiff,Nat.reduceLT,Nat.reduceEqDiff,Int.reduceAdd,Int.reduceSub,Int.reduceMul,Int.reduceNeg,Int.reduceLT,Int.reduceLE,Int.reduceEq,Int.reduceToNat,Int.cast_ofNat_Int,↓reduceIte, decide_eq_true h1, decide_eq_false h2, e]
  · have e : decide (SizeP n) = false := decide_eq_false fun h => h1 h.1
    simp (disch := (first | assumption | omega | (simp only [List.length_append, List.length_cons, List.length_nil]; omega))) only [↓wD,wU,Nat.reduceBEq,zx150,zx151,zx159,zx160,zx161,zx162,Nat.reduceAdd,Nat.reduceSub,Nat.reduceMul,Nat.reduceLeDiff,Nat.reduceLT,Nat.reduceEqDiff,Int.reduceAdd,Int.reduceSub,Int.reduceMul,Int.reduceNeg,Int.reduceLT,Int.reduceLE,Int.reduceEq,Int.reduceToNat,Int.cast_ofNat_Int,↓reduceIte, decide_eq_false h1, e]
theorem isSet_ret {H : Heap} {n x : Int} : RetP E 55 [.i n, .i x] H (.b (decide (SetP n x))) := by
  refine RetP.ro rfl fn55 rfl rfl ?_
  unfold f55A
  have hz := isSize_ret (H := H) (n := n)
  by_cases h : SizeP n
  · rw [decide_eq_true h] at hz
    obtain ⟨m, rfl, h1, h2⟩ := h.nat
    have e : decide (SetP (m : Int) x) = (decide (0 ≤ x) && decide (x < ((2 ^ m : Nat) : Int))) := by
      by_cases q1 : 0 ≤ x <;> by_cases q2 : x < ((2 ^ m : Nat) : Int) <;> simp only [q1, q2, decide_true, decide_false, Bool.and_true, Bool.and_false, Bool.true_and]
      · exact decide_eq_true ⟨h, q1, by rwa [Int.toNat_natCast]⟩
      · exact decide_eq_false fun q => q2 (by have := q.2.2; rwa [Int.toNat_natCast] at this)
      · exact decide_eq_false fun q => q1 q.2.1
      · exact decide_eq_false fun q => q1 q.2.1
    have hsh := b_shl1 (n := m) (by omega)
    rw [e]
    generalize 2 ^ m = M at hsh
    by_cases q1 : 0 ≤ x
    · simp (disch := (first | assumption | omega | (simp only [List.length_append, List.length_cons, List.length_nil]; omega))) only [↓wD,wU,Nat.reduceBEq,zx150,zx151,zx159,zx160,zx161,zx162,Nat.reduceAdd,Nat.reduceSub,Nat.reduceMul,Nat.reduceLeDiff,Nat.reduceLT,Nat.reduceEqDiff,Int.reduceAdd,Int.reduceSub,Int.reduceMul,Int.reduceNeg,Int.reduceLT,Int.reduceLE,Int.reduceEq,Int.reduceToNat,Int.cast_ofNat_Int,↓reduceIte, hz.call, hsh, decide_eq_true q1]
    · simp (disch := (first | assumption | omega | (simp only [List.length_append, List.length_cons, List.length_nil]; omega))) only [↓wD,wU,Nat.reduceBEq,zx150,zx151,zx159,zx160,zx161,zx162,Nat.reduceAdd,Nat.reduceSub,Nat.reduceMul,Nat.reduceLeDiff,Nat.reduceLT,Nat.reduceEqDiff,Int.reduceAdd,Int.reduceSub,Int.reduceMul,Int.reduceNeg,Int.reduceLT,Int.reduceLE,Int.reduceEq,Int.reduceToNat,Int.cast_ofNat_Int,↓reduceIte, hz.call, hsh, decide_eq_false q1]
  · rw [decide_eq_false h] at hz
    have e : decide (SetP n x) = false := decide_eq_false fun q => h q.1
    simp (disch := (first | assumption | omega | (simp only [List.length_append, List.length_cons, List.length_nil]; omega))) only [↓wD,wU,Nat.reduceBEq,zx150,zx151,zx159,zx160,zx161,zx162,Nat.reduceAdd,Nat.reduceSub,Nat.reduceMul,Nat.reduceLeDiff,Nat.reduceLT,Nat.reduceEqDiff,Int.reduceAdd,Int.reduceSub,Int.reduceMul,Int.reduceNeg,Int.reduceLT,Int.reduceLE,Int.reduceEq,Int.reduceToNat,Int.cast_ofNat_Int,↓reduceIte, hz.call, e]
theorem rset_ret {H : Heap} {n x : Int} : RetP E 20 [.i n, .i x] H (.b (decide (SetP n x))) := by
  refine RetP.ro rfl fn20 rfl rfl ?_
  unfold f20A
  have hz := rsize_ret (H := H) (n := n)
  by_cases h : SizeP n
  · rw [decide_eq_true h] at hz
    obtain ⟨m, rfl, h1, h2⟩ := h.nat
    have e : decide (SetP (m : Int) x) = (decide (0 ≤ x) && decide (x < ((2 ^ m : Nat) : Int))) := by
      by_cases q1 : 0 ≤ x <;> by_cases q2 : x < ((2 ^ m : Nat) : Int) <;> simp only [q1, q2, decide_true, decide_false, Bool.and_true, Bool.and_false, Bool.true_and]
      · exact decide_eq_true ⟨h, q1, by rwa [Int.toNat_natCast]⟩
      · exact decide_eq_false fun q => q2 (by have := q.2.2; rwa [Int.toNat_natCast] at this)
      · exact decide_eq_false fun q => q1 q.2.1
      · exact decide_eq_false fun q => q1 q.2.1
    have hsh := b_shl1 (n := m) (by omega)
    rw [e]
    generalize 2 ^ m = M at hsh
    by_cases q1 : 0 ≤ x
    · simp (disch := (first | assumption | omega | (simp only [List.length_append, List.length_cons, List.length_nil]; omega))) only [↓wD,wU,Nat.reduceBEq,zx150,zx151,zx159,zx160,zx161,zx162,Nat.reduceAdd,Nat.reduceSub,Nat.reduceMul,Nat.reduceLeDiff,Nat.reduceLT,Nat.reduceEqDiff,Int.reduceAdd,Int.reduceSub,Int.reduceMul,Int.reduceNeg,Int.reduceLT,Int.reduceLE,Int.reduceEq,Int.reduceToNat,Int.cast_ofNat_Int,↓reduceIte, hz.call, hsh, decide_eq_true q1]
    · simp (disch := (first | assumption | omega | (simp only [List.length_append, List.length_cons, List.length_nil]; omega))) only [↓wD,wU,Nat.reduceBEq,zx150,zx151,zx159,zx160,zx161,zx162,Nat.reduceAdd,Nat.reduceSub,Nat.reduceMul,Nat.reduceLeDiff,Nat.reduceLT,Nat.reduceEqDiff,Int.reduceAdd,Int.reduceSub,Int.reduceMul,Int.reduceNeg,Int.reduceLT,Int.reduceLE,Int.reduceEq,Int.reduceToNat,Int.cast_ofNat_Int,↓reduceIte, hz.call, hsh, decide_eq_false q1]
  · rw [decide_eq_false h] at hz
    have e : decide (SetP n x) = false := decide_eq_false fun q => h q.1
    simp (disch := (first | assumption | omega | (simp only [List.length_append, List.length_cons, List.length_nil]; omega))) only [↓wD,wU,Nat.reduceBEq,zx150,zx151,zx159,zx160,zx161,zx162,Nat.reduceAdd,Nat.reduceSub,Nat.reduceMul,Nat.reduceLeDiff,Nat.reduceLT,Nat.reduceEqDiff,Int.reduceAdd,Int.reduceSub,Int.reduceMul,Int.reduceNeg,Int.reduceLT,Int.reduceLE,Int.reduceEq,Int.reduceToNat,Int.cast_ofNat_Int,↓reduceIte, hz.call, e]
/-! ### Lines -/
def linesTo (i : Nat) (cl : List Int) : List Int := ((List.range i).filter fun x => decide (blkL x = cl)).map fun x : Nat => (x : Int)
/-- all lines of n squares with some blocks -/
def linesL (n : Nat) (cl : List Int) : List Int := linesTo (2 ^ n) cl
theorem linesTo_succ {i : Nat} {cl : List Int} : linesTo (i + 1) cl = linesTo i cl ++ if blkL i = cl then [(i : Int)] else [] := by
  unfold linesTo
  rw [List.range_succ, List.filter_append, List.map_append]
  by_cases h : blkL i = cl <;> simp [h]
theorem linesTo_len {i : Nat} {cl : List Int} : (linesTo i cl).length ≤ i := by
  unfold linesTo
  rw [List.length_map]
  exact Nat.le_trans (List.length_filter_le _ _) (by simp)
theorem lines_ret {p : Nat → Prop} {H : Heap} {v : AV} {n : Nat} {cl : List Int} (hc : Sl p H v cl) (hn : n ≤ 5) : Ret E 58 [.i n, v] (fun _ => False) H (linesL n cl) := by
  refine Ret.ro rfl fn58 rfl ?_
  unfold f58A
  have hsh := b_shl1 (n := n) (by omega)
  obtain ⟨p1, p2⟩ := pow5 hn
  unfold linesL
  generalize 2 ^ n = M at *
  simp (disch := (first | assumption | omega | (simp only [List.length_append, List.length_cons, List.length_nil]; omega))) only [↓wD,wU,Nat.reduceBEq,zx150,zx151,zx159,zx160,zx161,zx162,Nat.reduceAdd,Nat.reduceSub,Nat.reduceMul,Nat.reduceLeDiff,Nat.reduceLT,Nat.reduceEqDiff,Int.reduceAdd,Int.reduceSub,Int.reduceMul,Int.reduceNeg,Int.reduceLT,Int.reduceLE,Int.reduceEq,Int.reduceToNat,Int.cast_ofNat_Int,↓reduceIte, hsh]
  refine Wp.for M (fun i a H' => ∃ u, a 1 = v ∧ a 5 = u ∧ a 8 = .i M ∧ a 9 = .i i ∧ Gr H H' ∧ Acc H.length (fun _ => False) H' u (linesTo i cl)) ?_ ?_
  · rintro i a H1 hi ⟨u, a1, a5, a8, a9, hg, hu⟩ ih
    simp (disch := (first | assumption | omega | (simp only [List.length_append, List.length_cons, List.length_nil]; omega))) only [↓wD,wU,Nat.reduceBEq,zx150,zx151,zx159,zx160,zx161,zx162,Nat.reduceAdd,Nat.reduceSub,Nat.reduceMul,Nat.reduceLeDiff,Nat.reduceLT,Nat.reduceEqDiff,Int.reduceAdd,Int.reduceSub,Int.reduceMul,Int.reduceNeg,Int.reduceLT,Int.reduceLE,Int.reduceEq,Int.reduceToNat,Int.cast_ofNat_Int,↓reduceIte, a1, a5, a8, a9]
    refine condP_split (fun hlt => ?_) (fun hlt => ?_)
    · have hi' : i < M := by omega
      simp (disch := (first | assumption | omega | (simp only [List.length_append, List.length_cons, List.length_nil]; omega))) only [↓wD,wU,Nat.reduceBEq,zx150,zx151,zx159,zx160,zx161,zx162,Nat.reduceAdd,Nat.reduceSub,Nat.reduceMul,Nat.reduceLeDiff,Nat.reduceLT,Nat.reduceEqDiff,Int.reduceAdd,Int.reduceSub,Int.reduceMul,Int.reduceNeg,Int.reduceLT,Int.reduceLE,Int.reduceEq,Int.reduceToNat,Int.cast_ofNat_Int,↓reduceIte, a1, a5, a8, a9]
      refine (blocks_ret (x := i) (by omega)).toF fun y H2 hg2 hy => ?_
      have eq := equal_ret hy ((hc.gr hg).gr hg2)
      have hu2 := hu.gr hg2
      have hl := linesTo_len (i := i) (cl := cl)
      by_cases h : blkL i = cl
      · rw [decide_eq_true h] at eq
        simp (disch := (first | assumption | omega | (simp only [List.length_append, List.length_cons, List.length_nil]; omega))) only [↓wD,wU,Nat.reduceBEq,zx150,zx151,zx159,zx160,zx161,zx162,Nat.reduceAdd,Nat.reduceSub,Nat.reduceMul,Nat.reduceLeDiff,Nat.reduceLT,Nat.reduceEqDiff,Int.reduceAdd,Int.reduceSub,Int.reduceMul,Int.reduceNeg,Int.reduceLT,Int.reduceLE,Int.reduceEq,Int.reduceToNat,Int.cast_ofNat_Int,↓reduceIte, a1, a5, a8, a9, eq.call]
        refine hu2.pushI (Nat.le_refl _) (by have := hg.1; have := hg2.1; omega) (by omega) fun u' H3 hu' hk3 _ _ => ?_
        simp (disch := (first | assumption | omega | (simp only [List.length_append, List.length_cons, List.length_nil]; omega))) only [↓wD,wU,Nat.reduceBEq,zx150,zx151,zx159,zx160,zx161,zx162,Nat.reduceAdd,Nat.reduceSub,Nat.reduceMul,Nat.reduceLeDiff,Nat.reduceLT,Nat.reduceEqDiff,Int.reduceAdd,Int.reduceSub,Int.reduceMul,Int.reduceNeg,Int.reduceLT,Int.reduceLE,Int.reduceEq,Int.reduceToNat,Int.cast_ofNat_Int,↓reduceIte, a1, a5, a8, a9]
        refine (ih hi').go ⟨u', ?_⟩
        simp (disch := (first | assumption | omega | (simp only [List.length_append, List.length_cons, List.length_nil]; omega))) only [↓wD,wU,Nat.reduceBEq,zx150,zx151,zx159,zx160,zx161,zx162,Nat.reduceAdd,Nat.reduceSub,Nat.reduceMul,Nat.reduceLeDiff,Nat.reduceLT,Nat.reduceEqDiff,Int.reduceAdd,Int.reduceSub,Int.reduceMul,Int.reduceNeg,Int.reduceLT,Int.reduceLE,Int.reduceEq,Int.reduceToNat,Int.cast_ofNat_Int,↓reduceIte, a1, a5, a8, a9]
        refine ⟨(hg.trans hg2).push hu2 (Nat.le_refl _) hk3, ?_⟩
        rw [linesTo_succ, if_pos h]; exact hu'
      · rw [decide_eq_false h] at eq
        simp (disch := (first | assumption | omega | (simp only [List.length_append, List.length_cons, List.length_nil]; omega))) only [↓wD,wU,Nat.reduceBEq,zx150,zx151,zx159,zx160,zx161,zx162,Nat.reduceAdd,Nat.reduceSub,Nat.reduceMul,Nat.reduceLeDiff,Nat.reduceLT,Nat.reduceEqDiff,Int.reduceAdd,Int.reduceSub,Int.reduceMul,Int.reduceNeg,Int.reduceLT,Int.reduceLE,Int.reduceEq,Int.reduceToNat,Int.cast_ofNat_Int,↓reduceIte, a1, a5, a8, a9, eq.call]
        refine (ih hi').go ⟨u, ?_⟩
        simp (disch := (first | assumption | omega | (simp only [List.length_append, List.length_cons, List.length_nil]; omega))) only [↓wD,wU,Nat.reduceBEq,zx150,zx151,zx159,zx160,zx161,zx162,Nat.reduceAdd,Nat.reduceSub,Nat.reduceMul,Nat.reduceLeDiff,Nat.reduceLT,Nat.reduceEqDiff,Int.reduceAdd,Int.reduceSub,Int.reduceMul,Int.reduceNeg,Int.reduceLT,Int.reduceLE,Int.reduceEq,Int.reduceToNat,Int.cast_ofNat_Int,↓reduceIte, a1, a5, a8, a9]
        refine ⟨hg.trans hg2, ?_⟩
        rw [linesTo_succ, if_neg h, List.append_nil]; exact hu2
    · obtain rfl : i = M := by omega
      simp (disch := (first | assumption | omega | (simp only [List.length_append, List.length_cons, List.length_nil]; omega))) only [↓wD,wU,Nat.reduceBEq,zx150,zx151,zx159,zx160,zx161,zx162,Nat.reduceAdd,Nat.reduceSub,Nat.reduceMul,Nat.reduceLeDiff,Nat.reduceLT,Nat.reduceEqDiff,Int.reduceAdd,Int.reduceSub,Int.reduceMul,Int.reduceNeg,Int.reduceLT,Int.reduceLE,Int.reduceEq,Int.reduceToNat,Int.cast_ofNat_Int,↓reduceIte, a1, a5, a8, a9]
      exact hu.sl
  · simp (disch := (first | assumption | omega | (simp only [List.length_append, List.length_cons, List.length_nil]; omega))) only [↓wD,wU,Nat.reduceBEq,zx150,zx151,zx159,zx160,zx161,zx162,Nat.reduceAdd,Nat.reduceSub,Nat.reduceMul,Nat.reduceLeDiff,Nat.reduceLT,Nat.reduceEqDiff,Int.reduceAdd,Int.reduceSub,Int.reduceMul,Int.reduceNeg,Int.reduceLT,Int.reduceLE,Int.reduceEq,Int.reduceToNat,Int.cast_ofNat_Int,↓reduceIte]
    exact ⟨.nils, rfl, Gr.refl _, Acc.nil⟩
def ClueP (n : Int) (cl : List Int) : Prop := SizeP n ∧ 0 < (linesL n.toNat cl).length
instance (n : Int) (cl : List Int) : Decidable (ClueP n cl) := by unfold ClueP; infer_instance
theorem linesL_len {n : Nat} {cl : List Int} (hn : n ≤ 5) : (linesL n cl).length ≤ 32 := Nat.le_trans linesTo_len (pow5 hn).2
theorem isClue_ret {p : Nat → Prop} {H : Heap} {v : AV} {n : Int} {cl : List Int} (hc : Sl p H v cl) : RetP E 57 [.i n, v] H (.b (decide (ClueP n cl))) := by
  refine RetP.ro rfl fn57 rfl rfl ?_
  unfold f57A
  have hz := isSize_ret (H := H) (n := n)
  by_cases h : SizeP n
  · rw [decide_eq_true h] at hz
    obtain ⟨m, rfl, h1, h2⟩ := h.nat
    have e : decide (ClueP (m : Int) cl) = decide (0 < ((linesL m cl).length : Int)) := by
      apply decide_eq_decide.2
      exact ⟨fun q => by have := q.2; rw [Int.toNat_natCast] at this; omega, fun q => ⟨h, by rw [Int.toNat_natCast]; omega⟩⟩
    rw [e]
    simp (disch := (first | assumption | omega | (simp only [List.length_append, List.length_cons, List.length_nil]; omega))) only [↓wD,wU,Nat.reduceBEq,zx150,zx151,zx159,zx160,zx161,zx162,Nat.reduceAdd,Nat.reduceSub,Nat.reduceMul,Nat.reduceLeDiff,Nat.reduceLT,Nat.reduceEqDiff,Int.reduceAdd,Int.reduceSub,Int.reduceMul,Int.reduceNeg,Int.reduceLT,Int.reduceLE,Int.reduceEq,Int.reduceToNat,Int.cast_ofNat_Int,↓reduceIte, hz.call]
    refine (lines_ret hc h2).toF fun y H1 hg hy => ?_
    simp (disch := (first | assumption | omega | (simp only [List.length_append, List.length_cons, List.length_nil]; omega))) only [↓wD,wU,Nat.reduceBEq,zx150,zx151,zx159,zx160,zx161,zx162,Nat.reduceAdd,Nat.reduceSub,Nat.reduceMul,Nat.reduceLeDiff,Nat.reduceLT,Nat.reduceEqDiff,Int.reduceAdd,Int.reduceSub,Int.reduceMul,Int.reduceNeg,Int.reduceLT,Int.reduceLE,Int.reduceEq,Int.reduceToNat,Int.cast_ofNat_Int,↓reduceIte, hy.I]
  · rw [decide_eq_false h] at hz
    have e : decide (ClueP n cl) = false := decide_eq_false fun q => h q.1
    simp (disch := (first | assumption | omega | (simp only [List.length_append, List.length_cons, List.length_nil]; omega))) only [↓wD,wU,Nat.reduceBEq,zx150,zx151,zx159,zx160,zx161,zx162,Nat.reduceAdd,Nat.reduceSub,Nat.reduceMul,Nat.reduceLeDiff,Nat.reduceLT,Nat.reduceEqDiff,Int.reduceAdd,Int.reduceSub,Int.reduceMul,Int.reduceNeg,Int.reduceLT,Int.reduceLE,Int.reduceEq,Int.reduceToNat,Int.cast_ofNat_Int,↓reduceIte, hz.call, e]
theorem list_ret {p : Nat → Prop} {H : Heap} {v : AV} {xs : List Int} (hx : Sl p H v xs) : Ret E 19 [v] (fun _ => False) H (xs.take 8) := by
  refine Ret.ro rfl fn19 rfl ?_
  unfold f19A
  have hb := hx.bound
  have hs : slV 1 v none (some (.i (min (xs.length : Int) 8))) none = some (v.cut 0 (min xs.length 8)) := by
    refine hx.slV_lh none _ (b := min xs.length 8) ?_ (bound_none (by omega)) (by omega) (by omega)
    rw [bound_some (by omega) (by omega)]
    congr 1
    omega
  simp (disch := (first | assumption | omega | (simp only [List.length_append, List.length_cons, List.length_nil]; omega))) only [↓wD,wU,Nat.reduceBEq,zx150,zx151,zx159,zx160,zx161,zx162,Nat.reduceAdd,Nat.reduceSub,Nat.reduceMul,Nat.reduceLeDiff,Nat.reduceLT,Nat.reduceEqDiff,Int.reduceAdd,Int.reduceSub,Int.reduceMul,Int.reduceNeg,Int.reduceLT,Int.reduceLE,Int.reduceEq,Int.reduceToNat,Int.cast_ofNat_Int,↓reduceIte, *, hx.I, hs]
  have hc := hx.cut (a := 0) (b := min xs.length 8) (by omega) (by omega)
  have e : (xs.drop 0).take (min xs.length 8 - 0) = xs.take 8 := by
    rw [List.drop_zero, Nat.sub_zero]
    by_cases hl : xs.length ≤ 8
    · rw [List.take_of_length_le (by omega), List.take_of_length_le hl]
    · congr 1; omega
  rw [e] at hc
  refine (clone_ret hc (by rw [List.length_take]; omega)).go fun u N hu => ?_
  simp (disch := (first | assumption | omega | (simp only [List.length_append, List.length_cons, List.length_nil]; omega))) only [↓wD,wU,Nat.reduceBEq,zx150,zx151,zx159,zx160,zx161,zx162,Nat.reduceAdd,Nat.reduceSub,Nat.reduceMul,Nat.reduceLeDiff,Nat.reduceLT,Nat.reduceEqDiff,Int.reduceAdd,Int.reduceSub,Int.reduceMul,Int.reduceNeg,Int.reduceLT,Int.reduceLE,Int.reduceEq,Int.reduceToNat,Int.cast_ofNat_Int,↓reduceIte]
  exact hu
/-- the first ones of a clue say as much: longer ones have no line -/
theorem linesTo_nil {cl : List Int} (h : 5 < cl.length) : ∀ i, linesTo i cl = []
  | 0 => rfl
  | i + 1 => by
    rw [linesTo_succ, linesTo_nil h, if_neg]
    · rfl
    · intro e; have := blkL_len i; rw [e] at this; omega
theorem linesL_cut {n : Nat} {cl : List Int} : linesL n (cl.take 8) = linesL n cl := by
  unfold linesL
  by_cases h : cl.length ≤ 8
  · rw [List.take_of_length_le h]
  · rw [linesTo_nil (cl := cl) (by omega), linesTo_nil (cl := cl.take 8) (by rw [List.length_take]; omega)]
theorem ClueP_cut {n : Int} {cl : List Int} : ClueP n (cl.take 8) ↔ ClueP n cl := by unfold ClueP; rw [linesL_cut]
theorem linesX_ret {p : Nat → Prop} {H : Heap} {v : AV} {n : Int} {cl : List Int} (hc : Sl p H v cl) (h : ClueP n cl) : Ret E 18 [.i n, v] (fun _ => False) H (T2.mk (linesL n.toNat cl) (0 : Int)) := by
  refine Ret.ro rfl fn18 rfl ?_
  unfold f18A
  have hz := isClue_ret (n := n) hc
  rw [decide_eq_true h] at hz
  obtain ⟨m, rfl, h1, h2⟩ := h.1.nat
  simp (disch := (first | assumption | omega | (simp only [List.length_append, List.length_cons, List.length_nil]; omega))) only [↓wD,wU,Nat.reduceBEq,zx150,zx151,zx159,zx160,zx161,zx162,Nat.reduceAdd,Nat.reduceSub,Nat.reduceMul,Nat.reduceLeDiff,Nat.reduceLT,Nat.reduceEqDiff,Int.reduceAdd,Int.reduceSub,Int.reduceMul,Int.reduceNeg,Int.reduceLT,Int.reduceLE,Int.reduceEq,Int.reduceToNat,Int.cast_ofNat_Int,↓reduceIte, hz.call]
  refine (lines_ret hc h2).toF fun y H1 hg hy => ?_
  simp (disch := (first | assumption | omega | (simp only [List.length_append, List.length_cons, List.length_nil]; omega))) only [↓wD,wU,Nat.reduceBEq,zx150,zx151,zx159,zx160,zx161,zx162,Nat.reduceAdd,Nat.reduceSub,Nat.reduceMul,Nat.reduceLeDiff,Nat.reduceLT,Nat.reduceEqDiff,Int.reduceAdd,Int.reduceSub,Int.reduceMul,Int.reduceNeg,Int.reduceLT,Int.reduceLE,Int.reduceEq,Int.reduceToNat,Int.cast_ofNat_Int,↓reduceIte]
  exact rv_2 (hy.weak fun b h => .inr h) rv_i
theorem linesX_err {p : Nat → Prop} {H : Heap} {v : AV} {n : Int} {cl : List Int} (hc : Sl p H v cl) (h : ¬ ClueP n cl) : RetP E 18 [.i n, v] H (.tp [.nils, .i 2]) := by
  refine RetP.ro rfl fn18 rfl rfl ?_
  unfold f18A
  have hz := isClue_ret (n := n) hc
  rw [decide_eq_false h] at hz
  simp (disch := (first | assumption | omega | (simp only [List.length_append, List.length_cons, List.length_nil]; omega))) only [↓wD,wU,Nat.reduceBEq,zx150,zx151,zx159,zx160,zx161,zx162,Nat.reduceAdd,Nat.reduceSub,Nat.reduceMul,Nat.reduceLeDiff,Nat.reduceLT,Nat.reduceEqDiff,Int.reduceAdd,Int.reduceSub,Int.reduceMul,Int.reduceNeg,Int.reduceLT,Int.reduceLE,Int.reduceEq,Int.reduceToNat,Int.cast_ofNat_Int,↓reduceIte, hz.call]
end Go.Proofs.YtjjndoigkhabdaaDoor
namespace Go.Proofs.YtjjndoigkhabdaaDoor
open Go Go.AM Go.Proofs
theorem awake_ret {H : Heap} : RetP E 24 [] H (.b true) :=
  RetP.closed (n := 300) rfl fn24 rfl rfl (by kernel_rfl)
end Go.Proofs.YtjjndoigkhabdaaDoor
namespace Go.Proofs.YtjjndoigkhabdaaDoor
open Go Go.AM Go.Proofs
/-- whether a line agrees with what is known -/
def agN (f e x : Nat) : Bool := decide (x &&& f = f) && decide (x &&& e = 0)
def linesN (n : Nat) (cl : List Int) : List Nat := (List.range (2 ^ n)).filter fun x => decide (blkL x = cl)
theorem linesL_N (n : Nat) (cl : List Int) : linesL n cl = (linesN n cl).map fun x : Nat => (x : Int) := rfl
theorem linesN_lt {n : Nat} {cl : List Int} {x : Nat} (h : x ∈ linesN n cl) : x < 2 ^ n := List.mem_range.1 (List.mem_filter.1 h).1
theorem linesN_len {n : Nat} {cl : List Int} : (linesN n cl).length = (linesL n cl).length := by rw [linesL_N, List.length_map]
theorem linesL_gi {n : Nat} {cl : List Int} {i : Nat} (h : i < (linesN n cl).length) : gi (linesL n cl) (i : Int) = (gi (linesN n cl) (i : Int) : Nat) := by
  rw [gi_nat (by rw [← linesN_len]; exact h), gi_nat h]
  simp [linesL_N]
/-- filled, empty, and whether some line agrees -/
def stepS (f e : Nat) (s : Nat × Nat × Bool) (x : Nat) : Nat × Nat × Bool := if agN f e x then (s.1 &&& x, andN s.2.1 x, true) else s
def foldS (f e : Nat) (ls : List Nat) (a : Nat) : Nat × Nat × Bool := ls.foldl (stepS f e) (a, a, false)
/-- what a line settles -/
def setS (n : Nat) (cl : List Int) (f e : Nat) : Nat × Nat × Bool := foldS f e (linesN n cl) (2 ^ n - 1)
theorem foldS_take {f e a : Nat} {ls : List Nat} {i : Nat} (h : i < ls.length) : foldS f e (ls.take (i + 1)) a = stepS f e (foldS f e (ls.take i) a) (gi ls (i : Int)) := by
  unfold foldS
  rw [take_gi h, List.foldl_append]; rfl
theorem step_le {f e x : Nat} {s : Nat × Nat × Bool} : (stepS f e s x).1 ≤ s.1 ∧ (stepS f e s x).2.1 ≤ s.2.1 := by
  unfold stepS
  split
  · exact ⟨Nat.and_le_left, andN_le⟩
  · exact ⟨Nat.le_refl _, Nat.le_refl _⟩
theorem fold_le {f e : Nat} : ∀ {ls : List Nat} {s : Nat × Nat × Bool}, (ls.foldl (stepS f e) s).1 ≤ s.1 ∧ (ls.foldl (stepS f e) s).2.1 ≤ s.2.1
  | [], s => ⟨Nat.le_refl _, Nat.le_refl _⟩
  | x :: ls, s => by
    have h1 := fold_le (f := f) (e := e) (ls := ls) (s := stepS f e s x)
    have h2 := step_le (f := f) (e := e) (x := x) (s := s)
    exact ⟨Nat.le_trans h1.1 h2.1, Nat.le_trans h1.2 h2.2⟩
theorem foldS_le {f e a : Nat} {ls : List Nat} : (foldS f e ls a).1 ≤ a ∧ (foldS f e ls a).2.1 ≤ a := fold_le
theorem setS_le {n f e : Nat} {cl : List Int} (hn : n ≤ 5) : (setS n cl f e).1 ≤ 31 ∧ (setS n cl f e).2.1 ≤ 31 := by
  have h := foldS_le (f := f) (e := e) (a := 2 ^ n - 1) (ls := linesN n cl)
  have := pow5 hn
  exact ⟨by unfold setS; omega, by unfold setS; omega⟩
theorem agrees_ret {H : Heap} {f e x : Nat} (hf : f ≤ 9223372036854775807) (he : e ≤ 9223372036854775807) (hx : x ≤ 9223372036854775807) : RetP E 88 [.ag [.i f, .i e], .i x] H (.b (agN f e x)) := by
  refine RetP.ro rfl fn88 rfl rfl ?_
  unfold f88A
  have a1 := b_and hx hf
  have a2 := b_and hx he
  unfold agN
  by_cases h1 : x &&& f = f
  · rw [h1] at a1
    have d2 : decide (((x &&& e : Nat) : Int) = 0) = decide (x &&& e = 0) := decide_eq_decide.2 (by omega)
    have e1 : decide (x &&& f = f) = true := decide_eq_true h1
    simp (disch := (first | assumption | omega | (simp only [List.length_append, List.length_cons, List.length_nil]; omega))) only [↓wD,wU,Nat.reduceBEq,zx150,zx151,zx159,zx160,zx161,zx162,Nat.reduceAdd,Nat.reduceSub,Nat.reduceMul,Nat.reduceLeDiff,Nat.reduceLT,Nat.reduceEqDiff,Int.reduceAdd,Int.reduceSub,Int.reduceMul,Int.reduceNeg,Int.reduceLT,Int.reduceLE,Int.reduceEq,Int.reduceToNat,Int.cast_ofNat_Int,↓reduceIte, a1, a2, e1, d2]
  · have d1 : decide (((x &&& f : Nat) : Int) = f) = false := decide_eq_false (by omega)
    have e1 : decide (x &&& f = f) = false := decide_eq_false h1
    simp (disch := (first | assumption | omega | (simp only [List.length_append, List.length_cons, List.length_nil]; omega))) only [↓wD,wU,Nat.reduceBEq,zx150,zx151,zx159,zx160,zx161,zx162,Nat.reduceAdd,Nat.reduceSub,Nat.reduceMul,Nat.reduceLeDiff,Nat.reduceLT,Nat.reduceEqDiff,Int.reduceAdd,Int.reduceSub,Int.reduceMul,Int.reduceNeg,Int.reduceLT,Int.reduceLE,Int.reduceEq,Int.reduceToNat,Int.cast_ofNat_Int,↓reduceIte, a1, d1, e1]
theorem settle_ret {p : Nat → Prop} {H : Heap} {v : AV} {n f e : Nat} {cl : List Int} (hc : Sl p H v cl) (hn : n ≤ 5) (hf : f ≤ 9223372036854775807) (he : e ≤ 9223372036854775807) :
    RetP E 61 [.i n, v, .ag [.i f, .i e]] H (.tp [.ag [.i (setS n cl f e).1, .i (setS n cl f e).2.1], .b (setS n cl f e).2.2]) := by
  refine RetP.ro rfl fn61 rfl rfl ?_
  unfold f61A
  have hsh := b_shl1 (n := n) (by omega)
  have p5 := pow5 hn
  have hlen := linesN_len (n := n) (cl := cl)
  have hlt : ∀ i : Nat, i < (linesN n cl).length → gi (linesN n cl) (i : Int) ≤ 31 ∧ gi (linesL n cl) (i : Int) = (gi (linesN n cl) (i : Int) : Nat) := fun i hi => ⟨by
    have := linesN_lt (mem_gi hi)
    omega, linesL_gi hi⟩
  have hlr := fun (H : Heap) (h : Sl p H v cl) => lines_ret h hn
  unfold setS
  have hM : ((2 ^ n - 1 : Nat) : Int) = ((2 ^ n : Nat) : Int) - 1 := by omega
  have hl32 := linesL_len (n := n) (cl := cl) hn
  generalize linesN n cl = ls at *
  generalize linesL n cl = li at *
  generalize 2 ^ n = M at *
  obtain ⟨A, eA⟩ : ∃ A, M - 1 = A := ⟨_, rfl⟩
  have hA : ((M : Nat) : Int) - 1 = (A : Nat) := by omega
  rw [eA]
  replace hc : Sl (fun b => p b ∧ b < H.length) H v cl := hc.low
  obtain ⟨H2, eH2⟩ : ∃ H2, H ++ [Blk.cells [.i (f : Int), .i (e : Int)]] ++ [Blk.cells [.i (A : Int), .i (A : Int)]] = H2 := ⟨_, rfl⟩
  have n2 : H2.length = H.length + 2 := by rw [← eH2]; simp
  have d1 : H2[H.length]? = some (.cells [.i (f : Int), .i (e : Int)]) := by rw [← eH2]; simp [List.getElem?_append]
  have d2 : H2[H.length + 1]? = some (.cells [.i (A : Int), .i (A : Int)]) := by rw [← eH2]; simp [List.getElem?_append]
  have x2 : Kx (fun _ => True) H H2 := by rw [← eH2]; exact (Kx.app _ _ _).app' _
  have hst : st H.length (H ++ [Blk.cells [.i (f : Int), .i (e : Int)]] ++ [Blk.cells [.i 0, .i 0]]) (H.length + 1) 0 [.i (A : Int), .i (A : Int)] = some H2 := by
    rw [st_of (cs := [.i 0, .i 0]) (by simp [List.getElem?_append]) (by omega) (by simp), ← eH2]
    congr 1
    simp [wr, List.set_append]
  have hc2 := hc.kp (x2.all _).kp
  clear eH2
  simp (disch := (first | assumption | omega | (simp only [List.length_append, List.length_cons, List.length_nil]; omega))) only [↓wD,wU,Nat.reduceBEq,zx150,zx151,zx159,zx160,zx161,zx162,Nat.reduceAdd,Nat.reduceSub,Nat.reduceMul,Nat.reduceLeDiff,Nat.reduceLT,Nat.reduceEqDiff,Int.reduceAdd,Int.reduceSub,Int.reduceMul,Int.reduceNeg,Int.reduceLT,Int.reduceLE,Int.reduceEq,Int.reduceToNat,Int.cast_ofNat_Int,↓reduceIte, hsh, hA, hst]
  refine (hlr H2 (hc2.weak fun _ h => h.1)).toFX fun y H3 x3 hy => ?_
  have g1 := x3.get trivial d1
  have g2 := x3.get trivial d2
  have hyI := hy.I
  rw [← hlen] at hyI
  simp (disch := (first | assumption | omega | (simp only [List.length_append, List.length_cons, List.length_nil]; omega))) only [↓wD,wU,Nat.reduceBEq,zx150,zx151,zx159,zx160,zx161,zx162,Nat.reduceAdd,Nat.reduceSub,Nat.reduceMul,Nat.reduceLeDiff,Nat.reduceLT,Nat.reduceEqDiff,Int.reduceAdd,Int.reduceSub,Int.reduceMul,Int.reduceNeg,Int.reduceLT,Int.reduceLE,Int.reduceEq,Int.reduceToNat,Int.cast_ofNat_Int,↓reduceIte, hyI]
  refine Wp.for ls.length (fun i a H' => a 5 = .p H.length 0 ∧ a 6 = .p (H.length + 1) 0 ∧ a 7 = .b (foldS f e (ls.take i) A).2.2 ∧ a 19 = y ∧ a 20 = .i ls.length ∧ a 21 = .i i ∧ Kx (fun b => b ≠ H.length + 1) H3 H' ∧ H'[H.length + 1]? = some (.cells [.i (foldS f e (ls.take i) A).1, .i (foldS f e (ls.take i) A).2.1])) ?_ ?_
  · rintro i a H' hi ⟨a5, a6, a7, a19, a20, a21, hx, hcell⟩ ih
    simp (disch := (first | assumption | omega | (simp only [List.length_append, List.length_cons, List.length_nil]; omega))) only [↓wD,wU,Nat.reduceBEq,zx150,zx151,zx159,zx160,zx161,zx162,Nat.reduceAdd,Nat.reduceSub,Nat.reduceMul,Nat.reduceLeDiff,Nat.reduceLT,Nat.reduceEqDiff,Int.reduceAdd,Int.reduceSub,Int.reduceMul,Int.reduceNeg,Int.reduceLT,Int.reduceLE,Int.reduceEq,Int.reduceToNat,Int.cast_ofNat_Int,↓reduceIte, a5, a6, a7, a19, a20, a21]
    have k1 := hx.get (b := H.length) (by omega) g1
    refine condP_split (fun hlt2 => ?_) (fun hlt2 => ?_)
    · have hi' : i < ls.length := by omega
      obtain ⟨l31, el⟩ := hlt i hi'
      have hy' := (hy.weak (q := fun b => b ≠ H.length + 1) fun b h => by omega).kp hx.kp
      have hyI' := hy'.I
      rw [← hlen] at hyI'
      have ag := agrees_ret (H := H') hf he (x := gi ls (i : Int)) (by omega)
      have et := foldS_take (f := f) (e := e) (a := A) hi'
      have fl := foldS_le (f := f) (e := e) (a := A) (ls := ls.take i)
      obtain ⟨⟨s1, s2, s3⟩, es⟩ : ∃ s, foldS f e (ls.take i) A = s := ⟨_, rfl⟩
      rw [es] at a7 hcell et fl
      simp only at a7 hcell fl
      unfold stepS at et
      by_cases h : agN f e (gi ls (i : Int)) = true
      · rw [h] at ag
        rw [if_pos h] at et
        have o1 := b_and (a := s1) (b := gi ls (i : Int)) (by omega) (by omega)
        have o2 := b_andNot (a := s2) (b := gi ls (i : Int)) (by omega) (by omega)
        obtain ⟨T1, eT1⟩ : ∃ T, s1 &&& gi ls (i : Int) = T := ⟨_, rfl⟩
        obtain ⟨T2, eT2⟩ : ∃ T, andN s2 (gi ls (i : Int)) = T := ⟨_, rfl⟩
        rw [eT1] at o1 et
        rw [eT2] at o2 et
        obtain ⟨L, eL⟩ : ∃ L, gi ls (i : Int) = L := ⟨_, rfl⟩
        rw [eL] at ag o1 o2 el
        have hs1 : st H.length H' (H.length + 1) 0 [.i (T1 : Int)] = some (H'.set (H.length + 1) (.cells [.i (T1 : Int), .i (s2 : Int)])) := by rw [st_of hcell (by omega) (by simp)]; simp [wr]
        have c1 := get_set (k := .cells [.i (T1 : Int), .i (s2 : Int)]) hcell
        have hs2 : st H.length (H'.set (H.length + 1) (.cells [.i (T1 : Int), .i (s2 : Int)])) (H.length + 1) 1 [.i (T2 : Int)] = some ((H'.set (H.length + 1) (.cells [.i (T1 : Int), .i (s2 : Int)])).set (H.length + 1) (.cells [.i (T1 : Int), .i (T2 : Int)])) := by rw [st_of c1 (by omega) (by simp)]; simp [wr]
        simp (disch := (first | assumption | omega | (simp only [List.length_append, List.length_cons, List.length_nil]; omega))) only [↓wD,wU,Nat.reduceBEq,zx150,zx151,zx159,zx160,zx161,zx162,Nat.reduceAdd,Nat.reduceSub,Nat.reduceMul,Nat.reduceLeDiff,Nat.reduceLT,Nat.reduceEqDiff,Int.reduceAdd,Int.reduceSub,Int.reduceMul,Int.reduceNeg,Int.reduceLT,Int.reduceLE,Int.reduceEq,Int.reduceToNat,Int.cast_ofNat_Int,↓reduceIte, a5, a6, a7, a19, a20, a21, hyI', el, ldn_of k1, ag.call, ld_of hcell, o1, hs1, ld_of c1, o2, hs2]
        refine (ih hi').go ?_
        rw [et]
        simp (disch := (first | assumption | omega | (simp only [List.length_append, List.length_cons, List.length_nil]; omega))) only [↓wD,wU,Nat.reduceBEq,zx150,zx151,zx159,zx160,zx161,zx162,Nat.reduceAdd,Nat.reduceSub,Nat.reduceMul,Nat.reduceLeDiff,Nat.reduceLT,Nat.reduceEqDiff,Int.reduceAdd,Int.reduceSub,Int.reduceMul,Int.reduceNeg,Int.reduceLT,Int.reduceLE,Int.reduceEq,Int.reduceToNat,Int.cast_ofNat_Int,↓reduceIte, a5, a6, a7, a19, a20, a21]
        exact ⟨(hx.set' (fun _ h => h rfl) _).set' (fun _ h => h rfl) _, get_set c1⟩
      · have h' : agN f e (gi ls (i : Int)) = false := by simpa using h
        rw [h'] at ag
        rw [if_neg h] at et
        obtain ⟨L, eL⟩ : ∃ L, gi ls (i : Int) = L := ⟨_, rfl⟩
        rw [eL] at ag el
        simp (disch := (first | assumption | omega | (simp only [List.length_append, List.length_cons, List.length_nil]; omega))) only [↓wD,wU,Nat.reduceBEq,zx150,zx151,zx159,zx160,zx161,zx162,Nat.reduceAdd,Nat.reduceSub,Nat.reduceMul,Nat.reduceLeDiff,Nat.reduceLT,Nat.reduceEqDiff,Int.reduceAdd,Int.reduceSub,Int.reduceMul,Int.reduceNeg,Int.reduceLT,Int.reduceLE,Int.reduceEq,Int.reduceToNat,Int.cast_ofNat_Int,↓reduceIte, a5, a6, a7, a19, a20, a21, hyI', el, ldn_of k1, ag.call]
        refine (ih hi').go ?_
        rw [et]
        simp (disch := (first | assumption | omega | (simp only [List.length_append, List.length_cons, List.length_nil]; omega))) only [↓wD,wU,Nat.reduceBEq,zx150,zx151,zx159,zx160,zx161,zx162,Nat.reduceAdd,Nat.reduceSub,Nat.reduceMul,Nat.reduceLeDiff,Nat.reduceLT,Nat.reduceEqDiff,Int.reduceAdd,Int.reduceSub,Int.reduceMul,Int.reduceNeg,Int.reduceLT,Int.reduceLE,Int.reduceEq,Int.reduceToNat,Int.cast_ofNat_Int,↓reduceIte, a5, a6, a7, a19, a20, a21]
        exact ⟨hx, hcell⟩
    · obtain rfl : i = ls.length := by omega
      rw [List.take_length] at a7 hcell
      obtain ⟨⟨s1, s2, s3⟩, es⟩ : ∃ s, foldS f e ls A = s := ⟨_, rfl⟩
      rw [es] at a7 hcell ⊢
      simp only at a7 hcell ⊢
      have hs1 : st H.length H' (H.length + 1) 0 [.i (s1 : Int), .i (s2 : Int)] = some (H'.set (H.length + 1) (.cells [.i (s1 : Int), .i (s2 : Int)])) := by rw [st_of hcell (by omega) (by simp)]; simp [wr]
      simp (disch := (first | assumption | omega | (simp only [List.length_append, List.length_cons, List.length_nil]; omega))) only [↓wD,wU,Nat.reduceBEq,zx150,zx151,zx159,zx160,zx161,zx162,Nat.reduceAdd,Nat.reduceSub,Nat.reduceMul,Nat.reduceLeDiff,Nat.reduceLT,Nat.reduceEqDiff,Int.reduceAdd,Int.reduceSub,Int.reduceMul,Int.reduceNeg,Int.reduceLT,Int.reduceLE,Int.reduceEq,Int.reduceToNat,Int.cast_ofNat_Int,↓reduceIte, a5, a6, a7, ldn_of hcell, hs1, ldn_of (get_set hcell)]
  · simp (disch := (first | assumption | omega | (simp only [List.length_append, List.length_cons, List.length_nil]; omega))) only [↓wD,wU,Nat.reduceBEq,zx150,zx151,zx159,zx160,zx161,zx162,Nat.reduceAdd,Nat.reduceSub,Nat.reduceMul,Nat.reduceLeDiff,Nat.reduceLT,Nat.reduceEqDiff,Int.reduceAdd,Int.reduceSub,Int.reduceMul,Int.reduceNeg,Int.reduceLT,Int.reduceLE,Int.reduceEq,Int.reduceToNat,Int.cast_ofNat_Int,↓reduceIte]
    exact ⟨rfl, Kx.refl _ _, g2⟩
end Go.Proofs.YtjjndoigkhabdaaDoor
namespace Go.Proofs.YtjjndoigkhabdaaDoor
open Go Go.AM Go.Proofs
/-- what may be asked -/
def TellP (n : Int) (cl : List Int) (f e : Int) : Prop := ClueP n cl ∧ SetP n f ∧ SetP n e ∧ f.toNat &&& e.toNat = 0
instance (n : Int) (cl : List Int) (f e : Int) : Decidable (TellP n cl f e) := by unfold TellP; infer_instance
theorem TellP_cut {n f e : Int} {cl : List Int} : TellP n (cl.take 8) f e ↔ TellP n cl f e := by unfold TellP; rw [ClueP_cut]
theorem linesN_cut {n : Nat} {cl : List Int} : linesN n (cl.take 8) = linesN n cl := by
  have h := linesL_cut (n := n) (cl := cl)
  rw [linesL_N, linesL_N] at h
  exact List.map_inj_right (fun x y h => Int.ofNat.inj h) |>.1 h
theorem setS_cut {n f e : Nat} {cl : List Int} : setS n (cl.take 8) f e = setS n cl f e := by unfold setS; rw [linesN_cut]
/-- what Tell answers -/
def tellA (s : Nat × Nat × Bool) : AV := if s.2.2 then .tp [.i (s.1 : Int), .i (s.2.1 : Int), .i 0] else .tp [.i 0, .i 0, .i 4]
theorem tell_ret {p : Nat → Prop} {H : Heap} {v : AV} {n f e : Int} {cl : List Int} (hc : Sl p H v cl) (h : TellP n cl f e) : RetP E 26 [.i n, v, .i f, .i e] H (tellA (setS n.toNat cl f.toNat e.toNat)) := by
  refine RetP.ro rfl fn26 rfl (by unfold tellA; split <;> rfl) ?_
  unfold f26A
  obtain ⟨h1, h2, h3, h4⟩ := h
  have i1 := isClue_ret (n := n) hc
  have i2 := isSet_ret (H := H) (n := n) (x := f)
  have i3 := isSet_ret (H := H) (n := n) (x := e)
  rw [decide_eq_true h1] at i1
  rw [decide_eq_true h2] at i2
  rw [decide_eq_true h3] at i3
  obtain ⟨m, x, rfl, rfl, m1, m5, _, x31⟩ := h2.nat
  obtain ⟨m', y, em, rfl, _, _, _, y31⟩ := h3.nat
  obtain rfl : m = m' := by omega
  simp only [Int.toNat_natCast] at h4 ⊢
  have an := b_and (a := x) (b := y) (by omega) (by omega)
  rw [h4] at an
  have sr := settle_ret (f := x) (e := y) hc m5 (by omega) (by omega)
  unfold tellA
  generalize setS m cl x y = s at *
  obtain ⟨s1, s2, s3⟩ := s
  simp only at sr ⊢
  have hst : st H.length (H ++ [Blk.cells [.i 0, .i 0]]) H.length 0 [.i (s1 : Int), .i (s2 : Int)] = some (H ++ [Blk.cells [.i (s1 : Int), .i (s2 : Int)]]) := by
    rw [st_of get_last (by omega) (by simp)]
    congr 1
    simp [wr]
  cases s3
  · simp (disch := (first | assumption | omega | (simp only [List.length_append, List.length_cons, List.length_nil]; omega))) only [↓wD,wU,Nat.reduceBEq,zx150,zx151,zx159,zx160,zx161,zx162,Nat.reduceAdd,Nat.reduceSub,Nat.reduceMul,Nat.reduceLeDiff,Nat.reduceLT,Nat.reduceEqDiff,Int.reduceAdd,Int.reduceSub,Int.reduceMul,Int.reduceNeg,Int.reduceLT,Int.reduceLE,Int.reduceEq,Int.reduceToNat,Int.cast_ofNat_Int,↓reduceIte, i1.call, i2.call, i3.call, an, sr.call, hst]
  · simp (disch := (first | assumption | omega | (simp only [List.length_append, List.length_cons, List.length_nil]; omega))) only [↓wD,wU,Nat.reduceBEq,zx150,zx151,zx159,zx160,zx161,zx162,Nat.reduceAdd,Nat.reduceSub,Nat.reduceMul,Nat.reduceLeDiff,Nat.reduceLT,Nat.reduceEqDiff,Int.reduceAdd,Int.reduceSub,Int.reduceMul,Int.reduceNeg,Int.reduceLT,Int.reduceLE,Int.reduceEq,Int.reduceToNat,Int.cast_ofNat_Int,↓reduceIte, i1.call, i2.call, i3.call, an, sr.call, hst]
theorem tell_err {p : Nat → Prop} {H : Heap} {v : AV} {n f e : Int} {cl : List Int} (hc : Sl p H v cl) (h : ¬ TellP n cl f e) : RetP E 26 [.i n, v, .i f, .i e] H (.tp [.i 0, .i 0, .i 2]) := by
  refine RetP.ro rfl fn26 rfl rfl ?_
  unfold f26A
  have i1 := isClue_ret (n := n) hc
  have i2 := isSet_ret (H := H) (n := n) (x := f)
  have i3 := isSet_ret (H := H) (n := n) (x := e)
  by_cases h1 : ClueP n cl
  · rw [decide_eq_true h1] at i1
    by_cases h2 : SetP n f
    · rw [decide_eq_true h2] at i2
      by_cases h3 : SetP n e
      · rw [decide_eq_true h3] at i3
        have h4 : ¬ f.toNat &&& e.toNat = 0 := fun h4 => h ⟨h1, h2, h3, h4⟩
        obtain ⟨m, x, rfl, rfl, m1, m5, _, x31⟩ := h2.nat
        obtain ⟨m', y, em, rfl, _, _, _, y31⟩ := h3.nat
        simp only [Int.toNat_natCast] at h4
        have an := b_and (a := x) (b := y) (by omega) (by omega)
        have hd : decide (¬ ((x &&& y : Nat) : Int) = 0) = true := decide_eq_true (by omega)
        simp (disch := (first | assumption | omega | (simp only [List.length_append, List.length_cons, List.length_nil]; omega))) only [↓wD,wU,Nat.reduceBEq,zx150,zx151,zx159,zx160,zx161,zx162,Nat.reduceAdd,Nat.reduceSub,Nat.reduceMul,Nat.reduceLeDiff,Nat.reduceLT,Nat.reduceEqDiff,Int.reduceAdd,Int.reduceSub,Int.reduceMul,Int.reduceNeg,Int.reduceLT,Int.reduceLE,Int.reduceEq,Int.reduceToNat,Int.cast_ofNat_Int,↓reduceIte, i1.call, i2.call, i3.call, an, hd]
      · rw [decide_eq_false h3] at i3
        simp (disch := (first | assumption | omega | (simp only [List.length_append, List.length_cons, List.length_nil]; omega))) only [↓wD,wU,Nat.reduceBEq,zx150,zx151,zx159,zx160,zx161,zx162,Nat.reduceAdd,Nat.reduceSub,Nat.reduceMul,Nat.reduceLeDiff,Nat.reduceLT,Nat.reduceEqDiff,Int.reduceAdd,Int.reduceSub,Int.reduceMul,Int.reduceNeg,Int.reduceLT,Int.reduceLE,Int.reduceEq,Int.reduceToNat,Int.cast_ofNat_Int,↓reduceIte, i1.call, i2.call, i3.call]
    · rw [decide_eq_false h2] at i2
      simp (disch := (first | assumption | omega | (simp only [List.length_append, List.length_cons, List.length_nil]; omega))) only [↓wD,wU,Nat.reduceBEq,zx150,zx151,zx159,zx160,zx161,zx162,Nat.reduceAdd,Nat.reduceSub,Nat.reduceMul,Nat.reduceLeDiff,Nat.reduceLT,Nat.reduceEqDiff,Int.reduceAdd,Int.reduceSub,Int.reduceMul,Int.reduceNeg,Int.reduceLT,Int.reduceLE,Int.reduceEq,Int.reduceToNat,Int.cast_ofNat_Int,↓reduceIte, i1.call, i2.call]
  · rw [decide_eq_false h1] at i1
    simp (disch := (first | assumption | omega | (simp only [List.length_append, List.length_cons, List.length_nil]; omega))) only [↓wD,wU,Nat.reduceBEq,zx150,zx151,zx159,zx160,zx161,zx162,Nat.reduceAdd,Nat.reduceSub,Nat.reduceMul,Nat.reduceLeDiff,Nat.reduceLT,Nat.reduceEqDiff,Int.reduceAdd,Int.reduceSub,Int.reduceMul,Int.reduceNeg,Int.reduceLT,Int.reduceLE,Int.reduceEq,Int.reduceToNat,Int.cast_ofNat_Int,↓reduceIte, i1.call]
end Go.Proofs.YtjjndoigkhabdaaDoor
namespace Go.Proofs.YtjjndoigkhabdaaDoor
open Go Go.AM Go.Proofs
theorem agN_iff {f e x : Nat} : agN f e x = true ↔ ∀ c, (f.testBit c = true → x.testBit c = true) ∧ (e.testBit c = true → x.testBit c = false) := by
  unfold agN
  rw [Bool.and_eq_true, decide_eq_true_eq, decide_eq_true_eq]
  constructor
  · rintro ⟨h1, h2⟩ c
    have b1 : (x &&& f).testBit c = f.testBit c := by rw [h1]
    have b2 : (x &&& e).testBit c = (0 : Nat).testBit c := by rw [h2]
    rw [Nat.testBit_and] at b1 b2
    rw [Nat.zero_testBit] at b2
    cases q1 : x.testBit c <;> cases q2 : f.testBit c <;> cases q3 : e.testBit c <;> simp_all
  · intro h
    constructor
    · apply Nat.eq_of_testBit_eq
      intro c
      rw [Nat.testBit_and]
      have := (h c).1
      cases q1 : x.testBit c <;> cases q2 : f.testBit c <;> simp_all
    · apply Nat.eq_of_testBit_eq
      intro c
      rw [Nat.testBit_and, Nat.zero_testBit]
      have := (h c).2
      cases q1 : x.testBit c <;> cases q2 : e.testBit c <;> simp_all
theorem fold_bit1 {f e c : Nat} : ∀ {ls : List Nat} {s : Nat × Nat × Bool}, (ls.foldl (stepS f e) s).1.testBit c = (s.1.testBit c && ls.all fun x => !agN f e x || x.testBit c)
  | [], s => by simp
  | x :: ls, s => by
    rw [List.foldl_cons, fold_bit1, List.all_cons]
    unfold stepS
    cases h : agN f e x
    · simp
    · simp [Nat.testBit_and, Bool.and_assoc]
theorem fold_bit2 {f e c : Nat} : ∀ {ls : List Nat} {s : Nat × Nat × Bool}, (∀ x ∈ ls, x ≤ 9223372036854775807) → s.2.1 ≤ 9223372036854775807 → (ls.foldl (stepS f e) s).2.1.testBit c = (s.2.1.testBit c && ls.all fun x => !agN f e x || !x.testBit c)
  | [], s, _, _ => by simp
  | x :: ls, s, hl, hs => by
    have hs' : (stepS f e s x).2.1 ≤ 9223372036854775807 := by
      have := (step_le (f := f) (e := e) (x := x) (s := s)).2; omega
    rw [List.foldl_cons, fold_bit2 (fun y hy => hl y (by simp [hy])) hs', List.all_cons]
    unfold stepS
    cases h : agN f e x
    · simp
    · simp [andN_bit hs (hl x (by simp)), Bool.and_assoc]
theorem fold_ok {f e : Nat} : ∀ {ls : List Nat} {s : Nat × Nat × Bool}, (ls.foldl (stepS f e) s).2.2 = (s.2.2 || ls.any (agN f e))
  | [], s => by simp
  | x :: ls, s => by
    rw [List.foldl_cons, fold_ok, List.any_cons]
    unfold stepS
    cases h : agN f e x <;> simp
theorem fold_congr {f e f' e' : Nat} : ∀ {ls : List Nat} {s : Nat × Nat × Bool}, (∀ x ∈ ls, agN f e x = agN f' e' x) → ls.foldl (stepS f e) s = ls.foldl (stepS f' e') s
  | [], s, _ => rfl
  | x :: ls, s, h => by
    rw [List.foldl_cons, List.foldl_cons]
    have : stepS f e s x = stepS f' e' s x := by unfold stepS; rw [h x (by simp)]
    rw [this]
    exact fold_congr fun y hy => h y (by simp [hy])
theorem lt_bit {x n c : Nat} (h : x < 2 ^ n) (hb : x.testBit c = true) : c < n := by
  rcases Nat.lt_or_ge c n with q | q
  · exact q
  · rw [Nat.testBit_lt_two_pow (Nat.lt_of_lt_of_le h (Nat.pow_le_pow_right (by omega) q))] at hb
    cases hb
theorem all_bit {n c : Nat} : (2 ^ n - 1).testBit c = decide (c < n) := Nat.testBit_two_pow_sub_one n c
/-- bits of what a line settles -/
theorem setS_bit1 {n f e c : Nat} {cl : List Int} : (setS n cl f e).1.testBit c = (decide (c < n) && (linesN n cl).all fun x => !agN f e x || x.testBit c) := by
  unfold setS foldS
  rw [fold_bit1]
  show ((2 ^ n - 1).testBit c && _) = _
  rw [all_bit]
theorem setS_bit2 {n f e c : Nat} {cl : List Int} (hn : n ≤ 5) : (setS n cl f e).2.1.testBit c = (decide (c < n) && (linesN n cl).all fun x => !agN f e x || !x.testBit c) := by
  have p5 := pow5 hn
  unfold setS foldS
  rw [fold_bit2 (fun x hx => by have := linesN_lt hx; omega) (by simp only []; omega)]
  show ((2 ^ n - 1).testBit c && _) = _
  rw [all_bit]
theorem setS_ok {n f e : Nat} {cl : List Int} : (setS n cl f e).2.2 = (linesN n cl).any (agN f e) := by
  unfold setS foldS
  rw [fold_ok]; simp
theorem setS_agree {n f e : Nat} {cl : List Int} (hn : n ≤ 5) (hf : f < 2 ^ n) (he : e < 2 ^ n) {x : Nat} (hx : x ∈ linesN n cl) : agN (setS n cl f e).1 (setS n cl f e).2.1 x = agN f e x := by
  apply Bool.eq_iff_iff.2
  constructor
  · intro h
    rw [agN_iff] at h ⊢
    intro c
    constructor
    · intro hc
      apply (h c).1
      rw [setS_bit1, Bool.and_eq_true]
      refine ⟨decide_eq_true (lt_bit hf hc), List.all_eq_true.2 fun y _ => ?_⟩
      cases ha : agN f e y
      · rfl
      · have := (agN_iff.1 ha c).1 hc
        simp [this]
    · intro hc
      apply (h c).2
      rw [setS_bit2 hn, Bool.and_eq_true]
      refine ⟨decide_eq_true (lt_bit he hc), List.all_eq_true.2 fun y _ => ?_⟩
      cases ha : agN f e y
      · rfl
      · have := (agN_iff.1 ha c).2 hc
        simp [this]
  · intro h
    rw [agN_iff]
    intro c
    constructor
    · intro hc
      rw [setS_bit1, Bool.and_eq_true] at hc
      have := List.all_eq_true.1 hc.2 x hx
      rw [h] at this
      simpa using this
    · intro hc
      rw [setS_bit2 hn, Bool.and_eq_true] at hc
      have := List.all_eq_true.1 hc.2 x hx
      rw [h] at this
      simpa using this
/-- asked again it is the same -/
theorem setS_again {n f e : Nat} {cl : List Int} (hn : n ≤ 5) (hf : f < 2 ^ n) (he : e < 2 ^ n) : setS n cl (setS n cl f e).1 (setS n cl f e).2.1 = setS n cl f e := by
  show (linesN n cl).foldl (stepS (setS n cl f e).1 (setS n cl f e).2.1) (2 ^ n - 1, 2 ^ n - 1, false) = _
  rw [fold_congr (f' := f) (e' := e) fun x hx => setS_agree hn hf he hx]
  rfl
theorem setS_sub1 {n f e : Nat} {cl : List Int} (hn : n ≤ 5) (hf : f < 2 ^ n) (he : e < 2 ^ n) : andN f (setS n cl f e).1 = 0 := by
  have p5 := pow5 hn
  have sl := setS_le (n := n) (f := f) (e := e) (cl := cl) hn
  apply Nat.eq_of_testBit_eq
  intro c
  rw [andN_bit (by omega) (by omega), Nat.zero_testBit]
  cases hc : f.testBit c
  · rfl
  · have : (setS n cl f e).1.testBit c = true := by
      rw [setS_bit1, Bool.and_eq_true]
      refine ⟨decide_eq_true (lt_bit hf hc), List.all_eq_true.2 fun y _ => ?_⟩
      cases ha : agN f e y
      · rfl
      · have := (agN_iff.1 ha c).1 hc
        simp [this]
    rw [this]; rfl
theorem setS_sub2 {n f e : Nat} {cl : List Int} (hn : n ≤ 5) (hf : f < 2 ^ n) (he : e < 2 ^ n) : andN e (setS n cl f e).2.1 = 0 := by
  have p5 := pow5 hn
  have sl := setS_le (n := n) (f := f) (e := e) (cl := cl) hn
  apply Nat.eq_of_testBit_eq
  intro c
  rw [andN_bit (by omega) (by omega), Nat.zero_testBit]
  cases hc : e.testBit c
  · rfl
  · have : (setS n cl f e).2.1.testBit c = true := by
      rw [setS_bit2 hn, Bool.and_eq_true]
      refine ⟨decide_eq_true (lt_bit he hc), List.all_eq_true.2 fun y _ => ?_⟩
      cases ha : agN f e y
      · rfl
      · have := (agN_iff.1 ha c).2 hc
        simp [this]
    rw [this]; rfl
theorem setS_lt {n f e : Nat} {cl : List Int} : (setS n cl f e).1 < 2 ^ n ∧ (setS n cl f e).2.1 < 2 ^ n := by
  have h := foldS_le (f := f) (e := e) (a := 2 ^ n - 1) (ls := linesN n cl)
  have : 1 ≤ 2 ^ n := Nat.one_le_two_pow
  exact ⟨by unfold setS; omega, by unfold setS; omega⟩
theorem setS_apart {n f e : Nat} {cl : List Int} (hn : n ≤ 5) (hok : (setS n cl f e).2.2 = true) : (setS n cl f e).1 &&& (setS n cl f e).2.1 = 0 := by
  rw [setS_ok, List.any_eq_true] at hok
  obtain ⟨x, hx, ha⟩ := hok
  apply Nat.eq_of_testBit_eq
  intro c
  rw [Nat.testBit_and, Nat.zero_testBit, setS_bit1, setS_bit2 hn]
  cases hc : x.testBit c
  · have : ((linesN n cl).all fun x => !agN f e x || x.testBit c) = false := by
      rw [List.all_eq_false]
      exact ⟨x, hx, by simp [ha, hc]⟩
    rw [this]; simp
  · have : ((linesN n cl).all fun x => !agN f e x || !x.testBit c) = false := by
      rw [List.all_eq_false]
      exact ⟨x, hx, by simp [ha, hc]⟩
    rw [this]; simp
end Go.Proofs.YtjjndoigkhabdaaDoor
namespace Go.AM
open Go
/-- code that simp does not look into -/
def Hide (c : ACode) : ACode := c
/-- behind n statements -/
def tl : Nat → ACode → ACode
  | 0, c => c
  | n + 1, .seq _ y => tl n y
  | _ + 1, c => c
/-- the same code, put away from behind n statements on -/
def ins : Nat → ACode → ACode
  | 0, c => Hide c
  | n + 1, .seq x y => .seq x (ins n y)
  | _ + 1, c => c
theorem ins_eq : ∀ (n : Nat) (c : ACode), ins n c = c
  | 0, _ => rfl
  | n + 1, c => by
    cases c with
    | seq x y => simp only [ins, ins_eq n y]
    | _ => rfl
end Go.AM
namespace Go.Proofs.YtjjndoigkhabdaaDoor
open Go Go.AM Go.Proofs
theorem set_tail {H H4 : Heap} {m f e s1 s2 : Nat} {s3 : Bool} {cl : List Int} {w l v9 v10 v11 : AV} {a : Fr} {p : Nat → Prop} (m5 : m ≤ 5) (hf : f < 2 ^ m) (he : e < 2 ^ m) (hS : setS m cl f e = (s1, s2, s3))
    (hc : Sl p H4 w cl) (hl : Sl p H4 l (linesL m cl)) (hv : (s3 = true ∧ v9 = .i s1 ∧ v10 = .i s2 ∧ v11 = .i 0) ∨ (s3 = false ∧ v11 = .i 4)) (h1 : ClueP m cl)
    (a0 : a 0 = .i m) (a1 : a 1 = w) (a2 : a 2 = .i f) (a3 : a 3 = .i e) (a9 : a 9 = v9) (a10 : a 10 = v10) (a11 : a 11 = v11) (a12 : a 12 = l) :
    Wp E H.length none [.code (Hide (tl 4 f6A.body))] a H4 (RetQ [.t 8] fun v _ => v = .b true) := by
  unfold f6A
  simp only [tl, Hide]
  have hag := setS_again (cl := cl) m5 hf he
  have hs1 := setS_sub1 (cl := cl) m5 hf he
  have hs2 := setS_sub2 (cl := cl) m5 hf he
  have hap := setS_apart (f := f) (e := e) (cl := cl) m5
  have hlt := setS_lt (n := m) (f := f) (e := e) (cl := cl)
  have sle := setS_le (n := m) (f := f) (e := e) (cl := cl) m5
  have hss : setS m cl f e = foldS f e (linesN m cl) (2 ^ m - 1) := rfl
  rw [hS] at hag hs1 hs2 hap hlt sle hss
  simp only at hag hs1 hs2 hap hlt sle
  have p5 := pow5 m5
  have again : ∀ {H : Heap} {v : AV}, Sl (fun b => H4.length ≤ b) H v (cl.take 8) → s3 = true → RetP E 26 [.i m, v, .i s1, .i s2] H (.tp [.i s1, .i s2, .i 0]) := fun {H v} hv h => by
    have := tell_ret hv (n := m) (f := s1) (e := s2) ⟨ClueP_cut.2 h1, ⟨h1.1, by omega, by rw [Int.toNat_natCast]; omega⟩, ⟨h1.1, by omega, by rw [Int.toNat_natCast]; omega⟩, by rw [Int.toNat_natCast, Int.toNat_natCast]; exact hap h⟩
    simp only [Int.toNat_natCast] at this
    rw [setS_cut, hag] at this
    subst h
    exact this
  have an1 := b_andNot (a := f) (b := s1) (by omega) (by omega)
  have an2 := b_andNot (a := e) (b := s2) (by omega) (by omega)
  rw [hs1] at an1
  rw [hs2] at an2
  clear hap hlt hag hs1 hs2 hS
  have hsh := b_shl1 (n := m) (by omega)
  have hlen := linesN_len (n := m) (cl := cl)
  have hel : ∀ i : Nat, i < (linesN m cl).length → gi (linesN m cl) (i : Int) ≤ 31 ∧ gi (linesL m cl) (i : Int) = (gi (linesN m cl) (i : Int) : Nat) := fun i hi => ⟨by
    have := linesN_lt (mem_gi hi)
    omega, linesL_gi hi⟩
  have hl32 := linesL_len (n := m) (cl := cl) m5
  have hlI := hl.I
  rw [← hlen] at hlI
  generalize linesN m cl = ls at *
  generalize linesL m cl = li at *
  generalize 2 ^ m = M at *
  obtain ⟨A, eA⟩ : ∃ A, M - 1 = A := ⟨_, rfl⟩
  have hA : ((M : Nat) : Int) - 1 = (A : Nat) := by omega
  rw [eA] at hss
  simp (disch := (first | assumption | omega | (simp only [List.length_append, List.length_cons, List.length_nil]; omega))) only [↓wD,wU,Nat.reduceBEq,zx150,zx151,zx159,zx160,zx161,zx162,Nat.reduceAdd,Nat.reduceSub,Nat.reduceMul,Nat.reduceLeDiff,Nat.reduceLT,Nat.reduceEqDiff,Int.reduceAdd,Int.reduceSub,Int.reduceMul,Int.reduceNeg,Int.reduceLT,Int.reduceLE,Int.reduceEq,Int.reduceToNat,Int.cast_ofNat_Int,↓reduceIte, a0, a1, a2, a3, a9, a10, a11, a12, hsh, hA, hlI]
  refine Wp.for ls.length (fun i a H' => H' = H4 ∧ a 0 = .i m ∧ a 1 = w ∧ a 2 = .i f ∧ a 3 = .i e ∧ a 9 = v9 ∧ a 10 = v10 ∧ a 11 = v11 ∧ a 15 = .i (foldS f e (ls.take i) A).1 ∧ a 16 = .i (foldS f e (ls.take i) A).2.1 ∧ a 17 = .b (foldS f e (ls.take i) A).2.2 ∧ a 78 = l ∧ a 79 = .i ls.length ∧ a 80 = .i i) ?_ ?_
  · clear a0 a1 a2 a3 a9 a10 a11 a12
    rintro i a H' hi ⟨rfl, a0, a1, a2, a3, a9, a10, a11, a15, a16, a17, a78, a79, a80⟩ ih
    simp (disch := (first | assumption | omega | (simp only [List.length_append, List.length_cons, List.length_nil]; omega))) only [↓wD,wU,Nat.reduceBEq,zx150,zx151,zx159,zx160,zx161,zx162,Nat.reduceAdd,Nat.reduceSub,Nat.reduceMul,Nat.reduceLeDiff,Nat.reduceLT,Nat.reduceEqDiff,Int.reduceAdd,Int.reduceSub,Int.reduceMul,Int.reduceNeg,Int.reduceLT,Int.reduceLE,Int.reduceEq,Int.reduceToNat,Int.cast_ofNat_Int,↓reduceIte, a0, a1, a2, a3, a9, a10, a11, a15, a16, a17, a78, a79, a80]
    refine condP_split (fun hlt2 => ?_) (fun hlt2 => ?_)
    · have hi' : i < ls.length := by omega
      obtain ⟨l31, el⟩ := hel i hi'
      have et := foldS_take (f := f) (e := e) (a := A) hi'
      have fl := foldS_le (f := f) (e := e) (a := A) (ls := ls.take i)
      obtain ⟨⟨t1, t2, t3⟩, es⟩ : ∃ s, foldS f e (ls.take i) A = s := ⟨_, rfl⟩
      rw [es] at a15 a16 a17 et fl
      simp only at a15 a16 a17 fl
      unfold stepS at et
      have q1 := b_and (a := gi ls (i : Int)) (b := f) (by omega) (by omega)
      have q4 := b_and (a := gi ls (i : Int)) (b := e) (by omega) (by omega)
      have o1 := b_and (a := t1) (b := gi ls (i : Int)) (by omega) (by omega)
      have o2 := b_andNot (a := t2) (b := gi ls (i : Int)) (by omega) (by omega)
      unfold agN at et
      clear hss
      by_cases h1 : gi ls (i : Int) &&& f = f
      · rw [h1] at q1
        by_cases h2 : gi ls (i : Int) &&& e = 0
        · rw [h2] at q4
          rw [decide_eq_true h1, decide_eq_true h2, Bool.and_self, if_pos rfl] at et
          clear h1 h2
          generalize hT1 : t1 &&& gi ls (i : Int) = T1 at o1 et
          generalize hT2 : andN t2 (gi ls (i : Int)) = T2 at o2 et
          generalize gi ls (i : Int) = L at *
          simp (disch := (first | assumption | omega | (simp only [List.length_append, List.length_cons, List.length_nil]; omega))) only [↓wD,wU,Nat.reduceBEq,zx150,zx151,zx159,zx160,zx161,zx162,Nat.reduceAdd,Nat.reduceSub,Nat.reduceMul,Nat.reduceLeDiff,Nat.reduceLT,Nat.reduceEqDiff,Int.reduceAdd,Int.reduceSub,Int.reduceMul,Int.reduceNeg,Int.reduceLT,Int.reduceLE,Int.reduceEq,Int.reduceToNat,Int.cast_ofNat_Int,↓reduceIte, a0, a1, a2, a3, a9, a10, a11, a15, a16, a17, a78, a79, a80, hlI, el, q1, q4, o1, o2]
          refine (ih hi').go ⟨rfl, ?_⟩
          rw [et]
          simp (disch := (first | assumption | omega | (simp only [List.length_append, List.length_cons, List.length_nil]; omega))) only [↓wD,wU,Nat.reduceBEq,zx150,zx151,zx159,zx160,zx161,zx162,Nat.reduceAdd,Nat.reduceSub,Nat.reduceMul,Nat.reduceLeDiff,Nat.reduceLT,Nat.reduceEqDiff,Int.reduceAdd,Int.reduceSub,Int.reduceMul,Int.reduceNeg,Int.reduceLT,Int.reduceLE,Int.reduceEq,Int.reduceToNat,Int.cast_ofNat_Int,↓reduceIte, a0, a1, a2, a3, a9, a10, a11, a15, a16, a17, a78, a79, a80]
        · have hd : decide (((gi ls (i : Int) &&& e : Nat) : Int) = 0) = false := decide_eq_false (by omega)
          rw [decide_eq_false h2, Bool.and_false, if_neg (by decide)] at et
          simp (disch := (first | assumption | omega | (simp only [List.length_append, List.length_cons, List.length_nil]; omega))) only [↓wD,wU,Nat.reduceBEq,zx150,zx151,zx159,zx160,zx161,zx162,Nat.reduceAdd,Nat.reduceSub,Nat.reduceMul,Nat.reduceLeDiff,Nat.reduceLT,Nat.reduceEqDiff,Int.reduceAdd,Int.reduceSub,Int.reduceMul,Int.reduceNeg,Int.reduceLT,Int.reduceLE,Int.reduceEq,Int.reduceToNat,Int.cast_ofNat_Int,↓reduceIte, a0, a1, a2, a3, a9, a10, a11, a15, a16, a17, a78, a79, a80, hlI, el, q1, q4, hd]
          refine (ih hi').go ⟨rfl, ?_⟩
          rw [et]
          simp (disch := (first | assumption | omega | (simp only [List.length_append, List.length_cons, List.length_nil]; omega))) only [↓wD,wU,Nat.reduceBEq,zx150,zx151,zx159,zx160,zx161,zx162,Nat.reduceAdd,Nat.reduceSub,Nat.reduceMul,Nat.reduceLeDiff,Nat.reduceLT,Nat.reduceEqDiff,Int.reduceAdd,Int.reduceSub,Int.reduceMul,Int.reduceNeg,Int.reduceLT,Int.reduceLE,Int.reduceEq,Int.reduceToNat,Int.cast_ofNat_Int,↓reduceIte, a0, a1, a2, a3, a9, a10, a11, a15, a16, a17, a78, a79, a80]
      · have hd : decide (((gi ls (i : Int) &&& f : Nat) : Int) = f) = false := decide_eq_false (by omega)
        rw [decide_eq_false h1, Bool.false_and, if_neg (by decide)] at et
        simp (disch := (first | assumption | omega | (simp only [List.length_append, List.length_cons, List.length_nil]; omega))) only [↓wD,wU,Nat.reduceBEq,zx150,zx151,zx159,zx160,zx161,zx162,Nat.reduceAdd,Nat.reduceSub,Nat.reduceMul,Nat.reduceLeDiff,Nat.reduceLT,Nat.reduceEqDiff,Int.reduceAdd,Int.reduceSub,Int.reduceMul,Int.reduceNeg,Int.reduceLT,Int.reduceLE,Int.reduceEq,Int.reduceToNat,Int.cast_ofNat_Int,↓reduceIte, a0, a1, a2, a3, a9, a10, a11, a15, a16, a17, a78, a79, a80, hlI, el, q1, hd]
        refine (ih hi').go ⟨rfl, ?_⟩
        rw [et]
        simp (disch := (first | assumption | omega | (simp only [List.length_append, List.length_cons, List.length_nil]; omega))) only [↓wD,wU,Nat.reduceBEq,zx150,zx151,zx159,zx160,zx161,zx162,Nat.reduceAdd,Nat.reduceSub,Nat.reduceMul,Nat.reduceLeDiff,Nat.reduceLT,Nat.reduceEqDiff,Int.reduceAdd,Int.reduceSub,Int.reduceMul,Int.reduceNeg,Int.reduceLT,Int.reduceLE,Int.reduceEq,Int.reduceToNat,Int.cast_ofNat_Int,↓reduceIte, a0, a1, a2, a3, a9, a10, a11, a15, a16, a17, a78, a79, a80]
    · obtain rfl : i = ls.length := by omega
      rw [List.take_length, ← hss] at a15 a16 a17
      simp only at a15 a16 a17
      rcases hv with ⟨rfl, rfl, rfl, rfl⟩ | ⟨rfl, rfl⟩
      · simp (disch := (first | assumption | omega | (simp only [List.length_append, List.length_cons, List.length_nil]; omega))) only [↓wD,wU,Nat.reduceBEq,zx150,zx151,zx159,zx160,zx161,zx162,Nat.reduceAdd,Nat.reduceSub,Nat.reduceMul,Nat.reduceLeDiff,Nat.reduceLT,Nat.reduceEqDiff,Int.reduceAdd,Int.reduceSub,Int.reduceMul,Int.reduceNeg,Int.reduceLT,Int.reduceLE,Int.reduceEq,Int.reduceToNat,Int.cast_ofNat_Int,↓reduceIte, a0, a1, a2, a3, a9, a10, a11, a15, a16, a17]
        refine (list_ret hc).toF fun y H5 hg5 hy => ?_
        simp (disch := (first | assumption | omega | (simp only [List.length_append, List.length_cons, List.length_nil]; omega))) only [↓wD,wU,Nat.reduceBEq,zx150,zx151,zx159,zx160,zx161,zx162,Nat.reduceAdd,Nat.reduceSub,Nat.reduceMul,Nat.reduceLeDiff,Nat.reduceLT,Nat.reduceEqDiff,Int.reduceAdd,Int.reduceSub,Int.reduceMul,Int.reduceNeg,Int.reduceLT,Int.reduceLE,Int.reduceEq,Int.reduceToNat,Int.cast_ofNat_Int,↓reduceIte, a0, a1, a2, a3, a9, a10, a11, a15, a16, a17, (again hy rfl).call, an1, an2, awake_ret.call]
      · simp (disch := (first | assumption | omega | (simp only [List.length_append, List.length_cons, List.length_nil]; omega))) only [↓wD,wU,Nat.reduceBEq,zx150,zx151,zx159,zx160,zx161,zx162,Nat.reduceAdd,Nat.reduceSub,Nat.reduceMul,Nat.reduceLeDiff,Nat.reduceLT,Nat.reduceEqDiff,Int.reduceAdd,Int.reduceSub,Int.reduceMul,Int.reduceNeg,Int.reduceLT,Int.reduceLE,Int.reduceEq,Int.reduceToNat,Int.cast_ofNat_Int,↓reduceIte, a0, a1, a2, a3, a9, a10, a11, a15, a16, a17, awake_ret.call]
  · simp (disch := (first | assumption | omega | (simp only [List.length_append, List.length_cons, List.length_nil]; omega))) only [↓wD,wU,Nat.reduceBEq,zx150,zx151,zx159,zx160,zx161,zx162,Nat.reduceAdd,Nat.reduceSub,Nat.reduceMul,Nat.reduceLeDiff,Nat.reduceLT,Nat.reduceEqDiff,Int.reduceAdd,Int.reduceSub,Int.reduceMul,Int.reduceNeg,Int.reduceLT,Int.reduceLE,Int.reduceEq,Int.reduceToNat,Int.cast_ofNat_Int,↓reduceIte, a0, a1, a2, a3, a9, a10, a11, a12, hA]
    exact ⟨rfl, rfl, rfl⟩
theorem Walk.SquaresSettles (H : Heap) (n : Int) (w : AV) (cl : List Int) (hc : Sl (fun b => b < H.length) H w cl) (sz : cl.length * 8 ≤ 140737488351232) (f e : Int) : WpF E H.length 6 [.i n, w, .i f, .i e] H fun v _ => v = .b true := by
  refine law_of (RetP.ro rfl fn6 rfl rfl ?_)
  rw [← ins_eq 4 f6A.body]
  unfold f6A
  simp only [ins]
  simp (disch := (first | assumption | omega | (simp only [List.length_append, List.length_cons, List.length_nil]; omega))) only [↓wD,wU,Nat.reduceBEq,zx150,zx151,zx159,zx160,zx161,zx162,Nat.reduceAdd,Nat.reduceSub,Nat.reduceMul,Nat.reduceLeDiff,Nat.reduceLT,Nat.reduceEqDiff,Int.reduceAdd,Int.reduceSub,Int.reduceMul,Int.reduceNeg,Int.reduceLT,Int.reduceLE,Int.reduceEq,Int.reduceToNat,Int.cast_ofNat_Int,↓reduceIte]
  refine (list_ret hc).toF fun y H1 hg1 hy => ?_
  have hc1 := hc.gr hg1
  by_cases h : TellP n cl f e
  · have tr := tell_ret hy (TellP_cut.2 h)
    rw [setS_cut] at tr
    obtain ⟨h1, h2, h3, h4⟩ := h
    obtain ⟨m, x, rfl, rfl, m1, m5, x1, x31⟩ := h2.nat
    obtain ⟨m', y', em, rfl, _, _, y1, y31⟩ := h3.nat
    obtain rfl : m = m' := by omega
    simp only [Int.toNat_natCast] at h4 tr
    have an := b_and (a := x) (b := y') (by omega) (by omega)
    rw [h4] at an
    obtain ⟨⟨s1, s2, s3⟩, hS⟩ : ∃ s, setS m cl x y' = s := ⟨_, rfl⟩
    rw [hS] at tr
    have key : ∃ v9 v10 v11, tellA (s1, s2, s3) = .tp [v9, v10, v11] ∧ ((s3 = true ∧ v9 = .i s1 ∧ v10 = .i s2 ∧ v11 = .i 0) ∨ (s3 = false ∧ v11 = .i 4)) := by
      cases s3
      · exact ⟨_, _, _, rfl, .inr ⟨rfl, rfl⟩⟩
      · exact ⟨_, _, _, rfl, .inl ⟨rfl, rfl, rfl, rfl⟩⟩
    obtain ⟨v9, v10, v11, et, hv⟩ := key
    rw [et] at tr
    simp (disch := (first | assumption | omega | (simp only [List.length_append, List.length_cons, List.length_nil]; omega))) only [↓wD,wU,Nat.reduceBEq,zx150,zx151,zx159,zx160,zx161,zx162,Nat.reduceAdd,Nat.reduceSub,Nat.reduceMul,Nat.reduceLeDiff,Nat.reduceLT,Nat.reduceEqDiff,Int.reduceAdd,Int.reduceSub,Int.reduceMul,Int.reduceNeg,Int.reduceLT,Int.reduceLE,Int.reduceEq,Int.reduceToNat,Int.cast_ofNat_Int,↓reduceIte, tr.call]
    refine (list_ret hc1).toF fun y2 H2 hg2 hy2 => ?_
    have hc2 := hc1.gr hg2
    simp (disch := (first | assumption | omega | (simp only [List.length_append, List.length_cons, List.length_nil]; omega))) only [↓wD,wU,Nat.reduceBEq,zx150,zx151,zx159,zx160,zx161,zx162,Nat.reduceAdd,Nat.reduceSub,Nat.reduceMul,Nat.reduceLeDiff,Nat.reduceLT,Nat.reduceEqDiff,Int.reduceAdd,Int.reduceSub,Int.reduceMul,Int.reduceNeg,Int.reduceLT,Int.reduceLE,Int.reduceEq,Int.reduceToNat,Int.cast_ofNat_Int,↓reduceIte]
    refine (linesX_ret hy2 (ClueP_cut.2 h1)).to fun u3 H3 hg3 hu3 => ?_
    obtain ⟨l, _, rfl, hl, rfl⟩ := rv2 hu3
    replace hl := rvs hl
    rw [Int.toNat_natCast, linesL_cut] at hl
    have hc3 := hc2.gr hg3
    have i2 := rset_ret (H := H3) (n := m) (x := x)
    have i3 := rset_ret (H := H3) (n := m) (x := y')
    rw [decide_eq_true h2] at i2
    rw [decide_eq_true h3] at i3
    simp (disch := (first | assumption | omega | (simp only [List.length_append, List.length_cons, List.length_nil]; omega))) only [↓wD,wU,Nat.reduceBEq,zx150,zx151,zx159,zx160,zx161,zx162,Nat.reduceAdd,Nat.reduceSub,Nat.reduceMul,Nat.reduceLeDiff,Nat.reduceLT,Nat.reduceEqDiff,Int.reduceAdd,Int.reduceSub,Int.reduceMul,Int.reduceNeg,Int.reduceLT,Int.reduceLE,Int.reduceEq,Int.reduceToNat,Int.cast_ofNat_Int,↓reduceIte, i2.call, i3.call, an]
    refine set_tail (p := fun _ => True) m5 x1 y1 hS (hc3.weak fun _ _ => trivial) (hl.weak fun _ _ => trivial) hv h1 ?_ ?_ ?_ ?_ ?_ ?_ ?_ ?_
    all_goals (simp (disch := (first | assumption | omega | (simp only [List.length_append, List.length_cons, List.length_nil]; omega))) only [↓wD,wU,Nat.reduceBEq,zx150,zx151,zx159,zx160,zx161,zx162,Nat.reduceAdd,Nat.reduceSub,Nat.reduceMul,Nat.reduceLeDiff,Nat.reduceLT,Nat.reduceEqDiff,Int.reduceAdd,Int.reduceSub,Int.reduceMul,Int.reduceNeg,Int.reduceLT,Int.reduceLE,Int.reduceEq,Int.reduceToNat,Int.cast_ofNat_Int,↓reduceIte])
  · have te := tell_err hy (fun q => h (TellP_cut.1 q))
    simp (disch := (first | assumption | omega | (simp only [List.length_append, List.length_cons, List.length_nil]; omega))) only [↓wD,wU,Nat.reduceBEq,zx150,zx151,zx159,zx160,zx161,zx162,Nat.reduceAdd,Nat.reduceSub,Nat.reduceMul,Nat.reduceLeDiff,Nat.reduceLT,Nat.reduceEqDiff,Int.reduceAdd,Int.reduceSub,Int.reduceMul,Int.reduceNeg,Int.reduceLT,Int.reduceLE,Int.reduceEq,Int.reduceToNat,Int.cast_ofNat_Int,↓reduceIte, te.call]
    refine (list_ret hc1).toF fun y2 H2 hg2 hy2 => ?_
    have hc2 := hc1.gr hg2
    by_cases h1 : ClueP n cl
    · simp (disch := (first | assumption | omega | (simp only [List.length_append, List.length_cons, List.length_nil]; omega))) only [↓wD,wU,Nat.reduceBEq,zx150,zx151,zx159,zx160,zx161,zx162,Nat.reduceAdd,Nat.reduceSub,Nat.reduceMul,Nat.reduceLeDiff,Nat.reduceLT,Nat.reduceEqDiff,Int.reduceAdd,Int.reduceSub,Int.reduceMul,Int.reduceNeg,Int.reduceLT,Int.reduceLE,Int.reduceEq,Int.reduceToNat,Int.cast_ofNat_Int,↓reduceIte]
      refine (linesX_ret hy2 (ClueP_cut.2 h1)).to fun u3 H3 hg3 hu3 => ?_
      obtain ⟨l, _, rfl, hl, rfl⟩ := rv2 hu3
      have i2 := rset_ret (H := H3) (n := n) (x := f)
      have i3 := rset_ret (H := H3) (n := n) (x := e)
      by_cases h2 : SetP n f
      · rw [decide_eq_true h2] at i2
        by_cases h3 : SetP n e
        · rw [decide_eq_true h3] at i3
          have h4 : ¬ f.toNat &&& e.toNat = 0 := fun h4 => h ⟨h1, h2, h3, h4⟩
          obtain ⟨m, x, rfl, rfl, m1, m5, _, x31⟩ := h2.nat
          obtain ⟨m', y, em, rfl, _, _, _, y31⟩ := h3.nat
          simp only [Int.toNat_natCast] at h4
          have an := b_and (a := x) (b := y) (by omega) (by omega)
          have hd : decide (¬ ((x &&& y : Nat) : Int) = 0) = true := decide_eq_true (by omega)
          simp (disch := (first | assumption | omega | (simp only [List.length_append, List.length_cons, List.length_nil]; omega))) only [↓wD,wU,Nat.reduceBEq,zx150,zx151,zx159,zx160,zx161,zx162,Nat.reduceAdd,Nat.reduceSub,Nat.reduceMul,Nat.reduceLeDiff,Nat.reduceLT,Nat.reduceEqDiff,Int.reduceAdd,Int.reduceSub,Int.reduceMul,Int.reduceNeg,Int.reduceLT,Int.reduceLE,Int.reduceEq,Int.reduceToNat,Int.cast_ofNat_Int,↓reduceIte, i2.call, i3.call, an, hd, awake_ret.call]
        · rw [decide_eq_false h3] at i3
          simp (disch := (first | assumption | omega | (simp only [List.length_append, List.length_cons, List.length_nil]; omega))) only [↓wD,wU,Nat.reduceBEq,zx150,zx151,zx159,zx160,zx161,zx162,Nat.reduceAdd,Nat.reduceSub,Nat.reduceMul,Nat.reduceLeDiff,Nat.reduceLT,Nat.reduceEqDiff,Int.reduceAdd,Int.reduceSub,Int.reduceMul,Int.reduceNeg,Int.reduceLT,Int.reduceLE,Int.reduceEq,Int.reduceToNat,Int.cast_ofNat_Int,↓reduceIte, i2.call, i3.call, awake_ret.call]
      · rw [decide_eq_false h2] at i2
        simp (disch := (first | assumption | omega | (simp only [List.length_append, List.length_cons, List.length_nil]; omega))) only [↓wD,wU,Nat.reduceBEq,zx150,zx151,zx159,zx160,zx161,zx162,Nat.reduceAdd,Nat.reduceSub,Nat.reduceMul,Nat.reduceLeDiff,Nat.reduceLT,Nat.reduceEqDiff,Int.reduceAdd,Int.reduceSub,Int.reduceMul,Int.reduceNeg,Int.reduceLT,Int.reduceLE,Int.reduceEq,Int.reduceToNat,Int.cast_ofNat_Int,↓reduceIte, i2.call, awake_ret.call]
    · simp (disch := (first | assumption | omega | (simp only [List.length_append, List.length_cons, List.length_nil]; omega))) only [↓wD,wU,Nat.reduceBEq,zx150,zx151,zx159,zx160,zx161,zx162,Nat.reduceAdd,Nat.reduceSub,Nat.reduceMul,Nat.reduceLeDiff,Nat.reduceLT,Nat.reduceEqDiff,Int.reduceAdd,Int.reduceSub,Int.reduceMul,Int.reduceNeg,Int.reduceLT,Int.reduceLE,Int.reduceEq,Int.reduceToNat,Int.cast_ofNat_Int,↓reduceIte, (linesX_err hy2 (fun q => h1 (ClueP_cut.1 q))).call, awake_ret.call]
end Go.Proofs.YtjjndoigkhabdaaDoor
