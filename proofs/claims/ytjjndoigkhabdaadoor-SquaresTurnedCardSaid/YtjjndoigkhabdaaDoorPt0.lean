/- What the law needs: what its functions do, and the laws on lists behind it. No condition. -/
import Derived.Test.YtjjndoigkhabdaaDoorPi
import Derived.Test.YtjjndoigkhabdaaDoorBo
import Derived.Lib.TrailingZeros
import Derived.Shelf.Spec.TrailingZeros
import Derived.KernelRfl
import Derived.Laws.StructEq
import Derived.Test.YtjjndoigkhabdaaDoorRows
import Derived.ProofKit
import Derived.LaidMore
import Derived.OpenShut
import Derived.Stop.Joined
import Derived.WalkKit
import Derived.ShutString
import Derived.ChangeOld
import Derived.Below
import Derived.SizedLaws
import Derived.Carry
import Derived.SevenTiedAt
set_option linter.unusedSimpArgs false
set_option linter.unusedVariables false
namespace Go.Proofs.YtjjndoigkhabdaaDoor
open Go Go.AM Go.Proofs Go.Shelf Go.RowKit
def tzRen : Ren where
  f n := if n = 27 then 87 else if n = 28 then 108 else 109
  t n := if n = 22 then 112 else if n = 25 then 65 else if n = 27 then 110 else if n = 53 then 117 else if n = 54 then 118 else n
  g n := n
theorem tzLays : Lays7.n27 Tryd.prog tzRen where
  mixed := by kernel_rfl
  f27 := by kernel_rfl
  f28 := by kernel_rfl
  f29 := by kernel_rfl
  t0 := by kernel_rfl
  a0 := fun w => by kernel_rfl
  z0 := fun w => by kernel_rfl
  v0 := fun w => by kernel_rfl
  i0 := by kernel_rfl
  t3 := by kernel_rfl
  a3 := fun w => by kernel_rfl
  z3 := fun w => by kernel_rfl
  v3 := fun w => by kernel_rfl
  i3 := by kernel_rfl
  t4 := by kernel_rfl
  a4 := fun w => by kernel_rfl
  z4 := fun w => by kernel_rfl
  v4 := fun w => by kernel_rfl
  i4 := by kernel_rfl
  t5 := by kernel_rfl
  a5 := fun w => by kernel_rfl
  z5 := fun w => by kernel_rfl
  v5 := fun w => by kernel_rfl
  i5 := by kernel_rfl
  t22 := by kernel_rfl
  a22 := fun w => by kernel_rfl
  z22 := fun w => by kernel_rfl
  v22 := fun w => by kernel_rfl
  i22 := by kernel_rfl
  t25 := by kernel_rfl
  a25 := fun w => by kernel_rfl
  z25 := fun w => by kernel_rfl
  v25 := fun w => by kernel_rfl
  i25 := by kernel_rfl
  t27 := by kernel_rfl
  a27 := fun w => by kernel_rfl
  z27 := fun w => by kernel_rfl
  v27 := fun w => by kernel_rfl
  i27 := by kernel_rfl
  t53 := by kernel_rfl
  a53 := fun w => by kernel_rfl
  z53 := fun w => by kernel_rfl
  v53 := fun w => by kernel_rfl
  i53 := by kernel_rfl
  t54 := by kernel_rfl
  a54 := fun w => by kernel_rfl
  z54 := fun w => by kernel_rfl
  g0 := by kernel_rfl
  g1 := by kernel_rfl
/-- the library's table lies in its variable -/
def TzI (w : World) : Prop := TabAt 1 Lib.deBruijn64tab w
theorem tzI_stable : Stable TzI := fun w w' h hb j hj => by
  have h1 := h j hj
  have hlt : (1 : Nat) < w.heap.size := by
    rcases Nat.lt_or_ge 1 w.heap.size with q | q
    · exact q
    · simp [World.cell?, Array.getElem?_eq_none q] at h1
  rw [← h1]
  exact hb.cell hlt
theorem tz_prim (I : World → Prop) (hI : ∀ w, I w → TzI w) : ∀ (vs : List AV) (v : AV) (args : Array Value) (w : World), tzP vs = some v → VRelL (fun _ => none) vs args.toList → I w → ∀ cs, ∃ x w', Rets Tryd.prog 87 args cs w x w' ∧ VRel (fun _ => none) v x ∧ Below w.heap.size w w' := by
  intro vs v args w hv hr hw cs
  obtain ⟨n, rfl, h0, h1, rfl⟩ : ∃ n : Int, vs = [.int .u64 n] ∧ 0 ≤ n ∧ n ≤ 18446744073709551615 ∧ v = .i (Lib.ctz 64 n.toNat : Nat) := by
    unfold tzP at hv
    split at hv
    · rename_i n
      split at hv
      · rename_i h
        simp only [Option.some.injEq] at hv
        exact ⟨n, rfl, h.1, h.2, hv.symm⟩
      · cases hv
    · cases hv
  obtain ⟨n, rfl⟩ := Int.eq_ofNat_of_zero_le h0
  have ha : args = #[.int .u64 (n : Int)] := by
    simp only [VRelL] at hr
    obtain ⟨x, xs, e, hx, hxs⟩ := hr
    simp only [VRel] at hx
    cases args
    simp_all
  subst ha
  obtain ⟨e, w', fr, ⟨rfl, rfl⟩, hc, hf, hl⟩ := Any7.bits_TrailingZeros tzLays n (by omega) w (fun _ => hI w hw) cs
  exact ⟨_, _, ⟨fr, hc, hf, hl⟩, by simp [VRel], Below.refl _ _⟩
theorem tz_enters : Enters' Tryd.prog 87 := enters_of tzLays.f27 (by kernel_rfl) rfl
end Go.Proofs.YtjjndoigkhabdaaDoor
namespace Go.Proofs.YtjjndoigkhabdaaDoor
open Go Go.AM Go.Proofs Go.RowKit
theorem list2 {xs : List Int} (h : xs.length = 2) : ∃ a b, xs = [a, b] := by
  match xs, h with
  | [a, b], _ => exact ⟨a, b, rfl⟩
theorem eq72 (w : World) (x0 x1 y0 y1 : Int) : (Op.equalIn 10000 72 (.agg #[.int .i64 x0, .int .i64 x1]) (.agg #[.int .i64 y0, .int .i64 y1])).run C.P w = .ok ([x0, x1] == [y0, y1]) w := by
  rw [run_equalIn_struct w 9999 72 _ _ (by kernel_rfl) (by kernel_rfl)]
  have hi : Tryd.prog.underlying 3 = some (.int .i64) := Tryd.underlying3
  have e : ∀ a b : Int, (Op.equalIn 9999 3 (.int .i64 a) (.int .i64 b)).run Tryd.prog w = .ok (a == b) w := fun a b => run_equalIn_int w 9998 3 .i64 .i64 a b hi
  have pt : ∀ (a b : Int) (k : Nat), k < 2 → (part 3 #[.int .i64 a, .int .i64 b] k).run Tryd.prog w = .ok (.int .i64 (if k = 0 then a else b)) w := by
    intro a b k hk
    have : k = 0 ∨ k = 1 := by omega
    rcases this with rfl | rfl <;> go_simp
  simp [Tryd.underlying72, Program.fieldsOf, C, Op.eqFields, pt, e]
  by_cases h1 : x0 = y0 <;> by_cases h2 : x1 = y1 <;> simp [h1, h2]
theorem eqOk : EqOk C := by
  intro t n ht xs ys hx hy neg xo yo w
  obtain ⟨rfl, rfl⟩ : t = 72 ∧ n = 2 := by
    simp only [C] at ht
    split at ht
    · rename_i h; cases ht; exact ⟨by simpa using h, rfl⟩
    · cases ht
  obtain ⟨x0, x1, rfl⟩ := list2 hx
  obtain ⟨y0, y1, rfl⟩ := list2 hy
  have g : ∀ op, (eqGuard op 72 xo yo (.agg (ints [x0, x1])) (.agg (ints [y0, y1]))).run C.P w = .ok () w := fun op => run_eqGuard_agg w op 72 xo yo _ _ (by kernel_rfl)
  have e := eq72 w x0 x1 y0 y1
  cases neg
  · simp only [Bool.false_eq_true, if_false, Sem.run_bind, g, Result.andThen_ok, run_eql_struct]
    simp [ints] at e ⊢; rw [e]; rfl
  · simp only [if_true, Sem.run_bind, g, Result.andThen_ok, run_neq_struct]
    simp [ints] at e ⊢; rw [e]; simp [Result.andThen, Bool.not_and]
theorem eOk : EOk C TzI E where
  kd := rfl
  fn := fun f af h => tab_ok (f, af) (lookup_mem h)
  prim := fun f g h => by
    simp only [C, kd] at h
    split at h
    · cases h
    · split at h
      · cases h
      · split at h
        · rename_i e
          cases h
          subst e
          exact ⟨tz_enters, tz_prim TzI fun _ h => h⟩
        · cases h
  stable := tzI_stable
  eq := eqOk
  mixed := mixed
theorem hrelI {ρ : Mp} {H : Heap} {w : World} {I : World → Prop} (h : FRel C ρ H w) (hI : I w) : HRel C I ρ H.length w H w where
  below := Below.refl _ _
  inv := hI
  lt := Nat.le_refl _
  dom := h.1
  own b r e hb := absurd (h.1 b r e) (by omega)
  apart b b' r r' k k' e _ hb := absurd (h.1 b r e) (by omega)
  blk b r k e hk := by
    have hb : ¬ H.length ≤ b := by have := h.1 b r e; omega
    have := h.2 b r k e hk
    cases k with
    | cells vs => exact ⟨this.1, fun q => absurd q hb, fun _ => this.2.2 (fun q => q)⟩
    | dead => trivial
    | loop st pend nt fr ps asg body => exact fun q => absurd q hb
/-- from the abstract machine to the row's walk -/
theorem walk_lawI {f : Nat} {vs : List AV} {H : Heap} (hx : WpF E H.length f vs H fun v _ => v = .b true) {ρ : Mp} {w : World} (hF : FRel C ρ H w) (hI : TzI w) {args : Array Value} (ha : VRelL ρ vs args.toList) :
    Calls C.P f args w fun e W' => e = .returned (.bool true) ∧ Below w.heap.size w W' := by
  obtain ⟨n, v, H', h1, rfl⟩ := hx
  refine (calls_of eOk rfl h1 (hrelI hF hI) ha (Nat.le_refl _)).mono fun e W' h => ?_
  obtain ⟨ρ', x, rfl, h2, h3, _⟩ := h
  rw [h2.bool]
  exact ⟨rfl, h3.below⟩
end Go.Proofs.YtjjndoigkhabdaaDoor
namespace Go.Proofs.YtjjndoigkhabdaaDoor
open Go Go.AM Go.Proofs Go.ChangeShapes Go.WideShapes Go.ChangeAt Go.WideMaps Go.WideElems Go.RowKit
theorem gT64 : Tryd.prog.globalNamed "math/bits.deBruijn64tab" = some 1 := by kernel_rfl
theorem tT64 : (Tryd.prog.globals[1]?).map (·.type) = some 118 := by kernel_rfl
abbrev laid2 {H : Type} : List (String × DataW H) := [("math/bits.deBruijn32tab", Rows.laid_math_bits_deBruijn32tab), ("math/bits.deBruijn64tab", Rows.laid_math_bits_deBruijn64tab)]
/-- the door's own heap meets the condition -/
theorem door_met (os : Os) (args : Array Value) : laidMetH Tryd.prog laid2 ((World.doorLaid Tryd.prog 400 os).forCall (fun _ _ => 0) ⟨#[], args, []⟩).memory :=
  laidMetH_of_parts3 (fuel := 8) (laidMet_of_run' 8 (by kernel_rfl) (by kernel_rfl)) (by kernel_rfl) (by kernel_rfl)
theorem lits64 {H : Type} : ∃ l : List (DataW H), Rows.laid_math_bits_deBruijn64tab = .agg l ∧ l = Lib.deBruijn64tab.map fun k : Nat => .lit (.int .u8 (k : Int)) := ⟨_, rfl, rfl⟩
theorem tzI_of_laid {W : World} (h : laidMetH Tryd.prog laid2 W) : TzI W := by
  rw [MakeChecks.laidMetH_plain _ _ _ (by kernel_rfl)] at h
  obtain ⟨ps, ⟨g0, t0, cs0, f0, p0, q0, hg0, ht0, hv0, hd0, ⟨g1, t1, cs1, f1, p1, q1, hg1, ht1, hv1, hd1, _, _⟩, _⟩, _, _⟩ := h
  obtain rfl := Option.some.inj (gT64.symm.trans hg1)
  obtain rfl := Option.some.inj (tT64.symm.trans ht1)
  intro j hj
  have hj64 : j < 64 := hj
  obtain ⟨xs, m1, rfl, hx1, hlen, hn3, hel⟩ := DataW.trod_array Tryd.underlying118 hd1
  have c5 : Tryd.prog.cellsOf 5 = 1 := by kernel_rfl
  have h0 := hel j hj64
  obtain ⟨l, el, hl⟩ := lits64 (H := _)
  simp only [Prod.mk.injEq] at hx1
  rw [el] at hx1
  have hmap : l = xs.map (·.1) := by
    have := hx1.1
    simpa using this
  have hxj : xs[j]? = some (xs[j]'(by omega)) := List.getElem?_eq_getElem (by omega)
  rw [hxj, c5, Nat.mul_one] at h0
  obtain ⟨k, e1, e2, _⟩ := DataW.trod_int Tryd.underlying5 h0
  have e3 : l[j]? = some (xs[j]'(by omega)).1 := by rw [hmap, List.getElem?_map, hxj]; rfl
  rw [e2, hl, List.getElem?_map] at e3
  have e4 : Lib.deBruijn64tab[j]? = some (Lib.deBruijn64tab.getD j 0) := by
    rw [List.getD_eq_getElem?_getD]
    have : j < Lib.deBruijn64tab.length := hj
    rw [List.getElem?_eq_getElem this]; rfl
  rw [e4] at e3
  simp only [Option.map_some, Option.some.injEq, DataW.lit.injEq, Lit.int.injEq, true_and] at e3
  have hc := World.var?_cell hg1 hv1 j
  have e5 : cs1[j]? = some (.int .u8 k) := by
    have : (cs1.toList.drop j).take 1 = [.int .u8 k] := e1
    have := take1 this
    simpa using this
  rw [e5, ← e3] at hc
  exact hc
end Go.Proofs.YtjjndoigkhabdaaDoor
namespace Go.Proofs.YtjjndoigkhabdaaDoor
open Go Go.AM Go.Proofs
theorem equal_ret {p q : Nat → Prop} {H : Heap} {v u : AV} {xs ys : List Int} (hx : Sl p H v xs) (hy : Sl q H u ys) : RetP E 21 [v, u] H (.b (decide (xs = ys))) := by
  refine RetP.ro rfl fn21 rfl rfl ?_
  unfold f21A
  have hbx := hx.bound
  repeat' (first | refine condP_split (fun _ => ?_) (fun _ => ?_) | refine guardP_split (fun _ => ?_) (fun _ => ?_) | refine guardP_splitF (fun _ => ?_) (fun _ => ?_) | (simp (disch := (first | assumption | omega | (simp only [List.length_append, List.length_cons, List.length_nil]; omega))) only [↓wD,wU,Nat.reduceBEq,zx150,zx151,zx159,zx160,zx161,zx162,Nat.reduceAdd,Nat.reduceSub,Nat.reduceMul,Nat.reduceLeDiff,Nat.reduceLT,Nat.reduceEqDiff,Int.reduceAdd,Int.reduceSub,Int.reduceMul,Int.reduceNeg,Int.reduceLT,Int.reduceLE,Int.reduceEq,Int.reduceToNat,Int.cast_ofNat_Int,↓reduceIte, *, hx.I, hy.I]))
  · exact avb_f fun h => by simp_all
  · have hl : xs.length = ys.length := by omega
    refine Wp.for xs.length (fun i a H' => H' = H ∧ a 0 = v ∧ a 1 = u ∧ a 12 = .i xs.length ∧ a 13 = .i i ∧ xs.take i = ys.take i) ?_ ?_
    · rintro i a H' hi ⟨rfl, h0, h1, h12, h13, hh⟩ ih
      simp (disch := (first | assumption | omega | (simp only [List.length_append, List.length_cons, List.length_nil]; omega))) only [↓wD,wU,Nat.reduceBEq,zx150,zx151,zx159,zx160,zx161,zx162,Nat.reduceAdd,Nat.reduceSub,Nat.reduceMul,Nat.reduceLeDiff,Nat.reduceLT,Nat.reduceEqDiff,Int.reduceAdd,Int.reduceSub,Int.reduceMul,Int.reduceNeg,Int.reduceLT,Int.reduceLE,Int.reduceEq,Int.reduceToNat,Int.cast_ofNat_Int,↓reduceIte, *]
      refine condP_split (fun hlt => ?_) (fun hlt => ?_)
      · have hi' : i < xs.length := by omega
        repeat' (first | refine condP_split (fun _ => ?_) (fun _ => ?_) | refine guardP_split (fun _ => ?_) (fun _ => ?_) | refine guardP_splitF (fun _ => ?_) (fun _ => ?_) | (simp (disch := (first | assumption | omega | (simp only [List.length_append, List.length_cons, List.length_nil]; omega))) only [↓wD,wU,Nat.reduceBEq,zx150,zx151,zx159,zx160,zx161,zx162,Nat.reduceAdd,Nat.reduceSub,Nat.reduceMul,Nat.reduceLeDiff,Nat.reduceLT,Nat.reduceEqDiff,Int.reduceAdd,Int.reduceSub,Int.reduceMul,Int.reduceNeg,Int.reduceLT,Int.reduceLE,Int.reduceEq,Int.reduceToNat,Int.cast_ofNat_Int,↓reduceIte, *, hx.I, hy.I]))
        · exact avb_f fun h => by simp_all
        · refine (ih hi').go ⟨rfl, ?_⟩
          simp (disch := (first | assumption | omega | (simp only [List.length_append, List.length_cons, List.length_nil]; omega))) only [↓wD,wU,Nat.reduceBEq,zx150,zx151,zx159,zx160,zx161,zx162,Nat.reduceAdd,Nat.reduceSub,Nat.reduceMul,Nat.reduceLeDiff,Nat.reduceLT,Nat.reduceEqDiff,Int.reduceAdd,Int.reduceSub,Int.reduceMul,Int.reduceNeg,Int.reduceLT,Int.reduceLE,Int.reduceEq,Int.reduceToNat,Int.cast_ofNat_Int,↓reduceIte, *]
          exact take_eq_succ hh hi' (by omega) (by simp_all)
      · simp (disch := (first | assumption | omega | (simp only [List.length_append, List.length_cons, List.length_nil]; omega))) only [↓wD,wU,Nat.reduceBEq,zx150,zx151,zx159,zx160,zx161,zx162,Nat.reduceAdd,Nat.reduceSub,Nat.reduceMul,Nat.reduceLeDiff,Nat.reduceLT,Nat.reduceEqDiff,Int.reduceAdd,Int.reduceSub,Int.reduceMul,Int.reduceNeg,Int.reduceLT,Int.reduceLE,Int.reduceEq,Int.reduceToNat,Int.cast_ofNat_Int,↓reduceIte, *]
        exact avb_t (take_all hh hl (by omega))
    · (simp (disch := (first | assumption | omega | (simp only [List.length_append, List.length_cons, List.length_nil]; omega))) only [↓wD,wU,Nat.reduceBEq,zx150,zx151,zx159,zx160,zx161,zx162,Nat.reduceAdd,Nat.reduceSub,Nat.reduceMul,Nat.reduceLeDiff,Nat.reduceLT,Nat.reduceEqDiff,Int.reduceAdd,Int.reduceSub,Int.reduceMul,Int.reduceNeg,Int.reduceLT,Int.reduceLE,Int.reduceEq,Int.reduceToNat,Int.cast_ofNat_Int,↓reduceIte, *]) <;> simp
theorem clone_ret {p : Nat → Prop} {H : Heap} {v : AV} {xs : List Int} (hx : Sl p H v xs) (hs : xs.length * 8 ≤ 1099511627776) : Ret E 33 [v] (fun _ => False) H xs := by
  refine Ret.ro rfl fn33 rfl ?_
  unfold f33A
  have main : ∀ {Q : AV × Heap → Prop}, (∀ v' H', Sl (fun b => H.length ≤ b) H' v' xs → Q (v', H')) → @optP _ (appendV H.length 1 8 (.s 1 H.length 0 0 (some 0)) v (H ++ [.cells []])) ⟨Q⟩ := fun {Q} go => by
    have ha : Acc H.length (fun _ => True) (H ++ [.cells []]) (.s 1 H.length 0 0 (some 0)) ([] : List Int) := Acc.fresh0 (Nat.le_refl _)
    refine ha.extend (q := fun b => b < H.length) (Nat.le_refl _) (by simp) ((hx.low.app [.cells []]).weak fun b h => h.2) (fun b hb => ⟨trivial, ?_⟩) (by simpa using hs) (by omega) fun v' H' h' _ => go _ _ ?_
    · intro e; simp only [AV.blk, Option.some.injEq] at e; omega
    · rw [List.nil_append] at h'
      rcases h' with h' | ⟨b, o, c, k, e, hb, hk, h1, h2, h3⟩
      · exact .inl h'
      · exact .inr ⟨b, o, c, k, e, hb, hk, h1, h2, h3⟩
  rcases hx with ⟨rfl, rfl⟩ | ⟨b, o, c, k, e, hb, hk, h1, h2, h3⟩
  · simp (disch := (first | assumption | omega | (simp only [List.length_append, List.length_cons, List.length_nil]; omega))) only [↓wD,wU,Nat.reduceBEq,zx150,zx151,zx159,zx160,zx161,zx162,Nat.reduceAdd,Nat.reduceSub,Nat.reduceMul,Nat.reduceLeDiff,Nat.reduceLT,Nat.reduceEqDiff,Int.reduceAdd,Int.reduceSub,Int.reduceMul,Int.reduceNeg,Int.reduceLT,Int.reduceLE,Int.reduceEq,Int.reduceToNat,Int.cast_ofNat_Int,↓reduceIte, *]
    exact Sl.nil
  · subst e
    simp (disch := (first | assumption | omega | (simp only [List.length_append, List.length_cons, List.length_nil]; omega))) only [↓wD,wU,Nat.reduceBEq,zx150,zx151,zx159,zx160,zx161,zx162,Nat.reduceAdd,Nat.reduceSub,Nat.reduceMul,Nat.reduceLeDiff,Nat.reduceLT,Nat.reduceEqDiff,Int.reduceAdd,Int.reduceSub,Int.reduceMul,Int.reduceNeg,Int.reduceLT,Int.reduceLE,Int.reduceEq,Int.reduceToNat,Int.cast_ofNat_Int,↓reduceIte, *]
    refine main fun v' H' h' => ?_
    simp (disch := (first | assumption | omega | (simp only [List.length_append, List.length_cons, List.length_nil]; omega))) only [↓wD,wU,Nat.reduceBEq,zx150,zx151,zx159,zx160,zx161,zx162,Nat.reduceAdd,Nat.reduceSub,Nat.reduceMul,Nat.reduceLeDiff,Nat.reduceLT,Nat.reduceEqDiff,Int.reduceAdd,Int.reduceSub,Int.reduceMul,Int.reduceNeg,Int.reduceLT,Int.reduceLE,Int.reduceEq,Int.reduceToNat,Int.cast_ofNat_Int,↓reduceIte, *]
    exact h'.weak fun _ h => .inr h
end Go.Proofs.YtjjndoigkhabdaaDoor
namespace Go.Proofs.YtjjndoigkhabdaaDoor
open Go Go.AM Go.Proofs
theorem _root_.Go.AM.RetP.prim {E : Tab} {f : Nat} {g : List AV → Option AV} {vs : List AV} {v : AV} {H : Heap} (hk : E.kd f = .prim g) (h : g vs = some v) (hv : v.pure = true) (ha : AV.pureAll vs = true) : RetP E f vs H v := fun lo => by
  refine ⟨0, v, H, ?_, rfl, rfl⟩
  unfold callF
  simp [hk, h, hv, ha]
/-! ### Bits -/
theorem ofI {a : Nat} (h : a ≤ 9223372036854775807) : (BitVec.ofInt 64 (a : Int)).toNat = a := by
  rw [BitVec.ofInt_natCast, BitVec.toNat_ofNat]; exact Nat.mod_eq_of_lt (by omega)
theorem and_le {a b : Nat} (h : a ≤ 9223372036854775807) : a &&& b ≤ 9223372036854775807 := Nat.le_trans Nat.and_le_left h
theorem or_le {a b : Nat} (h : a ≤ 9223372036854775807) (h' : b ≤ 9223372036854775807) : a ||| b ≤ 9223372036854775807 := by
  have : a ||| b < 2 ^ 63 := Nat.or_lt_two_pow (by omega) (by omega)
  omega
theorem b_and {a b : Nat} (h : a ≤ 9223372036854775807) (h' : b ≤ 9223372036854775807) : binA .and (.i (a : Int)) (.i (b : Int)) = some (.i ((a &&& b : Nat) : Int)) := by
  have e : (BitVec.ofInt 64 (a : Int) &&& BitVec.ofInt 64 (b : Int)).toNat = a &&& b := by rw [BitVec.toNat_and, ofI h, ofI h']
  show some (AV.int .i64 (IntKind.wrap .i64 ((BitVec.ofInt 64 (a : Int) &&& BitVec.ofInt 64 (b : Int)).toNat : Int))) = _
  have := and_le (b := b) h
  rw [e, zx172 (by omega) (by omega)]
theorem b_or {a b : Nat} (h : a ≤ 9223372036854775807) (h' : b ≤ 9223372036854775807) : binA .or (.i (a : Int)) (.i (b : Int)) = some (.i ((a ||| b : Nat) : Int)) := by
  have e : (BitVec.ofInt 64 (a : Int) ||| BitVec.ofInt 64 (b : Int)).toNat = a ||| b := by rw [BitVec.toNat_or, ofI h, ofI h']
  show some (AV.int .i64 (IntKind.wrap .i64 ((BitVec.ofInt 64 (a : Int) ||| BitVec.ofInt 64 (b : Int)).toNat : Int))) = _
  have := or_le h h'
  rw [e, zx172 (by omega) (by omega)]
/-- the bits of a that are not in b -/
def andN (a b : Nat) : Nat := a &&& (18446744073709551615 - b)
theorem andN_bit {a b : Nat} (h : a ≤ 9223372036854775807) (h' : b ≤ 9223372036854775807) (i : Nat) : (andN a b).testBit i = (a.testBit i && !b.testBit i) := by
  unfold andN
  rw [Nat.testBit_and]
  have e := Nat.testBit_two_pow_sub_succ (n := 64) (x := b) (by omega) i
  rw [show 2 ^ 64 - (b + 1) = 18446744073709551615 - b by omega] at e
  rw [e]
  by_cases hi : i < 64
  · simp [hi]
  · have : a.testBit i = false := Nat.testBit_lt_two_pow (Nat.lt_of_lt_of_le (show a < 2 ^ 64 by omega) (Nat.pow_le_pow_right (by omega) (by omega)))
    simp [this]
theorem andN_le {a b : Nat} : andN a b ≤ a := Nat.and_le_left
theorem b_andNot {a b : Nat} (h : a ≤ 9223372036854775807) (h' : b ≤ 9223372036854775807) : binA .andNot (.i (a : Int)) (.i (b : Int)) = some (.i ((andN a b : Nat) : Int)) := by
  have e : (BitVec.ofInt 64 (a : Int) &&& ~~~(BitVec.ofInt 64 (b : Int))).toNat = andN a b := by
    rw [BitVec.toNat_and, BitVec.toNat_not, ofI h, ofI h']
    unfold andN
    congr 1
  show some (AV.int .i64 (IntKind.wrap .i64 ((BitVec.ofInt 64 (a : Int) &&& ~~~(BitVec.ofInt 64 (b : Int))).toNat : Int))) = _
  have := andN_le (a := a) (b := b)
  rw [e, zx172 (by omega) (by omega)]
theorem b_shr {a b : Nat} (h' : b ≤ 63) : binA .shr (.i (a : Int)) (.i (b : Int)) = some (.i ((a >>> b : Nat) : Int)) := by
  show (if (b : Int) < 0 then none else some (AV.int .i64 ((a : Int).fdiv (2 ^ (min (b : Int).toNat 64))))) = _
  rw [if_neg (by omega), show min (b : Int).toNat 64 = b by omega, Nat.shiftRight_eq_div_pow]
  congr 2
  rw [Int.fdiv_eq_ediv_of_nonneg _ (by exact_mod_cast Nat.zero_le (2 ^ b))]
  simp
theorem b_shl {a b : Nat} (h' : b ≤ 63) (h : a <<< b ≤ 9223372036854775807) : binA .shl (.i (a : Int)) (.i (b : Int)) = some (.i ((a <<< b : Nat) : Int)) := by
  show (if (b : Int) < 0 then none else some (AV.int .i64 (IntKind.wrap .i64 ((a : Int) * 2 ^ (min (b : Int).toNat 64))))) = _
  have e : (a : Int) * 2 ^ b = ((a <<< b : Nat) : Int) := by rw [Nat.shiftLeft_eq]; simp
  rw [if_neg (by omega), show min (b : Int).toNat 64 = b by omega, e]
  generalize a <<< b = c at h
  rw [zx172 (by omega) (by omega)]
/-! ### Blocks -/
def tzQ (x : Nat) : Nat := Lib.ctz 64 x
def yQ (x : Nat) : Nat := x >>> tzQ x
def nQ (x : Nat) : Nat := 18446744073709551615 - yQ x
def cnQ (x : Nat) : Nat := Lib.ctz 64 (nQ x)
def nxQ (x : Nat) : Nat := yQ x >>> cnQ x
def blkF : Nat → Nat → List Int
  | 0, _ => []
  | f + 1, x => if x = 0 then [] else (cnQ x : Int) :: blkF f (nxQ x)
/-- the blocks of a line -/
def blkL (x : Nat) : List Int := blkF 5 x
def osame (o : Option AV) (v : AV) : Bool := match o with
  | some u => u.same v
  | none => false
theorem osame_eq {o : Option AV} {v : AV} (h : osame o v = true) : o = some v := by
  cases o with
  | none => cases h
  | some u => rw [AV.eq_of_same _ _ h]
def qOk (x : Nat) : Bool := x = 0 || (decide (nxQ x < x) && decide (cnQ x ≤ 5) && decide (blkL x = (cnQ x : Int) :: blkL (nxQ x)) && osame (tzP [.int .u64 x]) (.i (tzQ x)) && osame (binA .shr (.int .u64 x) (.i (tzQ x))) (.int .u64 (yQ x)) &&
  osame (unA .xor (.int .u64 (yQ x))) (.int .u64 (nQ x)) && osame (tzP [.int .u64 (nQ x)]) (.i (cnQ x)) && osame (binA .shr (.int .u64 (yQ x)) (.i (cnQ x))) (.int .u64 (nxQ x)))
theorem qOk_all : ∀ x, x < 32 → qOk x = true := by decide +kernel
theorem q_facts {x : Nat} (h : x < 32) (h0 : x ≠ 0) : nxQ x < x ∧ cnQ x ≤ 5 ∧ blkL x = (cnQ x : Int) :: blkL (nxQ x) ∧ tzP [.int .u64 (x : Int)] = some (.i (tzQ x : Nat)) ∧ binA .shr (.int .u64 (x : Int)) (.i (tzQ x : Nat)) = some (.int .u64 (yQ x : Nat)) ∧
    unA .xor (.int .u64 (yQ x : Nat)) = some (.int .u64 (nQ x : Nat)) ∧ tzP [.int .u64 (nQ x : Nat)] = some (.i (cnQ x : Nat)) ∧ binA .shr (.int .u64 (yQ x : Nat)) (.i (cnQ x : Nat)) = some (.int .u64 (nxQ x : Nat)) := by
  have q := qOk_all x h
  unfold qOk at q
  simp only [h0, decide_false, Bool.false_or, Bool.and_eq_true, decide_eq_true_eq] at q
  obtain ⟨⟨⟨⟨⟨⟨⟨q1, q2⟩, q3⟩, q4⟩, q5⟩, q6⟩, q7⟩, q8⟩ := q
  exact ⟨q1, q2, q3, osame_eq q4, osame_eq q5, osame_eq q6, osame_eq q7, osame_eq q8⟩
theorem blkL_0 : blkL 0 = [] := rfl
theorem blkL_len (x : Nat) : (blkL x).length ≤ 5 := by
  have : ∀ f x, (blkF f x).length ≤ f := by
    intro f
    induction f with
    | zero => intro x; simp [blkF]
    | succ f ih => intro x; unfold blkF; split <;> simp; exact ih _
  exact this 5 x
theorem blocks_ret {H : Heap} {x : Nat} (hx : x < 32) : Ret E 56 [.i x] (fun _ => False) H (blkL x) := by
  refine Ret.ro rfl fn56 rfl ?_
  unfold f56A
  have hc : convV .u64 (.i (x : Int)) = some (.int .u64 x) := by rw [zx95, wrapU (by omega) (by omega)]
  simp (disch := (first | assumption | omega | (simp only [List.length_append, List.length_cons, List.length_nil]; omega))) only [↓wD,wU,Nat.reduceBEq,zx150,zx151,zx159,zx160,zx161,zx162,Nat.reduceAdd,Nat.reduceSub,Nat.reduceMul,Nat.reduceLeDiff,Nat.reduceLT,Nat.reduceEqDiff,Int.reduceAdd,Int.reduceSub,Int.reduceMul,Int.reduceNeg,Int.reduceLT,Int.reduceLE,Int.reduceEq,Int.reduceToNat,Int.cast_ofNat_Int,↓reduceIte, hc]
  refine Wp.dec (fun y a H' => ∃ u acc, a 4 = .int .u64 y ∧ a 3 = u ∧ y < 32 ∧ Gr H H' ∧ Acc H.length (fun _ => False) H' u acc ∧ acc ++ blkL y = blkL x) x ?_ ?_
  · rintro y a H1 ⟨u, acc, a4, a3, hy, hg, hu, he⟩ ih
    by_cases h0 : y = 0
    · subst h0
      rw [blkL_0, List.append_nil] at he
      subst he
      have hd : decide (¬ ((0 : Nat) : Int) = 0) = false := by decide
      simp (disch := (first | assumption | omega | (simp only [List.length_append, List.length_cons, List.length_nil]; omega))) only [↓wD,wU,Nat.reduceBEq,zx150,zx151,zx159,zx160,zx161,zx162,Nat.reduceAdd,Nat.reduceSub,Nat.reduceMul,Nat.reduceLeDiff,Nat.reduceLT,Nat.reduceEqDiff,Int.reduceAdd,Int.reduceSub,Int.reduceMul,Int.reduceNeg,Int.reduceLT,Int.reduceLE,Int.reduceEq,Int.reduceToNat,Int.cast_ofNat_Int,↓reduceIte, a4, a3, hd]
      exact hu.sl
    · obtain ⟨q1, q2, q3, q4, q5, q6, q7, q8⟩ := q_facts hy h0
      have hd : decide (¬ (y : Int) = 0) = true := decide_eq_true (by omega)
      have t1 := RetP.prim (E := E) (H := H1) (f := 87) rfl q4 rfl rfl
      have t2 := RetP.prim (E := E) (H := H1) (f := 87) rfl q7 rfl rfl
      have hl : acc.length + (blkL y).length = (blkL x).length := by rw [← he, List.length_append]
      have hl5 := blkL_len x
      simp (disch := (first | assumption | omega | (simp only [List.length_append, List.length_cons, List.length_nil]; omega))) only [↓wD,wU,Nat.reduceBEq,zx150,zx151,zx159,zx160,zx161,zx162,Nat.reduceAdd,Nat.reduceSub,Nat.reduceMul,Nat.reduceLeDiff,Nat.reduceLT,Nat.reduceEqDiff,Int.reduceAdd,Int.reduceSub,Int.reduceMul,Int.reduceNeg,Int.reduceLT,Int.reduceLE,Int.reduceEq,Int.reduceToNat,Int.cast_ofNat_Int,↓reduceIte, a4, a3, hd, t1.call, q5, q6, t2.call, q8]
      refine hu.pushI (Nat.le_refl _) hg.1 (by omega) fun u' H2 hu' hk2 _ _ => ?_
      simp (disch := (first | assumption | omega | (simp only [List.length_append, List.length_cons, List.length_nil]; omega))) only [↓wD,wU,Nat.reduceBEq,zx150,zx151,zx159,zx160,zx161,zx162,Nat.reduceAdd,Nat.reduceSub,Nat.reduceMul,Nat.reduceLeDiff,Nat.reduceLT,Nat.reduceEqDiff,Int.reduceAdd,Int.reduceSub,Int.reduceMul,Int.reduceNeg,Int.reduceLT,Int.reduceLE,Int.reduceEq,Int.reduceToNat,Int.cast_ofNat_Int,↓reduceIte, q8]
      refine ih.go ⟨nxQ y, q1, u', acc ++ [(cnQ y : Int)], ?_⟩
      simp (disch := (first | assumption | omega | (simp only [List.length_append, List.length_cons, List.length_nil]; omega))) only [↓wD,wU,Nat.reduceBEq,zx150,zx151,zx159,zx160,zx161,zx162,Nat.reduceAdd,Nat.reduceSub,Nat.reduceMul,Nat.reduceLeDiff,Nat.reduceLT,Nat.reduceEqDiff,Int.reduceAdd,Int.reduceSub,Int.reduceMul,Int.reduceNeg,Int.reduceLT,Int.reduceLE,Int.reduceEq,Int.reduceToNat,Int.cast_ofNat_Int,↓reduceIte]
      refine ⟨by omega, hg.push hu (Nat.le_refl _) hk2, hu', ?_⟩
      rw [← he, q3]; simp
  · simp (disch := (first | assumption | omega | (simp only [List.length_append, List.length_cons, List.length_nil]; omega))) only [↓wD,wU,Nat.reduceBEq,zx150,zx151,zx159,zx160,zx161,zx162,Nat.reduceAdd,Nat.reduceSub,Nat.reduceMul,Nat.reduceLeDiff,Nat.reduceLT,Nat.reduceEqDiff,Int.reduceAdd,Int.reduceSub,Int.reduceMul,Int.reduceNeg,Int.reduceLT,Int.reduceLE,Int.reduceEq,Int.reduceToNat,Int.cast_ofNat_Int,↓reduceIte]
    exact ⟨.nils, [], rfl, hx, Gr.refl _, Acc.nil, rfl⟩
end Go.Proofs.YtjjndoigkhabdaaDoor
namespace Go.Proofs.YtjjndoigkhabdaaDoor
open Go Go.AM Go.Proofs
theorem b_shl1 {n : Nat} (h : n ≤ 62) : binA .shl (.i 1) (.i (n : Int)) = some (.i ((2 ^ n : Nat) : Int)) := by
  have hp : 2 ^ n ≤ 2 ^ 62 := Nat.pow_le_pow_right (by omega) h
  have := b_shl (a := 1) (b := n) (by omega) (by rw [Nat.shiftLeft_eq]; omega)
  rw [Nat.shiftLeft_eq, Nat.one_mul] at this
  exact this
theorem pow5 {n : Nat} (h : n ≤ 5) : 1 ≤ 2 ^ n ∧ 2 ^ n ≤ 32 := ⟨Nat.one_le_two_pow, Nat.pow_le_pow_right (n := 2) (by omega) h⟩
def SizeP (n : Int) : Prop := 1 ≤ n ∧ n ≤ 5
instance (n : Int) : Decidable (SizeP n) := by unfold SizeP; infer_instance
def SetP (n x : Int) : Prop := SizeP n ∧ 0 ≤ x ∧ x < ((2 ^ n.toNat : Nat) : Int)
instance (n x : Int) : Decidable (SetP n x) := by unfold SetP; infer_instance
theorem SizeP.nat {n : Int} (h : SizeP n) : ∃ m : Nat, n = m ∧ 1 ≤ m ∧ m ≤ 5 := by
  obtain ⟨m, rfl⟩ := Int.eq_ofNat_of_zero_le (show 0 ≤ n by have := h.1; omega)
  exact ⟨m, rfl, by have := h.1; omega, by have := h.2; omega⟩
theorem SetP.nat {n x : Int} (h : SetP n x) : ∃ m y : Nat, n = m ∧ x = y ∧ 1 ≤ m ∧ m ≤ 5 ∧ y < 2 ^ m ∧ y < 32 := by
  obtain ⟨m, rfl, h1, h2⟩ := h.1.nat
  obtain ⟨y, rfl⟩ := Int.eq_ofNat_of_zero_le h.2.1
  have h3 := h.2.2
  rw [Int.toNat_natCast] at h3
  have := pow5 h2
  exact ⟨m, y, rfl, rfl, h1, h2, by omega, by omega⟩
theorem isSize_ret {H : Heap} {n : Int} : RetP E 86 [.i n] H (.b (decide (SizeP n))) := by
  refine RetP.ro rfl fn86 rfl rfl ?_
  unfold f86A
  by_cases h1 : 1 ≤ n
  · by_cases h2 : n ≤ 5
    · have e : decide (SizeP n) = true := decide_eq_true ⟨h1, h2⟩
      simp (disch := (first | assumption | omega | (simp only [List.length_append, List.length_cons, List.length_nil]; omega))) only [↓wD,wU,Nat.reduceBEq,zx150,zx151,zx159,zx160,zx161,zx162,Nat.reduceAdd,Nat.reduceSub,Nat.reduceMul,Nat.reduceLeDiff,Nat.reduceLT,Nat.reduceEqDiff,Int.reduceAdd,Int.reduceSub,Int.reduceMul,Int.reduceNeg,Int.reduceLT,Int.reduceLE,Int.reduceEq,Int.reduceToNat,Int.cast_ofNat_Int,↓reduceIte, decide_eq_true h1, decide_eq_true h2, e]
    · have e : decide (SizeP n) = false := decide_eq_false fun h => h2 h.2
      simp (disch := (first | assumption | omega | (simp only [List.length_append, List.length_cons, List.length_nil]; omega))) only [↓wD,wU,Nat.reduceBEq,zx150,zx151,zx159,zx160,zx161,zx162,Nat.reduceAdd,Nat.reduceSub,Nat.reduceMul,Nat.reduceLeDiff,Nat.reduceLT,Nat.reduceEqDiff,Int.reduceAdd,Int.reduceSub,Int.reduceMul,Int.reduceNeg,Int.reduceLT,Int.reduceLE,Int.reduceEq,Int.reduceToNat,Int.cast_ofNat_Int,↓reduceIte, decide_eq_true h1, decide_eq_false h2, e]
  · have e : decide (SizeP n) = false := decide_eq_false fun h => h1 h.1
    simp (disch := (first | assumption | omega | (simp only [List.length_append, List.length_cons, List.length_nil]; omega))) only [↓wD,wU,Nat.reduceBEq,zx150,zx151,zx159,zx160,zx161,zx162,Nat.reduceAdd,Nat.reduceSub,Nat.reduceMul,Nat.reduceLeDiff,Nat.reduceLT,Nat.reduceEqDiff,Int.reduceAdd,Int.reduceSub,Int.reduceMul,Int.reduceNeg,Int.reduceLT,Int.reduceLE,Int.reduceEq,Int.reduceToNat,Int.cast_ofNat_Int,↓reduceIte, decide_eq_false h1, e]
theorem rsize_ret {H : Heap} {n : Int} : RetP E 59 [.i n] H (.b (decide (SizeP n))) := by
  refine RetP.ro rfl fn59 rfl rfl ?_
  unfold f59A
  by_cases h1 : 1 ≤ n
  · by_cases h2 : n ≤ 5
    · have e : decide (SizeP n) = true := decide_eq_true ⟨h1, h2⟩
      simp (disch := (first | assumption | omega | (simp only [List.length_append, List.length_cons, List.length_nil]; omega))) only [↓wD,wU,Nat.reduceBEq,zx150,zx151,zx159,zx160,zx161,zx162,Nat.reduceAdd,Nat.reduceSub,Nat.reduceMul,Nat.reduceLeDiff,Nat.reduceLT,Nat.reduceEqDiff,Int.reduceAdd,Int.reduceSub,Int.reduceMul,Int.reduceNeg,Int.reduceLT,Int.reduceLE,Int.reduceEq,Int.reduceToNat,Int.cast_ofNat_Int,↓reduceIte, decide_eq_true h1, decide_eq_true h2, e]
    · have e : decide (SizeP n) = false := decide_eq_false fun h => h2 h.2
      simp (disch := (first | assumption | omega | (simp only [List.length_append, List.length_cons, List.length_nil]; omega))) only [↓wD,wU,Nat.reduceBEq,zx150,zx151,zx159,zx160,zx161,zx162,Nat.reduceAdd,Nat.reduceSub,Nat.reduceMul,Nat.reduceLeDiff,Nat.reduceLT,Nat.reduceEqDiff,Int.reduceAdd,Int.reduceSub,Int.reduceMul,Int.reduceNeg,Int.reduceLT,Int.reduceLE,Int.reduceEq,Int.reduceToNat,Int.cast_ofNat_Int,↓reduceIte, decide_eq_true h1, decide_eq_false h2, e]
  · have e : decide (SizeP n) = false := decide_eq_false fun h => h1 h.1
    simp (disch := (first | assumption | omega | (simp only [List.length_append, List.length_cons, List.length_nil]; omega))) only [↓wD,wU,Nat.reduceBEq,zx150,zx151,zx159,zx160,zx161,zx162,Nat.reduceAdd,Nat.reduceSub,Nat.reduceMul,Nat.reduceLeDiff,Nat.reduceLT,Nat.reduceEqDiff,Int.reduceAdd,Int.reduceSub,Int.reduceMul,Int.reduceNeg,Int.reduceLT,Int.reduceLE,Int.reduceEq,Int.reduceToNat,Int.cast_ofNat_Int,↓reduceIte, decide_eq_false h1, e]
def linesTo (i : Nat) (cl : List Int) : List Int := ((List.range i).filter fun x => decide (blkL x = cl)).map fun x : Nat => (x : Int)
/-- all lines of n squares with some blocks -/
def linesL (n : Nat) (cl : List Int) : List Int := linesTo (2 ^ n) cl
theorem linesTo_succ {i : Nat} {cl : List Int} : linesTo (i + 1) cl = linesTo i cl ++ if blkL i = cl then [(i : Int)] else [] := by
  unfold linesTo
  rw [List.range_succ, List.filter_append, List.map_append]
  by_cases h : blkL i = cl <;> simp [h]
theorem linesTo_len {i : Nat} {cl : List Int} : (linesTo i cl).length ≤ i := by
  unfold linesTo
  rw [List.length_map]
  exact Nat.le_trans (List.length_filter_le _ _) (by simp)
theorem lines_ret {p : Nat → Prop} {H : Heap} {v : AV} {n : Nat} {cl : List Int} (hc : Sl p H v cl) (hn : n ≤ 5) : Ret E 58 [.i n, v] (fun _ => False) H (linesL n cl) := by
  refine Ret.ro rfl fn58 rfl ?_
  unfold f58A
  have hsh := b_shl1 (n := n) (by omega)
  obtain ⟨p1, p2⟩ := pow5 hn
  unfold linesL
  generalize 2 ^ n = M at *
  simp (disch := (first | assumption | omega | (simp only [List.length_append, List.length_cons, List.length_nil]; omega))) only [↓wD,wU,Nat.reduceBEq,zx150,zx151,zx159,zx160,zx161,zx162,Nat.reduceAdd,Nat.reduceSub,Nat.reduceMul,Nat.reduceLeDiff,Nat.reduceLT,Nat.reduceEqDiff,Int.reduceAdd,Int.reduceSub,Int.reduceMul,Int.reduceNeg,Int.reduceLT,Int.reduceLE,Int.reduceEq,Int.reduceToNat,Int.cast_ofNat_Int,↓reduceIte, hsh]
  refine Wp.for M (fun i a H' => ∃ u, a 1 = v ∧ a 5 = u ∧ a 8 = .i M ∧ a 9 = .i i ∧ Gr H H' ∧ Acc H.length (fun _ => False) H' u (linesTo i cl)) ?_ ?_
  · rintro i a H1 hi ⟨u, a1, a5, a8, a9, hg, hu⟩ ih
    simp (disch := (first | assumption | omega | (simp only [List.length_append, List.length_cons, List.length_nil]; omega))) only [↓wD,wU,Nat.reduceBEq,zx150,zx151,zx159,zx160,zx161,zx162,Nat.reduceAdd,Nat.reduceSub,Nat.reduceMul,Nat.reduceLeDiff,Nat.reduceLT,Nat.reduceEqDiff,Int.reduceAdd,Int.reduceSub,Int.reduceMul,Int.reduceNeg,Int.reduceLT,Int.reduceLE,Int.reduceEq,Int.reduceToNat,Int.cast_ofNat_Int,↓reduceIte, a1, a5, a8, a9]
    refine condP_split (fun hlt => ?_) (fun hlt => ?_)
    · have hi' : i < M := by omega
      simp (disch := (first | assumption | omega | (simp only [List.length_append, List.length_cons, List.length_nil]; omega))) only [↓wD,wU,Nat.reduceBEq,zx150,zx151,zx159,zx160,zx161,zx162,Nat.reduceAdd,Nat.reduceSub,Nat.reduceMul,Nat.reduceLeDiff,Nat.reduceLT,Nat.reduceEqDiff,Int.reduceAdd,Int.reduceSub,Int.reduceMul,Int.reduceNeg,Int.reduceLT,Int.reduceLE,Int.reduceEq,Int.reduceToNat,Int.cast_ofNat_Int,↓reduceIte, a1, a5, a8, a9]
      refine (blocks_ret (x := i) (by omega)).toF fun y H2 hg2 hy => ?_
      have eq := equal_ret hy ((hc.gr hg).gr hg2)
      have hu2 := hu.gr hg2
      have hl := linesTo_len (i := i) (cl := cl)
      by_cases h : blkL i = cl
      · rw [decide_eq_true h] at eq
        simp (disch := (first | assumption | omega | (simp only [List.length_append, List.length_cons, List.length_nil]; omega))) only [↓wD,wU,Nat.reduceBEq,zx150,zx151,zx159,zx160,zx161,zx162,Nat.reduceAdd,Nat.reduceSub,Nat.reduceMul,Nat.reduceLeDiff,Nat.reduceLT,Nat.reduceEqDiff,Int.reduceAdd,Int.reduceSub,Int.reduceMul,Int.reduceNeg,Int.reduceLT,Int.reduceLE,Int.reduceEq,Int.reduceToNat,Int.cast_ofNat_Int,↓reduceIte, a1, a5, a8, a9, eq.call]
        refine hu2.pushI (Nat.le_refl _) (by have := hg.1; have := hg2.1; omega) (by omega) fun u' H3 hu' hk3 _ _ => ?_
        simp (disch := (first | assumption | omega | (simp only [List.length_append, List.length_cons, List.length_nil]; omega))) only [↓wD,wU,Nat.reduceBEq,zx150,zx151,zx159,zx160,zx161,zx162,Nat.reduceAdd,Nat.reduceSub,Nat.reduceMul,Nat.reduceLeDiff,Nat.reduceLT,Nat.reduceEqDiff,Int.reduceAdd,Int.reduceSub,Int.reduceMul,Int.reduceNeg,Int.reduceLT,Int.reduceLE,Int.reduceEq,Int.reduceToNat,Int.cast_ofNat_Int,↓reduceIte, a1, a5, a8, a9]
        refine (ih hi').go ⟨u', ?_⟩
        simp (disch := (first | assumption | omega | (simp only [List.length_append, List.length_cons, List.length_nil]; omega))) only [↓wD,wU,Nat.reduceBEq,zx150,zx151,zx159,zx160,zx161,zx162,Nat.reduceAdd,Nat.reduceSub,Nat.reduceMul,Nat.reduceLeDiff,Nat.reduceLT,Nat.reduceEqDiff,Int.reduceAdd,Int.reduceSub,Int.reduceMul,Int.reduceNeg,Int.reduceLT,Int.reduceLE,Int.reduceEq,Int.reduceToNat,Int.cast_ofNat_Int,↓reduceIte, a1, a5, a8, a9]
        refine ⟨(hg.trans hg2).push hu2 (Nat.le_refl _) hk3, ?_⟩
        rw [linesTo_succ, if_pos h]; exact hu'
      · rw [decide_eq_false h] at eq
        simp (disch := (first | assumption | omega | (simp only [List.length_append, List.length_cons, List.length_nil]; omega))) only [↓wD,wU,Nat.reduceBEq,zx150,zx151,zx159,zx160,zx161,zx162,Nat.reduceAdd,Nat.reduceSub,Nat.reduceMul,Nat.reduceLeDiff,Nat.reduceLT,Nat.reduceEqDiff,Int.reduceAdd,Int.reduceSub,Int.reduceMul,Int.reduceNeg,Int.reduceLT,Int.reduceLE,Int.reduceEq,Int.reduceToNat,Int.cast_ofNat_Int,↓reduceIte, a1, a5, a8, a9, eq.call]
        refine (ih hi').go ⟨u, ?_⟩
        simp (disch := (first | assumption | omega | (simp only [List.length_append, List.length_cons, List.length_nil]; omega))) only [↓wD,wU,Nat.reduceBEq,zx150,zx151,zx159,zx160,zx161,zx162,Nat.reduceAdd,Nat.reduceSub,Nat.reduceMul,Nat.reduceLeDiff,Nat.reduceLT,Nat.reduceEqDiff,Int.reduceAdd,Int.reduceSub,Int.reduceMul,Int.reduceNeg,Int.reduceLT,Int.reduceLE,Int.reduceEq,Int.reduceToNat,Int.cast_ofNat_Int,↓reduceIte, a1, a5, a8, a9]
        refine ⟨hg.trans hg2, ?_⟩
        rw [linesTo_succ, if_neg h, List.append_nil]; exact hu2
    · obtain rfl : i = M := by omega
      simp (disch := (first | assumption | omega | (simp only [List.length_append, List.length_cons, List.length_nil]; omega))) only [↓wD,wU,Nat.reduceBEq,zx150,zx151,zx159,zx160,zx161,zx162,Nat.reduceAdd,Nat.reduceSub,Nat.reduceMul,Nat.reduceLeDiff,Nat.reduceLT,Nat.reduceEqDiff,Int.reduceAdd,Int.reduceSub,Int.reduceMul,Int.reduceNeg,Int.reduceLT,Int.reduceLE,Int.reduceEq,Int.reduceToNat,Int.cast_ofNat_Int,↓reduceIte, a1, a5, a8, a9]
      exact hu.sl
  · simp (disch := (first | assumption | omega | (simp only [List.length_append, List.length_cons, List.length_nil]; omega))) only [↓wD,wU,Nat.reduceBEq,zx150,zx151,zx159,zx160,zx161,zx162,Nat.reduceAdd,Nat.reduceSub,Nat.reduceMul,Nat.reduceLeDiff,Nat.reduceLT,Nat.reduceEqDiff,Int.reduceAdd,Int.reduceSub,Int.reduceMul,Int.reduceNeg,Int.reduceLT,Int.reduceLE,Int.reduceEq,Int.reduceToNat,Int.cast_ofNat_Int,↓reduceIte]
    exact ⟨.nils, rfl, Gr.refl _, Acc.nil⟩
def ClueP (n : Int) (cl : List Int) : Prop := SizeP n ∧ 0 < (linesL n.toNat cl).length
instance (n : Int) (cl : List Int) : Decidable (ClueP n cl) := by unfold ClueP; infer_instance
theorem linesL_len {n : Nat} {cl : List Int} (hn : n ≤ 5) : (linesL n cl).length ≤ 32 := Nat.le_trans linesTo_len (pow5 hn).2
theorem isClue_ret {p : Nat → Prop} {H : Heap} {v : AV} {n : Int} {cl : List Int} (hc : Sl p H v cl) : RetP E 57 [.i n, v] H (.b (decide (ClueP n cl))) := by
  refine RetP.ro rfl fn57 rfl rfl ?_
  unfold f57A
  have hz := isSize_ret (H := H) (n := n)
  by_cases h : SizeP n
  · rw [decide_eq_true h] at hz
    obtain ⟨m, rfl, h1, h2⟩ := h.nat
    have e : decide (ClueP (m : Int) cl) = decide (0 < ((linesL m cl).length : Int)) := by
      apply decide_eq_decide.2
      exact ⟨fun q => by have := q.2; rw [Int.toNat_natCast] at this; omega, fun q => ⟨h, by rw [Int.toNat_natCast]; omega⟩⟩
    rw [e]
    simp (disch := (first | assumption | omega | (simp only [List.length_append, List.length_cons, List.length_nil]; omega))) only [↓wD,wU,Nat.reduceBEq,zx150,zx151,zx159,zx160,zx161,zx162,Nat.reduceAdd,Nat.reduceSub,Nat.reduceMul,Nat.reduceLeDiff,Nat.reduceLT,Nat.reduceEqDiff,Int.reduceAdd,Int.reduceSub,Int.reduceMul,Int.reduceNeg,Int.reduceLT,Int.reduceLE,Int.reduceEq,Int.reduceToNat,Int.cast_ofNat_Int,↓reduceIte, hz.call]
    refine (lines_ret hc h2).toF fun y H1 hg hy => ?_
    simp (disch := (first | assumption | omega | (simp only [List.length_append, List.length_cons, List.length_nil]; omega))) only [↓wD,wU,Nat.reduceBEq,zx150,zx151,zx159,zx160,zx161,zx162,Nat.reduceAdd,Nat.reduceSub,Nat.reduceMul,Nat.reduceLeDiff,Nat.reduceLT,Nat.reduceEqDiff,Int.reduceAdd,Int.reduceSub,Int.reduceMul,Int.reduceNeg,Int.reduceLT,Int.reduceLE,Int.reduceEq,Int.reduceToNat,Int.cast_ofNat_Int,↓reduceIte, hy.I]
  · rw [decide_eq_false h] at hz
    have e : decide (ClueP n cl) = false := decide_eq_false fun q => h q.1
    simp (disch := (first | assumption | omega | (simp only [List.length_append, List.length_cons, List.length_nil]; omega))) only [↓wD,wU,Nat.reduceBEq,zx150,zx151,zx159,zx160,zx161,zx162,Nat.reduceAdd,Nat.reduceSub,Nat.reduceMul,Nat.reduceLeDiff,Nat.reduceLT,Nat.reduceEqDiff,Int.reduceAdd,Int.reduceSub,Int.reduceMul,Int.reduceNeg,Int.reduceLT,Int.reduceLE,Int.reduceEq,Int.reduceToNat,Int.cast_ofNat_Int,↓reduceIte, hz.call, e]
theorem list_ret {p : Nat → Prop} {H : Heap} {v : AV} {xs : List Int} (hx : Sl p H v xs) : Ret E 19 [v] (fun _ => False) H (xs.take 8) := by
  refine Ret.ro rfl fn19 rfl ?_
  unfold f19A
  have hb := hx.bound
  have hs : slV 1 v none (some (.i (min (xs.length : Int) 8))) none = some (v.cut 0 (min xs.length 8)) := by
    refine hx.slV_lh none _ (b := min xs.length 8) ?_ (bound_none (by omega)) (by omega) (by omega)
    rw [bound_some (by omega) (by omega)]
    congr 1
    omega
  simp (disch := (first | assumption | omega | (simp only [List.length_append, List.length_cons, List.length_nil]; omega))) only [↓wD,wU,Nat.reduceBEq,zx150,zx151,zx159,zx160,zx161,zx162,Nat.reduceAdd,Nat.reduceSub,Nat.reduceMul,Nat.reduceLeDiff,Nat.reduceLT,Nat.reduceEqDiff,Int.reduceAdd,Int.reduceSub,Int.reduceMul,Int.reduceNeg,Int.reduceLT,Int.reduceLE,Int.reduceEq,Int.reduceToNat,Int.cast_ofNat_Int,↓reduceIte, *, hx.I, hs]
  have hc := hx.cut (a := 0) (b := min xs.length 8) (by omega) (by omega)
  have e : (xs.drop 0).take (min xs.length 8 - 0) = xs.take 8 := by
    rw [List.drop_zero, Nat.sub_zero]
    by_cases hl : xs.length ≤ 8
    · rw [List.take_of_length_le (by omega), List.take_of_length_le hl]
    · congr 1; omega
  rw [e] at hc
  refine (clone_ret hc (by rw [List.length_take]; omega)).go fun u N hu => ?_
  simp (disch := (first | assumption | omega | (simp only [List.length_append, List.length_cons, List.length_nil]; omega))) only [↓wD,wU,Nat.reduceBEq,zx150,zx151,zx159,zx160,zx161,zx162,Nat.reduceAdd,Nat.reduceSub,Nat.reduceMul,Nat.reduceLeDiff,Nat.reduceLT,Nat.reduceEqDiff,Int.reduceAdd,Int.reduceSub,Int.reduceMul,Int.reduceNeg,Int.reduceLT,Int.reduceLE,Int.reduceEq,Int.reduceToNat,Int.cast_ofNat_Int,↓reduceIte]
  exact hu
/-- the first ones of a clue say as much: longer ones have no line -/
theorem linesTo_nil {cl : List Int} (h : 5 < cl.length) : ∀ i, linesTo i cl = []
  | 0 => rfl
  | i + 1 => by
    rw [linesTo_succ, linesTo_nil h, if_neg]
    · rfl
    · intro e; have := blkL_len i; rw [e] at this; omega
theorem linesL_cut {n : Nat} {cl : List Int} : linesL n (cl.take 8) = linesL n cl := by
  unfold linesL
  by_cases h : cl.length ≤ 8
  · rw [List.take_of_length_le h]
  · rw [linesTo_nil (cl := cl) (by omega), linesTo_nil (cl := cl.take 8) (by rw [List.length_take]; omega)]
theorem ClueP_cut {n : Int} {cl : List Int} : ClueP n (cl.take 8) ↔ ClueP n cl := by unfold ClueP; rw [linesL_cut]
end Go.Proofs.YtjjndoigkhabdaaDoor
namespace Go.Proofs.YtjjndoigkhabdaaDoor
open Go Go.AM Go.Proofs
theorem same_ret {p q : Nat → Prop} {H : Heap} {v u : AV} {xs ys : List Int} (hx : Sl p H v xs) (hy : Sl q H u ys) : RetP E 60 [v, u] H (.b (decide (xs = ys))) := by
  refine RetP.ro rfl fn60 rfl rfl ?_
  unfold f60A
  have hbx := hx.bound
  by_cases hl : xs.length = ys.length
  · have e0 : decide (¬ (xs.length : Int) = ys.length) = false := decide_eq_false (by omega)
    simp (disch := (first | assumption | omega | (simp only [List.length_append, List.length_cons, List.length_nil]; omega))) only [↓wD,wU,Nat.reduceBEq,zx150,zx151,zx159,zx160,zx161,zx162,Nat.reduceAdd,Nat.reduceSub,Nat.reduceMul,Nat.reduceLeDiff,Nat.reduceLT,Nat.reduceEqDiff,Int.reduceAdd,Int.reduceSub,Int.reduceMul,Int.reduceNeg,Int.reduceLT,Int.reduceLE,Int.reduceEq,Int.reduceToNat,Int.cast_ofNat_Int,↓reduceIte, hx.I, hy.I, e0]
    refine Wp.for xs.length (fun i a H' => H' = H ∧ a 1 = u ∧ a 12 = v ∧ a 13 = .i xs.length ∧ a 14 = .i i ∧ xs.take i = ys.take i) ?_ ?_
    · rintro i a H' hi ⟨rfl, a1, a12, a13, a14, hh⟩ ih
      simp (disch := (first | assumption | omega | (simp only [List.length_append, List.length_cons, List.length_nil]; omega))) only [↓wD,wU,Nat.reduceBEq,zx150,zx151,zx159,zx160,zx161,zx162,Nat.reduceAdd,Nat.reduceSub,Nat.reduceMul,Nat.reduceLeDiff,Nat.reduceLT,Nat.reduceEqDiff,Int.reduceAdd,Int.reduceSub,Int.reduceMul,Int.reduceNeg,Int.reduceLT,Int.reduceLE,Int.reduceEq,Int.reduceToNat,Int.cast_ofNat_Int,↓reduceIte, a1, a12, a13, a14]
      refine condP_split (fun hlt => ?_) (fun hlt => ?_)
      · have hi' : i < xs.length := by omega
        by_cases he : gi xs (i : Int) = gi ys (i : Int)
        · have hh2 := take_eq_succ hh hi' (by omega) he
          have hd : decide (¬ gi xs (i : Int) = gi ys (i : Int)) = false := decide_eq_false fun q => q he
          simp (disch := (first | assumption | omega | (simp only [List.length_append, List.length_cons, List.length_nil]; omega))) only [↓wD,wU,Nat.reduceBEq,zx150,zx151,zx159,zx160,zx161,zx162,Nat.reduceAdd,Nat.reduceSub,Nat.reduceMul,Nat.reduceLeDiff,Nat.reduceLT,Nat.reduceEqDiff,Int.reduceAdd,Int.reduceSub,Int.reduceMul,Int.reduceNeg,Int.reduceLT,Int.reduceLE,Int.reduceEq,Int.reduceToNat,Int.cast_ofNat_Int,↓reduceIte, a1, a12, a13, a14, hx.I, hy.I, hd]
          refine (ih hi').go ⟨rfl, ?_⟩
          simp (disch := (first | assumption | omega | (simp only [List.length_append, List.length_cons, List.length_nil]; omega))) only [↓wD,wU,Nat.reduceBEq,zx150,zx151,zx159,zx160,zx161,zx162,Nat.reduceAdd,Nat.reduceSub,Nat.reduceMul,Nat.reduceLeDiff,Nat.reduceLT,Nat.reduceEqDiff,Int.reduceAdd,Int.reduceSub,Int.reduceMul,Int.reduceNeg,Int.reduceLT,Int.reduceLE,Int.reduceEq,Int.reduceToNat,Int.cast_ofNat_Int,↓reduceIte, a1, a12, a13, a14]
          exact hh2
        · have e : decide (xs = ys) = false := decide_eq_false fun h => he (by rw [h])
          have hd : decide (¬ gi xs (i : Int) = gi ys (i : Int)) = true := decide_eq_true he
          simp (disch := (first | assumption | omega | (simp only [List.length_append, List.length_cons, List.length_nil]; omega))) only [↓wD,wU,Nat.reduceBEq,zx150,zx151,zx159,zx160,zx161,zx162,Nat.reduceAdd,Nat.reduceSub,Nat.reduceMul,Nat.reduceLeDiff,Nat.reduceLT,Nat.reduceEqDiff,Int.reduceAdd,Int.reduceSub,Int.reduceMul,Int.reduceNeg,Int.reduceLT,Int.reduceLE,Int.reduceEq,Int.reduceToNat,Int.cast_ofNat_Int,↓reduceIte, a1, a12, a13, a14, hx.I, hy.I, hd, e]
      · have e : decide (xs = ys) = true := decide_eq_true (take_all hh hl (by omega))
        simp (disch := (first | assumption | omega | (simp only [List.length_append, List.length_cons, List.length_nil]; omega))) only [↓wD,wU,Nat.reduceBEq,zx150,zx151,zx159,zx160,zx161,zx162,Nat.reduceAdd,Nat.reduceSub,Nat.reduceMul,Nat.reduceLeDiff,Nat.reduceLT,Nat.reduceEqDiff,Int.reduceAdd,Int.reduceSub,Int.reduceMul,Int.reduceNeg,Int.reduceLT,Int.reduceLE,Int.reduceEq,Int.reduceToNat,Int.cast_ofNat_Int,↓reduceIte, a1, a12, a13, a14, e]
    · (simp (disch := (first | assumption | omega | (simp only [List.length_append, List.length_cons, List.length_nil]; omega))) only [↓wD,wU,Nat.reduceBEq,zx150,zx151,zx159,zx160,zx161,zx162,Nat.reduceAdd,Nat.reduceSub,Nat.reduceMul,Nat.reduceLeDiff,Nat.reduceLT,Nat.reduceEqDiff,Int.reduceAdd,Int.reduceSub,Int.reduceMul,Int.reduceNeg,Int.reduceLT,Int.reduceLE,Int.reduceEq,Int.reduceToNat,Int.cast_ofNat_Int,↓reduceIte]) <;> simp
  · have e0 : decide (¬ (xs.length : Int) = ys.length) = true := decide_eq_true (by omega)
    have e : decide (xs = ys) = false := decide_eq_false fun h => hl (by rw [h])
    simp (disch := (first | assumption | omega | (simp only [List.length_append, List.length_cons, List.length_nil]; omega))) only [↓wD,wU,Nat.reduceBEq,zx150,zx151,zx159,zx160,zx161,zx162,Nat.reduceAdd,Nat.reduceSub,Nat.reduceMul,Nat.reduceLeDiff,Nat.reduceLT,Nat.reduceEqDiff,Int.reduceAdd,Int.reduceSub,Int.reduceMul,Int.reduceNeg,Int.reduceLT,Int.reduceLE,Int.reduceEq,Int.reduceToNat,Int.cast_ofNat_Int,↓reduceIte, hx.I, hy.I, e0, e]
/-- what the reference's Blocks knows behind i squares -/
def rbS (x : Nat) : Nat → List Int × Nat
  | 0 => ([], 0)
  | i + 1 => if (x >>> i) % 2 = 1 then ((rbS x i).1, (rbS x i).2 + 1) else (if (rbS x i).2 > 0 then (rbS x i).1 ++ [((rbS x i).2 : Int)] else (rbS x i).1, 0)
theorem rbS_all : ∀ n, n < 6 → ∀ x, x < 2 ^ n → (rbS x (n + 1)).1 = blkL x := by decide +kernel
theorem rbS_len (x : Nat) : ∀ i, (rbS x i).1.length ≤ i ∧ (rbS x i).2 ≤ i
  | 0 => ⟨Nat.le_refl _, Nat.le_refl _⟩
  | i + 1 => by
    have h := rbS_len x i
    unfold rbS
    split
    · exact ⟨by simp only []; omega, by simp only []; omega⟩
    · split
      · simp; omega
      · simp; omega
theorem rblocks_ret {H : Heap} {n x : Nat} (hn : n ≤ 5) (hx : x < 2 ^ n) : Ret E 22 [.i n, .i x] (fun _ => False) H (blkL x) := by
  refine Ret.ro rfl fn22 rfl ?_
  unfold f22A
  have h32 : x < 32 := by have := pow5 hn; omega
  have e := rbS_all n (by omega) x hx
  simp (disch := (first | assumption | omega | (simp only [List.length_append, List.length_cons, List.length_nil]; omega))) only [↓wD,wU,Nat.reduceBEq,zx150,zx151,zx159,zx160,zx161,zx162,Nat.reduceAdd,Nat.reduceSub,Nat.reduceMul,Nat.reduceLeDiff,Nat.reduceLT,Nat.reduceEqDiff,Int.reduceAdd,Int.reduceSub,Int.reduceMul,Int.reduceNeg,Int.reduceLT,Int.reduceLE,Int.reduceEq,Int.reduceToNat,Int.cast_ofNat_Int,↓reduceIte]
  refine Wp.for (n + 1) (fun i a H' => ∃ u, a 1 = .i x ∧ a 5 = u ∧ a 6 = .i (rbS x i).2 ∧ a 9 = .i (n + 1) ∧ a 10 = .i i ∧ Gr H H' ∧ Acc H.length (fun _ => False) H' u (rbS x i).1) ?_ ?_
  · rintro i a H1 hi ⟨u, a1, a5, a6, a9, a10, hg, hu⟩ ih
    have ln := rbS_len x i
    simp (disch := (first | assumption | omega | (simp only [List.length_append, List.length_cons, List.length_nil]; omega))) only [↓wD,wU,Nat.reduceBEq,zx150,zx151,zx159,zx160,zx161,zx162,Nat.reduceAdd,Nat.reduceSub,Nat.reduceMul,Nat.reduceLeDiff,Nat.reduceLT,Nat.reduceEqDiff,Int.reduceAdd,Int.reduceSub,Int.reduceMul,Int.reduceNeg,Int.reduceLT,Int.reduceLE,Int.reduceEq,Int.reduceToNat,Int.cast_ofNat_Int,↓reduceIte, a1, a5, a6, a9, a10]
    refine condP_split (fun hlt => ?_) (fun hlt => ?_)
    · have hi' : i < n + 1 := by omega
      have sh := b_shr (a := x) (b := i) (by omega)
      have sle : x >>> i ≤ x := by rw [Nat.shiftRight_eq_div_pow]; exact Nat.div_le_self _ _
      have an : binA .and (.i ((x >>> i : Nat) : Int)) (.i 1) = some (.i ((x >>> i % 2 : Nat) : Int)) := by
        have := b_and (a := x >>> i) (b := 1) (by omega) (by omega)
        rw [Nat.and_one_is_mod] at this
        exact this
      by_cases hb : x >>> i % 2 = 1
      · have hd : decide (((x >>> i % 2 : Nat) : Int) = 1) = true := decide_eq_true (by omega)
        have e1 : rbS x (i + 1) = ((rbS x i).1, (rbS x i).2 + 1) := by rw [rbS, if_pos hb]
        simp (disch := (first | assumption | omega | (simp only [List.length_append, List.length_cons, List.length_nil]; omega))) only [↓wD,wU,Nat.reduceBEq,zx150,zx151,zx159,zx160,zx161,zx162,Nat.reduceAdd,Nat.reduceSub,Nat.reduceMul,Nat.reduceLeDiff,Nat.reduceLT,Nat.reduceEqDiff,Int.reduceAdd,Int.reduceSub,Int.reduceMul,Int.reduceNeg,Int.reduceLT,Int.reduceLE,Int.reduceEq,Int.reduceToNat,Int.cast_ofNat_Int,↓reduceIte, a1, a5, a6, a9, a10, sh, an, hd]
        refine (ih hi').go ⟨u, ?_⟩
        rw [e1]
        simp (disch := (first | assumption | omega | (simp only [List.length_append, List.length_cons, List.length_nil]; omega))) only [↓wD,wU,Nat.reduceBEq,zx150,zx151,zx159,zx160,zx161,zx162,Nat.reduceAdd,Nat.reduceSub,Nat.reduceMul,Nat.reduceLeDiff,Nat.reduceLT,Nat.reduceEqDiff,Int.reduceAdd,Int.reduceSub,Int.reduceMul,Int.reduceNeg,Int.reduceLT,Int.reduceLE,Int.reduceEq,Int.reduceToNat,Int.cast_ofNat_Int,↓reduceIte, a1, a5, a6, a9, a10]
        exact ⟨hg, hu⟩
      · have hd : decide (((x >>> i % 2 : Nat) : Int) = 1) = false := decide_eq_false (by omega)
        by_cases h0 : (rbS x i).2 > 0
        · have e1 : rbS x (i + 1) = ((rbS x i).1 ++ [((rbS x i).2 : Int)], 0) := by rw [rbS, if_neg hb, if_pos h0]
          have hd2 : decide (0 < ((rbS x i).2 : Int)) = true := decide_eq_true (by omega)
          simp (disch := (first | assumption | omega | (simp only [List.length_append, List.length_cons, List.length_nil]; omega))) only [↓wD,wU,Nat.reduceBEq,zx150,zx151,zx159,zx160,zx161,zx162,Nat.reduceAdd,Nat.reduceSub,Nat.reduceMul,Nat.reduceLeDiff,Nat.reduceLT,Nat.reduceEqDiff,Int.reduceAdd,Int.reduceSub,Int.reduceMul,Int.reduceNeg,Int.reduceLT,Int.reduceLE,Int.reduceEq,Int.reduceToNat,Int.cast_ofNat_Int,↓reduceIte, a1, a5, a6, a9, a10, sh, an, hd, hd2]
          refine hu.pushI (Nat.le_refl _) hg.1 (by omega) fun u' H3 hu' hk3 _ _ => ?_
          simp (disch := (first | assumption | omega | (simp only [List.length_append, List.length_cons, List.length_nil]; omega))) only [↓wD,wU,Nat.reduceBEq,zx150,zx151,zx159,zx160,zx161,zx162,Nat.reduceAdd,Nat.reduceSub,Nat.reduceMul,Nat.reduceLeDiff,Nat.reduceLT,Nat.reduceEqDiff,Int.reduceAdd,Int.reduceSub,Int.reduceMul,Int.reduceNeg,Int.reduceLT,Int.reduceLE,Int.reduceEq,Int.reduceToNat,Int.cast_ofNat_Int,↓reduceIte, a1, a5, a6, a9, a10]
          refine (ih hi').go ⟨u', ?_⟩
          rw [e1]
          simp (disch := (first | assumption | omega | (simp only [List.length_append, List.length_cons, List.length_nil]; omega))) only [↓wD,wU,Nat.reduceBEq,zx150,zx151,zx159,zx160,zx161,zx162,Nat.reduceAdd,Nat.reduceSub,Nat.reduceMul,Nat.reduceLeDiff,Nat.reduceLT,Nat.reduceEqDiff,Int.reduceAdd,Int.reduceSub,Int.reduceMul,Int.reduceNeg,Int.reduceLT,Int.reduceLE,Int.reduceEq,Int.reduceToNat,Int.cast_ofNat_Int,↓reduceIte, a1, a5, a6, a9, a10]
          exact ⟨hg.push hu (Nat.le_refl _) hk3, hu'⟩
        · have e1 : rbS x (i + 1) = ((rbS x i).1, 0) := by rw [rbS, if_neg hb, if_neg h0]
          have hd2 : decide (0 < ((rbS x i).2 : Int)) = false := decide_eq_false (by omega)
          simp (disch := (first | assumption | omega | (simp only [List.length_append, List.length_cons, List.length_nil]; omega))) only [↓wD,wU,Nat.reduceBEq,zx150,zx151,zx159,zx160,zx161,zx162,Nat.reduceAdd,Nat.reduceSub,Nat.reduceMul,Nat.reduceLeDiff,Nat.reduceLT,Nat.reduceEqDiff,Int.reduceAdd,Int.reduceSub,Int.reduceMul,Int.reduceNeg,Int.reduceLT,Int.reduceLE,Int.reduceEq,Int.reduceToNat,Int.cast_ofNat_Int,↓reduceIte, a1, a5, a6, a9, a10, sh, an, hd, hd2]
          refine (ih hi').go ⟨u, ?_⟩
          rw [e1]
          simp (disch := (first | assumption | omega | (simp only [List.length_append, List.length_cons, List.length_nil]; omega))) only [↓wD,wU,Nat.reduceBEq,zx150,zx151,zx159,zx160,zx161,zx162,Nat.reduceAdd,Nat.reduceSub,Nat.reduceMul,Nat.reduceLeDiff,Nat.reduceLT,Nat.reduceEqDiff,Int.reduceAdd,Int.reduceSub,Int.reduceMul,Int.reduceNeg,Int.reduceLT,Int.reduceLE,Int.reduceEq,Int.reduceToNat,Int.cast_ofNat_Int,↓reduceIte, a1, a5, a6, a9, a10]
          exact ⟨hg, hu⟩
    · obtain rfl : i = n + 1 := by omega
      rw [e] at hu
      simp (disch := (first | assumption | omega | (simp only [List.length_append, List.length_cons, List.length_nil]; omega))) only [↓wD,wU,Nat.reduceBEq,zx150,zx151,zx159,zx160,zx161,zx162,Nat.reduceAdd,Nat.reduceSub,Nat.reduceMul,Nat.reduceLeDiff,Nat.reduceLT,Nat.reduceEqDiff,Int.reduceAdd,Int.reduceSub,Int.reduceMul,Int.reduceNeg,Int.reduceLT,Int.reduceLE,Int.reduceEq,Int.reduceToNat,Int.cast_ofNat_Int,↓reduceIte, a1, a5, a6, a9, a10]
      exact hu.sl
  · simp (disch := (first | assumption | omega | (simp only [List.length_append, List.length_cons, List.length_nil]; omega))) only [↓wD,wU,Nat.reduceBEq,zx150,zx151,zx159,zx160,zx161,zx162,Nat.reduceAdd,Nat.reduceSub,Nat.reduceMul,Nat.reduceLeDiff,Nat.reduceLT,Nat.reduceEqDiff,Int.reduceAdd,Int.reduceSub,Int.reduceMul,Int.reduceNeg,Int.reduceLT,Int.reduceLE,Int.reduceEq,Int.reduceToNat,Int.cast_ofNat_Int,↓reduceIte]
    exact ⟨.nils, rfl, rfl, Gr.refl _, Acc.nil⟩
theorem rlines_ret {p : Nat → Prop} {H : Heap} {v : AV} {n : Nat} {cl : List Int} (hc : Sl p H v cl) (hn : n ≤ 5) : Ret E 25 [.i n, v] (fun _ => False) H (linesL n cl) := by
  refine Ret.ro rfl fn25 rfl ?_
  unfold f25A
  have hsh := b_shl1 (n := n) (by omega)
  obtain ⟨p1, p2⟩ := pow5 hn
  have hbl : ∀ {H : Heap} {i : Nat}, i < 2 ^ n → Ret E 22 [.i n, .i i] (fun _ => False) H (blkL i) := fun {H i} h => rblocks_ret hn h
  unfold linesL
  generalize 2 ^ n = M at *
  simp (disch := (first | assumption | omega | (simp only [List.length_append, List.length_cons, List.length_nil]; omega))) only [↓wD,wU,Nat.reduceBEq,zx150,zx151,zx159,zx160,zx161,zx162,Nat.reduceAdd,Nat.reduceSub,Nat.reduceMul,Nat.reduceLeDiff,Nat.reduceLT,Nat.reduceEqDiff,Int.reduceAdd,Int.reduceSub,Int.reduceMul,Int.reduceNeg,Int.reduceLT,Int.reduceLE,Int.reduceEq,Int.reduceToNat,Int.cast_ofNat_Int,↓reduceIte, hsh]
  refine Wp.for M (fun i a H' => ∃ u, a 0 = .i n ∧ a 1 = v ∧ a 5 = u ∧ a 8 = .i M ∧ a 9 = .i i ∧ Gr H H' ∧ Acc H.length (fun _ => False) H' u (linesTo i cl)) ?_ ?_
  · rintro i a H1 hi ⟨u, a0, a1, a5, a8, a9, hg, hu⟩ ih
    simp (disch := (first | assumption | omega | (simp only [List.length_append, List.length_cons, List.length_nil]; omega))) only [↓wD,wU,Nat.reduceBEq,zx150,zx151,zx159,zx160,zx161,zx162,Nat.reduceAdd,Nat.reduceSub,Nat.reduceMul,Nat.reduceLeDiff,Nat.reduceLT,Nat.reduceEqDiff,Int.reduceAdd,Int.reduceSub,Int.reduceMul,Int.reduceNeg,Int.reduceLT,Int.reduceLE,Int.reduceEq,Int.reduceToNat,Int.cast_ofNat_Int,↓reduceIte, a0, a1, a5, a8, a9]
    refine condP_split (fun hlt => ?_) (fun hlt => ?_)
    · have hi' : i < M := by omega
      simp (disch := (first | assumption | omega | (simp only [List.length_append, List.length_cons, List.length_nil]; omega))) only [↓wD,wU,Nat.reduceBEq,zx150,zx151,zx159,zx160,zx161,zx162,Nat.reduceAdd,Nat.reduceSub,Nat.reduceMul,Nat.reduceLeDiff,Nat.reduceLT,Nat.reduceEqDiff,Int.reduceAdd,Int.reduceSub,Int.reduceMul,Int.reduceNeg,Int.reduceLT,Int.reduceLE,Int.reduceEq,Int.reduceToNat,Int.cast_ofNat_Int,↓reduceIte, a0, a1, a5, a8, a9]
      refine (hbl hi').toF fun y H2 hg2 hy => ?_
      have eq := same_ret hy ((hc.gr hg).gr hg2)
      have hu2 := hu.gr hg2
      have hl := linesTo_len (i := i) (cl := cl)
      by_cases h : blkL i = cl
      · rw [decide_eq_true h] at eq
        simp (disch := (first | assumption | omega | (simp only [List.length_append, List.length_cons, List.length_nil]; omega))) only [↓wD,wU,Nat.reduceBEq,zx150,zx151,zx159,zx160,zx161,zx162,Nat.reduceAdd,Nat.reduceSub,Nat.reduceMul,Nat.reduceLeDiff,Nat.reduceLT,Nat.reduceEqDiff,Int.reduceAdd,Int.reduceSub,Int.reduceMul,Int.reduceNeg,Int.reduceLT,Int.reduceLE,Int.reduceEq,Int.reduceToNat,Int.cast_ofNat_Int,↓reduceIte, a0, a1, a5, a8, a9, eq.call]
        refine hu2.pushI (Nat.le_refl _) (by have := hg.1; have := hg2.1; omega) (by omega) fun u' H3 hu' hk3 _ _ => ?_
        simp (disch := (first | assumption | omega | (simp only [List.length_append, List.length_cons, List.length_nil]; omega))) only [↓wD,wU,Nat.reduceBEq,zx150,zx151,zx159,zx160,zx161,zx162,Nat.reduceAdd,Nat.reduceSub,Nat.reduceMul,Nat.reduceLeDiff,Nat.reduceLT,Nat.reduceEqDiff,Int.reduceAdd,Int.reduceSub,Int.reduceMul,Int.reduceNeg,Int.reduceLT,Int.reduceLE,Int.reduceEq,Int.reduceToNat,Int.cast_ofNat_Int,↓reduceIte, a0, a1, a5, a8, a9]
        refine (ih hi').go ⟨u', ?_⟩
        simp (disch := (first | assumption | omega | (simp only [List.length_append, List.length_cons, List.length_nil]; omega))) only [↓wD,wU,Nat.reduceBEq,zx150,zx151,zx159,zx160,zx161,zx162,Nat.reduceAdd,Nat.reduceSub,Nat.reduceMul,Nat.reduceLeDiff,Nat.reduceLT,Nat.reduceEqDiff,Int.reduceAdd,Int.reduceSub,Int.reduceMul,Int.reduceNeg,Int.reduceLT,Int.reduceLE,Int.reduceEq,Int.reduceToNat,Int.cast_ofNat_Int,↓reduceIte, a0, a1, a5, a8, a9]
        refine ⟨(hg.trans hg2).push hu2 (Nat.le_refl _) hk3, ?_⟩
        rw [linesTo_succ, if_pos h]; exact hu'
      · rw [decide_eq_false h] at eq
        simp (disch := (first | assumption | omega | (simp only [List.length_append, List.length_cons, List.length_nil]; omega))) only [↓wD,wU,Nat.reduceBEq,zx150,zx151,zx159,zx160,zx161,zx162,Nat.reduceAdd,Nat.reduceSub,Nat.reduceMul,Nat.reduceLeDiff,Nat.reduceLT,Nat.reduceEqDiff,Int.reduceAdd,Int.reduceSub,Int.reduceMul,Int.reduceNeg,Int.reduceLT,Int.reduceLE,Int.reduceEq,Int.reduceToNat,Int.cast_ofNat_Int,↓reduceIte, a0, a1, a5, a8, a9, eq.call]
        refine (ih hi').go ⟨u, ?_⟩
        simp (disch := (first | assumption | omega | (simp only [List.length_append, List.length_cons, List.length_nil]; omega))) only [↓wD,wU,Nat.reduceBEq,zx150,zx151,zx159,zx160,zx161,zx162,Nat.reduceAdd,Nat.reduceSub,Nat.reduceMul,Nat.reduceLeDiff,Nat.reduceLT,Nat.reduceEqDiff,Int.reduceAdd,Int.reduceSub,Int.reduceMul,Int.reduceNeg,Int.reduceLT,Int.reduceLE,Int.reduceEq,Int.reduceToNat,Int.cast_ofNat_Int,↓reduceIte, a0, a1, a5, a8, a9]
        refine ⟨hg.trans hg2, ?_⟩
        rw [linesTo_succ, if_neg h, List.append_nil]; exact hu2
    · obtain rfl : i = M := by omega
      simp (disch := (first | assumption | omega | (simp only [List.length_append, List.length_cons, List.length_nil]; omega))) only [↓wD,wU,Nat.reduceBEq,zx150,zx151,zx159,zx160,zx161,zx162,Nat.reduceAdd,Nat.reduceSub,Nat.reduceMul,Nat.reduceLeDiff,Nat.reduceLT,Nat.reduceEqDiff,Int.reduceAdd,Int.reduceSub,Int.reduceMul,Int.reduceNeg,Int.reduceLT,Int.reduceLE,Int.reduceEq,Int.reduceToNat,Int.cast_ofNat_Int,↓reduceIte, a1, a5, a8, a9]
      exact hu.sl
  · simp (disch := (first | assumption | omega | (simp only [List.length_append, List.length_cons, List.length_nil]; omega))) only [↓wD,wU,Nat.reduceBEq,zx150,zx151,zx159,zx160,zx161,zx162,Nat.reduceAdd,Nat.reduceSub,Nat.reduceMul,Nat.reduceLeDiff,Nat.reduceLT,Nat.reduceEqDiff,Int.reduceAdd,Int.reduceSub,Int.reduceMul,Int.reduceNeg,Int.reduceLT,Int.reduceLE,Int.reduceEq,Int.reduceToNat,Int.cast_ofNat_Int,↓reduceIte]
    exact ⟨.nils, rfl, Gr.refl _, Acc.nil⟩
theorem rclue_ret {p : Nat → Prop} {H : Heap} {v : AV} {n : Int} {cl : List Int} (hc : Sl p H v cl) : RetP E 23 [.i n, v] H (.b (decide (ClueP n cl))) := by
  refine RetP.ro rfl fn23 rfl rfl ?_
  unfold f23A
  have hz := rsize_ret (H := H) (n := n)
  by_cases h : SizeP n
  · rw [decide_eq_true h] at hz
    obtain ⟨m, rfl, h1, h2⟩ := h.nat
    have e : decide (ClueP (m : Int) cl) = decide (0 < ((linesL m cl).length : Int)) := by
      apply decide_eq_decide.2
      exact ⟨fun q => by have := q.2; rw [Int.toNat_natCast] at this; omega, fun q => ⟨h, by rw [Int.toNat_natCast]; omega⟩⟩
    rw [e]
    simp (disch := (first | assumption | omega | (simp only [List.length_append, List.length_cons, List.length_nil]; omega))) only [↓wD,wU,Nat.reduceBEq,zx150,zx151,zx159,zx160,zx161,zx162,Nat.reduceAdd,Nat.reduceSub,Nat.reduceMul,Nat.reduceLeDiff,Nat.reduceLT,Nat.reduceEqDiff,Int.reduceAdd,Int.reduceSub,Int.reduceMul,Int.reduceNeg,Int.reduceLT,Int.reduceLE,Int.reduceEq,Int.reduceToNat,Int.cast_ofNat_Int,↓reduceIte, hz.call]
    refine (rlines_ret hc h2).toF fun y H1 hg hy => ?_
    simp (disch := (first | assumption | omega | (simp only [List.length_append, List.length_cons, List.length_nil]; omega))) only [↓wD,wU,Nat.reduceBEq,zx150,zx151,zx159,zx160,zx161,zx162,Nat.reduceAdd,Nat.reduceSub,Nat.reduceMul,Nat.reduceLeDiff,Nat.reduceLT,Nat.reduceEqDiff,Int.reduceAdd,Int.reduceSub,Int.reduceMul,Int.reduceNeg,Int.reduceLT,Int.reduceLE,Int.reduceEq,Int.reduceToNat,Int.cast_ofNat_Int,↓reduceIte, hy.I]
  · rw [decide_eq_false h] at hz
    have e : decide (ClueP n cl) = false := decide_eq_false fun q => h q.1
    simp (disch := (first | assumption | omega | (simp only [List.length_append, List.length_cons, List.length_nil]; omega))) only [↓wD,wU,Nat.reduceBEq,zx150,zx151,zx159,zx160,zx161,zx162,Nat.reduceAdd,Nat.reduceSub,Nat.reduceMul,Nat.reduceLeDiff,Nat.reduceLT,Nat.reduceEqDiff,Int.reduceAdd,Int.reduceSub,Int.reduceMul,Int.reduceNeg,Int.reduceLT,Int.reduceLE,Int.reduceEq,Int.reduceToNat,Int.cast_ofNat_Int,↓reduceIte, hz.call, e]
theorem awake_ret {H : Heap} : RetP E 24 [] H (.b true) :=
  RetP.closed (n := 300) rfl fn24 rfl rfl (by kernel_rfl)
end Go.Proofs.YtjjndoigkhabdaaDoor
namespace Go.Proofs.YtjjndoigkhabdaaDoor
open Go Go.AM Go.Proofs
/-- whether a line agrees with what is known -/
def agN (f e x : Nat) : Bool := decide (x &&& f = f) && decide (x &&& e = 0)
def linesN (n : Nat) (cl : List Int) : List Nat := (List.range (2 ^ n)).filter fun x => decide (blkL x = cl)
theorem linesL_N (n : Nat) (cl : List Int) : linesL n cl = (linesN n cl).map fun x : Nat => (x : Int) := rfl
theorem linesN_lt {n : Nat} {cl : List Int} {x : Nat} (h : x ∈ linesN n cl) : x < 2 ^ n := List.mem_range.1 (List.mem_filter.1 h).1
theorem linesN_len {n : Nat} {cl : List Int} : (linesN n cl).length = (linesL n cl).length := by rw [linesL_N, List.length_map]
theorem linesL_gi {n : Nat} {cl : List Int} {i : Nat} (h : i < (linesN n cl).length) : gi (linesL n cl) (i : Int) = (gi (linesN n cl) (i : Int) : Nat) := by
  rw [gi_nat (by rw [← linesN_len]; exact h), gi_nat h]
  simp [linesL_N]
/-- filled, empty, and whether some line agrees -/
def stepS (f e : Nat) (s : Nat × Nat × Bool) (x : Nat) : Nat × Nat × Bool := if agN f e x then (s.1 &&& x, andN s.2.1 x, true) else s
def foldS (f e : Nat) (ls : List Nat) (a : Nat) : Nat × Nat × Bool := ls.foldl (stepS f e) (a, a, false)
/-- what a line settles -/
def setS (n : Nat) (cl : List Int) (f e : Nat) : Nat × Nat × Bool := foldS f e (linesN n cl) (2 ^ n - 1)
theorem foldS_take {f e a : Nat} {ls : List Nat} {i : Nat} (h : i < ls.length) : foldS f e (ls.take (i + 1)) a = stepS f e (foldS f e (ls.take i) a) (gi ls (i : Int)) := by
  unfold foldS
  rw [take_gi h, List.foldl_append]; rfl
theorem step_le {f e x : Nat} {s : Nat × Nat × Bool} : (stepS f e s x).1 ≤ s.1 ∧ (stepS f e s x).2.1 ≤ s.2.1 := by
  unfold stepS
  split
  · exact ⟨Nat.and_le_left, andN_le⟩
  · exact ⟨Nat.le_refl _, Nat.le_refl _⟩
theorem fold_le {f e : Nat} : ∀ {ls : List Nat} {s : Nat × Nat × Bool}, (ls.foldl (stepS f e) s).1 ≤ s.1 ∧ (ls.foldl (stepS f e) s).2.1 ≤ s.2.1
  | [], s => ⟨Nat.le_refl _, Nat.le_refl _⟩
  | x :: ls, s => by
    have h1 := fold_le (f := f) (e := e) (ls := ls) (s := stepS f e s x)
    have h2 := step_le (f := f) (e := e) (x := x) (s := s)
    exact ⟨Nat.le_trans h1.1 h2.1, Nat.le_trans h1.2 h2.2⟩
theorem foldS_le {f e a : Nat} {ls : List Nat} : (foldS f e ls a).1 ≤ a ∧ (foldS f e ls a).2.1 ≤ a := fold_le
theorem agrees_ret {H : Heap} {f e x : Nat} (hf : f ≤ 9223372036854775807) (he : e ≤ 9223372036854775807) (hx : x ≤ 9223372036854775807) : RetP E 88 [.ag [.i f, .i e], .i x] H (.b (agN f e x)) := by
  refine RetP.ro rfl fn88 rfl rfl ?_
  unfold f88A
  have a1 := b_and hx hf
  have a2 := b_and hx he
  unfold agN
  by_cases h1 : x &&& f = f
  · rw [h1] at a1
    have d2 : decide (((x &&& e : Nat) : Int) = 0) = decide (x &&& e = 0) := decide_eq_decide.2 (by omega)
    have e1 : decide (x &&& f = f) = true := decide_eq_true h1
    simp (disch := (first | assumption | omega | (simp only [List.length_append, List.length_cons, List.length_nil]; omega))) only [↓wD,wU,Nat.reduceBEq,zx150,zx151,zx159,zx160,zx161,zx162,Nat.reduceAdd,Nat.reduceSub,Nat.reduceMul,Nat.reduceLeDiff,Nat.reduceLT,Nat.reduceEqDiff,Int.reduceAdd,Int.reduceSub,Int.reduceMul,Int.reduceNeg,Int.reduceLT,Int.reduceLE,Int.reduceEq,Int.reduceToNat,Int.cast_ofNat_Int,↓reduceIte, a1, a2, e1, d2]
  · have d1 : decide (((x &&& f : Nat) : Int) = f) = false := decide_eq_false (by omega)
    have e1 : decide (x &&& f = f) = false := decide_eq_false h1
    simp (disch := (first | assumption | omega | (simp only [List.length_append, List.length_cons, List.length_nil]; omega))) only [↓wD,wU,Nat.reduceBEq,zx150,zx151,zx159,zx160,zx161,zx162,Nat.reduceAdd,Nat.reduceSub,Nat.reduceMul,Nat.reduceLeDiff,Nat.reduceLT,Nat.reduceEqDiff,Int.reduceAdd,Int.reduceSub,Int.reduceMul,Int.reduceNeg,Int.reduceLT,Int.reduceLE,Int.reduceEq,Int.reduceToNat,Int.cast_ofNat_Int,↓reduceIte, a1, d1, e1]
theorem settle_ret {p : Nat → Prop} {H : Heap} {v : AV} {n f e : Nat} {cl : List Int} (hc : Sl p H v cl) (hn : n ≤ 5) (hf : f ≤ 9223372036854775807) (he : e ≤ 9223372036854775807) :
    RetP E 61 [.i n, v, .ag [.i f, .i e]] H (.tp [.ag [.i (setS n cl f e).1, .i (setS n cl f e).2.1], .b (setS n cl f e).2.2]) := by
  refine RetP.ro rfl fn61 rfl rfl ?_
  unfold f61A
  have hsh := b_shl1 (n := n) (by omega)
  have p5 := pow5 hn
  have hlen := linesN_len (n := n) (cl := cl)
  have hlt : ∀ i : Nat, i < (linesN n cl).length → gi (linesN n cl) (i : Int) ≤ 31 ∧ gi (linesL n cl) (i : Int) = (gi (linesN n cl) (i : Int) : Nat) := fun i hi => ⟨by
    have := linesN_lt (mem_gi hi)
    omega, linesL_gi hi⟩
  have hlr := fun (H : Heap) (h : Sl p H v cl) => lines_ret h hn
  unfold setS
  have hM : ((2 ^ n - 1 : Nat) : Int) = ((2 ^ n : Nat) : Int) - 1 := by omega
  have hl32 := linesL_len (n := n) (cl := cl) hn
  generalize linesN n cl = ls at *
  generalize linesL n cl = li at *
  generalize 2 ^ n = M at *
  obtain ⟨A, eA⟩ : ∃ A, M - 1 = A := ⟨_, rfl⟩
  have hA : ((M : Nat) : Int) - 1 = (A : Nat) := by omega
  rw [eA]
  replace hc : Sl (fun b => p b ∧ b < H.length) H v cl := hc.low
  obtain ⟨H2, eH2⟩ : ∃ H2, H ++ [Blk.cells [.i (f : Int), .i (e : Int)]] ++ [Blk.cells [.i (A : Int), .i (A : Int)]] = H2 := ⟨_, rfl⟩
  have n2 : H2.length = H.length + 2 := by rw [← eH2]; simp
  have d1 : H2[H.length]? = some (.cells [.i (f : Int), .i (e : Int)]) := by rw [← eH2]; simp [List.getElem?_append]
  have d2 : H2[H.length + 1]? = some (.cells [.i (A : Int), .i (A : Int)]) := by rw [← eH2]; simp [List.getElem?_append]
  have x2 : Kx (fun _ => True) H H2 := by rw [← eH2]; exact (Kx.app _ _ _).app' _
  have hst : st H.length (H ++ [Blk.cells [.i (f : Int), .i (e : Int)]] ++ [Blk.cells [.i 0, .i 0]]) (H.length + 1) 0 [.i (A : Int), .i (A : Int)] = some H2 := by
    rw [st_of (cs := [.i 0, .i 0]) (by simp [List.getElem?_append]) (by omega) (by simp), ← eH2]
    congr 1
    simp [wr, List.set_append]
  have hc2 := hc.kp (x2.all _).kp
  clear eH2
  simp (disch := (first | assumption | omega | (simp only [List.length_append, List.length_cons, List.length_nil]; omega))) only [↓wD,wU,Nat.reduceBEq,zx150,zx151,zx159,zx160,zx161,zx162,Nat.reduceAdd,Nat.reduceSub,Nat.reduceMul,Nat.reduceLeDiff,Nat.reduceLT,Nat.reduceEqDiff,Int.reduceAdd,Int.reduceSub,Int.reduceMul,Int.reduceNeg,Int.reduceLT,Int.reduceLE,Int.reduceEq,Int.reduceToNat,Int.cast_ofNat_Int,↓reduceIte, hsh, hA, hst]
  refine (hlr H2 (hc2.weak fun _ h => h.1)).toFX fun y H3 x3 hy => ?_
  have g1 := x3.get trivial d1
  have g2 := x3.get trivial d2
  have hyI := hy.I
  rw [← hlen] at hyI
  simp (disch := (first | assumption | omega | (simp only [List.length_append, List.length_cons, List.length_nil]; omega))) only [↓wD,wU,Nat.reduceBEq,zx150,zx151,zx159,zx160,zx161,zx162,Nat.reduceAdd,Nat.reduceSub,Nat.reduceMul,Nat.reduceLeDiff,Nat.reduceLT,Nat.reduceEqDiff,Int.reduceAdd,Int.reduceSub,Int.reduceMul,Int.reduceNeg,Int.reduceLT,Int.reduceLE,Int.reduceEq,Int.reduceToNat,Int.cast_ofNat_Int,↓reduceIte, hyI]
  refine Wp.for ls.length (fun i a H' => a 5 = .p H.length 0 ∧ a 6 = .p (H.length + 1) 0 ∧ a 7 = .b (foldS f e (ls.take i) A).2.2 ∧ a 19 = y ∧ a 20 = .i ls.length ∧ a 21 = .i i ∧ Kx (fun b => b ≠ H.length + 1) H3 H' ∧ H'[H.length + 1]? = some (.cells [.i (foldS f e (ls.take i) A).1, .i (foldS f e (ls.take i) A).2.1])) ?_ ?_
  · rintro i a H' hi ⟨a5, a6, a7, a19, a20, a21, hx, hcell⟩ ih
    simp (disch := (first | assumption | omega | (simp only [List.length_append, List.length_cons, List.length_nil]; omega))) only [↓wD,wU,Nat.reduceBEq,zx150,zx151,zx159,zx160,zx161,zx162,Nat.reduceAdd,Nat.reduceSub,Nat.reduceMul,Nat.reduceLeDiff,Nat.reduceLT,Nat.reduceEqDiff,Int.reduceAdd,Int.reduceSub,Int.reduceMul,Int.reduceNeg,Int.reduceLT,Int.reduceLE,Int.reduceEq,Int.reduceToNat,Int.cast_ofNat_Int,↓reduceIte, a5, a6, a7, a19, a20, a21]
    have k1 := hx.get (b := H.length) (by omega) g1
    refine condP_split (fun hlt2 => ?_) (fun hlt2 => ?_)
    · have hi' : i < ls.length := by omega
      obtain ⟨l31, el⟩ := hlt i hi'
      have hy' := (hy.weak (q := fun b => b ≠ H.length + 1) fun b h => by omega).kp hx.kp
      have hyI' := hy'.I
      rw [← hlen] at hyI'
      have ag := agrees_ret (H := H') hf he (x := gi ls (i : Int)) (by omega)
      have et := foldS_take (f := f) (e := e) (a := A) hi'
      have fl := foldS_le (f := f) (e := e) (a := A) (ls := ls.take i)
      obtain ⟨⟨s1, s2, s3⟩, es⟩ : ∃ s, foldS f e (ls.take i) A = s := ⟨_, rfl⟩
      rw [es] at a7 hcell et fl
      simp only at a7 hcell fl
      unfold stepS at et
      by_cases h : agN f e (gi ls (i : Int)) = true
      · rw [h] at ag
        rw [if_pos h] at et
        have o1 := b_and (a := s1) (b := gi ls (i : Int)) (by omega) (by omega)
        have o2 := b_andNot (a := s2) (b := gi ls (i : Int)) (by omega) (by omega)
        obtain ⟨T1, eT1⟩ : ∃ T, s1 &&& gi ls (i : Int) = T := ⟨_, rfl⟩
        obtain ⟨T2, eT2⟩ : ∃ T, andN s2 (gi ls (i : Int)) = T := ⟨_, rfl⟩
        rw [eT1] at o1 et
        rw [eT2] at o2 et
        obtain ⟨L, eL⟩ : ∃ L, gi ls (i : Int) = L := ⟨_, rfl⟩
        rw [eL] at ag o1 o2 el
        have hs1 : st H.length H' (H.length + 1) 0 [.i (T1 : Int)] = some (H'.set (H.length + 1) (.cells [.i (T1 : Int), .i (s2 : Int)])) := by rw [st_of hcell (by omega) (by simp)]; simp [wr]
        have c1 := get_set (k := .cells [.i (T1 : Int), .i (s2 : Int)]) hcell
        have hs2 : st H.length (H'.set (H.length + 1) (.cells [.i (T1 : Int), .i (s2 : Int)])) (H.length + 1) 1 [.i (T2 : Int)] = some ((H'.set (H.length + 1) (.cells [.i (T1 : Int), .i (s2 : Int)])).set (H.length + 1) (.cells [.i (T1 : Int), .i (T2 : Int)])) := by rw [st_of c1 (by omega) (by simp)]; simp [wr]
        simp (disch := (first | assumption | omega | (simp only [List.length_append, List.length_cons, List.length_nil]; omega))) only [↓wD,wU,Nat.reduceBEq,zx150,zx151,zx159,zx160,zx161,zx162,Nat.reduceAdd,Nat.reduceSub,Nat.reduceMul,Nat.reduceLeDiff,Nat.reduceLT,Nat.reduceEqDiff,Int.reduceAdd,Int.reduceSub,Int.reduceMul,Int.reduceNeg,Int.reduceLT,Int.reduceLE,Int.reduceEq,Int.reduceToNat,Int.cast_ofNat_Int,↓reduceIte, a5, a6, a7, a19, a20, a21, hyI', el, ldn_of k1, ag.call, ld_of hcell, o1, hs1, ld_of c1, o2, hs2]
        refine (ih hi').go ?_
        rw [et]
        simp (disch := (first | assumption | omega | (simp only [List.length_append, List.length_cons, List.length_nil]; omega))) only [↓wD,wU,Nat.reduceBEq,zx150,zx151,zx159,zx160,zx161,zx162,Nat.reduceAdd,Nat.reduceSub,Nat.reduceMul,Nat.reduceLeDiff,Nat.reduceLT,Nat.reduceEqDiff,Int.reduceAdd,Int.reduceSub,Int.reduceMul,Int.reduceNeg,Int.reduceLT,Int.reduceLE,Int.reduceEq,Int.reduceToNat,Int.cast_ofNat_Int,↓reduceIte, a5, a6, a7, a19, a20, a21]
        exact ⟨(hx.set' (fun _ h => h rfl) _).set' (fun _ h => h rfl) _, get_set c1⟩
      · have h' : agN f e (gi ls (i : Int)) = false := by simpa using h
        rw [h'] at ag
        rw [if_neg h] at et
        obtain ⟨L, eL⟩ : ∃ L, gi ls (i : Int) = L := ⟨_, rfl⟩
        rw [eL] at ag el
        simp (disch := (first | assumption | omega | (simp only [List.length_append, List.length_cons, List.length_nil]; omega))) only [↓wD,wU,Nat.reduceBEq,zx150,zx151,zx159,zx160,zx161,zx162,Nat.reduceAdd,Nat.reduceSub,Nat.reduceMul,Nat.reduceLeDiff,Nat.reduceLT,Nat.reduceEqDiff,Int.reduceAdd,Int.reduceSub,Int.reduceMul,Int.reduceNeg,Int.reduceLT,Int.reduceLE,Int.reduceEq,Int.reduceToNat,Int.cast_ofNat_Int,↓reduceIte, a5, a6, a7, a19, a20, a21, hyI', el, ldn_of k1, ag.call]
        refine (ih hi').go ?_
        rw [et]
        simp (disch := (first | assumption | omega | (simp only [List.length_append, List.length_cons, List.length_nil]; omega))) only [↓wD,wU,Nat.reduceBEq,zx150,zx151,zx159,zx160,zx161,zx162,Nat.reduceAdd,Nat.reduceSub,Nat.reduceMul,Nat.reduceLeDiff,Nat.reduceLT,Nat.reduceEqDiff,Int.reduceAdd,Int.reduceSub,Int.reduceMul,Int.reduceNeg,Int.reduceLT,Int.reduceLE,Int.reduceEq,Int.reduceToNat,Int.cast_ofNat_Int,↓reduceIte, a5, a6, a7, a19, a20, a21]
        exact ⟨hx, hcell⟩
    · obtain rfl : i = ls.length := by omega
      rw [List.take_length] at a7 hcell
      obtain ⟨⟨s1, s2, s3⟩, es⟩ : ∃ s, foldS f e ls A = s := ⟨_, rfl⟩
      rw [es] at a7 hcell ⊢
      simp only at a7 hcell ⊢
      have hs1 : st H.length H' (H.length + 1) 0 [.i (s1 : Int), .i (s2 : Int)] = some (H'.set (H.length + 1) (.cells [.i (s1 : Int), .i (s2 : Int)])) := by rw [st_of hcell (by omega) (by simp)]; simp [wr]
      simp (disch := (first | assumption | omega | (simp only [List.length_append, List.length_cons, List.length_nil]; omega))) only [↓wD,wU,Nat.reduceBEq,zx150,zx151,zx159,zx160,zx161,zx162,Nat.reduceAdd,Nat.reduceSub,Nat.reduceMul,Nat.reduceLeDiff,Nat.reduceLT,Nat.reduceEqDiff,Int.reduceAdd,Int.reduceSub,Int.reduceMul,Int.reduceNeg,Int.reduceLT,Int.reduceLE,Int.reduceEq,Int.reduceToNat,Int.cast_ofNat_Int,↓reduceIte, a5, a6, a7, ldn_of hcell, hs1, ldn_of (get_set hcell)]
  · simp (disch := (first | assumption | omega | (simp only [List.length_append, List.length_cons, List.length_nil]; omega))) only [↓wD,wU,Nat.reduceBEq,zx150,zx151,zx159,zx160,zx161,zx162,Nat.reduceAdd,Nat.reduceSub,Nat.reduceMul,Nat.reduceLeDiff,Nat.reduceLT,Nat.reduceEqDiff,Int.reduceAdd,Int.reduceSub,Int.reduceMul,Int.reduceNeg,Int.reduceLT,Int.reduceLE,Int.reduceEq,Int.reduceToNat,Int.cast_ofNat_Int,↓reduceIte]
    exact ⟨rfl, Kx.refl _ _, g2⟩
end Go.Proofs.YtjjndoigkhabdaaDoor
namespace Go.Proofs.YtjjndoigkhabdaaDoor
open Go Go.AM Go.Proofs
theorem agN_iff {f e x : Nat} : agN f e x = true ↔ ∀ c, (f.testBit c = true → x.testBit c = true) ∧ (e.testBit c = true → x.testBit c = false) := by
  unfold agN
  rw [Bool.and_eq_true, decide_eq_true_eq, decide_eq_true_eq]
  constructor
  · rintro ⟨h1, h2⟩ c
    have b1 : (x &&& f).testBit c = f.testBit c := by rw [h1]
    have b2 : (x &&& e).testBit c = (0 : Nat).testBit c := by rw [h2]
    rw [Nat.testBit_and] at b1 b2
    rw [Nat.zero_testBit] at b2
    cases q1 : x.testBit c <;> cases q2 : f.testBit c <;> cases q3 : e.testBit c <;> simp_all
  · intro h
    constructor
    · apply Nat.eq_of_testBit_eq
      intro c
      rw [Nat.testBit_and]
      have := (h c).1
      cases q1 : x.testBit c <;> cases q2 : f.testBit c <;> simp_all
    · apply Nat.eq_of_testBit_eq
      intro c
      rw [Nat.testBit_and, Nat.zero_testBit]
      have := (h c).2
      cases q1 : x.testBit c <;> cases q2 : e.testBit c <;> simp_all
theorem fold_bit1 {f e c : Nat} : ∀ {ls : List Nat} {s : Nat × Nat × Bool}, (ls.foldl (stepS f e) s).1.testBit c = (s.1.testBit c && ls.all fun x => !agN f e x || x.testBit c)
  | [], s => by simp
  | x :: ls, s => by
    rw [List.foldl_cons, fold_bit1, List.all_cons]
    unfold stepS
    cases h : agN f e x
    · simp
    · simp [Nat.testBit_and, Bool.and_assoc]
theorem fold_bit2 {f e c : Nat} : ∀ {ls : List Nat} {s : Nat × Nat × Bool}, (∀ x ∈ ls, x ≤ 9223372036854775807) → s.2.1 ≤ 9223372036854775807 → (ls.foldl (stepS f e) s).2.1.testBit c = (s.2.1.testBit c && ls.all fun x => !agN f e x || !x.testBit c)
  | [], s, _, _ => by simp
  | x :: ls, s, hl, hs => by
    have hs' : (stepS f e s x).2.1 ≤ 9223372036854775807 := by
      have := (step_le (f := f) (e := e) (x := x) (s := s)).2; omega
    rw [List.foldl_cons, fold_bit2 (fun y hy => hl y (by simp [hy])) hs', List.all_cons]
    unfold stepS
    cases h : agN f e x
    · simp
    · simp [andN_bit hs (hl x (by simp)), Bool.and_assoc]
theorem fold_ok {f e : Nat} : ∀ {ls : List Nat} {s : Nat × Nat × Bool}, (ls.foldl (stepS f e) s).2.2 = (s.2.2 || ls.any (agN f e))
  | [], s => by simp
  | x :: ls, s => by
    rw [List.foldl_cons, fold_ok, List.any_cons]
    unfold stepS
    cases h : agN f e x <;> simp
theorem lt_bit {x n c : Nat} (h : x < 2 ^ n) (hb : x.testBit c = true) : c < n := by
  rcases Nat.lt_or_ge c n with q | q
  · exact q
  · rw [Nat.testBit_lt_two_pow (Nat.lt_of_lt_of_le h (Nat.pow_le_pow_right (by omega) q))] at hb
    cases hb
theorem all_bit {n c : Nat} : (2 ^ n - 1).testBit c = decide (c < n) := Nat.testBit_two_pow_sub_one n c
/-- bits of what a line settles -/
theorem setS_bit1 {n f e c : Nat} {cl : List Int} : (setS n cl f e).1.testBit c = (decide (c < n) && (linesN n cl).all fun x => !agN f e x || x.testBit c) := by
  unfold setS foldS
  rw [fold_bit1]
  show ((2 ^ n - 1).testBit c && _) = _
  rw [all_bit]
theorem setS_bit2 {n f e c : Nat} {cl : List Int} (hn : n ≤ 5) : (setS n cl f e).2.1.testBit c = (decide (c < n) && (linesN n cl).all fun x => !agN f e x || !x.testBit c) := by
  have p5 := pow5 hn
  unfold setS foldS
  rw [fold_bit2 (fun x hx => by have := linesN_lt hx; omega) (by simp only []; omega)]
  show ((2 ^ n - 1).testBit c && _) = _
  rw [all_bit]
theorem setS_ok {n f e : Nat} {cl : List Int} : (setS n cl f e).2.2 = (linesN n cl).any (agN f e) := by
  unfold setS foldS
  rw [fold_ok]; simp
theorem setS_lt {n f e : Nat} {cl : List Int} : (setS n cl f e).1 < 2 ^ n ∧ (setS n cl f e).2.1 < 2 ^ n := by
  have h := foldS_le (f := f) (e := e) (a := 2 ^ n - 1) (ls := linesN n cl)
  have : 1 ≤ 2 ^ n := Nat.one_le_two_pow
  exact ⟨by unfold setS; omega, by unfold setS; omega⟩
end Go.Proofs.YtjjndoigkhabdaaDoor
namespace Go.Proofs.YtjjndoigkhabdaaDoor
open Go Go.AM Go.Proofs
theorem _root_.Go.AM.RetP.callv {E : Tab} {f : Nat} {us caps vs : List AV} {H : Heap} {v : AV} (h : RetP E f (us ++ vs ++ caps) H v) {lo : Nat} {Q : AV → Heap → Prop} : @callvP E lo (.fn f us caps) vs H ⟨Q⟩ = Q v H := h.iff
theorem _root_.Go.AM.RetP.callv0 {E : Tab} {f : Nat} {vs : List AV} {H : Heap} {v : AV} (h : RetP E f vs H v) {lo : Nat} {Q : AV → Heap → Prop} : @callvP E lo (.fn f [] []) vs H ⟨Q⟩ = Q v H := RetP.callv (us := []) (caps := []) (by simpa using h)
theorem _root_.Go.AM.RetP.callv1 {E : Tab} {f : Nat} {caps vs : List AV} {H : Heap} {v : AV} (h : RetP E f (vs ++ caps) H v) {lo : Nat} {Q : AV → Heap → Prop} : @callvP E lo (.fn f [] caps) vs H ⟨Q⟩ = Q v H := RetP.callv (us := []) (by simpa using h)
def cmpI (x y : Int) : Int := if x < y then -1 else if y < x then 1 else 0
/-- how two slices compare -/
def cmpL : List Int → List Int → Int
  | [], [] => 0
  | [], _ :: _ => -1
  | _ :: _, [] => 1
  | x :: xs, y :: ys => if cmpI x y ≠ 0 then cmpI x y else cmpL xs ys
theorem cmpL_refl : ∀ xs : List Int, cmpL xs xs = 0
  | [] => rfl
  | x :: xs => by simp [cmpL, cmpI, cmpL_refl xs]
end Go.Proofs.YtjjndoigkhabdaaDoor
namespace Go.Proofs.YtjjndoigkhabdaaDoor
open Go Go.AM Go.Proofs
theorem rv_pp {α β : Type} [Rep α] [Rep β] {p : Nat → Prop} {H : Heap} {u w : AV} {x : List α} {y : List β} (h1 : Sl p H u x) (h2 : Sl p H w y) : RV.rv p H (.ag [u, w]) ((x, y) : List α × List β) :=
  ⟨[u, w], rfl, [u], [w], rfl, ⟨u, rfl, h1⟩, ⟨w, rfl, h2⟩⟩
theorem rv_pp_elim {α β : Type} [Rep α] [Rep β] {p : Nat → Prop} {H : Heap} {v : AV} {x : List α × List β} (h : RV.rv p H v x) : ∃ u w, v = .ag [u, w] ∧ Sl p H u x.1 ∧ Sl p H w x.2 := by
  obtain ⟨cs, rfl, c1, c2, rfl, ⟨u, rfl, h1⟩, ⟨w, rfl, h2⟩⟩ := h
  exact ⟨u, w, rfl, h1, h2⟩
theorem rep_pp_elim {α β : Type} [Rep α] [Rep β] {p : Nat → Prop} {H : Heap} {cs : List AV} {x : List α × List β} (h : Rep.rep p H cs x) : ∃ u w, cs = [u, w] ∧ Sl p H u x.1 ∧ Sl p H w x.2 := by
  obtain ⟨c1, c2, rfl, ⟨u, rfl, h1⟩, ⟨w, rfl, h2⟩⟩ := h
  exact ⟨u, w, rfl, h1, h2⟩
def findG {α : Type} (P : α → Bool) : List α → Nat → Int
  | [], _ => -1
  | y :: ys, i => if P y then i else findG P ys (i + 1)
theorem findG_ge {α : Type} {P : α → Bool} : ∀ {xs : List α} {i : Nat}, decide (0 ≤ findG P xs i) = xs.any P
  | [], i => by simp [findG]
  | y :: ys, i => by
    unfold findG
    cases h : P y
    · simp [h, findG_ge]
    · simp [h]
theorem idxL_ret {p : Nat → Prop} {H : Heap} {v : AV} {f : Nat} {caps : List AV} {xs : List (List Int)} {P : List Int → Bool} (hx : Sl p H v xs) (hf : ∀ i : Nat, i < xs.length → RetP E f ([v.get H (i : Int)] ++ caps) H (.b (P (gi xs (i : Int))))) : RetP E 111 [v, .fn f [] caps] H (.i (findG P xs 0)) := by
  refine RetP.ro rfl fn111 rfl rfl ?_
  unfold f111A
  have hI := hx.L
  have hb := hx.bound
  obtain ⟨r, er⟩ : ∃ r, findG P xs 0 = r := ⟨_, rfl⟩
  rw [er]
  simp (disch := (first | assumption | omega | (simp only [List.length_append, List.length_cons, List.length_nil]; omega))) only [↓wD,wU,Nat.reduceBEq,zx150,zx151,zx159,zx160,zx161,zx162,Nat.reduceAdd,Nat.reduceSub,Nat.reduceMul,Nat.reduceLeDiff,Nat.reduceLT,Nat.reduceEqDiff,Int.reduceAdd,Int.reduceSub,Int.reduceMul,Int.reduceNeg,Int.reduceLT,Int.reduceLE,Int.reduceEq,Int.reduceToNat,Int.cast_ofNat_Int,↓reduceIte, hI]
  refine Wp.for xs.length (fun i a H' => H' = H ∧ a 0 = v ∧ a 1 = .fn f [] caps ∧ a 7 = .i xs.length ∧ a 8 = .i i ∧ findG P (xs.drop i) i = r) ?_ ?_
  · clear er
    rintro i a H' hi ⟨rfl, a0, a1, a7, a8, hh⟩ ih
    simp (disch := (first | assumption | omega | (simp only [List.length_append, List.length_cons, List.length_nil]; omega))) only [↓wD,wU,Nat.reduceBEq,zx150,zx151,zx159,zx160,zx161,zx162,Nat.reduceAdd,Nat.reduceSub,Nat.reduceMul,Nat.reduceLeDiff,Nat.reduceLT,Nat.reduceEqDiff,Int.reduceAdd,Int.reduceSub,Int.reduceMul,Int.reduceNeg,Int.reduceLT,Int.reduceLE,Int.reduceEq,Int.reduceToNat,Int.cast_ofNat_Int,↓reduceIte, a0, a1, a7, a8]
    refine condP_split (fun hlt => ?_) (fun hlt => ?_)
    · have hi' : i < xs.length := by omega
      have e : xs.drop i = gi xs (i : Int) :: xs.drop (i + 1) := by rw [gi_nat hi']; exact List.drop_eq_getElem_cons hi'
      rw [e, findG] at hh
      clear e
      have hc := hf i hi'
      cases hp : P (gi xs (i : Int))
      · rw [hp] at hc hh
        simp only [Bool.false_eq_true, if_false] at hh
        simp (disch := (first | assumption | omega | (simp only [List.length_append, List.length_cons, List.length_nil]; omega))) only [↓wD,wU,Nat.reduceBEq,zx150,zx151,zx159,zx160,zx161,zx162,Nat.reduceAdd,Nat.reduceSub,Nat.reduceMul,Nat.reduceLeDiff,Nat.reduceLT,Nat.reduceEqDiff,Int.reduceAdd,Int.reduceSub,Int.reduceMul,Int.reduceNeg,Int.reduceLT,Int.reduceLE,Int.reduceEq,Int.reduceToNat,Int.cast_ofNat_Int,↓reduceIte, a0, a1, a7, a8, hI, hc.callv1]
        refine (ih hi').go ⟨rfl, ?_⟩
        simp (disch := (first | assumption | omega | (simp only [List.length_append, List.length_cons, List.length_nil]; omega))) only [↓wD,wU,Nat.reduceBEq,zx150,zx151,zx159,zx160,zx161,zx162,Nat.reduceAdd,Nat.reduceSub,Nat.reduceMul,Nat.reduceLeDiff,Nat.reduceLT,Nat.reduceEqDiff,Int.reduceAdd,Int.reduceSub,Int.reduceMul,Int.reduceNeg,Int.reduceLT,Int.reduceLE,Int.reduceEq,Int.reduceToNat,Int.cast_ofNat_Int,↓reduceIte, a0, a1, a7, a8]
        exact hh
      · rw [hp] at hc hh
        simp only [if_true] at hh
        simp (disch := (first | assumption | omega | (simp only [List.length_append, List.length_cons, List.length_nil]; omega))) only [↓wD,wU,Nat.reduceBEq,zx150,zx151,zx159,zx160,zx161,zx162,Nat.reduceAdd,Nat.reduceSub,Nat.reduceMul,Nat.reduceLeDiff,Nat.reduceLT,Nat.reduceEqDiff,Int.reduceAdd,Int.reduceSub,Int.reduceMul,Int.reduceNeg,Int.reduceLT,Int.reduceLE,Int.reduceEq,Int.reduceToNat,Int.cast_ofNat_Int,↓reduceIte, a0, a1, a7, a8, hI, hc.callv1]
        rw [hh]
    · rw [List.drop_of_length_le (by omega), findG] at hh
      subst hh
      simp (disch := (first | assumption | omega | (simp only [List.length_append, List.length_cons, List.length_nil]; omega))) only [↓wD,wU,Nat.reduceBEq,zx150,zx151,zx159,zx160,zx161,zx162,Nat.reduceAdd,Nat.reduceSub,Nat.reduceMul,Nat.reduceLeDiff,Nat.reduceLT,Nat.reduceEqDiff,Int.reduceAdd,Int.reduceSub,Int.reduceMul,Int.reduceNeg,Int.reduceLT,Int.reduceLE,Int.reduceEq,Int.reduceToNat,Int.cast_ofNat_Int,↓reduceIte, a0, a1, a7, a8]
  · simp (disch := (first | assumption | omega | (simp only [List.length_append, List.length_cons, List.length_nil]; omega))) only [↓wD,wU,Nat.reduceBEq,zx150,zx151,zx159,zx160,zx161,zx162,Nat.reduceAdd,Nat.reduceSub,Nat.reduceMul,Nat.reduceLeDiff,Nat.reduceLT,Nat.reduceEqDiff,Int.reduceAdd,Int.reduceSub,Int.reduceMul,Int.reduceNeg,Int.reduceLT,Int.reduceLE,Int.reduceEq,Int.reduceToNat,Int.cast_ofNat_Int,↓reduceIte]
    exact er
theorem hasL_ret {p : Nat → Prop} {H : Heap} {v : AV} {f : Nat} {caps : List AV} {xs : List (List Int)} {P : List Int → Bool} (hx : Sl p H v xs) (hf : ∀ i : Nat, i < xs.length → RetP E f ([v.get H (i : Int)] ++ caps) H (.b (P (gi xs (i : Int))))) : RetP E 93 [v, .fn f [] caps] H (.b (xs.any P)) := by
  refine RetP.ro rfl fn93 rfl rfl ?_
  unfold f93A
  have h := findG_ge (P := P) (xs := xs) (i := 0)
  simp (disch := (first | assumption | omega | (simp only [List.length_append, List.length_cons, List.length_nil]; omega))) only [↓wD,wU,Nat.reduceBEq,zx150,zx151,zx159,zx160,zx161,zx162,Nat.reduceAdd,Nat.reduceSub,Nat.reduceMul,Nat.reduceLeDiff,Nat.reduceLT,Nat.reduceEqDiff,Int.reduceAdd,Int.reduceSub,Int.reduceMul,Int.reduceNeg,Int.reduceLT,Int.reduceLE,Int.reduceEq,Int.reduceToNat,Int.cast_ofNat_Int,↓reduceIte, (idxL_ret hx hf).call, h]
/-! ### Pictures -/
def PicP (w : Int) (xs : List Int) : Prop := SizeP xs.length ∧ SizeP w ∧ ∀ x ∈ xs, SetP w x
instance (w : Int) (xs : List Int) : Decidable (PicP w xs) := by unfold PicP; infer_instance
def nL (P : List Nat) : List Int := P.map fun x : Nat => (x : Int)
theorem nL_len (P : List Nat) : (nL P).length = P.length := by simp [nL]
theorem nL_gi {P : List Nat} {i : Nat} (h : i < P.length) : gi (nL P) (i : Int) = (gi P (i : Int) : Nat) := by
  rw [gi_nat (by rw [nL_len]; exact h), gi_nat h]; simp [nL]
/-- a column, behind i rows -/
def colT (P : List Nat) (c : Nat) : Nat → Nat
  | 0 => 0
  | i + 1 => colT P c i ||| ((gi P (i : Int) >>> c) % 2) <<< i
def colN (P : List Nat) (c : Nat) : Nat := colT P c P.length
theorem colT_lt (P : List Nat) (c : Nat) : ∀ i, colT P c i < 2 ^ i
  | 0 => by simp [colT]
  | i + 1 => by
    have h := colT_lt P c i
    have h1 : colT P c i < 2 ^ (i + 1) := Nat.lt_of_lt_of_le h (Nat.pow_le_pow_right (by omega) (by omega))
    have h2 : ((gi P (i : Int) >>> c) % 2) <<< i < 2 ^ (i + 1) := by
      rw [Nat.shiftLeft_eq, Nat.pow_succ, Nat.mul_comm]
      have : (gi P (i : Int) >>> c) % 2 ≤ 1 := by omega
      have h3 := Nat.mul_le_mul_left (2 ^ i) this
      have h4 : 0 < 2 ^ i := Nat.two_pow_pos i
      omega
    exact Nat.or_lt_two_pow h1 h2
theorem col_step {P : List Nat} {c i : Nat} (hc : c ≤ 31) (hi : i ≤ 31) : binA .shr (.i (gi P (i : Int) : Nat)) (.i (c : Int)) = some (.i ((gi P (i : Int) >>> c : Nat) : Int)) ∧ (gi P (i : Int) ≤ 9223372036854775807 → binA .and (.i ((gi P (i : Int) >>> c : Nat) : Int)) (.i 1) = some (.i (((gi P (i : Int) >>> c) % 2 : Nat) : Int))) ∧
    binA .shl (.i (((gi P (i : Int) >>> c) % 2 : Nat) : Int)) (.i (i : Int)) = some (.i ((((gi P (i : Int) >>> c) % 2) <<< i : Nat) : Int)) ∧
    binA .or (.i ((colT P c i : Nat) : Int)) (.i ((((gi P (i : Int) >>> c) % 2) <<< i : Nat) : Int)) = some (.i ((colT P c (i + 1) : Nat) : Int)) := by
  have hm : (gi P (i : Int) >>> c) % 2 ≤ 1 := by omega
  have h3 := Nat.mul_le_mul_right (2 ^ i) hm
  have h4 : 2 ^ i ≤ 2 ^ 31 := Nat.pow_le_pow_right (by omega) hi
  have h5 : ((gi P (i : Int) >>> c) % 2) <<< i ≤ 9223372036854775807 := by rw [Nat.shiftLeft_eq]; omega
  have h6 := colT_lt P c i
  refine ⟨b_shr (by omega), fun hp => ?_, b_shl (by omega) h5, b_or (by omega) h5⟩
  have sle : gi P (i : Int) >>> c ≤ gi P (i : Int) := by rw [Nat.shiftRight_eq_div_pow]; exact Nat.div_le_self _ _
  have := b_and (a := gi P (i : Int) >>> c) (b := 1) (by omega) (by omega)
  rw [Nat.and_one_is_mod] at this
  exact this
theorem column_ret {p : Nat → Prop} {H : Heap} {v : AV} {P : List Nat} {c : Nat} (hx : Sl p H v (nL P)) (hl : P.length ≤ 31) (hc : c ≤ 31) (h31 : ∀ x ∈ P, x ≤ 9223372036854775807) : RetP E 91 [v, .i c] H (.i (colN P c : Nat)) := by
  refine RetP.ro rfl fn91 rfl rfl ?_
  unfold f91A
  have hI := hx.I
  rw [nL_len] at hI
  simp (disch := (first | assumption | omega | (simp only [List.length_append, List.length_cons, List.length_nil]; omega))) only [↓wD,wU,Nat.reduceBEq,zx150,zx151,zx159,zx160,zx161,zx162,Nat.reduceAdd,Nat.reduceSub,Nat.reduceMul,Nat.reduceLeDiff,Nat.reduceLT,Nat.reduceEqDiff,Int.reduceAdd,Int.reduceSub,Int.reduceMul,Int.reduceNeg,Int.reduceLT,Int.reduceLE,Int.reduceEq,Int.reduceToNat,Int.cast_ofNat_Int,↓reduceIte, hI]
  refine Wp.for P.length (fun i a H' => H' = H ∧ a 1 = .i c ∧ a 5 = .i (colT P c i : Nat) ∧ a 8 = v ∧ a 9 = .i P.length ∧ a 10 = .i i) ?_ ?_
  · rintro i a H' hi ⟨rfl, a1, a5, a8, a9, a10⟩ ih
    simp (disch := (first | assumption | omega | (simp only [List.length_append, List.length_cons, List.length_nil]; omega))) only [↓wD,wU,Nat.reduceBEq,zx150,zx151,zx159,zx160,zx161,zx162,Nat.reduceAdd,Nat.reduceSub,Nat.reduceMul,Nat.reduceLeDiff,Nat.reduceLT,Nat.reduceEqDiff,Int.reduceAdd,Int.reduceSub,Int.reduceMul,Int.reduceNeg,Int.reduceLT,Int.reduceLE,Int.reduceEq,Int.reduceToNat,Int.cast_ofNat_Int,↓reduceIte, a1, a5, a8, a9, a10]
    refine condP_split (fun hlt => ?_) (fun hlt => ?_)
    · have hi' : i < P.length := by omega
      obtain ⟨o1, o2, o3, o4⟩ := col_step (P := P) (c := c) (i := i) hc (by omega)
      replace o2 := o2 (h31 _ (mem_gi hi'))
      have eg := nL_gi hi'
      simp (disch := (first | assumption | omega | (simp only [List.length_append, List.length_cons, List.length_nil]; omega))) only [↓wD,wU,Nat.reduceBEq,zx150,zx151,zx159,zx160,zx161,zx162,Nat.reduceAdd,Nat.reduceSub,Nat.reduceMul,Nat.reduceLeDiff,Nat.reduceLT,Nat.reduceEqDiff,Int.reduceAdd,Int.reduceSub,Int.reduceMul,Int.reduceNeg,Int.reduceLT,Int.reduceLE,Int.reduceEq,Int.reduceToNat,Int.cast_ofNat_Int,↓reduceIte, a1, a5, a8, a9, a10, hI, eg, o1, o2, o3, o4]
      refine (ih hi').go ⟨rfl, ?_⟩
      simp (disch := (first | assumption | omega | (simp only [List.length_append, List.length_cons, List.length_nil]; omega))) only [↓wD,wU,Nat.reduceBEq,zx150,zx151,zx159,zx160,zx161,zx162,Nat.reduceAdd,Nat.reduceSub,Nat.reduceMul,Nat.reduceLeDiff,Nat.reduceLT,Nat.reduceEqDiff,Int.reduceAdd,Int.reduceSub,Int.reduceMul,Int.reduceNeg,Int.reduceLT,Int.reduceLE,Int.reduceEq,Int.reduceToNat,Int.cast_ofNat_Int,↓reduceIte, a1, a5, a8, a9, a10]
    · obtain rfl : i = P.length := by omega
      simp (disch := (first | assumption | omega | (simp only [List.length_append, List.length_cons, List.length_nil]; omega))) only [↓wD,wU,Nat.reduceBEq,zx150,zx151,zx159,zx160,zx161,zx162,Nat.reduceAdd,Nat.reduceSub,Nat.reduceMul,Nat.reduceLeDiff,Nat.reduceLT,Nat.reduceEqDiff,Int.reduceAdd,Int.reduceSub,Int.reduceMul,Int.reduceNeg,Int.reduceLT,Int.reduceLE,Int.reduceEq,Int.reduceToNat,Int.cast_ofNat_Int,↓reduceIte, a1, a5, a8, a9, a10]
      rfl
  · simp (disch := (first | assumption | omega | (simp only [List.length_append, List.length_cons, List.length_nil]; omega))) only [↓wD,wU,Nat.reduceBEq,zx150,zx151,zx159,zx160,zx161,zx162,Nat.reduceAdd,Nat.reduceSub,Nat.reduceMul,Nat.reduceLeDiff,Nat.reduceLT,Nat.reduceEqDiff,Int.reduceAdd,Int.reduceSub,Int.reduceMul,Int.reduceNeg,Int.reduceLT,Int.reduceLE,Int.reduceEq,Int.reduceToNat,Int.cast_ofNat_Int,↓reduceIte]
    rfl
theorem PicP.nat {w : Int} {xs : List Int} (h : PicP w xs) : ∃ (m : Nat) (P : List Nat), w = m ∧ xs = nL P ∧ 1 ≤ m ∧ m ≤ 5 ∧ 1 ≤ P.length ∧ P.length ≤ 5 ∧ ∀ x ∈ P, x < 2 ^ m := by
  obtain ⟨m, rfl, m1, m5⟩ := h.2.1.nat
  refine ⟨m, xs.map Int.toNat, rfl, ?_, m1, m5, by have := h.1.1; simp; omega, by have := h.1.2; simp; omega, fun x hx => ?_⟩
  · unfold nL
    rw [List.map_map]
    conv => lhs; rw [← List.map_id xs]
    apply List.map_congr_left
    intro x hx
    obtain ⟨_, y, _, e, _⟩ := (h.2.2 x hx).nat
    rw [e]; rfl
  · obtain ⟨y, hy, rfl⟩ := List.mem_map.1 hx
    obtain ⟨_, z, _, e, _, _, hz, _⟩ := (h.2.2 y hy).nat
    subst e
    rw [Int.toNat_natCast]
    have := (h.2.2 _ hy).2.2
    rw [Int.toNat_natCast] at this
    omega
end Go.Proofs.YtjjndoigkhabdaaDoor
namespace Go.Proofs.YtjjndoigkhabdaaDoor
open Go Go.AM Go.Proofs
theorem own_ret {p : Nat → Prop} {H : Heap} {u w : AV} {x y : List (List Int)} (hx : Sl p H u x) (hy : Sl p H w y) : Ret E 31 [.ag [u, w]] p H (x, y) := by
  refine Ret.ro rfl fn31 rfl ?_
  unfold f31A
  have c0 : (H ++ [Blk.cells [u, w]] ++ [Blk.cells [.nils, .nils]])[H.length]? = some (.cells [u, w]) := by simp [List.getElem?_append]
  have c1 : (H ++ [Blk.cells [u, w]] ++ [Blk.cells [.nils, .nils]])[H.length + 1]? = some (.cells [.nils, .nils]) := by simp [List.getElem?_append]
  have hx2 := (hx.low.app [Blk.cells [u, w]]).app [Blk.cells [.nils, .nils]]
  have hy2 := (hy.low.app [Blk.cells [u, w]]).app [Blk.cells [.nils, .nils]]
  have hu := hx.cellsV
  have hw := hy.cellsV
  have hst : st H.length (H ++ [Blk.cells [u, w]] ++ [Blk.cells [.nils, .nils]]) (H.length + 1) 0 [u, w] = some ((H ++ [Blk.cells [u, w]] ++ [Blk.cells [.nils, .nils]]).set (H.length + 1) (.cells [u, w])) := by rw [st_of c1 (by omega) (by simp)]; simp [wr]
  have g1 := get_set (k := .cells [u, w]) c1
  have e1 := (hx2.kp ((Kp.set (H.length + 1) _ (.cells [u, w])).weak fun b h => by omega)).weak (q := fun b => p b ∨ H.length ≤ b) fun b h => .inl h.1
  have e2 := (hy2.kp ((Kp.set (H.length + 1) _ (.cells [u, w])).weak fun b h => by omega)).weak (q := fun b => p b ∨ H.length ≤ b) fun b h => .inl h.1
  generalize (H ++ [Blk.cells [u, w]] ++ [Blk.cells [.nils, .nils]]).set (H.length + 1) (.cells [u, w]) = H3 at *
  simp (disch := (first | assumption | omega | (simp only [List.length_append, List.length_cons, List.length_nil]; omega))) only [↓wD,wU,Nat.reduceBEq,zx150,zx151,zx159,zx160,zx161,zx162,Nat.reduceAdd,Nat.reduceSub,Nat.reduceMul,Nat.reduceLeDiff,Nat.reduceLT,Nat.reduceEqDiff,Int.reduceAdd,Int.reduceSub,Int.reduceMul,Int.reduceNeg,Int.reduceLT,Int.reduceLE,Int.reduceEq,Int.reduceToNat,Int.cast_ofNat_Int,↓reduceIte, hu, hw, ld_of c0, hst, ldn_of g1]
  exact rv_pp e1 e2
theorem psame_ret {p q : Nat → Prop} {H : Heap} {u w u' w' : AV} {x y x' y' : List (List Int)} (hx : Sl p H u x) (hy : Sl p H w y) (hx' : Sl q H u' x') (hy' : Sl q H w' y') : RetP E 30 [.ag [u, w], .ag [u', w']] H (.b (decide (x = x' ∧ y = y'))) := by
  refine RetP.ro rfl fn30 rfl rfl ?_
  unfold f30A
  have c0 : (H ++ [Blk.cells [u, w]] ++ [Blk.cells [u', w']])[H.length]? = some (.cells [u, w]) := by simp [List.getElem?_append]
  have c1 : (H ++ [Blk.cells [u, w]] ++ [Blk.cells [u', w']])[H.length + 1]? = some (.cells [u', w']) := by simp [List.getElem?_append]
  have kx := (hx.app [Blk.cells [u, w]]).app [Blk.cells [u', w']]
  have ky := (hy.app [Blk.cells [u, w]]).app [Blk.cells [u', w']]
  have kx' := (hx'.app [Blk.cells [u, w]]).app [Blk.cells [u', w']]
  have ky' := (hy'.app [Blk.cells [u, w]]).app [Blk.cells [u', w']]
  have vu := hx.cellsV
  have vw := hy.cellsV
  have vu' := hx'.cellsV
  have vw' := hy'.cellsV
  have bx := hx.bound
  have bY := hy.bound
  clear hx hy hx' hy'
  have lx := kx.L
  have ly := ky.L
  have lx' := kx'.L
  have ly' := ky'.L
  by_cases h1 : x.length = x'.length
  case neg =>
    have d1 : decide (¬ (x.length : Int) = x'.length) = true := decide_eq_true (by omega)
    have e : decide (x = x' ∧ y = y') = false := decide_eq_false fun h => h1 (by rw [h.1])
    simp (disch := (first | assumption | omega | (simp only [List.length_append, List.length_cons, List.length_nil]; omega))) only [↓wD,wU,Nat.reduceBEq,zx150,zx151,zx159,zx160,zx161,zx162,Nat.reduceAdd,Nat.reduceSub,Nat.reduceMul,Nat.reduceLeDiff,Nat.reduceLT,Nat.reduceEqDiff,Int.reduceAdd,Int.reduceSub,Int.reduceMul,Int.reduceNeg,Int.reduceLT,Int.reduceLE,Int.reduceEq,Int.reduceToNat,Int.cast_ofNat_Int,↓reduceIte, vu, vw, vu', vw', ld_of c0, ld_of c1, lx, ly, lx', ly', d1, e]
  have d1 : decide (¬ (x.length : Int) = x'.length) = false := decide_eq_false (by omega)
  by_cases h2 : y.length = y'.length
  case neg =>
    have d2 : decide (¬ (y.length : Int) = y'.length) = true := decide_eq_true (by omega)
    have e : decide (x = x' ∧ y = y') = false := decide_eq_false fun h => h2 (by rw [h.2])
    simp (disch := (first | assumption | omega | (simp only [List.length_append, List.length_cons, List.length_nil]; omega))) only [↓wD,wU,Nat.reduceBEq,zx150,zx151,zx159,zx160,zx161,zx162,Nat.reduceAdd,Nat.reduceSub,Nat.reduceMul,Nat.reduceLeDiff,Nat.reduceLT,Nat.reduceEqDiff,Int.reduceAdd,Int.reduceSub,Int.reduceMul,Int.reduceNeg,Int.reduceLT,Int.reduceLE,Int.reduceEq,Int.reduceToNat,Int.cast_ofNat_Int,↓reduceIte, vu, vw, vu', vw', ld_of c0, ld_of c1, lx, ly, lx', ly', d1, d2, e]
  have d2 : decide (¬ (y.length : Int) = y'.length) = false := decide_eq_false (by omega)
  simp (disch := (first | assumption | omega | (simp only [List.length_append, List.length_cons, List.length_nil]; omega))) only [↓wD,wU,Nat.reduceBEq,zx150,zx151,zx159,zx160,zx161,zx162,Nat.reduceAdd,Nat.reduceSub,Nat.reduceMul,Nat.reduceLeDiff,Nat.reduceLT,Nat.reduceEqDiff,Int.reduceAdd,Int.reduceSub,Int.reduceMul,Int.reduceNeg,Int.reduceLT,Int.reduceLE,Int.reduceEq,Int.reduceToNat,Int.cast_ofNat_Int,↓reduceIte, vu, vw, vu', vw', ld_of c0, ld_of c1, lx, ly, lx', ly', d1, d2]
  generalize H ++ [Blk.cells [u, w]] ++ [Blk.cells [u', w']] = H2 at *
  refine Wp.for x.length (fun i a H' => H' = H2 ∧ a 2 = .p H.length 0 ∧ a 3 = .p (H.length + 1) 0 ∧ a 26 = u ∧ a 27 = .i x.length ∧ a 28 = .i i ∧ x.take i = x'.take i) ?_ ?_
  · rintro i a H' hi ⟨rfl, a2, a3, a26, a27, a28, hh⟩ ih
    simp (disch := (first | assumption | omega | (simp only [List.length_append, List.length_cons, List.length_nil]; omega))) only [↓wD,wU,Nat.reduceBEq,zx150,zx151,zx159,zx160,zx161,zx162,Nat.reduceAdd,Nat.reduceSub,Nat.reduceMul,Nat.reduceLeDiff,Nat.reduceLT,Nat.reduceEqDiff,Int.reduceAdd,Int.reduceSub,Int.reduceMul,Int.reduceNeg,Int.reduceLT,Int.reduceLE,Int.reduceEq,Int.reduceToNat,Int.cast_ofNat_Int,↓reduceIte, a2, a3, a26, a27, a28]
    refine condP_split (fun hlt => ?_) (fun hlt => ?_)
    · have hi' : i < x.length := by omega
      have g := kx.get (k := (i : Int)) (by omega) (by omega)
      have g' := kx'.get (k := (i : Int)) (by omega) (by omega)
      have sm := same_ret g g'
      by_cases he : gi x (i : Int) = gi x' (i : Int)
      · rw [decide_eq_true he] at sm
        have hh2 := take_eq_succ hh hi' (by omega) he
        simp (disch := (first | assumption | omega | (simp only [List.length_append, List.length_cons, List.length_nil]; omega))) only [↓wD,wU,Nat.reduceBEq,zx150,zx151,zx159,zx160,zx161,zx162,Nat.reduceAdd,Nat.reduceSub,Nat.reduceMul,Nat.reduceLeDiff,Nat.reduceLT,Nat.reduceEqDiff,Int.reduceAdd,Int.reduceSub,Int.reduceMul,Int.reduceNeg,Int.reduceLT,Int.reduceLE,Int.reduceEq,Int.reduceToNat,Int.cast_ofNat_Int,↓reduceIte, a2, a3, a26, a27, a28, lx, lx', ld_of c1, sm.call]
        refine (ih hi').go ⟨rfl, ?_⟩
        simp (disch := (first | assumption | omega | (simp only [List.length_append, List.length_cons, List.length_nil]; omega))) only [↓wD,wU,Nat.reduceBEq,zx150,zx151,zx159,zx160,zx161,zx162,Nat.reduceAdd,Nat.reduceSub,Nat.reduceMul,Nat.reduceLeDiff,Nat.reduceLT,Nat.reduceEqDiff,Int.reduceAdd,Int.reduceSub,Int.reduceMul,Int.reduceNeg,Int.reduceLT,Int.reduceLE,Int.reduceEq,Int.reduceToNat,Int.cast_ofNat_Int,↓reduceIte, a2, a3, a26, a27, a28]
        exact hh2
      · rw [decide_eq_false he] at sm
        have e : decide (x = x' ∧ y = y') = false := decide_eq_false fun h => he (by rw [h.1])
        simp (disch := (first | assumption | omega | (simp only [List.length_append, List.length_cons, List.length_nil]; omega))) only [↓wD,wU,Nat.reduceBEq,zx150,zx151,zx159,zx160,zx161,zx162,Nat.reduceAdd,Nat.reduceSub,Nat.reduceMul,Nat.reduceLeDiff,Nat.reduceLT,Nat.reduceEqDiff,Int.reduceAdd,Int.reduceSub,Int.reduceMul,Int.reduceNeg,Int.reduceLT,Int.reduceLE,Int.reduceEq,Int.reduceToNat,Int.cast_ofNat_Int,↓reduceIte, a2, a3, a26, a27, a28, lx, lx', ld_of c1, sm.call, e]
    · have ex := take_all hh h1 (by omega)
      clear ih hh
      simp (disch := (first | assumption | omega | (simp only [List.length_append, List.length_cons, List.length_nil]; omega))) only [↓wD,wU,Nat.reduceBEq,zx150,zx151,zx159,zx160,zx161,zx162,Nat.reduceAdd,Nat.reduceSub,Nat.reduceMul,Nat.reduceLeDiff,Nat.reduceLT,Nat.reduceEqDiff,Int.reduceAdd,Int.reduceSub,Int.reduceMul,Int.reduceNeg,Int.reduceLT,Int.reduceLE,Int.reduceEq,Int.reduceToNat,Int.cast_ofNat_Int,↓reduceIte, a2, a3, a26, a27, a28, ld_of c0, ly]
      refine Wp.for y.length (fun i a Hh => Hh = H' ∧ a 2 = .p H.length 0 ∧ a 3 = .p (H.length + 1) 0 ∧ a 43 = w ∧ a 44 = .i y.length ∧ a 45 = .i i ∧ y.take i = y'.take i) ?_ ?_
      · clear a2 a3 a26 a27 a28
        rintro i a Hh hi ⟨rfl, a2, a3, a43, a44, a45, hh⟩ ih
        simp (disch := (first | assumption | omega | (simp only [List.length_append, List.length_cons, List.length_nil]; omega))) only [↓wD,wU,Nat.reduceBEq,zx150,zx151,zx159,zx160,zx161,zx162,Nat.reduceAdd,Nat.reduceSub,Nat.reduceMul,Nat.reduceLeDiff,Nat.reduceLT,Nat.reduceEqDiff,Int.reduceAdd,Int.reduceSub,Int.reduceMul,Int.reduceNeg,Int.reduceLT,Int.reduceLE,Int.reduceEq,Int.reduceToNat,Int.cast_ofNat_Int,↓reduceIte, a2, a3, a43, a44, a45]
        refine condP_split (fun hlt => ?_) (fun hlt => ?_)
        · have hi' : i < y.length := by omega
          have g := ky.get (k := (i : Int)) (by omega) (by omega)
          have g' := ky'.get (k := (i : Int)) (by omega) (by omega)
          have sm := same_ret g g'
          by_cases he : gi y (i : Int) = gi y' (i : Int)
          · rw [decide_eq_true he] at sm
            have hh2 := take_eq_succ hh hi' (by omega) he
            simp (disch := (first | assumption | omega | (simp only [List.length_append, List.length_cons, List.length_nil]; omega))) only [↓wD,wU,Nat.reduceBEq,zx150,zx151,zx159,zx160,zx161,zx162,Nat.reduceAdd,Nat.reduceSub,Nat.reduceMul,Nat.reduceLeDiff,Nat.reduceLT,Nat.reduceEqDiff,Int.reduceAdd,Int.reduceSub,Int.reduceMul,Int.reduceNeg,Int.reduceLT,Int.reduceLE,Int.reduceEq,Int.reduceToNat,Int.cast_ofNat_Int,↓reduceIte, a2, a3, a43, a44, a45, ly, ly', ld_of c1, sm.call]
            refine (ih hi').go ⟨rfl, ?_⟩
            simp (disch := (first | assumption | omega | (simp only [List.length_append, List.length_cons, List.length_nil]; omega))) only [↓wD,wU,Nat.reduceBEq,zx150,zx151,zx159,zx160,zx161,zx162,Nat.reduceAdd,Nat.reduceSub,Nat.reduceMul,Nat.reduceLeDiff,Nat.reduceLT,Nat.reduceEqDiff,Int.reduceAdd,Int.reduceSub,Int.reduceMul,Int.reduceNeg,Int.reduceLT,Int.reduceLE,Int.reduceEq,Int.reduceToNat,Int.cast_ofNat_Int,↓reduceIte, a2, a3, a43, a44, a45]
            exact hh2
          · rw [decide_eq_false he] at sm
            have e : decide (x = x' ∧ y = y') = false := decide_eq_false fun h => he (by rw [h.2])
            simp (disch := (first | assumption | omega | (simp only [List.length_append, List.length_cons, List.length_nil]; omega))) only [↓wD,wU,Nat.reduceBEq,zx150,zx151,zx159,zx160,zx161,zx162,Nat.reduceAdd,Nat.reduceSub,Nat.reduceMul,Nat.reduceLeDiff,Nat.reduceLT,Nat.reduceEqDiff,Int.reduceAdd,Int.reduceSub,Int.reduceMul,Int.reduceNeg,Int.reduceLT,Int.reduceLE,Int.reduceEq,Int.reduceToNat,Int.cast_ofNat_Int,↓reduceIte, a2, a3, a43, a44, a45, ly, ly', ld_of c1, sm.call, e]
        · have e : decide (x = x' ∧ y = y') = true := decide_eq_true ⟨ex, take_all hh h2 (by omega)⟩
          simp (disch := (first | assumption | omega | (simp only [List.length_append, List.length_cons, List.length_nil]; omega))) only [↓wD,wU,Nat.reduceBEq,zx150,zx151,zx159,zx160,zx161,zx162,Nat.reduceAdd,Nat.reduceSub,Nat.reduceMul,Nat.reduceLeDiff,Nat.reduceLT,Nat.reduceEqDiff,Int.reduceAdd,Int.reduceSub,Int.reduceMul,Int.reduceNeg,Int.reduceLT,Int.reduceLE,Int.reduceEq,Int.reduceToNat,Int.cast_ofNat_Int,↓reduceIte, a2, a3, a43, a44, a45, e]
      · (simp (disch := (first | assumption | omega | (simp only [List.length_append, List.length_cons, List.length_nil]; omega))) only [↓wD,wU,Nat.reduceBEq,zx150,zx151,zx159,zx160,zx161,zx162,Nat.reduceAdd,Nat.reduceSub,Nat.reduceMul,Nat.reduceLeDiff,Nat.reduceLT,Nat.reduceEqDiff,Int.reduceAdd,Int.reduceSub,Int.reduceMul,Int.reduceNeg,Int.reduceLT,Int.reduceLE,Int.reduceEq,Int.reduceToNat,Int.cast_ofNat_Int,↓reduceIte, a2, a3, a26, a27, a28]) <;> simp
  · (simp (disch := (first | assumption | omega | (simp only [List.length_append, List.length_cons, List.length_nil]; omega))) only [↓wD,wU,Nat.reduceBEq,zx150,zx151,zx159,zx160,zx161,zx162,Nat.reduceAdd,Nat.reduceSub,Nat.reduceMul,Nat.reduceLeDiff,Nat.reduceLT,Nat.reduceEqDiff,Int.reduceAdd,Int.reduceSub,Int.reduceMul,Int.reduceNeg,Int.reduceLT,Int.reduceLE,Int.reduceEq,Int.reduceToNat,Int.cast_ofNat_Int,↓reduceIte]) <;> simp
end Go.Proofs.YtjjndoigkhabdaaDoor
namespace Go.Proofs.YtjjndoigkhabdaaDoor
open Go Go.AM Go.Proofs
def cutT (t : List (List Int)) : List (List Int) := (t.take 8).map fun r => r.take 8
theorem table_ret {p : Nat → Prop} {H : Heap} {v : AV} {t : List (List Int)} (ht : Sl p H v t) : Ret E 70 [v] (fun _ => False) H (cutT t) := by
  refine Ret.ro rfl fn70 rfl ?_
  unfold f70A
  have hb := ht.bound
  simp (disch := (first | assumption | omega | (simp only [List.length_append, List.length_cons, List.length_nil]; omega))) only [↓wD,wU,Nat.reduceBEq,zx150,zx151,zx159,zx160,zx161,zx162,Nat.reduceAdd,Nat.reduceSub,Nat.reduceMul,Nat.reduceLeDiff,Nat.reduceLT,Nat.reduceEqDiff,Int.reduceAdd,Int.reduceSub,Int.reduceMul,Int.reduceNeg,Int.reduceLT,Int.reduceLE,Int.reduceEq,Int.reduceToNat,Int.cast_ofNat_Int,↓reduceIte, ht.L]
  replace ht : Sl (fun b => b < H.length) H v t := ht.low.weak fun _ h => h.2
  refine Wp.for t.length (fun i a H' => ∃ u, a 6 = v ∧ a 7 = .i t.length ∧ a 8 = .i i ∧ a 3 = u ∧ Gr H H' ∧ Acc H.length (fun b => H.length ≤ b) H' u (((t.take i).take 8).map fun r => r.take 8)) ?_ ?_
  · rintro i a H1 hi ⟨u, h6, h7, h8, h3, hg, hu⟩ ih
    simp (disch := (first | assumption | omega | (simp only [List.length_append, List.length_cons, List.length_nil]; omega))) only [↓wD,wU,Nat.reduceBEq,zx150,zx151,zx159,zx160,zx161,zx162,Nat.reduceAdd,Nat.reduceSub,Nat.reduceMul,Nat.reduceLeDiff,Nat.reduceLT,Nat.reduceEqDiff,Int.reduceAdd,Int.reduceSub,Int.reduceMul,Int.reduceNeg,Int.reduceLT,Int.reduceLE,Int.reduceEq,Int.reduceToNat,Int.cast_ofNat_Int,↓reduceIte, h6, h7, h8, h3]
    refine condP_split (fun hlt => ?_) (fun hlt => ?_)
    · have hi' : i < t.length := by omega
      have ht1 := ht.gr hg
      have g := ht1.get (k := (i : Int)) (by omega) (by omega)
      by_cases h8' : i < 8
      · have hd : decide ((i : Int) < 8) = true := decide_eq_true (by omega)
        simp (disch := (first | assumption | omega | (simp only [List.length_append, List.length_cons, List.length_nil]; omega))) only [↓wD,wU,Nat.reduceBEq,zx150,zx151,zx159,zx160,zx161,zx162,Nat.reduceAdd,Nat.reduceSub,Nat.reduceMul,Nat.reduceLeDiff,Nat.reduceLT,Nat.reduceEqDiff,Int.reduceAdd,Int.reduceSub,Int.reduceMul,Int.reduceNeg,Int.reduceLT,Int.reduceLE,Int.reduceEq,Int.reduceToNat,Int.cast_ofNat_Int,↓reduceIte, h6, h7, h8, h3, ht1.L, hd]
        refine (list_ret g).toF fun y H2 hg2 hy => ?_
        have hl2 := hg2.1
        simp (disch := (first | assumption | omega | (simp only [List.length_append, List.length_cons, List.length_nil]; omega))) only [↓wD,wU,Nat.reduceBEq,zx150,zx151,zx159,zx160,zx161,zx162,Nat.reduceAdd,Nat.reduceSub,Nat.reduceMul,Nat.reduceLeDiff,Nat.reduceLT,Nat.reduceEqDiff,Int.reduceAdd,Int.reduceSub,Int.reduceMul,Int.reduceNeg,Int.reduceLT,Int.reduceLE,Int.reduceEq,Int.reduceToNat,Int.cast_ofNat_Int,↓reduceIte, hy.cellsV]
        refine (hu.gr hg2).pushL (Nat.le_refl _) (by have := hg.1; omega) hy (fun b hb => ⟨by have := hg.1; omega, fun e => by have := hu.blk_lt e; omega⟩) ?_ fun u' H3 hu' hk3 hl3' _ => ?_
        · simp; omega
        · simp (disch := (first | assumption | omega | (simp only [List.length_append, List.length_cons, List.length_nil]; omega))) only [↓wD,wU,Nat.reduceBEq,zx150,zx151,zx159,zx160,zx161,zx162,Nat.reduceAdd,Nat.reduceSub,Nat.reduceMul,Nat.reduceLeDiff,Nat.reduceLT,Nat.reduceEqDiff,Int.reduceAdd,Int.reduceSub,Int.reduceMul,Int.reduceNeg,Int.reduceLT,Int.reduceLE,Int.reduceEq,Int.reduceToNat,Int.cast_ofNat_Int,↓reduceIte, h6, h7, h8, h3]
          refine (ih hi').go ⟨u', ?_⟩
          simp (disch := (first | assumption | omega | (simp only [List.length_append, List.length_cons, List.length_nil]; omega))) only [↓wD,wU,Nat.reduceBEq,zx150,zx151,zx159,zx160,zx161,zx162,Nat.reduceAdd,Nat.reduceSub,Nat.reduceMul,Nat.reduceLeDiff,Nat.reduceLT,Nat.reduceEqDiff,Int.reduceAdd,Int.reduceSub,Int.reduceMul,Int.reduceNeg,Int.reduceLT,Int.reduceLE,Int.reduceEq,Int.reduceToNat,Int.cast_ofNat_Int,↓reduceIte, h6, h7, h8, h3]
          refine ⟨((hg.trans hg2).push (hu.gr hg2) (Nat.le_refl _) hk3), ?_⟩
          have e : ((t.take (i + 1)).take 8) = (t.take i).take 8 ++ [gi t i] := by
            rw [List.take_take, List.take_take, show min 8 (i + 1) = i + 1 by omega, show min 8 i = i by omega, take_gi hi']
          rw [e, List.map_append]; exact hu'
      · have hd : decide ((i : Int) < 8) = false := decide_eq_false (by omega)
        simp (disch := (first | assumption | omega | (simp only [List.length_append, List.length_cons, List.length_nil]; omega))) only [↓wD,wU,Nat.reduceBEq,zx150,zx151,zx159,zx160,zx161,zx162,Nat.reduceAdd,Nat.reduceSub,Nat.reduceMul,Nat.reduceLeDiff,Nat.reduceLT,Nat.reduceEqDiff,Int.reduceAdd,Int.reduceSub,Int.reduceMul,Int.reduceNeg,Int.reduceLT,Int.reduceLE,Int.reduceEq,Int.reduceToNat,Int.cast_ofNat_Int,↓reduceIte, h6, h7, h8, h3, ht1.L, hd]
        refine (ih hi').go ⟨u, ?_⟩
        simp (disch := (first | assumption | omega | (simp only [List.length_append, List.length_cons, List.length_nil]; omega))) only [↓wD,wU,Nat.reduceBEq,zx150,zx151,zx159,zx160,zx161,zx162,Nat.reduceAdd,Nat.reduceSub,Nat.reduceMul,Nat.reduceLeDiff,Nat.reduceLT,Nat.reduceEqDiff,Int.reduceAdd,Int.reduceSub,Int.reduceMul,Int.reduceNeg,Int.reduceLT,Int.reduceLE,Int.reduceEq,Int.reduceToNat,Int.cast_ofNat_Int,↓reduceIte, h6, h7, h8, h3]
        have e : ((t.take (i + 1)).take 8) = (t.take i).take 8 := by
          rw [List.take_take, List.take_take]; congr 1; omega
        rw [e]; exact ⟨hg, hu⟩
    · have e : i = t.length := by omega
      subst e
      simp (disch := (first | assumption | omega | (simp only [List.length_append, List.length_cons, List.length_nil]; omega))) only [↓wD,wU,Nat.reduceBEq,zx150,zx151,zx159,zx160,zx161,zx162,Nat.reduceAdd,Nat.reduceSub,Nat.reduceMul,Nat.reduceLeDiff,Nat.reduceLT,Nat.reduceEqDiff,Int.reduceAdd,Int.reduceSub,Int.reduceMul,Int.reduceNeg,Int.reduceLT,Int.reduceLE,Int.reduceEq,Int.reduceToNat,Int.cast_ofNat_Int,↓reduceIte, h6, h7, h8, h3]
      rw [List.take_length] at hu
      exact hu.sl.weak fun b h => .inr (by omega)
  · simp (disch := (first | assumption | omega | (simp only [List.length_append, List.length_cons, List.length_nil]; omega))) only [↓wD,wU,Nat.reduceBEq,zx150,zx151,zx159,zx160,zx161,zx162,Nat.reduceAdd,Nat.reduceSub,Nat.reduceMul,Nat.reduceLeDiff,Nat.reduceLT,Nat.reduceEqDiff,Int.reduceAdd,Int.reduceSub,Int.reduceMul,Int.reduceNeg,Int.reduceLT,Int.reduceLE,Int.reduceEq,Int.reduceToNat,Int.cast_ofNat_Int,↓reduceIte]
    exact ⟨.nils, rfl, Gr.refl _, Acc.nil⟩
theorem of_ret {p q : Nat → Prop} {H : Heap} {u w : AV} {x y : List (List Int)} (hx : Sl p H u x) (hy : Sl q H w y) : Ret E 37 [.ag [u, w]] (fun _ => False) H (cutT x, cutT y) := by
  refine Ret.ro rfl fn37 rfl ?_
  unfold f37A
  have vu := hx.cellsV
  have vw := hy.cellsV
  have c0 : (H ++ [Blk.cells [u, w]] ++ [Blk.cells [.nils, .nils]])[H.length]? = some (.cells [u, w]) := by simp [List.getElem?_append]
  have c1 : (H ++ [Blk.cells [u, w]] ++ [Blk.cells [.nils, .nils]])[H.length + 1]? = some (.cells [.nils, .nils]) := by simp [List.getElem?_append]
  have hx2 := (hx.app [Blk.cells [u, w]]).app [Blk.cells [.nils, .nils]]
  have hy2 := (hy.app [Blk.cells [u, w]]).app [Blk.cells [.nils, .nils]]
  have hn : (H ++ [Blk.cells [u, w]] ++ [Blk.cells [.nils, .nils]]).length = H.length + 2 := by simp
  simp (disch := (first | assumption | omega | (simp only [List.length_append, List.length_cons, List.length_nil]; omega))) only [↓wD,wU,Nat.reduceBEq,zx150,zx151,zx159,zx160,zx161,zx162,Nat.reduceAdd,Nat.reduceSub,Nat.reduceMul,Nat.reduceLeDiff,Nat.reduceLT,Nat.reduceEqDiff,Int.reduceAdd,Int.reduceSub,Int.reduceMul,Int.reduceNeg,Int.reduceLT,Int.reduceLE,Int.reduceEq,Int.reduceToNat,Int.cast_ofNat_Int,↓reduceIte, vu, vw, ld_of c0]
  generalize H ++ [Blk.cells [u, w]] ++ [Blk.cells [.nils, .nils]] = H2 at *
  refine (table_ret hx2).toFX fun r H3 x3 hr => ?_
  have c03 := x3.get trivial c0
  have c13 := x3.get trivial c1
  simp (disch := (first | assumption | omega | (simp only [List.length_append, List.length_cons, List.length_nil]; omega))) only [↓wD,wU,Nat.reduceBEq,zx150,zx151,zx159,zx160,zx161,zx162,Nat.reduceAdd,Nat.reduceSub,Nat.reduceMul,Nat.reduceLeDiff,Nat.reduceLT,Nat.reduceEqDiff,Int.reduceAdd,Int.reduceSub,Int.reduceMul,Int.reduceNeg,Int.reduceLT,Int.reduceLE,Int.reduceEq,Int.reduceToNat,Int.cast_ofNat_Int,↓reduceIte, ld_of c03]
  refine (table_ret (hy2.kp (x3.all _).kp)).toFX fun s H4 x4 hs => ?_
  have hl3 := x3.1
  have c14 := x4.get trivial c13
  have hr4 := hr.kp (x4.all _).kp
  have hst : st H.length H4 (H.length + 1) 0 [r, s] = some (H4.set (H.length + 1) (.cells [r, s])) := by rw [st_of c14 (by omega) (by simp)]; simp [wr]
  simp (disch := (first | assumption | omega | (simp only [List.length_append, List.length_cons, List.length_nil]; omega))) only [↓wD,wU,Nat.reduceBEq,zx150,zx151,zx159,zx160,zx161,zx162,Nat.reduceAdd,Nat.reduceSub,Nat.reduceMul,Nat.reduceLeDiff,Nat.reduceLT,Nat.reduceEqDiff,Int.reduceAdd,Int.reduceSub,Int.reduceMul,Int.reduceNeg,Int.reduceLT,Int.reduceLE,Int.reduceEq,Int.reduceToNat,Int.cast_ofNat_Int,↓reduceIte, hr.cellsV, hs.cellsV, hst, ldn_of (get_set c14)]
  refine rv_pp ?_ ?_
  · exact (hr4.kp ((Kp.set _ _ _).weak fun b h => by omega)).weak fun b h => .inr (by omega)
  · exact (hs.kp ((Kp.set _ _ _).weak fun b h => by omega)).weak fun b h => .inr (by omega)
/-! ### Valid -/
def PuzP (x y : List (List Int)) : Prop := SizeP x.length ∧ SizeP y.length ∧ (∀ c ∈ x, ClueP y.length c) ∧ ∀ c ∈ y, ClueP x.length c
instance (x y : List (List Int)) : Decidable (PuzP x y) := by unfold PuzP; infer_instance
theorem clue_len {n : Int} {c : List Int} (h : ClueP n c) : c.length ≤ 5 := by
  rcases Nat.lt_or_ge 5 c.length with q | q
  · have h1 := h.2
    unfold linesL at h1
    rw [linesTo_nil q] at h1
    simp at h1
  · exact q
theorem cutT_ok {x y : List (List Int)} (h : PuzP x y) : cutT x = x ∧ cutT y = y := by
  have go : ∀ {t : List (List Int)} {n : Int}, t.length ≤ 5 → (∀ c ∈ t, ClueP n c) → cutT t = t := fun {t n} hl hc => by
    unfold cutT
    rw [List.take_of_length_le (by omega)]
    conv => rhs; rw [← List.map_id t]
    apply List.map_congr_left
    intro r hr
    exact List.take_of_length_le (by have := clue_len (hc r hr); omega)
  exact ⟨go (by have := h.1.2; omega) h.2.2.1, go (by have := h.2.1.2; omega) h.2.2.2⟩
theorem cutT_len {t : List (List Int)} : (cutT t).length = min 8 t.length := by unfold cutT; simp
theorem PuzP_cut {x y : List (List Int)} : PuzP (cutT x) (cutT y) ↔ PuzP x y := by
  constructor
  · intro h
    have lx := h.1
    have ly := h.2.1
    rw [cutT_len] at lx ly
    have l1 := lx.1; have l2 := lx.2; have l3 := ly.1; have l4 := ly.2
    have ex : (cutT x).length = x.length := by rw [cutT_len]; omega
    have ey : (cutT y).length = y.length := by rw [cutT_len]; omega
    have go : ∀ {t : List (List Int)} {n : Int}, t.length ≤ 8 → (∀ c ∈ cutT t, ClueP n c) → ∀ c ∈ t, ClueP n c := fun {t n} hl hc c hm => by
      have : c.take 8 ∈ cutT t := by
        unfold cutT
        rw [List.take_of_length_le hl]
        exact List.mem_map_of_mem hm
      exact ClueP_cut.1 (hc _ this)
    refine ⟨by rw [← ex]; exact h.1, by rw [← ey]; exact h.2.1, ?_, ?_⟩
    · rw [← ey]; exact go (by omega) h.2.2.1
    · rw [← ex]; exact go (by omega) h.2.2.2
  · intro h
    obtain ⟨e1, e2⟩ := cutT_ok h
    rw [e1, e2]; exact h
theorem val1_ret {p : Nat → Prop} {H : Heap} {b : Nat} {n : Int} {u : AV} {c : List Int} (hb : H[b]? = some (.cells [.i n])) (hc : Sl p H u c) : RetP E 94 ([u] ++ [.p b 0]) H (.b (!decide (ClueP n c))) := by
  refine RetP.ro rfl fn94 rfl rfl ?_
  unfold f94A
  simp (disch := (first | assumption | omega | (simp only [List.length_append, List.length_cons, List.length_nil]; omega))) only [↓wD,wU,Nat.reduceBEq,zx150,zx151,zx159,zx160,zx161,zx162,Nat.reduceAdd,Nat.reduceSub,Nat.reduceMul,Nat.reduceLeDiff,Nat.reduceLT,Nat.reduceEqDiff,Int.reduceAdd,Int.reduceSub,Int.reduceMul,Int.reduceNeg,Int.reduceLT,Int.reduceLE,Int.reduceEq,Int.reduceToNat,Int.cast_ofNat_Int,↓reduceIte, ld_of hb, (isClue_ret hc).call]
theorem val2_ret {p : Nat → Prop} {H : Heap} {b : Nat} {n : Int} {u : AV} {c : List Int} (hb : H[b]? = some (.cells [.i n])) (hc : Sl p H u c) : RetP E 95 ([u] ++ [.p b 0]) H (.b (!decide (ClueP n c))) := by
  refine RetP.ro rfl fn95 rfl rfl ?_
  unfold f95A
  simp (disch := (first | assumption | omega | (simp only [List.length_append, List.length_cons, List.length_nil]; omega))) only [↓wD,wU,Nat.reduceBEq,zx150,zx151,zx159,zx160,zx161,zx162,Nat.reduceAdd,Nat.reduceSub,Nat.reduceMul,Nat.reduceLeDiff,Nat.reduceLT,Nat.reduceEqDiff,Int.reduceAdd,Int.reduceSub,Int.reduceMul,Int.reduceNeg,Int.reduceLT,Int.reduceLE,Int.reduceEq,Int.reduceToNat,Int.cast_ofNat_Int,↓reduceIte, ld_of hb, (isClue_ret hc).call]
theorem PuzP_dec {x y : List (List Int)} : decide (PuzP x y) = (decide (SizeP x.length) && (decide (SizeP y.length) && ((!x.any fun c => !decide (ClueP y.length c)) && (!y.any fun c => !decide (ClueP x.length c))))) := by
  have go : ∀ {t : List (List Int)} {n : Int}, (!t.any fun c => !decide (ClueP n c)) = true ↔ ∀ c ∈ t, ClueP n c := fun {t n} => by
    rw [Bool.not_eq_true', List.any_eq_false]
    constructor
    · intro h c hc; have := h c hc; simpa using this
    · intro h c hc; simp [h c hc]
  apply Bool.eq_iff_iff.2
  rw [Bool.and_eq_true, Bool.and_eq_true, Bool.and_eq_true, go, go]
  simp only [decide_eq_true_eq]
  exact Iff.rfl
theorem pvalid_ret {p q : Nat → Prop} {H : Heap} {u w : AV} {x y : List (List Int)} (hx : Sl p H u x) (hy : Sl q H w y) : RetP E 67 [.ag [u, w]] H (.b (decide (PuzP x y))) := by
  refine RetP.ro rfl fn67 rfl rfl ?_
  unfold f67A
  have vu := hx.cellsV
  have vw := hy.cellsV
  have lx := (hx.app [Blk.cells [u, w]]).L
  have ly := (hy.app [Blk.cells [u, w]]).L
  have c0 : (H ++ [Blk.cells [u, w]])[H.length]? = some (.cells [u, w]) := by simp
  rw [PuzP_dec]
  obtain ⟨H2, eH2⟩ : ∃ H2, H ++ [Blk.cells [u, w]] ++ [Blk.cells [.i (x.length : Int)]] ++ [Blk.cells [.i (y.length : Int)]] = H2 := ⟨_, rfl⟩
  have d0 : H2[H.length]? = some (.cells [u, w]) := by rw [← eH2]; simp [List.getElem?_append]
  have d1 : H2[H.length + 1]? = some (.cells [.i (x.length : Int)]) := by rw [← eH2]; simp [List.getElem?_append]
  have d2 : H2[H.length + 2]? = some (.cells [.i (y.length : Int)]) := by rw [← eH2]; simp [List.getElem?_append]
  have hx2 : Sl p H2 u x := by rw [← eH2]; exact ((hx.app _).app _).app _
  have hy2 : Sl q H2 w y := by rw [← eH2]; exact ((hy.app _).app _).app _
  have s1 : st H.length (H ++ [Blk.cells [u, w]] ++ [Blk.cells [.i 0]] ++ [Blk.cells [.i 0]]) (H.length + 1) 0 [.i (x.length : Int)] = some (H ++ [Blk.cells [u, w]] ++ [Blk.cells [.i (x.length : Int)]] ++ [Blk.cells [.i 0]]) := by
    rw [st_of (cs := [.i 0]) (by simp [List.getElem?_append]) (by omega) (by simp)]
    congr 1
    simp [wr, List.set_append]
  have s2 : st H.length (H ++ [Blk.cells [u, w]] ++ [Blk.cells [.i (x.length : Int)]] ++ [Blk.cells [.i 0]]) (H.length + 2) 0 [.i (y.length : Int)] = some H2 := by
    rw [st_of (cs := [.i 0]) (by simp [List.getElem?_append]) (by omega) (by simp), ← eH2]
    congr 1
    simp [wr, List.set_append]
  have z1 := isSize_ret (H := H2) (n := x.length)
  have z2 := isSize_ret (H := H2) (n := y.length)
  have h1 := hasL_ret (P := fun c => !decide (ClueP y.length c)) hx2 fun i hi => val1_ret (p := p) d2 (hx2.get (k := (i : Int)) (by omega) (by omega))
  have h2 := hasL_ret (P := fun c => !decide (ClueP x.length c)) hy2 fun i hi => val2_ret (p := q) d1 (hy2.get (k := (i : Int)) (by omega) (by omega))
  clear hx hy hx2 hy2
  generalize (x.any fun c => !decide (ClueP y.length c)) = b3 at *
  generalize (y.any fun c => !decide (ClueP x.length c)) = b4 at *
  generalize decide (SizeP x.length) = b1 at *
  generalize decide (SizeP y.length) = b2 at *
  simp (disch := (first | assumption | omega | (simp only [List.length_append, List.length_cons, List.length_nil]; omega))) only [↓wD,wU,Nat.reduceBEq,zx150,zx151,zx159,zx160,zx161,zx162,Nat.reduceAdd,Nat.reduceSub,Nat.reduceMul,Nat.reduceLeDiff,Nat.reduceLT,Nat.reduceEqDiff,Int.reduceAdd,Int.reduceSub,Int.reduceMul,Int.reduceNeg,Int.reduceLT,Int.reduceLE,Int.reduceEq,Int.reduceToNat,Int.cast_ofNat_Int,↓reduceIte, vu, vw]
  refine lpI (wpC ?_)
  simp (disch := (first | assumption | omega | (simp only [List.length_append, List.length_cons, List.length_nil]; omega))) only [↓wD,wU,Nat.reduceBEq,zx150,zx151,zx159,zx160,zx161,zx162,Nat.reduceAdd,Nat.reduceSub,Nat.reduceMul,Nat.reduceLeDiff,Nat.reduceLT,Nat.reduceEqDiff,Int.reduceAdd,Int.reduceSub,Int.reduceMul,Int.reduceNeg,Int.reduceLT,Int.reduceLE,Int.reduceEq,Int.reduceToNat,Int.cast_ofNat_Int,↓reduceIte, ld_of c0, lx, ly, s1, s2]
  refine chkI ?_ ?_
  · simp [chk1, ev, Fr.upd, sameO, ld, List.getElem?_append, AV.same_refl]
  · cases b1
    · simp (disch := (first | assumption | omega | (simp only [List.length_append, List.length_cons, List.length_nil]; omega))) only [↓wD,wU,Nat.reduceBEq,zx150,zx151,zx159,zx160,zx161,zx162,Nat.reduceAdd,Nat.reduceSub,Nat.reduceMul,Nat.reduceLeDiff,Nat.reduceLT,Nat.reduceEqDiff,Int.reduceAdd,Int.reduceSub,Int.reduceMul,Int.reduceNeg,Int.reduceLT,Int.reduceLE,Int.reduceEq,Int.reduceToNat,Int.cast_ofNat_Int,↓reduceIte, ld_of d1, z1.call]
    · cases b2
      · simp (disch := (first | assumption | omega | (simp only [List.length_append, List.length_cons, List.length_nil]; omega))) only [↓wD,wU,Nat.reduceBEq,zx150,zx151,zx159,zx160,zx161,zx162,Nat.reduceAdd,Nat.reduceSub,Nat.reduceMul,Nat.reduceLeDiff,Nat.reduceLT,Nat.reduceEqDiff,Int.reduceAdd,Int.reduceSub,Int.reduceMul,Int.reduceNeg,Int.reduceLT,Int.reduceLE,Int.reduceEq,Int.reduceToNat,Int.cast_ofNat_Int,↓reduceIte, ld_of d1, z1.call, ld_of d2, z2.call]
      · cases b3
        · simp (disch := (first | assumption | omega | (simp only [List.length_append, List.length_cons, List.length_nil]; omega))) only [↓wD,wU,Nat.reduceBEq,zx150,zx151,zx159,zx160,zx161,zx162,Nat.reduceAdd,Nat.reduceSub,Nat.reduceMul,Nat.reduceLeDiff,Nat.reduceLT,Nat.reduceEqDiff,Int.reduceAdd,Int.reduceSub,Int.reduceMul,Int.reduceNeg,Int.reduceLT,Int.reduceLE,Int.reduceEq,Int.reduceToNat,Int.cast_ofNat_Int,↓reduceIte, ld_of d1, z1.call, ld_of d2, z2.call, ld_of d0, h1.call, h2.call]
        · simp (disch := (first | assumption | omega | (simp only [List.length_append, List.length_cons, List.length_nil]; omega))) only [↓wD,wU,Nat.reduceBEq,zx150,zx151,zx159,zx160,zx161,zx162,Nat.reduceAdd,Nat.reduceSub,Nat.reduceMul,Nat.reduceLeDiff,Nat.reduceLT,Nat.reduceEqDiff,Int.reduceAdd,Int.reduceSub,Int.reduceMul,Int.reduceNeg,Int.reduceLT,Int.reduceLE,Int.reduceEq,Int.reduceToNat,Int.cast_ofNat_Int,↓reduceIte, ld_of d1, z1.call, ld_of d2, z2.call, ld_of d0, h1.call]
theorem rvalid_ret {p q : Nat → Prop} {H : Heap} {u w : AV} {x y : List (List Int)} (hx : Sl p H u x) (hy : Sl q H w y) : RetP E 38 [.ag [u, w]] H (.b (decide (PuzP x y))) := by
  refine RetP.ro rfl fn38 rfl rfl ?_
  unfold f38A
  have vu := hx.cellsV
  have vw := hy.cellsV
  have bx := hx.bound
  have bY := hy.bound
  have kx := hx.app [Blk.cells [u, w]]
  have ky := hy.app [Blk.cells [u, w]]
  have lx := kx.L
  have ly := ky.L
  have c0 : (H ++ [Blk.cells [u, w]])[H.length]? = some (.cells [u, w]) := by simp
  simp (disch := (first | assumption | omega | (simp only [List.length_append, List.length_cons, List.length_nil]; omega))) only [↓wD,wU,Nat.reduceBEq,zx150,zx151,zx159,zx160,zx161,zx162,Nat.reduceAdd,Nat.reduceSub,Nat.reduceMul,Nat.reduceLeDiff,Nat.reduceLT,Nat.reduceEqDiff,Int.reduceAdd,Int.reduceSub,Int.reduceMul,Int.reduceNeg,Int.reduceLT,Int.reduceLE,Int.reduceEq,Int.reduceToNat,Int.cast_ofNat_Int,↓reduceIte, vu, vw]
  generalize H ++ [Blk.cells [u, w]] = H2 at *
  have z1 := rsize_ret (H := H2) (n := x.length)
  have z2 := rsize_ret (H := H2) (n := y.length)
  by_cases h1 : SizeP x.length
  case neg =>
    rw [decide_eq_false h1] at z1
    have e : decide (PuzP x y) = false := decide_eq_false fun h => h1 h.1
    simp (disch := (first | assumption | omega | (simp only [List.length_append, List.length_cons, List.length_nil]; omega))) only [↓wD,wU,Nat.reduceBEq,zx150,zx151,zx159,zx160,zx161,zx162,Nat.reduceAdd,Nat.reduceSub,Nat.reduceMul,Nat.reduceLeDiff,Nat.reduceLT,Nat.reduceEqDiff,Int.reduceAdd,Int.reduceSub,Int.reduceMul,Int.reduceNeg,Int.reduceLT,Int.reduceLE,Int.reduceEq,Int.reduceToNat,Int.cast_ofNat_Int,↓reduceIte, vu, vw, ld_of c0, lx, ly, z1.call, e]
  rw [decide_eq_true h1] at z1
  by_cases h2 : SizeP y.length
  case neg =>
    rw [decide_eq_false h2] at z2
    have e : decide (PuzP x y) = false := decide_eq_false fun h => h2 h.2.1
    simp (disch := (first | assumption | omega | (simp only [List.length_append, List.length_cons, List.length_nil]; omega))) only [↓wD,wU,Nat.reduceBEq,zx150,zx151,zx159,zx160,zx161,zx162,Nat.reduceAdd,Nat.reduceSub,Nat.reduceMul,Nat.reduceLeDiff,Nat.reduceLT,Nat.reduceEqDiff,Int.reduceAdd,Int.reduceSub,Int.reduceMul,Int.reduceNeg,Int.reduceLT,Int.reduceLE,Int.reduceEq,Int.reduceToNat,Int.cast_ofNat_Int,↓reduceIte, vu, vw, ld_of c0, lx, ly, z1.call, z2.call, e]
  rw [decide_eq_true h2] at z2
  simp (disch := (first | assumption | omega | (simp only [List.length_append, List.length_cons, List.length_nil]; omega))) only [↓wD,wU,Nat.reduceBEq,zx150,zx151,zx159,zx160,zx161,zx162,Nat.reduceAdd,Nat.reduceSub,Nat.reduceMul,Nat.reduceLeDiff,Nat.reduceLT,Nat.reduceEqDiff,Int.reduceAdd,Int.reduceSub,Int.reduceMul,Int.reduceNeg,Int.reduceLT,Int.reduceLE,Int.reduceEq,Int.reduceToNat,Int.cast_ofNat_Int,↓reduceIte, vu, vw, ld_of c0, lx, ly, z1.call, z2.call]
  refine Wp.for x.length (fun i a H' => H' = H2 ∧ a 1 = .p H.length 0 ∧ a 20 = u ∧ a 21 = .i x.length ∧ a 22 = .i i ∧ ∀ c ∈ x.take i, ClueP y.length c) ?_ ?_
  · rintro i a H' hi ⟨rfl, a1, a20, a21, a22, hh⟩ ih
    simp (disch := (first | assumption | omega | (simp only [List.length_append, List.length_cons, List.length_nil]; omega))) only [↓wD,wU,Nat.reduceBEq,zx150,zx151,zx159,zx160,zx161,zx162,Nat.reduceAdd,Nat.reduceSub,Nat.reduceMul,Nat.reduceLeDiff,Nat.reduceLT,Nat.reduceEqDiff,Int.reduceAdd,Int.reduceSub,Int.reduceMul,Int.reduceNeg,Int.reduceLT,Int.reduceLE,Int.reduceEq,Int.reduceToNat,Int.cast_ofNat_Int,↓reduceIte, a1, a20, a21, a22]
    refine condP_split (fun hlt => ?_) (fun hlt => ?_)
    · have hi' : i < x.length := by omega
      have g := kx.get (k := (i : Int)) (by omega) (by omega)
      have rc := rclue_ret (n := y.length) g
      by_cases h : ClueP y.length (gi x (i : Int))
      · rw [decide_eq_true h] at rc
        have hh2 := mem_take_gi hh hi' h
        simp (disch := (first | assumption | omega | (simp only [List.length_append, List.length_cons, List.length_nil]; omega))) only [↓wD,wU,Nat.reduceBEq,zx150,zx151,zx159,zx160,zx161,zx162,Nat.reduceAdd,Nat.reduceSub,Nat.reduceMul,Nat.reduceLeDiff,Nat.reduceLT,Nat.reduceEqDiff,Int.reduceAdd,Int.reduceSub,Int.reduceMul,Int.reduceNeg,Int.reduceLT,Int.reduceLE,Int.reduceEq,Int.reduceToNat,Int.cast_ofNat_Int,↓reduceIte, a1, a20, a21, a22, lx, ld_of c0, ly, rc.call]
        refine (ih hi').go ⟨rfl, ?_⟩
        simp (disch := (first | assumption | omega | (simp only [List.length_append, List.length_cons, List.length_nil]; omega))) only [↓wD,wU,Nat.reduceBEq,zx150,zx151,zx159,zx160,zx161,zx162,Nat.reduceAdd,Nat.reduceSub,Nat.reduceMul,Nat.reduceLeDiff,Nat.reduceLT,Nat.reduceEqDiff,Int.reduceAdd,Int.reduceSub,Int.reduceMul,Int.reduceNeg,Int.reduceLT,Int.reduceLE,Int.reduceEq,Int.reduceToNat,Int.cast_ofNat_Int,↓reduceIte, a1, a20, a21, a22]
        exact hh2
      · rw [decide_eq_false h] at rc
        have e : decide (PuzP x y) = false := decide_eq_false fun q => h (q.2.2.1 _ (mem_gi hi'))
        simp (disch := (first | assumption | omega | (simp only [List.length_append, List.length_cons, List.length_nil]; omega))) only [↓wD,wU,Nat.reduceBEq,zx150,zx151,zx159,zx160,zx161,zx162,Nat.reduceAdd,Nat.reduceSub,Nat.reduceMul,Nat.reduceLeDiff,Nat.reduceLT,Nat.reduceEqDiff,Int.reduceAdd,Int.reduceSub,Int.reduceMul,Int.reduceNeg,Int.reduceLT,Int.reduceLE,Int.reduceEq,Int.reduceToNat,Int.cast_ofNat_Int,↓reduceIte, a1, a20, a21, a22, lx, ld_of c0, ly, rc.call, e]
    · have hall := mem_take_all hh (by omega)
      clear hh ih
      simp (disch := (first | assumption | omega | (simp only [List.length_append, List.length_cons, List.length_nil]; omega))) only [↓wD,wU,Nat.reduceBEq,zx150,zx151,zx159,zx160,zx161,zx162,Nat.reduceAdd,Nat.reduceSub,Nat.reduceMul,Nat.reduceLeDiff,Nat.reduceLT,Nat.reduceEqDiff,Int.reduceAdd,Int.reduceSub,Int.reduceMul,Int.reduceNeg,Int.reduceLT,Int.reduceLE,Int.reduceEq,Int.reduceToNat,Int.cast_ofNat_Int,↓reduceIte, a1, a20, a21, a22, ld_of c0, ly]
      refine Wp.for y.length (fun i a Hh => Hh = H' ∧ a 1 = .p H.length 0 ∧ a 34 = w ∧ a 35 = .i y.length ∧ a 36 = .i i ∧ ∀ c ∈ y.take i, ClueP x.length c) ?_ ?_
      · clear a1 a20 a21 a22
        rintro i a Hh hi ⟨rfl, a1, a34, a35, a36, hh⟩ ih
        simp (disch := (first | assumption | omega | (simp only [List.length_append, List.length_cons, List.length_nil]; omega))) only [↓wD,wU,Nat.reduceBEq,zx150,zx151,zx159,zx160,zx161,zx162,Nat.reduceAdd,Nat.reduceSub,Nat.reduceMul,Nat.reduceLeDiff,Nat.reduceLT,Nat.reduceEqDiff,Int.reduceAdd,Int.reduceSub,Int.reduceMul,Int.reduceNeg,Int.reduceLT,Int.reduceLE,Int.reduceEq,Int.reduceToNat,Int.cast_ofNat_Int,↓reduceIte, a1, a34, a35, a36]
        refine condP_split (fun hlt => ?_) (fun hlt => ?_)
        · have hi' : i < y.length := by omega
          have g := ky.get (k := (i : Int)) (by omega) (by omega)
          have rc := rclue_ret (n := x.length) g
          by_cases h : ClueP x.length (gi y (i : Int))
          · rw [decide_eq_true h] at rc
            have hh2 := mem_take_gi hh hi' h
            simp (disch := (first | assumption | omega | (simp only [List.length_append, List.length_cons, List.length_nil]; omega))) only [↓wD,wU,Nat.reduceBEq,zx150,zx151,zx159,zx160,zx161,zx162,Nat.reduceAdd,Nat.reduceSub,Nat.reduceMul,Nat.reduceLeDiff,Nat.reduceLT,Nat.reduceEqDiff,Int.reduceAdd,Int.reduceSub,Int.reduceMul,Int.reduceNeg,Int.reduceLT,Int.reduceLE,Int.reduceEq,Int.reduceToNat,Int.cast_ofNat_Int,↓reduceIte, a1, a34, a35, a36, lx, ld_of c0, ly, rc.call]
            refine (ih hi').go ⟨rfl, ?_⟩
            simp (disch := (first | assumption | omega | (simp only [List.length_append, List.length_cons, List.length_nil]; omega))) only [↓wD,wU,Nat.reduceBEq,zx150,zx151,zx159,zx160,zx161,zx162,Nat.reduceAdd,Nat.reduceSub,Nat.reduceMul,Nat.reduceLeDiff,Nat.reduceLT,Nat.reduceEqDiff,Int.reduceAdd,Int.reduceSub,Int.reduceMul,Int.reduceNeg,Int.reduceLT,Int.reduceLE,Int.reduceEq,Int.reduceToNat,Int.cast_ofNat_Int,↓reduceIte, a1, a34, a35, a36]
            exact hh2
          · rw [decide_eq_false h] at rc
            have e : decide (PuzP x y) = false := decide_eq_false fun q => h (q.2.2.2 _ (mem_gi hi'))
            simp (disch := (first | assumption | omega | (simp only [List.length_append, List.length_cons, List.length_nil]; omega))) only [↓wD,wU,Nat.reduceBEq,zx150,zx151,zx159,zx160,zx161,zx162,Nat.reduceAdd,Nat.reduceSub,Nat.reduceMul,Nat.reduceLeDiff,Nat.reduceLT,Nat.reduceEqDiff,Int.reduceAdd,Int.reduceSub,Int.reduceMul,Int.reduceNeg,Int.reduceLT,Int.reduceLE,Int.reduceEq,Int.reduceToNat,Int.cast_ofNat_Int,↓reduceIte, a1, a34, a35, a36, lx, ld_of c0, ly, rc.call, e]
        · have e : decide (PuzP x y) = true := decide_eq_true ⟨h1, h2, hall, mem_take_all hh (by omega)⟩
          simp (disch := (first | assumption | omega | (simp only [List.length_append, List.length_cons, List.length_nil]; omega))) only [↓wD,wU,Nat.reduceBEq,zx150,zx151,zx159,zx160,zx161,zx162,Nat.reduceAdd,Nat.reduceSub,Nat.reduceMul,Nat.reduceLeDiff,Nat.reduceLT,Nat.reduceEqDiff,Int.reduceAdd,Int.reduceSub,Int.reduceMul,Int.reduceNeg,Int.reduceLT,Int.reduceLE,Int.reduceEq,Int.reduceToNat,Int.cast_ofNat_Int,↓reduceIte, a1, a34, a35, a36, e]
      · (simp (disch := (first | assumption | omega | (simp only [List.length_append, List.length_cons, List.length_nil]; omega))) only [↓wD,wU,Nat.reduceBEq,zx150,zx151,zx159,zx160,zx161,zx162,Nat.reduceAdd,Nat.reduceSub,Nat.reduceMul,Nat.reduceLeDiff,Nat.reduceLT,Nat.reduceEqDiff,Int.reduceAdd,Int.reduceSub,Int.reduceMul,Int.reduceNeg,Int.reduceLT,Int.reduceLE,Int.reduceEq,Int.reduceToNat,Int.cast_ofNat_Int,↓reduceIte, a1, a20, a21, a22]) <;> simp
  · (simp (disch := (first | assumption | omega | (simp only [List.length_append, List.length_cons, List.length_nil]; omega))) only [↓wD,wU,Nat.reduceBEq,zx150,zx151,zx159,zx160,zx161,zx162,Nat.reduceAdd,Nat.reduceSub,Nat.reduceMul,Nat.reduceLeDiff,Nat.reduceLT,Nat.reduceEqDiff,Int.reduceAdd,Int.reduceSub,Int.reduceMul,Int.reduceNeg,Int.reduceLT,Int.reduceLE,Int.reduceEq,Int.reduceToNat,Int.cast_ofNat_Int,↓reduceIte]) <;> simp
end Go.Proofs.YtjjndoigkhabdaaDoor
namespace Go.Proofs.YtjjndoigkhabdaaDoor
open Go Go.AM Go.Proofs
/-- whether column c can still be filled -/
def possC (h : Nat) (cl : List Int) (P : List Nat) (c : Nat) : Bool := (setS h cl (colN P c) (andN (2 ^ P.length - 1) (colN P c))).2.2
def possB (h : Nat) (y : List (List Int)) (P : List Nat) : Bool := (List.range y.length).all fun c => possC h (gi y (c : Int)) P c
theorem possB_false {h : Nat} {y : List (List Int)} {P : List Nat} {c : Nat} (hc : c < y.length) (hf : possC h (gi y (c : Int)) P c = false) : possB h y P = false := by
  unfold possB
  rw [List.all_eq_false]
  exact ⟨c, List.mem_range.2 hc, by simp [hf]⟩
theorem possB_true {h : Nat} {y : List (List Int)} {P : List Nat} (ht : ∀ c, c < y.length → possC h (gi y (c : Int)) P c = true) : possB h y P = true := by
  unfold possB
  rw [List.all_eq_true]
  exact fun c hc => ht c (List.mem_range.1 hc)
theorem colN_lt (P : List Nat) (c : Nat) : colN P c < 2 ^ P.length := colT_lt P c P.length
theorem possible_ret {p q r : Nat → Prop} {H : Heap} {u w v : AV} {x y : List (List Int)} {P : List Nat} (hx : Sl p H u x) (hy : Sl q H w y) (hP : Sl r H v (nL P)) (lx : x.length ≤ 5) (ly : y.length ≤ 5) (lP : P.length ≤ 5) (h32 : ∀ z ∈ P, z < 32) :
    RetP E 102 [.ag [u, w], v] H (.b (possB x.length y P)) := by
  refine RetP.ro rfl fn102 rfl rfl ?_
  unfold f102A
  have vu := hx.cellsV
  have vw := hy.cellsV
  have c0 : (H ++ [Blk.cells [u, w]])[H.length]? = some (.cells [u, w]) := by simp
  have kx := hx.app [Blk.cells [u, w]]
  have ky := hy.app [Blk.cells [u, w]]
  have kP := hP.app [Blk.cells [u, w]]
  have lxL := kx.L
  have lyL := ky.L
  have p5 := pow5 lP
  have hn2 : (H ++ [Blk.cells [u, w]]).length = H.length + 1 := by simp
  simp (disch := (first | assumption | omega | (simp only [List.length_append, List.length_cons, List.length_nil]; omega))) only [↓wD,wU,Nat.reduceBEq,zx150,zx151,zx159,zx160,zx161,zx162,Nat.reduceAdd,Nat.reduceSub,Nat.reduceMul,Nat.reduceLeDiff,Nat.reduceLT,Nat.reduceEqDiff,Int.reduceAdd,Int.reduceSub,Int.reduceMul,Int.reduceNeg,Int.reduceLT,Int.reduceLE,Int.reduceEq,Int.reduceToNat,Int.cast_ofNat_Int,↓reduceIte, vu, vw, lxL, lyL]
  generalize H ++ [Blk.cells [u, w]] = H2 at *
  refine Wp.for y.length (fun i a H' => a 1 = v ∧ a 5 = .i x.length ∧ a 15 = w ∧ a 16 = .i y.length ∧ a 17 = .i i ∧ Kx (fun _ => True) H2 H' ∧ ∀ c, c < i → possC x.length (gi y (c : Int)) P c = true) ?_ ?_
  · rintro i a H3 hi ⟨a1, a5, a15, a16, a17, hk, hh⟩ ih
    have hl3 := hk.1
    simp (disch := (first | assumption | omega | (simp only [List.length_append, List.length_cons, List.length_nil]; omega))) only [↓wD,wU,Nat.reduceBEq,zx150,zx151,zx159,zx160,zx161,zx162,Nat.reduceAdd,Nat.reduceSub,Nat.reduceMul,Nat.reduceLeDiff,Nat.reduceLT,Nat.reduceEqDiff,Int.reduceAdd,Int.reduceSub,Int.reduceMul,Int.reduceNeg,Int.reduceLT,Int.reduceLE,Int.reduceEq,Int.reduceToNat,Int.cast_ofNat_Int,↓reduceIte, a1, a5, a15, a16, a17]
    refine condP_split (fun hlt => ?_) (fun hlt => ?_)
    · have hi' : i < y.length := by omega
      have ky3 := ky.kp (hk.all _).kp
      have kP3 := kP.kp (hk.all _).kp
      have g := ky3.get (k := (i : Int)) (by omega) (by omega)
      have cr := column_ret (c := i) kP3 (by omega) (by omega) fun z hz => by have := h32 z hz; omega
      have clt := colN_lt P i
      have hpc : possC x.length (gi y (i : Int)) P i = (setS x.length (gi y (i : Int)) (colN P i) (andN (2 ^ P.length - 1) (colN P i))).2.2 := rfl
      obtain ⟨C, eC⟩ : ∃ C, colN P i = C := ⟨_, rfl⟩
      rw [eC] at cr clt hpc
      obtain ⟨M, eM⟩ : ∃ M, 2 ^ P.length = M := ⟨_, rfl⟩
      have sh := b_shl1 (n := P.length) (by omega)
      rw [eM] at p5 clt hpc sh
      obtain ⟨A, eA⟩ : ∃ A, M - 1 = A := ⟨_, rfl⟩
      have hA : (M : Int) - 1 = (A : Nat) := by omega
      rw [eA] at hpc
      have an := b_andNot (a := A) (b := C) (by omega) (by omega)
      have anl := andN_le (a := A) (b := C)
      obtain ⟨D, eD⟩ : ∃ D, andN A C = D := ⟨_, rfl⟩
      rw [eD] at an anl hpc
      have s1 : st H.length (H3 ++ [Blk.cells [.i 0, .i 0]]) H3.length 0 [.i (C : Int), .i 0] = some (H3 ++ [Blk.cells [.i (C : Int), .i 0]]) := by
        rw [st_of get_last (by omega) (by simp)]
        congr 1
        simp [wr]
      have s2 : st H.length (H3 ++ [Blk.cells [.i (C : Int), .i 0]]) H3.length 1 [.i (D : Int)] = some (H3 ++ [Blk.cells [.i (C : Int), .i (D : Int)]]) := by
        rw [st_of get_last (by omega) (by simp)]
        congr 1
        simp [wr]
      have hPI := (kP3.app [Blk.cells [.i (C : Int), .i 0]]).I
      rw [nL_len] at hPI
      have g4 := g.app [Blk.cells [.i (C : Int), .i (D : Int)]]
      have sr := settle_ret (f := C) (e := D) g4 lx (by omega) (by omega)
      obtain ⟨⟨t1, t2, t3⟩, et⟩ : ∃ t, setS x.length (gi y (i : Int)) C D = t := ⟨_, rfl⟩
      rw [et] at sr hpc
      simp only at sr hpc
      have s3 : st H.length (H3 ++ [Blk.cells [.i (C : Int), .i (D : Int)]] ++ [Blk.cells [.i 0, .i 0]]) (H3.length + 1) 0 [.i (t1 : Int), .i (t2 : Int)] = some (H3 ++ [Blk.cells [.i (C : Int), .i (D : Int)]] ++ [Blk.cells [.i (t1 : Int), .i (t2 : Int)]]) := by
        rw [st_of (cs := [.i 0, .i 0]) (by simp [List.getElem?_append]) (by omega) (by simp)]
        congr 1
        simp [wr, List.set_append]
      cases t3
      · have hb := possB_false hi' hpc
        simp (disch := (first | assumption | omega | (simp only [List.length_append, List.length_cons, List.length_nil]; omega))) only [↓wD,wU,Nat.reduceBEq,zx150,zx151,zx159,zx160,zx161,zx162,Nat.reduceAdd,Nat.reduceSub,Nat.reduceMul,Nat.reduceLeDiff,Nat.reduceLT,Nat.reduceEqDiff,Int.reduceAdd,Int.reduceSub,Int.reduceMul,Int.reduceNeg,Int.reduceLT,Int.reduceLE,Int.reduceEq,Int.reduceToNat,Int.cast_ofNat_Int,↓reduceIte, a1, a5, a15, a16, a17, ky3.L, cr.call, s1, hPI, sh, hA, an, s2, sr.call, s3, hb]
      · simp (disch := (first | assumption | omega | (simp only [List.length_append, List.length_cons, List.length_nil]; omega))) only [↓wD,wU,Nat.reduceBEq,zx150,zx151,zx159,zx160,zx161,zx162,Nat.reduceAdd,Nat.reduceSub,Nat.reduceMul,Nat.reduceLeDiff,Nat.reduceLT,Nat.reduceEqDiff,Int.reduceAdd,Int.reduceSub,Int.reduceMul,Int.reduceNeg,Int.reduceLT,Int.reduceLE,Int.reduceEq,Int.reduceToNat,Int.cast_ofNat_Int,↓reduceIte, a1, a5, a15, a16, a17, ky3.L, cr.call, s1, hPI, sh, hA, an, s2, sr.call, s3]
        refine (ih hi').go ?_
        simp (disch := (first | assumption | omega | (simp only [List.length_append, List.length_cons, List.length_nil]; omega))) only [↓wD,wU,Nat.reduceBEq,zx150,zx151,zx159,zx160,zx161,zx162,Nat.reduceAdd,Nat.reduceSub,Nat.reduceMul,Nat.reduceLeDiff,Nat.reduceLT,Nat.reduceEqDiff,Int.reduceAdd,Int.reduceSub,Int.reduceMul,Int.reduceNeg,Int.reduceLT,Int.reduceLE,Int.reduceEq,Int.reduceToNat,Int.cast_ofNat_Int,↓reduceIte, a1, a5, a15, a16, a17]
        refine ⟨(hk.app' _).app' _, fun c hc => ?_⟩
        by_cases e : c = i
        · subst e; exact hpc
        · exact hh c (by omega)
    · obtain rfl : i = y.length := by omega
      have hb := possB_true hh
      simp (disch := (first | assumption | omega | (simp only [List.length_append, List.length_cons, List.length_nil]; omega))) only [↓wD,wU,Nat.reduceBEq,zx150,zx151,zx159,zx160,zx161,zx162,Nat.reduceAdd,Nat.reduceSub,Nat.reduceMul,Nat.reduceLeDiff,Nat.reduceLT,Nat.reduceEqDiff,Int.reduceAdd,Int.reduceSub,Int.reduceMul,Int.reduceNeg,Int.reduceLT,Int.reduceLE,Int.reduceEq,Int.reduceToNat,Int.cast_ofNat_Int,↓reduceIte, a1, a5, a15, a16, a17, hb]
  · (simp (disch := (first | assumption | omega | (simp only [List.length_append, List.length_cons, List.length_nil]; omega))) only [↓wD,wU,Nat.reduceBEq,zx150,zx151,zx159,zx160,zx161,zx162,Nat.reduceAdd,Nat.reduceSub,Nat.reduceMul,Nat.reduceLeDiff,Nat.reduceLT,Nat.reduceEqDiff,Int.reduceAdd,Int.reduceSub,Int.reduceMul,Int.reduceNeg,Int.reduceLT,Int.reduceLE,Int.reduceEq,Int.reduceToNat,Int.cast_ofNat_Int,↓reduceIte]) <;> simp [Kx.refl]
/-! ### Solutions, plain -/
/-- whether all columns have their blocks -/
def okC (y : List (List Int)) (P : List Nat) : Bool := (List.range y.length).all fun c => decide (blkL (colN P c) = gi y (c : Int))
/-- the reference's: all solutions that begin with some rows -/
def solR (y : List (List Int)) : List (List Int) → List Nat → List (List Nat)
  | [], P => if okC y P then [P] else []
  | cl :: rest, P => (linesN y.length cl).flatMap fun l => solR y rest (P ++ [l])
/-- the program's -/
def solP (h : Nat) (y : List (List Int)) : List (List Int) → List Nat → List (List Nat)
  | [], P => [P]
  | cl :: rest, P => (linesN y.length cl).flatMap fun l => if possB h y (P ++ [l]) then solP h y rest (P ++ [l]) else []
theorem colT_bit (P : List Nat) (c : Nat) : ∀ i r, (colT P c i).testBit r = (decide (r < i) && (gi P (r : Int)).testBit c)
  | 0, r => by simp [colT]
  | i + 1, r => by
    unfold colT
    rw [Nat.testBit_or, colT_bit P c i r, Nat.testBit_shiftLeft]
    have hb : (gi P (i : Int) >>> c) % 2 = if (gi P (i : Int)).testBit c then 1 else 0 := by
      rw [Nat.testBit, Nat.and_comm, Nat.and_one_is_mod]
      have : (gi P (i : Int) >>> c) % 2 < 2 := Nat.mod_lt _ (by omega)
      rcases Nat.lt_or_ge ((gi P (i : Int) >>> c) % 2) 1 with q | q
      · have : (gi P (i : Int) >>> c) % 2 = 0 := by omega
        simp [this]
      · have : (gi P (i : Int) >>> c) % 2 = 1 := by omega
        simp [this]
    rw [hb]
    by_cases e : r = i
    · subst e
      rw [Nat.sub_self]
      cases q : (gi P (r : Int)).testBit c <;> simp
    · by_cases h : r < i
      · simp [h, show r < i + 1 by omega, show ¬ r ≥ i by omega]
      · have h2 : ¬ r < i + 1 := by omega
        have h3 : r - i ≠ 0 := by omega
        cases q : (gi P (i : Int)).testBit c
        · simp [h, h2]
        · obtain ⟨m, hm⟩ : ∃ m, r - i = m + 1 := ⟨r - i - 1, by omega⟩
          simp [h, h2, hm, Nat.testBit_succ]
theorem colN_bit (P : List Nat) (c r : Nat) : (colN P c).testBit r = (decide (r < P.length) && (gi P (r : Int)).testBit c) := colT_bit P c P.length r
theorem gi_append {α : Type} [Inhabited α] {xs ys : List α} {i : Nat} (h : i < xs.length) : gi (xs ++ ys) (i : Int) = gi xs (i : Int) := by
  rw [gi_nat (by simp; omega), gi_nat h, List.getElem_append_left h]
/-- a solution's beginning can be one's -/
theorem poss_of {h : Nat} {y : List (List Int)} {P Q : List Nat} (hh : h ≤ 5) (hl : (P ++ Q).length = h) (hok : okC y (P ++ Q) = true) : possB h y P = true := by
  apply possB_true
  intro c hc
  have h1 := List.all_eq_true.1 hok c (List.mem_range.2 hc)
  have h1 : blkL (colN (P ++ Q) c) = gi y (c : Int) := by simpa using h1
  have p5 := pow5 hh
  have lt := colN_lt (P ++ Q) c
  rw [hl] at lt
  have lP : P.length ≤ h := by rw [List.length_append] at hl; omega
  have pP : 2 ^ P.length ≤ 2 ^ h := Nat.pow_le_pow_right (by omega) lP
  have ltP := colN_lt P c
  unfold possC
  rw [setS_ok, List.any_eq_true]
  refine ⟨colN (P ++ Q) c, List.mem_filter.2 ⟨List.mem_range.2 lt, by simpa using h1⟩, ?_⟩
  rw [agN_iff]
  intro r
  rw [colN_bit, colN_bit, andN_bit (by omega) (by omega), all_bit, colN_bit]
  by_cases hr : r < P.length
  · rw [gi_append hr]
    have : r < P.length + Q.length := by omega
    cases (gi P (r : Int)).testBit c <;> simp [hr, this]
  · simp [hr]
theorem ok_of {h : Nat} {y : List (List Int)} {P : List Nat} (hh : h ≤ 5) (hl : P.length = h) (hp : possB h y P = true) : okC y P = true := by
  unfold okC
  rw [List.all_eq_true]
  intro c hc
  have h1 := List.all_eq_true.1 hp c hc
  unfold possC at h1
  have p5 := pow5 hh
  have lt := colN_lt P c
  rw [hl] at h1 lt
  rw [setS_ok, List.any_eq_true] at h1
  obtain ⟨z, hz, ha⟩ := h1
  have hzl := linesN_lt hz
  have hzb : blkL z = gi y (c : Int) := by simpa using (List.mem_filter.1 hz).2
  have : z = colN P c := by
    rw [agN_iff] at ha
    apply Nat.eq_of_testBit_eq
    intro r
    have hr := ha r
    rw [andN_bit (by omega) (by omega), all_bit] at hr
    cases q : (colN P c).testBit r
    · by_cases hrh : r < h
      · exact hr.2 (by simp [q, hrh])
      · cases q2 : z.testBit r
        · rfl
        · exact absurd (lt_bit hzl q2) hrh
    · exact hr.1 q
  rw [← this, hzb]
  simp
theorem solR_begin {y : List (List Int)} : ∀ {rest : List (List Int)} {P S : List Nat}, S ∈ solR y rest P → ∃ Q, S = P ++ Q ∧ Q.length = rest.length ∧ okC y S = true
  | [], P, S, h => by
    unfold solR at h
    split at h
    · rename_i hc
      simp at h
      subst h
      exact ⟨[], by simp, rfl, hc⟩
    · simp at h
  | cl :: rest, P, S, h => by
    unfold solR at h
    rw [List.mem_flatMap] at h
    obtain ⟨l, _, h⟩ := h
    obtain ⟨Q, e, hl, hok⟩ := solR_begin h
    exact ⟨l :: Q, by rw [e]; simp, by simp [hl], hok⟩
theorem flatMap_congr' {α β : Type} {f g : α → List β} : ∀ {l : List α}, (∀ x ∈ l, f x = g x) → l.flatMap f = l.flatMap g
  | [], _ => rfl
  | x :: l, h => by rw [List.flatMap_cons, List.flatMap_cons, h x (by simp), flatMap_congr' fun y hy => h y (by simp [hy])]
theorem sol_eq {h : Nat} {y : List (List Int)} (hh : h ≤ 5) : ∀ {rest : List (List Int)} {P : List Nat}, P.length + rest.length = h → rest ≠ [] → solP h y rest P = solR y rest P
  | [], P, _, hne => absurd rfl hne
  | cl :: rest, P, hl, _ => by
    unfold solP solR
    apply flatMap_congr'
    intro l hll
    have hl2 : (P ++ [l]).length + rest.length = h := by simp at hl ⊢; omega
    cases hp : possB h y (P ++ [l])
    · simp only [Bool.false_eq_true, if_false]
      symm
      rw [List.eq_nil_iff_forall_not_mem]
      intro S hS
      obtain ⟨Q, e, hlq, hok⟩ := solR_begin hS
      rw [e] at hok
      have := poss_of hh (by rw [List.length_append]; omega) hok
      rw [hp] at this
      cases this
    · simp only [if_true]
      cases rest with
      | nil =>
        have hok := ok_of hh (by simpa using hl2) hp
        unfold solP solR
        rw [if_pos hok]
      | cons c r => exact sol_eq hh hl2 (by simp)
end Go.Proofs.YtjjndoigkhabdaaDoor
namespace Go.Proofs.YtjjndoigkhabdaaDoor
open Go Go.AM Go.Proofs
/-- what grow reads: its variables -/
structure SVars (K : Nat → Prop) (H : Heap) (y u w : AV) (bp bY bg : Nat) : Prop where
  p : H[bp]? = some (.cells [u, w]) ∧ ¬ K bp
  y : H[bY]? = some (.cells [y]) ∧ ¬ K bY
  g : H[bg]? = some (.cells [.fn 101 [] [.p bp 0, .p bY 0, .p bg 0]]) ∧ ¬ K bg
theorem SVars.mono {K K' : Nat → Prop} {H H' : Heap} {y u w : AV} {bp bY bg : Nat} (h : SVars K H y u w bp bY bg) (hk : Kx (fun b => ¬ K b) H H') (hK : ∀ b, b < H.length → K' b → K b) : SVars K' H' y u w bp bY bg :=
  ⟨⟨hk.get h.p.2 h.p.1, fun q => h.p.2 (hK _ (List.getElem?_eq_some_iff.1 h.p.1).1 q)⟩, ⟨hk.get h.y.2 h.y.1, fun q => h.y.2 (hK _ (List.getElem?_eq_some_iff.1 h.y.1).1 q)⟩, ⟨hk.get h.g.2 h.g.1, fun q => h.g.2 (hK _ (List.getElem?_eq_some_iff.1 h.g.1).1 q)⟩⟩
/-- the items behind P, from the i-th line on -/
def restS (h : Nat) (y : List (List Int)) (cl : List Int) (rest : List (List Int)) (P : List Nat) (i : Nat) : List (List Nat) := ((linesN y.length cl).drop i).flatMap fun l => if possB h y (P ++ [l]) then solP h y rest (P ++ [l]) else []
theorem restS_0 {h : Nat} {y : List (List Int)} {cl : List Int} {rest : List (List Int)} {P : List Nat} : restS h y cl rest P 0 = solP h y (cl :: rest) P := rfl
theorem restS_s {h : Nat} {y : List (List Int)} {cl : List Int} {rest : List (List Int)} {P : List Nat} {i : Nat} (hi : i < (linesN y.length cl).length) : restS h y cl rest P i = (if possB h y (P ++ [gi (linesN y.length cl) (i : Int)]) then solP h y rest (P ++ [gi (linesN y.length cl) (i : Int)]) else []) ++ restS h y cl rest P (i + 1) := by
  unfold restS
  rw [List.drop_eq_getElem_cons hi, List.flatMap_cons, gi_nat hi]
theorem restS_n {h : Nat} {y : List (List Int)} {cl : List Int} {rest : List (List Int)} {P : List Nat} {i : Nat} (hi : (linesN y.length cl).length ≤ i) : restS h y cl rest P i = [] := by
  unfold restS
  rw [List.drop_of_length_le hi]; rfl
theorem nL_app (P : List Nat) (l : Nat) : nL (P ++ [l]) = nL P ++ [(l : Int)] := by simp [nL]
theorem sgrow_ok {lo B : Nat} {y u w : AV} {xs ys : List (List Int)} {bp bY bg : Nat} (hlo : lo ≤ B) (hP : PuzP xs ys) :
    ∀ (rest : List (List Int)) (P : List Nat) (v : AV) (K : Nat → Prop) (H : Heap) (Q : Bool → (Nat → Prop) → Heap → Prop), (∃ pre, xs = pre ++ rest ∧ pre.length = P.length) → (∀ z ∈ P, z < 32) → SVars K H y u w bp bY bg → Sl (fun b => ¬ K b) H u xs → Sl (fun b => ¬ K b) H w ys → Sl (fun b => B ≤ b ∧ ¬ K b) H v (nL P) → (∀ b, K b → b < H.length) → B ≤ H.length →
      Its E lo y B ArgI Q ((solP xs.length ys rest P).map nL) K H →
      WpF E lo 101 [v, .p bp 0, .p bY 0, .p bg 0] H fun r H' => ∃ ok K', r = .b ok ∧ Q ok K' H' ∧ Kx (fun b => ¬ K b ∧ v.blk ≠ some b) H H' ∧ ∀ b, K' b → b < H'.length ∧ (b < H.length → K b ∨ v.blk = some b) := by
  have lx5 := hP.1.2
  have ly5 := hP.2.1.2
  intro rest
  induction rest with
  | nil =>
    intro P v K H Q hpre h32 hv hx hy hs hK hB hI
    obtain ⟨pre, e1, e2⟩ := hpre
    refine WpF.wrt rfl fn101 rfl ?_
    unfold f101A
    have e : P.length = xs.length := by rw [e1, List.append_nil, e2]
    have hI1 := hs.I
    rw [nL_len, e] at hI1
    simp (disch := (first | assumption | omega | (simp only [List.length_append, List.length_cons, List.length_nil]; omega))) only [↓wD,wU,Nat.reduceBEq,zx150,zx151,zx159,zx160,zx161,zx162,Nat.reduceAdd,Nat.reduceSub,Nat.reduceMul,Nat.reduceLeDiff,Nat.reduceLT,Nat.reduceEqDiff,Int.reduceAdd,Int.reduceSub,Int.reduceMul,Int.reduceNeg,Int.reduceLT,Int.reduceLE,Int.reduceEq,Int.reduceToNat,Int.cast_ofNat_Int,↓reduceIte, hI1, ld_of hv.p.1, hx.L, ld_of hv.y.1]
    refine callvI ((hI H (fun b => v.blk = some b) [v] (Kx.refl _ _) ⟨v, rfl, hs.own⟩ ?_).mono ?_)
    · exact fun b e => ⟨(hs.blkp e).1.1, (hs.blkp e).2, (hs.blkp e).1.2⟩
    · rintro r H2 ⟨hx, hc⟩
      rcases hc with ⟨rfl, hc⟩ | ⟨rfl, hc⟩
      · simp (disch := (first | assumption | omega | (simp only [List.length_append, List.length_cons, List.length_nil]; omega))) only [↓wD,wU,Nat.reduceBEq,zx150,zx151,zx159,zx160,zx161,zx162,Nat.reduceAdd,Nat.reduceSub,Nat.reduceMul,Nat.reduceLeDiff,Nat.reduceLT,Nat.reduceEqDiff,Int.reduceAdd,Int.reduceSub,Int.reduceMul,Int.reduceNeg,Int.reduceLT,Int.reduceLE,Int.reduceEq,Int.reduceToNat,Int.cast_ofNat_Int,↓reduceIte]
        refine ⟨true, _, rfl, Its.none hc, hx.weak fun b _ h q => q.elim h.1 h.2, ?_⟩
        rintro b (h | h | h)
        · exact ⟨by have := hK b h; have := hx.1; omega, fun _ => .inl h⟩
        · exact ⟨by have := (hs.blkp h).2; have := hx.1; omega, fun _ => .inr h⟩
        · exact ⟨h.2, fun q => by omega⟩
      · simp (disch := (first | assumption | omega | (simp only [List.length_append, List.length_cons, List.length_nil]; omega))) only [↓wD,wU,Nat.reduceBEq,zx150,zx151,zx159,zx160,zx161,zx162,Nat.reduceAdd,Nat.reduceSub,Nat.reduceMul,Nat.reduceLeDiff,Nat.reduceLT,Nat.reduceEqDiff,Int.reduceAdd,Int.reduceSub,Int.reduceMul,Int.reduceNeg,Int.reduceLT,Int.reduceLE,Int.reduceEq,Int.reduceToNat,Int.cast_ofNat_Int,↓reduceIte]
        refine ⟨false, _, rfl, hc _ (Kx.refl _ _), hx.weak fun b _ h q => q.elim h.1 h.2, ?_⟩
        rintro b (h | h | h)
        · exact ⟨by have := hK b h; have := hx.1; omega, fun _ => .inl h⟩
        · exact ⟨by have := (hs.blkp h).2; have := hx.1; omega, fun _ => .inr h⟩
        · exact ⟨h.2, fun q => by omega⟩
  | cons cl rest ihm =>
    intro P v K H Q hpre h32 hv hx hy hs hK hB hI
    obtain ⟨pre, e1, e2⟩ := hpre
    refine WpF.wrt rfl fn101 rfl ?_
    unfold f101A
    have hlen : P.length < xs.length := by rw [e1, List.length_append, e2]; simp
    have hne : decide ((P.length : Int) = xs.length) = false := decide_eq_false (by omega)
    have hcl : gi xs (P.length : Int) = cl := by
      rw [gi_nat hlen]
      have : ∀ (h : P.length < xs.length), xs[P.length] = cl := by
        rw [e1, ← e2]
        intro h
        rw [List.getElem_append_right (Nat.le_refl _)]
        simp
      exact this hlen
    have hI1 := hs.I
    rw [nL_len] at hI1
    have g := hx.get (k := (P.length : Int)) (by omega) (by omega)
    rw [hcl] at g
    have hyL := hy.L
    simp (disch := (first | assumption | omega | (simp only [List.length_append, List.length_cons, List.length_nil]; omega))) only [↓wD,wU,Nat.reduceBEq,zx150,zx151,zx159,zx160,zx161,zx162,Nat.reduceAdd,Nat.reduceSub,Nat.reduceMul,Nat.reduceLeDiff,Nat.reduceLT,Nat.reduceEqDiff,Int.reduceAdd,Int.reduceSub,Int.reduceMul,Int.reduceNeg,Int.reduceLT,Int.reduceLE,Int.reduceEq,Int.reduceToNat,Int.cast_ofNat_Int,↓reduceIte, hI1, ld_of hv.p.1, hx.L, hne, hyL]
    refine (lines_ret (n := ys.length) g (by omega)).toFX fun li H2 x2 hli => ?_
    have hl2 := x2.1
    have hliI := hli.I
    rw [← linesN_len] at hliI
    have hel : ∀ i : Nat, i < (linesN ys.length cl).length → gi (linesN ys.length cl) (i : Int) < 32 ∧ gi (linesL ys.length cl) (i : Int) = (gi (linesN ys.length cl) (i : Int) : Nat) := fun i hi => ⟨by
      have := linesN_lt (mem_gi hi)
      have := pow5 (n := ys.length) (by omega)
      omega, linesL_gi hi⟩
    have hl32 := linesL_len (n := ys.length) (cl := cl) (by omega)
    rw [← linesN_len] at hl32
    rw [← restS_0, List.map_congr_left (fun _ _ => rfl)] at hI
    simp (disch := (first | assumption | omega | (simp only [List.length_append, List.length_cons, List.length_nil]; omega))) only [↓wD,wU,Nat.reduceBEq,zx150,zx151,zx159,zx160,zx161,zx162,Nat.reduceAdd,Nat.reduceSub,Nat.reduceMul,Nat.reduceLeDiff,Nat.reduceLT,Nat.reduceEqDiff,Int.reduceAdd,Int.reduceSub,Int.reduceMul,Int.reduceNeg,Int.reduceLT,Int.reduceLE,Int.reduceEq,Int.reduceToNat,Int.cast_ofNat_Int,↓reduceIte, hliI]
    refine Wp.for (linesN ys.length cl).length (fun i a H1 => a 0 = v ∧ a 1 = .p bp 0 ∧ a 2 = .p bY 0 ∧ a 3 = .p bg 0 ∧ a 6 = .i P.length ∧ a 28 = li ∧ a 29 = .i (linesN ys.length cl).length ∧ a 30 = .i i ∧ ∃ K1, Its E lo y B ArgI Q ((restS xs.length ys cl rest P i).map nL) K1 H1 ∧ Kx (fun b => ¬ K b) H H1 ∧ Kx (fun b => H.length ≤ b) H2 H1 ∧ ∀ b, K1 b → b < H1.length ∧ (b < H2.length → K b)) ?_ ?_
    · rintro i a H1 hi ⟨a0, a1, a2, a3, a6, a28, a29, a30, K1, hI1', hx1, hx21, hK1⟩ ih
      have hh1 := hx1.1
      have hh21 := hx21.1
      simp (disch := (first | assumption | omega | (simp only [List.length_append, List.length_cons, List.length_nil]; omega))) only [↓wD,wU,Nat.reduceBEq,zx150,zx151,zx159,zx160,zx161,zx162,Nat.reduceAdd,Nat.reduceSub,Nat.reduceMul,Nat.reduceLeDiff,Nat.reduceLT,Nat.reduceEqDiff,Int.reduceAdd,Int.reduceSub,Int.reduceMul,Int.reduceNeg,Int.reduceLT,Int.reduceLE,Int.reduceEq,Int.reduceToNat,Int.cast_ofNat_Int,↓reduceIte, a0, a1, a2, a3, a6, a28, a29, a30]
      refine condP_split (fun hlt => ?_) (fun hlt => ?_)
      · have hi' : i < (linesN ys.length cl).length := by omega
        obtain ⟨l32, el⟩ := hel i hi'
        have hv1 := hv.mono hx1 fun b hb q => (hK1 b q).2 (by omega)
        have hs1 : Sl (fun b => B ≤ b ∧ ¬ K1 b) H1 v (nL P) := hs.low.mono (hx1.weak fun b _ h => h.1.2).kp fun b h => ⟨h.1.1, fun q => h.1.2 ((hK1 b q).2 (by omega))⟩
        have hxx : Sl (fun b => ¬ K1 b) H1 u xs := hx.low.mono (hx1.weak fun b _ h => h.1).kp fun b h q => h.1 ((hK1 b q).2 (by omega))
        have hyy : Sl (fun b => ¬ K1 b) H1 w ys := hy.low.mono (hx1.weak fun b _ h => h.1).kp fun b h q => h.1 ((hK1 b q).2 (by omega))
        have hli1 := (hli.kp hx21.kp).I
        rw [← linesN_len] at hli1
        obtain ⟨c, hc1, hc2⟩ := hs1.clip (by rw [nL_len]; omega)
        rw [nL_len] at hc1
        have ha := hc2 lo H1.length (gi (linesN ys.length cl) (i : Int) : Nat) rfl
        rw [nL_len, ← nL_app] at ha
        rw [restS_s hi'] at hI1'
        obtain ⟨L, eL⟩ : ∃ L, gi (linesN ys.length cl) (i : Int) = L := ⟨_, rfl⟩
        rw [eL] at l32 el ha hI1'
        obtain ⟨H5, eH5⟩ : ∃ H5, H1 ++ [Blk.cells [.i (L : Int)], .cells ((nL (P ++ [L])).map AV.i)] = H5 := ⟨_, rfl⟩
        have x15 : Kx (fun _ => True) H1 H5 := by rw [← eH5]; exact Kx.app _ _ _
        have n5 : H5.length = H1.length + 2 := by rw [← eH5]; simp
        have g5 : H5[H1.length + 1]? = some (.cells ((nL (P ++ [L])).map AV.i)) := by rw [← eH5]; simp [List.getElem?_append]
        rw [eH5] at ha
        have h32' : ∀ z ∈ P ++ [L], z < 32 := fun z hz => by
          rcases List.mem_append.1 hz with hz | hz
          · exact h32 z hz
          · simp at hz; omega
        have hs5 : Sl (fun b => B ≤ b ∧ ¬ K1 b) H5 (.s 1 (H1.length + 1) 0 (P.length + 1) none) (nL (P ++ [L])) := by
          have := Sl.litI (p := fun b => B ≤ b ∧ ¬ K1 b) (c := none) g5 ⟨by omega, fun q => by have := (hK1 _ q).1; omega⟩ (by rw [nL_len]; simp; omega)
          rwa [show (nL (P ++ [L])).length = P.length + 1 by rw [nL_len]; simp] at this
        have hv5 := hv1.mono (K' := K1) (x15.all _) fun _ _ h => h
        have hx5 := hxx.kp (x15.all _).kp
        have hy5 := hyy.kp (x15.all _).kp
        have ps := possible_ret hx5 hy5 hs5 (by omega) (by omega) (by simp; omega) h32'
        have l5 := hx5.cellsV
        cases hb : possB xs.length ys (P ++ [L])
        · rw [hb] at ps hI1'
          simp only [Bool.false_eq_true, if_false, List.nil_append] at hI1'
          simp (disch := (first | assumption | omega | (simp only [List.length_append, List.length_cons, List.length_nil]; omega))) only [↓wD,wU,Nat.reduceBEq,zx150,zx151,zx159,zx160,zx161,zx162,Nat.reduceAdd,Nat.reduceSub,Nat.reduceMul,Nat.reduceLeDiff,Nat.reduceLT,Nat.reduceEqDiff,Int.reduceAdd,Int.reduceSub,Int.reduceMul,Int.reduceNeg,Int.reduceLT,Int.reduceLE,Int.reduceEq,Int.reduceToNat,Int.cast_ofNat_Int,↓reduceIte, a0, a1, a2, a3, a6, a28, a29, a30, hli1, el, hc1 none (.inl rfl), ha, ldn_of hv5.p.1, ps.call]
          refine (ih hi').go ?_
          simp (disch := (first | assumption | omega | (simp only [List.length_append, List.length_cons, List.length_nil]; omega))) only [↓wD,wU,Nat.reduceBEq,zx150,zx151,zx159,zx160,zx161,zx162,Nat.reduceAdd,Nat.reduceSub,Nat.reduceMul,Nat.reduceLeDiff,Nat.reduceLT,Nat.reduceEqDiff,Int.reduceAdd,Int.reduceSub,Int.reduceMul,Int.reduceNeg,Int.reduceLT,Int.reduceLE,Int.reduceEq,Int.reduceToNat,Int.cast_ofNat_Int,↓reduceIte, a0, a1, a2, a3, a6, a28, a29, a30]
          exact ⟨K1, hI1'.keep (x15.all _), hx1.trans x15 fun _ _ _ => trivial, hx21.trans x15 fun _ _ _ => trivial, fun b q => ⟨by have := (hK1 b q).1; omega, (hK1 b q).2⟩⟩
        · rw [hb] at ps hI1'
          simp only [if_true, List.map_append] at hI1'
          have hI2 := Its.append hI1'
          simp (disch := (first | assumption | omega | (simp only [List.length_append, List.length_cons, List.length_nil]; omega))) only [↓wD,wU,Nat.reduceBEq,zx150,zx151,zx159,zx160,zx161,zx162,Nat.reduceAdd,Nat.reduceSub,Nat.reduceMul,Nat.reduceLeDiff,Nat.reduceLT,Nat.reduceEqDiff,Int.reduceAdd,Int.reduceSub,Int.reduceMul,Int.reduceNeg,Int.reduceLT,Int.reduceLE,Int.reduceEq,Int.reduceToNat,Int.cast_ofNat_Int,↓reduceIte, a0, a1, a2, a3, a6, a28, a29, a30, hli1, el, hc1 none (.inl rfl), ha, ldn_of hv5.p.1, ps.call, ld_of hv5.g.1]
          refine callvI (WpV.fn (us := []) (vs := [_]) ((ihm (P ++ [L]) _ K1 H5 _ ⟨pre ++ [cl], by rw [e1]; simp, by simp [e2]⟩ h32' hv5 hx5 hy5 hs5 (fun b q => by have := (hK1 b q).1; omega) (by omega) (hI2.keep (x15.all _))).mono ?_))
          rintro r' H' ⟨ok, K', rfl, hq, hx3, hK3⟩
          have hh3 := hx3.1
          have hx6 : Kx (fun b => ¬ K b) H H' := (hx1.trans x15 fun _ _ _ => trivial).trans hx3 fun b hb h => ⟨fun q => h ((hK1 b q).2 (by omega)), fun e => by simp only [AV.blk, Option.some.injEq] at e; omega⟩
          have hx7 : Kx (fun b => H.length ≤ b) H2 H' := (hx21.trans x15 fun _ _ _ => trivial).trans hx3 fun b hb h => ⟨fun q => by have := hK b ((hK1 b q).2 hb); omega, fun e => by simp only [AV.blk, Option.some.injEq] at e; omega⟩
          have hK2 : ∀ b, K' b → b < H'.length ∧ (b < H2.length → K b) := fun b q => ⟨(hK3 b q).1, fun hb => by
            rcases (hK3 b q).2 (by omega) with h | h
            · exact (hK1 b h).2 hb
            · simp only [AV.blk, Option.some.injEq] at h; omega⟩
          cases ok with
          | true =>
            simp (disch := (first | assumption | omega | (simp only [List.length_append, List.length_cons, List.length_nil]; omega))) only [↓wD,wU,Nat.reduceBEq,zx150,zx151,zx159,zx160,zx161,zx162,Nat.reduceAdd,Nat.reduceSub,Nat.reduceMul,Nat.reduceLeDiff,Nat.reduceLT,Nat.reduceEqDiff,Int.reduceAdd,Int.reduceSub,Int.reduceMul,Int.reduceNeg,Int.reduceLT,Int.reduceLE,Int.reduceEq,Int.reduceToNat,Int.cast_ofNat_Int,↓reduceIte, a0, a1, a2, a3, a6, a28, a29, a30]
            refine (ih hi').go ?_
            simp (disch := (first | assumption | omega | (simp only [List.length_append, List.length_cons, List.length_nil]; omega))) only [↓wD,wU,Nat.reduceBEq,zx150,zx151,zx159,zx160,zx161,zx162,Nat.reduceAdd,Nat.reduceSub,Nat.reduceMul,Nat.reduceLeDiff,Nat.reduceLT,Nat.reduceEqDiff,Int.reduceAdd,Int.reduceSub,Int.reduceMul,Int.reduceNeg,Int.reduceLT,Int.reduceLE,Int.reduceEq,Int.reduceToNat,Int.cast_ofNat_Int,↓reduceIte, a0, a1, a2, a3, a6, a28, a29, a30]
            exact ⟨K', hq.1 rfl, hx6, hx7, hK2⟩
          | false =>
            simp (disch := (first | assumption | omega | (simp only [List.length_append, List.length_cons, List.length_nil]; omega))) only [↓wD,wU,Nat.reduceBEq,zx150,zx151,zx159,zx160,zx161,zx162,Nat.reduceAdd,Nat.reduceSub,Nat.reduceMul,Nat.reduceLeDiff,Nat.reduceLT,Nat.reduceEqDiff,Int.reduceAdd,Int.reduceSub,Int.reduceMul,Int.reduceNeg,Int.reduceLT,Int.reduceLE,Int.reduceEq,Int.reduceToNat,Int.cast_ofNat_Int,↓reduceIte, a0, a1, a2, a3, a6, a28, a29, a30]
            exact ⟨false, K', rfl, hq.2 rfl, hx6.weak fun _ _ h => h.1, fun b q => ⟨(hK2 b q).1, fun hb => .inl ((hK2 b q).2 (by omega))⟩⟩
      · simp (disch := (first | assumption | omega | (simp only [List.length_append, List.length_cons, List.length_nil]; omega))) only [↓wD,wU,Nat.reduceBEq,zx150,zx151,zx159,zx160,zx161,zx162,Nat.reduceAdd,Nat.reduceSub,Nat.reduceMul,Nat.reduceLeDiff,Nat.reduceLT,Nat.reduceEqDiff,Int.reduceAdd,Int.reduceSub,Int.reduceMul,Int.reduceNeg,Int.reduceLT,Int.reduceLE,Int.reduceEq,Int.reduceToNat,Int.cast_ofNat_Int,↓reduceIte, a0, a1, a2, a3]
        rw [restS_n (by omega)] at hI1'
        exact ⟨true, K1, rfl, Its.none hI1', hx1.weak fun _ _ h => h.1, fun b q => ⟨(hK1 b q).1, fun hb => .inl ((hK1 b q).2 (by omega))⟩⟩
    · simp (disch := (first | assumption | omega | (simp only [List.length_append, List.length_cons, List.length_nil]; omega))) only [↓wD,wU,Nat.reduceBEq,zx150,zx151,zx159,zx160,zx161,zx162,Nat.reduceAdd,Nat.reduceSub,Nat.reduceMul,Nat.reduceLeDiff,Nat.reduceLT,Nat.reduceEqDiff,Int.reduceAdd,Int.reduceSub,Int.reduceMul,Int.reduceNeg,Int.reduceLT,Int.reduceLE,Int.reduceEq,Int.reduceToNat,Int.cast_ofNat_Int,↓reduceIte]
      exact ⟨K, hI.keep (x2.all _), x2.all _, Kx.refl _ _, fun b q => ⟨by have := hK b q; omega, fun _ => q⟩⟩
/-- the iterator itself -/
theorem sols_it {lo : Nat} {y u w : AV} {xs ys : List (List Int)} {K : Nat → Prop} {H : Heap} {Q : Bool → (Nat → Prop) → Heap → Prop} (hlo : lo ≤ H.length) (hP : PuzP xs ys) (hy0 : y.cells = [y] ∧ y.one = true)
    (hx : Sl (fun b => ¬ K b) H u xs) (hy : Sl (fun b => ¬ K b) H w ys) (hK : ∀ b, K b → b < H.length)
    (hI : Its E lo y H.length ArgI Q ((solR ys xs []).map nL) K H) : WpF E lo 73 [.ag [u, w], y] H fun _ H' => ∃ ok K', Q ok K' H' := by
  refine WpF.wrt rfl fn73 rfl ?_
  unfold f73A
  have vu := hx.cellsV
  have vw := hy.cellsV
  obtain ⟨H2, eH2⟩ : ∃ H2, H ++ [Blk.cells [u, w]] ++ [Blk.cells [y]] ++ [Blk.cells [AV.fn 101 [] [.p H.length 0, .p (H.length + 1) 0, .p (H.length + 2) 0]]] = H2 := ⟨_, rfl⟩
  have hst : st lo (H ++ [Blk.cells [u, w]] ++ [Blk.cells [y]] ++ [Blk.cells [.nilf]]) (H.length + 2) 0 [AV.fn 101 [] [.p H.length 0, .p (H.length + 1) 0, .p (H.length + 2) 0]] = some H2 := by
    rw [st_of (cs := [.nilf]) (by simp [List.getElem?_append]) (by omega) (by simp), ← eH2]
    congr 1
    simp [wr, List.set_append]
  have x2 : Kx (fun _ => True) H H2 := by rw [← eH2]; exact ((Kx.app _ _ _).app' _).app' _
  have n2 : H2.length = H.length + 3 := by rw [← eH2]; simp
  have d0 : H2[H.length]? = some (.cells [u, w]) := by rw [← eH2]; simp [List.getElem?_append]
  have d1 : H2[H.length + 1]? = some (.cells [y]) := by rw [← eH2]; simp [List.getElem?_append]
  have d2 : H2[H.length + 2]? = some (.cells [AV.fn 101 [] [.p H.length 0, .p (H.length + 1) 0, .p (H.length + 2) 0]]) := by rw [← eH2]; simp [List.getElem?_append]
  have hkn : ∀ b, H.length ≤ b → ¬ K b := fun b h q => by have := hK b q; omega
  have lx := hP.1
  simp (disch := (first | assumption | omega | (simp only [List.length_append, List.length_cons, List.length_nil]; omega))) only [↓wD,wU,Nat.reduceBEq,zx150,zx151,zx159,zx160,zx161,zx162,Nat.reduceAdd,Nat.reduceSub,Nat.reduceMul,Nat.reduceLeDiff,Nat.reduceLT,Nat.reduceEqDiff,Int.reduceAdd,Int.reduceSub,Int.reduceMul,Int.reduceNeg,Int.reduceLT,Int.reduceLE,Int.reduceEq,Int.reduceToNat,Int.cast_ofNat_Int,↓reduceIte, vu, vw, hy0.1, hy0.2, hst, ld_of d2]
  refine callvI (WpV.fn (us := []) (vs := [_]) ((sgrow_ok hlo hP xs [] .nils K H2 Q ⟨[], rfl, rfl⟩ (by simp) ⟨⟨d0, hkn _ (by omega)⟩, ⟨d1, hkn _ (by omega)⟩, ⟨d2, hkn _ (by omega)⟩⟩ (hx.kp (x2.all _).kp) (hy.kp (x2.all _).kp) (Sl.nil) (fun b q => by have := hK b q; omega) (by omega) ?_).mono ?_))
  · rw [sol_eq (h := xs.length) (by have := lx.2; omega) (by simp) (fun e => by have := lx.1; rw [e] at this; simp at this)]
    exact hI.keep (x2.all _)
  · rintro r H' ⟨ok, K', rfl, hq, _⟩
    simp (disch := (first | assumption | omega | (simp only [List.length_append, List.length_cons, List.length_nil]; omega))) only [↓wD,wU,Nat.reduceBEq,zx150,zx151,zx159,zx160,zx161,zx162,Nat.reduceAdd,Nat.reduceSub,Nat.reduceMul,Nat.reduceLeDiff,Nat.reduceLT,Nat.reduceEqDiff,Int.reduceAdd,Int.reduceSub,Int.reduceMul,Int.reduceNeg,Int.reduceLT,Int.reduceLE,Int.reduceEq,Int.reduceToNat,Int.cast_ofNat_Int,↓reduceIte]
    exact ⟨ok, K', hq⟩
end Go.Proofs.YtjjndoigkhabdaaDoor
namespace Go.Proofs.YtjjndoigkhabdaaDoor
open Go Go.AM Go.Proofs
def sols (xs ys : List (List Int)) : List (List Nat) := solR ys xs []
theorem flatMap_len {α β : Type} {b : Nat} {f : α → List β} : ∀ {l : List α}, (∀ x ∈ l, (f x).length ≤ b) → (l.flatMap f).length ≤ l.length * b
  | [], _ => by simp
  | x :: l, h => by
    rw [List.flatMap_cons, List.length_append, List.length_cons, Nat.add_mul, Nat.one_mul]
    have h1 := h x (by simp)
    have h2 := flatMap_len (l := l) fun y hy => h y (by simp [hy])
    omega
theorem solR_len {y : List (List Int)} (hy : y.length ≤ 5) : ∀ {rest : List (List Int)} {P : List Nat}, (solR y rest P).length ≤ 32 ^ rest.length
  | [], P => by
    unfold solR
    split <;> simp
  | cl :: rest, P => by
    unfold solR
    refine Nat.le_trans (flatMap_len (b := 32 ^ rest.length) fun l _ => solR_len hy) ?_
    rw [List.length_cons, Nat.pow_succ, Nat.mul_comm]
    exact Nat.mul_le_mul_left _ (by rw [linesN_len]; exact linesL_len hy)
theorem sols_len {xs ys : List (List Int)} (h : PuzP xs ys) : (sols xs ys).length ≤ 33554432 := by
  refine Nat.le_trans (solR_len (by have := h.2.1.2; omega)) ?_
  have : 32 ^ xs.length ≤ 32 ^ 5 := Nat.pow_le_pow_right (by omega) (by have := h.1.2; omega)
  omega
theorem gset {b : Nat} {H H2 : Heap} {k k' : Blk} (e : H.set b k = H2) (h : H[b]? = some k') : H2[b]? = some k := by rw [← e]; exact get_set h
theorem argI_len : ∀ (Ki : Nat → Prop) (H1 : Heap) (args : List AV) (x : List Int), ArgI Ki H1 args x → args.length = 1 := by rintro _ _ _ _ ⟨u, rfl, _⟩; rfl
theorem sols_range {lo : Nat} {u w : AV} {xs ys : List (List Int)} {Hr H1 : Heap} {K0 K : Nat → Prop} {Q : Bool → (Nat → Prop) → Heap → Prop} (hlo : lo ≤ Hr.length) (hP : PuzP xs ys) (hx : Sl (fun b => ¬ K0 b) Hr u xs) (hy : Sl (fun b => ¬ K0 b) Hr w ys) (hK0 : ∀ b, K0 b → b < Hr.length)
    (e : H1.length = Hr.length + 1) (hx' : Kx (fun _ => True) Hr H1) (hK : ∀ b, K b ↔ K0 b ∨ b = Hr.length) (hI : Its E lo (.yl Hr.length) (Hr.length + 1) ArgI Q ((sols xs ys).map nL) K H1) :
    WpF E lo 73 [.ag [u, w], .yl Hr.length] H1 fun _ H' => ∃ ok K', Q ok K' H' := by
  rw [← e] at hI
  have hn : ∀ b, ¬ K0 b ∧ b < Hr.length → ¬ K b := fun b h q => by
    rcases (hK b).1 q with q | q
    · exact h.1 q
    · omega
  exact sols_it (by omega) hP ⟨rfl, rfl⟩ ((hx.low.kp (hx'.all _).kp).weak hn) ((hy.low.kp (hx'.all _).kp).weak hn) (fun b q => by
    rcases (hK b).1 q with q | q
    · have := hK0 b q; omega
    · omega) hI
theorem scount_ret {p q : Nat → Prop} {H : Heap} {u w : AV} {x y : List (List Int)} (hx : Sl p H u x) (hy : Sl q H w y) (h : PuzP x y) : RetP E 41 [.ag [u, w]] H (.tp [.i (sols x y).length, .i 0]) := by
  refine RetP.ro rfl fn41 rfl rfl ?_
  unfold f41A
  have vu := hx.cellsV
  have vw := hy.cellsV
  have hlen := sols_len h
  replace hx : Sl (fun b => b < H.length) H u x := hx.low.weak fun _ h => h.2
  replace hy : Sl (fun b => b < H.length) H w y := hy.low.weak fun _ h => h.2
  obtain ⟨Hr, eHr⟩ : ∃ Hr, H ++ [.cells [u, w]] ++ [Blk.cells [.i 0]] = Hr := ⟨_, rfl⟩
  have x0 : Kx (fun _ => True) H Hr := by rw [← eHr]; exact (Kx.app _ _ _).app' _
  have nr : Hr.length = H.length + 2 := by rw [← eHr]; simp
  have d0 : Hr[H.length]? = some (.cells [u, w]) := by rw [← eHr]; simp [List.getElem?_append]
  have c0 : Hr[H.length + 1]? = some (.cells [.i 0]) := by rw [← eHr]; simp [List.getElem?_append]
  have hst : st H.length Hr (H.length + 1) 0 [.i 0] = some Hr := by
    rw [st_of c0 (by omega) (by simp)]
    congr 1
    rw [← eHr]
    simp [wr, List.set_append]
  have hv := pvalid_ret (hx.app [Blk.cells [u, w]]) (hy.app [Blk.cells [u, w]])
  rw [decide_eq_true h] at hv
  obtain ⟨ts, ets⟩ : ∃ ts, (sols x y).map nL = ts := ⟨_, rfl⟩
  have etl : ts.length = (sols x y).length := by rw [← ets, List.length_map]
  rw [← etl] at hlen ⊢
  simp (disch := (first | assumption | omega | (simp only [List.length_append, List.length_cons, List.length_nil]; omega))) only [↓wD,wU,Nat.reduceBEq,zx150,zx151,zx159,zx160,zx161,zx162,Nat.reduceAdd,Nat.reduceSub,Nat.reduceMul,Nat.reduceLeDiff,Nat.reduceLT,Nat.reduceEqDiff,Int.reduceAdd,Int.reduceSub,Int.reduceMul,Int.reduceNeg,Int.reduceLT,Int.reduceLE,Int.reduceEq,Int.reduceToNat,Int.cast_ofNat_Int,↓reduceIte, vu, vw, hv.call, eHr, hst, ldn_of d0]
  refine Wp.range (A := ArgI) ts (fun b => b = H.length + 1) (fun i K H1 => H1[H.length + 1]? = some (.cells [.i i])) (fun j K H1 => False) (by (simp (disch := (first | assumption | omega | (simp only [List.length_append, List.length_cons, List.length_nil]; omega))) only [↓wD,wU,Nat.reduceBEq,zx150,zx151,zx159,zx160,zx161,zx162,Nat.reduceAdd,Nat.reduceSub,Nat.reduceMul,Nat.reduceLeDiff,Nat.reduceLT,Nat.reduceEqDiff,Int.reduceAdd,Int.reduceSub,Int.reduceMul,Int.reduceNeg,Int.reduceLT,Int.reduceLE,Int.reduceEq,Int.reduceToNat,Int.cast_ofNat_Int,↓reduceIte]) <;> rfl) rfl (by omega) (fun b h => by omega) argI_len ?_ ?_ ?_ ?_ ?_ ?_ ?_
  · intro K' H1 Q' e hx' hK' hI
    rw [← ets] at hI
    exact sols_range (by omega) h ((hx.kp (x0.all _).kp).weak fun b hb => by omega) ((hy.kp (x0.all _).kp).weak fun b hb => by omega) (fun b hb => by omega) e hx' hK' hI
  · exact fun i K H1 H2 h hx => hx.get (.inl (by omega)) h
  · exact fun j K H1 H2 h hx => h.elim
  · exact c0
  · rintro i hi K Ki args H1 q4 ⟨v, rfl, hu⟩ hKi hK hx hl1 hlr hKK
    simp (disch := (first | assumption | omega | (simp only [List.length_append, List.length_cons, List.length_nil]; omega))) only [↓wD,wU,Nat.reduceBEq,zx150,zx151,zx159,zx160,zx161,zx162,Nat.reduceAdd,Nat.reduceSub,Nat.reduceMul,Nat.reduceLeDiff,Nat.reduceLT,Nat.reduceEqDiff,Int.reduceAdd,Int.reduceSub,Int.reduceMul,Int.reduceNeg,Int.reduceLT,Int.reduceLE,Int.reduceEq,Int.reduceToNat,Int.cast_ofNat_Int,↓reduceIte, zx188 (lo := H.length) hlr (by omega), zx189, zx190]
    generalize e2 : H1.set Hr.length _ = H2
    have x12 : Kx (fun b => b ≠ Hr.length) H1 H2 := by rw [← e2]; exact Kx.set _ _ _
    have gl := gset e2 hlr
    have r4 := x12.get (by omega) q4
    have kc1 := (hKK (H.length + 1) (by omega)).2 rfl
    clear e2
    have hst2 : st H.length H2 (H.length + 1) 0 [.i (i + 1)] = some (H2.set (H.length + 1) (.cells [.i (i + 1)])) := by
      rw [st_of r4 (by omega) (by simp)]; simp [wr]
    simp (disch := (first | assumption | omega | (simp only [List.length_append, List.length_cons, List.length_nil]; omega))) only [↓wD,wU,Nat.reduceBEq,zx150,zx151,zx159,zx160,zx161,zx162,Nat.reduceAdd,Nat.reduceSub,Nat.reduceMul,Nat.reduceLeDiff,Nat.reduceLT,Nat.reduceEqDiff,Int.reduceAdd,Int.reduceSub,Int.reduceMul,Int.reduceNeg,Int.reduceLT,Int.reduceLE,Int.reduceEq,Int.reduceToNat,Int.cast_ofNat_Int,↓reduceIte, ld_of r4, hst2]
    refine ⟨?_, ?_, get_set r4⟩
    · rw [List.getElem?_set_ne (by omega)]; exact gl
    · exact (x12.weak fun b _ h => h.2).set' (fun _ h => h.1 (.inl kc1)) _
  · rintro K H1 q4 hx hl1
    simp (disch := (first | assumption | omega | (simp only [List.length_append, List.length_cons, List.length_nil]; omega))) only [↓wD,wU,Nat.reduceBEq,zx150,zx151,zx159,zx160,zx161,zx162,Nat.reduceAdd,Nat.reduceSub,Nat.reduceMul,Nat.reduceLeDiff,Nat.reduceLT,Nat.reduceEqDiff,Int.reduceAdd,Int.reduceSub,Int.reduceMul,Int.reduceNeg,Int.reduceLT,Int.reduceLE,Int.reduceEq,Int.reduceToNat,Int.cast_ofNat_Int,↓reduceIte, ld_of q4]
  · exact fun j K H' h _ _ => h.elim
end Go.Proofs.YtjjndoigkhabdaaDoor
namespace Go.Proofs.YtjjndoigkhabdaaDoor
open Go Go.AM Go.Proofs
theorem mem_linesN {n x : Nat} {cl : List Int} : x ∈ linesN n cl ↔ x < 2 ^ n ∧ blkL x = cl := by
  unfold linesN
  rw [List.mem_filter, List.mem_range]
  simp
theorem gi_consS' {α : Type} [Inhabited α] {x : α} {xs : List α} {i : Nat} : gi (x :: xs) ((i + 1 : Nat) : Int) = gi xs (i : Int) := by simp [gi]
theorem mem_solR {y : List (List Int)} : ∀ {rest : List (List Int)} {P S : List Nat}, S ∈ solR y rest P ↔ ∃ Q, S = P ++ Q ∧ Q.length = rest.length ∧ (∀ i : Nat, i < rest.length → gi Q (i : Int) ∈ linesN y.length (gi rest (i : Int))) ∧ okC y S = true
  | [], P, S => by
    unfold solR
    constructor
    · intro h
      split at h
      · rename_i hc
        simp at h
        subst h
        exact ⟨[], by simp, rfl, fun i hi => by simp at hi, hc⟩
      · simp at h
    · rintro ⟨Q, e, hl, _, hok⟩
      have : Q = [] := List.length_eq_zero_iff.1 hl
      subst this
      rw [List.append_nil] at e
      subst e
      rw [if_pos hok]; simp
  | cl :: rest, P, S => by
    unfold solR
    rw [List.mem_flatMap]
    constructor
    · rintro ⟨l, hl, h⟩
      obtain ⟨Q, e, hq, hm, hok⟩ := mem_solR.1 h
      refine ⟨l :: Q, by rw [e]; simp, by simp [hq], fun i hi => ?_, hok⟩
      cases i with
      | zero => exact hl
      | succ i => rw [gi_consS', gi_consS']; exact hm i (by simpa using hi)
    · rintro ⟨Q, e, hq, hm, hok⟩
      match Q, hq with
      | l :: Q, hq =>
        refine ⟨l, hm 0 (by simp), mem_solR.2 ⟨Q, by rw [e]; simp, by simpa using hq, fun i hi => ?_, hok⟩⟩
        have := hm (i + 1) (by simp; omega)
        rwa [gi_consS', gi_consS'] at this
/-- a solution -/
theorem mem_sols {xs ys : List (List Int)} {S : List Nat} : S ∈ sols xs ys ↔ S.length = xs.length ∧ (∀ i : Nat, i < xs.length → gi S (i : Int) < 2 ^ ys.length ∧ blkL (gi S (i : Int)) = gi xs (i : Int)) ∧ ∀ c : Nat, c < ys.length → blkL (colN S c) = gi ys (c : Int) := by
  unfold sols
  rw [mem_solR]
  have hok : okC ys S = true ↔ ∀ c : Nat, c < ys.length → blkL (colN S c) = gi ys (c : Int) := by
    unfold okC
    rw [List.all_eq_true]
    constructor
    · intro h c hc; simpa using h c (List.mem_range.2 hc)
    · intro h c hc; simpa using h c (List.mem_range.1 hc)
  rw [hok]
  constructor
  · rintro ⟨Q, rfl, hl, hm, h⟩
    exact ⟨hl, fun i hi => mem_linesN.1 (hm i hi), h⟩
  · rintro ⟨hl, hm, h⟩
    exact ⟨S, by simp, hl, fun i hi => mem_linesN.2 (hm i hi), h⟩
theorem cmp_pre : ∀ {P Q Q' : List Nat} {l l' : Nat}, l < l' → cmpL (nL (P ++ l :: Q)) (nL (P ++ l' :: Q')) < 0
  | [], Q, Q', l, l', h => by
    show cmpL ((l : Int) :: nL Q) ((l' : Int) :: nL Q') < 0
    have : cmpI (l : Int) l' = -1 := by unfold cmpI; rw [if_pos (by omega)]
    simp [cmpL, this]
  | p :: P, Q, Q', l, l', h => by
    have := cmp_pre (P := P) (Q := Q) (Q' := Q') h
    show cmpL ((p : Int) :: nL (P ++ l :: Q)) ((p : Int) :: nL (P ++ l' :: Q')) < 0
    simpa [cmpL, cmpI] using this
theorem solR_order {y : List (List Int)} : ∀ {rest : List (List Int)} {P : List Nat}, (solR y rest P).Pairwise fun a b => cmpL (nL a) (nL b) < 0
  | [], P => by
    unfold solR
    split <;> simp
  | cl :: rest, P => by
    unfold solR
    rw [List.pairwise_flatMap]
    refine ⟨fun l _ => solR_order, ?_⟩
    have hr : (linesN y.length cl).Pairwise (· < ·) := List.Pairwise.filter _ List.pairwise_lt_range
    refine hr.imp fun {l l'} hl a ha b hb => ?_
    obtain ⟨Q, e, _⟩ := mem_solR.1 ha
    obtain ⟨Q', e', _⟩ := mem_solR.1 hb
    rw [e, e']
    simp only [List.append_assoc, List.singleton_append]
    exact cmp_pre hl
theorem sol_rows {xs ys : List (List Int)} {S : List Nat} (h : S ∈ sols xs ys) : ∀ x ∈ S, x < 2 ^ ys.length := by
  obtain ⟨hl, h1, h2⟩ := mem_sols.1 h
  intro x hx
  obtain ⟨i, hi, rfl⟩ := List.mem_iff_getElem.1 hx
  have := (h1 i (by omega)).1
  rwa [gi_nat hi] at this
end Go.Proofs.YtjjndoigkhabdaaDoor
namespace Go.Proofs.YtjjndoigkhabdaaDoor
open Go Go.AM Go.Proofs
theorem Acc_empty {α : Type} [Rep α] {L : Nat} {p q : Nat → Prop} {H : Heap} {v : AV} (h : Sl p H v ([] : List α)) (hp : ∀ b, p b → L ≤ b) : Acc L q H v ([] : List α) := by
  rcases h with h | ⟨b, o, c, k, e, hb, hk, h1, h2, h3⟩
  · exact .inl h
  · exact .inr ⟨b, o, c, k, e, hp _ hb, hk, h1, h2, fun i hi => by simp at hi⟩
theorem grow0_ret {H : Heap} {n : Int} (h0 : 0 ≤ n) (h1 : n ≤ 1000000) : Ret E 103 [.nils, .i n] (fun _ => False) H ([] : List Int) := by
  refine Ret.ro rfl fn103 rfl ?_
  unfold f103A
  have hc : zx162 .nils = some (.i 0) := rfl
  by_cases hn : 0 < n
  · have hmb : mostBytes = 1099511627776 := by decide
    have hs : slV 1 .nils none (some (.i 0)) none = some .nils := rfl
    have ha : appendzV H.length 1 8 [.int .i64 0] .nils (.i n) H = some (.s 1 H.length 0 n.toNat none, H ++ [.cells (reps n.toNat [.int .i64 0])]) := by
      simp only [appendzV]
      rw [if_pos ⟨h0, by omega, by rw [hmb]; omega, rfl⟩]
      simp only [appendA]
      rw [if_neg (by omega), if_pos (by rw [hmb]; omega)]
    have hs2 : slV 1 (.s 1 H.length 0 n.toNat none) none (some (.i 0)) none = some (.s 1 H.length 0 0 none) := by
      simp [slV, Go.AM.lenA, boundV, sliceA, show 0 ≤ max n 0 by omega]
    simp (disch := (first | assumption | omega | (simp only [List.length_append, List.length_cons, List.length_nil]; omega))) only [↓wD,wU,Nat.reduceBEq,zx150,zx151,zx159,zx160,zx161,zx162,Nat.reduceAdd,Nat.reduceSub,Nat.reduceMul,Nat.reduceLeDiff,Nat.reduceLT,Nat.reduceEqDiff,Int.reduceAdd,Int.reduceSub,Int.reduceMul,Int.reduceNeg,Int.reduceLT,Int.reduceLE,Int.reduceEq,Int.reduceToNat,Int.cast_ofNat_Int,↓reduceIte, *, hc, hs, Int.sub_zero, ha, hs2]
    exact .inr ⟨H.length, 0, none, reps n.toNat [.int .i64 0], rfl, by simp, by simp, by simp, by simp, fun i hi => by simp at hi⟩
  · simp (disch := (first | assumption | omega | (simp only [List.length_append, List.length_cons, List.length_nil]; omega))) only [↓wD,wU,Nat.reduceBEq,zx150,zx151,zx159,zx160,zx161,zx162,Nat.reduceAdd,Nat.reduceSub,Nat.reduceMul,Nat.reduceLeDiff,Nat.reduceLT,Nat.reduceEqDiff,Int.reduceAdd,Int.reduceSub,Int.reduceMul,Int.reduceNeg,Int.reduceLT,Int.reduceLE,Int.reduceEq,Int.reduceToNat,Int.cast_ofNat_Int,↓reduceIte, *, hc]
    exact Sl.nil
def lsum (ls : List (List Int)) : Nat := (ls.map List.length).sum
theorem lsum_take {ls : List (List Int)} {i : Nat} (h : i < ls.length) : lsum (ls.take (i + 1)) = lsum (ls.take i) + (gi ls i).length := by
  unfold lsum; rw [take_gi h]; simp [List.sum_append]
theorem lsum_le {ls : List (List Int)} {i : Nat} : lsum (ls.take i) ≤ lsum ls := by
  have e : lsum ls = lsum (ls.take i) + lsum (ls.drop i) := by
    conv => lhs; rw [← List.take_append_drop i ls]
    unfold lsum; rw [List.map_append, List.sum_append]
  omega
theorem len_flatten (ls : List (List Int)) : ls.flatten.length = lsum ls := by simp [lsum, List.length_flatten]
theorem concat_ret {p : Nat → Prop} {H : Heap} {v : AV} {ls : List (List Int)} (hl : Sl p H v ls) (hs : lsum ls ≤ 1000000) : Ret E 76 [v] (fun _ => False) H ls.flatten := by
  refine Ret.ro rfl fn76 rfl ?_
  unfold f76A
  have hb := hl.bound
  simp (disch := (first | assumption | omega | (simp only [List.length_append, List.length_cons, List.length_nil]; omega))) only [↓wD,wU,Nat.reduceBEq,zx150,zx151,zx159,zx160,zx161,zx162,Nat.reduceAdd,Nat.reduceSub,Nat.reduceMul,Nat.reduceLeDiff,Nat.reduceLT,Nat.reduceEqDiff,Int.reduceAdd,Int.reduceSub,Int.reduceMul,Int.reduceNeg,Int.reduceLT,Int.reduceLE,Int.reduceEq,Int.reduceToNat,Int.cast_ofNat_Int,↓reduceIte, *, hl.L]
  refine Wp.for ls.length (fun i a H' => H' = H ∧ a 0 = v ∧ a 9 = v ∧ a 10 = .i ls.length ∧ a 11 = .i i ∧ a 3 = .i (lsum (ls.take i))) ?_ ?_
  · rintro i a H' hi ⟨rfl, a0, a9, a10, a11, a3⟩ ih
    have hle := lsum_le (ls := ls) (i := i)
    simp (disch := (first | assumption | omega | (simp only [List.length_append, List.length_cons, List.length_nil]; omega))) only [↓wD,wU,Nat.reduceBEq,zx150,zx151,zx159,zx160,zx161,zx162,Nat.reduceAdd,Nat.reduceSub,Nat.reduceMul,Nat.reduceLeDiff,Nat.reduceLT,Nat.reduceEqDiff,Int.reduceAdd,Int.reduceSub,Int.reduceMul,Int.reduceNeg,Int.reduceLT,Int.reduceLE,Int.reduceEq,Int.reduceToNat,Int.cast_ofNat_Int,↓reduceIte, *]
    refine condP_split (fun hlt => ?_) (fun hlt => ?_)
    · have hi' : i < ls.length := by omega
      have g := hl.get (k := (i : Int)) (by omega) (by omega)
      have e := lsum_take hi'
      have hle2 := lsum_le (ls := ls) (i := i + 1)
      simp (disch := (first | assumption | omega | (simp only [List.length_append, List.length_cons, List.length_nil]; omega))) only [↓wD,wU,Nat.reduceBEq,zx150,zx151,zx159,zx160,zx161,zx162,Nat.reduceAdd,Nat.reduceSub,Nat.reduceMul,Nat.reduceLeDiff,Nat.reduceLT,Nat.reduceEqDiff,Int.reduceAdd,Int.reduceSub,Int.reduceMul,Int.reduceNeg,Int.reduceLT,Int.reduceLE,Int.reduceEq,Int.reduceToNat,Int.cast_ofNat_Int,↓reduceIte, *, hl.L, g.I]
      refine (ih hi').go ⟨rfl, ?_⟩
      simp (disch := (first | assumption | omega | (simp only [List.length_append, List.length_cons, List.length_nil]; omega))) only [↓wD,wU,Nat.reduceBEq,zx150,zx151,zx159,zx160,zx161,zx162,Nat.reduceAdd,Nat.reduceSub,Nat.reduceMul,Nat.reduceLeDiff,Nat.reduceLT,Nat.reduceEqDiff,Int.reduceAdd,Int.reduceSub,Int.reduceMul,Int.reduceNeg,Int.reduceLT,Int.reduceLE,Int.reduceEq,Int.reduceToNat,Int.cast_ofNat_Int,↓reduceIte, *]
    · obtain rfl : i = ls.length := by omega
      have e : ls.take ls.length = ls := List.take_length
      rw [e] at a3
      clear hlt hi ih
      simp (disch := (first | assumption | omega | (simp only [List.length_append, List.length_cons, List.length_nil]; omega))) only [↓wD,wU,Nat.reduceBEq,zx150,zx151,zx159,zx160,zx161,zx162,Nat.reduceAdd,Nat.reduceSub,Nat.reduceMul,Nat.reduceLeDiff,Nat.reduceLT,Nat.reduceEqDiff,Int.reduceAdd,Int.reduceSub,Int.reduceMul,Int.reduceNeg,Int.reduceLT,Int.reduceLE,Int.reduceEq,Int.reduceToNat,Int.cast_ofNat_Int,↓reduceIte, *]
      refine (grow0_ret (by omega) (by omega)).toF fun u H2 hg hu => ?_
      have hl2 := (hl.low.weak fun _ h => h.2).gr hg
      simp (disch := (first | assumption | omega | (simp only [List.length_append, List.length_cons, List.length_nil]; omega))) only [↓wD,wU,Nat.reduceBEq,zx150,zx151,zx159,zx160,zx161,zx162,Nat.reduceAdd,Nat.reduceSub,Nat.reduceMul,Nat.reduceLeDiff,Nat.reduceLT,Nat.reduceEqDiff,Int.reduceAdd,Int.reduceSub,Int.reduceMul,Int.reduceNeg,Int.reduceLT,Int.reduceLE,Int.reduceEq,Int.reduceToNat,Int.cast_ofNat_Int,↓reduceIte, *, hl.L, hl2.L]
      have ha0 : Acc H'.length (fun _ => True) H2 u ([] : List Int) := Acc_empty hu fun _ h => h
      refine Wp.for ls.length (fun i a H1 => ∃ u, a 6 = u ∧ a 25 = v ∧ a 26 = .i ls.length ∧ a 27 = .i i ∧ Gr H' H1 ∧ Acc H'.length (fun _ => True) H1 u (ls.take i).flatten) ?_ ?_
      · clear ha0 hu a0 a9 a10 a11 a3
        rintro i a H1 hi ⟨u, a6, a25, a26, a27, hg1, hu⟩ ih
        simp (disch := (first | assumption | omega | (simp only [List.length_append, List.length_cons, List.length_nil]; omega))) only [↓wD,wU,Nat.reduceBEq,zx150,zx151,zx159,zx160,zx161,zx162,Nat.reduceAdd,Nat.reduceSub,Nat.reduceMul,Nat.reduceLeDiff,Nat.reduceLT,Nat.reduceEqDiff,Int.reduceAdd,Int.reduceSub,Int.reduceMul,Int.reduceNeg,Int.reduceLT,Int.reduceLE,Int.reduceEq,Int.reduceToNat,Int.cast_ofNat_Int,↓reduceIte, *]
        refine condP_split (fun hlt => ?_) (fun hlt => ?_)
        · have hi' : i < ls.length := by omega
          have hl1 := (hl.low.weak fun _ h => h.2).gr hg1
          have g := hl1.get (k := (i : Int)) (by omega) (by omega)
          simp (disch := (first | assumption | omega | (simp only [List.length_append, List.length_cons, List.length_nil]; omega))) only [↓wD,wU,Nat.reduceBEq,zx150,zx151,zx159,zx160,zx161,zx162,Nat.reduceAdd,Nat.reduceSub,Nat.reduceMul,Nat.reduceLeDiff,Nat.reduceLT,Nat.reduceEqDiff,Int.reduceAdd,Int.reduceSub,Int.reduceMul,Int.reduceNeg,Int.reduceLT,Int.reduceLE,Int.reduceEq,Int.reduceToNat,Int.cast_ofNat_Int,↓reduceIte, *, hl1.L, g.I]
          refine hu.extend (Nat.le_refl _) (by have := hg1.1; omega) g (fun b hb => ⟨trivial, fun e => by have := hu.blk_lt e; omega⟩) ?_ (by omega) fun u' H3 hu' hk => ?_
          · have e := lsum_take hi'
            have hle2 := lsum_le (ls := ls) (i := i + 1)
            rw [len_flatten, ← e]; omega
          · simp (disch := (first | assumption | omega | (simp only [List.length_append, List.length_cons, List.length_nil]; omega))) only [↓wD,wU,Nat.reduceBEq,zx150,zx151,zx159,zx160,zx161,zx162,Nat.reduceAdd,Nat.reduceSub,Nat.reduceMul,Nat.reduceLeDiff,Nat.reduceLT,Nat.reduceEqDiff,Int.reduceAdd,Int.reduceSub,Int.reduceMul,Int.reduceNeg,Int.reduceLT,Int.reduceLE,Int.reduceEq,Int.reduceToNat,Int.cast_ofNat_Int,↓reduceIte, *]
            refine (ih hi').go ⟨u', ?_⟩
            simp (disch := (first | assumption | omega | (simp only [List.length_append, List.length_cons, List.length_nil]; omega))) only [↓wD,wU,Nat.reduceBEq,zx150,zx151,zx159,zx160,zx161,zx162,Nat.reduceAdd,Nat.reduceSub,Nat.reduceMul,Nat.reduceLeDiff,Nat.reduceLT,Nat.reduceEqDiff,Int.reduceAdd,Int.reduceSub,Int.reduceMul,Int.reduceNeg,Int.reduceLT,Int.reduceLE,Int.reduceEq,Int.reduceToNat,Int.cast_ofNat_Int,↓reduceIte, *]
            refine ⟨hg1.push hu (Nat.le_refl _) hk, ?_⟩
            rw [take_gi hi', List.flatten_append]
            simpa using hu'
        · obtain rfl : i = ls.length := by omega
          simp (disch := (first | assumption | omega | (simp only [List.length_append, List.length_cons, List.length_nil]; omega))) only [↓wD,wU,Nat.reduceBEq,zx150,zx151,zx159,zx160,zx161,zx162,Nat.reduceAdd,Nat.reduceSub,Nat.reduceMul,Nat.reduceLeDiff,Nat.reduceLT,Nat.reduceEqDiff,Int.reduceAdd,Int.reduceSub,Int.reduceMul,Int.reduceNeg,Int.reduceLT,Int.reduceLE,Int.reduceEq,Int.reduceToNat,Int.cast_ofNat_Int,↓reduceIte, *]
          rw [e] at hu
          rcases hu with h | ⟨b, o, c, k, e, hb, hk, h1, h2, h3⟩
          · exact .inl h
          · exact .inr ⟨b, o, c, k, e, .inr hb, hk, h1, h2, h3⟩
      · simp (disch := (first | assumption | omega | (simp only [List.length_append, List.length_cons, List.length_nil]; omega))) only [↓wD,wU,Nat.reduceBEq,zx150,zx151,zx159,zx160,zx161,zx162,Nat.reduceAdd,Nat.reduceSub,Nat.reduceMul,Nat.reduceLeDiff,Nat.reduceLT,Nat.reduceEqDiff,Int.reduceAdd,Int.reduceSub,Int.reduceMul,Int.reduceNeg,Int.reduceLT,Int.reduceLE,Int.reduceEq,Int.reduceToNat,Int.cast_ofNat_Int,↓reduceIte, *]
        exact ⟨u, rfl, by first | exact ha0 | exact ⟨hg, ha0⟩⟩
  · (simp (disch := (first | assumption | omega | (simp only [List.length_append, List.length_cons, List.length_nil]; omega))) only [↓wD,wU,Nat.reduceBEq,zx150,zx151,zx159,zx160,zx161,zx162,Nat.reduceAdd,Nat.reduceSub,Nat.reduceMul,Nat.reduceLeDiff,Nat.reduceLT,Nat.reduceEqDiff,Int.reduceAdd,Int.reduceSub,Int.reduceMul,Int.reduceNeg,Int.reduceLT,Int.reduceLE,Int.reduceEq,Int.reduceToNat,Int.cast_ofNat_Int,↓reduceIte, *]) <;> simp [lsum]
end Go.Proofs.YtjjndoigkhabdaaDoor
namespace Go.AM
open Go
/-- a row, and the value that stands for it -/
structure RW where
  v : AV
  xs : List Int
instance : Inhabited RW := ⟨⟨.nils, []⟩⟩
instance : Rep RW where
  sz := 1
  pos := Nat.one_pos
  rep p H cs r := cs = [r.v] ∧ Sl p H r.v r.xs
  len := by rintro p H cs x ⟨rfl, _⟩; rfl
  one := by rintro p H cs x ⟨rfl, h⟩; simp [h.one]
  mono := by rintro p q H H' cs x ⟨rfl, h⟩ hk hq; exact ⟨rfl, h.mono hk hq⟩
  pure := by rintro p q H H' cs x ⟨rfl, h⟩ hp; exact ⟨rfl, h.pure (by simpa [AV.pureAll] using hp)⟩
  low := by rintro p H cs x ⟨rfl, h⟩; exact ⟨rfl, h.low⟩
/-- in no block of the other one's -/
def Apart (a b : AV) : Prop := ∀ c, a.blk = some c → b.blk ≠ some c
/-- a table of the call's own, from L on; its rows apart -/
def TB (L : Nat) (H : Heap) (v : AV) (t : List (List Int)) : Prop :=
  ∃ rs : List RW, rs.map (·.xs) = t ∧ rs.Pairwise (fun a b => Apart a.v b.v) ∧ Acc L (fun b => L ≤ b) H v rs
section
variable {L lo : Nat} {p : Nat → Prop} {H H' : Heap} {v : AV} {t : List (List Int)}
theorem TB.nil : TB L H .nils [] := ⟨[], rfl, List.Pairwise.nil, Acc.nil⟩
theorem TB.accL (h : TB L H v t) : Acc L (fun b => L ≤ b) H v t := by
  obtain ⟨rs, rfl, _, h⟩ := h
  rcases h with ⟨rfl, rfl⟩ | ⟨b, o, c, k, rfl, hb, hk, h1, h2, h3⟩
  · exact .inl ⟨rfl, rfl⟩
  · refine .inr ⟨b, o, c, k, by rw [List.length_map]; rfl, hb, hk, by rw [List.length_map]; exact h1, by rwa [List.length_map], fun i hi => ?_⟩
    have hi' : i < rs.length := by simpa using hi
    obtain ⟨e, hs⟩ := h3 i hi'
    refine ⟨_, e, ?_⟩
    have e2 : (rs.map (·.xs))[i]'hi = rs[i].xs := by simp
    rw [e2]; exact hs
theorem TB.sl (h : TB L H v t) : Sl (fun b => L ≤ b) H v t := h.accL.sl.weak fun b h => h.elim id id
theorem TB.kp (h : TB L H v t) (hk : Kp (fun b => L ≤ b) H H') : TB L H' v t := by
  obtain ⟨rs, e, hn, h⟩ := h
  exact ⟨rs, e, hn, h.mono (hk.weak fun b hb => hb.elim id id) fun _ h => h⟩
theorem TB.gr (h : TB L H v t) (hg : Gr H H') : TB L H' v t := h.kp hg.all.weakT
theorem TB.blk_lt (h : TB L H v t) {b : Nat} (e : v.blk = some b) : L ≤ b ∧ b < H.length := h.accL.blk_lt e
theorem RW.lt {rs : List RW} (h : Acc L p H v rs) : ∀ r ∈ rs, ∀ c, r.v.blk = some c → c < H.length := by
  intro r hr c hc
  rcases h with ⟨rfl, rfl⟩ | ⟨b, o, c', k, rfl, hb, hk, h1, h2, h3⟩
  · cases hr
  · obtain ⟨i, hi, rfl⟩ := List.mem_iff_getElem.1 hr
    obtain ⟨_, h4⟩ := h3 i hi
    exact (h4.blkp hc).2
theorem TB.push {n : Nat} {y : AV} {x : List Int} {Q : AV × Heap → Prop} {H0 : Heap} (h : TB L H0 v t) (hg : Gr H0 H) (hlo : lo ≤ L) (hL : L ≤ H0.length) (hy : Sl (fun b => H0.length ≤ b) H y x) (hb : (t.length + 1) * 24 ≤ 1099511627776)
    (go : ∀ v' H', TB L H' v' (t ++ [x]) → Kp (fun b => v.blk ≠ some b) H H' → Q (v', H')) (hn : n = H.length := by first | rfl | simp) :
    @optP _ (appendV lo 1 24 v (.s 1 n 0 1 (some 1)) (H ++ [.cells [y]])) ⟨Q⟩ := by
  subst hn
  obtain ⟨rs, rfl, hn, ha⟩ := h
  have hrl := RW.lt ha
  refine Acc.push1 (α := RW) (q := fun b => H0.length ≤ b) (cs := [y]) (x := ⟨y, x⟩) (bytes := 24) (ha.gr hg) hlo (Nat.le_trans hL hg.1) ⟨rfl, hy⟩ (fun b hb => ⟨by omega, fun e => ?_⟩) (by simpa using hb) (by omega) fun v' H' h1 h2 _ _ => go v' H' ⟨rs ++ [⟨y, x⟩], by simp, ?_, h1⟩ h2
  · have := (ha.blk_lt e).2; omega
  · rw [List.pairwise_append]
    refine ⟨hn, List.pairwise_singleton _ _, ?_⟩
    intro a ha' b hb c hc e
    simp at hb
    subst hb
    have h1 := hrl a ha' c hc
    have h2 := (hy.blkp e).1
    omega
/-- row i, written in place -/
theorem TB.row (h : TB L H v t) {i : Nat} (hi : i < t.length) : ∃ y, v.get H (i : Int) = y ∧ ldA H none (v.at 1 (i : Int)) = some y ∧ Sl (fun b => L ≤ b) H y (gi t (i : Int)) ∧ (∀ b, v.blk = some b → y.blk ≠ some b) ∧
    ∀ H' x', Kx (fun b => y.blk ≠ some b) H H' → Sl (fun b => L ≤ b) H' y x' → TB L H' v (t.set i x') := by
  have g := h.sl.get (k := (i : Int)) (by omega) (by omega)
  have gl := (h.sl.ld_get (k := (i : Int)) (by omega) (by omega)).1
  refine ⟨_, rfl, gl, g, ?_, ?_⟩
  · intro b hb
    obtain ⟨rs, rfl, hn, ha⟩ := h
    rcases ha with ⟨rfl, rfl⟩ | ⟨b1, o, c, k, rfl, hb1, hk, h1, h2, h3⟩
    · simp at hi
    · have hi' : i < rs.length := by simpa using hi
      obtain ⟨e, h4⟩ := h3 i hi'
      change (k.drop (o + i * 1)).take 1 = _ at e
      have e2 := take1 e
      have eg : AV.get H (.s (Rep.sz RW) b1 o rs.length c) (i : Int) = rs[i].v := by
        change (ld H b1 (o + i * 1)).getD .un = _
        simp only [ld, hk, e2]; rfl
      rw [eg]
      cases hb
      intro q
      exact (h4.blkp q).1.2 rfl
  · intro H' x' hx hs
    obtain ⟨rs, rfl, hn, ha⟩ := h
    rcases ha with ⟨rfl, rfl⟩ | ⟨b1, o, c, k, rfl, hb1, hk, h1, h2, h3⟩
    · simp at hi
    · have hi' : i < rs.length := by simpa using hi
      obtain ⟨e, h4⟩ := h3 i hi'
      change (k.drop (o + i * 1)).take 1 = _ at e
      have e2 := take1 e
      have eg : AV.get H (.s (Rep.sz RW) b1 o rs.length c) (i : Int) = rs[i].v := by
        change (ld H b1 (o + i * 1)).getD .un = _
        simp only [ld, hk, e2]; rfl
      rw [eg] at hx hs
      have hne : ∀ q, rs[i].v.blk = some q → q ≠ b1 := fun q hq => (h4.blkp hq).1.2
      refine ⟨rs.set i ⟨rs[i].v, x'⟩, by simp [List.map_set], ?_, .inr ⟨b1, o, c, k, by rw [List.length_set], hb1, hx.get (fun q => hne _ q rfl) hk, by rw [List.length_set]; exact h1, by rw [List.length_set]; exact h2, fun j hj => ?_⟩⟩
      · rw [List.pairwise_iff_getElem] at hn ⊢
        intro a b ha hb hab
        have e1 : ∀ m (hm : m < (rs.set i ⟨rs[i].v, x'⟩).length), (rs.set i ⟨rs[i].v, x'⟩)[m].v = (rs[m]'(by simpa using hm)).v := by
          intro m hm
          simp only [List.getElem_set]
          split
          · rename_i q; subst q; rfl
          · rfl
        rw [e1 a ha, e1 b hb]
        exact hn a b _ _ hab
      · have hj' : j < rs.length := by simpa using hj
        by_cases q : i = j
        · subst q
          simp only [List.getElem_set_self]
          exact ⟨e, hs.own.weak (q := fun b => rs[i].v.blk = some b) (fun _ h => h) |>.weak fun b hb => ⟨(hs.blkp hb).1, hne b hb⟩⟩
        · rw [List.getElem_set_ne q]
          obtain ⟨ej, hj4⟩ := h3 j hj'
          refine ⟨ej, (hj4.own.kp (hx.weak (q := fun b => rs[j].v.blk = some b) fun b _ hb => ?_).kp).weak fun b hb => (hj4.blkp hb).1⟩
          rw [List.pairwise_iff_getElem] at hn
          rcases Nat.lt_or_gt_of_ne q with ql | ql
          · exact fun e => hn i j hi' hj' ql b e hb
          · exact fun e => hn j i hj' hi' ql b hb e
/-- a table of the call's own, as a result -/
structure TW where
  t : List (List Int)
instance : RV TW where
  rv p H v x := ∃ rs : List RW, rs.map (·.xs) = x.t ∧ rs.Pairwise (fun a b => Apart a.v b.v) ∧ ((v = .nils ∧ rs = []) ∨ ∃ b o c k, v = .s 1 b o rs.length c ∧ p b ∧ H[b]? = some (.cells k) ∧ o + rs.length ≤ k.length ∧ rs.length ≤ 9223372036854775807 ∧ ∀ (i : Nat) (h : i < rs.length), Rep.rep (fun b' => p b' ∧ b' ≠ b) H ((k.drop (o + i)).take 1) rs[i])
  mono := by
    rintro p q H H' v x ⟨rs, e, hn, h⟩ hk hq
    refine ⟨rs, e, hn, ?_⟩
    rcases h with h | ⟨b, o, c, k, rfl, hb, hk1, h1, h2, h3⟩
    · exact .inl h
    · exact .inr ⟨b, o, c, k, rfl, hq b hb, hk.2 b k hb hk1, h1, h2, fun i hi => Rep.mono (h3 i hi) (hk.weak fun _ h => h.1) fun b h => ⟨hq b h.1, h.2⟩⟩
  pure := by
    rintro p q H H' v x ⟨rs, e, hn, h⟩ hp
    rcases h with h | ⟨b, o, c, k, rfl, _⟩
    · exact ⟨rs, e, hn, .inl h⟩
    · simp [AV.pure] at hp
theorem TB.rv (h : TB L H v t) (hp : ∀ b, L ≤ b → p b) : RV.rv p H v (TW.mk t) := by
  obtain ⟨rs, e, hn, h⟩ := h
  refine ⟨rs, e, hn, ?_⟩
  rcases h with h | ⟨b, o, c, k, rfl, hb, hk1, h1, h2, h3⟩
  · exact .inl h
  · refine .inr ⟨b, o, c, k, rfl, hp b hb, hk1, by change o + rs.length * 1 ≤ _ at h1; simpa using h1, h2, fun i hi => ?_⟩
    have := h3 i hi
    change Rep.rep _ H ((k.drop (o + i * 1)).take 1) _ at this
    rw [Nat.mul_one] at this
    exact Rep.mono this (Kp.refl _ _) fun b h => ⟨hp b h.1, h.2⟩
theorem TB.of (h : RV.rv p H v (TW.mk t)) (hp : ∀ b, p b → L ≤ b) : TB L H v t := by
  obtain ⟨rs, e, hn, h⟩ := h
  refine ⟨rs, e, hn, ?_⟩
  rcases h with h | ⟨b, o, c, k, rfl, hb, hk1, h1, h2, h3⟩
  · exact .inl h
  · refine .inr ⟨b, o, c, k, rfl, hp b hb, hk1, by change o + rs.length * 1 ≤ _; simpa using h1, h2, fun i hi => ?_⟩
    change Rep.rep _ H ((k.drop (o + i * 1)).take 1) _
    rw [Nat.mul_one]
    exact Rep.mono (h3 i hi) (Kp.refl _ _) fun b h => ⟨hp b h.1, h.2⟩
end
/-- cells o to o + n, turned over, behind i swaps -/
def revC (k : List AV) (o n i : Nat) : List AV := (List.range k.length).map fun j => if (o ≤ j ∧ j < o + i) ∨ (o + n ≤ j + i ∧ j < o + n) then (k[o + (o + n - 1 - j)]?).getD .un else (k[j]?).getD .un
section
variable {k : List AV} {o n i j : Nat}
theorem revC_len : (revC k o n i).length = k.length := by simp [revC]
theorem revC_get (h : j < k.length) : (revC k o n i)[j]? = some (if (o ≤ j ∧ j < o + i) ∨ (o + n ≤ j + i ∧ j < o + n) then (k[o + (o + n - 1 - j)]?).getD .un else (k[j]?).getD .un) := by
  unfold revC
  rw [List.getElem?_map, List.getElem?_range h]; rfl
theorem revC_0 : revC k o n 0 = k := by
  apply List.ext_getElem? 
  intro j
  by_cases h : j < k.length
  · rw [revC_get h, if_neg (by omega), List.getElem?_eq_getElem h]; rfl
  · rw [List.getElem?_eq_none (by rw [revC_len]; omega), List.getElem?_eq_none (by omega)]
theorem revC_mid (h : o + n ≤ k.length) (h1 : i ≤ j) (h2 : j + i + 1 ≤ n) : (revC k o n i)[o + j]? = k[o + j]? := by
  rw [revC_get (by omega), if_neg (by omega), List.getElem?_eq_getElem (by omega)]; rfl
theorem revC_step {m : Nat} {x y : AV} (him : i < m) (hk : o + (i + 1 + m) ≤ k.length) (hx : k[o + i]? = some x) (hy : k[o + m]? = some y) : ((revC k o (i + 1 + m) i).set (o + i) y).set (o + m) x = revC k o (i + 1 + m) (i + 1) := by
  apply List.ext_getElem?
  intro j
  by_cases h : j < k.length
  · rw [List.getElem?_set, List.getElem?_set, revC_get h, revC_get h]
    simp only [List.length_set, revC_len]
    by_cases e1 : o + m = j
    · subst e1
      rw [if_pos rfl, if_pos h, if_pos (by omega), show o + (o + (i + 1 + m) - 1 - (o + m)) = o + i by omega, hx]; rfl
    · rw [if_neg e1]
      by_cases e2 : o + i = j
      · subst e2
        rw [if_pos rfl, if_pos h, if_pos (by omega), show o + (o + (i + 1 + m) - 1 - (o + i)) = o + m by omega, hy]; rfl
      · rw [if_neg e2]
        by_cases c : (o ≤ j ∧ j < o + i) ∨ (o + (i + 1 + m) ≤ j + i ∧ j < o + (i + 1 + m))
        · rw [if_pos c, if_pos (by omega)]
        · rw [if_neg c, if_neg (by omega)]
  · rw [List.getElem?_eq_none (by simp [revC_len]; omega), List.getElem?_eq_none (by rw [revC_len]; omega)]
theorem revC_end (h : o + n ≤ k.length) (h1 : n ≤ i + i + 1) (hj : j < n) : (revC k o n i)[o + j]? = k[o + (n - 1 - j)]? := by
  rw [revC_get (by omega)]
  by_cases c : (o ≤ o + j ∧ o + j < o + i) ∨ (o + n ≤ o + j + i ∧ o + j < o + n)
  · rw [if_pos c, show o + (o + n - 1 - (o + j)) = o + (n - 1 - j) by omega, List.getElem?_eq_getElem (by omega)]; rfl
  · rw [if_neg c, show o + j = o + (n - 1 - j) by omega, List.getElem?_eq_getElem (by omega)]; rfl
end
end Go.AM
namespace Go.Proofs.YtjjndoigkhabdaaDoor
open Go Go.AM Go.Proofs
theorem rev1_raw {lo b o n : Nat} {c : Option Nat} {k : List AV} {H : Heap} (hb : H[b]? = some (.cells k)) (hlo : lo ≤ b) (hk : o + n ≤ k.length) (hn : n ≤ 1000000) (h1 : ∀ j, j < n → ∃ x, k[o + j]? = some x ∧ x.cells = [x] ∧ x.one = true) :
    WpF E lo 79 [.s 1 b o n c] H fun _ H' => ∃ k', H' = H.set b (.cells k') ∧ k'.length = k.length ∧ ∀ j, j < n → k'[o + j]? = k[o + (n - 1 - j)]? := by
  refine WpF.wrt rfl fn79 rfl ?_
  unfold f79A
  have hn1 : (n : Int) ≤ 1000000 := by omega
  simp (disch := (first | assumption | omega | (simp only [List.length_append, List.length_cons, List.length_nil]; omega))) only [↓wD,wU,Nat.reduceBEq,zx150,zx151,zx159,zx160,zx161,zx162,Nat.reduceAdd,Nat.reduceSub,Nat.reduceMul,Nat.reduceLeDiff,Nat.reduceLT,Nat.reduceEqDiff,Int.reduceAdd,Int.reduceSub,Int.reduceMul,Int.reduceNeg,Int.reduceLT,Int.reduceLE,Int.reduceEq,Int.reduceToNat,Int.cast_ofNat_Int,↓reduceIte]
  refine Wp.for n (fun i a H' => a 0 = .s 1 b o n c ∧ a 2 = .i i ∧ a 3 = .i ((n : Int) - 1 - i) ∧ H' = H.set b (.cells (revC k o n i)) ∧ i + i ≤ n + 1) ?_ ?_
  · rintro i a H' hi ⟨a0, a2, a3, rfl, hii⟩ ih
    have gH := get_set (k := .cells (revC k o n i)) hb
    simp (disch := (first | assumption | omega | (simp only [List.length_append, List.length_cons, List.length_nil]; omega))) only [↓wD,wU,Nat.reduceBEq,zx150,zx151,zx159,zx160,zx161,zx162,Nat.reduceAdd,Nat.reduceSub,Nat.reduceMul,Nat.reduceLeDiff,Nat.reduceLT,Nat.reduceEqDiff,Int.reduceAdd,Int.reduceSub,Int.reduceMul,Int.reduceNeg,Int.reduceLT,Int.reduceLE,Int.reduceEq,Int.reduceToNat,Int.cast_ofNat_Int,↓reduceIte, a0, a2, a3]
    refine condP_split (fun hlt => ?_) (fun hlt => ?_)
    · obtain ⟨m, rfl⟩ : ∃ m, n = i + 1 + m := ⟨n - (i + 1), by omega⟩
      have em : ((i + 1 + m : Nat) : Int) - 1 - i = (m : Int) := by omega
      have him : i < m := by omega
      obtain ⟨x, x1, x2, x3⟩ := h1 i (by omega)
      obtain ⟨y, y1, y2, y3⟩ := h1 m (by omega)
      have r1 : (revC k o (i + 1 + m) i)[o + i]? = some x := by rw [revC_mid (by omega) (by omega) (by omega)]; exact x1
      have r2 : (revC k o (i + 1 + m) i)[o + m]? = some y := by rw [revC_mid (by omega) (by omega) (by omega)]; exact y1
      have i1 := zx178 (es := 1) (b := b) (o := o) (n := i + 1 + m) (c := c) (k := .i64) (i := (i : Int)) (by omega) (by omega)
      have i2 := zx178 (es := 1) (b := b) (o := o) (n := i + 1 + m) (c := c) (k := .i64) (i := (m : Int)) (by omega) (by omega)
      rw [Int.toNat_natCast, Nat.mul_one] at i1 i2
      rw [em] at a3
      have w1 : st lo (H.set b (.cells (revC k o (i + 1 + m) i))) b (o + i) [y] = some ((H.set b (.cells (revC k o (i + 1 + m) i))).set b (.cells ((revC k o (i + 1 + m) i).set (o + i) y))) := by
        rw [st_of gH hlo (by rw [revC_len]; simp; omega)]; simp [wr]
      have g2 := get_set (k := .cells ((revC k o (i + 1 + m) i).set (o + i) y)) gH
      have w2 : st lo ((H.set b (.cells (revC k o (i + 1 + m) i))).set b (.cells ((revC k o (i + 1 + m) i).set (o + i) y))) b (o + m) [x] = some (((H.set b (.cells (revC k o (i + 1 + m) i))).set b (.cells ((revC k o (i + 1 + m) i).set (o + i) y))).set b (.cells (((revC k o (i + 1 + m) i).set (o + i) y).set (o + m) x))) := by
        rw [st_of g2 hlo (by rw [List.length_set, revC_len]; simp; omega)]; simp [wr]
      have es : ((H.set b (.cells (revC k o (i + 1 + m) i))).set b (.cells ((revC k o (i + 1 + m) i).set (o + i) y))).set b (.cells (((revC k o (i + 1 + m) i).set (o + i) y).set (o + m) x)) = H.set b (.cells (revC k o (i + 1 + m) (i + 1))) := by
        rw [List.set_set, List.set_set, revC_step him (by omega) x1 y1]
      simp (disch := (first | assumption | omega | (simp only [List.length_append, List.length_cons, List.length_nil]; omega))) only [↓wD,wU,Nat.reduceBEq,zx150,zx151,zx159,zx160,zx161,zx162,Nat.reduceAdd,Nat.reduceSub,Nat.reduceMul,Nat.reduceLeDiff,Nat.reduceLT,Nat.reduceEqDiff,Int.reduceAdd,Int.reduceSub,Int.reduceMul,Int.reduceNeg,Int.reduceLT,Int.reduceLE,Int.reduceEq,Int.reduceToNat,Int.cast_ofNat_Int,↓reduceIte, a0, a2, a3, i1, i2, ld_of gH, r1, r2, x2, x3, y2, y3, w1, w2, es]
      refine (ih (by omega)).go ?_
      simp (disch := (first | assumption | omega | (simp only [List.length_append, List.length_cons, List.length_nil]; omega))) only [↓wD,wU,Nat.reduceBEq,zx150,zx151,zx159,zx160,zx161,zx162,Nat.reduceAdd,Nat.reduceSub,Nat.reduceMul,Nat.reduceLeDiff,Nat.reduceLT,Nat.reduceEqDiff,Int.reduceAdd,Int.reduceSub,Int.reduceMul,Int.reduceNeg,Int.reduceLT,Int.reduceLE,Int.reduceEq,Int.reduceToNat,Int.cast_ofNat_Int,↓reduceIte, a0, a2, a3]
      refine ⟨?_, by omega⟩
      congr 1; omega
    · simp (disch := (first | assumption | omega | (simp only [List.length_append, List.length_cons, List.length_nil]; omega))) only [↓wD,wU,Nat.reduceBEq,zx150,zx151,zx159,zx160,zx161,zx162,Nat.reduceAdd,Nat.reduceSub,Nat.reduceMul,Nat.reduceLeDiff,Nat.reduceLT,Nat.reduceEqDiff,Int.reduceAdd,Int.reduceSub,Int.reduceMul,Int.reduceNeg,Int.reduceLT,Int.reduceLE,Int.reduceEq,Int.reduceToNat,Int.cast_ofNat_Int,↓reduceIte, a0, a2, a3]
      exact ⟨_, rfl, revC_len, fun j hj => revC_end (by omega) (by omega) hj⟩
  · simp (disch := (first | assumption | omega | (simp only [List.length_append, List.length_cons, List.length_nil]; omega))) only [↓wD,wU,Nat.reduceBEq,zx150,zx151,zx159,zx160,zx161,zx162,Nat.reduceAdd,Nat.reduceSub,Nat.reduceMul,Nat.reduceLeDiff,Nat.reduceLT,Nat.reduceEqDiff,Int.reduceAdd,Int.reduceSub,Int.reduceMul,Int.reduceNeg,Int.reduceLT,Int.reduceLE,Int.reduceEq,Int.reduceToNat,Int.cast_ofNat_Int,↓reduceIte]
    refine ⟨by simp, ?_⟩
    rw [revC_0]
    exact (List.ext_getElem? fun j => by
      by_cases e : b = j
      · subst e; rw [hb, get_set hb]
      · rw [List.getElem?_set_ne e])
theorem rev2_raw {lo b o n : Nat} {c : Option Nat} {k : List AV} {H : Heap} (hb : H[b]? = some (.cells k)) (hlo : lo ≤ b) (hk : o + n ≤ k.length) (hn : n ≤ 1000000) (h1 : ∀ j, j < n → ∃ x, k[o + j]? = some x ∧ x.cells = [x] ∧ x.one = true) :
    WpF E lo 78 [.s 1 b o n c] H fun _ H' => ∃ k', H' = H.set b (.cells k') ∧ k'.length = k.length ∧ ∀ j, j < n → k'[o + j]? = k[o + (n - 1 - j)]? := by
  refine WpF.wrt rfl fn78 rfl ?_
  unfold f78A
  have hn1 : (n : Int) ≤ 1000000 := by omega
  simp (disch := (first | assumption | omega | (simp only [List.length_append, List.length_cons, List.length_nil]; omega))) only [↓wD,wU,Nat.reduceBEq,zx150,zx151,zx159,zx160,zx161,zx162,Nat.reduceAdd,Nat.reduceSub,Nat.reduceMul,Nat.reduceLeDiff,Nat.reduceLT,Nat.reduceEqDiff,Int.reduceAdd,Int.reduceSub,Int.reduceMul,Int.reduceNeg,Int.reduceLT,Int.reduceLE,Int.reduceEq,Int.reduceToNat,Int.cast_ofNat_Int,↓reduceIte]
  refine Wp.for n (fun i a H' => a 0 = .s 1 b o n c ∧ a 2 = .i i ∧ a 3 = .i ((n : Int) - 1 - i) ∧ H' = H.set b (.cells (revC k o n i)) ∧ i + i ≤ n + 1) ?_ ?_
  · rintro i a H' hi ⟨a0, a2, a3, rfl, hii⟩ ih
    have gH := get_set (k := .cells (revC k o n i)) hb
    simp (disch := (first | assumption | omega | (simp only [List.length_append, List.length_cons, List.length_nil]; omega))) only [↓wD,wU,Nat.reduceBEq,zx150,zx151,zx159,zx160,zx161,zx162,Nat.reduceAdd,Nat.reduceSub,Nat.reduceMul,Nat.reduceLeDiff,Nat.reduceLT,Nat.reduceEqDiff,Int.reduceAdd,Int.reduceSub,Int.reduceMul,Int.reduceNeg,Int.reduceLT,Int.reduceLE,Int.reduceEq,Int.reduceToNat,Int.cast_ofNat_Int,↓reduceIte, a0, a2, a3]
    refine condP_split (fun hlt => ?_) (fun hlt => ?_)
    · obtain ⟨m, rfl⟩ : ∃ m, n = i + 1 + m := ⟨n - (i + 1), by omega⟩
      have em : ((i + 1 + m : Nat) : Int) - 1 - i = (m : Int) := by omega
      have him : i < m := by omega
      obtain ⟨x, x1, x2, x3⟩ := h1 i (by omega)
      obtain ⟨y, y1, y2, y3⟩ := h1 m (by omega)
      have r1 : (revC k o (i + 1 + m) i)[o + i]? = some x := by rw [revC_mid (by omega) (by omega) (by omega)]; exact x1
      have r2 : (revC k o (i + 1 + m) i)[o + m]? = some y := by rw [revC_mid (by omega) (by omega) (by omega)]; exact y1
      have i1 := zx178 (es := 1) (b := b) (o := o) (n := i + 1 + m) (c := c) (k := .i64) (i := (i : Int)) (by omega) (by omega)
      have i2 := zx178 (es := 1) (b := b) (o := o) (n := i + 1 + m) (c := c) (k := .i64) (i := (m : Int)) (by omega) (by omega)
      rw [Int.toNat_natCast, Nat.mul_one] at i1 i2
      rw [em] at a3
      have w1 : st lo (H.set b (.cells (revC k o (i + 1 + m) i))) b (o + i) [y] = some ((H.set b (.cells (revC k o (i + 1 + m) i))).set b (.cells ((revC k o (i + 1 + m) i).set (o + i) y))) := by
        rw [st_of gH hlo (by rw [revC_len]; simp; omega)]; simp [wr]
      have g2 := get_set (k := .cells ((revC k o (i + 1 + m) i).set (o + i) y)) gH
      have w2 : st lo ((H.set b (.cells (revC k o (i + 1 + m) i))).set b (.cells ((revC k o (i + 1 + m) i).set (o + i) y))) b (o + m) [x] = some (((H.set b (.cells (revC k o (i + 1 + m) i))).set b (.cells ((revC k o (i + 1 + m) i).set (o + i) y))).set b (.cells (((revC k o (i + 1 + m) i).set (o + i) y).set (o + m) x))) := by
        rw [st_of g2 hlo (by rw [List.length_set, revC_len]; simp; omega)]; simp [wr]
      have es : ((H.set b (.cells (revC k o (i + 1 + m) i))).set b (.cells ((revC k o (i + 1 + m) i).set (o + i) y))).set b (.cells (((revC k o (i + 1 + m) i).set (o + i) y).set (o + m) x)) = H.set b (.cells (revC k o (i + 1 + m) (i + 1))) := by
        rw [List.set_set, List.set_set, revC_step him (by omega) x1 y1]
      simp (disch := (first | assumption | omega | (simp only [List.length_append, List.length_cons, List.length_nil]; omega))) only [↓wD,wU,Nat.reduceBEq,zx150,zx151,zx159,zx160,zx161,zx162,Nat.reduceAdd,Nat.reduceSub,Nat.reduceMul,Nat.reduceLeDiff,Nat.reduceLT,Nat.reduceEqDiff,Int.reduceAdd,Int.reduceSub,Int.reduceMul,Int.reduceNeg,Int.reduceLT,Int.reduceLE,Int.reduceEq,Int.reduceToNat,Int.cast_ofNat_Int,↓reduceIte, a0, a2, a3, i1, i2, ld_of gH, r1, r2, x2, x3, y2, y3, w1, w2, es]
      refine (ih (by omega)).go ?_
      simp (disch := (first | assumption | omega | (simp only [List.length_append, List.length_cons, List.length_nil]; omega))) only [↓wD,wU,Nat.reduceBEq,zx150,zx151,zx159,zx160,zx161,zx162,Nat.reduceAdd,Nat.reduceSub,Nat.reduceMul,Nat.reduceLeDiff,Nat.reduceLT,Nat.reduceEqDiff,Int.reduceAdd,Int.reduceSub,Int.reduceMul,Int.reduceNeg,Int.reduceLT,Int.reduceLE,Int.reduceEq,Int.reduceToNat,Int.cast_ofNat_Int,↓reduceIte, a0, a2, a3]
      refine ⟨?_, by omega⟩
      congr 1; omega
    · simp (disch := (first | assumption | omega | (simp only [List.length_append, List.length_cons, List.length_nil]; omega))) only [↓wD,wU,Nat.reduceBEq,zx150,zx151,zx159,zx160,zx161,zx162,Nat.reduceAdd,Nat.reduceSub,Nat.reduceMul,Nat.reduceLeDiff,Nat.reduceLT,Nat.reduceEqDiff,Int.reduceAdd,Int.reduceSub,Int.reduceMul,Int.reduceNeg,Int.reduceLT,Int.reduceLE,Int.reduceEq,Int.reduceToNat,Int.cast_ofNat_Int,↓reduceIte, a0, a2, a3]
      exact ⟨_, rfl, revC_len, fun j hj => revC_end (by omega) (by omega) hj⟩
  · simp (disch := (first | assumption | omega | (simp only [List.length_append, List.length_cons, List.length_nil]; omega))) only [↓wD,wU,Nat.reduceBEq,zx150,zx151,zx159,zx160,zx161,zx162,Nat.reduceAdd,Nat.reduceSub,Nat.reduceMul,Nat.reduceLeDiff,Nat.reduceLT,Nat.reduceEqDiff,Int.reduceAdd,Int.reduceSub,Int.reduceMul,Int.reduceNeg,Int.reduceLT,Int.reduceLE,Int.reduceEq,Int.reduceToNat,Int.cast_ofNat_Int,↓reduceIte]
    refine ⟨by simp, ?_⟩
    rw [revC_0]
    exact (List.ext_getElem? fun j => by
      by_cases e : b = j
      · subst e; rw [hb, get_set hb]
      · rw [List.getElem?_set_ne e])
theorem rev1_nil {lo : Nat} {H : Heap} : WpF E lo 79 [.nils] H fun _ H' => H' = H := by
  refine WpF.wrt rfl fn79 rfl ?_
  unfold f79A
  simp (disch := (first | assumption | omega | (simp only [List.length_append, List.length_cons, List.length_nil]; omega))) only [↓wD,wU,Nat.reduceBEq,zx150,zx151,zx159,zx160,zx161,zx162,Nat.reduceAdd,Nat.reduceSub,Nat.reduceMul,Nat.reduceLeDiff,Nat.reduceLT,Nat.reduceEqDiff,Int.reduceAdd,Int.reduceSub,Int.reduceMul,Int.reduceNeg,Int.reduceLT,Int.reduceLE,Int.reduceEq,Int.reduceToNat,Int.cast_ofNat_Int,↓reduceIte]
  refine Wp.for 0 (fun i a H' => a 2 = .i 0 ∧ a 3 = .i (-1) ∧ H' = H) ?_ ?_
  · rintro i a H' hi ⟨a2, a3, rfl⟩ ih
    simp (disch := (first | assumption | omega | (simp only [List.length_append, List.length_cons, List.length_nil]; omega))) only [↓wD,wU,Nat.reduceBEq,zx150,zx151,zx159,zx160,zx161,zx162,Nat.reduceAdd,Nat.reduceSub,Nat.reduceMul,Nat.reduceLeDiff,Nat.reduceLT,Nat.reduceEqDiff,Int.reduceAdd,Int.reduceSub,Int.reduceMul,Int.reduceNeg,Int.reduceLT,Int.reduceLE,Int.reduceEq,Int.reduceToNat,Int.cast_ofNat_Int,↓reduceIte, a2, a3]
  · simp (disch := (first | assumption | omega | (simp only [List.length_append, List.length_cons, List.length_nil]; omega))) only [↓wD,wU,Nat.reduceBEq,zx150,zx151,zx159,zx160,zx161,zx162,Nat.reduceAdd,Nat.reduceSub,Nat.reduceMul,Nat.reduceLeDiff,Nat.reduceLT,Nat.reduceEqDiff,Int.reduceAdd,Int.reduceSub,Int.reduceMul,Int.reduceNeg,Int.reduceLT,Int.reduceLE,Int.reduceEq,Int.reduceToNat,Int.cast_ofNat_Int,↓reduceIte]
theorem rev2_nil {lo : Nat} {H : Heap} : WpF E lo 78 [.nils] H fun _ H' => H' = H := by
  refine WpF.wrt rfl fn78 rfl ?_
  unfold f78A
  simp (disch := (first | assumption | omega | (simp only [List.length_append, List.length_cons, List.length_nil]; omega))) only [↓wD,wU,Nat.reduceBEq,zx150,zx151,zx159,zx160,zx161,zx162,Nat.reduceAdd,Nat.reduceSub,Nat.reduceMul,Nat.reduceLeDiff,Nat.reduceLT,Nat.reduceEqDiff,Int.reduceAdd,Int.reduceSub,Int.reduceMul,Int.reduceNeg,Int.reduceLT,Int.reduceLE,Int.reduceEq,Int.reduceToNat,Int.cast_ofNat_Int,↓reduceIte]
  refine Wp.for 0 (fun i a H' => a 2 = .i 0 ∧ a 3 = .i (-1) ∧ H' = H) ?_ ?_
  · rintro i a H' hi ⟨a2, a3, rfl⟩ ih
    simp (disch := (first | assumption | omega | (simp only [List.length_append, List.length_cons, List.length_nil]; omega))) only [↓wD,wU,Nat.reduceBEq,zx150,zx151,zx159,zx160,zx161,zx162,Nat.reduceAdd,Nat.reduceSub,Nat.reduceMul,Nat.reduceLeDiff,Nat.reduceLT,Nat.reduceEqDiff,Int.reduceAdd,Int.reduceSub,Int.reduceMul,Int.reduceNeg,Int.reduceLT,Int.reduceLE,Int.reduceEq,Int.reduceToNat,Int.cast_ofNat_Int,↓reduceIte, a2, a3]
  · simp (disch := (first | assumption | omega | (simp only [List.length_append, List.length_cons, List.length_nil]; omega))) only [↓wD,wU,Nat.reduceBEq,zx150,zx151,zx159,zx160,zx161,zx162,Nat.reduceAdd,Nat.reduceSub,Nat.reduceMul,Nat.reduceLeDiff,Nat.reduceLT,Nat.reduceEqDiff,Int.reduceAdd,Int.reduceSub,Int.reduceMul,Int.reduceNeg,Int.reduceLT,Int.reduceLE,Int.reduceEq,Int.reduceToNat,Int.cast_ofNat_Int,↓reduceIte]
/-- a slice of one-cell elements, turned over in place -/
theorem acc_rev {α : Type} [Rep α] (hsz : Rep.sz α = 1) {L lo f : Nat} {p : Nat → Prop} {H : Heap} {v : AV} {xs : List α} (h : Acc L p H v xs) (hlo : lo ≤ L) (hl : xs.length ≤ 1000000) {Q : AV → Heap → Prop}
    (hnil : v = .nils → WpF E lo f [.nils] H fun _ H' => H' = H)
    (hf : ∀ {b o n : Nat} {c : Option Nat} {k : List AV} {H : Heap}, H[b]? = some (.cells k) → lo ≤ b → o + n ≤ k.length → n ≤ 1000000 → (∀ j, j < n → ∃ x, k[o + j]? = some x ∧ x.cells = [x] ∧ x.one = true) →
      WpF E lo f [.s 1 b o n c] H fun _ H' => ∃ k', H' = H.set b (.cells k') ∧ k'.length = k.length ∧ ∀ j, j < n → k'[o + j]? = k[o + (n - 1 - j)]?)
    (go : ∀ w H', Kx (fun b => v.blk ≠ some b) H H' → Acc L p H' v xs.reverse → H'.length = H.length → Q w H') : WpF E lo f [v] H Q := by
  rcases h with ⟨rfl, rfl⟩ | ⟨b, o, c, k, rfl, hb, hk, h1, h2, h3⟩
  · exact (hnil rfl).mono fun w H' e => by subst e; exact go w _ (Kx.refl _ _) Acc.nil rfl
  · rw [hsz] at h1 h3
    rw [Nat.mul_one] at h1
    have hcell : ∀ j (hj : j < xs.length), ∃ x, k[o + j]? = some x ∧ Rep.rep (fun b' => p b' ∧ b' ≠ b) H [x] xs[j] := fun j hj => by
      have := h3 j hj
      rw [Nat.mul_one] at this
      have hlen := Rep.len this
      rw [hsz] at hlen
      obtain ⟨x, hx⟩ : ∃ x, (k.drop (o + j)).take 1 = [x] := by
        match h : (k.drop (o + j)).take 1, hlen with
        | [x], _ => exact ⟨x, rfl⟩
      rw [hx] at this
      exact ⟨x, take1 hx, this⟩
    have hone : ∀ j, j < xs.length → ∃ x, k[o + j]? = some x ∧ x.cells = [x] ∧ x.one = true := fun j hj => by
      obtain ⟨x, e, hr⟩ := hcell j hj
      have h1 := Rep.one hr
      simp only [List.all_cons, List.all_nil, Bool.and_true] at h1
      exact ⟨x, e, (by cases x <;> first | rfl | (cases h1; done)), h1⟩
    have := hf (c := c) hk (by omega) h1 hl hone
    have hsv : AV.s (Rep.sz α) b o xs.length c = .s 1 b o xs.length c := by rw [hsz]
    rw [hsv] at go ⊢
    refine this.mono ?_
    rintro w H' ⟨k', rfl, hk', hj⟩
    refine go w _ ((Kx.set b H _).weak fun b' _ h e => h (by simp [AV.blk, e])) (.inr ⟨b, o, c, k', by rw [hsz, List.length_reverse], hb, get_set hk, by rw [List.length_reverse, hsz]; omega, by rwa [List.length_reverse], fun i hi => ?_⟩) (by simp)
    have hi' : i < xs.length := by simpa using hi
    obtain ⟨x, e, hr⟩ := hcell (xs.length - 1 - i) (by omega)
    have e2 := hj i hi'
    rw [e] at e2
    have e3 : (k'.drop (o + i * 1)).take 1 = [x] := by rw [Nat.mul_one, List.take_one, List.head?_drop, e2]; rfl
    rw [hsz, e3, List.getElem_reverse]
    exact Rep.mono hr ((Kp.set b H _).weak fun b' h => h.2) fun _ h => h
end Go.Proofs.YtjjndoigkhabdaaDoor
namespace Go.Proofs.YtjjndoigkhabdaaDoor
open Go Go.AM Go.Proofs
/-! ### Sums -/
theorem blk_small : ∀ x, x < 32 → (blkL x).all (fun y => decide (0 ≤ y ∧ y ≤ 5)) = true ∧ decide ((blkL x).length ≤ 5) = true := by decide +kernel
theorem clue_small {n : Int} {c : List Int} (h : ClueP n c) : (∀ y ∈ c, 0 ≤ y ∧ y ≤ 5) ∧ c.length ≤ 5 := by
  obtain ⟨m, rfl, m1, m5⟩ := h.1.nat
  have h1 := h.2
  rw [Int.toNat_natCast, ← linesN_len] at h1
  have hm := mem_gi (xs := linesN m c) (i := 0) h1
  have hl := linesN_lt hm
  have p5 := pow5 m5
  have hb : blkL (gi (linesN m c) ((0 : Nat) : Int)) = c := by simpa using (List.mem_filter.1 hm).2
  have hs := blk_small _ (show gi (linesN m c) ((0 : Nat) : Int) < 32 by omega)
  rw [hb] at hs
  exact ⟨fun y hy => by simpa using List.all_eq_true.1 hs.1 y hy, by simpa using hs.2⟩
/-- clues that are small -/
def SmallP (x : List (List Int)) : Prop := x.length ≤ 5 ∧ ∀ c ∈ x, (∀ y ∈ c, 0 ≤ y ∧ y ≤ 5) ∧ c.length ≤ 5
theorem PuzP.small {x y : List (List Int)} (h : PuzP x y) : SmallP x ∧ SmallP y :=
  ⟨⟨by have := h.1.2; omega, fun c hc => clue_small (h.2.2.1 c hc)⟩, ⟨by have := h.2.1.2; omega, fun c hc => clue_small (h.2.2.2 c hc)⟩⟩
def sumP (x : List (List Int)) : Int := (x.map List.sum).sum
theorem flatten_sum : ∀ {x : List (List Int)}, x.flatten.sum = sumP x
  | [] => rfl
  | c :: x => by
    rw [List.flatten_cons, List.sum_append, flatten_sum]; rfl
theorem flatten_small {x : List (List Int)} (h : SmallP x) : (∀ y ∈ x.flatten, 0 ≤ y ∧ y ≤ 5) ∧ x.flatten.length ≤ 25 ∧ lsum x ≤ 25 := by
  have hl : ∀ {x : List (List Int)}, (∀ c ∈ x, c.length ≤ 5) → lsum x ≤ 5 * x.length := by
    intro x
    induction x with
    | nil => intro _; simp [lsum]
    | cons c x ih =>
      intro h
      have h1 := h c (by simp)
      have h2 := ih fun d hd => h d (by simp [hd])
      unfold lsum at h2 ⊢
      simp only [List.map_cons, List.sum_cons, List.length_cons]
      omega
  have h2 := hl fun c hc => (h.2 c hc).2
  have h3 := h.1
  refine ⟨fun y hy => ?_, by rw [len_flatten]; omega, by omega⟩
  obtain ⟨c, hc, hy⟩ := List.mem_flatten.1 hy
  exact (h.2 c hc).1 y hy
theorem fil1_ret {p : Nat → Prop} {H : Heap} {v : AV} {x : List (List Int)} (hx : Sl p H v x) (h : SmallP x) : RetP E 75 [v] H (.i (sumP x)) := by
  refine RetP.ro rfl fn75 rfl rfl ?_
  unfold f75A
  obtain ⟨f1, f2, f3⟩ := flatten_small h
  rw [← flatten_sum]
  simp (disch := (first | assumption | omega | (simp only [List.length_append, List.length_cons, List.length_nil]; omega))) only [↓wD,wU,Nat.reduceBEq,zx150,zx151,zx159,zx160,zx161,zx162,Nat.reduceAdd,Nat.reduceSub,Nat.reduceMul,Nat.reduceLeDiff,Nat.reduceLT,Nat.reduceEqDiff,Int.reduceAdd,Int.reduceSub,Int.reduceMul,Int.reduceNeg,Int.reduceLT,Int.reduceLE,Int.reduceEq,Int.reduceToNat,Int.cast_ofNat_Int,↓reduceIte]
  refine (concat_ret hx (by omega)).toF fun y H1 hg hy => ?_
  generalize x.flatten = xs at *
  have hI := hy.I
  simp (disch := (first | assumption | omega | (simp only [List.length_append, List.length_cons, List.length_nil]; omega))) only [↓wD,wU,Nat.reduceBEq,zx150,zx151,zx159,zx160,zx161,zx162,Nat.reduceAdd,Nat.reduceSub,Nat.reduceMul,Nat.reduceLeDiff,Nat.reduceLT,Nat.reduceEqDiff,Int.reduceAdd,Int.reduceSub,Int.reduceMul,Int.reduceNeg,Int.reduceLT,Int.reduceLE,Int.reduceEq,Int.reduceToNat,Int.cast_ofNat_Int,↓reduceIte, hI]
  refine Wp.for xs.length (fun i a H' => H' = H1 ∧ a 3 = .i (xs.take i).sum ∧ a 7 = y ∧ a 8 = .i xs.length ∧ a 9 = .i i) ?_ ?_
  · rintro i a H' hi ⟨rfl, a3, a7, a8, a9⟩ ih
    simp (disch := (first | assumption | omega | (simp only [List.length_append, List.length_cons, List.length_nil]; omega))) only [↓wD,wU,Nat.reduceBEq,zx150,zx151,zx159,zx160,zx161,zx162,Nat.reduceAdd,Nat.reduceSub,Nat.reduceMul,Nat.reduceLeDiff,Nat.reduceLT,Nat.reduceEqDiff,Int.reduceAdd,Int.reduceSub,Int.reduceMul,Int.reduceNeg,Int.reduceLT,Int.reduceLE,Int.reduceEq,Int.reduceToNat,Int.cast_ofNat_Int,↓reduceIte, a3, a7, a8, a9]
    refine condP_split (fun hlt => ?_) (fun hlt => ?_)
    · have hi' : i < xs.length := by omega
      have sb := sum_bound (xs := xs.take i) (m := 5) fun z hz => f1 z (List.mem_of_mem_take hz)
      rw [List.length_take] at sb
      have hg := f1 _ (mem_gi hi')
      have st := sum_take hi'
      simp (disch := (first | assumption | omega | (simp only [List.length_append, List.length_cons, List.length_nil]; omega))) only [↓wD,wU,Nat.reduceBEq,zx150,zx151,zx159,zx160,zx161,zx162,Nat.reduceAdd,Nat.reduceSub,Nat.reduceMul,Nat.reduceLeDiff,Nat.reduceLT,Nat.reduceEqDiff,Int.reduceAdd,Int.reduceSub,Int.reduceMul,Int.reduceNeg,Int.reduceLT,Int.reduceLE,Int.reduceEq,Int.reduceToNat,Int.cast_ofNat_Int,↓reduceIte, a3, a7, a8, a9, hI]
      refine (ih hi').go ⟨rfl, ?_⟩
      simp (disch := (first | assumption | omega | (simp only [List.length_append, List.length_cons, List.length_nil]; omega))) only [↓wD,wU,Nat.reduceBEq,zx150,zx151,zx159,zx160,zx161,zx162,Nat.reduceAdd,Nat.reduceSub,Nat.reduceMul,Nat.reduceLeDiff,Nat.reduceLT,Nat.reduceEqDiff,Int.reduceAdd,Int.reduceSub,Int.reduceMul,Int.reduceNeg,Int.reduceLT,Int.reduceLE,Int.reduceEq,Int.reduceToNat,Int.cast_ofNat_Int,↓reduceIte, a3, a7, a8, a9, st]
    · obtain rfl : i = xs.length := by omega
      rw [List.take_length] at a3
      simp (disch := (first | assumption | omega | (simp only [List.length_append, List.length_cons, List.length_nil]; omega))) only [↓wD,wU,Nat.reduceBEq,zx150,zx151,zx159,zx160,zx161,zx162,Nat.reduceAdd,Nat.reduceSub,Nat.reduceMul,Nat.reduceLeDiff,Nat.reduceLT,Nat.reduceEqDiff,Int.reduceAdd,Int.reduceSub,Int.reduceMul,Int.reduceNeg,Int.reduceLT,Int.reduceLE,Int.reduceEq,Int.reduceToNat,Int.cast_ofNat_Int,↓reduceIte, a3]
  · (simp (disch := (first | assumption | omega | (simp only [List.length_append, List.length_cons, List.length_nil]; omega))) only [↓wD,wU,Nat.reduceBEq,zx150,zx151,zx159,zx160,zx161,zx162,Nat.reduceAdd,Nat.reduceSub,Nat.reduceMul,Nat.reduceLeDiff,Nat.reduceLT,Nat.reduceEqDiff,Int.reduceAdd,Int.reduceSub,Int.reduceMul,Int.reduceNeg,Int.reduceLT,Int.reduceLE,Int.reduceEq,Int.reduceToNat,Int.cast_ofNat_Int,↓reduceIte]) <;> simp
theorem filled_ret {p q : Nat → Prop} {H : Heap} {u w : AV} {x y : List (List Int)} (hx : Sl p H u x) (hy : Sl q H w y) (h : PuzP x y) : RetP E 44 [.ag [u, w]] H (if sumP x = sumP y then .tp [.i (sumP x), .i 0] else .tp [.i 0, .i 4]) := by
  refine RetP.ro rfl fn44 rfl (by split <;> rfl) ?_
  unfold f44A
  have vu := hx.cellsV
  have vw := hy.cellsV
  have kx := hx.app [Blk.cells [u, w]]
  have ky := hy.app [Blk.cells [u, w]]
  have c0 : (H ++ [Blk.cells [u, w]])[H.length]? = some (.cells [u, w]) := by simp
  simp (disch := (first | assumption | omega | (simp only [List.length_append, List.length_cons, List.length_nil]; omega))) only [↓wD,wU,Nat.reduceBEq,zx150,zx151,zx159,zx160,zx161,zx162,Nat.reduceAdd,Nat.reduceSub,Nat.reduceMul,Nat.reduceLeDiff,Nat.reduceLT,Nat.reduceEqDiff,Int.reduceAdd,Int.reduceSub,Int.reduceMul,Int.reduceNeg,Int.reduceLT,Int.reduceLE,Int.reduceEq,Int.reduceToNat,Int.cast_ofNat_Int,↓reduceIte, vu, vw]
  generalize H ++ [Blk.cells [u, w]] = H2 at *
  have hv := pvalid_ret kx ky
  rw [decide_eq_true h] at hv
  have f1 := fil1_ret kx h.small.1
  have f2 := fil1_ret ky h.small.2
  simp (disch := (first | assumption | omega | (simp only [List.length_append, List.length_cons, List.length_nil]; omega))) only [↓wD,wU,Nat.reduceBEq,zx150,zx151,zx159,zx160,zx161,zx162,Nat.reduceAdd,Nat.reduceSub,Nat.reduceMul,Nat.reduceLeDiff,Nat.reduceLT,Nat.reduceEqDiff,Int.reduceAdd,Int.reduceSub,Int.reduceMul,Int.reduceNeg,Int.reduceLT,Int.reduceLE,Int.reduceEq,Int.reduceToNat,Int.cast_ofNat_Int,↓reduceIte, ldn_of c0, hv.call]
  refine lpI (wpC ?_)
  simp (disch := (first | assumption | omega | (simp only [List.length_append, List.length_cons, List.length_nil]; omega))) only [↓wD,wU,Nat.reduceBEq,zx150,zx151,zx159,zx160,zx161,zx162,Nat.reduceAdd,Nat.reduceSub,Nat.reduceMul,Nat.reduceLeDiff,Nat.reduceLT,Nat.reduceEqDiff,Int.reduceAdd,Int.reduceSub,Int.reduceMul,Int.reduceNeg,Int.reduceLT,Int.reduceLE,Int.reduceEq,Int.reduceToNat,Int.cast_ofNat_Int,↓reduceIte, ld_of c0, f1.callv0, f2.callv0]
  refine chkI ?_ ?_
  · simp [chk1, ev, Fr.upd, sameO, ld, c0, AV.same_refl]
  by_cases e : sumP x = sumP y
  · have hd : decide (¬ sumP x = sumP y) = false := decide_eq_false fun q => q e
    rw [if_pos e]
    clear e
    simp (disch := (first | assumption | omega | (simp only [List.length_append, List.length_cons, List.length_nil]; omega))) only [↓wD,wU,Nat.reduceBEq,zx150,zx151,zx159,zx160,zx161,zx162,Nat.reduceAdd,Nat.reduceSub,Nat.reduceMul,Nat.reduceLeDiff,Nat.reduceLT,Nat.reduceEqDiff,Int.reduceAdd,Int.reduceSub,Int.reduceMul,Int.reduceNeg,Int.reduceLT,Int.reduceLE,Int.reduceEq,Int.reduceToNat,Int.cast_ofNat_Int,↓reduceIte, hd, ld_of c0, f1.callv0]
  · have hd : decide (¬ sumP x = sumP y) = true := decide_eq_true e
    rw [if_neg e]
    simp (disch := (first | assumption | omega | (simp only [List.length_append, List.length_cons, List.length_nil]; omega))) only [↓wD,wU,Nat.reduceBEq,zx150,zx151,zx159,zx160,zx161,zx162,Nat.reduceAdd,Nat.reduceSub,Nat.reduceMul,Nat.reduceLeDiff,Nat.reduceLT,Nat.reduceEqDiff,Int.reduceAdd,Int.reduceSub,Int.reduceMul,Int.reduceNeg,Int.reduceLT,Int.reduceLE,Int.reduceEq,Int.reduceToNat,Int.cast_ofNat_Int,↓reduceIte, hd]
theorem SmallP.take {x : List (List Int)} (h : SmallP x) (i : Nat) : SmallP (x.take i) := ⟨by rw [List.length_take]; have := h.1; omega, fun c hc => h.2 c (List.mem_of_mem_take hc)⟩
end Go.Proofs.YtjjndoigkhabdaaDoor
namespace Go.Proofs.YtjjndoigkhabdaaDoor
open Go Go.AM Go.Proofs
theorem clonet_ret {p : Nat → Prop} {H : Heap} {v : AV} {t : List (List Int)} (ht : Sl p H v t) (hl : t.length ≤ 100) (hr : ∀ r ∈ t, r.length ≤ 100) : Ret E 77 [v] (fun _ => False) H (TW.mk t) := by
  refine Ret.ro rfl fn77 rfl ?_
  unfold f77A
  simp (disch := (first | assumption | omega | (simp only [List.length_append, List.length_cons, List.length_nil]; omega))) only [↓wD,wU,Nat.reduceBEq,zx150,zx151,zx159,zx160,zx161,zx162,Nat.reduceAdd,Nat.reduceSub,Nat.reduceMul,Nat.reduceLeDiff,Nat.reduceLT,Nat.reduceEqDiff,Int.reduceAdd,Int.reduceSub,Int.reduceMul,Int.reduceNeg,Int.reduceLT,Int.reduceLE,Int.reduceEq,Int.reduceToNat,Int.cast_ofNat_Int,↓reduceIte, ht.L]
  replace ht : Sl (fun b => b < H.length) H v t := ht.low.weak fun _ h => h.2
  refine Wp.for t.length (fun i a H' => ∃ u, a 6 = v ∧ a 7 = .i t.length ∧ a 8 = .i i ∧ a 3 = u ∧ Gr H H' ∧ TB H.length H' u (t.take i)) ?_ ?_
  · rintro i a H1 hi ⟨u, h6, h7, h8, h3, hg, hu⟩ ih
    simp (disch := (first | assumption | omega | (simp only [List.length_append, List.length_cons, List.length_nil]; omega))) only [↓wD,wU,Nat.reduceBEq,zx150,zx151,zx159,zx160,zx161,zx162,Nat.reduceAdd,Nat.reduceSub,Nat.reduceMul,Nat.reduceLeDiff,Nat.reduceLT,Nat.reduceEqDiff,Int.reduceAdd,Int.reduceSub,Int.reduceMul,Int.reduceNeg,Int.reduceLT,Int.reduceLE,Int.reduceEq,Int.reduceToNat,Int.cast_ofNat_Int,↓reduceIte, h6, h7, h8, h3]
    refine condP_split (fun hlt => ?_) (fun hlt => ?_)
    · have hi' : i < t.length := by omega
      have ht1 := ht.gr hg
      have g := ht1.get (k := (i : Int)) (by omega) (by omega)
      have hrl := hr _ (mem_gi hi')
      simp (disch := (first | assumption | omega | (simp only [List.length_append, List.length_cons, List.length_nil]; omega))) only [↓wD,wU,Nat.reduceBEq,zx150,zx151,zx159,zx160,zx161,zx162,Nat.reduceAdd,Nat.reduceSub,Nat.reduceMul,Nat.reduceLeDiff,Nat.reduceLT,Nat.reduceEqDiff,Int.reduceAdd,Int.reduceSub,Int.reduceMul,Int.reduceNeg,Int.reduceLT,Int.reduceLE,Int.reduceEq,Int.reduceToNat,Int.cast_ofNat_Int,↓reduceIte, h6, h7, h8, h3, ht1.L]
      refine (clone_ret g (by omega)).toF fun y H2 hg2 hy => ?_
      have hl2 := hg2.1
      simp (disch := (first | assumption | omega | (simp only [List.length_append, List.length_cons, List.length_nil]; omega))) only [↓wD,wU,Nat.reduceBEq,zx150,zx151,zx159,zx160,zx161,zx162,Nat.reduceAdd,Nat.reduceSub,Nat.reduceMul,Nat.reduceLeDiff,Nat.reduceLT,Nat.reduceEqDiff,Int.reduceAdd,Int.reduceSub,Int.reduceMul,Int.reduceNeg,Int.reduceLT,Int.reduceLE,Int.reduceEq,Int.reduceToNat,Int.cast_ofNat_Int,↓reduceIte, hy.cellsV]
      refine hu.push hg2 (Nat.le_refl _) hg.1 hy (by rw [List.length_take]; omega) fun u' H3 hu' hk3 => ?_
      simp (disch := (first | assumption | omega | (simp only [List.length_append, List.length_cons, List.length_nil]; omega))) only [↓wD,wU,Nat.reduceBEq,zx150,zx151,zx159,zx160,zx161,zx162,Nat.reduceAdd,Nat.reduceSub,Nat.reduceMul,Nat.reduceLeDiff,Nat.reduceLT,Nat.reduceEqDiff,Int.reduceAdd,Int.reduceSub,Int.reduceMul,Int.reduceNeg,Int.reduceLT,Int.reduceLE,Int.reduceEq,Int.reduceToNat,Int.cast_ofNat_Int,↓reduceIte, h6, h7, h8, h3]
      refine (ih hi').go ⟨u', ?_⟩
      simp (disch := (first | assumption | omega | (simp only [List.length_append, List.length_cons, List.length_nil]; omega))) only [↓wD,wU,Nat.reduceBEq,zx150,zx151,zx159,zx160,zx161,zx162,Nat.reduceAdd,Nat.reduceSub,Nat.reduceMul,Nat.reduceLeDiff,Nat.reduceLT,Nat.reduceEqDiff,Int.reduceAdd,Int.reduceSub,Int.reduceMul,Int.reduceNeg,Int.reduceLT,Int.reduceLE,Int.reduceEq,Int.reduceToNat,Int.cast_ofNat_Int,↓reduceIte, h6, h7, h8, h3]
      rw [take_gi hi']
      exact ⟨(hg.trans hg2).trans' hk3 fun b hb e => by have := hu.blk_lt e; omega, hu'⟩
    · obtain rfl : i = t.length := by omega
      simp (disch := (first | assumption | omega | (simp only [List.length_append, List.length_cons, List.length_nil]; omega))) only [↓wD,wU,Nat.reduceBEq,zx150,zx151,zx159,zx160,zx161,zx162,Nat.reduceAdd,Nat.reduceSub,Nat.reduceMul,Nat.reduceLeDiff,Nat.reduceLT,Nat.reduceEqDiff,Int.reduceAdd,Int.reduceSub,Int.reduceMul,Int.reduceNeg,Int.reduceLT,Int.reduceLE,Int.reduceEq,Int.reduceToNat,Int.cast_ofNat_Int,↓reduceIte, h6, h7, h8, h3]
      rw [List.take_length] at hu
      exact hu.rv fun b h => .inr h
  · simp (disch := (first | assumption | omega | (simp only [List.length_append, List.length_cons, List.length_nil]; omega))) only [↓wD,wU,Nat.reduceBEq,zx150,zx151,zx159,zx160,zx161,zx162,Nat.reduceAdd,Nat.reduceSub,Nat.reduceMul,Nat.reduceLeDiff,Nat.reduceLT,Nat.reduceEqDiff,Int.reduceAdd,Int.reduceSub,Int.reduceMul,Int.reduceNeg,Int.reduceLT,Int.reduceLE,Int.reduceEq,Int.reduceToNat,Int.cast_ofNat_Int,↓reduceIte]
    exact ⟨.nils, rfl, Gr.refl _, TB.nil⟩
theorem SmallP.clone {x : List (List Int)} (h : SmallP x) : x.length ≤ 100 ∧ ∀ r ∈ x, r.length ≤ 100 := ⟨by have := h.1; omega, fun r hr => by have := (h.2 r hr).2; omega⟩
theorem turn_ret {p q : Nat → Prop} {H : Heap} {u w : AV} {x y : List (List Int)} (hx : Sl p H u x) (hy : Sl q H w y) (h : PuzP x y) : Ret E 45 [.ag [u, w]] (fun _ => False) H (T2.mk (y, x) (0 : Int)) := by
  refine Ret.ro rfl fn45 rfl ?_
  unfold f45A
  have vu := hx.cellsV
  have vw := hy.cellsV
  have c0 : (H ++ [Blk.cells [u, w]] ++ [Blk.cells [.nils, .nils]])[H.length]? = some (.cells [u, w]) := by simp [List.getElem?_append]
  have c1 : (H ++ [Blk.cells [u, w]] ++ [Blk.cells [.nils, .nils]])[H.length + 1]? = some (.cells [.nils, .nils]) := by simp [List.getElem?_append]
  have hx2 := (hx.app [Blk.cells [u, w]]).app [Blk.cells [.nils, .nils]]
  have hy2 := (hy.app [Blk.cells [u, w]]).app [Blk.cells [.nils, .nils]]
  have hn : (H ++ [Blk.cells [u, w]] ++ [Blk.cells [.nils, .nils]]).length = H.length + 2 := by simp
  simp (disch := (first | assumption | omega | (simp only [List.length_append, List.length_cons, List.length_nil]; omega))) only [↓wD,wU,Nat.reduceBEq,zx150,zx151,zx159,zx160,zx161,zx162,Nat.reduceAdd,Nat.reduceSub,Nat.reduceMul,Nat.reduceLeDiff,Nat.reduceLT,Nat.reduceEqDiff,Int.reduceAdd,Int.reduceSub,Int.reduceMul,Int.reduceNeg,Int.reduceLT,Int.reduceLE,Int.reduceEq,Int.reduceToNat,Int.cast_ofNat_Int,↓reduceIte, vu, vw]
  generalize H ++ [Blk.cells [u, w]] ++ [Blk.cells [.nils, .nils]] = H2 at *
  have hv := pvalid_ret hx2 hy2
  rw [decide_eq_true h] at hv
  obtain ⟨sx, sy⟩ := h.small
  simp (disch := (first | assumption | omega | (simp only [List.length_append, List.length_cons, List.length_nil]; omega))) only [↓wD,wU,Nat.reduceBEq,zx150,zx151,zx159,zx160,zx161,zx162,Nat.reduceAdd,Nat.reduceSub,Nat.reduceMul,Nat.reduceLeDiff,Nat.reduceLT,Nat.reduceEqDiff,Int.reduceAdd,Int.reduceSub,Int.reduceMul,Int.reduceNeg,Int.reduceLT,Int.reduceLE,Int.reduceEq,Int.reduceToNat,Int.cast_ofNat_Int,↓reduceIte, ldn_of c0, hv.call, ld_of c0]
  refine (clonet_ret hy2 sy.clone.1 sy.clone.2).toX fun r H3 x3 hr => ?_
  have tr : TB H2.length H3 r y := TB.of hr fun b h => h.elim (fun h => h.elim) id
  have c03 := x3.get trivial c0
  have c13 := x3.get trivial c1
  have hl3 := x3.1
  simp (disch := (first | assumption | omega | (simp only [List.length_append, List.length_cons, List.length_nil]; omega))) only [↓wD,wU,Nat.reduceBEq,zx150,zx151,zx159,zx160,zx161,zx162,Nat.reduceAdd,Nat.reduceSub,Nat.reduceMul,Nat.reduceLeDiff,Nat.reduceLT,Nat.reduceEqDiff,Int.reduceAdd,Int.reduceSub,Int.reduceMul,Int.reduceNeg,Int.reduceLT,Int.reduceLE,Int.reduceEq,Int.reduceToNat,Int.cast_ofNat_Int,↓reduceIte, ld_of c03]
  refine (clonet_ret (hx2.kp (x3.all _).kp) sx.clone.1 sx.clone.2).toX fun s H4 x4 hs => ?_
  have ts : TB H3.length H4 s x := TB.of hs fun b h => h.elim (fun h => h.elim) id
  have c14 := x4.get trivial c13
  have sr := (tr.gr (x4.all _).kp).sl
  have ss := ts.sl
  have hst : st H.length H4 (H.length + 1) 0 [r, s] = some (H4.set (H.length + 1) (.cells [r, s])) := by rw [st_of c14 (by omega) (by simp)]; simp [wr]
  simp (disch := (first | assumption | omega | (simp only [List.length_append, List.length_cons, List.length_nil]; omega))) only [↓wD,wU,Nat.reduceBEq,zx150,zx151,zx159,zx160,zx161,zx162,Nat.reduceAdd,Nat.reduceSub,Nat.reduceMul,Nat.reduceLeDiff,Nat.reduceLT,Nat.reduceEqDiff,Int.reduceAdd,Int.reduceSub,Int.reduceMul,Int.reduceNeg,Int.reduceLT,Int.reduceLE,Int.reduceEq,Int.reduceToNat,Int.cast_ofNat_Int,↓reduceIte, sr.cellsV, ss.cellsV, hst, ldn_of (get_set c14)]
  refine rv_2 (rv_pp ?_ ?_) rv_i
  · exact (sr.kp ((Kp.set _ _ _).weak fun b h => by omega)).weak fun b h => .inr (by omega)
  · exact (ss.kp ((Kp.set _ _ _).weak fun b h => by omega)).weak fun b h => .inr (by omega)
theorem turn_err {p q : Nat → Prop} {H : Heap} {u w : AV} {x y : List (List Int)} (hx : Sl p H u x) (hy : Sl q H w y) (h : ¬ PuzP x y) : RetP E 45 [.ag [u, w]] H (.tp [.ag [.nils, .nils], .i 2]) := by
  refine RetP.ro rfl fn45 rfl rfl ?_
  unfold f45A
  have vu := hx.cellsV
  have vw := hy.cellsV
  have c0 : (H ++ [Blk.cells [u, w]] ++ [Blk.cells [.nils, .nils]])[H.length]? = some (.cells [u, w]) := by simp [List.getElem?_append]
  have c1 : (H ++ [Blk.cells [u, w]] ++ [Blk.cells [.nils, .nils]])[H.length + 1]? = some (.cells [.nils, .nils]) := by simp [List.getElem?_append]
  have hx2 := (hx.app [Blk.cells [u, w]]).app [Blk.cells [.nils, .nils]]
  have hy2 := (hy.app [Blk.cells [u, w]]).app [Blk.cells [.nils, .nils]]
  simp (disch := (first | assumption | omega | (simp only [List.length_append, List.length_cons, List.length_nil]; omega))) only [↓wD,wU,Nat.reduceBEq,zx150,zx151,zx159,zx160,zx161,zx162,Nat.reduceAdd,Nat.reduceSub,Nat.reduceMul,Nat.reduceLeDiff,Nat.reduceLT,Nat.reduceEqDiff,Int.reduceAdd,Int.reduceSub,Int.reduceMul,Int.reduceNeg,Int.reduceLT,Int.reduceLE,Int.reduceEq,Int.reduceToNat,Int.cast_ofNat_Int,↓reduceIte, vu, vw]
  generalize H ++ [Blk.cells [u, w]] ++ [Blk.cells [.nils, .nils]] = H2 at *
  have hv := pvalid_ret hx2 hy2
  rw [decide_eq_false h] at hv
  have hst : st H.length H2 (H.length + 1) 0 [.nils, .nils] = some (H2.set (H.length + 1) (.cells [.nils, .nils])) := by rw [st_of c1 (by omega) (by simp)]; simp [wr]
  simp (disch := (first | assumption | omega | (simp only [List.length_append, List.length_cons, List.length_nil]; omega))) only [↓wD,wU,Nat.reduceBEq,zx150,zx151,zx159,zx160,zx161,zx162,Nat.reduceAdd,Nat.reduceSub,Nat.reduceMul,Nat.reduceLeDiff,Nat.reduceLT,Nat.reduceEqDiff,Int.reduceAdd,Int.reduceSub,Int.reduceMul,Int.reduceNeg,Int.reduceLT,Int.reduceLE,Int.reduceEq,Int.reduceToNat,Int.cast_ofNat_Int,↓reduceIte, ldn_of c0, hv.call, hst, ldn_of (get_set c1)]
end Go.Proofs.YtjjndoigkhabdaaDoor
namespace Go.Proofs.YtjjndoigkhabdaaDoor
open Go Go.AM Go.Proofs
def sumR (n : Nat) (f : Nat → Nat) : Nat := ((List.range n).map f).sum
theorem sumR_s (n : Nat) (f : Nat → Nat) : sumR (n + 1) f = sumR n f + f n := by
  unfold sumR
  rw [List.range_succ, List.map_append, List.sum_append]
  simp
theorem pow32 {n : Nat} (h : n ≤ 5) : 2 ^ n ≤ 32 := (Nat.pow_le_pow_right (by omega) h : 2 ^ n ≤ 2 ^ 5)
end Go.Proofs.YtjjndoigkhabdaaDoor
namespace Go.Proofs.YtjjndoigkhabdaaDoor
open Go Go.AM Go.Proofs
abbrev KS := List (Nat × Nat)
def fK (K : KS) (i : Nat) : Nat := (gi K (i : Int)).1
def eK (K : KS) (i : Nat) : Nat := (gi K (i : Int)).2
def FK (K : KS) : List Nat := K.map Prod.fst
def EK (K : KS) : List Nat := K.map Prod.snd
structure WfK (h w : Nat) (K : KS) : Prop where
  len : K.length = h
  lt : ∀ i, i < h → fK K i < 2 ^ w ∧ eK K i < 2 ^ w
/-- bits of a lie in b -/
def SubB (a b : Nat) : Prop := ∀ c, a.testBit c = true → b.testBit c = true
theorem SubB.refl (a : Nat) : SubB a a := fun _ h => h
theorem SubB.trans {a b c : Nat} (h : SubB a b) (h' : SubB b c) : SubB a c := fun k q => h' k (h k q)
theorem SubB.le {a b : Nat} (h : SubB a b) : a ≤ b := by
  have : a &&& b = a := by
    apply Nat.eq_of_testBit_eq
    intro c
    rw [Nat.testBit_and]
    have := h c
    cases q1 : a.testBit c <;> simp_all
  rw [← this]
  exact Nat.and_le_right
theorem SubB.anti {a b : Nat} (h : SubB a b) (h' : SubB b a) : a = b := Nat.le_antisymm h.le h'.le
def LeK (K L : KS) : Prop := ∀ i, SubB (fK K i) (fK L i) ∧ SubB (eK K i) (eK L i)
theorem LeK.refl (K : KS) : LeK K K := fun _ => ⟨SubB.refl _, SubB.refl _⟩
theorem LeK.trans {K L M : KS} (h : LeK K L) (h' : LeK L M) : LeK K M := fun i => ⟨(h i).1.trans (h' i).1, (h i).2.trans (h' i).2⟩
theorem gi_big {α : Type} [Inhabited α] {xs : List α} {i : Nat} (h : xs.length ≤ i) : gi xs (i : Int) = default := by
  unfold gi
  rw [Int.toNat_natCast, List.getD_eq_getElem?_getD, List.getElem?_eq_none h]; rfl
theorem K_ext {h w : Nat} {K L : KS} (hK : WfK h w K) (hL : WfK h w L) (he : ∀ i, i < h → fK K i = fK L i ∧ eK K i = eK L i) : K = L := by
  apply gi_ext (by rw [hK.len, hL.len])
  intro i hi
  have := he i (by rw [← hK.len]; exact hi)
  exact Prod.ext this.1 this.2
theorem LeK.anti {h w : Nat} {K L : KS} (hK : WfK h w K) (hL : WfK h w L) (h1 : LeK K L) (h2 : LeK L K) : K = L :=
  K_ext hK hL fun i _ => ⟨(h1 i).1.anti (h2 i).1, (h1 i).2.anti (h2 i).2⟩
theorem FK_gi {K : KS} {i : Nat} : gi (FK K) (i : Int) = fK K i := by
  by_cases h : i < K.length
  · unfold fK
    rw [gi_nat h, gi_nat (by simpa [FK] using h)]
    simp [FK]
  · unfold fK
    rw [show gi K (i : Int) = default from gi_big (by omega)]
    exact gi_big (by unfold FK; rw [List.length_map]; omega)
theorem EK_gi {K : KS} {i : Nat} : gi (EK K) (i : Int) = eK K i := by
  by_cases h : i < K.length
  · unfold eK
    rw [gi_nat h, gi_nat (by simpa [EK] using h)]
    simp [EK]
  · unfold eK
    rw [show gi K (i : Int) = default from gi_big (by omega)]
    exact gi_big (by unfold EK; rw [List.length_map]; omega)
theorem FK_len {K : KS} : (FK K).length = K.length := by simp [FK]
theorem EK_len {K : KS} : (EK K).length = K.length := by simp [EK]
theorem colF_bit {K : KS} {c r : Nat} : (colN (FK K) c).testBit r = (decide (r < K.length) && (fK K r).testBit c) := by rw [colN_bit, FK_gi, FK_len]
theorem colE_bit {K : KS} {c r : Nat} : (colN (EK K) c).testBit r = (decide (r < K.length) && (eK K r).testBit c) := by rw [colN_bit, EK_gi, EK_len]
theorem colF_sub {K L : KS} (h : LeK K L) (hl : K.length = L.length) (c : Nat) : SubB (colN (FK K) c) (colN (FK L) c) := fun r hr => by
  rw [colF_bit, Bool.and_eq_true] at hr ⊢
  rw [← hl]
  exact ⟨hr.1, (h r).1 c hr.2⟩
theorem colE_sub {K L : KS} (h : LeK K L) (hl : K.length = L.length) (c : Nat) : SubB (colN (EK K) c) (colN (EK L) c) := fun r hr => by
  rw [colE_bit, Bool.and_eq_true] at hr ⊢
  rw [← hl]
  exact ⟨hr.1, (h r).2 c hr.2⟩
theorem agN_mono {f e f' e' x : Nat} (hf : SubB f f') (he : SubB e e') (h : agN f' e' x = true) : agN f e x = true := by
  rw [agN_iff] at h ⊢
  exact fun c => ⟨fun q => (h c).1 (hf c q), fun q => (h c).2 (he c q)⟩
theorem setS_mono {n f e f' e' : Nat} {cl : List Int} (hn : n ≤ 5) (hf : SubB f f') (he : SubB e e') :
    ((setS n cl f' e').2.2 = true → (setS n cl f e).2.2 = true) ∧ SubB (setS n cl f e).1 (setS n cl f' e').1 ∧ SubB (setS n cl f e).2.1 (setS n cl f' e').2.1 := by
  refine ⟨?_, ?_, ?_⟩
  · rw [setS_ok, setS_ok, List.any_eq_true, List.any_eq_true]
    rintro ⟨x, hx, h⟩
    exact ⟨x, hx, agN_mono hf he h⟩
  · intro c
    rw [setS_bit1, setS_bit1, Bool.and_eq_true, Bool.and_eq_true]
    rintro ⟨h1, h2⟩
    refine ⟨h1, List.all_eq_true.2 fun x hx => ?_⟩
    have := List.all_eq_true.1 h2 x hx
    cases ha : agN f' e' x
    · rfl
    · rw [agN_mono hf he ha] at this
      simpa using this
  · intro c
    rw [setS_bit2 hn, setS_bit2 hn, Bool.and_eq_true, Bool.and_eq_true]
    rintro ⟨h1, h2⟩
    refine ⟨h1, List.all_eq_true.2 fun x hx => ?_⟩
    have := List.all_eq_true.1 h2 x hx
    cases ha : agN f' e' x
    · rfl
    · rw [agN_mono hf he ha] at this
      simpa using this
theorem setS_ext {n f e : Nat} {cl : List Int} (hn : n ≤ 5) (hf : f < 2 ^ n) (he : e < 2 ^ n) : SubB f (setS n cl f e).1 ∧ SubB e (setS n cl f e).2.1 := by
  constructor
  · intro c hc
    rw [setS_bit1, Bool.and_eq_true]
    refine ⟨decide_eq_true (lt_bit hf hc), List.all_eq_true.2 fun y _ => ?_⟩
    cases ha : agN f e y
    · rfl
    · have := (agN_iff.1 ha c).1 hc
      simp [this]
  · intro c hc
    rw [setS_bit2 hn, Bool.and_eq_true]
    refine ⟨decide_eq_true (lt_bit he hc), List.all_eq_true.2 fun y _ => ?_⟩
    cases ha : agN f e y
    · rfl
    · have := (agN_iff.1 ha c).2 hc
      simp [this]
/-- all lines hold, and settle no more -/
def LC (xs ys : List (List Int)) (L : KS) : Prop :=
  (∀ i, i < xs.length → setS ys.length (gi xs (i : Int)) (fK L i) (eK L i) = (fK L i, eK L i, true)) ∧
  ∀ c, c < ys.length → setS xs.length (gi ys (c : Int)) (colN (FK L) c) (colN (EK L) c) = (colN (FK L) c, colN (EK L) c, true)
/-! ### One row, one column -/
theorem gi_set {α : Type} [Inhabited α] {xs : List α} {i : Nat} (hi : i < xs.length) (q : α) (j : Nat) : gi (xs.set i q) (j : Int) = if j = i then q else gi xs (j : Int) := by
  unfold gi
  rw [Int.toNat_natCast, List.getD_eq_getElem?_getD, List.getD_eq_getElem?_getD, List.getElem?_set]
  by_cases h : j = i
  · subst h; simp [hi]
  · rw [if_neg (by omega), if_neg h]
theorem fK_set {K : KS} {i : Nat} (hi : i < K.length) (q : Nat × Nat) (j : Nat) : fK (K.set i q) j = if j = i then q.1 else fK K j := by
  unfold fK; rw [gi_set hi]; split <;> rfl
theorem eK_set {K : KS} {i : Nat} (hi : i < K.length) (q : Nat × Nat) (j : Nat) : eK (K.set i q) j = if j = i then q.2 else eK K j := by
  unfold eK; rw [gi_set hi]; split <;> rfl
theorem set_wf {h w : Nat} {K : KS} (hK : WfK h w K) {i : Nat} (hi : i < h) {q : Nat × Nat} (hq : q.1 < 2 ^ w ∧ q.2 < 2 ^ w) : WfK h w (K.set i q) :=
  ⟨by rw [List.length_set]; exact hK.len, fun j hj => by
    have hi' : i < K.length := by rw [hK.len]; exact hi
    rw [fK_set hi', eK_set hi']
    split
    · exact hq
    · exact hK.lt j hj⟩
theorem set_le {K L : KS} {i : Nat} (hi : i < K.length) {q : Nat × Nat} (h : LeK K L) (h1 : SubB q.1 (fK L i)) (h2 : SubB q.2 (eK L i)) : LeK (K.set i q) L := fun j => by
  rw [fK_set hi, eK_set hi]
  by_cases e : j = i
  · subst e; rw [if_pos rfl, if_pos rfl]; exact ⟨h1, h2⟩
  · rw [if_neg e, if_neg e]; exact h j
theorem le_set {K : KS} {i : Nat} (hi : i < K.length) {q : Nat × Nat} (h1 : SubB (fK K i) q.1) (h2 : SubB (eK K i) q.2) : LeK K (K.set i q) := fun j => by
  rw [fK_set hi, eK_set hi]
  by_cases e : j = i
  · subst e; rw [if_pos rfl, if_pos rfl]; exact ⟨h1, h2⟩
  · rw [if_neg e, if_neg e]; exact ⟨SubB.refl _, SubB.refl _⟩
/-- a bit of s laid at c -/
def orB (a s i c : Nat) : Nat := a ||| ((s >>> i) &&& 1) <<< c
theorem orB_bit {a s i c k : Nat} : (orB a s i c).testBit k = (a.testBit k || (decide (k = c) && s.testBit i)) := by
  unfold orB
  rw [Nat.testBit_or, Nat.testBit_shiftLeft, Nat.testBit_and, Nat.testBit_shiftRight]
  rw [show (1 : Nat) = 2 ^ 1 - 1 from rfl, Nat.testBit_two_pow_sub_one]
  congr 1
  by_cases e : k = c
  · subst e; simp
  · rw [decide_eq_false e, Bool.false_and]
    rcases Nat.lt_or_ge k c with q | q
    · rw [decide_eq_false (by omega)]; rfl
    · rw [decide_eq_false (show ¬ k - c < 1 by omega)]; simp
theorem orB_lt {a s i c w : Nat} (ha : a < 2 ^ w) (hc : c < w) : orB a s i c < 2 ^ w := by
  unfold orB
  refine Nat.or_lt_two_pow ha ?_
  have : (s >>> i) &&& 1 ≤ 1 := Nat.and_le_right
  rw [Nat.shiftLeft_eq]
  have h1 : 2 ^ c < 2 ^ w := Nat.pow_lt_pow_right (by omega) hc
  have h2 : ((s >>> i) &&& 1) * 2 ^ c ≤ 1 * 2 ^ c := Nat.mul_le_mul_right _ this
  omega
/-- the first t rows have what the column says -/
def colK (K : KS) (c f e t : Nat) : KS := (List.range K.length).map fun i => if i < t then (orB (fK K i) f i c, orB (eK K i) e i c) else gi K (i : Int)
theorem colK_len {K : KS} {c f e t : Nat} : (colK K c f e t).length = K.length := by simp [colK]
theorem colK_gi {K : KS} {c f e t i : Nat} (h : i < K.length) : gi (colK K c f e t) (i : Int) = if i < t then (orB (fK K i) f i c, orB (eK K i) e i c) else gi K (i : Int) := by
  rw [gi_nat (by rw [colK_len]; exact h)]
  simp [colK]
theorem colK_0 {K : KS} {c f e : Nat} : colK K c f e 0 = K := by
  apply gi_ext (by rw [colK_len])
  intro i hi
  rw [colK_gi (by rwa [colK_len] at hi), if_neg (by omega)]
theorem colK_s {K : KS} {c f e t : Nat} (h : t < K.length) : (colK K c f e t).set t (orB (fK K t) f t c, orB (eK K t) e t c) = colK K c f e (t + 1) := by
  apply gi_ext (by rw [List.length_set, colK_len, colK_len])
  intro i hi
  rw [List.length_set, colK_len] at hi
  rw [gi_set (by rw [colK_len]; exact h), colK_gi hi, colK_gi hi]
  by_cases e : i = t
  · subst e; rw [if_pos rfl, if_pos (by omega)]
  · rw [if_neg e]
    by_cases q : i < t
    · rw [if_pos q, if_pos (by omega)]
    · rw [if_neg q, if_neg (by omega)]
theorem colK_f {K : KS} {c f e i k : Nat} : (fK (colK K c f e K.length) i).testBit k = ((fK K i).testBit k || (decide (i < K.length) && decide (k = c) && f.testBit i)) := by
  by_cases h : i < K.length
  · have : fK (colK K c f e K.length) i = orB (fK K i) f i c := by unfold fK; rw [colK_gi h, if_pos h]; rfl
    rw [this, orB_bit]; simp [h]
  · have : fK (colK K c f e K.length) i = 0 := by unfold fK; rw [gi_big (by rw [colK_len]; omega)]; rfl
    have : fK K i = 0 := by unfold fK; rw [gi_big (by omega)]; rfl
    simp_all
    omega
theorem colK_e {K : KS} {c f e i k : Nat} : (eK (colK K c f e K.length) i).testBit k = ((eK K i).testBit k || (decide (i < K.length) && decide (k = c) && e.testBit i)) := by
  by_cases h : i < K.length
  · have : eK (colK K c f e K.length) i = orB (eK K i) e i c := by unfold eK; rw [colK_gi h, if_pos h]; rfl
    rw [this, orB_bit]; simp [h]
  · have : eK (colK K c f e K.length) i = 0 := by unfold eK; rw [gi_big (by rw [colK_len]; omega)]; rfl
    have : eK K i = 0 := by unfold eK; rw [gi_big (by omega)]; rfl
    simp_all
    omega
theorem colK_wf {h w : Nat} {K : KS} (hK : WfK h w K) {c f e t : Nat} (hc : c < w) : WfK h w (colK K c f e t) :=
  ⟨by rw [colK_len]; exact hK.len, fun i hi => by
    have hi' : i < K.length := by rw [hK.len]; exact hi
    have := hK.lt i hi
    unfold fK eK
    rw [colK_gi hi']
    split
    · exact ⟨orB_lt this.1 hc, orB_lt this.2 hc⟩
    · exact this⟩
theorem le_col {K : KS} {c f e : Nat} : LeK K (colK K c f e K.length) := fun i => ⟨fun k hk => by rw [colK_f, hk]; rfl, fun k hk => by rw [colK_e, hk]; rfl⟩
theorem col_le {K L : KS} {c f e : Nat} (hl : K.length = L.length) (h : LeK K L) (h1 : SubB f (colN (FK L) c)) (h2 : SubB e (colN (EK L) c)) : LeK (colK K c f e K.length) L := fun i => by
  constructor
  · intro k hk
    rw [colK_f, Bool.or_eq_true, Bool.and_eq_true, Bool.and_eq_true] at hk
    rcases hk with hk | ⟨⟨_, hk⟩, hf⟩
    · exact (h i).1 k hk
    · have := h1 i hf
      rw [colF_bit, Bool.and_eq_true] at this
      rw [of_decide_eq_true hk]; exact this.2
  · intro k hk
    rw [colK_e, Bool.or_eq_true, Bool.and_eq_true, Bool.and_eq_true] at hk
    rcases hk with hk | ⟨⟨_, hk⟩, hf⟩
    · exact (h i).2 k hk
    · have := h2 i hf
      rw [colE_bit, Bool.and_eq_true] at this
      rw [of_decide_eq_true hk]; exact this.2
end Go.Proofs.YtjjndoigkhabdaaDoor
namespace Go.Proofs.YtjjndoigkhabdaaDoor
open Go Go.AM Go.Proofs
/-- what follows from the lines, so far -/
def MidL (xs ys : List (List Int)) (K C : KS) : Prop := WfK xs.length ys.length C ∧ LeK K C ∧ ∀ L, WfK xs.length ys.length L → LC xs ys L → LeK K L → LeK C L
theorem MidL.refl {xs ys : List (List Int)} {K : KS} (h : WfK xs.length ys.length K) : MidL xs ys K K := ⟨h, LeK.refl _, fun _ _ _ h => h⟩
def FailL (xs ys : List (List Int)) (K : KS) : Prop := ∀ L, WfK xs.length ys.length L → LC xs ys L → ¬ LeK K L
theorem MidL.fail {xs ys : List (List Int)} {K C : KS} (h : MidL xs ys K C) (hf : FailL xs ys C) : FailL xs ys K := fun L h1 h2 h3 => hf L h1 h2 (h.2.2 L h1 h2 h3)
theorem MidL.trans {xs ys : List (List Int)} {K C D : KS} (h : MidL xs ys K C) (h' : MidL xs ys C D) : MidL xs ys K D := ⟨h'.1, h.2.1.trans h'.2.1, fun L h1 h2 h3 => h'.2.2 L h1 h2 (h.2.2 L h1 h2 h3)⟩
/-- the rows before i have settled all that they settle at K -/
def RowsIn (xs ys : List (List Int)) (K C : KS) (i : Nat) : Prop := ∀ j, j < i → (setS ys.length (gi xs (j : Int)) (fK K j) (eK K j)).2.2 = true ∧ SubB (setS ys.length (gi xs (j : Int)) (fK K j) (eK K j)).1 (fK C j) ∧ SubB (setS ys.length (gi xs (j : Int)) (fK K j) (eK K j)).2.1 (eK C j)
def ColsIn (xs ys : List (List Int)) (K C : KS) (i : Nat) : Prop := ∀ j, j < i → (setS xs.length (gi ys (j : Int)) (colN (FK K) j) (colN (EK K) j)).2.2 = true ∧ SubB (setS xs.length (gi ys (j : Int)) (colN (FK K) j) (colN (EK K) j)).1 (colN (FK C) j) ∧ SubB (setS xs.length (gi ys (j : Int)) (colN (FK K) j) (colN (EK K) j)).2.1 (colN (EK C) j)
theorem RowsIn.mono {xs ys : List (List Int)} {K C D : KS} {i : Nat} (h : RowsIn xs ys K C i) (hd : LeK C D) : RowsIn xs ys K D i := fun j hj => ⟨(h j hj).1, (h j hj).2.1.trans (hd j).1, (h j hj).2.2.trans (hd j).2⟩
theorem ColsIn.mono {xs ys : List (List Int)} {K C D : KS} {i : Nat} (h : ColsIn xs ys K C i) (hd : LeK C D) (hl : C.length = D.length) : ColsIn xs ys K D i := fun j hj => ⟨(h j hj).1, (h j hj).2.1.trans (colF_sub hd hl j), (h j hj).2.2.trans (colE_sub hd hl j)⟩
section
variable {xs ys : List (List Int)} {K C : KS}
theorem row_fail {i : Nat} (y5 : ys.length ≤ 5) (hi : i < xs.length) (h : (setS ys.length (gi xs (i : Int)) (fK C i) (eK C i)).2.2 = false) : FailL xs ys C := fun L _ hL hle => by
  have := (setS_mono (cl := gi xs (i : Int)) y5 (hle i).1 (hle i).2).1 (by rw [hL.1 i hi])
  rw [h] at this; cases this
theorem rowW_step {i : Nat} (y5 : ys.length ≤ 5) (hi : i < xs.length) (h : MidL xs ys K C) (hr : RowsIn xs ys K C i) {s : Nat × Nat × Bool} (es : setS ys.length (gi xs (i : Int)) (fK C i) (eK C i) = s) (hs : s.2.2 = true) :
    MidL xs ys K (C.set i (s.1, s.2.1)) ∧ RowsIn xs ys K (C.set i (s.1, s.2.1)) (i + 1) := by
  obtain ⟨hw, hK, hm⟩ := h
  have hi' : i < C.length := by rw [hw.len]; exact hi
  have hlt := hw.lt i hi
  obtain ⟨e1, e2⟩ := setS_ext (cl := gi xs (i : Int)) y5 hlt.1 hlt.2
  have sl := setS_lt (n := ys.length) (f := fK C i) (e := eK C i) (cl := gi xs (i : Int))
  rw [es] at e1 e2 sl
  have hle : LeK C (C.set i (s.1, s.2.1)) := le_set hi' e1 e2
  refine ⟨⟨set_wf hw hi sl, hK.trans hle, fun L h1 h2 h3 => ?_⟩, ?_⟩
  · have hCL := hm L h1 h2 h3
    have mo := setS_mono (cl := gi xs (i : Int)) y5 (hCL i).1 (hCL i).2
    rw [h2.1 i hi, es] at mo
    exact set_le hi' hCL mo.2.1 mo.2.2
  · intro j hj
    by_cases e : j = i
    · subst e
      have mo := setS_mono (cl := gi xs (j : Int)) y5 (hK j).1 (hK j).2
      rw [es] at mo
      rw [fK_set hi', eK_set hi', if_pos rfl, if_pos rfl]
      exact ⟨mo.1 hs, mo.2.1, mo.2.2⟩
    · exact hr.mono hle j (by omega)
theorem col_lt (hw : WfK xs.length ys.length C) (c : Nat) : colN (FK C) c < 2 ^ xs.length ∧ colN (EK C) c < 2 ^ xs.length := by
  have h1 := colN_lt (FK C) c
  have h2 := colN_lt (EK C) c
  rw [FK_len, hw.len] at h1
  rw [EK_len, hw.len] at h2
  exact ⟨h1, h2⟩
theorem col_fail {c : Nat} (x5 : xs.length ≤ 5) (hc : c < ys.length) (hw : WfK xs.length ys.length C) (h : (setS xs.length (gi ys (c : Int)) (colN (FK C) c) (colN (EK C) c)).2.2 = false) : FailL xs ys C := fun L hwL hL hle => by
  have hl : C.length = L.length := by rw [hw.len, hwL.len]
  have := (setS_mono (cl := gi ys (c : Int)) x5 (colF_sub hle hl c) (colE_sub hle hl c)).1 (by rw [hL.2 c hc])
  rw [h] at this; cases this
theorem colW_step {c : Nat} (x5 : xs.length ≤ 5) (hc : c < ys.length) (h : MidL xs ys K C) (hK0 : K.length = xs.length) (hr : RowsIn xs ys K C xs.length) (hcs : ColsIn xs ys K C c) {s : Nat × Nat × Bool} (es : setS xs.length (gi ys (c : Int)) (colN (FK C) c) (colN (EK C) c) = s) (hs : s.2.2 = true) :
    MidL xs ys K (colK C c s.1 s.2.1 C.length) ∧ RowsIn xs ys K (colK C c s.1 s.2.1 C.length) xs.length ∧ ColsIn xs ys K (colK C c s.1 s.2.1 C.length) (c + 1) := by
  obtain ⟨hw, hK, hm⟩ := h
  have hlt := col_lt hw c
  have sl := setS_lt (n := xs.length) (f := colN (FK C) c) (e := colN (EK C) c) (cl := gi ys (c : Int))
  rw [es] at sl
  have hle : LeK C (colK C c s.1 s.2.1 C.length) := le_col
  refine ⟨⟨colK_wf hw hc, hK.trans hle, fun L h1 h2 h3 => ?_⟩, hr.mono hle, ?_⟩
  · have hCL := hm L h1 h2 h3
    have hl : C.length = L.length := by rw [hw.len, h1.len]
    have mo := setS_mono (cl := gi ys (c : Int)) x5 (colF_sub hCL hl c) (colE_sub hCL hl c)
    rw [h2.2 c hc, es] at mo
    exact col_le hl hCL mo.2.1 mo.2.2
  · intro j hj
    by_cases e : j = c
    · subst e
      have hl : K.length = C.length := by rw [hw.len, hK0]
      have mo := setS_mono (cl := gi ys (j : Int)) x5 (colF_sub hK hl j) (colE_sub hK hl j)
      rw [es] at mo
      refine ⟨mo.1 hs, mo.2.1.trans fun r hr => ?_, mo.2.2.trans fun r hr => ?_⟩
      · have := lt_bit sl.1 hr
        rw [colF_bit, colK_f, colK_len, hr, hw.len, decide_eq_true this]; simp
      · have := lt_bit sl.2 hr
        rw [colE_bit, colK_e, colK_len, hr, hw.len, decide_eq_true this]; simp
    · exact hcs.mono hle (by rw [colK_len]) j (by omega)
/-- nothing new: all lines hold -/
theorem sweep_done (x5 : xs.length ≤ 5) (y5 : ys.length ≤ 5) (hw : WfK xs.length ys.length K) (hr : RowsIn xs ys K K xs.length) (hc : ColsIn xs ys K K ys.length) : LC xs ys K := by
  constructor
  · intro i hi
    obtain ⟨h1, h2, h3⟩ := hr i hi
    have hlt := hw.lt i hi
    obtain ⟨e1, e2⟩ := setS_ext (cl := gi xs (i : Int)) y5 hlt.1 hlt.2
    generalize setS ys.length (gi xs (i : Int)) (fK K i) (eK K i) = s at *
    obtain ⟨s1, s2, s3⟩ := s
    simp only at h1 h2 h3 e1 e2
    rw [h1, h2.anti e1, h3.anti e2]
  · intro c hcc
    obtain ⟨h1, h2, h3⟩ := hc c hcc
    have hlt := col_lt hw c
    obtain ⟨e1, e2⟩ := setS_ext (cl := gi ys (c : Int)) x5 hlt.1 hlt.2
    generalize setS xs.length (gi ys (c : Int)) (colN (FK K) c) (colN (EK K) c) = s at *
    obtain ⟨s1, s2, s3⟩ := s
    simp only at h1 h2 h3 e1 e2
    rw [h1, h2.anti e1, h3.anti e2]
end
/-! ### How much is open yet -/
def mes (h w : Nat) (K : KS) : Nat := sumR h fun i => (2 ^ w - fK K i) + (2 ^ w - eK K i)
theorem sumR_le {n : Nat} {f g : Nat → Nat} (h : ∀ i, i < n → f i ≤ g i) : sumR n f ≤ sumR n g := by
  induction n with
  | zero => exact Nat.le_refl _
  | succ n ih =>
    rw [sumR_s, sumR_s]
    have := ih fun i hi => h i (by omega)
    have := h n (by omega)
    omega
theorem sumR_lt {n : Nat} {f g : Nat → Nat} (h : ∀ i, i < n → f i ≤ g i) {j : Nat} (hj : j < n) (hl : f j < g j) : sumR n f < sumR n g := by
  induction n with
  | zero => omega
  | succ n ih =>
    rw [sumR_s, sumR_s]
    by_cases e : j = n
    · subst e
      have := sumR_le (n := j) (f := f) (g := g) fun i hi => h i (by omega)
      omega
    · have := ih (fun i hi => h i (by omega)) (by omega)
      have := h n (by omega)
      omega
theorem mes_lt {h w : Nat} {K C : KS} (hK : WfK h w K) (hC : WfK h w C) (hle : LeK K C) (hne : K ≠ C) : mes h w C < mes h w K := by
  have hex : ∃ i, i < h ∧ ¬ (fK K i = fK C i ∧ eK K i = eK C i) := by
    refine Classical.byContradiction fun q => hne (K_ext hK hC fun i hi => Classical.byContradiction fun q' => q ⟨i, hi, q'⟩)
  obtain ⟨j, hj, hn⟩ := hex
  unfold mes
  refine sumR_lt (fun i hi => ?_) hj ?_
  · have := (hle i).1.le
    have := (hle i).2.le
    omega
  · have := (hle j).1.le
    have := (hle j).2.le
    have := hC.lt j hj
    omega
theorem mes_le {h w : Nat} {K C : KS} (hle : LeK K C) : mes h w C ≤ mes h w K := sumR_le fun i _ => by
  have := (hle i).1.le
  have := (hle i).2.le
  omega
/-! ### Supposing -/
def openB (K : KS) (i c : Nat) : Prop := (fK K i).testBit c = false ∧ (eK K i).testBit c = false
def bitOr (a c : Nat) : Nat := a ||| 1 <<< c
theorem bitOr_bit {a c k : Nat} : (bitOr a c).testBit k = (a.testBit k || decide (k = c)) := by
  unfold bitOr
  rw [Nat.testBit_or, Nat.one_shiftLeft, Nat.testBit_two_pow]
  congr 1
  simp [eq_comm]
def withK (K : KS) (i c : Nat) (v : Bool) : KS := K.set i (if v then (bitOr (fK K i) c, eK K i) else (fK K i, bitOr (eK K i) c))
def hasV (L : KS) (i c : Nat) (v : Bool) : Prop := if v then (fK L i).testBit c = true else (eK L i).testBit c = true
theorem bitOr_lt {a c w : Nat} (ha : a < 2 ^ w) (hc : c < w) : bitOr a c < 2 ^ w := by
  unfold bitOr
  refine Nat.or_lt_two_pow ha ?_
  rw [Nat.one_shiftLeft]
  exact Nat.pow_lt_pow_right (by omega) hc
theorem with_wf {h w : Nat} {K : KS} (hK : WfK h w K) {i c : Nat} (hi : i < h) (hc : c < w) (v : Bool) : WfK h w (withK K i c v) := by
  have := hK.lt i hi
  unfold withK
  refine set_wf hK hi ?_
  cases v
  · exact ⟨this.1, bitOr_lt this.2 hc⟩
  · exact ⟨bitOr_lt this.1 hc, this.2⟩
theorem subOr {a b c : Nat} (h : SubB a b) (hb : b.testBit c = true) : SubB (bitOr a c) b := fun k hk => by
  rw [bitOr_bit, Bool.or_eq_true] at hk
  rcases hk with hk | hk
  · exact h k hk
  · rw [of_decide_eq_true hk]; exact hb
theorem leOr {a c : Nat} : SubB a (bitOr a c) := fun k hk => by rw [bitOr_bit, hk]; rfl
theorem le_with {K : KS} {i c : Nat} (hi : i < K.length) (v : Bool) : LeK K (withK K i c v) := by
  unfold withK
  cases v
  · exact le_set hi (SubB.refl _) leOr
  · exact le_set hi leOr (SubB.refl _)
theorem with_le {K L : KS} {i c : Nat} (hi : i < K.length) {v : Bool} (h : LeK K L) (hv : hasV L i c v) : LeK (withK K i c v) L := by
  unfold withK
  cases v
  · exact set_le hi h (h i).1 (subOr (h i).2 hv)
  · exact set_le hi h (subOr (h i).1 hv) (h i).2
theorem with_has {K : KS} {i c : Nat} (hi : i < K.length) (v : Bool) : hasV (withK K i c v) i c v := by
  unfold withK hasV
  cases v
  · simp only [Bool.false_eq_true, if_false]; rw [eK_set hi, if_pos rfl, bitOr_bit]; simp
  · simp only [if_true]; rw [fK_set hi, if_pos rfl, bitOr_bit]; simp
theorem LeK.has {K L : KS} (h : LeK K L) {i c : Nat} {v : Bool} (hv : hasV K i c v) : hasV L i c v := by
  unfold hasV at *
  cases v
  · exact (h i).2 c hv
  · exact (h i).1 c hv
theorem openB.not {K : KS} {i c : Nat} {v : Bool} (h : openB K i c) : ¬ hasV K i c v := by
  unfold hasV
  cases v
  · simp [h.2]
  · simp [h.1]
theorem open_or {K : KS} {i c : Nat} (v : Bool) : openB K i c ∨ hasV K i c v ∨ hasV K i c (!v) := by
  unfold openB hasV
  cases h1 : (fK K i).testBit c <;> cases h2 : (eK K i).testBit c <;> cases v <;> simp_all
theorem with_ne {K : KS} {i c : Nat} (hi : i < K.length) {v : Bool} (h : openB K i c) : K ≠ withK K i c v := fun e => h.not (v := v) (by
  have := with_has (c := c) hi v
  rwa [← e] at this)
/-- closed: no line, and no supposing at a depth less, settles more -/
def Closed (xs ys : List (List Int)) : Nat → KS → Prop
  | 0, L => WfK xs.length ys.length L ∧ LC xs ys L
  | d + 1, L => WfK xs.length ys.length L ∧ LC xs ys L ∧ ∀ i c v, i < xs.length → c < ys.length → openB L i c → ∃ M, Closed xs ys d M ∧ LeK L M ∧ hasV M i c v
section
variable {xs ys : List (List Int)}
theorem Closed.wf : ∀ {d : Nat} {L : KS}, Closed xs ys d L → WfK xs.length ys.length L
  | 0, _, h => h.1
  | _ + 1, _, h => h.1
theorem Closed.lc : ∀ {d : Nat} {L : KS}, Closed xs ys d L → LC xs ys L
  | 0, _, h => h.2
  | _ + 1, _, h => h.2.1
theorem Closed.down : ∀ {d : Nat} {L : KS}, Closed xs ys (d + 1) L → Closed xs ys d L
  | 0, _, h => ⟨h.1, h.2.1⟩
  | d + 1, _, h => ⟨h.1, h.2.1, fun i c v hi hc ho => by
    obtain ⟨M, hM, h1, h2⟩ := h.2.2 i c v hi hc ho
    exact ⟨M, hM.down, h1, h2⟩⟩
/-- settled: the least closed one -/
def Res (xs ys : List (List Int)) (d : Nat) (K C : KS) : Prop := Closed xs ys d C ∧ LeK K C ∧ ∀ L, Closed xs ys d L → LeK K L → LeK C L
def Fail (xs ys : List (List Int)) (d : Nat) (K : KS) : Prop := ∀ L, Closed xs ys d L → ¬ LeK K L
def Mid (xs ys : List (List Int)) (d : Nat) (K C : KS) : Prop := WfK xs.length ys.length C ∧ LeK K C ∧ ∀ L, Closed xs ys d L → LeK K L → LeK C L
theorem Mid.lines {d : Nat} {K C D : KS} (h : Mid xs ys d K C) (h' : MidL xs ys C D) : Mid xs ys d K D := ⟨h'.1, h.2.1.trans h'.2.1, fun L h1 h2 => h'.2.2 L h1.wf h1.lc (h.2.2 L h1 h2)⟩
theorem Mid.failL {d : Nat} {K C : KS} (h : Mid xs ys d K C) (hf : FailL xs ys C) : Fail xs ys d K := fun L h1 h2 => hf L h1.wf h1.lc (h.2.2 L h1 h2)
theorem Mid.res {d : Nat} {K C : KS} (h : Mid xs ys d K C) (hc : Closed xs ys d C) : Res xs ys d K C := ⟨hc, h.2⟩
/-- one value fails: the other holds -/
theorem Mid.try {d : Nat} {K C : KS} (h : Mid xs ys (d + 1) K C) {i c : Nat} {v : Bool} (hi : i < xs.length) (hc : c < ys.length) (hf : Fail xs ys d (withK C i c v)) : Mid xs ys (d + 1) K (withK C i c (!v)) := by
  obtain ⟨hw, h1, h2⟩ := h
  have hi' : i < C.length := by rw [hw.len]; exact hi
  refine ⟨with_wf hw hi hc _, h1.trans (le_with hi' _), fun L hL hKL => ?_⟩
  have hCL := h2 L hL hKL
  rcases open_or (K := L) (i := i) (c := c) v with ho | hv | hv
  · obtain ⟨M, hM, hLM, hv⟩ := hL.2.2 i c v hi hc ho
    exact absurd (with_le hi' (hCL.trans hLM) hv) (hf M hM)
  · exact absurd (with_le hi' hCL hv) (hf L hL.down)
  · exact with_le hi' hCL hv
/-- nothing fails: closed -/
theorem closed_try {d : Nat} {C : KS} (hw : WfK xs.length ys.length C) (hl : LC xs ys C) (h : ∀ i c v, i < xs.length → c < ys.length → openB C i c → ∃ M, Res xs ys d (withK C i c v) M) : Closed xs ys (d + 1) C :=
  ⟨hw, hl, fun i c v hi hc ho => by
    obtain ⟨M, hM⟩ := h i c v hi hc ho
    have hi' : i < C.length := by rw [hw.len]; exact hi
    exact ⟨M, hM.1, (le_with hi' v).trans hM.2.1, hM.2.1.has (with_has hi' v)⟩⟩
theorem Res.uniq {d : Nat} {K C D : KS} (h : Res xs ys d K C) (h' : Res xs ys d K D) : C = D := LeK.anti h.1.wf h'.1.wf (h.2.2 D h'.1 h'.2.1) (h'.2.2 C h.1 h.2.1)
end
end Go.Proofs.YtjjndoigkhabdaaDoor
namespace Go.AM
open Go
def OAcc (p : Nat → Prop) (H : Heap) (u : AV) (xs : List (List Int)) : Prop :=
  (u = .nils ∧ xs = []) ∨ ∃ b o c k, u = .s 1 b o xs.length c ∧ p b ∧ H[b]? = some (.cells k) ∧ o + xs.length ≤ k.length ∧ xs.length ≤ 9223372036854775807 ∧ ∀ (i : Nat) (h : i < xs.length), Rep.rep (fun b' => p b' ∧ b' ≠ b) H ((k.drop (o + i)).take 1) xs[i]
theorem OAcc.of {L : Nat} {p q : Nat → Prop} {H : Heap} {u : AV} {xs : List (List Int)} (h : Acc L p H u xs) (hL : ∀ b, L ≤ b → q b) (hp : ∀ b, p b → q b) : OAcc q H u xs := by
  rcases h with h | ⟨b, o, c, k, rfl, hb, hk1, h1, h2, h3⟩
  · exact .inl h
  · refine .inr ⟨b, o, c, k, rfl, hL b hb, hk1, by change o + xs.length * 1 ≤ _ at h1; omega, h2, fun i hi => ?_⟩
    have := h3 i hi
    change Rep.rep _ H ((k.drop (o + i * 1)).take 1) _ at this
    rw [Nat.mul_one] at this
    exact Rep.mono this (Kp.refl _ _) fun b h => ⟨hp b h.1, h.2⟩
theorem OAcc.acc {L : Nat} {q : Nat → Prop} {H : Heap} {u : AV} {xs : List (List Int)} (h : OAcc q H u xs) (hL : ∀ b, q b → L ≤ b) : Acc L q H u xs := by
  rcases h with h | ⟨b, o, c, k, rfl, hb, hk1, h1, h2, h3⟩
  · exact .inl h
  · refine .inr ⟨b, o, c, k, rfl, hL b hb, hk1, by change o + xs.length * 1 ≤ _; omega, h2, fun i hi => ?_⟩
    change Rep.rep _ H ((k.drop (o + i * 1)).take 1) _
    rw [Nat.mul_one]
    exact h3 i hi
end Go.AM
