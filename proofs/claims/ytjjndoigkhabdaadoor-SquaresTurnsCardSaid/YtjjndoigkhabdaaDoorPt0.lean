/- What the law needs: what its functions do, and the laws on lists behind it. No condition. -/
import Derived.Test.YtjjndoigkhabdaaDoorPi
import Derived.Test.YtjjndoigkhabdaaDoorBo
import Derived.Lib.TrailingZeros
import Derived.Shelf.Spec.TrailingZeros
import Derived.KernelRfl
import Derived.Laws.StructEq
import Derived.Test.YtjjndoigkhabdaaDoorRows
import Derived.ProofKit
import Derived.LaidMore
import Derived.OpenShut
import Derived.Stop.Joined
import Derived.WalkKit
import Derived.ShutString
import Derived.ChangeOld
import Derived.Below
import Derived.SizedLaws
import Derived.Carry
import Derived.SevenTiedAt
set_option linter.unusedSimpArgs false
set_option linter.unusedVariables false
namespace Go.Proofs.YtjjndoigkhabdaaDoor
open Go Go.AM Go.Proofs Go.Shelf Go.RowKit
def tzRen : Ren where
  f n := if n = 27 then 87 else if n = 28 then 108 else 109
  t n := if n = 22 then 112 else if n = 25 then 65 else if n = 27 then 110 else if n = 53 then 117 else if n = 54 then 118 else n
  g n := n
theorem tzLays : Lays7.n27 Tryd.prog tzRen where
  mixed := by kernel_rfl
  f27 := by kernel_rfl
  f28 := by kernel_rfl
  f29 := by kernel_rfl
  t0 := by kernel_rfl
  a0 := fun w => by kernel_rfl
  z0 := fun w => by kernel_rfl
  v0 := fun w => by kernel_rfl
  i0 := by kernel_rfl
  t3 := by kernel_rfl
  a3 := fun w => by kernel_rfl
  z3 := fun w => by kernel_rfl
  v3 := fun w => by kernel_rfl
  i3 := by kernel_rfl
  t4 := by kernel_rfl
  a4 := fun w => by kernel_rfl
  z4 := fun w => by kernel_rfl
  v4 := fun w => by kernel_rfl
  i4 := by kernel_rfl
  t5 := by kernel_rfl
  a5 := fun w => by kernel_rfl
  z5 := fun w => by kernel_rfl
  v5 := fun w => by kernel_rfl
  i5 := by kernel_rfl
  t22 := by kernel_rfl
  a22 := fun w => by kernel_rfl
  z22 := fun w => by kernel_rfl
  v22 := fun w => by kernel_rfl
  i22 := by kernel_rfl
  t25 := by kernel_rfl
  a25 := fun w => by kernel_rfl
  z25 := fun w => by kernel_rfl
  v25 := fun w => by kernel_rfl
  i25 := by kernel_rfl
  t27 := by kernel_rfl
  a27 := fun w => by kernel_rfl
  z27 := fun w => by kernel_rfl
  v27 := fun w => by kernel_rfl
  i27 := by kernel_rfl
  t53 := by kernel_rfl
  a53 := fun w => by kernel_rfl
  z53 := fun w => by kernel_rfl
  v53 := fun w => by kernel_rfl
  i53 := by kernel_rfl
  t54 := by kernel_rfl
  a54 := fun w => by kernel_rfl
  z54 := fun w => by kernel_rfl
  g0 := by kernel_rfl
  g1 := by kernel_rfl
/-- the library's table lies in its variable -/
def TzI (w : World) : Prop := TabAt 1 Lib.deBruijn64tab w
theorem tzI_stable : Stable TzI := fun w w' h hb j hj => by
  have h1 := h j hj
  have hlt : (1 : Nat) < w.heap.size := by
    rcases Nat.lt_or_ge 1 w.heap.size with q | q
    · exact q
    · simp [World.cell?, Array.getElem?_eq_none q] at h1
  rw [← h1]
  exact hb.cell hlt
theorem tz_prim (I : World → Prop) (hI : ∀ w, I w → TzI w) : ∀ (vs : List AV) (v : AV) (args : Array Value) (w : World), tzP vs = some v → VRelL (fun _ => none) vs args.toList → I w → ∀ cs, ∃ x w', Rets Tryd.prog 87 args cs w x w' ∧ VRel (fun _ => none) v x ∧ Below w.heap.size w w' := by
  intro vs v args w hv hr hw cs
  obtain ⟨n, rfl, h0, h1, rfl⟩ : ∃ n : Int, vs = [.int .u64 n] ∧ 0 ≤ n ∧ n ≤ 18446744073709551615 ∧ v = .i (Lib.ctz 64 n.toNat : Nat) := by
    unfold tzP at hv
    split at hv
    · rename_i n
      split at hv
      · rename_i h
        simp only [Option.some.injEq] at hv
        exact ⟨n, rfl, h.1, h.2, hv.symm⟩
      · cases hv
    · cases hv
  obtain ⟨n, rfl⟩ := Int.eq_ofNat_of_zero_le h0
  have ha : args = #[.int .u64 (n : Int)] := by
    simp only [VRelL] at hr
    obtain ⟨x, xs, e, hx, hxs⟩ := hr
    simp only [VRel] at hx
    cases args
    simp_all
  subst ha
  obtain ⟨e, w', fr, ⟨rfl, rfl⟩, hc, hf, hl⟩ := Any7.bits_TrailingZeros tzLays n (by omega) w (fun _ => hI w hw) cs
  exact ⟨_, _, ⟨fr, hc, hf, hl⟩, by simp [VRel], Below.refl _ _⟩
theorem tz_enters : Enters' Tryd.prog 87 := enters_of tzLays.f27 (by kernel_rfl) rfl
end Go.Proofs.YtjjndoigkhabdaaDoor
namespace Go.Proofs.YtjjndoigkhabdaaDoor
open Go Go.AM Go.Proofs Go.RowKit
theorem list2 {xs : List Int} (h : xs.length = 2) : ∃ a b, xs = [a, b] := by
  match xs, h with
  | [a, b], _ => exact ⟨a, b, rfl⟩
theorem eq72 (w : World) (x0 x1 y0 y1 : Int) : (Op.equalIn 10000 72 (.agg #[.int .i64 x0, .int .i64 x1]) (.agg #[.int .i64 y0, .int .i64 y1])).run C.P w = .ok ([x0, x1] == [y0, y1]) w := by
  rw [run_equalIn_struct w 9999 72 _ _ (by kernel_rfl) (by kernel_rfl)]
  have hi : Tryd.prog.underlying 3 = some (.int .i64) := Tryd.underlying3
  have e : ∀ a b : Int, (Op.equalIn 9999 3 (.int .i64 a) (.int .i64 b)).run Tryd.prog w = .ok (a == b) w := fun a b => run_equalIn_int w 9998 3 .i64 .i64 a b hi
  have pt : ∀ (a b : Int) (k : Nat), k < 2 → (part 3 #[.int .i64 a, .int .i64 b] k).run Tryd.prog w = .ok (.int .i64 (if k = 0 then a else b)) w := by
    intro a b k hk
    have : k = 0 ∨ k = 1 := by omega
    rcases this with rfl | rfl <;> go_simp
  simp [Tryd.underlying72, Program.fieldsOf, C, Op.eqFields, pt, e]
  by_cases h1 : x0 = y0 <;> by_cases h2 : x1 = y1 <;> simp [h1, h2]
theorem eqOk : EqOk C := by
  intro t n ht xs ys hx hy neg xo yo w
  obtain ⟨rfl, rfl⟩ : t = 72 ∧ n = 2 := by
    simp only [C] at ht
    split at ht
    · rename_i h; cases ht; exact ⟨by simpa using h, rfl⟩
    · cases ht
  obtain ⟨x0, x1, rfl⟩ := list2 hx
  obtain ⟨y0, y1, rfl⟩ := list2 hy
  have g : ∀ op, (eqGuard op 72 xo yo (.agg (ints [x0, x1])) (.agg (ints [y0, y1]))).run C.P w = .ok () w := fun op => run_eqGuard_agg w op 72 xo yo _ _ (by kernel_rfl)
  have e := eq72 w x0 x1 y0 y1
  cases neg
  · simp only [Bool.false_eq_true, if_false, Sem.run_bind, g, Result.andThen_ok, run_eql_struct]
    simp [ints] at e ⊢; rw [e]; rfl
  · simp only [if_true, Sem.run_bind, g, Result.andThen_ok, run_neq_struct]
    simp [ints] at e ⊢; rw [e]; simp [Result.andThen, Bool.not_and]
theorem eOk : EOk C TzI E where
  kd := rfl
  fn := fun f af h => tab_ok (f, af) (lookup_mem h)
  prim := fun f g h => by
    simp only [C, kd] at h
    split at h
    · cases h
    · split at h
      · cases h
      · split at h
        · rename_i e
          cases h
          subst e
          exact ⟨tz_enters, tz_prim TzI fun _ h => h⟩
        · cases h
  stable := tzI_stable
  eq := eqOk
  mixed := mixed
theorem hrelI {ρ : Mp} {H : Heap} {w : World} {I : World → Prop} (h : FRel C ρ H w) (hI : I w) : HRel C I ρ H.length w H w where
  below := Below.refl _ _
  inv := hI
  lt := Nat.le_refl _
  dom := h.1
  own b r e hb := absurd (h.1 b r e) (by omega)
  apart b b' r r' k k' e _ hb := absurd (h.1 b r e) (by omega)
  blk b r k e hk := by
    have hb : ¬ H.length ≤ b := by have := h.1 b r e; omega
    have := h.2 b r k e hk
    cases k with
    | cells vs => exact ⟨this.1, fun q => absurd q hb, fun _ => this.2.2 (fun q => q)⟩
    | dead => trivial
    | loop st pend nt fr ps asg body => exact fun q => absurd q hb
/-- from the abstract machine to the row's walk -/
theorem walk_lawI {f : Nat} {vs : List AV} {H : Heap} (hx : WpF E H.length f vs H fun v _ => v = .b true) {ρ : Mp} {w : World} (hF : FRel C ρ H w) (hI : TzI w) {args : Array Value} (ha : VRelL ρ vs args.toList) :
    Calls C.P f args w fun e W' => e = .returned (.bool true) ∧ Below w.heap.size w W' := by
  obtain ⟨n, v, H', h1, rfl⟩ := hx
  refine (calls_of eOk rfl h1 (hrelI hF hI) ha (Nat.le_refl _)).mono fun e W' h => ?_
  obtain ⟨ρ', x, rfl, h2, h3, _⟩ := h
  rw [h2.bool]
  exact ⟨rfl, h3.below⟩
end Go.Proofs.YtjjndoigkhabdaaDoor
namespace Go.Proofs.YtjjndoigkhabdaaDoor
open Go Go.AM Go.Proofs Go.ChangeShapes Go.WideShapes Go.ChangeAt Go.WideMaps Go.WideElems Go.RowKit
theorem gT64 : Tryd.prog.globalNamed "math/bits.deBruijn64tab" = some 1 := by kernel_rfl
theorem tT64 : (Tryd.prog.globals[1]?).map (·.type) = some 118 := by kernel_rfl
abbrev laid2 {H : Type} : List (String × DataW H) := [("math/bits.deBruijn32tab", Rows.laid_math_bits_deBruijn32tab), ("math/bits.deBruijn64tab", Rows.laid_math_bits_deBruijn64tab)]
/-- the door's own heap meets the condition -/
theorem door_met (os : Os) (args : Array Value) : laidMetH Tryd.prog laid2 ((World.doorLaid Tryd.prog 400 os).forCall (fun _ _ => 0) ⟨#[], args, []⟩).memory :=
  laidMetH_of_parts3 (fuel := 8) (laidMet_of_run' 8 (by kernel_rfl) (by kernel_rfl)) (by kernel_rfl) (by kernel_rfl)
theorem lits64 {H : Type} : ∃ l : List (DataW H), Rows.laid_math_bits_deBruijn64tab = .agg l ∧ l = Lib.deBruijn64tab.map fun k : Nat => .lit (.int .u8 (k : Int)) := ⟨_, rfl, rfl⟩
theorem tzI_of_laid {W : World} (h : laidMetH Tryd.prog laid2 W) : TzI W := by
  rw [MakeChecks.laidMetH_plain _ _ _ (by kernel_rfl)] at h
  obtain ⟨ps, ⟨g0, t0, cs0, f0, p0, q0, hg0, ht0, hv0, hd0, ⟨g1, t1, cs1, f1, p1, q1, hg1, ht1, hv1, hd1, _, _⟩, _⟩, _, _⟩ := h
  obtain rfl := Option.some.inj (gT64.symm.trans hg1)
  obtain rfl := Option.some.inj (tT64.symm.trans ht1)
  intro j hj
  have hj64 : j < 64 := hj
  obtain ⟨xs, m1, rfl, hx1, hlen, hn3, hel⟩ := DataW.trod_array Tryd.underlying118 hd1
  have c5 : Tryd.prog.cellsOf 5 = 1 := by kernel_rfl
  have h0 := hel j hj64
  obtain ⟨l, el, hl⟩ := lits64 (H := _)
  simp only [Prod.mk.injEq] at hx1
  rw [el] at hx1
  have hmap : l = xs.map (·.1) := by
    have := hx1.1
    simpa using this
  have hxj : xs[j]? = some (xs[j]'(by omega)) := List.getElem?_eq_getElem (by omega)
  rw [hxj, c5, Nat.mul_one] at h0
  obtain ⟨k, e1, e2, _⟩ := DataW.trod_int Tryd.underlying5 h0
  have e3 : l[j]? = some (xs[j]'(by omega)).1 := by rw [hmap, List.getElem?_map, hxj]; rfl
  rw [e2, hl, List.getElem?_map] at e3
  have e4 : Lib.deBruijn64tab[j]? = some (Lib.deBruijn64tab.getD j 0) := by
    rw [List.getD_eq_getElem?_getD]
    have : j < Lib.deBruijn64tab.length := hj
    rw [List.getElem?_eq_getElem this]; rfl
  rw [e4] at e3
  simp only [Option.map_some, Option.some.injEq, DataW.lit.injEq, Lit.int.injEq, true_and] at e3
  have hc := World.var?_cell hg1 hv1 j
  have e5 : cs1[j]? = some (.int .u8 k) := by
    have : (cs1.toList.drop j).take 1 = [.int .u8 k] := e1
    have := take1 this
    simpa using this
  rw [e5, ← e3] at hc
  exact hc
end Go.Proofs.YtjjndoigkhabdaaDoor
namespace Go.Proofs.YtjjndoigkhabdaaDoor
open Go Go.AM Go.Proofs
theorem equal_ret {p q : Nat → Prop} {H : Heap} {v u : AV} {xs ys : List Int} (hx : Sl p H v xs) (hy : Sl q H u ys) : RetP E 21 [v, u] H (.b (decide (xs = ys))) := by
  refine RetP.ro rfl fn21 rfl rfl ?_
  unfold f21A
  have hbx := hx.bound
  repeat' (first | refine condP_split (fun _ => ?_) (fun _ => ?_) | refine guardP_split (fun _ => ?_) (fun _ => ?_) | refine guardP_splitF (fun _ => ?_) (fun _ => ?_) | (simp (disch := (first | assumption | omega | (simp only [List.length_append, List.length_cons, List.length_nil]; omega))) only [↓wD,wU,Nat.reduceBEq,zx150,zx151,zx159,zx160,zx161,zx162,Nat.reduceAdd,Nat.reduceSub,Nat.reduceMul,Nat.reduceLeDiff,Nat.reduceLT,Nat.reduceEqDiff,Int.reduceAdd,Int.reduceSub,Int.reduceMul,Int.reduceNeg,Int.reduceLT,Int.reduceLE,Int.reduceEq,Int.reduceToNat,Int.cast_ofNat_Int,↓reduceIte, *, hx.I, hy.I]))
  · exact avb_f fun h => by simp_all
  · have hl : xs.length = ys.length := by omega
    refine Wp.for xs.length (fun i a H' => H' = H ∧ a 0 = v ∧ a 1 = u ∧ a 12 = .i xs.length ∧ a 13 = .i i ∧ xs.take i = ys.take i) ?_ ?_
    · rintro i a H' hi ⟨rfl, h0, h1, h12, h13, hh⟩ ih
      simp (disch := (first | assumption | omega | (simp only [List.length_append, List.length_cons, List.length_nil]; omega))) only [↓wD,wU,Nat.reduceBEq,zx150,zx151,zx159,zx160,zx161,zx162,Nat.reduceAdd,Nat.reduceSub,Nat.reduceMul,Nat.reduceLeDiff,Nat.reduceLT,Nat.reduceEqDiff,Int.reduceAdd,Int.reduceSub,Int.reduceMul,Int.reduceNeg,Int.reduceLT,Int.reduceLE,Int.reduceEq,Int.reduceToNat,Int.cast_ofNat_Int,↓reduceIte, *]
      refine condP_split (fun hlt => ?_) (fun hlt => ?_)
      · have hi' : i < xs.length := by omega
        repeat' (first | refine condP_split (fun _ => ?_) (fun _ => ?_) | refine guardP_split (fun _ => ?_) (fun _ => ?_) | refine guardP_splitF (fun _ => ?_) (fun _ => ?_) | (simp (disch := (first | assumption | omega | (simp only [List.length_append, List.length_cons, List.length_nil]; omega))) only [↓wD,wU,Nat.reduceBEq,zx150,zx151,zx159,zx160,zx161,zx162,Nat.reduceAdd,Nat.reduceSub,Nat.reduceMul,Nat.reduceLeDiff,Nat.reduceLT,Nat.reduceEqDiff,Int.reduceAdd,Int.reduceSub,Int.reduceMul,Int.reduceNeg,Int.reduceLT,Int.reduceLE,Int.reduceEq,Int.reduceToNat,Int.cast_ofNat_Int,↓reduceIte, *, hx.I, hy.I]))
        · exact avb_f fun h => by simp_all
        · refine (ih hi').go ⟨rfl, ?_⟩
          simp (disch := (first | assumption | omega | (simp only [List.length_append, List.length_cons, List.length_nil]; omega))) only [↓wD,wU,Nat.reduceBEq,zx150,zx151,zx159,zx160,zx161,zx162,Nat.reduceAdd,Nat.reduceSub,Nat.reduceMul,Nat.reduceLeDiff,Nat.reduceLT,Nat.reduceEqDiff,Int.reduceAdd,Int.reduceSub,Int.reduceMul,Int.reduceNeg,Int.reduceLT,Int.reduceLE,Int.reduceEq,Int.reduceToNat,Int.cast_ofNat_Int,↓reduceIte, *]
          exact take_eq_succ hh hi' (by omega) (by simp_all)
      · simp (disch := (first | assumption | omega | (simp only [List.length_append, List.length_cons, List.length_nil]; omega))) only [↓wD,wU,Nat.reduceBEq,zx150,zx151,zx159,zx160,zx161,zx162,Nat.reduceAdd,Nat.reduceSub,Nat.reduceMul,Nat.reduceLeDiff,Nat.reduceLT,Nat.reduceEqDiff,Int.reduceAdd,Int.reduceSub,Int.reduceMul,Int.reduceNeg,Int.reduceLT,Int.reduceLE,Int.reduceEq,Int.reduceToNat,Int.cast_ofNat_Int,↓reduceIte, *]
        exact avb_t (take_all hh hl (by omega))
    · (simp (disch := (first | assumption | omega | (simp only [List.length_append, List.length_cons, List.length_nil]; omega))) only [↓wD,wU,Nat.reduceBEq,zx150,zx151,zx159,zx160,zx161,zx162,Nat.reduceAdd,Nat.reduceSub,Nat.reduceMul,Nat.reduceLeDiff,Nat.reduceLT,Nat.reduceEqDiff,Int.reduceAdd,Int.reduceSub,Int.reduceMul,Int.reduceNeg,Int.reduceLT,Int.reduceLE,Int.reduceEq,Int.reduceToNat,Int.cast_ofNat_Int,↓reduceIte, *]) <;> simp
theorem clone_ret {p : Nat → Prop} {H : Heap} {v : AV} {xs : List Int} (hx : Sl p H v xs) (hs : xs.length * 8 ≤ 1099511627776) : Ret E 33 [v] (fun _ => False) H xs := by
  refine Ret.ro rfl fn33 rfl ?_
  unfold f33A
  have main : ∀ {Q : AV × Heap → Prop}, (∀ v' H', Sl (fun b => H.length ≤ b) H' v' xs → Q (v', H')) → @optP _ (appendV H.length 1 8 (.s 1 H.length 0 0 (some 0)) v (H ++ [.cells []])) ⟨Q⟩ := fun {Q} go => by
    have ha : Acc H.length (fun _ => True) (H ++ [.cells []]) (.s 1 H.length 0 0 (some 0)) ([] : List Int) := Acc.fresh0 (Nat.le_refl _)
    refine ha.extend (q := fun b => b < H.length) (Nat.le_refl _) (by simp) ((hx.low.app [.cells []]).weak fun b h => h.2) (fun b hb => ⟨trivial, ?_⟩) (by simpa using hs) (by omega) fun v' H' h' _ => go _ _ ?_
    · intro e; simp only [AV.blk, Option.some.injEq] at e; omega
    · rw [List.nil_append] at h'
      rcases h' with h' | ⟨b, o, c, k, e, hb, hk, h1, h2, h3⟩
      · exact .inl h'
      · exact .inr ⟨b, o, c, k, e, hb, hk, h1, h2, h3⟩
  rcases hx with ⟨rfl, rfl⟩ | ⟨b, o, c, k, e, hb, hk, h1, h2, h3⟩
  · simp (disch := (first | assumption | omega | (simp only [List.length_append, List.length_cons, List.length_nil]; omega))) only [↓wD,wU,Nat.reduceBEq,zx150,zx151,zx159,zx160,zx161,zx162,Nat.reduceAdd,Nat.reduceSub,Nat.reduceMul,Nat.reduceLeDiff,Nat.reduceLT,Nat.reduceEqDiff,Int.reduceAdd,Int.reduceSub,Int.reduceMul,Int.reduceNeg,Int.reduceLT,Int.reduceLE,Int.reduceEq,Int.reduceToNat,Int.cast_ofNat_Int,↓reduceIte, *]
    exact Sl.nil
  · subst e
    simp (disch := (first | assumption | omega | (simp only [List.length_append, List.length_cons, List.length_nil]; omega))) only [↓wD,wU,Nat.reduceBEq,zx150,zx151,zx159,zx160,zx161,zx162,Nat.reduceAdd,Nat.reduceSub,Nat.reduceMul,Nat.reduceLeDiff,Nat.reduceLT,Nat.reduceEqDiff,Int.reduceAdd,Int.reduceSub,Int.reduceMul,Int.reduceNeg,Int.reduceLT,Int.reduceLE,Int.reduceEq,Int.reduceToNat,Int.cast_ofNat_Int,↓reduceIte, *]
    refine main fun v' H' h' => ?_
    simp (disch := (first | assumption | omega | (simp only [List.length_append, List.length_cons, List.length_nil]; omega))) only [↓wD,wU,Nat.reduceBEq,zx150,zx151,zx159,zx160,zx161,zx162,Nat.reduceAdd,Nat.reduceSub,Nat.reduceMul,Nat.reduceLeDiff,Nat.reduceLT,Nat.reduceEqDiff,Int.reduceAdd,Int.reduceSub,Int.reduceMul,Int.reduceNeg,Int.reduceLT,Int.reduceLE,Int.reduceEq,Int.reduceToNat,Int.cast_ofNat_Int,↓reduceIte, *]
    exact h'.weak fun _ h => .inr h
end Go.Proofs.YtjjndoigkhabdaaDoor
namespace Go.Proofs.YtjjndoigkhabdaaDoor
open Go Go.AM Go.Proofs
theorem _root_.Go.AM.RetP.prim {E : Tab} {f : Nat} {g : List AV → Option AV} {vs : List AV} {v : AV} {H : Heap} (hk : E.kd f = .prim g) (h : g vs = some v) (hv : v.pure = true) (ha : AV.pureAll vs = true) : RetP E f vs H v := fun lo => by
  refine ⟨0, v, H, ?_, rfl, rfl⟩
  unfold callF
  simp [hk, h, hv, ha]
/-! ### Bits -/
theorem ofI {a : Nat} (h : a ≤ 9223372036854775807) : (BitVec.ofInt 64 (a : Int)).toNat = a := by
  rw [BitVec.ofInt_natCast, BitVec.toNat_ofNat]; exact Nat.mod_eq_of_lt (by omega)
theorem and_le {a b : Nat} (h : a ≤ 9223372036854775807) : a &&& b ≤ 9223372036854775807 := Nat.le_trans Nat.and_le_left h
theorem b_and {a b : Nat} (h : a ≤ 9223372036854775807) (h' : b ≤ 9223372036854775807) : binA .and (.i (a : Int)) (.i (b : Int)) = some (.i ((a &&& b : Nat) : Int)) := by
  have e : (BitVec.ofInt 64 (a : Int) &&& BitVec.ofInt 64 (b : Int)).toNat = a &&& b := by rw [BitVec.toNat_and, ofI h, ofI h']
  show some (AV.int .i64 (IntKind.wrap .i64 ((BitVec.ofInt 64 (a : Int) &&& BitVec.ofInt 64 (b : Int)).toNat : Int))) = _
  have := and_le (b := b) h
  rw [e, zx172 (by omega) (by omega)]
theorem b_shr {a b : Nat} (h' : b ≤ 63) : binA .shr (.i (a : Int)) (.i (b : Int)) = some (.i ((a >>> b : Nat) : Int)) := by
  show (if (b : Int) < 0 then none else some (AV.int .i64 ((a : Int).fdiv (2 ^ (min (b : Int).toNat 64))))) = _
  rw [if_neg (by omega), show min (b : Int).toNat 64 = b by omega, Nat.shiftRight_eq_div_pow]
  congr 2
  rw [Int.fdiv_eq_ediv_of_nonneg _ (by exact_mod_cast Nat.zero_le (2 ^ b))]
  simp
theorem b_shl {a b : Nat} (h' : b ≤ 63) (h : a <<< b ≤ 9223372036854775807) : binA .shl (.i (a : Int)) (.i (b : Int)) = some (.i ((a <<< b : Nat) : Int)) := by
  show (if (b : Int) < 0 then none else some (AV.int .i64 (IntKind.wrap .i64 ((a : Int) * 2 ^ (min (b : Int).toNat 64))))) = _
  have e : (a : Int) * 2 ^ b = ((a <<< b : Nat) : Int) := by rw [Nat.shiftLeft_eq]; simp
  rw [if_neg (by omega), show min (b : Int).toNat 64 = b by omega, e]
  generalize a <<< b = c at h
  rw [zx172 (by omega) (by omega)]
/-! ### Blocks -/
def tzQ (x : Nat) : Nat := Lib.ctz 64 x
def yQ (x : Nat) : Nat := x >>> tzQ x
def nQ (x : Nat) : Nat := 18446744073709551615 - yQ x
def cnQ (x : Nat) : Nat := Lib.ctz 64 (nQ x)
def nxQ (x : Nat) : Nat := yQ x >>> cnQ x
def blkF : Nat → Nat → List Int
  | 0, _ => []
  | f + 1, x => if x = 0 then [] else (cnQ x : Int) :: blkF f (nxQ x)
/-- the blocks of a line -/
def blkL (x : Nat) : List Int := blkF 5 x
def osame (o : Option AV) (v : AV) : Bool := match o with
  | some u => u.same v
  | none => false
theorem osame_eq {o : Option AV} {v : AV} (h : osame o v = true) : o = some v := by
  cases o with
  | none => cases h
  | some u => rw [AV.eq_of_same _ _ h]
def qOk (x : Nat) : Bool := x = 0 || (decide (nxQ x < x) && decide (cnQ x ≤ 5) && decide (blkL x = (cnQ x : Int) :: blkL (nxQ x)) && osame (tzP [.int .u64 x]) (.i (tzQ x)) && osame (binA .shr (.int .u64 x) (.i (tzQ x))) (.int .u64 (yQ x)) &&
  osame (unA .xor (.int .u64 (yQ x))) (.int .u64 (nQ x)) && osame (tzP [.int .u64 (nQ x)]) (.i (cnQ x)) && osame (binA .shr (.int .u64 (yQ x)) (.i (cnQ x))) (.int .u64 (nxQ x)))
theorem qOk_all : ∀ x, x < 32 → qOk x = true := by decide +kernel
theorem q_facts {x : Nat} (h : x < 32) (h0 : x ≠ 0) : nxQ x < x ∧ cnQ x ≤ 5 ∧ blkL x = (cnQ x : Int) :: blkL (nxQ x) ∧ tzP [.int .u64 (x : Int)] = some (.i (tzQ x : Nat)) ∧ binA .shr (.int .u64 (x : Int)) (.i (tzQ x : Nat)) = some (.int .u64 (yQ x : Nat)) ∧
    unA .xor (.int .u64 (yQ x : Nat)) = some (.int .u64 (nQ x : Nat)) ∧ tzP [.int .u64 (nQ x : Nat)] = some (.i (cnQ x : Nat)) ∧ binA .shr (.int .u64 (yQ x : Nat)) (.i (cnQ x : Nat)) = some (.int .u64 (nxQ x : Nat)) := by
  have q := qOk_all x h
  unfold qOk at q
  simp only [h0, decide_false, Bool.false_or, Bool.and_eq_true, decide_eq_true_eq] at q
  obtain ⟨⟨⟨⟨⟨⟨⟨q1, q2⟩, q3⟩, q4⟩, q5⟩, q6⟩, q7⟩, q8⟩ := q
  exact ⟨q1, q2, q3, osame_eq q4, osame_eq q5, osame_eq q6, osame_eq q7, osame_eq q8⟩
theorem blkL_0 : blkL 0 = [] := rfl
theorem blkL_len (x : Nat) : (blkL x).length ≤ 5 := by
  have : ∀ f x, (blkF f x).length ≤ f := by
    intro f
    induction f with
    | zero => intro x; simp [blkF]
    | succ f ih => intro x; unfold blkF; split <;> simp; exact ih _
  exact this 5 x
theorem blocks_ret {H : Heap} {x : Nat} (hx : x < 32) : Ret E 56 [.i x] (fun _ => False) H (blkL x) := by
  refine Ret.ro rfl fn56 rfl ?_
  unfold f56A
  have hc : convV .u64 (.i (x : Int)) = some (.int .u64 x) := by rw [zx95, wrapU (by omega) (by omega)]
  simp (disch := (first | assumption | omega | (simp only [List.length_append, List.length_cons, List.length_nil]; omega))) only [↓wD,wU,Nat.reduceBEq,zx150,zx151,zx159,zx160,zx161,zx162,Nat.reduceAdd,Nat.reduceSub,Nat.reduceMul,Nat.reduceLeDiff,Nat.reduceLT,Nat.reduceEqDiff,Int.reduceAdd,Int.reduceSub,Int.reduceMul,Int.reduceNeg,Int.reduceLT,Int.reduceLE,Int.reduceEq,Int.reduceToNat,Int.cast_ofNat_Int,↓reduceIte, hc]
  refine Wp.dec (fun y a H' => ∃ u acc, a 4 = .int .u64 y ∧ a 3 = u ∧ y < 32 ∧ Gr H H' ∧ Acc H.length (fun _ => False) H' u acc ∧ acc ++ blkL y = blkL x) x ?_ ?_
  · rintro y a H1 ⟨u, acc, a4, a3, hy, hg, hu, he⟩ ih
    by_cases h0 : y = 0
    · subst h0
      rw [blkL_0, List.append_nil] at he
      subst he
      have hd : decide (¬ ((0 : Nat) : Int) = 0) = false := by decide
      simp (disch := (first | assumption | omega | (simp only [List.length_append, List.length_cons, List.length_nil]; omega))) only [↓wD,wU,Nat.reduceBEq,zx150,zx151,zx159,zx160,zx161,zx162,Nat.reduceAdd,Nat.reduceSub,Nat.reduceMul,Nat.reduceLeDiff,Nat.reduceLT,Nat.reduceEqDiff,Int.reduceAdd,Int.reduceSub,Int.reduceMul,Int.reduceNeg,Int.reduceLT,Int.reduceLE,Int.reduceEq,Int.reduceToNat,Int.cast_ofNat_Int,↓reduceIte, a4, a3, hd]
      exact hu.sl
    · obtain ⟨q1, q2, q3, q4, q5, q6, q7, q8⟩ := q_facts hy h0
      have hd : decide (¬ (y : Int) = 0) = true := decide_eq_true (by omega)
      have t1 := RetP.prim (E := E) (H := H1) (f := 87) rfl q4 rfl rfl
      have t2 := RetP.prim (E := E) (H := H1) (f := 87) rfl q7 rfl rfl
      have hl : acc.length + (blkL y).length = (blkL x).length := by rw [← he, List.length_append]
      have hl5 := blkL_len x
      simp (disch := (first | assumption | omega | (simp only [List.length_append, List.length_cons, List.length_nil]; omega))) only [↓wD,wU,Nat.reduceBEq,zx150,zx151,zx159,zx160,zx161,zx162,Nat.reduceAdd,Nat.reduceSub,Nat.reduceMul,Nat.reduceLeDiff,Nat.reduceLT,Nat.reduceEqDiff,Int.reduceAdd,Int.reduceSub,Int.reduceMul,Int.reduceNeg,Int.reduceLT,Int.reduceLE,Int.reduceEq,Int.reduceToNat,Int.cast_ofNat_Int,↓reduceIte, a4, a3, hd, t1.call, q5, q6, t2.call, q8]
      refine hu.pushI (Nat.le_refl _) hg.1 (by omega) fun u' H2 hu' hk2 _ _ => ?_
      simp (disch := (first | assumption | omega | (simp only [List.length_append, List.length_cons, List.length_nil]; omega))) only [↓wD,wU,Nat.reduceBEq,zx150,zx151,zx159,zx160,zx161,zx162,Nat.reduceAdd,Nat.reduceSub,Nat.reduceMul,Nat.reduceLeDiff,Nat.reduceLT,Nat.reduceEqDiff,Int.reduceAdd,Int.reduceSub,Int.reduceMul,Int.reduceNeg,Int.reduceLT,Int.reduceLE,Int.reduceEq,Int.reduceToNat,Int.cast_ofNat_Int,↓reduceIte, q8]
      refine ih.go ⟨nxQ y, q1, u', acc ++ [(cnQ y : Int)], ?_⟩
      simp (disch := (first | assumption | omega | (simp only [List.length_append, List.length_cons, List.length_nil]; omega))) only [↓wD,wU,Nat.reduceBEq,zx150,zx151,zx159,zx160,zx161,zx162,Nat.reduceAdd,Nat.reduceSub,Nat.reduceMul,Nat.reduceLeDiff,Nat.reduceLT,Nat.reduceEqDiff,Int.reduceAdd,Int.reduceSub,Int.reduceMul,Int.reduceNeg,Int.reduceLT,Int.reduceLE,Int.reduceEq,Int.reduceToNat,Int.cast_ofNat_Int,↓reduceIte]
      refine ⟨by omega, hg.push hu (Nat.le_refl _) hk2, hu', ?_⟩
      rw [← he, q3]; simp
  · simp (disch := (first | assumption | omega | (simp only [List.length_append, List.length_cons, List.length_nil]; omega))) only [↓wD,wU,Nat.reduceBEq,zx150,zx151,zx159,zx160,zx161,zx162,Nat.reduceAdd,Nat.reduceSub,Nat.reduceMul,Nat.reduceLeDiff,Nat.reduceLT,Nat.reduceEqDiff,Int.reduceAdd,Int.reduceSub,Int.reduceMul,Int.reduceNeg,Int.reduceLT,Int.reduceLE,Int.reduceEq,Int.reduceToNat,Int.cast_ofNat_Int,↓reduceIte]
    exact ⟨.nils, [], rfl, hx, Gr.refl _, Acc.nil, rfl⟩
end Go.Proofs.YtjjndoigkhabdaaDoor
namespace Go.Proofs.YtjjndoigkhabdaaDoor
open Go Go.AM Go.Proofs
theorem b_shl1 {n : Nat} (h : n ≤ 62) : binA .shl (.i 1) (.i (n : Int)) = some (.i ((2 ^ n : Nat) : Int)) := by
  have hp : 2 ^ n ≤ 2 ^ 62 := Nat.pow_le_pow_right (by omega) h
  have := b_shl (a := 1) (b := n) (by omega) (by rw [Nat.shiftLeft_eq]; omega)
  rw [Nat.shiftLeft_eq, Nat.one_mul] at this
  exact this
theorem pow5 {n : Nat} (h : n ≤ 5) : 1 ≤ 2 ^ n ∧ 2 ^ n ≤ 32 := ⟨Nat.one_le_two_pow, Nat.pow_le_pow_right (n := 2) (by omega) h⟩
def SizeP (n : Int) : Prop := 1 ≤ n ∧ n ≤ 5
instance (n : Int) : Decidable (SizeP n) := by unfold SizeP; infer_instance
def SetP (n x : Int) : Prop := SizeP n ∧ 0 ≤ x ∧ x < ((2 ^ n.toNat : Nat) : Int)
instance (n x : Int) : Decidable (SetP n x) := by unfold SetP; infer_instance
theorem SizeP.nat {n : Int} (h : SizeP n) : ∃ m : Nat, n = m ∧ 1 ≤ m ∧ m ≤ 5 := by
  obtain ⟨m, rfl⟩ := Int.eq_ofNat_of_zero_le (show 0 ≤ n by have := h.1; omega)
  exact ⟨m, rfl, by have := h.1; omega, by have := h.2; omega⟩
theorem SetP.nat {n x : Int} (h : SetP n x) : ∃ m y : Nat, n = m ∧ x = y ∧ 1 ≤ m ∧ m ≤ 5 ∧ y < 2 ^ m ∧ y < 32 := by
  obtain ⟨m, rfl, h1, h2⟩ := h.1.nat
  obtain ⟨y, rfl⟩ := Int.eq_ofNat_of_zero_le h.2.1
  have h3 := h.2.2
  rw [Int.toNat_natCast] at h3
  have := pow5 h2
  exact ⟨m, y, rfl, rfl, h1, h2, by omega, by omega⟩
theorem isSize_ret {H : Heap} {n : Int} : RetP E 86 [.i n] H (.b (decide (SizeP n))) := by
  refine RetP.ro rfl fn86 rfl rfl ?_
  unfold f86A
  by_cases h1 : 1 ≤ n
  · by_cases h2 : n ≤ 5
    · have e : decide (SizeP n) = true := decide_eq_true ⟨h1, h2⟩
      simp (disch := (first | assumption | omega | (simp only [List.length_append, List.length_cons, List.length_nil]; omega))) only [↓wD,wU,Nat.reduceBEq,zx150,zx151,zx159,zx160,zx161,zx162,Nat.reduceAdd,Nat.reduceSub,Nat.reduceMul,Nat.reduceLeDiff,Nat.reduceLT,Nat.reduceEqDiff,Int.reduceAdd,Int.reduceSub,Int.reduceMul,Int.reduceNeg,Int.reduceLT,Int.reduceLE,Int.reduceEq,Int.reduceToNat,Int.cast_ofNat_Int,↓reduceIte, decide_eq_true h1, decide_eq_true h2, e]
    · have e : decide (SizeP n) = false := decide_eq_false fun h => h2 h.2
      simp (disch := (first | assumption | omega | (simp only [List.length_append, List.length_cons, List.length_nil]; omega))) only [↓wD,wU,Nat.reduceBEq,zx150,zx151,zx159,zx160,zx161,zx162,Nat.reduceAdd,Nat.reduceSub,Nat.reduceMul,Nat.reduceLeDiff,Nat.reduceLT,Nat.reduceEqDiff,Int.reduceAdd,Int.reduceSub,Int.reduceMul,Int.reduceNeg,Int.reduceLT,Int.reduceLE,Int.reduceEq,Int.reduceToNat,Int.cast_ofNat_Int,↓reduceIte, decide_eq_true h1, decide_eq_false h2, e]
  · have e : decide (SizeP n) = false := decide_eq_false fun h => h1 h.1
    simp (disch := (first | assumption | omega | (simp only [List.length_append, List.length_cons, List.length_nil]; omega))) only [↓wD,wU,Nat.reduceBEq,zx150,zx151,zx159,zx160,zx161,zx162,Nat.reduceAdd,Nat.reduceSub,Nat.reduceMul,Nat.reduceLeDiff,Nat.reduceLT,Nat.reduceEqDiff,Int.reduceAdd,Int.reduceSub,Int.reduceMul,Int.reduceNeg,Int.reduceLT,Int.reduceLE,Int.reduceEq,Int.reduceToNat,Int.cast_ofNat_Int,↓reduceIte, decide_eq_false h1, e]
theorem rsize_ret {H : Heap} {n : Int} : RetP E 59 [.i n] H (.b (decide (SizeP n))) := by
  refine RetP.ro rfl fn59 rfl rfl ?_
  unfold f59A
  by_cases h1 : 1 ≤ n
  · by_cases h2 : n ≤ 5
    · have e : decide (SizeP n) = true := decide_eq_true ⟨h1, h2⟩
      simp (disch := (first | assumption | omega | (simp only [List.length_append, List.length_cons, List.length_nil]; omega))) only [↓wD,wU,Nat.reduceBEq,zx150,zx151,zx159,zx160,zx161,zx162,Nat.reduceAdd,Nat.reduceSub,Nat.reduceMul,Nat.reduceLeDiff,Nat.reduceLT,Nat.reduceEqDiff,Int.reduceAdd,Int.reduceSub,Int.reduceMul,Int.reduceNeg,Int.reduceLT,Int.reduceLE,Int.reduceEq,Int.reduceToNat,Int.cast_ofNat_Int,↓reduceIte, decide_eq_true h1, decide_eq_true h2, e]
    · have e : decide (SizeP n) = false := decide_eq_false fun h => h2 h.2
      simp (disch := (first | assumption | omega | (simp only [List.length_append, List.length_cons, List.length_nil]; omega))) only [↓wD,wU,Nat.reduceBEq,zx150,zx151,zx159,zx160,zx161,zx162,Nat.reduceAdd,Nat.reduceSub,Nat.reduceMul,Nat.reduceLeDiff,Nat.reduceLT,Nat.reduceEqDiff,Int.reduceAdd,Int.reduceSub,Int.reduceMul,Int.reduceNeg,Int.reduceLT,Int.reduceLE,Int.reduceEq,Int.reduceToNat,Int.cast_ofNat_Int,↓reduceIte, decide_eq_true h1, decide_eq_false h2, e]
  · have e : decide (SizeP n) = false := decide_eq_false fun h => h1 h.1
    simp (disch := (first | assumption | omega | (simp only [List.length_append, List.length_cons, List.length_nil]; omega))) only [↓wD,wU,Nat.reduceBEq,zx150,zx151,zx159,zx160,zx161,zx162,Nat.reduceAdd,Nat.reduceSub,Nat.reduceMul,Nat.reduceLeDiff,Nat.reduceLT,Nat.reduceEqDiff,Int.reduceAdd,Int.reduceSub,Int.reduceMul,Int.reduceNeg,Int.reduceLT,Int.reduceLE,Int.reduceEq,Int.reduceToNat,Int.cast_ofNat_Int,↓reduceIte, decide_eq_false h1, e]
def linesTo (i : Nat) (cl : List Int) : List Int := ((List.range i).filter fun x => decide (blkL x = cl)).map fun x : Nat => (x : Int)
/-- all lines of n squares with some blocks -/
def linesL (n : Nat) (cl : List Int) : List Int := linesTo (2 ^ n) cl
theorem linesTo_succ {i : Nat} {cl : List Int} : linesTo (i + 1) cl = linesTo i cl ++ if blkL i = cl then [(i : Int)] else [] := by
  unfold linesTo
  rw [List.range_succ, List.filter_append, List.map_append]
  by_cases h : blkL i = cl <;> simp [h]
theorem linesTo_len {i : Nat} {cl : List Int} : (linesTo i cl).length ≤ i := by
  unfold linesTo
  rw [List.length_map]
  exact Nat.le_trans (List.length_filter_le _ _) (by simp)
theorem lines_ret {p : Nat → Prop} {H : Heap} {v : AV} {n : Nat} {cl : List Int} (hc : Sl p H v cl) (hn : n ≤ 5) : Ret E 58 [.i n, v] (fun _ => False) H (linesL n cl) := by
  refine Ret.ro rfl fn58 rfl ?_
  unfold f58A
  have hsh := b_shl1 (n := n) (by omega)
  obtain ⟨p1, p2⟩ := pow5 hn
  unfold linesL
  generalize 2 ^ n = M at *
  simp (disch := (first | assumption | omega | (simp only [List.length_append, List.length_cons, List.length_nil]; omega))) only [↓wD,wU,Nat.reduceBEq,zx150,zx151,zx159,zx160,zx161,zx162,Nat.reduceAdd,Nat.reduceSub,Nat.reduceMul,Nat.reduceLeDiff,Nat.reduceLT,Nat.reduceEqDiff,Int.reduceAdd,Int.reduceSub,Int.reduceMul,Int.reduceNeg,Int.reduceLT,Int.reduceLE,Int.reduceEq,Int.reduceToNat,Int.cast_ofNat_Int,↓reduceIte, hsh]
  refine Wp.for M (fun i a H' => ∃ u, a 1 = v ∧ a 5 = u ∧ a 8 = .i M ∧ a 9 = .i i ∧ Gr H H' ∧ Acc H.length (fun _ => False) H' u (linesTo i cl)) ?_ ?_
  · rintro i a H1 hi ⟨u, a1, a5, a8, a9, hg, hu⟩ ih
    simp (disch := (first | assumption | omega | (simp only [List.length_append, List.length_cons, List.length_nil]; omega))) only [↓wD,wU,Nat.reduceBEq,zx150,zx151,zx159,zx160,zx161,zx162,Nat.reduceAdd,Nat.reduceSub,Nat.reduceMul,Nat.reduceLeDiff,Nat.reduceLT,Nat.reduceEqDiff,Int.reduceAdd,Int.reduceSub,Int.reduceMul,Int.reduceNeg,Int.reduceLT,Int.reduceLE,Int.reduceEq,Int.reduceToNat,Int.cast_ofNat_Int,↓reduceIte, a1, a5, a8, a9]
    refine condP_split (fun hlt => ?_) (fun hlt => ?_)
    · have hi' : i < M := by omega
      simp (disch := (first | assumption | omega | (simp only [List.length_append, List.length_cons, List.length_nil]; omega))) only [↓wD,wU,Nat.reduceBEq,zx150,zx151,zx159,zx160,zx161,zx162,Nat.reduceAdd,Nat.reduceSub,Nat.reduceMul,Nat.reduceLeDiff,Nat.reduceLT,Nat.reduceEqDiff,Int.reduceAdd,Int.reduceSub,Int.reduceMul,Int.reduceNeg,Int.reduceLT,Int.reduceLE,Int.reduceEq,Int.reduceToNat,Int.cast_ofNat_Int,↓reduceIte, a1, a5, a8, a9]
      refine (blocks_ret (x := i) (by omega)).toF fun y H2 hg2 hy => ?_
      have eq := equal_ret hy ((hc.gr hg).gr hg2)
      have hu2 := hu.gr hg2
      have hl := linesTo_len (i := i) (cl := cl)
      by_cases h : blkL i = cl
      · rw [decide_eq_true h] at eq
        simp (disch := (first | assumption | omega | (simp only [List.length_append, List.length_cons, List.length_nil]; omega))) only [↓wD,wU,Nat.reduceBEq,zx150,zx151,zx159,zx160,zx161,zx162,Nat.reduceAdd,Nat.reduceSub,Nat.reduceMul,Nat.reduceLeDiff,Nat.reduceLT,Nat.reduceEqDiff,Int.reduceAdd,Int.reduceSub,Int.reduceMul,Int.reduceNeg,Int.reduceLT,Int.reduceLE,Int.reduceEq,Int.reduceToNat,Int.cast_ofNat_Int,↓reduceIte, a1, a5, a8, a9, eq.call]
        refine hu2.pushI (Nat.le_refl _) (by have := hg.1; have := hg2.1; omega) (by omega) fun u' H3 hu' hk3 _ _ => ?_
        simp (disch := (first | assumption | omega | (simp only [List.length_append, List.length_cons, List.length_nil]; omega))) only [↓wD,wU,Nat.reduceBEq,zx150,zx151,zx159,zx160,zx161,zx162,Nat.reduceAdd,Nat.reduceSub,Nat.reduceMul,Nat.reduceLeDiff,Nat.reduceLT,Nat.reduceEqDiff,Int.reduceAdd,Int.reduceSub,Int.reduceMul,Int.reduceNeg,Int.reduceLT,Int.reduceLE,Int.reduceEq,Int.reduceToNat,Int.cast_ofNat_Int,↓reduceIte, a1, a5, a8, a9]
        refine (ih hi').go ⟨u', ?_⟩
        simp (disch := (first | assumption | omega | (simp only [List.length_append, List.length_cons, List.length_nil]; omega))) only [↓wD,wU,Nat.reduceBEq,zx150,zx151,zx159,zx160,zx161,zx162,Nat.reduceAdd,Nat.reduceSub,Nat.reduceMul,Nat.reduceLeDiff,Nat.reduceLT,Nat.reduceEqDiff,Int.reduceAdd,Int.reduceSub,Int.reduceMul,Int.reduceNeg,Int.reduceLT,Int.reduceLE,Int.reduceEq,Int.reduceToNat,Int.cast_ofNat_Int,↓reduceIte, a1, a5, a8, a9]
        refine ⟨(hg.trans hg2).push hu2 (Nat.le_refl _) hk3, ?_⟩
        rw [linesTo_succ, if_pos h]; exact hu'
      · rw [decide_eq_false h] at eq
        simp (disch := (first | assumption | omega | (simp only [List.length_append, List.length_cons, List.length_nil]; omega))) only [↓wD,wU,Nat.reduceBEq,zx150,zx151,zx159,zx160,zx161,zx162,Nat.reduceAdd,Nat.reduceSub,Nat.reduceMul,Nat.reduceLeDiff,Nat.reduceLT,Nat.reduceEqDiff,Int.reduceAdd,Int.reduceSub,Int.reduceMul,Int.reduceNeg,Int.reduceLT,Int.reduceLE,Int.reduceEq,Int.reduceToNat,Int.cast_ofNat_Int,↓reduceIte, a1, a5, a8, a9, eq.call]
        refine (ih hi').go ⟨u, ?_⟩
        simp (disch := (first | assumption | omega | (simp only [List.length_append, List.length_cons, List.length_nil]; omega))) only [↓wD,wU,Nat.reduceBEq,zx150,zx151,zx159,zx160,zx161,zx162,Nat.reduceAdd,Nat.reduceSub,Nat.reduceMul,Nat.reduceLeDiff,Nat.reduceLT,Nat.reduceEqDiff,Int.reduceAdd,Int.reduceSub,Int.reduceMul,Int.reduceNeg,Int.reduceLT,Int.reduceLE,Int.reduceEq,Int.reduceToNat,Int.cast_ofNat_Int,↓reduceIte, a1, a5, a8, a9]
        refine ⟨hg.trans hg2, ?_⟩
        rw [linesTo_succ, if_neg h, List.append_nil]; exact hu2
    · obtain rfl : i = M := by omega
      simp (disch := (first | assumption | omega | (simp only [List.length_append, List.length_cons, List.length_nil]; omega))) only [↓wD,wU,Nat.reduceBEq,zx150,zx151,zx159,zx160,zx161,zx162,Nat.reduceAdd,Nat.reduceSub,Nat.reduceMul,Nat.reduceLeDiff,Nat.reduceLT,Nat.reduceEqDiff,Int.reduceAdd,Int.reduceSub,Int.reduceMul,Int.reduceNeg,Int.reduceLT,Int.reduceLE,Int.reduceEq,Int.reduceToNat,Int.cast_ofNat_Int,↓reduceIte, a1, a5, a8, a9]
      exact hu.sl
  · simp (disch := (first | assumption | omega | (simp only [List.length_append, List.length_cons, List.length_nil]; omega))) only [↓wD,wU,Nat.reduceBEq,zx150,zx151,zx159,zx160,zx161,zx162,Nat.reduceAdd,Nat.reduceSub,Nat.reduceMul,Nat.reduceLeDiff,Nat.reduceLT,Nat.reduceEqDiff,Int.reduceAdd,Int.reduceSub,Int.reduceMul,Int.reduceNeg,Int.reduceLT,Int.reduceLE,Int.reduceEq,Int.reduceToNat,Int.cast_ofNat_Int,↓reduceIte]
    exact ⟨.nils, rfl, Gr.refl _, Acc.nil⟩
def ClueP (n : Int) (cl : List Int) : Prop := SizeP n ∧ 0 < (linesL n.toNat cl).length
instance (n : Int) (cl : List Int) : Decidable (ClueP n cl) := by unfold ClueP; infer_instance
theorem isClue_ret {p : Nat → Prop} {H : Heap} {v : AV} {n : Int} {cl : List Int} (hc : Sl p H v cl) : RetP E 57 [.i n, v] H (.b (decide (ClueP n cl))) := by
  refine RetP.ro rfl fn57 rfl rfl ?_
  unfold f57A
  have hz := isSize_ret (H := H) (n := n)
  by_cases h : SizeP n
  · rw [decide_eq_true h] at hz
    obtain ⟨m, rfl, h1, h2⟩ := h.nat
    have e : decide (ClueP (m : Int) cl) = decide (0 < ((linesL m cl).length : Int)) := by
      apply decide_eq_decide.2
      exact ⟨fun q => by have := q.2; rw [Int.toNat_natCast] at this; omega, fun q => ⟨h, by rw [Int.toNat_natCast]; omega⟩⟩
    rw [e]
    simp (disch := (first | assumption | omega | (simp only [List.length_append, List.length_cons, List.length_nil]; omega))) only [↓wD,wU,Nat.reduceBEq,zx150,zx151,zx159,zx160,zx161,zx162,Nat.reduceAdd,Nat.reduceSub,Nat.reduceMul,Nat.reduceLeDiff,Nat.reduceLT,Nat.reduceEqDiff,Int.reduceAdd,Int.reduceSub,Int.reduceMul,Int.reduceNeg,Int.reduceLT,Int.reduceLE,Int.reduceEq,Int.reduceToNat,Int.cast_ofNat_Int,↓reduceIte, hz.call]
    refine (lines_ret hc h2).toF fun y H1 hg hy => ?_
    simp (disch := (first | assumption | omega | (simp only [List.length_append, List.length_cons, List.length_nil]; omega))) only [↓wD,wU,Nat.reduceBEq,zx150,zx151,zx159,zx160,zx161,zx162,Nat.reduceAdd,Nat.reduceSub,Nat.reduceMul,Nat.reduceLeDiff,Nat.reduceLT,Nat.reduceEqDiff,Int.reduceAdd,Int.reduceSub,Int.reduceMul,Int.reduceNeg,Int.reduceLT,Int.reduceLE,Int.reduceEq,Int.reduceToNat,Int.cast_ofNat_Int,↓reduceIte, hy.I]
  · rw [decide_eq_false h] at hz
    have e : decide (ClueP n cl) = false := decide_eq_false fun q => h q.1
    simp (disch := (first | assumption | omega | (simp only [List.length_append, List.length_cons, List.length_nil]; omega))) only [↓wD,wU,Nat.reduceBEq,zx150,zx151,zx159,zx160,zx161,zx162,Nat.reduceAdd,Nat.reduceSub,Nat.reduceMul,Nat.reduceLeDiff,Nat.reduceLT,Nat.reduceEqDiff,Int.reduceAdd,Int.reduceSub,Int.reduceMul,Int.reduceNeg,Int.reduceLT,Int.reduceLE,Int.reduceEq,Int.reduceToNat,Int.cast_ofNat_Int,↓reduceIte, hz.call, e]
theorem list_ret {p : Nat → Prop} {H : Heap} {v : AV} {xs : List Int} (hx : Sl p H v xs) : Ret E 19 [v] (fun _ => False) H (xs.take 8) := by
  refine Ret.ro rfl fn19 rfl ?_
  unfold f19A
  have hb := hx.bound
  have hs : slV 1 v none (some (.i (min (xs.length : Int) 8))) none = some (v.cut 0 (min xs.length 8)) := by
    refine hx.slV_lh none _ (b := min xs.length 8) ?_ (bound_none (by omega)) (by omega) (by omega)
    rw [bound_some (by omega) (by omega)]
    congr 1
    omega
  simp (disch := (first | assumption | omega | (simp only [List.length_append, List.length_cons, List.length_nil]; omega))) only [↓wD,wU,Nat.reduceBEq,zx150,zx151,zx159,zx160,zx161,zx162,Nat.reduceAdd,Nat.reduceSub,Nat.reduceMul,Nat.reduceLeDiff,Nat.reduceLT,Nat.reduceEqDiff,Int.reduceAdd,Int.reduceSub,Int.reduceMul,Int.reduceNeg,Int.reduceLT,Int.reduceLE,Int.reduceEq,Int.reduceToNat,Int.cast_ofNat_Int,↓reduceIte, *, hx.I, hs]
  have hc := hx.cut (a := 0) (b := min xs.length 8) (by omega) (by omega)
  have e : (xs.drop 0).take (min xs.length 8 - 0) = xs.take 8 := by
    rw [List.drop_zero, Nat.sub_zero]
    by_cases hl : xs.length ≤ 8
    · rw [List.take_of_length_le (by omega), List.take_of_length_le hl]
    · congr 1; omega
  rw [e] at hc
  refine (clone_ret hc (by rw [List.length_take]; omega)).go fun u N hu => ?_
  simp (disch := (first | assumption | omega | (simp only [List.length_append, List.length_cons, List.length_nil]; omega))) only [↓wD,wU,Nat.reduceBEq,zx150,zx151,zx159,zx160,zx161,zx162,Nat.reduceAdd,Nat.reduceSub,Nat.reduceMul,Nat.reduceLeDiff,Nat.reduceLT,Nat.reduceEqDiff,Int.reduceAdd,Int.reduceSub,Int.reduceMul,Int.reduceNeg,Int.reduceLT,Int.reduceLE,Int.reduceEq,Int.reduceToNat,Int.cast_ofNat_Int,↓reduceIte]
  exact hu
/-- the first ones of a clue say as much: longer ones have no line -/
theorem linesTo_nil {cl : List Int} (h : 5 < cl.length) : ∀ i, linesTo i cl = []
  | 0 => rfl
  | i + 1 => by
    rw [linesTo_succ, linesTo_nil h, if_neg]
    · rfl
    · intro e; have := blkL_len i; rw [e] at this; omega
theorem linesL_cut {n : Nat} {cl : List Int} : linesL n (cl.take 8) = linesL n cl := by
  unfold linesL
  by_cases h : cl.length ≤ 8
  · rw [List.take_of_length_le h]
  · rw [linesTo_nil (cl := cl) (by omega), linesTo_nil (cl := cl.take 8) (by rw [List.length_take]; omega)]
theorem ClueP_cut {n : Int} {cl : List Int} : ClueP n (cl.take 8) ↔ ClueP n cl := by unfold ClueP; rw [linesL_cut]
end Go.Proofs.YtjjndoigkhabdaaDoor
namespace Go.Proofs.YtjjndoigkhabdaaDoor
open Go Go.AM Go.Proofs
theorem same_ret {p q : Nat → Prop} {H : Heap} {v u : AV} {xs ys : List Int} (hx : Sl p H v xs) (hy : Sl q H u ys) : RetP E 60 [v, u] H (.b (decide (xs = ys))) := by
  refine RetP.ro rfl fn60 rfl rfl ?_
  unfold f60A
  have hbx := hx.bound
  by_cases hl : xs.length = ys.length
  · have e0 : decide (¬ (xs.length : Int) = ys.length) = false := decide_eq_false (by omega)
    simp (disch := (first | assumption | omega | (simp only [List.length_append, List.length_cons, List.length_nil]; omega))) only [↓wD,wU,Nat.reduceBEq,zx150,zx151,zx159,zx160,zx161,zx162,Nat.reduceAdd,Nat.reduceSub,Nat.reduceMul,Nat.reduceLeDiff,Nat.reduceLT,Nat.reduceEqDiff,Int.reduceAdd,Int.reduceSub,Int.reduceMul,Int.reduceNeg,Int.reduceLT,Int.reduceLE,Int.reduceEq,Int.reduceToNat,Int.cast_ofNat_Int,↓reduceIte, hx.I, hy.I, e0]
    refine Wp.for xs.length (fun i a H' => H' = H ∧ a 1 = u ∧ a 12 = v ∧ a 13 = .i xs.length ∧ a 14 = .i i ∧ xs.take i = ys.take i) ?_ ?_
    · rintro i a H' hi ⟨rfl, a1, a12, a13, a14, hh⟩ ih
      simp (disch := (first | assumption | omega | (simp only [List.length_append, List.length_cons, List.length_nil]; omega))) only [↓wD,wU,Nat.reduceBEq,zx150,zx151,zx159,zx160,zx161,zx162,Nat.reduceAdd,Nat.reduceSub,Nat.reduceMul,Nat.reduceLeDiff,Nat.reduceLT,Nat.reduceEqDiff,Int.reduceAdd,Int.reduceSub,Int.reduceMul,Int.reduceNeg,Int.reduceLT,Int.reduceLE,Int.reduceEq,Int.reduceToNat,Int.cast_ofNat_Int,↓reduceIte, a1, a12, a13, a14]
      refine condP_split (fun hlt => ?_) (fun hlt => ?_)
      · have hi' : i < xs.length := by omega
        by_cases he : gi xs (i : Int) = gi ys (i : Int)
        · have hh2 := take_eq_succ hh hi' (by omega) he
          have hd : decide (¬ gi xs (i : Int) = gi ys (i : Int)) = false := decide_eq_false fun q => q he
          simp (disch := (first | assumption | omega | (simp only [List.length_append, List.length_cons, List.length_nil]; omega))) only [↓wD,wU,Nat.reduceBEq,zx150,zx151,zx159,zx160,zx161,zx162,Nat.reduceAdd,Nat.reduceSub,Nat.reduceMul,Nat.reduceLeDiff,Nat.reduceLT,Nat.reduceEqDiff,Int.reduceAdd,Int.reduceSub,Int.reduceMul,Int.reduceNeg,Int.reduceLT,Int.reduceLE,Int.reduceEq,Int.reduceToNat,Int.cast_ofNat_Int,↓reduceIte, a1, a12, a13, a14, hx.I, hy.I, hd]
          refine (ih hi').go ⟨rfl, ?_⟩
          simp (disch := (first | assumption | omega | (simp only [List.length_append, List.length_cons, List.length_nil]; omega))) only [↓wD,wU,Nat.reduceBEq,zx150,zx151,zx159,zx160,zx161,zx162,Nat.reduceAdd,Nat.reduceSub,Nat.reduceMul,Nat.reduceLeDiff,Nat.reduceLT,Nat.reduceEqDiff,Int.reduceAdd,Int.reduceSub,Int.reduceMul,Int.reduceNeg,Int.reduceLT,Int.reduceLE,Int.reduceEq,Int.reduceToNat,Int.cast_ofNat_Int,↓reduceIte, a1, a12, a13, a14]
          exact hh2
        · have e : decide (xs = ys) = false := decide_eq_false fun h => he (by rw [h])
          have hd : decide (¬ gi xs (i : Int) = gi ys (i : Int)) = true := decide_eq_true he
          simp (disch := (first | assumption | omega | (simp only [List.length_append, List.length_cons, List.length_nil]; omega))) only [↓wD,wU,Nat.reduceBEq,zx150,zx151,zx159,zx160,zx161,zx162,Nat.reduceAdd,Nat.reduceSub,Nat.reduceMul,Nat.reduceLeDiff,Nat.reduceLT,Nat.reduceEqDiff,Int.reduceAdd,Int.reduceSub,Int.reduceMul,Int.reduceNeg,Int.reduceLT,Int.reduceLE,Int.reduceEq,Int.reduceToNat,Int.cast_ofNat_Int,↓reduceIte, a1, a12, a13, a14, hx.I, hy.I, hd, e]
      · have e : decide (xs = ys) = true := decide_eq_true (take_all hh hl (by omega))
        simp (disch := (first | assumption | omega | (simp only [List.length_append, List.length_cons, List.length_nil]; omega))) only [↓wD,wU,Nat.reduceBEq,zx150,zx151,zx159,zx160,zx161,zx162,Nat.reduceAdd,Nat.reduceSub,Nat.reduceMul,Nat.reduceLeDiff,Nat.reduceLT,Nat.reduceEqDiff,Int.reduceAdd,Int.reduceSub,Int.reduceMul,Int.reduceNeg,Int.reduceLT,Int.reduceLE,Int.reduceEq,Int.reduceToNat,Int.cast_ofNat_Int,↓reduceIte, a1, a12, a13, a14, e]
    · (simp (disch := (first | assumption | omega | (simp only [List.length_append, List.length_cons, List.length_nil]; omega))) only [↓wD,wU,Nat.reduceBEq,zx150,zx151,zx159,zx160,zx161,zx162,Nat.reduceAdd,Nat.reduceSub,Nat.reduceMul,Nat.reduceLeDiff,Nat.reduceLT,Nat.reduceEqDiff,Int.reduceAdd,Int.reduceSub,Int.reduceMul,Int.reduceNeg,Int.reduceLT,Int.reduceLE,Int.reduceEq,Int.reduceToNat,Int.cast_ofNat_Int,↓reduceIte]) <;> simp
  · have e0 : decide (¬ (xs.length : Int) = ys.length) = true := decide_eq_true (by omega)
    have e : decide (xs = ys) = false := decide_eq_false fun h => hl (by rw [h])
    simp (disch := (first | assumption | omega | (simp only [List.length_append, List.length_cons, List.length_nil]; omega))) only [↓wD,wU,Nat.reduceBEq,zx150,zx151,zx159,zx160,zx161,zx162,Nat.reduceAdd,Nat.reduceSub,Nat.reduceMul,Nat.reduceLeDiff,Nat.reduceLT,Nat.reduceEqDiff,Int.reduceAdd,Int.reduceSub,Int.reduceMul,Int.reduceNeg,Int.reduceLT,Int.reduceLE,Int.reduceEq,Int.reduceToNat,Int.cast_ofNat_Int,↓reduceIte, hx.I, hy.I, e0, e]
/-- what the reference's Blocks knows behind i squares -/
def rbS (x : Nat) : Nat → List Int × Nat
  | 0 => ([], 0)
  | i + 1 => if (x >>> i) % 2 = 1 then ((rbS x i).1, (rbS x i).2 + 1) else (if (rbS x i).2 > 0 then (rbS x i).1 ++ [((rbS x i).2 : Int)] else (rbS x i).1, 0)
theorem rbS_all : ∀ n, n < 6 → ∀ x, x < 2 ^ n → (rbS x (n + 1)).1 = blkL x := by decide +kernel
theorem rbS_len (x : Nat) : ∀ i, (rbS x i).1.length ≤ i ∧ (rbS x i).2 ≤ i
  | 0 => ⟨Nat.le_refl _, Nat.le_refl _⟩
  | i + 1 => by
    have h := rbS_len x i
    unfold rbS
    split
    · exact ⟨by simp only []; omega, by simp only []; omega⟩
    · split
      · simp; omega
      · simp; omega
theorem rblocks_ret {H : Heap} {n x : Nat} (hn : n ≤ 5) (hx : x < 2 ^ n) : Ret E 22 [.i n, .i x] (fun _ => False) H (blkL x) := by
  refine Ret.ro rfl fn22 rfl ?_
  unfold f22A
  have h32 : x < 32 := by have := pow5 hn; omega
  have e := rbS_all n (by omega) x hx
  simp (disch := (first | assumption | omega | (simp only [List.length_append, List.length_cons, List.length_nil]; omega))) only [↓wD,wU,Nat.reduceBEq,zx150,zx151,zx159,zx160,zx161,zx162,Nat.reduceAdd,Nat.reduceSub,Nat.reduceMul,Nat.reduceLeDiff,Nat.reduceLT,Nat.reduceEqDiff,Int.reduceAdd,Int.reduceSub,Int.reduceMul,Int.reduceNeg,Int.reduceLT,Int.reduceLE,Int.reduceEq,Int.reduceToNat,Int.cast_ofNat_Int,↓reduceIte]
  refine Wp.for (n + 1) (fun i a H' => ∃ u, a 1 = .i x ∧ a 5 = u ∧ a 6 = .i (rbS x i).2 ∧ a 9 = .i (n + 1) ∧ a 10 = .i i ∧ Gr H H' ∧ Acc H.length (fun _ => False) H' u (rbS x i).1) ?_ ?_
  · rintro i a H1 hi ⟨u, a1, a5, a6, a9, a10, hg, hu⟩ ih
    have ln := rbS_len x i
    simp (disch := (first | assumption | omega | (simp only [List.length_append, List.length_cons, List.length_nil]; omega))) only [↓wD,wU,Nat.reduceBEq,zx150,zx151,zx159,zx160,zx161,zx162,Nat.reduceAdd,Nat.reduceSub,Nat.reduceMul,Nat.reduceLeDiff,Nat.reduceLT,Nat.reduceEqDiff,Int.reduceAdd,Int.reduceSub,Int.reduceMul,Int.reduceNeg,Int.reduceLT,Int.reduceLE,Int.reduceEq,Int.reduceToNat,Int.cast_ofNat_Int,↓reduceIte, a1, a5, a6, a9, a10]
    refine condP_split (fun hlt => ?_) (fun hlt => ?_)
    · have hi' : i < n + 1 := by omega
      have sh := b_shr (a := x) (b := i) (by omega)
      have sle : x >>> i ≤ x := by rw [Nat.shiftRight_eq_div_pow]; exact Nat.div_le_self _ _
      have an : binA .and (.i ((x >>> i : Nat) : Int)) (.i 1) = some (.i ((x >>> i % 2 : Nat) : Int)) := by
        have := b_and (a := x >>> i) (b := 1) (by omega) (by omega)
        rw [Nat.and_one_is_mod] at this
        exact this
      by_cases hb : x >>> i % 2 = 1
      · have hd : decide (((x >>> i % 2 : Nat) : Int) = 1) = true := decide_eq_true (by omega)
        have e1 : rbS x (i + 1) = ((rbS x i).1, (rbS x i).2 + 1) := by rw [rbS, if_pos hb]
        simp (disch := (first | assumption | omega | (simp only [List.length_append, List.length_cons, List.length_nil]; omega))) only [↓wD,wU,Nat.reduceBEq,zx150,zx151,zx159,zx160,zx161,zx162,Nat.reduceAdd,Nat.reduceSub,Nat.reduceMul,Nat.reduceLeDiff,Nat.reduceLT,Nat.reduceEqDiff,Int.reduceAdd,Int.reduceSub,Int.reduceMul,Int.reduceNeg,Int.reduceLT,Int.reduceLE,Int.reduceEq,Int.reduceToNat,Int.cast_ofNat_Int,↓reduceIte, a1, a5, a6, a9, a10, sh, an, hd]
        refine (ih hi').go ⟨u, ?_⟩
        rw [e1]
        simp (disch := (first | assumption | omega | (simp only [List.length_append, List.length_cons, List.length_nil]; omega))) only [↓wD,wU,Nat.reduceBEq,zx150,zx151,zx159,zx160,zx161,zx162,Nat.reduceAdd,Nat.reduceSub,Nat.reduceMul,Nat.reduceLeDiff,Nat.reduceLT,Nat.reduceEqDiff,Int.reduceAdd,Int.reduceSub,Int.reduceMul,Int.reduceNeg,Int.reduceLT,Int.reduceLE,Int.reduceEq,Int.reduceToNat,Int.cast_ofNat_Int,↓reduceIte, a1, a5, a6, a9, a10]
        exact ⟨hg, hu⟩
      · have hd : decide (((x >>> i % 2 : Nat) : Int) = 1) = false := decide_eq_false (by omega)
        by_cases h0 : (rbS x i).2 > 0
        · have e1 : rbS x (i + 1) = ((rbS x i).1 ++ [((rbS x i).2 : Int)], 0) := by rw [rbS, if_neg hb, if_pos h0]
          have hd2 : decide (0 < ((rbS x i).2 : Int)) = true := decide_eq_true (by omega)
          simp (disch := (first | assumption | omega | (simp only [List.length_append, List.length_cons, List.length_nil]; omega))) only [↓wD,wU,Nat.reduceBEq,zx150,zx151,zx159,zx160,zx161,zx162,Nat.reduceAdd,Nat.reduceSub,Nat.reduceMul,Nat.reduceLeDiff,Nat.reduceLT,Nat.reduceEqDiff,Int.reduceAdd,Int.reduceSub,Int.reduceMul,Int.reduceNeg,Int.reduceLT,Int.reduceLE,Int.reduceEq,Int.reduceToNat,Int.cast_ofNat_Int,↓reduceIte, a1, a5, a6, a9, a10, sh, an, hd, hd2]
          refine hu.pushI (Nat.le_refl _) hg.1 (by omega) fun u' H3 hu' hk3 _ _ => ?_
          simp (disch := (first | assumption | omega | (simp only [List.length_append, List.length_cons, List.length_nil]; omega))) only [↓wD,wU,Nat.reduceBEq,zx150,zx151,zx159,zx160,zx161,zx162,Nat.reduceAdd,Nat.reduceSub,Nat.reduceMul,Nat.reduceLeDiff,Nat.reduceLT,Nat.reduceEqDiff,Int.reduceAdd,Int.reduceSub,Int.reduceMul,Int.reduceNeg,Int.reduceLT,Int.reduceLE,Int.reduceEq,Int.reduceToNat,Int.cast_ofNat_Int,↓reduceIte, a1, a5, a6, a9, a10]
          refine (ih hi').go ⟨u', ?_⟩
          rw [e1]
          simp (disch := (first | assumption | omega | (simp only [List.length_append, List.length_cons, List.length_nil]; omega))) only [↓wD,wU,Nat.reduceBEq,zx150,zx151,zx159,zx160,zx161,zx162,Nat.reduceAdd,Nat.reduceSub,Nat.reduceMul,Nat.reduceLeDiff,Nat.reduceLT,Nat.reduceEqDiff,Int.reduceAdd,Int.reduceSub,Int.reduceMul,Int.reduceNeg,Int.reduceLT,Int.reduceLE,Int.reduceEq,Int.reduceToNat,Int.cast_ofNat_Int,↓reduceIte, a1, a5, a6, a9, a10]
          exact ⟨hg.push hu (Nat.le_refl _) hk3, hu'⟩
        · have e1 : rbS x (i + 1) = ((rbS x i).1, 0) := by rw [rbS, if_neg hb, if_neg h0]
          have hd2 : decide (0 < ((rbS x i).2 : Int)) = false := decide_eq_false (by omega)
          simp (disch := (first | assumption | omega | (simp only [List.length_append, List.length_cons, List.length_nil]; omega))) only [↓wD,wU,Nat.reduceBEq,zx150,zx151,zx159,zx160,zx161,zx162,Nat.reduceAdd,Nat.reduceSub,Nat.reduceMul,Nat.reduceLeDiff,Nat.reduceLT,Nat.reduceEqDiff,Int.reduceAdd,Int.reduceSub,Int.reduceMul,Int.reduceNeg,Int.reduceLT,Int.reduceLE,Int.reduceEq,Int.reduceToNat,Int.cast_ofNat_Int,↓reduceIte, a1, a5, a6, a9, a10, sh, an, hd, hd2]
          refine (ih hi').go ⟨u, ?_⟩
          rw [e1]
          simp (disch := (first | assumption | omega | (simp only [List.length_append, List.length_cons, List.length_nil]; omega))) only [↓wD,wU,Nat.reduceBEq,zx150,zx151,zx159,zx160,zx161,zx162,Nat.reduceAdd,Nat.reduceSub,Nat.reduceMul,Nat.reduceLeDiff,Nat.reduceLT,Nat.reduceEqDiff,Int.reduceAdd,Int.reduceSub,Int.reduceMul,Int.reduceNeg,Int.reduceLT,Int.reduceLE,Int.reduceEq,Int.reduceToNat,Int.cast_ofNat_Int,↓reduceIte, a1, a5, a6, a9, a10]
          exact ⟨hg, hu⟩
    · obtain rfl : i = n + 1 := by omega
      rw [e] at hu
      simp (disch := (first | assumption | omega | (simp only [List.length_append, List.length_cons, List.length_nil]; omega))) only [↓wD,wU,Nat.reduceBEq,zx150,zx151,zx159,zx160,zx161,zx162,Nat.reduceAdd,Nat.reduceSub,Nat.reduceMul,Nat.reduceLeDiff,Nat.reduceLT,Nat.reduceEqDiff,Int.reduceAdd,Int.reduceSub,Int.reduceMul,Int.reduceNeg,Int.reduceLT,Int.reduceLE,Int.reduceEq,Int.reduceToNat,Int.cast_ofNat_Int,↓reduceIte, a1, a5, a6, a9, a10]
      exact hu.sl
  · simp (disch := (first | assumption | omega | (simp only [List.length_append, List.length_cons, List.length_nil]; omega))) only [↓wD,wU,Nat.reduceBEq,zx150,zx151,zx159,zx160,zx161,zx162,Nat.reduceAdd,Nat.reduceSub,Nat.reduceMul,Nat.reduceLeDiff,Nat.reduceLT,Nat.reduceEqDiff,Int.reduceAdd,Int.reduceSub,Int.reduceMul,Int.reduceNeg,Int.reduceLT,Int.reduceLE,Int.reduceEq,Int.reduceToNat,Int.cast_ofNat_Int,↓reduceIte]
    exact ⟨.nils, rfl, rfl, Gr.refl _, Acc.nil⟩
theorem rlines_ret {p : Nat → Prop} {H : Heap} {v : AV} {n : Nat} {cl : List Int} (hc : Sl p H v cl) (hn : n ≤ 5) : Ret E 25 [.i n, v] (fun _ => False) H (linesL n cl) := by
  refine Ret.ro rfl fn25 rfl ?_
  unfold f25A
  have hsh := b_shl1 (n := n) (by omega)
  obtain ⟨p1, p2⟩ := pow5 hn
  have hbl : ∀ {H : Heap} {i : Nat}, i < 2 ^ n → Ret E 22 [.i n, .i i] (fun _ => False) H (blkL i) := fun {H i} h => rblocks_ret hn h
  unfold linesL
  generalize 2 ^ n = M at *
  simp (disch := (first | assumption | omega | (simp only [List.length_append, List.length_cons, List.length_nil]; omega))) only [↓wD,wU,Nat.reduceBEq,zx150,zx151,zx159,zx160,zx161,zx162,Nat.reduceAdd,Nat.reduceSub,Nat.reduceMul,Nat.reduceLeDiff,Nat.reduceLT,Nat.reduceEqDiff,Int.reduceAdd,Int.reduceSub,Int.reduceMul,Int.reduceNeg,Int.reduceLT,Int.reduceLE,Int.reduceEq,Int.reduceToNat,Int.cast_ofNat_Int,↓reduceIte, hsh]
  refine Wp.for M (fun i a H' => ∃ u, a 0 = .i n ∧ a 1 = v ∧ a 5 = u ∧ a 8 = .i M ∧ a 9 = .i i ∧ Gr H H' ∧ Acc H.length (fun _ => False) H' u (linesTo i cl)) ?_ ?_
  · rintro i a H1 hi ⟨u, a0, a1, a5, a8, a9, hg, hu⟩ ih
    simp (disch := (first | assumption | omega | (simp only [List.length_append, List.length_cons, List.length_nil]; omega))) only [↓wD,wU,Nat.reduceBEq,zx150,zx151,zx159,zx160,zx161,zx162,Nat.reduceAdd,Nat.reduceSub,Nat.reduceMul,Nat.reduceLeDiff,Nat.reduceLT,Nat.reduceEqDiff,Int.reduceAdd,Int.reduceSub,Int.reduceMul,Int.reduceNeg,Int.reduceLT,Int.reduceLE,Int.reduceEq,Int.reduceToNat,Int.cast_ofNat_Int,↓reduceIte, a0, a1, a5, a8, a9]
    refine condP_split (fun hlt => ?_) (fun hlt => ?_)
    · have hi' : i < M := by omega
      simp (disch := (first | assumption | omega | (simp only [List.length_append, List.length_cons, List.length_nil]; omega))) only [↓wD,wU,Nat.reduceBEq,zx150,zx151,zx159,zx160,zx161,zx162,Nat.reduceAdd,Nat.reduceSub,Nat.reduceMul,Nat.reduceLeDiff,Nat.reduceLT,Nat.reduceEqDiff,Int.reduceAdd,Int.reduceSub,Int.reduceMul,Int.reduceNeg,Int.reduceLT,Int.reduceLE,Int.reduceEq,Int.reduceToNat,Int.cast_ofNat_Int,↓reduceIte, a0, a1, a5, a8, a9]
      refine (hbl hi').toF fun y H2 hg2 hy => ?_
      have eq := same_ret hy ((hc.gr hg).gr hg2)
      have hu2 := hu.gr hg2
      have hl := linesTo_len (i := i) (cl := cl)
      by_cases h : blkL i = cl
      · rw [decide_eq_true h] at eq
        simp (disch := (first | assumption | omega | (simp only [List.length_append, List.length_cons, List.length_nil]; omega))) only [↓wD,wU,Nat.reduceBEq,zx150,zx151,zx159,zx160,zx161,zx162,Nat.reduceAdd,Nat.reduceSub,Nat.reduceMul,Nat.reduceLeDiff,Nat.reduceLT,Nat.reduceEqDiff,Int.reduceAdd,Int.reduceSub,Int.reduceMul,Int.reduceNeg,Int.reduceLT,Int.reduceLE,Int.reduceEq,Int.reduceToNat,Int.cast_ofNat_Int,↓reduceIte, a0, a1, a5, a8, a9, eq.call]
        refine hu2.pushI (Nat.le_refl _) (by have := hg.1; have := hg2.1; omega) (by omega) fun u' H3 hu' hk3 _ _ => ?_
        simp (disch := (first | assumption | omega | (simp only [List.length_append, List.length_cons, List.length_nil]; omega))) only [↓wD,wU,Nat.reduceBEq,zx150,zx151,zx159,zx160,zx161,zx162,Nat.reduceAdd,Nat.reduceSub,Nat.reduceMul,Nat.reduceLeDiff,Nat.reduceLT,Nat.reduceEqDiff,Int.reduceAdd,Int.reduceSub,Int.reduceMul,Int.reduceNeg,Int.reduceLT,Int.reduceLE,Int.reduceEq,Int.reduceToNat,Int.cast_ofNat_Int,↓reduceIte, a0, a1, a5, a8, a9]
        refine (ih hi').go ⟨u', ?_⟩
        simp (disch := (first | assumption | omega | (simp only [List.length_append, List.length_cons, List.length_nil]; omega))) only [↓wD,wU,Nat.reduceBEq,zx150,zx151,zx159,zx160,zx161,zx162,Nat.reduceAdd,Nat.reduceSub,Nat.reduceMul,Nat.reduceLeDiff,Nat.reduceLT,Nat.reduceEqDiff,Int.reduceAdd,Int.reduceSub,Int.reduceMul,Int.reduceNeg,Int.reduceLT,Int.reduceLE,Int.reduceEq,Int.reduceToNat,Int.cast_ofNat_Int,↓reduceIte, a0, a1, a5, a8, a9]
        refine ⟨(hg.trans hg2).push hu2 (Nat.le_refl _) hk3, ?_⟩
        rw [linesTo_succ, if_pos h]; exact hu'
      · rw [decide_eq_false h] at eq
        simp (disch := (first | assumption | omega | (simp only [List.length_append, List.length_cons, List.length_nil]; omega))) only [↓wD,wU,Nat.reduceBEq,zx150,zx151,zx159,zx160,zx161,zx162,Nat.reduceAdd,Nat.reduceSub,Nat.reduceMul,Nat.reduceLeDiff,Nat.reduceLT,Nat.reduceEqDiff,Int.reduceAdd,Int.reduceSub,Int.reduceMul,Int.reduceNeg,Int.reduceLT,Int.reduceLE,Int.reduceEq,Int.reduceToNat,Int.cast_ofNat_Int,↓reduceIte, a0, a1, a5, a8, a9, eq.call]
        refine (ih hi').go ⟨u, ?_⟩
        simp (disch := (first | assumption | omega | (simp only [List.length_append, List.length_cons, List.length_nil]; omega))) only [↓wD,wU,Nat.reduceBEq,zx150,zx151,zx159,zx160,zx161,zx162,Nat.reduceAdd,Nat.reduceSub,Nat.reduceMul,Nat.reduceLeDiff,Nat.reduceLT,Nat.reduceEqDiff,Int.reduceAdd,Int.reduceSub,Int.reduceMul,Int.reduceNeg,Int.reduceLT,Int.reduceLE,Int.reduceEq,Int.reduceToNat,Int.cast_ofNat_Int,↓reduceIte, a0, a1, a5, a8, a9]
        refine ⟨hg.trans hg2, ?_⟩
        rw [linesTo_succ, if_neg h, List.append_nil]; exact hu2
    · obtain rfl : i = M := by omega
      simp (disch := (first | assumption | omega | (simp only [List.length_append, List.length_cons, List.length_nil]; omega))) only [↓wD,wU,Nat.reduceBEq,zx150,zx151,zx159,zx160,zx161,zx162,Nat.reduceAdd,Nat.reduceSub,Nat.reduceMul,Nat.reduceLeDiff,Nat.reduceLT,Nat.reduceEqDiff,Int.reduceAdd,Int.reduceSub,Int.reduceMul,Int.reduceNeg,Int.reduceLT,Int.reduceLE,Int.reduceEq,Int.reduceToNat,Int.cast_ofNat_Int,↓reduceIte, a1, a5, a8, a9]
      exact hu.sl
  · simp (disch := (first | assumption | omega | (simp only [List.length_append, List.length_cons, List.length_nil]; omega))) only [↓wD,wU,Nat.reduceBEq,zx150,zx151,zx159,zx160,zx161,zx162,Nat.reduceAdd,Nat.reduceSub,Nat.reduceMul,Nat.reduceLeDiff,Nat.reduceLT,Nat.reduceEqDiff,Int.reduceAdd,Int.reduceSub,Int.reduceMul,Int.reduceNeg,Int.reduceLT,Int.reduceLE,Int.reduceEq,Int.reduceToNat,Int.cast_ofNat_Int,↓reduceIte]
    exact ⟨.nils, rfl, Gr.refl _, Acc.nil⟩
theorem rclue_ret {p : Nat → Prop} {H : Heap} {v : AV} {n : Int} {cl : List Int} (hc : Sl p H v cl) : RetP E 23 [.i n, v] H (.b (decide (ClueP n cl))) := by
  refine RetP.ro rfl fn23 rfl rfl ?_
  unfold f23A
  have hz := rsize_ret (H := H) (n := n)
  by_cases h : SizeP n
  · rw [decide_eq_true h] at hz
    obtain ⟨m, rfl, h1, h2⟩ := h.nat
    have e : decide (ClueP (m : Int) cl) = decide (0 < ((linesL m cl).length : Int)) := by
      apply decide_eq_decide.2
      exact ⟨fun q => by have := q.2; rw [Int.toNat_natCast] at this; omega, fun q => ⟨h, by rw [Int.toNat_natCast]; omega⟩⟩
    rw [e]
    simp (disch := (first | assumption | omega | (simp only [List.length_append, List.length_cons, List.length_nil]; omega))) only [↓wD,wU,Nat.reduceBEq,zx150,zx151,zx159,zx160,zx161,zx162,Nat.reduceAdd,Nat.reduceSub,Nat.reduceMul,Nat.reduceLeDiff,Nat.reduceLT,Nat.reduceEqDiff,Int.reduceAdd,Int.reduceSub,Int.reduceMul,Int.reduceNeg,Int.reduceLT,Int.reduceLE,Int.reduceEq,Int.reduceToNat,Int.cast_ofNat_Int,↓reduceIte, hz.call]
    refine (rlines_ret hc h2).toF fun y H1 hg hy => ?_
    simp (disch := (first | assumption | omega | (simp only [List.length_append, List.length_cons, List.length_nil]; omega))) only [↓wD,wU,Nat.reduceBEq,zx150,zx151,zx159,zx160,zx161,zx162,Nat.reduceAdd,Nat.reduceSub,Nat.reduceMul,Nat.reduceLeDiff,Nat.reduceLT,Nat.reduceEqDiff,Int.reduceAdd,Int.reduceSub,Int.reduceMul,Int.reduceNeg,Int.reduceLT,Int.reduceLE,Int.reduceEq,Int.reduceToNat,Int.cast_ofNat_Int,↓reduceIte, hy.I]
  · rw [decide_eq_false h] at hz
    have e : decide (ClueP n cl) = false := decide_eq_false fun q => h q.1
    simp (disch := (first | assumption | omega | (simp only [List.length_append, List.length_cons, List.length_nil]; omega))) only [↓wD,wU,Nat.reduceBEq,zx150,zx151,zx159,zx160,zx161,zx162,Nat.reduceAdd,Nat.reduceSub,Nat.reduceMul,Nat.reduceLeDiff,Nat.reduceLT,Nat.reduceEqDiff,Int.reduceAdd,Int.reduceSub,Int.reduceMul,Int.reduceNeg,Int.reduceLT,Int.reduceLE,Int.reduceEq,Int.reduceToNat,Int.cast_ofNat_Int,↓reduceIte, hz.call, e]
theorem awake_ret {H : Heap} : RetP E 24 [] H (.b true) :=
  RetP.closed (n := 300) rfl fn24 rfl rfl (by kernel_rfl)
end Go.Proofs.YtjjndoigkhabdaaDoor
namespace Go.Proofs.YtjjndoigkhabdaaDoor
open Go Go.AM Go.Proofs
def linesN (n : Nat) (cl : List Int) : List Nat := (List.range (2 ^ n)).filter fun x => decide (blkL x = cl)
theorem linesL_N (n : Nat) (cl : List Int) : linesL n cl = (linesN n cl).map fun x : Nat => (x : Int) := rfl
theorem linesN_lt {n : Nat} {cl : List Int} {x : Nat} (h : x ∈ linesN n cl) : x < 2 ^ n := List.mem_range.1 (List.mem_filter.1 h).1
theorem linesN_len {n : Nat} {cl : List Int} : (linesN n cl).length = (linesL n cl).length := by rw [linesL_N, List.length_map]
end Go.Proofs.YtjjndoigkhabdaaDoor
namespace Go.Proofs.YtjjndoigkhabdaaDoor
open Go Go.AM Go.Proofs
theorem _root_.Go.AM.RetP.callv {E : Tab} {f : Nat} {us caps vs : List AV} {H : Heap} {v : AV} (h : RetP E f (us ++ vs ++ caps) H v) {lo : Nat} {Q : AV → Heap → Prop} : @callvP E lo (.fn f us caps) vs H ⟨Q⟩ = Q v H := h.iff
theorem _root_.Go.AM.RetP.callv0 {E : Tab} {f : Nat} {vs : List AV} {H : Heap} {v : AV} (h : RetP E f vs H v) {lo : Nat} {Q : AV → Heap → Prop} : @callvP E lo (.fn f [] []) vs H ⟨Q⟩ = Q v H := RetP.callv (us := []) (caps := []) (by simpa using h)
theorem _root_.Go.AM.RetP.callv1 {E : Tab} {f : Nat} {caps vs : List AV} {H : Heap} {v : AV} (h : RetP E f (vs ++ caps) H v) {lo : Nat} {Q : AV → Heap → Prop} : @callvP E lo (.fn f [] caps) vs H ⟨Q⟩ = Q v H := RetP.callv (us := []) (by simpa using h)
end Go.Proofs.YtjjndoigkhabdaaDoor
namespace Go.Proofs.YtjjndoigkhabdaaDoor
open Go Go.AM Go.Proofs
theorem rv_pp {α β : Type} [Rep α] [Rep β] {p : Nat → Prop} {H : Heap} {u w : AV} {x : List α} {y : List β} (h1 : Sl p H u x) (h2 : Sl p H w y) : RV.rv p H (.ag [u, w]) ((x, y) : List α × List β) :=
  ⟨[u, w], rfl, [u], [w], rfl, ⟨u, rfl, h1⟩, ⟨w, rfl, h2⟩⟩
theorem rv_pp_elim {α β : Type} [Rep α] [Rep β] {p : Nat → Prop} {H : Heap} {v : AV} {x : List α × List β} (h : RV.rv p H v x) : ∃ u w, v = .ag [u, w] ∧ Sl p H u x.1 ∧ Sl p H w x.2 := by
  obtain ⟨cs, rfl, c1, c2, rfl, ⟨u, rfl, h1⟩, ⟨w, rfl, h2⟩⟩ := h
  exact ⟨u, w, rfl, h1, h2⟩
theorem rep_pp_elim {α β : Type} [Rep α] [Rep β] {p : Nat → Prop} {H : Heap} {cs : List AV} {x : List α × List β} (h : Rep.rep p H cs x) : ∃ u w, cs = [u, w] ∧ Sl p H u x.1 ∧ Sl p H w x.2 := by
  obtain ⟨c1, c2, rfl, ⟨u, rfl, h1⟩, ⟨w, rfl, h2⟩⟩ := h
  exact ⟨u, w, rfl, h1, h2⟩
def findG {α : Type} (P : α → Bool) : List α → Nat → Int
  | [], _ => -1
  | y :: ys, i => if P y then i else findG P ys (i + 1)
theorem findG_ge {α : Type} {P : α → Bool} : ∀ {xs : List α} {i : Nat}, decide (0 ≤ findG P xs i) = xs.any P
  | [], i => by simp [findG]
  | y :: ys, i => by
    unfold findG
    cases h : P y
    · simp [h, findG_ge]
    · simp [h]
theorem idxL_ret {p : Nat → Prop} {H : Heap} {v : AV} {f : Nat} {caps : List AV} {xs : List (List Int)} {P : List Int → Bool} (hx : Sl p H v xs) (hf : ∀ i : Nat, i < xs.length → RetP E f ([v.get H (i : Int)] ++ caps) H (.b (P (gi xs (i : Int))))) : RetP E 111 [v, .fn f [] caps] H (.i (findG P xs 0)) := by
  refine RetP.ro rfl fn111 rfl rfl ?_
  unfold f111A
  have hI := hx.L
  have hb := hx.bound
  obtain ⟨r, er⟩ : ∃ r, findG P xs 0 = r := ⟨_, rfl⟩
  rw [er]
  simp (disch := (first | assumption | omega | (simp only [List.length_append, List.length_cons, List.length_nil]; omega))) only [↓wD,wU,Nat.reduceBEq,zx150,zx151,zx159,zx160,zx161,zx162,Nat.reduceAdd,Nat.reduceSub,Nat.reduceMul,Nat.reduceLeDiff,Nat.reduceLT,Nat.reduceEqDiff,Int.reduceAdd,Int.reduceSub,Int.reduceMul,Int.reduceNeg,Int.reduceLT,Int.reduceLE,Int.reduceEq,Int.reduceToNat,Int.cast_ofNat_Int,↓reduceIte, hI]
  refine Wp.for xs.length (fun i a H' => H' = H ∧ a 0 = v ∧ a 1 = .fn f [] caps ∧ a 7 = .i xs.length ∧ a 8 = .i i ∧ findG P (xs.drop i) i = r) ?_ ?_
  · clear er
    rintro i a H' hi ⟨rfl, a0, a1, a7, a8, hh⟩ ih
    simp (disch := (first | assumption | omega | (simp only [List.length_append, List.length_cons, List.length_nil]; omega))) only [↓wD,wU,Nat.reduceBEq,zx150,zx151,zx159,zx160,zx161,zx162,Nat.reduceAdd,Nat.reduceSub,Nat.reduceMul,Nat.reduceLeDiff,Nat.reduceLT,Nat.reduceEqDiff,Int.reduceAdd,Int.reduceSub,Int.reduceMul,Int.reduceNeg,Int.reduceLT,Int.reduceLE,Int.reduceEq,Int.reduceToNat,Int.cast_ofNat_Int,↓reduceIte, a0, a1, a7, a8]
    refine condP_split (fun hlt => ?_) (fun hlt => ?_)
    · have hi' : i < xs.length := by omega
      have e : xs.drop i = gi xs (i : Int) :: xs.drop (i + 1) := by rw [gi_nat hi']; exact List.drop_eq_getElem_cons hi'
      rw [e, findG] at hh
      clear e
      have hc := hf i hi'
      cases hp : P (gi xs (i : Int))
      · rw [hp] at hc hh
        simp only [Bool.false_eq_true, if_false] at hh
        simp (disch := (first | assumption | omega | (simp only [List.length_append, List.length_cons, List.length_nil]; omega))) only [↓wD,wU,Nat.reduceBEq,zx150,zx151,zx159,zx160,zx161,zx162,Nat.reduceAdd,Nat.reduceSub,Nat.reduceMul,Nat.reduceLeDiff,Nat.reduceLT,Nat.reduceEqDiff,Int.reduceAdd,Int.reduceSub,Int.reduceMul,Int.reduceNeg,Int.reduceLT,Int.reduceLE,Int.reduceEq,Int.reduceToNat,Int.cast_ofNat_Int,↓reduceIte, a0, a1, a7, a8, hI, hc.callv1]
        refine (ih hi').go ⟨rfl, ?_⟩
        simp (disch := (first | assumption | omega | (simp only [List.length_append, List.length_cons, List.length_nil]; omega))) only [↓wD,wU,Nat.reduceBEq,zx150,zx151,zx159,zx160,zx161,zx162,Nat.reduceAdd,Nat.reduceSub,Nat.reduceMul,Nat.reduceLeDiff,Nat.reduceLT,Nat.reduceEqDiff,Int.reduceAdd,Int.reduceSub,Int.reduceMul,Int.reduceNeg,Int.reduceLT,Int.reduceLE,Int.reduceEq,Int.reduceToNat,Int.cast_ofNat_Int,↓reduceIte, a0, a1, a7, a8]
        exact hh
      · rw [hp] at hc hh
        simp only [if_true] at hh
        simp (disch := (first | assumption | omega | (simp only [List.length_append, List.length_cons, List.length_nil]; omega))) only [↓wD,wU,Nat.reduceBEq,zx150,zx151,zx159,zx160,zx161,zx162,Nat.reduceAdd,Nat.reduceSub,Nat.reduceMul,Nat.reduceLeDiff,Nat.reduceLT,Nat.reduceEqDiff,Int.reduceAdd,Int.reduceSub,Int.reduceMul,Int.reduceNeg,Int.reduceLT,Int.reduceLE,Int.reduceEq,Int.reduceToNat,Int.cast_ofNat_Int,↓reduceIte, a0, a1, a7, a8, hI, hc.callv1]
        rw [hh]
    · rw [List.drop_of_length_le (by omega), findG] at hh
      subst hh
      simp (disch := (first | assumption | omega | (simp only [List.length_append, List.length_cons, List.length_nil]; omega))) only [↓wD,wU,Nat.reduceBEq,zx150,zx151,zx159,zx160,zx161,zx162,Nat.reduceAdd,Nat.reduceSub,Nat.reduceMul,Nat.reduceLeDiff,Nat.reduceLT,Nat.reduceEqDiff,Int.reduceAdd,Int.reduceSub,Int.reduceMul,Int.reduceNeg,Int.reduceLT,Int.reduceLE,Int.reduceEq,Int.reduceToNat,Int.cast_ofNat_Int,↓reduceIte, a0, a1, a7, a8]
  · simp (disch := (first | assumption | omega | (simp only [List.length_append, List.length_cons, List.length_nil]; omega))) only [↓wD,wU,Nat.reduceBEq,zx150,zx151,zx159,zx160,zx161,zx162,Nat.reduceAdd,Nat.reduceSub,Nat.reduceMul,Nat.reduceLeDiff,Nat.reduceLT,Nat.reduceEqDiff,Int.reduceAdd,Int.reduceSub,Int.reduceMul,Int.reduceNeg,Int.reduceLT,Int.reduceLE,Int.reduceEq,Int.reduceToNat,Int.cast_ofNat_Int,↓reduceIte]
    exact er
theorem hasL_ret {p : Nat → Prop} {H : Heap} {v : AV} {f : Nat} {caps : List AV} {xs : List (List Int)} {P : List Int → Bool} (hx : Sl p H v xs) (hf : ∀ i : Nat, i < xs.length → RetP E f ([v.get H (i : Int)] ++ caps) H (.b (P (gi xs (i : Int))))) : RetP E 93 [v, .fn f [] caps] H (.b (xs.any P)) := by
  refine RetP.ro rfl fn93 rfl rfl ?_
  unfold f93A
  have h := findG_ge (P := P) (xs := xs) (i := 0)
  simp (disch := (first | assumption | omega | (simp only [List.length_append, List.length_cons, List.length_nil]; omega))) only [↓wD,wU,Nat.reduceBEq,zx150,zx151,zx159,zx160,zx161,zx162,Nat.reduceAdd,Nat.reduceSub,Nat.reduceMul,Nat.reduceLeDiff,Nat.reduceLT,Nat.reduceEqDiff,Int.reduceAdd,Int.reduceSub,Int.reduceMul,Int.reduceNeg,Int.reduceLT,Int.reduceLE,Int.reduceEq,Int.reduceToNat,Int.cast_ofNat_Int,↓reduceIte, (idxL_ret hx hf).call, h]
/-! ### Pictures -/
def PicP (w : Int) (xs : List Int) : Prop := SizeP xs.length ∧ SizeP w ∧ ∀ x ∈ xs, SetP w x
instance (w : Int) (xs : List Int) : Decidable (PicP w xs) := by unfold PicP; infer_instance
def nL (P : List Nat) : List Int := P.map fun x : Nat => (x : Int)
theorem PicP.nat {w : Int} {xs : List Int} (h : PicP w xs) : ∃ (m : Nat) (P : List Nat), w = m ∧ xs = nL P ∧ 1 ≤ m ∧ m ≤ 5 ∧ 1 ≤ P.length ∧ P.length ≤ 5 ∧ ∀ x ∈ P, x < 2 ^ m := by
  obtain ⟨m, rfl, m1, m5⟩ := h.2.1.nat
  refine ⟨m, xs.map Int.toNat, rfl, ?_, m1, m5, by have := h.1.1; simp; omega, by have := h.1.2; simp; omega, fun x hx => ?_⟩
  · unfold nL
    rw [List.map_map]
    conv => lhs; rw [← List.map_id xs]
    apply List.map_congr_left
    intro x hx
    obtain ⟨_, y, _, e, _⟩ := (h.2.2 x hx).nat
    rw [e]; rfl
  · obtain ⟨y, hy, rfl⟩ := List.mem_map.1 hx
    obtain ⟨_, z, _, e, _, _, hz, _⟩ := (h.2.2 y hy).nat
    subst e
    rw [Int.toNat_natCast]
    have := (h.2.2 _ hy).2.2
    rw [Int.toNat_natCast] at this
    omega
end Go.Proofs.YtjjndoigkhabdaaDoor
namespace Go.Proofs.YtjjndoigkhabdaaDoor
open Go Go.AM Go.Proofs
theorem own_ret {p : Nat → Prop} {H : Heap} {u w : AV} {x y : List (List Int)} (hx : Sl p H u x) (hy : Sl p H w y) : Ret E 31 [.ag [u, w]] p H (x, y) := by
  refine Ret.ro rfl fn31 rfl ?_
  unfold f31A
  have c0 : (H ++ [Blk.cells [u, w]] ++ [Blk.cells [.nils, .nils]])[H.length]? = some (.cells [u, w]) := by simp [List.getElem?_append]
  have c1 : (H ++ [Blk.cells [u, w]] ++ [Blk.cells [.nils, .nils]])[H.length + 1]? = some (.cells [.nils, .nils]) := by simp [List.getElem?_append]
  have hx2 := (hx.low.app [Blk.cells [u, w]]).app [Blk.cells [.nils, .nils]]
  have hy2 := (hy.low.app [Blk.cells [u, w]]).app [Blk.cells [.nils, .nils]]
  have hu := hx.cellsV
  have hw := hy.cellsV
  have hst : st H.length (H ++ [Blk.cells [u, w]] ++ [Blk.cells [.nils, .nils]]) (H.length + 1) 0 [u, w] = some ((H ++ [Blk.cells [u, w]] ++ [Blk.cells [.nils, .nils]]).set (H.length + 1) (.cells [u, w])) := by rw [st_of c1 (by omega) (by simp)]; simp [wr]
  have g1 := get_set (k := .cells [u, w]) c1
  have e1 := (hx2.kp ((Kp.set (H.length + 1) _ (.cells [u, w])).weak fun b h => by omega)).weak (q := fun b => p b ∨ H.length ≤ b) fun b h => .inl h.1
  have e2 := (hy2.kp ((Kp.set (H.length + 1) _ (.cells [u, w])).weak fun b h => by omega)).weak (q := fun b => p b ∨ H.length ≤ b) fun b h => .inl h.1
  generalize (H ++ [Blk.cells [u, w]] ++ [Blk.cells [.nils, .nils]]).set (H.length + 1) (.cells [u, w]) = H3 at *
  simp (disch := (first | assumption | omega | (simp only [List.length_append, List.length_cons, List.length_nil]; omega))) only [↓wD,wU,Nat.reduceBEq,zx150,zx151,zx159,zx160,zx161,zx162,Nat.reduceAdd,Nat.reduceSub,Nat.reduceMul,Nat.reduceLeDiff,Nat.reduceLT,Nat.reduceEqDiff,Int.reduceAdd,Int.reduceSub,Int.reduceMul,Int.reduceNeg,Int.reduceLT,Int.reduceLE,Int.reduceEq,Int.reduceToNat,Int.cast_ofNat_Int,↓reduceIte, hu, hw, ld_of c0, hst, ldn_of g1]
  exact rv_pp e1 e2
theorem psame_ret {p q : Nat → Prop} {H : Heap} {u w u' w' : AV} {x y x' y' : List (List Int)} (hx : Sl p H u x) (hy : Sl p H w y) (hx' : Sl q H u' x') (hy' : Sl q H w' y') : RetP E 30 [.ag [u, w], .ag [u', w']] H (.b (decide (x = x' ∧ y = y'))) := by
  refine RetP.ro rfl fn30 rfl rfl ?_
  unfold f30A
  have c0 : (H ++ [Blk.cells [u, w]] ++ [Blk.cells [u', w']])[H.length]? = some (.cells [u, w]) := by simp [List.getElem?_append]
  have c1 : (H ++ [Blk.cells [u, w]] ++ [Blk.cells [u', w']])[H.length + 1]? = some (.cells [u', w']) := by simp [List.getElem?_append]
  have kx := (hx.app [Blk.cells [u, w]]).app [Blk.cells [u', w']]
  have ky := (hy.app [Blk.cells [u, w]]).app [Blk.cells [u', w']]
  have kx' := (hx'.app [Blk.cells [u, w]]).app [Blk.cells [u', w']]
  have ky' := (hy'.app [Blk.cells [u, w]]).app [Blk.cells [u', w']]
  have vu := hx.cellsV
  have vw := hy.cellsV
  have vu' := hx'.cellsV
  have vw' := hy'.cellsV
  have bx := hx.bound
  have bY := hy.bound
  clear hx hy hx' hy'
  have lx := kx.L
  have ly := ky.L
  have lx' := kx'.L
  have ly' := ky'.L
  by_cases h1 : x.length = x'.length
  case neg =>
    have d1 : decide (¬ (x.length : Int) = x'.length) = true := decide_eq_true (by omega)
    have e : decide (x = x' ∧ y = y') = false := decide_eq_false fun h => h1 (by rw [h.1])
    simp (disch := (first | assumption | omega | (simp only [List.length_append, List.length_cons, List.length_nil]; omega))) only [↓wD,wU,Nat.reduceBEq,zx150,zx151,zx159,zx160,zx161,zx162,Nat.reduceAdd,Nat.reduceSub,Nat.reduceMul,Nat.reduceLeDiff,Nat.reduceLT,Nat.reduceEqDiff,Int.reduceAdd,Int.reduceSub,Int.reduceMul,Int.reduceNeg,Int.reduceLT,Int.reduceLE,Int.reduceEq,Int.reduceToNat,Int.cast_ofNat_Int,↓reduceIte, vu, vw, vu', vw', ld_of c0, ld_of c1, lx, ly, lx', ly', d1, e]
  have d1 : decide (¬ (x.length : Int) = x'.length) = false := decide_eq_false (by omega)
  by_cases h2 : y.length = y'.length
  case neg =>
    have d2 : decide (¬ (y.length : Int) = y'.length) = true := decide_eq_true (by omega)
    have e : decide (x = x' ∧ y = y') = false := decide_eq_false fun h => h2 (by rw [h.2])
    simp (disch := (first | assumption | omega | (simp only [List.length_append, List.length_cons, List.length_nil]; omega))) only [↓wD,wU,Nat.reduceBEq,zx150,zx151,zx159,zx160,zx161,zx162,Nat.reduceAdd,Nat.reduceSub,Nat.reduceMul,Nat.reduceLeDiff,Nat.reduceLT,Nat.reduceEqDiff,Int.reduceAdd,Int.reduceSub,Int.reduceMul,Int.reduceNeg,Int.reduceLT,Int.reduceLE,Int.reduceEq,Int.reduceToNat,Int.cast_ofNat_Int,↓reduceIte, vu, vw, vu', vw', ld_of c0, ld_of c1, lx, ly, lx', ly', d1, d2, e]
  have d2 : decide (¬ (y.length : Int) = y'.length) = false := decide_eq_false (by omega)
  simp (disch := (first | assumption | omega | (simp only [List.length_append, List.length_cons, List.length_nil]; omega))) only [↓wD,wU,Nat.reduceBEq,zx150,zx151,zx159,zx160,zx161,zx162,Nat.reduceAdd,Nat.reduceSub,Nat.reduceMul,Nat.reduceLeDiff,Nat.reduceLT,Nat.reduceEqDiff,Int.reduceAdd,Int.reduceSub,Int.reduceMul,Int.reduceNeg,Int.reduceLT,Int.reduceLE,Int.reduceEq,Int.reduceToNat,Int.cast_ofNat_Int,↓reduceIte, vu, vw, vu', vw', ld_of c0, ld_of c1, lx, ly, lx', ly', d1, d2]
  generalize H ++ [Blk.cells [u, w]] ++ [Blk.cells [u', w']] = H2 at *
  refine Wp.for x.length (fun i a H' => H' = H2 ∧ a 2 = .p H.length 0 ∧ a 3 = .p (H.length + 1) 0 ∧ a 26 = u ∧ a 27 = .i x.length ∧ a 28 = .i i ∧ x.take i = x'.take i) ?_ ?_
  · rintro i a H' hi ⟨rfl, a2, a3, a26, a27, a28, hh⟩ ih
    simp (disch := (first | assumption | omega | (simp only [List.length_append, List.length_cons, List.length_nil]; omega))) only [↓wD,wU,Nat.reduceBEq,zx150,zx151,zx159,zx160,zx161,zx162,Nat.reduceAdd,Nat.reduceSub,Nat.reduceMul,Nat.reduceLeDiff,Nat.reduceLT,Nat.reduceEqDiff,Int.reduceAdd,Int.reduceSub,Int.reduceMul,Int.reduceNeg,Int.reduceLT,Int.reduceLE,Int.reduceEq,Int.reduceToNat,Int.cast_ofNat_Int,↓reduceIte, a2, a3, a26, a27, a28]
    refine condP_split (fun hlt => ?_) (fun hlt => ?_)
    · have hi' : i < x.length := by omega
      have g := kx.get (k := (i : Int)) (by omega) (by omega)
      have g' := kx'.get (k := (i : Int)) (by omega) (by omega)
      have sm := same_ret g g'
      by_cases he : gi x (i : Int) = gi x' (i : Int)
      · rw [decide_eq_true he] at sm
        have hh2 := take_eq_succ hh hi' (by omega) he
        simp (disch := (first | assumption | omega | (simp only [List.length_append, List.length_cons, List.length_nil]; omega))) only [↓wD,wU,Nat.reduceBEq,zx150,zx151,zx159,zx160,zx161,zx162,Nat.reduceAdd,Nat.reduceSub,Nat.reduceMul,Nat.reduceLeDiff,Nat.reduceLT,Nat.reduceEqDiff,Int.reduceAdd,Int.reduceSub,Int.reduceMul,Int.reduceNeg,Int.reduceLT,Int.reduceLE,Int.reduceEq,Int.reduceToNat,Int.cast_ofNat_Int,↓reduceIte, a2, a3, a26, a27, a28, lx, lx', ld_of c1, sm.call]
        refine (ih hi').go ⟨rfl, ?_⟩
        simp (disch := (first | assumption | omega | (simp only [List.length_append, List.length_cons, List.length_nil]; omega))) only [↓wD,wU,Nat.reduceBEq,zx150,zx151,zx159,zx160,zx161,zx162,Nat.reduceAdd,Nat.reduceSub,Nat.reduceMul,Nat.reduceLeDiff,Nat.reduceLT,Nat.reduceEqDiff,Int.reduceAdd,Int.reduceSub,Int.reduceMul,Int.reduceNeg,Int.reduceLT,Int.reduceLE,Int.reduceEq,Int.reduceToNat,Int.cast_ofNat_Int,↓reduceIte, a2, a3, a26, a27, a28]
        exact hh2
      · rw [decide_eq_false he] at sm
        have e : decide (x = x' ∧ y = y') = false := decide_eq_false fun h => he (by rw [h.1])
        simp (disch := (first | assumption | omega | (simp only [List.length_append, List.length_cons, List.length_nil]; omega))) only [↓wD,wU,Nat.reduceBEq,zx150,zx151,zx159,zx160,zx161,zx162,Nat.reduceAdd,Nat.reduceSub,Nat.reduceMul,Nat.reduceLeDiff,Nat.reduceLT,Nat.reduceEqDiff,Int.reduceAdd,Int.reduceSub,Int.reduceMul,Int.reduceNeg,Int.reduceLT,Int.reduceLE,Int.reduceEq,Int.reduceToNat,Int.cast_ofNat_Int,↓reduceIte, a2, a3, a26, a27, a28, lx, lx', ld_of c1, sm.call, e]
    · have ex := take_all hh h1 (by omega)
      clear ih hh
      simp (disch := (first | assumption | omega | (simp only [List.length_append, List.length_cons, List.length_nil]; omega))) only [↓wD,wU,Nat.reduceBEq,zx150,zx151,zx159,zx160,zx161,zx162,Nat.reduceAdd,Nat.reduceSub,Nat.reduceMul,Nat.reduceLeDiff,Nat.reduceLT,Nat.reduceEqDiff,Int.reduceAdd,Int.reduceSub,Int.reduceMul,Int.reduceNeg,Int.reduceLT,Int.reduceLE,Int.reduceEq,Int.reduceToNat,Int.cast_ofNat_Int,↓reduceIte, a2, a3, a26, a27, a28, ld_of c0, ly]
      refine Wp.for y.length (fun i a Hh => Hh = H' ∧ a 2 = .p H.length 0 ∧ a 3 = .p (H.length + 1) 0 ∧ a 43 = w ∧ a 44 = .i y.length ∧ a 45 = .i i ∧ y.take i = y'.take i) ?_ ?_
      · clear a2 a3 a26 a27 a28
        rintro i a Hh hi ⟨rfl, a2, a3, a43, a44, a45, hh⟩ ih
        simp (disch := (first | assumption | omega | (simp only [List.length_append, List.length_cons, List.length_nil]; omega))) only [↓wD,wU,Nat.reduceBEq,zx150,zx151,zx159,zx160,zx161,zx162,Nat.reduceAdd,Nat.reduceSub,Nat.reduceMul,Nat.reduceLeDiff,Nat.reduceLT,Nat.reduceEqDiff,Int.reduceAdd,Int.reduceSub,Int.reduceMul,Int.reduceNeg,Int.reduceLT,Int.reduceLE,Int.reduceEq,Int.reduceToNat,Int.cast_ofNat_Int,↓reduceIte, a2, a3, a43, a44, a45]
        refine condP_split (fun hlt => ?_) (fun hlt => ?_)
        · have hi' : i < y.length := by omega
          have g := ky.get (k := (i : Int)) (by omega) (by omega)
          have g' := ky'.get (k := (i : Int)) (by omega) (by omega)
          have sm := same_ret g g'
          by_cases he : gi y (i : Int) = gi y' (i : Int)
          · rw [decide_eq_true he] at sm
            have hh2 := take_eq_succ hh hi' (by omega) he
            simp (disch := (first | assumption | omega | (simp only [List.length_append, List.length_cons, List.length_nil]; omega))) only [↓wD,wU,Nat.reduceBEq,zx150,zx151,zx159,zx160,zx161,zx162,Nat.reduceAdd,Nat.reduceSub,Nat.reduceMul,Nat.reduceLeDiff,Nat.reduceLT,Nat.reduceEqDiff,Int.reduceAdd,Int.reduceSub,Int.reduceMul,Int.reduceNeg,Int.reduceLT,Int.reduceLE,Int.reduceEq,Int.reduceToNat,Int.cast_ofNat_Int,↓reduceIte, a2, a3, a43, a44, a45, ly, ly', ld_of c1, sm.call]
            refine (ih hi').go ⟨rfl, ?_⟩
            simp (disch := (first | assumption | omega | (simp only [List.length_append, List.length_cons, List.length_nil]; omega))) only [↓wD,wU,Nat.reduceBEq,zx150,zx151,zx159,zx160,zx161,zx162,Nat.reduceAdd,Nat.reduceSub,Nat.reduceMul,Nat.reduceLeDiff,Nat.reduceLT,Nat.reduceEqDiff,Int.reduceAdd,Int.reduceSub,Int.reduceMul,Int.reduceNeg,Int.reduceLT,Int.reduceLE,Int.reduceEq,Int.reduceToNat,Int.cast_ofNat_Int,↓reduceIte, a2, a3, a43, a44, a45]
            exact hh2
          · rw [decide_eq_false he] at sm
            have e : decide (x = x' ∧ y = y') = false := decide_eq_false fun h => he (by rw [h.2])
            simp (disch := (first | assumption | omega | (simp only [List.length_append, List.length_cons, List.length_nil]; omega))) only [↓wD,wU,Nat.reduceBEq,zx150,zx151,zx159,zx160,zx161,zx162,Nat.reduceAdd,Nat.reduceSub,Nat.reduceMul,Nat.reduceLeDiff,Nat.reduceLT,Nat.reduceEqDiff,Int.reduceAdd,Int.reduceSub,Int.reduceMul,Int.reduceNeg,Int.reduceLT,Int.reduceLE,Int.reduceEq,Int.reduceToNat,Int.cast_ofNat_Int,↓reduceIte, a2, a3, a43, a44, a45, ly, ly', ld_of c1, sm.call, e]
        · have e : decide (x = x' ∧ y = y') = true := decide_eq_true ⟨ex, take_all hh h2 (by omega)⟩
          simp (disch := (first | assumption | omega | (simp only [List.length_append, List.length_cons, List.length_nil]; omega))) only [↓wD,wU,Nat.reduceBEq,zx150,zx151,zx159,zx160,zx161,zx162,Nat.reduceAdd,Nat.reduceSub,Nat.reduceMul,Nat.reduceLeDiff,Nat.reduceLT,Nat.reduceEqDiff,Int.reduceAdd,Int.reduceSub,Int.reduceMul,Int.reduceNeg,Int.reduceLT,Int.reduceLE,Int.reduceEq,Int.reduceToNat,Int.cast_ofNat_Int,↓reduceIte, a2, a3, a43, a44, a45, e]
      · (simp (disch := (first | assumption | omega | (simp only [List.length_append, List.length_cons, List.length_nil]; omega))) only [↓wD,wU,Nat.reduceBEq,zx150,zx151,zx159,zx160,zx161,zx162,Nat.reduceAdd,Nat.reduceSub,Nat.reduceMul,Nat.reduceLeDiff,Nat.reduceLT,Nat.reduceEqDiff,Int.reduceAdd,Int.reduceSub,Int.reduceMul,Int.reduceNeg,Int.reduceLT,Int.reduceLE,Int.reduceEq,Int.reduceToNat,Int.cast_ofNat_Int,↓reduceIte, a2, a3, a26, a27, a28]) <;> simp
  · (simp (disch := (first | assumption | omega | (simp only [List.length_append, List.length_cons, List.length_nil]; omega))) only [↓wD,wU,Nat.reduceBEq,zx150,zx151,zx159,zx160,zx161,zx162,Nat.reduceAdd,Nat.reduceSub,Nat.reduceMul,Nat.reduceLeDiff,Nat.reduceLT,Nat.reduceEqDiff,Int.reduceAdd,Int.reduceSub,Int.reduceMul,Int.reduceNeg,Int.reduceLT,Int.reduceLE,Int.reduceEq,Int.reduceToNat,Int.cast_ofNat_Int,↓reduceIte]) <;> simp
end Go.Proofs.YtjjndoigkhabdaaDoor
namespace Go.Proofs.YtjjndoigkhabdaaDoor
open Go Go.AM Go.Proofs
def cutT (t : List (List Int)) : List (List Int) := (t.take 8).map fun r => r.take 8
theorem table_ret {p : Nat → Prop} {H : Heap} {v : AV} {t : List (List Int)} (ht : Sl p H v t) : Ret E 70 [v] (fun _ => False) H (cutT t) := by
  refine Ret.ro rfl fn70 rfl ?_
  unfold f70A
  have hb := ht.bound
  simp (disch := (first | assumption | omega | (simp only [List.length_append, List.length_cons, List.length_nil]; omega))) only [↓wD,wU,Nat.reduceBEq,zx150,zx151,zx159,zx160,zx161,zx162,Nat.reduceAdd,Nat.reduceSub,Nat.reduceMul,Nat.reduceLeDiff,Nat.reduceLT,Nat.reduceEqDiff,Int.reduceAdd,Int.reduceSub,Int.reduceMul,Int.reduceNeg,Int.reduceLT,Int.reduceLE,Int.reduceEq,Int.reduceToNat,Int.cast_ofNat_Int,↓reduceIte, ht.L]
  replace ht : Sl (fun b => b < H.length) H v t := ht.low.weak fun _ h => h.2
  refine Wp.for t.length (fun i a H' => ∃ u, a 6 = v ∧ a 7 = .i t.length ∧ a 8 = .i i ∧ a 3 = u ∧ Gr H H' ∧ Acc H.length (fun b => H.length ≤ b) H' u (((t.take i).take 8).map fun r => r.take 8)) ?_ ?_
  · rintro i a H1 hi ⟨u, h6, h7, h8, h3, hg, hu⟩ ih
    simp (disch := (first | assumption | omega | (simp only [List.length_append, List.length_cons, List.length_nil]; omega))) only [↓wD,wU,Nat.reduceBEq,zx150,zx151,zx159,zx160,zx161,zx162,Nat.reduceAdd,Nat.reduceSub,Nat.reduceMul,Nat.reduceLeDiff,Nat.reduceLT,Nat.reduceEqDiff,Int.reduceAdd,Int.reduceSub,Int.reduceMul,Int.reduceNeg,Int.reduceLT,Int.reduceLE,Int.reduceEq,Int.reduceToNat,Int.cast_ofNat_Int,↓reduceIte, h6, h7, h8, h3]
    refine condP_split (fun hlt => ?_) (fun hlt => ?_)
    · have hi' : i < t.length := by omega
      have ht1 := ht.gr hg
      have g := ht1.get (k := (i : Int)) (by omega) (by omega)
      by_cases h8' : i < 8
      · have hd : decide ((i : Int) < 8) = true := decide_eq_true (by omega)
        simp (disch := (first | assumption | omega | (simp only [List.length_append, List.length_cons, List.length_nil]; omega))) only [↓wD,wU,Nat.reduceBEq,zx150,zx151,zx159,zx160,zx161,zx162,Nat.reduceAdd,Nat.reduceSub,Nat.reduceMul,Nat.reduceLeDiff,Nat.reduceLT,Nat.reduceEqDiff,Int.reduceAdd,Int.reduceSub,Int.reduceMul,Int.reduceNeg,Int.reduceLT,Int.reduceLE,Int.reduceEq,Int.reduceToNat,Int.cast_ofNat_Int,↓reduceIte, h6, h7, h8, h3, ht1.L, hd]
        refine (list_ret g).toF fun y H2 hg2 hy => ?_
        have hl2 := hg2.1
        simp (disch := (first | assumption | omega | (simp only [List.length_append, List.length_cons, List.length_nil]; omega))) only [↓wD,wU,Nat.reduceBEq,zx150,zx151,zx159,zx160,zx161,zx162,Nat.reduceAdd,Nat.reduceSub,Nat.reduceMul,Nat.reduceLeDiff,Nat.reduceLT,Nat.reduceEqDiff,Int.reduceAdd,Int.reduceSub,Int.reduceMul,Int.reduceNeg,Int.reduceLT,Int.reduceLE,Int.reduceEq,Int.reduceToNat,Int.cast_ofNat_Int,↓reduceIte, hy.cellsV]
        refine (hu.gr hg2).pushL (Nat.le_refl _) (by have := hg.1; omega) hy (fun b hb => ⟨by have := hg.1; omega, fun e => by have := hu.blk_lt e; omega⟩) ?_ fun u' H3 hu' hk3 hl3' _ => ?_
        · simp; omega
        · simp (disch := (first | assumption | omega | (simp only [List.length_append, List.length_cons, List.length_nil]; omega))) only [↓wD,wU,Nat.reduceBEq,zx150,zx151,zx159,zx160,zx161,zx162,Nat.reduceAdd,Nat.reduceSub,Nat.reduceMul,Nat.reduceLeDiff,Nat.reduceLT,Nat.reduceEqDiff,Int.reduceAdd,Int.reduceSub,Int.reduceMul,Int.reduceNeg,Int.reduceLT,Int.reduceLE,Int.reduceEq,Int.reduceToNat,Int.cast_ofNat_Int,↓reduceIte, h6, h7, h8, h3]
          refine (ih hi').go ⟨u', ?_⟩
          simp (disch := (first | assumption | omega | (simp only [List.length_append, List.length_cons, List.length_nil]; omega))) only [↓wD,wU,Nat.reduceBEq,zx150,zx151,zx159,zx160,zx161,zx162,Nat.reduceAdd,Nat.reduceSub,Nat.reduceMul,Nat.reduceLeDiff,Nat.reduceLT,Nat.reduceEqDiff,Int.reduceAdd,Int.reduceSub,Int.reduceMul,Int.reduceNeg,Int.reduceLT,Int.reduceLE,Int.reduceEq,Int.reduceToNat,Int.cast_ofNat_Int,↓reduceIte, h6, h7, h8, h3]
          refine ⟨((hg.trans hg2).push (hu.gr hg2) (Nat.le_refl _) hk3), ?_⟩
          have e : ((t.take (i + 1)).take 8) = (t.take i).take 8 ++ [gi t i] := by
            rw [List.take_take, List.take_take, show min 8 (i + 1) = i + 1 by omega, show min 8 i = i by omega, take_gi hi']
          rw [e, List.map_append]; exact hu'
      · have hd : decide ((i : Int) < 8) = false := decide_eq_false (by omega)
        simp (disch := (first | assumption | omega | (simp only [List.length_append, List.length_cons, List.length_nil]; omega))) only [↓wD,wU,Nat.reduceBEq,zx150,zx151,zx159,zx160,zx161,zx162,Nat.reduceAdd,Nat.reduceSub,Nat.reduceMul,Nat.reduceLeDiff,Nat.reduceLT,Nat.reduceEqDiff,Int.reduceAdd,Int.reduceSub,Int.reduceMul,Int.reduceNeg,Int.reduceLT,Int.reduceLE,Int.reduceEq,Int.reduceToNat,Int.cast_ofNat_Int,↓reduceIte, h6, h7, h8, h3, ht1.L, hd]
        refine (ih hi').go ⟨u, ?_⟩
        simp (disch := (first | assumption | omega | (simp only [List.length_append, List.length_cons, List.length_nil]; omega))) only [↓wD,wU,Nat.reduceBEq,zx150,zx151,zx159,zx160,zx161,zx162,Nat.reduceAdd,Nat.reduceSub,Nat.reduceMul,Nat.reduceLeDiff,Nat.reduceLT,Nat.reduceEqDiff,Int.reduceAdd,Int.reduceSub,Int.reduceMul,Int.reduceNeg,Int.reduceLT,Int.reduceLE,Int.reduceEq,Int.reduceToNat,Int.cast_ofNat_Int,↓reduceIte, h6, h7, h8, h3]
        have e : ((t.take (i + 1)).take 8) = (t.take i).take 8 := by
          rw [List.take_take, List.take_take]; congr 1; omega
        rw [e]; exact ⟨hg, hu⟩
    · have e : i = t.length := by omega
      subst e
      simp (disch := (first | assumption | omega | (simp only [List.length_append, List.length_cons, List.length_nil]; omega))) only [↓wD,wU,Nat.reduceBEq,zx150,zx151,zx159,zx160,zx161,zx162,Nat.reduceAdd,Nat.reduceSub,Nat.reduceMul,Nat.reduceLeDiff,Nat.reduceLT,Nat.reduceEqDiff,Int.reduceAdd,Int.reduceSub,Int.reduceMul,Int.reduceNeg,Int.reduceLT,Int.reduceLE,Int.reduceEq,Int.reduceToNat,Int.cast_ofNat_Int,↓reduceIte, h6, h7, h8, h3]
      rw [List.take_length] at hu
      exact hu.sl.weak fun b h => .inr (by omega)
  · simp (disch := (first | assumption | omega | (simp only [List.length_append, List.length_cons, List.length_nil]; omega))) only [↓wD,wU,Nat.reduceBEq,zx150,zx151,zx159,zx160,zx161,zx162,Nat.reduceAdd,Nat.reduceSub,Nat.reduceMul,Nat.reduceLeDiff,Nat.reduceLT,Nat.reduceEqDiff,Int.reduceAdd,Int.reduceSub,Int.reduceMul,Int.reduceNeg,Int.reduceLT,Int.reduceLE,Int.reduceEq,Int.reduceToNat,Int.cast_ofNat_Int,↓reduceIte]
    exact ⟨.nils, rfl, Gr.refl _, Acc.nil⟩
theorem of_ret {p q : Nat → Prop} {H : Heap} {u w : AV} {x y : List (List Int)} (hx : Sl p H u x) (hy : Sl q H w y) : Ret E 37 [.ag [u, w]] (fun _ => False) H (cutT x, cutT y) := by
  refine Ret.ro rfl fn37 rfl ?_
  unfold f37A
  have vu := hx.cellsV
  have vw := hy.cellsV
  have c0 : (H ++ [Blk.cells [u, w]] ++ [Blk.cells [.nils, .nils]])[H.length]? = some (.cells [u, w]) := by simp [List.getElem?_append]
  have c1 : (H ++ [Blk.cells [u, w]] ++ [Blk.cells [.nils, .nils]])[H.length + 1]? = some (.cells [.nils, .nils]) := by simp [List.getElem?_append]
  have hx2 := (hx.app [Blk.cells [u, w]]).app [Blk.cells [.nils, .nils]]
  have hy2 := (hy.app [Blk.cells [u, w]]).app [Blk.cells [.nils, .nils]]
  have hn : (H ++ [Blk.cells [u, w]] ++ [Blk.cells [.nils, .nils]]).length = H.length + 2 := by simp
  simp (disch := (first | assumption | omega | (simp only [List.length_append, List.length_cons, List.length_nil]; omega))) only [↓wD,wU,Nat.reduceBEq,zx150,zx151,zx159,zx160,zx161,zx162,Nat.reduceAdd,Nat.reduceSub,Nat.reduceMul,Nat.reduceLeDiff,Nat.reduceLT,Nat.reduceEqDiff,Int.reduceAdd,Int.reduceSub,Int.reduceMul,Int.reduceNeg,Int.reduceLT,Int.reduceLE,Int.reduceEq,Int.reduceToNat,Int.cast_ofNat_Int,↓reduceIte, vu, vw, ld_of c0]
  generalize H ++ [Blk.cells [u, w]] ++ [Blk.cells [.nils, .nils]] = H2 at *
  refine (table_ret hx2).toFX fun r H3 x3 hr => ?_
  have c03 := x3.get trivial c0
  have c13 := x3.get trivial c1
  simp (disch := (first | assumption | omega | (simp only [List.length_append, List.length_cons, List.length_nil]; omega))) only [↓wD,wU,Nat.reduceBEq,zx150,zx151,zx159,zx160,zx161,zx162,Nat.reduceAdd,Nat.reduceSub,Nat.reduceMul,Nat.reduceLeDiff,Nat.reduceLT,Nat.reduceEqDiff,Int.reduceAdd,Int.reduceSub,Int.reduceMul,Int.reduceNeg,Int.reduceLT,Int.reduceLE,Int.reduceEq,Int.reduceToNat,Int.cast_ofNat_Int,↓reduceIte, ld_of c03]
  refine (table_ret (hy2.kp (x3.all _).kp)).toFX fun s H4 x4 hs => ?_
  have hl3 := x3.1
  have c14 := x4.get trivial c13
  have hr4 := hr.kp (x4.all _).kp
  have hst : st H.length H4 (H.length + 1) 0 [r, s] = some (H4.set (H.length + 1) (.cells [r, s])) := by rw [st_of c14 (by omega) (by simp)]; simp [wr]
  simp (disch := (first | assumption | omega | (simp only [List.length_append, List.length_cons, List.length_nil]; omega))) only [↓wD,wU,Nat.reduceBEq,zx150,zx151,zx159,zx160,zx161,zx162,Nat.reduceAdd,Nat.reduceSub,Nat.reduceMul,Nat.reduceLeDiff,Nat.reduceLT,Nat.reduceEqDiff,Int.reduceAdd,Int.reduceSub,Int.reduceMul,Int.reduceNeg,Int.reduceLT,Int.reduceLE,Int.reduceEq,Int.reduceToNat,Int.cast_ofNat_Int,↓reduceIte, hr.cellsV, hs.cellsV, hst, ldn_of (get_set c14)]
  refine rv_pp ?_ ?_
  · exact (hr4.kp ((Kp.set _ _ _).weak fun b h => by omega)).weak fun b h => .inr (by omega)
  · exact (hs.kp ((Kp.set _ _ _).weak fun b h => by omega)).weak fun b h => .inr (by omega)
/-! ### Valid -/
def PuzP (x y : List (List Int)) : Prop := SizeP x.length ∧ SizeP y.length ∧ (∀ c ∈ x, ClueP y.length c) ∧ ∀ c ∈ y, ClueP x.length c
instance (x y : List (List Int)) : Decidable (PuzP x y) := by unfold PuzP; infer_instance
theorem clue_len {n : Int} {c : List Int} (h : ClueP n c) : c.length ≤ 5 := by
  rcases Nat.lt_or_ge 5 c.length with q | q
  · have h1 := h.2
    unfold linesL at h1
    rw [linesTo_nil q] at h1
    simp at h1
  · exact q
theorem cutT_ok {x y : List (List Int)} (h : PuzP x y) : cutT x = x ∧ cutT y = y := by
  have go : ∀ {t : List (List Int)} {n : Int}, t.length ≤ 5 → (∀ c ∈ t, ClueP n c) → cutT t = t := fun {t n} hl hc => by
    unfold cutT
    rw [List.take_of_length_le (by omega)]
    conv => rhs; rw [← List.map_id t]
    apply List.map_congr_left
    intro r hr
    exact List.take_of_length_le (by have := clue_len (hc r hr); omega)
  exact ⟨go (by have := h.1.2; omega) h.2.2.1, go (by have := h.2.1.2; omega) h.2.2.2⟩
theorem cutT_len {t : List (List Int)} : (cutT t).length = min 8 t.length := by unfold cutT; simp
theorem PuzP_cut {x y : List (List Int)} : PuzP (cutT x) (cutT y) ↔ PuzP x y := by
  constructor
  · intro h
    have lx := h.1
    have ly := h.2.1
    rw [cutT_len] at lx ly
    have l1 := lx.1; have l2 := lx.2; have l3 := ly.1; have l4 := ly.2
    have ex : (cutT x).length = x.length := by rw [cutT_len]; omega
    have ey : (cutT y).length = y.length := by rw [cutT_len]; omega
    have go : ∀ {t : List (List Int)} {n : Int}, t.length ≤ 8 → (∀ c ∈ cutT t, ClueP n c) → ∀ c ∈ t, ClueP n c := fun {t n} hl hc c hm => by
      have : c.take 8 ∈ cutT t := by
        unfold cutT
        rw [List.take_of_length_le hl]
        exact List.mem_map_of_mem hm
      exact ClueP_cut.1 (hc _ this)
    refine ⟨by rw [← ex]; exact h.1, by rw [← ey]; exact h.2.1, ?_, ?_⟩
    · rw [← ey]; exact go (by omega) h.2.2.1
    · rw [← ex]; exact go (by omega) h.2.2.2
  · intro h
    obtain ⟨e1, e2⟩ := cutT_ok h
    rw [e1, e2]; exact h
theorem val1_ret {p : Nat → Prop} {H : Heap} {b : Nat} {n : Int} {u : AV} {c : List Int} (hb : H[b]? = some (.cells [.i n])) (hc : Sl p H u c) : RetP E 94 ([u] ++ [.p b 0]) H (.b (!decide (ClueP n c))) := by
  refine RetP.ro rfl fn94 rfl rfl ?_
  unfold f94A
  simp (disch := (first | assumption | omega | (simp only [List.length_append, List.length_cons, List.length_nil]; omega))) only [↓wD,wU,Nat.reduceBEq,zx150,zx151,zx159,zx160,zx161,zx162,Nat.reduceAdd,Nat.reduceSub,Nat.reduceMul,Nat.reduceLeDiff,Nat.reduceLT,Nat.reduceEqDiff,Int.reduceAdd,Int.reduceSub,Int.reduceMul,Int.reduceNeg,Int.reduceLT,Int.reduceLE,Int.reduceEq,Int.reduceToNat,Int.cast_ofNat_Int,↓reduceIte, ld_of hb, (isClue_ret hc).call]
theorem val2_ret {p : Nat → Prop} {H : Heap} {b : Nat} {n : Int} {u : AV} {c : List Int} (hb : H[b]? = some (.cells [.i n])) (hc : Sl p H u c) : RetP E 95 ([u] ++ [.p b 0]) H (.b (!decide (ClueP n c))) := by
  refine RetP.ro rfl fn95 rfl rfl ?_
  unfold f95A
  simp (disch := (first | assumption | omega | (simp only [List.length_append, List.length_cons, List.length_nil]; omega))) only [↓wD,wU,Nat.reduceBEq,zx150,zx151,zx159,zx160,zx161,zx162,Nat.reduceAdd,Nat.reduceSub,Nat.reduceMul,Nat.reduceLeDiff,Nat.reduceLT,Nat.reduceEqDiff,Int.reduceAdd,Int.reduceSub,Int.reduceMul,Int.reduceNeg,Int.reduceLT,Int.reduceLE,Int.reduceEq,Int.reduceToNat,Int.cast_ofNat_Int,↓reduceIte, ld_of hb, (isClue_ret hc).call]
theorem PuzP_dec {x y : List (List Int)} : decide (PuzP x y) = (decide (SizeP x.length) && (decide (SizeP y.length) && ((!x.any fun c => !decide (ClueP y.length c)) && (!y.any fun c => !decide (ClueP x.length c))))) := by
  have go : ∀ {t : List (List Int)} {n : Int}, (!t.any fun c => !decide (ClueP n c)) = true ↔ ∀ c ∈ t, ClueP n c := fun {t n} => by
    rw [Bool.not_eq_true', List.any_eq_false]
    constructor
    · intro h c hc; have := h c hc; simpa using this
    · intro h c hc; simp [h c hc]
  apply Bool.eq_iff_iff.2
  rw [Bool.and_eq_true, Bool.and_eq_true, Bool.and_eq_true, go, go]
  simp only [decide_eq_true_eq]
  exact Iff.rfl
theorem pvalid_ret {p q : Nat → Prop} {H : Heap} {u w : AV} {x y : List (List Int)} (hx : Sl p H u x) (hy : Sl q H w y) : RetP E 67 [.ag [u, w]] H (.b (decide (PuzP x y))) := by
  refine RetP.ro rfl fn67 rfl rfl ?_
  unfold f67A
  have vu := hx.cellsV
  have vw := hy.cellsV
  have lx := (hx.app [Blk.cells [u, w]]).L
  have ly := (hy.app [Blk.cells [u, w]]).L
  have c0 : (H ++ [Blk.cells [u, w]])[H.length]? = some (.cells [u, w]) := by simp
  rw [PuzP_dec]
  obtain ⟨H2, eH2⟩ : ∃ H2, H ++ [Blk.cells [u, w]] ++ [Blk.cells [.i (x.length : Int)]] ++ [Blk.cells [.i (y.length : Int)]] = H2 := ⟨_, rfl⟩
  have d0 : H2[H.length]? = some (.cells [u, w]) := by rw [← eH2]; simp [List.getElem?_append]
  have d1 : H2[H.length + 1]? = some (.cells [.i (x.length : Int)]) := by rw [← eH2]; simp [List.getElem?_append]
  have d2 : H2[H.length + 2]? = some (.cells [.i (y.length : Int)]) := by rw [← eH2]; simp [List.getElem?_append]
  have hx2 : Sl p H2 u x := by rw [← eH2]; exact ((hx.app _).app _).app _
  have hy2 : Sl q H2 w y := by rw [← eH2]; exact ((hy.app _).app _).app _
  have s1 : st H.length (H ++ [Blk.cells [u, w]] ++ [Blk.cells [.i 0]] ++ [Blk.cells [.i 0]]) (H.length + 1) 0 [.i (x.length : Int)] = some (H ++ [Blk.cells [u, w]] ++ [Blk.cells [.i (x.length : Int)]] ++ [Blk.cells [.i 0]]) := by
    rw [st_of (cs := [.i 0]) (by simp [List.getElem?_append]) (by omega) (by simp)]
    congr 1
    simp [wr, List.set_append]
  have s2 : st H.length (H ++ [Blk.cells [u, w]] ++ [Blk.cells [.i (x.length : Int)]] ++ [Blk.cells [.i 0]]) (H.length + 2) 0 [.i (y.length : Int)] = some H2 := by
    rw [st_of (cs := [.i 0]) (by simp [List.getElem?_append]) (by omega) (by simp), ← eH2]
    congr 1
    simp [wr, List.set_append]
  have z1 := isSize_ret (H := H2) (n := x.length)
  have z2 := isSize_ret (H := H2) (n := y.length)
  have h1 := hasL_ret (P := fun c => !decide (ClueP y.length c)) hx2 fun i hi => val1_ret (p := p) d2 (hx2.get (k := (i : Int)) (by omega) (by omega))
  have h2 := hasL_ret (P := fun c => !decide (ClueP x.length c)) hy2 fun i hi => val2_ret (p := q) d1 (hy2.get (k := (i : Int)) (by omega) (by omega))
  clear hx hy hx2 hy2
  generalize (x.any fun c => !decide (ClueP y.length c)) = b3 at *
  generalize (y.any fun c => !decide (ClueP x.length c)) = b4 at *
  generalize decide (SizeP x.length) = b1 at *
  generalize decide (SizeP y.length) = b2 at *
  simp (disch := (first | assumption | omega | (simp only [List.length_append, List.length_cons, List.length_nil]; omega))) only [↓wD,wU,Nat.reduceBEq,zx150,zx151,zx159,zx160,zx161,zx162,Nat.reduceAdd,Nat.reduceSub,Nat.reduceMul,Nat.reduceLeDiff,Nat.reduceLT,Nat.reduceEqDiff,Int.reduceAdd,Int.reduceSub,Int.reduceMul,Int.reduceNeg,Int.reduceLT,Int.reduceLE,Int.reduceEq,Int.reduceToNat,Int.cast_ofNat_Int,↓reduceIte, vu, vw]
  refine lpI (wpC ?_)
  simp (disch := (first | assumption | omega | (simp only [List.length_append, List.length_cons, List.length_nil]; omega))) only [↓wD,wU,Nat.reduceBEq,zx150,zx151,zx159,zx160,zx161,zx162,Nat.reduceAdd,Nat.reduceSub,Nat.reduceMul,Nat.reduceLeDiff,Nat.reduceLT,Nat.reduceEqDiff,Int.reduceAdd,Int.reduceSub,Int.reduceMul,Int.reduceNeg,Int.reduceLT,Int.reduceLE,Int.reduceEq,Int.reduceToNat,Int.cast_ofNat_Int,↓reduceIte, ld_of c0, lx, ly, s1, s2]
  refine chkI ?_ ?_
  · simp [chk1, ev, Fr.upd, sameO, ld, List.getElem?_append, AV.same_refl]
  · cases b1
    · simp (disch := (first | assumption | omega | (simp only [List.length_append, List.length_cons, List.length_nil]; omega))) only [↓wD,wU,Nat.reduceBEq,zx150,zx151,zx159,zx160,zx161,zx162,Nat.reduceAdd,Nat.reduceSub,Nat.reduceMul,Nat.reduceLeDiff,Nat.reduceLT,Nat.reduceEqDiff,Int.reduceAdd,Int.reduceSub,Int.reduceMul,Int.reduceNeg,Int.reduceLT,Int.reduceLE,Int.reduceEq,Int.reduceToNat,Int.cast_ofNat_Int,↓reduceIte, ld_of d1, z1.call]
    · cases b2
      · simp (disch := (first | assumption | omega | (simp only [List.length_append, List.length_cons, List.length_nil]; omega))) only [↓wD,wU,Nat.reduceBEq,zx150,zx151,zx159,zx160,zx161,zx162,Nat.reduceAdd,Nat.reduceSub,Nat.reduceMul,Nat.reduceLeDiff,Nat.reduceLT,Nat.reduceEqDiff,Int.reduceAdd,Int.reduceSub,Int.reduceMul,Int.reduceNeg,Int.reduceLT,Int.reduceLE,Int.reduceEq,Int.reduceToNat,Int.cast_ofNat_Int,↓reduceIte, ld_of d1, z1.call, ld_of d2, z2.call]
      · cases b3
        · simp (disch := (first | assumption | omega | (simp only [List.length_append, List.length_cons, List.length_nil]; omega))) only [↓wD,wU,Nat.reduceBEq,zx150,zx151,zx159,zx160,zx161,zx162,Nat.reduceAdd,Nat.reduceSub,Nat.reduceMul,Nat.reduceLeDiff,Nat.reduceLT,Nat.reduceEqDiff,Int.reduceAdd,Int.reduceSub,Int.reduceMul,Int.reduceNeg,Int.reduceLT,Int.reduceLE,Int.reduceEq,Int.reduceToNat,Int.cast_ofNat_Int,↓reduceIte, ld_of d1, z1.call, ld_of d2, z2.call, ld_of d0, h1.call, h2.call]
        · simp (disch := (first | assumption | omega | (simp only [List.length_append, List.length_cons, List.length_nil]; omega))) only [↓wD,wU,Nat.reduceBEq,zx150,zx151,zx159,zx160,zx161,zx162,Nat.reduceAdd,Nat.reduceSub,Nat.reduceMul,Nat.reduceLeDiff,Nat.reduceLT,Nat.reduceEqDiff,Int.reduceAdd,Int.reduceSub,Int.reduceMul,Int.reduceNeg,Int.reduceLT,Int.reduceLE,Int.reduceEq,Int.reduceToNat,Int.cast_ofNat_Int,↓reduceIte, ld_of d1, z1.call, ld_of d2, z2.call, ld_of d0, h1.call]
theorem rvalid_ret {p q : Nat → Prop} {H : Heap} {u w : AV} {x y : List (List Int)} (hx : Sl p H u x) (hy : Sl q H w y) : RetP E 38 [.ag [u, w]] H (.b (decide (PuzP x y))) := by
  refine RetP.ro rfl fn38 rfl rfl ?_
  unfold f38A
  have vu := hx.cellsV
  have vw := hy.cellsV
  have bx := hx.bound
  have bY := hy.bound
  have kx := hx.app [Blk.cells [u, w]]
  have ky := hy.app [Blk.cells [u, w]]
  have lx := kx.L
  have ly := ky.L
  have c0 : (H ++ [Blk.cells [u, w]])[H.length]? = some (.cells [u, w]) := by simp
  simp (disch := (first | assumption | omega | (simp only [List.length_append, List.length_cons, List.length_nil]; omega))) only [↓wD,wU,Nat.reduceBEq,zx150,zx151,zx159,zx160,zx161,zx162,Nat.reduceAdd,Nat.reduceSub,Nat.reduceMul,Nat.reduceLeDiff,Nat.reduceLT,Nat.reduceEqDiff,Int.reduceAdd,Int.reduceSub,Int.reduceMul,Int.reduceNeg,Int.reduceLT,Int.reduceLE,Int.reduceEq,Int.reduceToNat,Int.cast_ofNat_Int,↓reduceIte, vu, vw]
  generalize H ++ [Blk.cells [u, w]] = H2 at *
  have z1 := rsize_ret (H := H2) (n := x.length)
  have z2 := rsize_ret (H := H2) (n := y.length)
  by_cases h1 : SizeP x.length
  case neg =>
    rw [decide_eq_false h1] at z1
    have e : decide (PuzP x y) = false := decide_eq_false fun h => h1 h.1
    simp (disch := (first | assumption | omega | (simp only [List.length_append, List.length_cons, List.length_nil]; omega))) only [↓wD,wU,Nat.reduceBEq,zx150,zx151,zx159,zx160,zx161,zx162,Nat.reduceAdd,Nat.reduceSub,Nat.reduceMul,Nat.reduceLeDiff,Nat.reduceLT,Nat.reduceEqDiff,Int.reduceAdd,Int.reduceSub,Int.reduceMul,Int.reduceNeg,Int.reduceLT,Int.reduceLE,Int.reduceEq,Int.reduceToNat,Int.cast_ofNat_Int,↓reduceIte, vu, vw, ld_of c0, lx, ly, z1.call, e]
  rw [decide_eq_true h1] at z1
  by_cases h2 : SizeP y.length
  case neg =>
    rw [decide_eq_false h2] at z2
    have e : decide (PuzP x y) = false := decide_eq_false fun h => h2 h.2.1
    simp (disch := (first | assumption | omega | (simp only [List.length_append, List.length_cons, List.length_nil]; omega))) only [↓wD,wU,Nat.reduceBEq,zx150,zx151,zx159,zx160,zx161,zx162,Nat.reduceAdd,Nat.reduceSub,Nat.reduceMul,Nat.reduceLeDiff,Nat.reduceLT,Nat.reduceEqDiff,Int.reduceAdd,Int.reduceSub,Int.reduceMul,Int.reduceNeg,Int.reduceLT,Int.reduceLE,Int.reduceEq,Int.reduceToNat,Int.cast_ofNat_Int,↓reduceIte, vu, vw, ld_of c0, lx, ly, z1.call, z2.call, e]
  rw [decide_eq_true h2] at z2
  simp (disch := (first | assumption | omega | (simp only [List.length_append, List.length_cons, List.length_nil]; omega))) only [↓wD,wU,Nat.reduceBEq,zx150,zx151,zx159,zx160,zx161,zx162,Nat.reduceAdd,Nat.reduceSub,Nat.reduceMul,Nat.reduceLeDiff,Nat.reduceLT,Nat.reduceEqDiff,Int.reduceAdd,Int.reduceSub,Int.reduceMul,Int.reduceNeg,Int.reduceLT,Int.reduceLE,Int.reduceEq,Int.reduceToNat,Int.cast_ofNat_Int,↓reduceIte, vu, vw, ld_of c0, lx, ly, z1.call, z2.call]
  refine Wp.for x.length (fun i a H' => H' = H2 ∧ a 1 = .p H.length 0 ∧ a 20 = u ∧ a 21 = .i x.length ∧ a 22 = .i i ∧ ∀ c ∈ x.take i, ClueP y.length c) ?_ ?_
  · rintro i a H' hi ⟨rfl, a1, a20, a21, a22, hh⟩ ih
    simp (disch := (first | assumption | omega | (simp only [List.length_append, List.length_cons, List.length_nil]; omega))) only [↓wD,wU,Nat.reduceBEq,zx150,zx151,zx159,zx160,zx161,zx162,Nat.reduceAdd,Nat.reduceSub,Nat.reduceMul,Nat.reduceLeDiff,Nat.reduceLT,Nat.reduceEqDiff,Int.reduceAdd,Int.reduceSub,Int.reduceMul,Int.reduceNeg,Int.reduceLT,Int.reduceLE,Int.reduceEq,Int.reduceToNat,Int.cast_ofNat_Int,↓reduceIte, a1, a20, a21, a22]
    refine condP_split (fun hlt => ?_) (fun hlt => ?_)
    · have hi' : i < x.length := by omega
      have g := kx.get (k := (i : Int)) (by omega) (by omega)
      have rc := rclue_ret (n := y.length) g
      by_cases h : ClueP y.length (gi x (i : Int))
      · rw [decide_eq_true h] at rc
        have hh2 := mem_take_gi hh hi' h
        simp (disch := (first | assumption | omega | (simp only [List.length_append, List.length_cons, List.length_nil]; omega))) only [↓wD,wU,Nat.reduceBEq,zx150,zx151,zx159,zx160,zx161,zx162,Nat.reduceAdd,Nat.reduceSub,Nat.reduceMul,Nat.reduceLeDiff,Nat.reduceLT,Nat.reduceEqDiff,Int.reduceAdd,Int.reduceSub,Int.reduceMul,Int.reduceNeg,Int.reduceLT,Int.reduceLE,Int.reduceEq,Int.reduceToNat,Int.cast_ofNat_Int,↓reduceIte, a1, a20, a21, a22, lx, ld_of c0, ly, rc.call]
        refine (ih hi').go ⟨rfl, ?_⟩
        simp (disch := (first | assumption | omega | (simp only [List.length_append, List.length_cons, List.length_nil]; omega))) only [↓wD,wU,Nat.reduceBEq,zx150,zx151,zx159,zx160,zx161,zx162,Nat.reduceAdd,Nat.reduceSub,Nat.reduceMul,Nat.reduceLeDiff,Nat.reduceLT,Nat.reduceEqDiff,Int.reduceAdd,Int.reduceSub,Int.reduceMul,Int.reduceNeg,Int.reduceLT,Int.reduceLE,Int.reduceEq,Int.reduceToNat,Int.cast_ofNat_Int,↓reduceIte, a1, a20, a21, a22]
        exact hh2
      · rw [decide_eq_false h] at rc
        have e : decide (PuzP x y) = false := decide_eq_false fun q => h (q.2.2.1 _ (mem_gi hi'))
        simp (disch := (first | assumption | omega | (simp only [List.length_append, List.length_cons, List.length_nil]; omega))) only [↓wD,wU,Nat.reduceBEq,zx150,zx151,zx159,zx160,zx161,zx162,Nat.reduceAdd,Nat.reduceSub,Nat.reduceMul,Nat.reduceLeDiff,Nat.reduceLT,Nat.reduceEqDiff,Int.reduceAdd,Int.reduceSub,Int.reduceMul,Int.reduceNeg,Int.reduceLT,Int.reduceLE,Int.reduceEq,Int.reduceToNat,Int.cast_ofNat_Int,↓reduceIte, a1, a20, a21, a22, lx, ld_of c0, ly, rc.call, e]
    · have hall := mem_take_all hh (by omega)
      clear hh ih
      simp (disch := (first | assumption | omega | (simp only [List.length_append, List.length_cons, List.length_nil]; omega))) only [↓wD,wU,Nat.reduceBEq,zx150,zx151,zx159,zx160,zx161,zx162,Nat.reduceAdd,Nat.reduceSub,Nat.reduceMul,Nat.reduceLeDiff,Nat.reduceLT,Nat.reduceEqDiff,Int.reduceAdd,Int.reduceSub,Int.reduceMul,Int.reduceNeg,Int.reduceLT,Int.reduceLE,Int.reduceEq,Int.reduceToNat,Int.cast_ofNat_Int,↓reduceIte, a1, a20, a21, a22, ld_of c0, ly]
      refine Wp.for y.length (fun i a Hh => Hh = H' ∧ a 1 = .p H.length 0 ∧ a 34 = w ∧ a 35 = .i y.length ∧ a 36 = .i i ∧ ∀ c ∈ y.take i, ClueP x.length c) ?_ ?_
      · clear a1 a20 a21 a22
        rintro i a Hh hi ⟨rfl, a1, a34, a35, a36, hh⟩ ih
        simp (disch := (first | assumption | omega | (simp only [List.length_append, List.length_cons, List.length_nil]; omega))) only [↓wD,wU,Nat.reduceBEq,zx150,zx151,zx159,zx160,zx161,zx162,Nat.reduceAdd,Nat.reduceSub,Nat.reduceMul,Nat.reduceLeDiff,Nat.reduceLT,Nat.reduceEqDiff,Int.reduceAdd,Int.reduceSub,Int.reduceMul,Int.reduceNeg,Int.reduceLT,Int.reduceLE,Int.reduceEq,Int.reduceToNat,Int.cast_ofNat_Int,↓reduceIte, a1, a34, a35, a36]
        refine condP_split (fun hlt => ?_) (fun hlt => ?_)
        · have hi' : i < y.length := by omega
          have g := ky.get (k := (i : Int)) (by omega) (by omega)
          have rc := rclue_ret (n := x.length) g
          by_cases h : ClueP x.length (gi y (i : Int))
          · rw [decide_eq_true h] at rc
            have hh2 := mem_take_gi hh hi' h
            simp (disch := (first | assumption | omega | (simp only [List.length_append, List.length_cons, List.length_nil]; omega))) only [↓wD,wU,Nat.reduceBEq,zx150,zx151,zx159,zx160,zx161,zx162,Nat.reduceAdd,Nat.reduceSub,Nat.reduceMul,Nat.reduceLeDiff,Nat.reduceLT,Nat.reduceEqDiff,Int.reduceAdd,Int.reduceSub,Int.reduceMul,Int.reduceNeg,Int.reduceLT,Int.reduceLE,Int.reduceEq,Int.reduceToNat,Int.cast_ofNat_Int,↓reduceIte, a1, a34, a35, a36, lx, ld_of c0, ly, rc.call]
            refine (ih hi').go ⟨rfl, ?_⟩
            simp (disch := (first | assumption | omega | (simp only [List.length_append, List.length_cons, List.length_nil]; omega))) only [↓wD,wU,Nat.reduceBEq,zx150,zx151,zx159,zx160,zx161,zx162,Nat.reduceAdd,Nat.reduceSub,Nat.reduceMul,Nat.reduceLeDiff,Nat.reduceLT,Nat.reduceEqDiff,Int.reduceAdd,Int.reduceSub,Int.reduceMul,Int.reduceNeg,Int.reduceLT,Int.reduceLE,Int.reduceEq,Int.reduceToNat,Int.cast_ofNat_Int,↓reduceIte, a1, a34, a35, a36]
            exact hh2
          · rw [decide_eq_false h] at rc
            have e : decide (PuzP x y) = false := decide_eq_false fun q => h (q.2.2.2 _ (mem_gi hi'))
            simp (disch := (first | assumption | omega | (simp only [List.length_append, List.length_cons, List.length_nil]; omega))) only [↓wD,wU,Nat.reduceBEq,zx150,zx151,zx159,zx160,zx161,zx162,Nat.reduceAdd,Nat.reduceSub,Nat.reduceMul,Nat.reduceLeDiff,Nat.reduceLT,Nat.reduceEqDiff,Int.reduceAdd,Int.reduceSub,Int.reduceMul,Int.reduceNeg,Int.reduceLT,Int.reduceLE,Int.reduceEq,Int.reduceToNat,Int.cast_ofNat_Int,↓reduceIte, a1, a34, a35, a36, lx, ld_of c0, ly, rc.call, e]
        · have e : decide (PuzP x y) = true := decide_eq_true ⟨h1, h2, hall, mem_take_all hh (by omega)⟩
          simp (disch := (first | assumption | omega | (simp only [List.length_append, List.length_cons, List.length_nil]; omega))) only [↓wD,wU,Nat.reduceBEq,zx150,zx151,zx159,zx160,zx161,zx162,Nat.reduceAdd,Nat.reduceSub,Nat.reduceMul,Nat.reduceLeDiff,Nat.reduceLT,Nat.reduceEqDiff,Int.reduceAdd,Int.reduceSub,Int.reduceMul,Int.reduceNeg,Int.reduceLT,Int.reduceLE,Int.reduceEq,Int.reduceToNat,Int.cast_ofNat_Int,↓reduceIte, a1, a34, a35, a36, e]
      · (simp (disch := (first | assumption | omega | (simp only [List.length_append, List.length_cons, List.length_nil]; omega))) only [↓wD,wU,Nat.reduceBEq,zx150,zx151,zx159,zx160,zx161,zx162,Nat.reduceAdd,Nat.reduceSub,Nat.reduceMul,Nat.reduceLeDiff,Nat.reduceLT,Nat.reduceEqDiff,Int.reduceAdd,Int.reduceSub,Int.reduceMul,Int.reduceNeg,Int.reduceLT,Int.reduceLE,Int.reduceEq,Int.reduceToNat,Int.cast_ofNat_Int,↓reduceIte, a1, a20, a21, a22]) <;> simp
  · (simp (disch := (first | assumption | omega | (simp only [List.length_append, List.length_cons, List.length_nil]; omega))) only [↓wD,wU,Nat.reduceBEq,zx150,zx151,zx159,zx160,zx161,zx162,Nat.reduceAdd,Nat.reduceSub,Nat.reduceMul,Nat.reduceLeDiff,Nat.reduceLT,Nat.reduceEqDiff,Int.reduceAdd,Int.reduceSub,Int.reduceMul,Int.reduceNeg,Int.reduceLT,Int.reduceLE,Int.reduceEq,Int.reduceToNat,Int.cast_ofNat_Int,↓reduceIte]) <;> simp
end Go.Proofs.YtjjndoigkhabdaaDoor
namespace Go.Proofs.YtjjndoigkhabdaaDoor
open Go Go.AM Go.Proofs
theorem Acc_empty {α : Type} [Rep α] {L : Nat} {p q : Nat → Prop} {H : Heap} {v : AV} (h : Sl p H v ([] : List α)) (hp : ∀ b, p b → L ≤ b) : Acc L q H v ([] : List α) := by
  rcases h with h | ⟨b, o, c, k, e, hb, hk, h1, h2, h3⟩
  · exact .inl h
  · exact .inr ⟨b, o, c, k, e, hp _ hb, hk, h1, h2, fun i hi => by simp at hi⟩
theorem grow0_ret {H : Heap} {n : Int} (h0 : 0 ≤ n) (h1 : n ≤ 1000000) : Ret E 103 [.nils, .i n] (fun _ => False) H ([] : List Int) := by
  refine Ret.ro rfl fn103 rfl ?_
  unfold f103A
  have hc : zx162 .nils = some (.i 0) := rfl
  by_cases hn : 0 < n
  · have hmb : mostBytes = 1099511627776 := by decide
    have hs : slV 1 .nils none (some (.i 0)) none = some .nils := rfl
    have ha : appendzV H.length 1 8 [.int .i64 0] .nils (.i n) H = some (.s 1 H.length 0 n.toNat none, H ++ [.cells (reps n.toNat [.int .i64 0])]) := by
      simp only [appendzV]
      rw [if_pos ⟨h0, by omega, by rw [hmb]; omega, rfl⟩]
      simp only [appendA]
      rw [if_neg (by omega), if_pos (by rw [hmb]; omega)]
    have hs2 : slV 1 (.s 1 H.length 0 n.toNat none) none (some (.i 0)) none = some (.s 1 H.length 0 0 none) := by
      simp [slV, Go.AM.lenA, boundV, sliceA, show 0 ≤ max n 0 by omega]
    simp (disch := (first | assumption | omega | (simp only [List.length_append, List.length_cons, List.length_nil]; omega))) only [↓wD,wU,Nat.reduceBEq,zx150,zx151,zx159,zx160,zx161,zx162,Nat.reduceAdd,Nat.reduceSub,Nat.reduceMul,Nat.reduceLeDiff,Nat.reduceLT,Nat.reduceEqDiff,Int.reduceAdd,Int.reduceSub,Int.reduceMul,Int.reduceNeg,Int.reduceLT,Int.reduceLE,Int.reduceEq,Int.reduceToNat,Int.cast_ofNat_Int,↓reduceIte, *, hc, hs, Int.sub_zero, ha, hs2]
    exact .inr ⟨H.length, 0, none, reps n.toNat [.int .i64 0], rfl, by simp, by simp, by simp, by simp, fun i hi => by simp at hi⟩
  · simp (disch := (first | assumption | omega | (simp only [List.length_append, List.length_cons, List.length_nil]; omega))) only [↓wD,wU,Nat.reduceBEq,zx150,zx151,zx159,zx160,zx161,zx162,Nat.reduceAdd,Nat.reduceSub,Nat.reduceMul,Nat.reduceLeDiff,Nat.reduceLT,Nat.reduceEqDiff,Int.reduceAdd,Int.reduceSub,Int.reduceMul,Int.reduceNeg,Int.reduceLT,Int.reduceLE,Int.reduceEq,Int.reduceToNat,Int.cast_ofNat_Int,↓reduceIte, *, hc]
    exact Sl.nil
def lsum (ls : List (List Int)) : Nat := (ls.map List.length).sum
theorem lsum_take {ls : List (List Int)} {i : Nat} (h : i < ls.length) : lsum (ls.take (i + 1)) = lsum (ls.take i) + (gi ls i).length := by
  unfold lsum; rw [take_gi h]; simp [List.sum_append]
theorem lsum_le {ls : List (List Int)} {i : Nat} : lsum (ls.take i) ≤ lsum ls := by
  have e : lsum ls = lsum (ls.take i) + lsum (ls.drop i) := by
    conv => lhs; rw [← List.take_append_drop i ls]
    unfold lsum; rw [List.map_append, List.sum_append]
  omega
theorem len_flatten (ls : List (List Int)) : ls.flatten.length = lsum ls := by simp [lsum, List.length_flatten]
theorem concat_ret {p : Nat → Prop} {H : Heap} {v : AV} {ls : List (List Int)} (hl : Sl p H v ls) (hs : lsum ls ≤ 1000000) : Ret E 76 [v] (fun _ => False) H ls.flatten := by
  refine Ret.ro rfl fn76 rfl ?_
  unfold f76A
  have hb := hl.bound
  simp (disch := (first | assumption | omega | (simp only [List.length_append, List.length_cons, List.length_nil]; omega))) only [↓wD,wU,Nat.reduceBEq,zx150,zx151,zx159,zx160,zx161,zx162,Nat.reduceAdd,Nat.reduceSub,Nat.reduceMul,Nat.reduceLeDiff,Nat.reduceLT,Nat.reduceEqDiff,Int.reduceAdd,Int.reduceSub,Int.reduceMul,Int.reduceNeg,Int.reduceLT,Int.reduceLE,Int.reduceEq,Int.reduceToNat,Int.cast_ofNat_Int,↓reduceIte, *, hl.L]
  refine Wp.for ls.length (fun i a H' => H' = H ∧ a 0 = v ∧ a 9 = v ∧ a 10 = .i ls.length ∧ a 11 = .i i ∧ a 3 = .i (lsum (ls.take i))) ?_ ?_
  · rintro i a H' hi ⟨rfl, a0, a9, a10, a11, a3⟩ ih
    have hle := lsum_le (ls := ls) (i := i)
    simp (disch := (first | assumption | omega | (simp only [List.length_append, List.length_cons, List.length_nil]; omega))) only [↓wD,wU,Nat.reduceBEq,zx150,zx151,zx159,zx160,zx161,zx162,Nat.reduceAdd,Nat.reduceSub,Nat.reduceMul,Nat.reduceLeDiff,Nat.reduceLT,Nat.reduceEqDiff,Int.reduceAdd,Int.reduceSub,Int.reduceMul,Int.reduceNeg,Int.reduceLT,Int.reduceLE,Int.reduceEq,Int.reduceToNat,Int.cast_ofNat_Int,↓reduceIte, *]
    refine condP_split (fun hlt => ?_) (fun hlt => ?_)
    · have hi' : i < ls.length := by omega
      have g := hl.get (k := (i : Int)) (by omega) (by omega)
      have e := lsum_take hi'
      have hle2 := lsum_le (ls := ls) (i := i + 1)
      simp (disch := (first | assumption | omega | (simp only [List.length_append, List.length_cons, List.length_nil]; omega))) only [↓wD,wU,Nat.reduceBEq,zx150,zx151,zx159,zx160,zx161,zx162,Nat.reduceAdd,Nat.reduceSub,Nat.reduceMul,Nat.reduceLeDiff,Nat.reduceLT,Nat.reduceEqDiff,Int.reduceAdd,Int.reduceSub,Int.reduceMul,Int.reduceNeg,Int.reduceLT,Int.reduceLE,Int.reduceEq,Int.reduceToNat,Int.cast_ofNat_Int,↓reduceIte, *, hl.L, g.I]
      refine (ih hi').go ⟨rfl, ?_⟩
      simp (disch := (first | assumption | omega | (simp only [List.length_append, List.length_cons, List.length_nil]; omega))) only [↓wD,wU,Nat.reduceBEq,zx150,zx151,zx159,zx160,zx161,zx162,Nat.reduceAdd,Nat.reduceSub,Nat.reduceMul,Nat.reduceLeDiff,Nat.reduceLT,Nat.reduceEqDiff,Int.reduceAdd,Int.reduceSub,Int.reduceMul,Int.reduceNeg,Int.reduceLT,Int.reduceLE,Int.reduceEq,Int.reduceToNat,Int.cast_ofNat_Int,↓reduceIte, *]
    · obtain rfl : i = ls.length := by omega
      have e : ls.take ls.length = ls := List.take_length
      rw [e] at a3
      clear hlt hi ih
      simp (disch := (first | assumption | omega | (simp only [List.length_append, List.length_cons, List.length_nil]; omega))) only [↓wD,wU,Nat.reduceBEq,zx150,zx151,zx159,zx160,zx161,zx162,Nat.reduceAdd,Nat.reduceSub,Nat.reduceMul,Nat.reduceLeDiff,Nat.reduceLT,Nat.reduceEqDiff,Int.reduceAdd,Int.reduceSub,Int.reduceMul,Int.reduceNeg,Int.reduceLT,Int.reduceLE,Int.reduceEq,Int.reduceToNat,Int.cast_ofNat_Int,↓reduceIte, *]
      refine (grow0_ret (by omega) (by omega)).toF fun u H2 hg hu => ?_
      have hl2 := (hl.low.weak fun _ h => h.2).gr hg
      simp (disch := (first | assumption | omega | (simp only [List.length_append, List.length_cons, List.length_nil]; omega))) only [↓wD,wU,Nat.reduceBEq,zx150,zx151,zx159,zx160,zx161,zx162,Nat.reduceAdd,Nat.reduceSub,Nat.reduceMul,Nat.reduceLeDiff,Nat.reduceLT,Nat.reduceEqDiff,Int.reduceAdd,Int.reduceSub,Int.reduceMul,Int.reduceNeg,Int.reduceLT,Int.reduceLE,Int.reduceEq,Int.reduceToNat,Int.cast_ofNat_Int,↓reduceIte, *, hl.L, hl2.L]
      have ha0 : Acc H'.length (fun _ => True) H2 u ([] : List Int) := Acc_empty hu fun _ h => h
      refine Wp.for ls.length (fun i a H1 => ∃ u, a 6 = u ∧ a 25 = v ∧ a 26 = .i ls.length ∧ a 27 = .i i ∧ Gr H' H1 ∧ Acc H'.length (fun _ => True) H1 u (ls.take i).flatten) ?_ ?_
      · clear ha0 hu a0 a9 a10 a11 a3
        rintro i a H1 hi ⟨u, a6, a25, a26, a27, hg1, hu⟩ ih
        simp (disch := (first | assumption | omega | (simp only [List.length_append, List.length_cons, List.length_nil]; omega))) only [↓wD,wU,Nat.reduceBEq,zx150,zx151,zx159,zx160,zx161,zx162,Nat.reduceAdd,Nat.reduceSub,Nat.reduceMul,Nat.reduceLeDiff,Nat.reduceLT,Nat.reduceEqDiff,Int.reduceAdd,Int.reduceSub,Int.reduceMul,Int.reduceNeg,Int.reduceLT,Int.reduceLE,Int.reduceEq,Int.reduceToNat,Int.cast_ofNat_Int,↓reduceIte, *]
        refine condP_split (fun hlt => ?_) (fun hlt => ?_)
        · have hi' : i < ls.length := by omega
          have hl1 := (hl.low.weak fun _ h => h.2).gr hg1
          have g := hl1.get (k := (i : Int)) (by omega) (by omega)
          simp (disch := (first | assumption | omega | (simp only [List.length_append, List.length_cons, List.length_nil]; omega))) only [↓wD,wU,Nat.reduceBEq,zx150,zx151,zx159,zx160,zx161,zx162,Nat.reduceAdd,Nat.reduceSub,Nat.reduceMul,Nat.reduceLeDiff,Nat.reduceLT,Nat.reduceEqDiff,Int.reduceAdd,Int.reduceSub,Int.reduceMul,Int.reduceNeg,Int.reduceLT,Int.reduceLE,Int.reduceEq,Int.reduceToNat,Int.cast_ofNat_Int,↓reduceIte, *, hl1.L, g.I]
          refine hu.extend (Nat.le_refl _) (by have := hg1.1; omega) g (fun b hb => ⟨trivial, fun e => by have := hu.blk_lt e; omega⟩) ?_ (by omega) fun u' H3 hu' hk => ?_
          · have e := lsum_take hi'
            have hle2 := lsum_le (ls := ls) (i := i + 1)
            rw [len_flatten, ← e]; omega
          · simp (disch := (first | assumption | omega | (simp only [List.length_append, List.length_cons, List.length_nil]; omega))) only [↓wD,wU,Nat.reduceBEq,zx150,zx151,zx159,zx160,zx161,zx162,Nat.reduceAdd,Nat.reduceSub,Nat.reduceMul,Nat.reduceLeDiff,Nat.reduceLT,Nat.reduceEqDiff,Int.reduceAdd,Int.reduceSub,Int.reduceMul,Int.reduceNeg,Int.reduceLT,Int.reduceLE,Int.reduceEq,Int.reduceToNat,Int.cast_ofNat_Int,↓reduceIte, *]
            refine (ih hi').go ⟨u', ?_⟩
            simp (disch := (first | assumption | omega | (simp only [List.length_append, List.length_cons, List.length_nil]; omega))) only [↓wD,wU,Nat.reduceBEq,zx150,zx151,zx159,zx160,zx161,zx162,Nat.reduceAdd,Nat.reduceSub,Nat.reduceMul,Nat.reduceLeDiff,Nat.reduceLT,Nat.reduceEqDiff,Int.reduceAdd,Int.reduceSub,Int.reduceMul,Int.reduceNeg,Int.reduceLT,Int.reduceLE,Int.reduceEq,Int.reduceToNat,Int.cast_ofNat_Int,↓reduceIte, *]
            refine ⟨hg1.push hu (Nat.le_refl _) hk, ?_⟩
            rw [take_gi hi', List.flatten_append]
            simpa using hu'
        · obtain rfl : i = ls.length := by omega
          simp (disch := (first | assumption | omega | (simp only [List.length_append, List.length_cons, List.length_nil]; omega))) only [↓wD,wU,Nat.reduceBEq,zx150,zx151,zx159,zx160,zx161,zx162,Nat.reduceAdd,Nat.reduceSub,Nat.reduceMul,Nat.reduceLeDiff,Nat.reduceLT,Nat.reduceEqDiff,Int.reduceAdd,Int.reduceSub,Int.reduceMul,Int.reduceNeg,Int.reduceLT,Int.reduceLE,Int.reduceEq,Int.reduceToNat,Int.cast_ofNat_Int,↓reduceIte, *]
          rw [e] at hu
          rcases hu with h | ⟨b, o, c, k, e, hb, hk, h1, h2, h3⟩
          · exact .inl h
          · exact .inr ⟨b, o, c, k, e, .inr hb, hk, h1, h2, h3⟩
      · simp (disch := (first | assumption | omega | (simp only [List.length_append, List.length_cons, List.length_nil]; omega))) only [↓wD,wU,Nat.reduceBEq,zx150,zx151,zx159,zx160,zx161,zx162,Nat.reduceAdd,Nat.reduceSub,Nat.reduceMul,Nat.reduceLeDiff,Nat.reduceLT,Nat.reduceEqDiff,Int.reduceAdd,Int.reduceSub,Int.reduceMul,Int.reduceNeg,Int.reduceLT,Int.reduceLE,Int.reduceEq,Int.reduceToNat,Int.cast_ofNat_Int,↓reduceIte, *]
        exact ⟨u, rfl, by first | exact ha0 | exact ⟨hg, ha0⟩⟩
  · (simp (disch := (first | assumption | omega | (simp only [List.length_append, List.length_cons, List.length_nil]; omega))) only [↓wD,wU,Nat.reduceBEq,zx150,zx151,zx159,zx160,zx161,zx162,Nat.reduceAdd,Nat.reduceSub,Nat.reduceMul,Nat.reduceLeDiff,Nat.reduceLT,Nat.reduceEqDiff,Int.reduceAdd,Int.reduceSub,Int.reduceMul,Int.reduceNeg,Int.reduceLT,Int.reduceLE,Int.reduceEq,Int.reduceToNat,Int.cast_ofNat_Int,↓reduceIte, *]) <;> simp [lsum]
end Go.Proofs.YtjjndoigkhabdaaDoor
namespace Go.AM
open Go
/-- a row, and the value that stands for it -/
structure RW where
  v : AV
  xs : List Int
instance : Inhabited RW := ⟨⟨.nils, []⟩⟩
instance : Rep RW where
  sz := 1
  pos := Nat.one_pos
  rep p H cs r := cs = [r.v] ∧ Sl p H r.v r.xs
  len := by rintro p H cs x ⟨rfl, _⟩; rfl
  one := by rintro p H cs x ⟨rfl, h⟩; simp [h.one]
  mono := by rintro p q H H' cs x ⟨rfl, h⟩ hk hq; exact ⟨rfl, h.mono hk hq⟩
  pure := by rintro p q H H' cs x ⟨rfl, h⟩ hp; exact ⟨rfl, h.pure (by simpa [AV.pureAll] using hp)⟩
  low := by rintro p H cs x ⟨rfl, h⟩; exact ⟨rfl, h.low⟩
/-- in no block of the other one's -/
def Apart (a b : AV) : Prop := ∀ c, a.blk = some c → b.blk ≠ some c
/-- a table of the call's own, from L on; its rows apart -/
def TB (L : Nat) (H : Heap) (v : AV) (t : List (List Int)) : Prop :=
  ∃ rs : List RW, rs.map (·.xs) = t ∧ rs.Pairwise (fun a b => Apart a.v b.v) ∧ Acc L (fun b => L ≤ b) H v rs
section
variable {L lo : Nat} {p : Nat → Prop} {H H' : Heap} {v : AV} {t : List (List Int)}
theorem TB.nil : TB L H .nils [] := ⟨[], rfl, List.Pairwise.nil, Acc.nil⟩
theorem TB.accL (h : TB L H v t) : Acc L (fun b => L ≤ b) H v t := by
  obtain ⟨rs, rfl, _, h⟩ := h
  rcases h with ⟨rfl, rfl⟩ | ⟨b, o, c, k, rfl, hb, hk, h1, h2, h3⟩
  · exact .inl ⟨rfl, rfl⟩
  · refine .inr ⟨b, o, c, k, by rw [List.length_map]; rfl, hb, hk, by rw [List.length_map]; exact h1, by rwa [List.length_map], fun i hi => ?_⟩
    have hi' : i < rs.length := by simpa using hi
    obtain ⟨e, hs⟩ := h3 i hi'
    refine ⟨_, e, ?_⟩
    have e2 : (rs.map (·.xs))[i]'hi = rs[i].xs := by simp
    rw [e2]; exact hs
theorem TB.sl (h : TB L H v t) : Sl (fun b => L ≤ b) H v t := h.accL.sl.weak fun b h => h.elim id id
theorem TB.kp (h : TB L H v t) (hk : Kp (fun b => L ≤ b) H H') : TB L H' v t := by
  obtain ⟨rs, e, hn, h⟩ := h
  exact ⟨rs, e, hn, h.mono (hk.weak fun b hb => hb.elim id id) fun _ h => h⟩
theorem TB.gr (h : TB L H v t) (hg : Gr H H') : TB L H' v t := h.kp hg.all.weakT
theorem TB.blk_lt (h : TB L H v t) {b : Nat} (e : v.blk = some b) : L ≤ b ∧ b < H.length := h.accL.blk_lt e
theorem RW.lt {rs : List RW} (h : Acc L p H v rs) : ∀ r ∈ rs, ∀ c, r.v.blk = some c → c < H.length := by
  intro r hr c hc
  rcases h with ⟨rfl, rfl⟩ | ⟨b, o, c', k, rfl, hb, hk, h1, h2, h3⟩
  · cases hr
  · obtain ⟨i, hi, rfl⟩ := List.mem_iff_getElem.1 hr
    obtain ⟨_, h4⟩ := h3 i hi
    exact (h4.blkp hc).2
theorem TB.push {n : Nat} {y : AV} {x : List Int} {Q : AV × Heap → Prop} {H0 : Heap} (h : TB L H0 v t) (hg : Gr H0 H) (hlo : lo ≤ L) (hL : L ≤ H0.length) (hy : Sl (fun b => H0.length ≤ b) H y x) (hb : (t.length + 1) * 24 ≤ 1099511627776)
    (go : ∀ v' H', TB L H' v' (t ++ [x]) → Kp (fun b => v.blk ≠ some b) H H' → Q (v', H')) (hn : n = H.length := by first | rfl | simp) :
    @optP _ (appendV lo 1 24 v (.s 1 n 0 1 (some 1)) (H ++ [.cells [y]])) ⟨Q⟩ := by
  subst hn
  obtain ⟨rs, rfl, hn, ha⟩ := h
  have hrl := RW.lt ha
  refine Acc.push1 (α := RW) (q := fun b => H0.length ≤ b) (cs := [y]) (x := ⟨y, x⟩) (bytes := 24) (ha.gr hg) hlo (Nat.le_trans hL hg.1) ⟨rfl, hy⟩ (fun b hb => ⟨by omega, fun e => ?_⟩) (by simpa using hb) (by omega) fun v' H' h1 h2 _ _ => go v' H' ⟨rs ++ [⟨y, x⟩], by simp, ?_, h1⟩ h2
  · have := (ha.blk_lt e).2; omega
  · rw [List.pairwise_append]
    refine ⟨hn, List.pairwise_singleton _ _, ?_⟩
    intro a ha' b hb c hc e
    simp at hb
    subst hb
    have h1 := hrl a ha' c hc
    have h2 := (hy.blkp e).1
    omega
/-- row i, written in place -/
theorem TB.row (h : TB L H v t) {i : Nat} (hi : i < t.length) : ∃ y, v.get H (i : Int) = y ∧ ldA H none (v.at 1 (i : Int)) = some y ∧ Sl (fun b => L ≤ b) H y (gi t (i : Int)) ∧ (∀ b, v.blk = some b → y.blk ≠ some b) ∧
    ∀ H' x', Kx (fun b => y.blk ≠ some b) H H' → Sl (fun b => L ≤ b) H' y x' → TB L H' v (t.set i x') := by
  have g := h.sl.get (k := (i : Int)) (by omega) (by omega)
  have gl := (h.sl.ld_get (k := (i : Int)) (by omega) (by omega)).1
  refine ⟨_, rfl, gl, g, ?_, ?_⟩
  · intro b hb
    obtain ⟨rs, rfl, hn, ha⟩ := h
    rcases ha with ⟨rfl, rfl⟩ | ⟨b1, o, c, k, rfl, hb1, hk, h1, h2, h3⟩
    · simp at hi
    · have hi' : i < rs.length := by simpa using hi
      obtain ⟨e, h4⟩ := h3 i hi'
      change (k.drop (o + i * 1)).take 1 = _ at e
      have e2 := take1 e
      have eg : AV.get H (.s (Rep.sz RW) b1 o rs.length c) (i : Int) = rs[i].v := by
        change (ld H b1 (o + i * 1)).getD .un = _
        simp only [ld, hk, e2]; rfl
      rw [eg]
      cases hb
      intro q
      exact (h4.blkp q).1.2 rfl
  · intro H' x' hx hs
    obtain ⟨rs, rfl, hn, ha⟩ := h
    rcases ha with ⟨rfl, rfl⟩ | ⟨b1, o, c, k, rfl, hb1, hk, h1, h2, h3⟩
    · simp at hi
    · have hi' : i < rs.length := by simpa using hi
      obtain ⟨e, h4⟩ := h3 i hi'
      change (k.drop (o + i * 1)).take 1 = _ at e
      have e2 := take1 e
      have eg : AV.get H (.s (Rep.sz RW) b1 o rs.length c) (i : Int) = rs[i].v := by
        change (ld H b1 (o + i * 1)).getD .un = _
        simp only [ld, hk, e2]; rfl
      rw [eg] at hx hs
      have hne : ∀ q, rs[i].v.blk = some q → q ≠ b1 := fun q hq => (h4.blkp hq).1.2
      refine ⟨rs.set i ⟨rs[i].v, x'⟩, by simp [List.map_set], ?_, .inr ⟨b1, o, c, k, by rw [List.length_set], hb1, hx.get (fun q => hne _ q rfl) hk, by rw [List.length_set]; exact h1, by rw [List.length_set]; exact h2, fun j hj => ?_⟩⟩
      · rw [List.pairwise_iff_getElem] at hn ⊢
        intro a b ha hb hab
        have e1 : ∀ m (hm : m < (rs.set i ⟨rs[i].v, x'⟩).length), (rs.set i ⟨rs[i].v, x'⟩)[m].v = (rs[m]'(by simpa using hm)).v := by
          intro m hm
          simp only [List.getElem_set]
          split
          · rename_i q; subst q; rfl
          · rfl
        rw [e1 a ha, e1 b hb]
        exact hn a b _ _ hab
      · have hj' : j < rs.length := by simpa using hj
        by_cases q : i = j
        · subst q
          simp only [List.getElem_set_self]
          exact ⟨e, hs.own.weak (q := fun b => rs[i].v.blk = some b) (fun _ h => h) |>.weak fun b hb => ⟨(hs.blkp hb).1, hne b hb⟩⟩
        · rw [List.getElem_set_ne q]
          obtain ⟨ej, hj4⟩ := h3 j hj'
          refine ⟨ej, (hj4.own.kp (hx.weak (q := fun b => rs[j].v.blk = some b) fun b _ hb => ?_).kp).weak fun b hb => (hj4.blkp hb).1⟩
          rw [List.pairwise_iff_getElem] at hn
          rcases Nat.lt_or_gt_of_ne q with ql | ql
          · exact fun e => hn i j hi' hj' ql b e hb
          · exact fun e => hn j i hj' hi' ql b hb e
/-- a table of the call's own, as a result -/
structure TW where
  t : List (List Int)
instance : RV TW where
  rv p H v x := ∃ rs : List RW, rs.map (·.xs) = x.t ∧ rs.Pairwise (fun a b => Apart a.v b.v) ∧ ((v = .nils ∧ rs = []) ∨ ∃ b o c k, v = .s 1 b o rs.length c ∧ p b ∧ H[b]? = some (.cells k) ∧ o + rs.length ≤ k.length ∧ rs.length ≤ 9223372036854775807 ∧ ∀ (i : Nat) (h : i < rs.length), Rep.rep (fun b' => p b' ∧ b' ≠ b) H ((k.drop (o + i)).take 1) rs[i])
  mono := by
    rintro p q H H' v x ⟨rs, e, hn, h⟩ hk hq
    refine ⟨rs, e, hn, ?_⟩
    rcases h with h | ⟨b, o, c, k, rfl, hb, hk1, h1, h2, h3⟩
    · exact .inl h
    · exact .inr ⟨b, o, c, k, rfl, hq b hb, hk.2 b k hb hk1, h1, h2, fun i hi => Rep.mono (h3 i hi) (hk.weak fun _ h => h.1) fun b h => ⟨hq b h.1, h.2⟩⟩
  pure := by
    rintro p q H H' v x ⟨rs, e, hn, h⟩ hp
    rcases h with h | ⟨b, o, c, k, rfl, _⟩
    · exact ⟨rs, e, hn, .inl h⟩
    · simp [AV.pure] at hp
theorem TB.rv (h : TB L H v t) (hp : ∀ b, L ≤ b → p b) : RV.rv p H v (TW.mk t) := by
  obtain ⟨rs, e, hn, h⟩ := h
  refine ⟨rs, e, hn, ?_⟩
  rcases h with h | ⟨b, o, c, k, rfl, hb, hk1, h1, h2, h3⟩
  · exact .inl h
  · refine .inr ⟨b, o, c, k, rfl, hp b hb, hk1, by change o + rs.length * 1 ≤ _ at h1; simpa using h1, h2, fun i hi => ?_⟩
    have := h3 i hi
    change Rep.rep _ H ((k.drop (o + i * 1)).take 1) _ at this
    rw [Nat.mul_one] at this
    exact Rep.mono this (Kp.refl _ _) fun b h => ⟨hp b h.1, h.2⟩
theorem TB.of (h : RV.rv p H v (TW.mk t)) (hp : ∀ b, p b → L ≤ b) : TB L H v t := by
  obtain ⟨rs, e, hn, h⟩ := h
  refine ⟨rs, e, hn, ?_⟩
  rcases h with h | ⟨b, o, c, k, rfl, hb, hk1, h1, h2, h3⟩
  · exact .inl h
  · refine .inr ⟨b, o, c, k, rfl, hp b hb, hk1, by change o + rs.length * 1 ≤ _; simpa using h1, h2, fun i hi => ?_⟩
    change Rep.rep _ H ((k.drop (o + i * 1)).take 1) _
    rw [Nat.mul_one]
    exact Rep.mono (h3 i hi) (Kp.refl _ _) fun b h => ⟨hp b h.1, h.2⟩
end
/-- cells o to o + n, turned over, behind i swaps -/
def revC (k : List AV) (o n i : Nat) : List AV := (List.range k.length).map fun j => if (o ≤ j ∧ j < o + i) ∨ (o + n ≤ j + i ∧ j < o + n) then (k[o + (o + n - 1 - j)]?).getD .un else (k[j]?).getD .un
section
variable {k : List AV} {o n i j : Nat}
theorem revC_len : (revC k o n i).length = k.length := by simp [revC]
theorem revC_get (h : j < k.length) : (revC k o n i)[j]? = some (if (o ≤ j ∧ j < o + i) ∨ (o + n ≤ j + i ∧ j < o + n) then (k[o + (o + n - 1 - j)]?).getD .un else (k[j]?).getD .un) := by
  unfold revC
  rw [List.getElem?_map, List.getElem?_range h]; rfl
theorem revC_0 : revC k o n 0 = k := by
  apply List.ext_getElem? 
  intro j
  by_cases h : j < k.length
  · rw [revC_get h, if_neg (by omega), List.getElem?_eq_getElem h]; rfl
  · rw [List.getElem?_eq_none (by rw [revC_len]; omega), List.getElem?_eq_none (by omega)]
theorem revC_mid (h : o + n ≤ k.length) (h1 : i ≤ j) (h2 : j + i + 1 ≤ n) : (revC k o n i)[o + j]? = k[o + j]? := by
  rw [revC_get (by omega), if_neg (by omega), List.getElem?_eq_getElem (by omega)]; rfl
theorem revC_step {m : Nat} {x y : AV} (him : i < m) (hk : o + (i + 1 + m) ≤ k.length) (hx : k[o + i]? = some x) (hy : k[o + m]? = some y) : ((revC k o (i + 1 + m) i).set (o + i) y).set (o + m) x = revC k o (i + 1 + m) (i + 1) := by
  apply List.ext_getElem?
  intro j
  by_cases h : j < k.length
  · rw [List.getElem?_set, List.getElem?_set, revC_get h, revC_get h]
    simp only [List.length_set, revC_len]
    by_cases e1 : o + m = j
    · subst e1
      rw [if_pos rfl, if_pos h, if_pos (by omega), show o + (o + (i + 1 + m) - 1 - (o + m)) = o + i by omega, hx]; rfl
    · rw [if_neg e1]
      by_cases e2 : o + i = j
      · subst e2
        rw [if_pos rfl, if_pos h, if_pos (by omega), show o + (o + (i + 1 + m) - 1 - (o + i)) = o + m by omega, hy]; rfl
      · rw [if_neg e2]
        by_cases c : (o ≤ j ∧ j < o + i) ∨ (o + (i + 1 + m) ≤ j + i ∧ j < o + (i + 1 + m))
        · rw [if_pos c, if_pos (by omega)]
        · rw [if_neg c, if_neg (by omega)]
  · rw [List.getElem?_eq_none (by simp [revC_len]; omega), List.getElem?_eq_none (by rw [revC_len]; omega)]
theorem revC_end (h : o + n ≤ k.length) (h1 : n ≤ i + i + 1) (hj : j < n) : (revC k o n i)[o + j]? = k[o + (n - 1 - j)]? := by
  rw [revC_get (by omega)]
  by_cases c : (o ≤ o + j ∧ o + j < o + i) ∨ (o + n ≤ o + j + i ∧ o + j < o + n)
  · rw [if_pos c, show o + (o + n - 1 - (o + j)) = o + (n - 1 - j) by omega, List.getElem?_eq_getElem (by omega)]; rfl
  · rw [if_neg c, show o + j = o + (n - 1 - j) by omega, List.getElem?_eq_getElem (by omega)]; rfl
end
end Go.AM
namespace Go.Proofs.YtjjndoigkhabdaaDoor
open Go Go.AM Go.Proofs
theorem rev1_raw {lo b o n : Nat} {c : Option Nat} {k : List AV} {H : Heap} (hb : H[b]? = some (.cells k)) (hlo : lo ≤ b) (hk : o + n ≤ k.length) (hn : n ≤ 1000000) (h1 : ∀ j, j < n → ∃ x, k[o + j]? = some x ∧ x.cells = [x] ∧ x.one = true) :
    WpF E lo 79 [.s 1 b o n c] H fun _ H' => ∃ k', H' = H.set b (.cells k') ∧ k'.length = k.length ∧ ∀ j, j < n → k'[o + j]? = k[o + (n - 1 - j)]? := by
  refine WpF.wrt rfl fn79 rfl ?_
  unfold f79A
  have hn1 : (n : Int) ≤ 1000000 := by omega
  simp (disch := (first | assumption | omega | (simp only [List.length_append, List.length_cons, List.length_nil]; omega))) only [↓wD,wU,Nat.reduceBEq,zx150,zx151,zx159,zx160,zx161,zx162,Nat.reduceAdd,Nat.reduceSub,Nat.reduceMul,Nat.reduceLeDiff,Nat.reduceLT,Nat.reduceEqDiff,Int.reduceAdd,Int.reduceSub,Int.reduceMul,Int.reduceNeg,Int.reduceLT,Int.reduceLE,Int.reduceEq,Int.reduceToNat,Int.cast_ofNat_Int,↓reduceIte]
  refine Wp.for n (fun i a H' => a 0 = .s 1 b o n c ∧ a 2 = .i i ∧ a 3 = .i ((n : Int) - 1 - i) ∧ H' = H.set b (.cells (revC k o n i)) ∧ i + i ≤ n + 1) ?_ ?_
  · rintro i a H' hi ⟨a0, a2, a3, rfl, hii⟩ ih
    have gH := get_set (k := .cells (revC k o n i)) hb
    simp (disch := (first | assumption | omega | (simp only [List.length_append, List.length_cons, List.length_nil]; omega))) only [↓wD,wU,Nat.reduceBEq,zx150,zx151,zx159,zx160,zx161,zx162,Nat.reduceAdd,Nat.reduceSub,Nat.reduceMul,Nat.reduceLeDiff,Nat.reduceLT,Nat.reduceEqDiff,Int.reduceAdd,Int.reduceSub,Int.reduceMul,Int.reduceNeg,Int.reduceLT,Int.reduceLE,Int.reduceEq,Int.reduceToNat,Int.cast_ofNat_Int,↓reduceIte, a0, a2, a3]
    refine condP_split (fun hlt => ?_) (fun hlt => ?_)
    · obtain ⟨m, rfl⟩ : ∃ m, n = i + 1 + m := ⟨n - (i + 1), by omega⟩
      have em : ((i + 1 + m : Nat) : Int) - 1 - i = (m : Int) := by omega
      have him : i < m := by omega
      obtain ⟨x, x1, x2, x3⟩ := h1 i (by omega)
      obtain ⟨y, y1, y2, y3⟩ := h1 m (by omega)
      have r1 : (revC k o (i + 1 + m) i)[o + i]? = some x := by rw [revC_mid (by omega) (by omega) (by omega)]; exact x1
      have r2 : (revC k o (i + 1 + m) i)[o + m]? = some y := by rw [revC_mid (by omega) (by omega) (by omega)]; exact y1
      have i1 := zx178 (es := 1) (b := b) (o := o) (n := i + 1 + m) (c := c) (k := .i64) (i := (i : Int)) (by omega) (by omega)
      have i2 := zx178 (es := 1) (b := b) (o := o) (n := i + 1 + m) (c := c) (k := .i64) (i := (m : Int)) (by omega) (by omega)
      rw [Int.toNat_natCast, Nat.mul_one] at i1 i2
      rw [em] at a3
      have w1 : st lo (H.set b (.cells (revC k o (i + 1 + m) i))) b (o + i) [y] = some ((H.set b (.cells (revC k o (i + 1 + m) i))).set b (.cells ((revC k o (i + 1 + m) i).set (o + i) y))) := by
        rw [st_of gH hlo (by rw [revC_len]; simp; omega)]; simp [wr]
      have g2 := get_set (k := .cells ((revC k o (i + 1 + m) i).set (o + i) y)) gH
      have w2 : st lo ((H.set b (.cells (revC k o (i + 1 + m) i))).set b (.cells ((revC k o (i + 1 + m) i).set (o + i) y))) b (o + m) [x] = some (((H.set b (.cells (revC k o (i + 1 + m) i))).set b (.cells ((revC k o (i + 1 + m) i).set (o + i) y))).set b (.cells (((revC k o (i + 1 + m) i).set (o + i) y).set (o + m) x))) := by
        rw [st_of g2 hlo (by rw [List.length_set, revC_len]; simp; omega)]; simp [wr]
      have es : ((H.set b (.cells (revC k o (i + 1 + m) i))).set b (.cells ((revC k o (i + 1 + m) i).set (o + i) y))).set b (.cells (((revC k o (i + 1 + m) i).set (o + i) y).set (o + m) x)) = H.set b (.cells (revC k o (i + 1 + m) (i + 1))) := by
        rw [List.set_set, List.set_set, revC_step him (by omega) x1 y1]
      simp (disch := (first | assumption | omega | (simp only [List.length_append, List.length_cons, List.length_nil]; omega))) only [↓wD,wU,Nat.reduceBEq,zx150,zx151,zx159,zx160,zx161,zx162,Nat.reduceAdd,Nat.reduceSub,Nat.reduceMul,Nat.reduceLeDiff,Nat.reduceLT,Nat.reduceEqDiff,Int.reduceAdd,Int.reduceSub,Int.reduceMul,Int.reduceNeg,Int.reduceLT,Int.reduceLE,Int.reduceEq,Int.reduceToNat,Int.cast_ofNat_Int,↓reduceIte, a0, a2, a3, i1, i2, ld_of gH, r1, r2, x2, x3, y2, y3, w1, w2, es]
      refine (ih (by omega)).go ?_
      simp (disch := (first | assumption | omega | (simp only [List.length_append, List.length_cons, List.length_nil]; omega))) only [↓wD,wU,Nat.reduceBEq,zx150,zx151,zx159,zx160,zx161,zx162,Nat.reduceAdd,Nat.reduceSub,Nat.reduceMul,Nat.reduceLeDiff,Nat.reduceLT,Nat.reduceEqDiff,Int.reduceAdd,Int.reduceSub,Int.reduceMul,Int.reduceNeg,Int.reduceLT,Int.reduceLE,Int.reduceEq,Int.reduceToNat,Int.cast_ofNat_Int,↓reduceIte, a0, a2, a3]
      refine ⟨?_, by omega⟩
      congr 1; omega
    · simp (disch := (first | assumption | omega | (simp only [List.length_append, List.length_cons, List.length_nil]; omega))) only [↓wD,wU,Nat.reduceBEq,zx150,zx151,zx159,zx160,zx161,zx162,Nat.reduceAdd,Nat.reduceSub,Nat.reduceMul,Nat.reduceLeDiff,Nat.reduceLT,Nat.reduceEqDiff,Int.reduceAdd,Int.reduceSub,Int.reduceMul,Int.reduceNeg,Int.reduceLT,Int.reduceLE,Int.reduceEq,Int.reduceToNat,Int.cast_ofNat_Int,↓reduceIte, a0, a2, a3]
      exact ⟨_, rfl, revC_len, fun j hj => revC_end (by omega) (by omega) hj⟩
  · simp (disch := (first | assumption | omega | (simp only [List.length_append, List.length_cons, List.length_nil]; omega))) only [↓wD,wU,Nat.reduceBEq,zx150,zx151,zx159,zx160,zx161,zx162,Nat.reduceAdd,Nat.reduceSub,Nat.reduceMul,Nat.reduceLeDiff,Nat.reduceLT,Nat.reduceEqDiff,Int.reduceAdd,Int.reduceSub,Int.reduceMul,Int.reduceNeg,Int.reduceLT,Int.reduceLE,Int.reduceEq,Int.reduceToNat,Int.cast_ofNat_Int,↓reduceIte]
    refine ⟨by simp, ?_⟩
    rw [revC_0]
    exact (List.ext_getElem? fun j => by
      by_cases e : b = j
      · subst e; rw [hb, get_set hb]
      · rw [List.getElem?_set_ne e])
theorem rev2_raw {lo b o n : Nat} {c : Option Nat} {k : List AV} {H : Heap} (hb : H[b]? = some (.cells k)) (hlo : lo ≤ b) (hk : o + n ≤ k.length) (hn : n ≤ 1000000) (h1 : ∀ j, j < n → ∃ x, k[o + j]? = some x ∧ x.cells = [x] ∧ x.one = true) :
    WpF E lo 78 [.s 1 b o n c] H fun _ H' => ∃ k', H' = H.set b (.cells k') ∧ k'.length = k.length ∧ ∀ j, j < n → k'[o + j]? = k[o + (n - 1 - j)]? := by
  refine WpF.wrt rfl fn78 rfl ?_
  unfold f78A
  have hn1 : (n : Int) ≤ 1000000 := by omega
  simp (disch := (first | assumption | omega | (simp only [List.length_append, List.length_cons, List.length_nil]; omega))) only [↓wD,wU,Nat.reduceBEq,zx150,zx151,zx159,zx160,zx161,zx162,Nat.reduceAdd,Nat.reduceSub,Nat.reduceMul,Nat.reduceLeDiff,Nat.reduceLT,Nat.reduceEqDiff,Int.reduceAdd,Int.reduceSub,Int.reduceMul,Int.reduceNeg,Int.reduceLT,Int.reduceLE,Int.reduceEq,Int.reduceToNat,Int.cast_ofNat_Int,↓reduceIte]
  refine Wp.for n (fun i a H' => a 0 = .s 1 b o n c ∧ a 2 = .i i ∧ a 3 = .i ((n : Int) - 1 - i) ∧ H' = H.set b (.cells (revC k o n i)) ∧ i + i ≤ n + 1) ?_ ?_
  · rintro i a H' hi ⟨a0, a2, a3, rfl, hii⟩ ih
    have gH := get_set (k := .cells (revC k o n i)) hb
    simp (disch := (first | assumption | omega | (simp only [List.length_append, List.length_cons, List.length_nil]; omega))) only [↓wD,wU,Nat.reduceBEq,zx150,zx151,zx159,zx160,zx161,zx162,Nat.reduceAdd,Nat.reduceSub,Nat.reduceMul,Nat.reduceLeDiff,Nat.reduceLT,Nat.reduceEqDiff,Int.reduceAdd,Int.reduceSub,Int.reduceMul,Int.reduceNeg,Int.reduceLT,Int.reduceLE,Int.reduceEq,Int.reduceToNat,Int.cast_ofNat_Int,↓reduceIte, a0, a2, a3]
    refine condP_split (fun hlt => ?_) (fun hlt => ?_)
    · obtain ⟨m, rfl⟩ : ∃ m, n = i + 1 + m := ⟨n - (i + 1), by omega⟩
      have em : ((i + 1 + m : Nat) : Int) - 1 - i = (m : Int) := by omega
      have him : i < m := by omega
      obtain ⟨x, x1, x2, x3⟩ := h1 i (by omega)
      obtain ⟨y, y1, y2, y3⟩ := h1 m (by omega)
      have r1 : (revC k o (i + 1 + m) i)[o + i]? = some x := by rw [revC_mid (by omega) (by omega) (by omega)]; exact x1
      have r2 : (revC k o (i + 1 + m) i)[o + m]? = some y := by rw [revC_mid (by omega) (by omega) (by omega)]; exact y1
      have i1 := zx178 (es := 1) (b := b) (o := o) (n := i + 1 + m) (c := c) (k := .i64) (i := (i : Int)) (by omega) (by omega)
      have i2 := zx178 (es := 1) (b := b) (o := o) (n := i + 1 + m) (c := c) (k := .i64) (i := (m : Int)) (by omega) (by omega)
      rw [Int.toNat_natCast, Nat.mul_one] at i1 i2
      rw [em] at a3
      have w1 : st lo (H.set b (.cells (revC k o (i + 1 + m) i))) b (o + i) [y] = some ((H.set b (.cells (revC k o (i + 1 + m) i))).set b (.cells ((revC k o (i + 1 + m) i).set (o + i) y))) := by
        rw [st_of gH hlo (by rw [revC_len]; simp; omega)]; simp [wr]
      have g2 := get_set (k := .cells ((revC k o (i + 1 + m) i).set (o + i) y)) gH
      have w2 : st lo ((H.set b (.cells (revC k o (i + 1 + m) i))).set b (.cells ((revC k o (i + 1 + m) i).set (o + i) y))) b (o + m) [x] = some (((H.set b (.cells (revC k o (i + 1 + m) i))).set b (.cells ((revC k o (i + 1 + m) i).set (o + i) y))).set b (.cells (((revC k o (i + 1 + m) i).set (o + i) y).set (o + m) x))) := by
        rw [st_of g2 hlo (by rw [List.length_set, revC_len]; simp; omega)]; simp [wr]
      have es : ((H.set b (.cells (revC k o (i + 1 + m) i))).set b (.cells ((revC k o (i + 1 + m) i).set (o + i) y))).set b (.cells (((revC k o (i + 1 + m) i).set (o + i) y).set (o + m) x)) = H.set b (.cells (revC k o (i + 1 + m) (i + 1))) := by
        rw [List.set_set, List.set_set, revC_step him (by omega) x1 y1]
      simp (disch := (first | assumption | omega | (simp only [List.length_append, List.length_cons, List.length_nil]; omega))) only [↓wD,wU,Nat.reduceBEq,zx150,zx151,zx159,zx160,zx161,zx162,Nat.reduceAdd,Nat.reduceSub,Nat.reduceMul,Nat.reduceLeDiff,Nat.reduceLT,Nat.reduceEqDiff,Int.reduceAdd,Int.reduceSub,Int.reduceMul,Int.reduceNeg,Int.reduceLT,Int.reduceLE,Int.reduceEq,Int.reduceToNat,Int.cast_ofNat_Int,↓reduceIte, a0, a2, a3, i1, i2, ld_of gH, r1, r2, x2, x3, y2, y3, w1, w2, es]
      refine (ih (by omega)).go ?_
      simp (disch := (first | assumption | omega | (simp only [List.length_append, List.length_cons, List.length_nil]; omega))) only [↓wD,wU,Nat.reduceBEq,zx150,zx151,zx159,zx160,zx161,zx162,Nat.reduceAdd,Nat.reduceSub,Nat.reduceMul,Nat.reduceLeDiff,Nat.reduceLT,Nat.reduceEqDiff,Int.reduceAdd,Int.reduceSub,Int.reduceMul,Int.reduceNeg,Int.reduceLT,Int.reduceLE,Int.reduceEq,Int.reduceToNat,Int.cast_ofNat_Int,↓reduceIte, a0, a2, a3]
      refine ⟨?_, by omega⟩
      congr 1; omega
    · simp (disch := (first | assumption | omega | (simp only [List.length_append, List.length_cons, List.length_nil]; omega))) only [↓wD,wU,Nat.reduceBEq,zx150,zx151,zx159,zx160,zx161,zx162,Nat.reduceAdd,Nat.reduceSub,Nat.reduceMul,Nat.reduceLeDiff,Nat.reduceLT,Nat.reduceEqDiff,Int.reduceAdd,Int.reduceSub,Int.reduceMul,Int.reduceNeg,Int.reduceLT,Int.reduceLE,Int.reduceEq,Int.reduceToNat,Int.cast_ofNat_Int,↓reduceIte, a0, a2, a3]
      exact ⟨_, rfl, revC_len, fun j hj => revC_end (by omega) (by omega) hj⟩
  · simp (disch := (first | assumption | omega | (simp only [List.length_append, List.length_cons, List.length_nil]; omega))) only [↓wD,wU,Nat.reduceBEq,zx150,zx151,zx159,zx160,zx161,zx162,Nat.reduceAdd,Nat.reduceSub,Nat.reduceMul,Nat.reduceLeDiff,Nat.reduceLT,Nat.reduceEqDiff,Int.reduceAdd,Int.reduceSub,Int.reduceMul,Int.reduceNeg,Int.reduceLT,Int.reduceLE,Int.reduceEq,Int.reduceToNat,Int.cast_ofNat_Int,↓reduceIte]
    refine ⟨by simp, ?_⟩
    rw [revC_0]
    exact (List.ext_getElem? fun j => by
      by_cases e : b = j
      · subst e; rw [hb, get_set hb]
      · rw [List.getElem?_set_ne e])
theorem rev1_nil {lo : Nat} {H : Heap} : WpF E lo 79 [.nils] H fun _ H' => H' = H := by
  refine WpF.wrt rfl fn79 rfl ?_
  unfold f79A
  simp (disch := (first | assumption | omega | (simp only [List.length_append, List.length_cons, List.length_nil]; omega))) only [↓wD,wU,Nat.reduceBEq,zx150,zx151,zx159,zx160,zx161,zx162,Nat.reduceAdd,Nat.reduceSub,Nat.reduceMul,Nat.reduceLeDiff,Nat.reduceLT,Nat.reduceEqDiff,Int.reduceAdd,Int.reduceSub,Int.reduceMul,Int.reduceNeg,Int.reduceLT,Int.reduceLE,Int.reduceEq,Int.reduceToNat,Int.cast_ofNat_Int,↓reduceIte]
  refine Wp.for 0 (fun i a H' => a 2 = .i 0 ∧ a 3 = .i (-1) ∧ H' = H) ?_ ?_
  · rintro i a H' hi ⟨a2, a3, rfl⟩ ih
    simp (disch := (first | assumption | omega | (simp only [List.length_append, List.length_cons, List.length_nil]; omega))) only [↓wD,wU,Nat.reduceBEq,zx150,zx151,zx159,zx160,zx161,zx162,Nat.reduceAdd,Nat.reduceSub,Nat.reduceMul,Nat.reduceLeDiff,Nat.reduceLT,Nat.reduceEqDiff,Int.reduceAdd,Int.reduceSub,Int.reduceMul,Int.reduceNeg,Int.reduceLT,Int.reduceLE,Int.reduceEq,Int.reduceToNat,Int.cast_ofNat_Int,↓reduceIte, a2, a3]
  · simp (disch := (first | assumption | omega | (simp only [List.length_append, List.length_cons, List.length_nil]; omega))) only [↓wD,wU,Nat.reduceBEq,zx150,zx151,zx159,zx160,zx161,zx162,Nat.reduceAdd,Nat.reduceSub,Nat.reduceMul,Nat.reduceLeDiff,Nat.reduceLT,Nat.reduceEqDiff,Int.reduceAdd,Int.reduceSub,Int.reduceMul,Int.reduceNeg,Int.reduceLT,Int.reduceLE,Int.reduceEq,Int.reduceToNat,Int.cast_ofNat_Int,↓reduceIte]
theorem rev2_nil {lo : Nat} {H : Heap} : WpF E lo 78 [.nils] H fun _ H' => H' = H := by
  refine WpF.wrt rfl fn78 rfl ?_
  unfold f78A
  simp (disch := (first | assumption | omega | (simp only [List.length_append, List.length_cons, List.length_nil]; omega))) only [↓wD,wU,Nat.reduceBEq,zx150,zx151,zx159,zx160,zx161,zx162,Nat.reduceAdd,Nat.reduceSub,Nat.reduceMul,Nat.reduceLeDiff,Nat.reduceLT,Nat.reduceEqDiff,Int.reduceAdd,Int.reduceSub,Int.reduceMul,Int.reduceNeg,Int.reduceLT,Int.reduceLE,Int.reduceEq,Int.reduceToNat,Int.cast_ofNat_Int,↓reduceIte]
  refine Wp.for 0 (fun i a H' => a 2 = .i 0 ∧ a 3 = .i (-1) ∧ H' = H) ?_ ?_
  · rintro i a H' hi ⟨a2, a3, rfl⟩ ih
    simp (disch := (first | assumption | omega | (simp only [List.length_append, List.length_cons, List.length_nil]; omega))) only [↓wD,wU,Nat.reduceBEq,zx150,zx151,zx159,zx160,zx161,zx162,Nat.reduceAdd,Nat.reduceSub,Nat.reduceMul,Nat.reduceLeDiff,Nat.reduceLT,Nat.reduceEqDiff,Int.reduceAdd,Int.reduceSub,Int.reduceMul,Int.reduceNeg,Int.reduceLT,Int.reduceLE,Int.reduceEq,Int.reduceToNat,Int.cast_ofNat_Int,↓reduceIte, a2, a3]
  · simp (disch := (first | assumption | omega | (simp only [List.length_append, List.length_cons, List.length_nil]; omega))) only [↓wD,wU,Nat.reduceBEq,zx150,zx151,zx159,zx160,zx161,zx162,Nat.reduceAdd,Nat.reduceSub,Nat.reduceMul,Nat.reduceLeDiff,Nat.reduceLT,Nat.reduceEqDiff,Int.reduceAdd,Int.reduceSub,Int.reduceMul,Int.reduceNeg,Int.reduceLT,Int.reduceLE,Int.reduceEq,Int.reduceToNat,Int.cast_ofNat_Int,↓reduceIte]
/-- a slice of one-cell elements, turned over in place -/
theorem acc_rev {α : Type} [Rep α] (hsz : Rep.sz α = 1) {L lo f : Nat} {p : Nat → Prop} {H : Heap} {v : AV} {xs : List α} (h : Acc L p H v xs) (hlo : lo ≤ L) (hl : xs.length ≤ 1000000) {Q : AV → Heap → Prop}
    (hnil : v = .nils → WpF E lo f [.nils] H fun _ H' => H' = H)
    (hf : ∀ {b o n : Nat} {c : Option Nat} {k : List AV} {H : Heap}, H[b]? = some (.cells k) → lo ≤ b → o + n ≤ k.length → n ≤ 1000000 → (∀ j, j < n → ∃ x, k[o + j]? = some x ∧ x.cells = [x] ∧ x.one = true) →
      WpF E lo f [.s 1 b o n c] H fun _ H' => ∃ k', H' = H.set b (.cells k') ∧ k'.length = k.length ∧ ∀ j, j < n → k'[o + j]? = k[o + (n - 1 - j)]?)
    (go : ∀ w H', Kx (fun b => v.blk ≠ some b) H H' → Acc L p H' v xs.reverse → H'.length = H.length → Q w H') : WpF E lo f [v] H Q := by
  rcases h with ⟨rfl, rfl⟩ | ⟨b, o, c, k, rfl, hb, hk, h1, h2, h3⟩
  · exact (hnil rfl).mono fun w H' e => by subst e; exact go w _ (Kx.refl _ _) Acc.nil rfl
  · rw [hsz] at h1 h3
    rw [Nat.mul_one] at h1
    have hcell : ∀ j (hj : j < xs.length), ∃ x, k[o + j]? = some x ∧ Rep.rep (fun b' => p b' ∧ b' ≠ b) H [x] xs[j] := fun j hj => by
      have := h3 j hj
      rw [Nat.mul_one] at this
      have hlen := Rep.len this
      rw [hsz] at hlen
      obtain ⟨x, hx⟩ : ∃ x, (k.drop (o + j)).take 1 = [x] := by
        match h : (k.drop (o + j)).take 1, hlen with
        | [x], _ => exact ⟨x, rfl⟩
      rw [hx] at this
      exact ⟨x, take1 hx, this⟩
    have hone : ∀ j, j < xs.length → ∃ x, k[o + j]? = some x ∧ x.cells = [x] ∧ x.one = true := fun j hj => by
      obtain ⟨x, e, hr⟩ := hcell j hj
      have h1 := Rep.one hr
      simp only [List.all_cons, List.all_nil, Bool.and_true] at h1
      exact ⟨x, e, (by cases x <;> first | rfl | (cases h1; done)), h1⟩
    have := hf (c := c) hk (by omega) h1 hl hone
    have hsv : AV.s (Rep.sz α) b o xs.length c = .s 1 b o xs.length c := by rw [hsz]
    rw [hsv] at go ⊢
    refine this.mono ?_
    rintro w H' ⟨k', rfl, hk', hj⟩
    refine go w _ ((Kx.set b H _).weak fun b' _ h e => h (by simp [AV.blk, e])) (.inr ⟨b, o, c, k', by rw [hsz, List.length_reverse], hb, get_set hk, by rw [List.length_reverse, hsz]; omega, by rwa [List.length_reverse], fun i hi => ?_⟩) (by simp)
    have hi' : i < xs.length := by simpa using hi
    obtain ⟨x, e, hr⟩ := hcell (xs.length - 1 - i) (by omega)
    have e2 := hj i hi'
    rw [e] at e2
    have e3 : (k'.drop (o + i * 1)).take 1 = [x] := by rw [Nat.mul_one, List.take_one, List.head?_drop, e2]; rfl
    rw [hsz, e3, List.getElem_reverse]
    exact Rep.mono hr ((Kp.set b H _).weak fun b' h => h.2) fun _ h => h
end Go.Proofs.YtjjndoigkhabdaaDoor
namespace Go.Proofs.YtjjndoigkhabdaaDoor
open Go Go.AM Go.Proofs
/-! ### Sums -/
theorem blk_small : ∀ x, x < 32 → (blkL x).all (fun y => decide (0 ≤ y ∧ y ≤ 5)) = true ∧ decide ((blkL x).length ≤ 5) = true := by decide +kernel
theorem clue_small {n : Int} {c : List Int} (h : ClueP n c) : (∀ y ∈ c, 0 ≤ y ∧ y ≤ 5) ∧ c.length ≤ 5 := by
  obtain ⟨m, rfl, m1, m5⟩ := h.1.nat
  have h1 := h.2
  rw [Int.toNat_natCast, ← linesN_len] at h1
  have hm := mem_gi (xs := linesN m c) (i := 0) h1
  have hl := linesN_lt hm
  have p5 := pow5 m5
  have hb : blkL (gi (linesN m c) ((0 : Nat) : Int)) = c := by simpa using (List.mem_filter.1 hm).2
  have hs := blk_small _ (show gi (linesN m c) ((0 : Nat) : Int) < 32 by omega)
  rw [hb] at hs
  exact ⟨fun y hy => by simpa using List.all_eq_true.1 hs.1 y hy, by simpa using hs.2⟩
/-- clues that are small -/
def SmallP (x : List (List Int)) : Prop := x.length ≤ 5 ∧ ∀ c ∈ x, (∀ y ∈ c, 0 ≤ y ∧ y ≤ 5) ∧ c.length ≤ 5
theorem PuzP.small {x y : List (List Int)} (h : PuzP x y) : SmallP x ∧ SmallP y :=
  ⟨⟨by have := h.1.2; omega, fun c hc => clue_small (h.2.2.1 c hc)⟩, ⟨by have := h.2.1.2; omega, fun c hc => clue_small (h.2.2.2 c hc)⟩⟩
def sumP (x : List (List Int)) : Int := (x.map List.sum).sum
theorem flatten_sum : ∀ {x : List (List Int)}, x.flatten.sum = sumP x
  | [] => rfl
  | c :: x => by
    rw [List.flatten_cons, List.sum_append, flatten_sum]; rfl
theorem flatten_small {x : List (List Int)} (h : SmallP x) : (∀ y ∈ x.flatten, 0 ≤ y ∧ y ≤ 5) ∧ x.flatten.length ≤ 25 ∧ lsum x ≤ 25 := by
  have hl : ∀ {x : List (List Int)}, (∀ c ∈ x, c.length ≤ 5) → lsum x ≤ 5 * x.length := by
    intro x
    induction x with
    | nil => intro _; simp [lsum]
    | cons c x ih =>
      intro h
      have h1 := h c (by simp)
      have h2 := ih fun d hd => h d (by simp [hd])
      unfold lsum at h2 ⊢
      simp only [List.map_cons, List.sum_cons, List.length_cons]
      omega
  have h2 := hl fun c hc => (h.2 c hc).2
  have h3 := h.1
  refine ⟨fun y hy => ?_, by rw [len_flatten]; omega, by omega⟩
  obtain ⟨c, hc, hy⟩ := List.mem_flatten.1 hy
  exact (h.2 c hc).1 y hy
theorem fil1_ret {p : Nat → Prop} {H : Heap} {v : AV} {x : List (List Int)} (hx : Sl p H v x) (h : SmallP x) : RetP E 75 [v] H (.i (sumP x)) := by
  refine RetP.ro rfl fn75 rfl rfl ?_
  unfold f75A
  obtain ⟨f1, f2, f3⟩ := flatten_small h
  rw [← flatten_sum]
  simp (disch := (first | assumption | omega | (simp only [List.length_append, List.length_cons, List.length_nil]; omega))) only [↓wD,wU,Nat.reduceBEq,zx150,zx151,zx159,zx160,zx161,zx162,Nat.reduceAdd,Nat.reduceSub,Nat.reduceMul,Nat.reduceLeDiff,Nat.reduceLT,Nat.reduceEqDiff,Int.reduceAdd,Int.reduceSub,Int.reduceMul,Int.reduceNeg,Int.reduceLT,Int.reduceLE,Int.reduceEq,Int.reduceToNat,Int.cast_ofNat_Int,↓reduceIte]
  refine (concat_ret hx (by omega)).toF fun y H1 hg hy => ?_
  generalize x.flatten = xs at *
  have hI := hy.I
  simp (disch := (first | assumption | omega | (simp only [List.length_append, List.length_cons, List.length_nil]; omega))) only [↓wD,wU,Nat.reduceBEq,zx150,zx151,zx159,zx160,zx161,zx162,Nat.reduceAdd,Nat.reduceSub,Nat.reduceMul,Nat.reduceLeDiff,Nat.reduceLT,Nat.reduceEqDiff,Int.reduceAdd,Int.reduceSub,Int.reduceMul,Int.reduceNeg,Int.reduceLT,Int.reduceLE,Int.reduceEq,Int.reduceToNat,Int.cast_ofNat_Int,↓reduceIte, hI]
  refine Wp.for xs.length (fun i a H' => H' = H1 ∧ a 3 = .i (xs.take i).sum ∧ a 7 = y ∧ a 8 = .i xs.length ∧ a 9 = .i i) ?_ ?_
  · rintro i a H' hi ⟨rfl, a3, a7, a8, a9⟩ ih
    simp (disch := (first | assumption | omega | (simp only [List.length_append, List.length_cons, List.length_nil]; omega))) only [↓wD,wU,Nat.reduceBEq,zx150,zx151,zx159,zx160,zx161,zx162,Nat.reduceAdd,Nat.reduceSub,Nat.reduceMul,Nat.reduceLeDiff,Nat.reduceLT,Nat.reduceEqDiff,Int.reduceAdd,Int.reduceSub,Int.reduceMul,Int.reduceNeg,Int.reduceLT,Int.reduceLE,Int.reduceEq,Int.reduceToNat,Int.cast_ofNat_Int,↓reduceIte, a3, a7, a8, a9]
    refine condP_split (fun hlt => ?_) (fun hlt => ?_)
    · have hi' : i < xs.length := by omega
      have sb := sum_bound (xs := xs.take i) (m := 5) fun z hz => f1 z (List.mem_of_mem_take hz)
      rw [List.length_take] at sb
      have hg := f1 _ (mem_gi hi')
      have st := sum_take hi'
      simp (disch := (first | assumption | omega | (simp only [List.length_append, List.length_cons, List.length_nil]; omega))) only [↓wD,wU,Nat.reduceBEq,zx150,zx151,zx159,zx160,zx161,zx162,Nat.reduceAdd,Nat.reduceSub,Nat.reduceMul,Nat.reduceLeDiff,Nat.reduceLT,Nat.reduceEqDiff,Int.reduceAdd,Int.reduceSub,Int.reduceMul,Int.reduceNeg,Int.reduceLT,Int.reduceLE,Int.reduceEq,Int.reduceToNat,Int.cast_ofNat_Int,↓reduceIte, a3, a7, a8, a9, hI]
      refine (ih hi').go ⟨rfl, ?_⟩
      simp (disch := (first | assumption | omega | (simp only [List.length_append, List.length_cons, List.length_nil]; omega))) only [↓wD,wU,Nat.reduceBEq,zx150,zx151,zx159,zx160,zx161,zx162,Nat.reduceAdd,Nat.reduceSub,Nat.reduceMul,Nat.reduceLeDiff,Nat.reduceLT,Nat.reduceEqDiff,Int.reduceAdd,Int.reduceSub,Int.reduceMul,Int.reduceNeg,Int.reduceLT,Int.reduceLE,Int.reduceEq,Int.reduceToNat,Int.cast_ofNat_Int,↓reduceIte, a3, a7, a8, a9, st]
    · obtain rfl : i = xs.length := by omega
      rw [List.take_length] at a3
      simp (disch := (first | assumption | omega | (simp only [List.length_append, List.length_cons, List.length_nil]; omega))) only [↓wD,wU,Nat.reduceBEq,zx150,zx151,zx159,zx160,zx161,zx162,Nat.reduceAdd,Nat.reduceSub,Nat.reduceMul,Nat.reduceLeDiff,Nat.reduceLT,Nat.reduceEqDiff,Int.reduceAdd,Int.reduceSub,Int.reduceMul,Int.reduceNeg,Int.reduceLT,Int.reduceLE,Int.reduceEq,Int.reduceToNat,Int.cast_ofNat_Int,↓reduceIte, a3]
  · (simp (disch := (first | assumption | omega | (simp only [List.length_append, List.length_cons, List.length_nil]; omega))) only [↓wD,wU,Nat.reduceBEq,zx150,zx151,zx159,zx160,zx161,zx162,Nat.reduceAdd,Nat.reduceSub,Nat.reduceMul,Nat.reduceLeDiff,Nat.reduceLT,Nat.reduceEqDiff,Int.reduceAdd,Int.reduceSub,Int.reduceMul,Int.reduceNeg,Int.reduceLT,Int.reduceLE,Int.reduceEq,Int.reduceToNat,Int.cast_ofNat_Int,↓reduceIte]) <;> simp
theorem sumP_bound {x : List (List Int)} (h : SmallP x) : 0 ≤ sumP x ∧ sumP x ≤ 125 := by
  obtain ⟨f1, f2, f3⟩ := flatten_small h
  have := sum_bound f1
  rw [← flatten_sum]; omega
theorem filled_ret {p q : Nat → Prop} {H : Heap} {u w : AV} {x y : List (List Int)} (hx : Sl p H u x) (hy : Sl q H w y) (h : PuzP x y) : RetP E 44 [.ag [u, w]] H (if sumP x = sumP y then .tp [.i (sumP x), .i 0] else .tp [.i 0, .i 4]) := by
  refine RetP.ro rfl fn44 rfl (by split <;> rfl) ?_
  unfold f44A
  have vu := hx.cellsV
  have vw := hy.cellsV
  have kx := hx.app [Blk.cells [u, w]]
  have ky := hy.app [Blk.cells [u, w]]
  have c0 : (H ++ [Blk.cells [u, w]])[H.length]? = some (.cells [u, w]) := by simp
  simp (disch := (first | assumption | omega | (simp only [List.length_append, List.length_cons, List.length_nil]; omega))) only [↓wD,wU,Nat.reduceBEq,zx150,zx151,zx159,zx160,zx161,zx162,Nat.reduceAdd,Nat.reduceSub,Nat.reduceMul,Nat.reduceLeDiff,Nat.reduceLT,Nat.reduceEqDiff,Int.reduceAdd,Int.reduceSub,Int.reduceMul,Int.reduceNeg,Int.reduceLT,Int.reduceLE,Int.reduceEq,Int.reduceToNat,Int.cast_ofNat_Int,↓reduceIte, vu, vw]
  generalize H ++ [Blk.cells [u, w]] = H2 at *
  have hv := pvalid_ret kx ky
  rw [decide_eq_true h] at hv
  have f1 := fil1_ret kx h.small.1
  have f2 := fil1_ret ky h.small.2
  simp (disch := (first | assumption | omega | (simp only [List.length_append, List.length_cons, List.length_nil]; omega))) only [↓wD,wU,Nat.reduceBEq,zx150,zx151,zx159,zx160,zx161,zx162,Nat.reduceAdd,Nat.reduceSub,Nat.reduceMul,Nat.reduceLeDiff,Nat.reduceLT,Nat.reduceEqDiff,Int.reduceAdd,Int.reduceSub,Int.reduceMul,Int.reduceNeg,Int.reduceLT,Int.reduceLE,Int.reduceEq,Int.reduceToNat,Int.cast_ofNat_Int,↓reduceIte, ldn_of c0, hv.call]
  refine lpI (wpC ?_)
  simp (disch := (first | assumption | omega | (simp only [List.length_append, List.length_cons, List.length_nil]; omega))) only [↓wD,wU,Nat.reduceBEq,zx150,zx151,zx159,zx160,zx161,zx162,Nat.reduceAdd,Nat.reduceSub,Nat.reduceMul,Nat.reduceLeDiff,Nat.reduceLT,Nat.reduceEqDiff,Int.reduceAdd,Int.reduceSub,Int.reduceMul,Int.reduceNeg,Int.reduceLT,Int.reduceLE,Int.reduceEq,Int.reduceToNat,Int.cast_ofNat_Int,↓reduceIte, ld_of c0, f1.callv0, f2.callv0]
  refine chkI ?_ ?_
  · simp [chk1, ev, Fr.upd, sameO, ld, c0, AV.same_refl]
  by_cases e : sumP x = sumP y
  · have hd : decide (¬ sumP x = sumP y) = false := decide_eq_false fun q => q e
    rw [if_pos e]
    clear e
    simp (disch := (first | assumption | omega | (simp only [List.length_append, List.length_cons, List.length_nil]; omega))) only [↓wD,wU,Nat.reduceBEq,zx150,zx151,zx159,zx160,zx161,zx162,Nat.reduceAdd,Nat.reduceSub,Nat.reduceMul,Nat.reduceLeDiff,Nat.reduceLT,Nat.reduceEqDiff,Int.reduceAdd,Int.reduceSub,Int.reduceMul,Int.reduceNeg,Int.reduceLT,Int.reduceLE,Int.reduceEq,Int.reduceToNat,Int.cast_ofNat_Int,↓reduceIte, hd, ld_of c0, f1.callv0]
  · have hd : decide (¬ sumP x = sumP y) = true := decide_eq_true e
    rw [if_neg e]
    simp (disch := (first | assumption | omega | (simp only [List.length_append, List.length_cons, List.length_nil]; omega))) only [↓wD,wU,Nat.reduceBEq,zx150,zx151,zx159,zx160,zx161,zx162,Nat.reduceAdd,Nat.reduceSub,Nat.reduceMul,Nat.reduceLeDiff,Nat.reduceLT,Nat.reduceEqDiff,Int.reduceAdd,Int.reduceSub,Int.reduceMul,Int.reduceNeg,Int.reduceLT,Int.reduceLE,Int.reduceEq,Int.reduceToNat,Int.cast_ofNat_Int,↓reduceIte, hd]
theorem filled_err {p q : Nat → Prop} {H : Heap} {u w : AV} {x y : List (List Int)} (hx : Sl p H u x) (hy : Sl q H w y) (h : ¬ PuzP x y) : RetP E 44 [.ag [u, w]] H (.tp [.i 0, .i 2]) := by
  refine RetP.ro rfl fn44 rfl rfl ?_
  unfold f44A
  have vu := hx.cellsV
  have vw := hy.cellsV
  have kx := hx.app [Blk.cells [u, w]]
  have ky := hy.app [Blk.cells [u, w]]
  have c0 : (H ++ [Blk.cells [u, w]])[H.length]? = some (.cells [u, w]) := by simp
  simp (disch := (first | assumption | omega | (simp only [List.length_append, List.length_cons, List.length_nil]; omega))) only [↓wD,wU,Nat.reduceBEq,zx150,zx151,zx159,zx160,zx161,zx162,Nat.reduceAdd,Nat.reduceSub,Nat.reduceMul,Nat.reduceLeDiff,Nat.reduceLT,Nat.reduceEqDiff,Int.reduceAdd,Int.reduceSub,Int.reduceMul,Int.reduceNeg,Int.reduceLT,Int.reduceLE,Int.reduceEq,Int.reduceToNat,Int.cast_ofNat_Int,↓reduceIte, vu, vw]
  generalize H ++ [Blk.cells [u, w]] = H2 at *
  have hv := pvalid_ret kx ky
  rw [decide_eq_false h] at hv
  simp (disch := (first | assumption | omega | (simp only [List.length_append, List.length_cons, List.length_nil]; omega))) only [↓wD,wU,Nat.reduceBEq,zx150,zx151,zx159,zx160,zx161,zx162,Nat.reduceAdd,Nat.reduceSub,Nat.reduceMul,Nat.reduceLeDiff,Nat.reduceLT,Nat.reduceEqDiff,Int.reduceAdd,Int.reduceSub,Int.reduceMul,Int.reduceNeg,Int.reduceLT,Int.reduceLE,Int.reduceEq,Int.reduceToNat,Int.cast_ofNat_Int,↓reduceIte, ldn_of c0, hv.call]
theorem sumP_take {x : List (List Int)} {i : Nat} (h : i < x.length) : sumP (x.take (i + 1)) = sumP (x.take i) + (gi x (i : Int)).sum := by
  unfold sumP
  rw [take_gi h, List.map_append, List.sum_append]; simp
theorem SmallP.take {x : List (List Int)} (h : SmallP x) (i : Nat) : SmallP (x.take i) := ⟨by rw [List.length_take]; have := h.1; omega, fun c hc => h.2 c (List.mem_of_mem_take hc)⟩
theorem rfilled_ret {p q : Nat → Prop} {H : Heap} {u w : AV} {x y : List (List Int)} (hx : Sl p H u x) (hy : Sl q H w y) (h : PuzP x y) : RetP E 47 [.ag [u, w]] H (if sumP x = sumP y then .tp [.i (sumP x), .i 0] else .tp [.i 0, .i 4]) := by
  refine RetP.ro rfl fn47 rfl (by split <;> rfl) ?_
  unfold f47A
  have vu := hx.cellsV
  have vw := hy.cellsV
  have kx := hx.app [Blk.cells [u, w]]
  have ky := hy.app [Blk.cells [u, w]]
  have c0 : (H ++ [Blk.cells [u, w]])[H.length]? = some (.cells [u, w]) := by simp
  have lx := kx.L
  have ly := ky.L
  obtain ⟨sx, sy⟩ := h.small
  have bx := hx.bound
  have bY := hy.bound
  simp (disch := (first | assumption | omega | (simp only [List.length_append, List.length_cons, List.length_nil]; omega))) only [↓wD,wU,Nat.reduceBEq,zx150,zx151,zx159,zx160,zx161,zx162,Nat.reduceAdd,Nat.reduceSub,Nat.reduceMul,Nat.reduceLeDiff,Nat.reduceLT,Nat.reduceEqDiff,Int.reduceAdd,Int.reduceSub,Int.reduceMul,Int.reduceNeg,Int.reduceLT,Int.reduceLE,Int.reduceEq,Int.reduceToNat,Int.cast_ofNat_Int,↓reduceIte, vu, vw, lx]
  generalize H ++ [Blk.cells [u, w]] = H2 at *
  refine Wp.for x.length (fun i a H' => H' = H2 ∧ a 1 = .p H.length 0 ∧ a 4 = .i (sumP (x.take i)) ∧ a 5 = .i 0 ∧ a 15 = u ∧ a 16 = .i x.length ∧ a 17 = .i i) ?_ ?_
  · rintro i a H' hi ⟨rfl, a1, a4, a5, a15, a16, a17⟩ ih
    simp (disch := (first | assumption | omega | (simp only [List.length_append, List.length_cons, List.length_nil]; omega))) only [↓wD,wU,Nat.reduceBEq,zx150,zx151,zx159,zx160,zx161,zx162,Nat.reduceAdd,Nat.reduceSub,Nat.reduceMul,Nat.reduceLeDiff,Nat.reduceLT,Nat.reduceEqDiff,Int.reduceAdd,Int.reduceSub,Int.reduceMul,Int.reduceNeg,Int.reduceLT,Int.reduceLE,Int.reduceEq,Int.reduceToNat,Int.cast_ofNat_Int,↓reduceIte, a1, a4, a5, a15, a16, a17]
    refine condP_split (fun hlt => ?_) (fun hlt => ?_)
    · have hi' : i < x.length := by omega
      have g := kx.get (k := (i : Int)) (by omega) (by omega)
      have gI := g.I
      have sb := sumP_bound (sx.take i)
      obtain ⟨q1, q2⟩ := sx.2 _ (mem_gi hi')
      have st := sumP_take hi'
      simp (disch := (first | assumption | omega | (simp only [List.length_append, List.length_cons, List.length_nil]; omega))) only [↓wD,wU,Nat.reduceBEq,zx150,zx151,zx159,zx160,zx161,zx162,Nat.reduceAdd,Nat.reduceSub,Nat.reduceMul,Nat.reduceLeDiff,Nat.reduceLT,Nat.reduceEqDiff,Int.reduceAdd,Int.reduceSub,Int.reduceMul,Int.reduceNeg,Int.reduceLT,Int.reduceLE,Int.reduceEq,Int.reduceToNat,Int.cast_ofNat_Int,↓reduceIte, a1, a4, a5, a15, a16, a17, lx, gI]
      obtain ⟨gu, egu⟩ : ∃ gu, u.get H' (i : Int) = gu := ⟨_, rfl⟩
      rw [egu] at gI g
      refine Wp.for (gi x (i : Int)).length (fun j a Hh => Hh = H' ∧ a 1 = .p H.length 0 ∧ a 4 = .i (sumP (x.take i) + ((gi x (i : Int)).take j).sum) ∧ a 5 = .i 0 ∧ a 15 = u ∧ a 16 = .i x.length ∧ a 17 = .i i ∧ a 21 = gu ∧ a 22 = .i (gi x (i : Int)).length ∧ a 23 = .i j) ?_ ?_
      · clear a1 a4 a5 a15 a16 a17
        rintro j a Hh hj ⟨rfl, a1, a4, a5, a15, a16, a17, a21, a22, a23⟩ ih2
        simp (disch := (first | assumption | omega | (simp only [List.length_append, List.length_cons, List.length_nil]; omega))) only [↓wD,wU,Nat.reduceBEq,zx150,zx151,zx159,zx160,zx161,zx162,Nat.reduceAdd,Nat.reduceSub,Nat.reduceMul,Nat.reduceLeDiff,Nat.reduceLT,Nat.reduceEqDiff,Int.reduceAdd,Int.reduceSub,Int.reduceMul,Int.reduceNeg,Int.reduceLT,Int.reduceLE,Int.reduceEq,Int.reduceToNat,Int.cast_ofNat_Int,↓reduceIte, a1, a4, a5, a15, a16, a17, a21, a22, a23]
        refine condP_split (fun hlt => ?_) (fun hlt => ?_)
        · have hj' : j < (gi x (i : Int)).length := by omega
          have tb := sum_bound (xs := (gi x (i : Int)).take j) (m := 5) fun z hz => q1 z (List.mem_of_mem_take hz)
          rw [List.length_take] at tb
          have hg := q1 _ (mem_gi hj')
          have st2 := sum_take hj'
          simp (disch := (first | assumption | omega | (simp only [List.length_append, List.length_cons, List.length_nil]; omega))) only [↓wD,wU,Nat.reduceBEq,zx150,zx151,zx159,zx160,zx161,zx162,Nat.reduceAdd,Nat.reduceSub,Nat.reduceMul,Nat.reduceLeDiff,Nat.reduceLT,Nat.reduceEqDiff,Int.reduceAdd,Int.reduceSub,Int.reduceMul,Int.reduceNeg,Int.reduceLT,Int.reduceLE,Int.reduceEq,Int.reduceToNat,Int.cast_ofNat_Int,↓reduceIte, a1, a4, a5, a15, a16, a17, a21, a22, a23, gI]
          refine (ih2 hj').go ⟨rfl, ?_⟩
          simp (disch := (first | assumption | omega | (simp only [List.length_append, List.length_cons, List.length_nil]; omega))) only [↓wD,wU,Nat.reduceBEq,zx150,zx151,zx159,zx160,zx161,zx162,Nat.reduceAdd,Nat.reduceSub,Nat.reduceMul,Nat.reduceLeDiff,Nat.reduceLT,Nat.reduceEqDiff,Int.reduceAdd,Int.reduceSub,Int.reduceMul,Int.reduceNeg,Int.reduceLT,Int.reduceLE,Int.reduceEq,Int.reduceToNat,Int.cast_ofNat_Int,↓reduceIte, a1, a4, a5, a15, a16, a17, a21, a22, a23, st2]
          rw [Int.add_assoc]
        · obtain rfl : j = (gi x (i : Int)).length := by omega
          rw [List.take_length, ← st] at a4
          simp (disch := (first | assumption | omega | (simp only [List.length_append, List.length_cons, List.length_nil]; omega))) only [↓wD,wU,Nat.reduceBEq,zx150,zx151,zx159,zx160,zx161,zx162,Nat.reduceAdd,Nat.reduceSub,Nat.reduceMul,Nat.reduceLeDiff,Nat.reduceLT,Nat.reduceEqDiff,Int.reduceAdd,Int.reduceSub,Int.reduceMul,Int.reduceNeg,Int.reduceLT,Int.reduceLE,Int.reduceEq,Int.reduceToNat,Int.cast_ofNat_Int,↓reduceIte, a1, a4, a5, a15, a16, a17, a21, a22, a23]
          refine (ih hi').go ⟨rfl, ?_⟩
          simp (disch := (first | assumption | omega | (simp only [List.length_append, List.length_cons, List.length_nil]; omega))) only [↓wD,wU,Nat.reduceBEq,zx150,zx151,zx159,zx160,zx161,zx162,Nat.reduceAdd,Nat.reduceSub,Nat.reduceMul,Nat.reduceLeDiff,Nat.reduceLT,Nat.reduceEqDiff,Int.reduceAdd,Int.reduceSub,Int.reduceMul,Int.reduceNeg,Int.reduceLT,Int.reduceLE,Int.reduceEq,Int.reduceToNat,Int.cast_ofNat_Int,↓reduceIte, a1, a4, a5, a15, a16, a17]
      · (simp (disch := (first | assumption | omega | (simp only [List.length_append, List.length_cons, List.length_nil]; omega))) only [↓wD,wU,Nat.reduceBEq,zx150,zx151,zx159,zx160,zx161,zx162,Nat.reduceAdd,Nat.reduceSub,Nat.reduceMul,Nat.reduceLeDiff,Nat.reduceLT,Nat.reduceEqDiff,Int.reduceAdd,Int.reduceSub,Int.reduceMul,Int.reduceNeg,Int.reduceLT,Int.reduceLE,Int.reduceEq,Int.reduceToNat,Int.cast_ofNat_Int,↓reduceIte, a1, a4, a5, a15, a16, a17, egu]) <;> simp
    · obtain rfl : i = x.length := by omega
      rw [List.take_length] at a4
      simp (disch := (first | assumption | omega | (simp only [List.length_append, List.length_cons, List.length_nil]; omega))) only [↓wD,wU,Nat.reduceBEq,zx150,zx151,zx159,zx160,zx161,zx162,Nat.reduceAdd,Nat.reduceSub,Nat.reduceMul,Nat.reduceLeDiff,Nat.reduceLT,Nat.reduceEqDiff,Int.reduceAdd,Int.reduceSub,Int.reduceMul,Int.reduceNeg,Int.reduceLT,Int.reduceLE,Int.reduceEq,Int.reduceToNat,Int.cast_ofNat_Int,↓reduceIte, a1, a4, a5, ld_of c0, ly]
      refine Wp.for y.length (fun i a Hh => Hh = H' ∧ a 1 = .p H.length 0 ∧ a 4 = .i (sumP x) ∧ a 5 = .i (sumP (y.take i)) ∧ a 33 = w ∧ a 34 = .i y.length ∧ a 35 = .i i) ?_ ?_
      · clear a1 a4 a5 a15 a16 a17 ih
        rintro i a Hh hi ⟨rfl, a1, a4, a5, a33, a34, a35⟩ ih
        simp (disch := (first | assumption | omega | (simp only [List.length_append, List.length_cons, List.length_nil]; omega))) only [↓wD,wU,Nat.reduceBEq,zx150,zx151,zx159,zx160,zx161,zx162,Nat.reduceAdd,Nat.reduceSub,Nat.reduceMul,Nat.reduceLeDiff,Nat.reduceLT,Nat.reduceEqDiff,Int.reduceAdd,Int.reduceSub,Int.reduceMul,Int.reduceNeg,Int.reduceLT,Int.reduceLE,Int.reduceEq,Int.reduceToNat,Int.cast_ofNat_Int,↓reduceIte, a1, a4, a5, a33, a34, a35]
        refine condP_split (fun hlt => ?_) (fun hlt => ?_)
        · have hi' : i < y.length := by omega
          have g := ky.get (k := (i : Int)) (by omega) (by omega)
          have gI := g.I
          have sb := sumP_bound (sy.take i)
          obtain ⟨q1, q2⟩ := sy.2 _ (mem_gi hi')
          have st := sumP_take hi'
          simp (disch := (first | assumption | omega | (simp only [List.length_append, List.length_cons, List.length_nil]; omega))) only [↓wD,wU,Nat.reduceBEq,zx150,zx151,zx159,zx160,zx161,zx162,Nat.reduceAdd,Nat.reduceSub,Nat.reduceMul,Nat.reduceLeDiff,Nat.reduceLT,Nat.reduceEqDiff,Int.reduceAdd,Int.reduceSub,Int.reduceMul,Int.reduceNeg,Int.reduceLT,Int.reduceLE,Int.reduceEq,Int.reduceToNat,Int.cast_ofNat_Int,↓reduceIte, a1, a4, a5, a33, a34, a35, ly, gI]
          obtain ⟨gu, egu⟩ : ∃ gu, w.get Hh (i : Int) = gu := ⟨_, rfl⟩
          rw [egu] at gI g
          refine Wp.for (gi y (i : Int)).length (fun j a Hk => Hk = Hh ∧ a 1 = .p H.length 0 ∧ a 4 = .i (sumP x) ∧ a 5 = .i (sumP (y.take i) + ((gi y (i : Int)).take j).sum) ∧ a 33 = w ∧ a 34 = .i y.length ∧ a 35 = .i i ∧ a 39 = gu ∧ a 40 = .i (gi y (i : Int)).length ∧ a 41 = .i j) ?_ ?_
          · clear a1 a4 a5 a33 a34 a35
            rintro j a Hk hj ⟨rfl, a1, a4, a5, a33, a34, a35, a39, a40, a41⟩ ih2
            simp (disch := (first | assumption | omega | (simp only [List.length_append, List.length_cons, List.length_nil]; omega))) only [↓wD,wU,Nat.reduceBEq,zx150,zx151,zx159,zx160,zx161,zx162,Nat.reduceAdd,Nat.reduceSub,Nat.reduceMul,Nat.reduceLeDiff,Nat.reduceLT,Nat.reduceEqDiff,Int.reduceAdd,Int.reduceSub,Int.reduceMul,Int.reduceNeg,Int.reduceLT,Int.reduceLE,Int.reduceEq,Int.reduceToNat,Int.cast_ofNat_Int,↓reduceIte, a1, a4, a5, a33, a34, a35, a39, a40, a41]
            refine condP_split (fun hlt => ?_) (fun hlt => ?_)
            · have hj' : j < (gi y (i : Int)).length := by omega
              have tb := sum_bound (xs := (gi y (i : Int)).take j) (m := 5) fun z hz => q1 z (List.mem_of_mem_take hz)
              rw [List.length_take] at tb
              have hg := q1 _ (mem_gi hj')
              have st2 := sum_take hj'
              simp (disch := (first | assumption | omega | (simp only [List.length_append, List.length_cons, List.length_nil]; omega))) only [↓wD,wU,Nat.reduceBEq,zx150,zx151,zx159,zx160,zx161,zx162,Nat.reduceAdd,Nat.reduceSub,Nat.reduceMul,Nat.reduceLeDiff,Nat.reduceLT,Nat.reduceEqDiff,Int.reduceAdd,Int.reduceSub,Int.reduceMul,Int.reduceNeg,Int.reduceLT,Int.reduceLE,Int.reduceEq,Int.reduceToNat,Int.cast_ofNat_Int,↓reduceIte, a1, a4, a5, a33, a34, a35, a39, a40, a41, gI]
              refine (ih2 hj').go ⟨rfl, ?_⟩
              simp (disch := (first | assumption | omega | (simp only [List.length_append, List.length_cons, List.length_nil]; omega))) only [↓wD,wU,Nat.reduceBEq,zx150,zx151,zx159,zx160,zx161,zx162,Nat.reduceAdd,Nat.reduceSub,Nat.reduceMul,Nat.reduceLeDiff,Nat.reduceLT,Nat.reduceEqDiff,Int.reduceAdd,Int.reduceSub,Int.reduceMul,Int.reduceNeg,Int.reduceLT,Int.reduceLE,Int.reduceEq,Int.reduceToNat,Int.cast_ofNat_Int,↓reduceIte, a1, a4, a5, a33, a34, a35, a39, a40, a41, st2]
              rw [Int.add_assoc]
            · obtain rfl : j = (gi y (i : Int)).length := by omega
              rw [List.take_length, ← st] at a5
              simp (disch := (first | assumption | omega | (simp only [List.length_append, List.length_cons, List.length_nil]; omega))) only [↓wD,wU,Nat.reduceBEq,zx150,zx151,zx159,zx160,zx161,zx162,Nat.reduceAdd,Nat.reduceSub,Nat.reduceMul,Nat.reduceLeDiff,Nat.reduceLT,Nat.reduceEqDiff,Int.reduceAdd,Int.reduceSub,Int.reduceMul,Int.reduceNeg,Int.reduceLT,Int.reduceLE,Int.reduceEq,Int.reduceToNat,Int.cast_ofNat_Int,↓reduceIte, a1, a4, a5, a33, a34, a35, a39, a40, a41]
              refine (ih hi').go ⟨rfl, ?_⟩
              simp (disch := (first | assumption | omega | (simp only [List.length_append, List.length_cons, List.length_nil]; omega))) only [↓wD,wU,Nat.reduceBEq,zx150,zx151,zx159,zx160,zx161,zx162,Nat.reduceAdd,Nat.reduceSub,Nat.reduceMul,Nat.reduceLeDiff,Nat.reduceLT,Nat.reduceEqDiff,Int.reduceAdd,Int.reduceSub,Int.reduceMul,Int.reduceNeg,Int.reduceLT,Int.reduceLE,Int.reduceEq,Int.reduceToNat,Int.cast_ofNat_Int,↓reduceIte, a1, a4, a5, a33, a34, a35]
          · (simp (disch := (first | assumption | omega | (simp only [List.length_append, List.length_cons, List.length_nil]; omega))) only [↓wD,wU,Nat.reduceBEq,zx150,zx151,zx159,zx160,zx161,zx162,Nat.reduceAdd,Nat.reduceSub,Nat.reduceMul,Nat.reduceLeDiff,Nat.reduceLT,Nat.reduceEqDiff,Int.reduceAdd,Int.reduceSub,Int.reduceMul,Int.reduceNeg,Int.reduceLT,Int.reduceLE,Int.reduceEq,Int.reduceToNat,Int.cast_ofNat_Int,↓reduceIte, a1, a4, a5, a33, a34, a35, egu]) <;> simp
        · obtain rfl : i = y.length := by omega
          rw [List.take_length] at a5
          by_cases e : sumP x = sumP y
          · have hd : decide (¬ sumP x = sumP y) = false := decide_eq_false fun q => q e
            rw [if_pos e]
            clear e
            simp (disch := (first | assumption | omega | (simp only [List.length_append, List.length_cons, List.length_nil]; omega))) only [↓wD,wU,Nat.reduceBEq,zx150,zx151,zx159,zx160,zx161,zx162,Nat.reduceAdd,Nat.reduceSub,Nat.reduceMul,Nat.reduceLeDiff,Nat.reduceLT,Nat.reduceEqDiff,Int.reduceAdd,Int.reduceSub,Int.reduceMul,Int.reduceNeg,Int.reduceLT,Int.reduceLE,Int.reduceEq,Int.reduceToNat,Int.cast_ofNat_Int,↓reduceIte, a1, a4, a5, hd]
          · have hd : decide (¬ sumP x = sumP y) = true := decide_eq_true e
            rw [if_neg e]
            simp (disch := (first | assumption | omega | (simp only [List.length_append, List.length_cons, List.length_nil]; omega))) only [↓wD,wU,Nat.reduceBEq,zx150,zx151,zx159,zx160,zx161,zx162,Nat.reduceAdd,Nat.reduceSub,Nat.reduceMul,Nat.reduceLeDiff,Nat.reduceLT,Nat.reduceEqDiff,Int.reduceAdd,Int.reduceSub,Int.reduceMul,Int.reduceNeg,Int.reduceLT,Int.reduceLE,Int.reduceEq,Int.reduceToNat,Int.cast_ofNat_Int,↓reduceIte, a1, a4, a5, hd]
      · (simp (disch := (first | assumption | omega | (simp only [List.length_append, List.length_cons, List.length_nil]; omega))) only [↓wD,wU,Nat.reduceBEq,zx150,zx151,zx159,zx160,zx161,zx162,Nat.reduceAdd,Nat.reduceSub,Nat.reduceMul,Nat.reduceLeDiff,Nat.reduceLT,Nat.reduceEqDiff,Int.reduceAdd,Int.reduceSub,Int.reduceMul,Int.reduceNeg,Int.reduceLT,Int.reduceLE,Int.reduceEq,Int.reduceToNat,Int.cast_ofNat_Int,↓reduceIte, a1, a4, a5]) <;> simp [sumP]
  · (simp (disch := (first | assumption | omega | (simp only [List.length_append, List.length_cons, List.length_nil]; omega))) only [↓wD,wU,Nat.reduceBEq,zx150,zx151,zx159,zx160,zx161,zx162,Nat.reduceAdd,Nat.reduceSub,Nat.reduceMul,Nat.reduceLeDiff,Nat.reduceLT,Nat.reduceEqDiff,Int.reduceAdd,Int.reduceSub,Int.reduceMul,Int.reduceNeg,Int.reduceLT,Int.reduceLE,Int.reduceEq,Int.reduceToNat,Int.cast_ofNat_Int,↓reduceIte]) <;> simp [sumP]
end Go.Proofs.YtjjndoigkhabdaaDoor
namespace Go.Proofs.YtjjndoigkhabdaaDoor
open Go Go.AM Go.Proofs
theorem clonet_ret {p : Nat → Prop} {H : Heap} {v : AV} {t : List (List Int)} (ht : Sl p H v t) (hl : t.length ≤ 100) (hr : ∀ r ∈ t, r.length ≤ 100) : Ret E 77 [v] (fun _ => False) H (TW.mk t) := by
  refine Ret.ro rfl fn77 rfl ?_
  unfold f77A
  simp (disch := (first | assumption | omega | (simp only [List.length_append, List.length_cons, List.length_nil]; omega))) only [↓wD,wU,Nat.reduceBEq,zx150,zx151,zx159,zx160,zx161,zx162,Nat.reduceAdd,Nat.reduceSub,Nat.reduceMul,Nat.reduceLeDiff,Nat.reduceLT,Nat.reduceEqDiff,Int.reduceAdd,Int.reduceSub,Int.reduceMul,Int.reduceNeg,Int.reduceLT,Int.reduceLE,Int.reduceEq,Int.reduceToNat,Int.cast_ofNat_Int,↓reduceIte, ht.L]
  replace ht : Sl (fun b => b < H.length) H v t := ht.low.weak fun _ h => h.2
  refine Wp.for t.length (fun i a H' => ∃ u, a 6 = v ∧ a 7 = .i t.length ∧ a 8 = .i i ∧ a 3 = u ∧ Gr H H' ∧ TB H.length H' u (t.take i)) ?_ ?_
  · rintro i a H1 hi ⟨u, h6, h7, h8, h3, hg, hu⟩ ih
    simp (disch := (first | assumption | omega | (simp only [List.length_append, List.length_cons, List.length_nil]; omega))) only [↓wD,wU,Nat.reduceBEq,zx150,zx151,zx159,zx160,zx161,zx162,Nat.reduceAdd,Nat.reduceSub,Nat.reduceMul,Nat.reduceLeDiff,Nat.reduceLT,Nat.reduceEqDiff,Int.reduceAdd,Int.reduceSub,Int.reduceMul,Int.reduceNeg,Int.reduceLT,Int.reduceLE,Int.reduceEq,Int.reduceToNat,Int.cast_ofNat_Int,↓reduceIte, h6, h7, h8, h3]
    refine condP_split (fun hlt => ?_) (fun hlt => ?_)
    · have hi' : i < t.length := by omega
      have ht1 := ht.gr hg
      have g := ht1.get (k := (i : Int)) (by omega) (by omega)
      have hrl := hr _ (mem_gi hi')
      simp (disch := (first | assumption | omega | (simp only [List.length_append, List.length_cons, List.length_nil]; omega))) only [↓wD,wU,Nat.reduceBEq,zx150,zx151,zx159,zx160,zx161,zx162,Nat.reduceAdd,Nat.reduceSub,Nat.reduceMul,Nat.reduceLeDiff,Nat.reduceLT,Nat.reduceEqDiff,Int.reduceAdd,Int.reduceSub,Int.reduceMul,Int.reduceNeg,Int.reduceLT,Int.reduceLE,Int.reduceEq,Int.reduceToNat,Int.cast_ofNat_Int,↓reduceIte, h6, h7, h8, h3, ht1.L]
      refine (clone_ret g (by omega)).toF fun y H2 hg2 hy => ?_
      have hl2 := hg2.1
      simp (disch := (first | assumption | omega | (simp only [List.length_append, List.length_cons, List.length_nil]; omega))) only [↓wD,wU,Nat.reduceBEq,zx150,zx151,zx159,zx160,zx161,zx162,Nat.reduceAdd,Nat.reduceSub,Nat.reduceMul,Nat.reduceLeDiff,Nat.reduceLT,Nat.reduceEqDiff,Int.reduceAdd,Int.reduceSub,Int.reduceMul,Int.reduceNeg,Int.reduceLT,Int.reduceLE,Int.reduceEq,Int.reduceToNat,Int.cast_ofNat_Int,↓reduceIte, hy.cellsV]
      refine hu.push hg2 (Nat.le_refl _) hg.1 hy (by rw [List.length_take]; omega) fun u' H3 hu' hk3 => ?_
      simp (disch := (first | assumption | omega | (simp only [List.length_append, List.length_cons, List.length_nil]; omega))) only [↓wD,wU,Nat.reduceBEq,zx150,zx151,zx159,zx160,zx161,zx162,Nat.reduceAdd,Nat.reduceSub,Nat.reduceMul,Nat.reduceLeDiff,Nat.reduceLT,Nat.reduceEqDiff,Int.reduceAdd,Int.reduceSub,Int.reduceMul,Int.reduceNeg,Int.reduceLT,Int.reduceLE,Int.reduceEq,Int.reduceToNat,Int.cast_ofNat_Int,↓reduceIte, h6, h7, h8, h3]
      refine (ih hi').go ⟨u', ?_⟩
      simp (disch := (first | assumption | omega | (simp only [List.length_append, List.length_cons, List.length_nil]; omega))) only [↓wD,wU,Nat.reduceBEq,zx150,zx151,zx159,zx160,zx161,zx162,Nat.reduceAdd,Nat.reduceSub,Nat.reduceMul,Nat.reduceLeDiff,Nat.reduceLT,Nat.reduceEqDiff,Int.reduceAdd,Int.reduceSub,Int.reduceMul,Int.reduceNeg,Int.reduceLT,Int.reduceLE,Int.reduceEq,Int.reduceToNat,Int.cast_ofNat_Int,↓reduceIte, h6, h7, h8, h3]
      rw [take_gi hi']
      exact ⟨(hg.trans hg2).trans' hk3 fun b hb e => by have := hu.blk_lt e; omega, hu'⟩
    · obtain rfl : i = t.length := by omega
      simp (disch := (first | assumption | omega | (simp only [List.length_append, List.length_cons, List.length_nil]; omega))) only [↓wD,wU,Nat.reduceBEq,zx150,zx151,zx159,zx160,zx161,zx162,Nat.reduceAdd,Nat.reduceSub,Nat.reduceMul,Nat.reduceLeDiff,Nat.reduceLT,Nat.reduceEqDiff,Int.reduceAdd,Int.reduceSub,Int.reduceMul,Int.reduceNeg,Int.reduceLT,Int.reduceLE,Int.reduceEq,Int.reduceToNat,Int.cast_ofNat_Int,↓reduceIte, h6, h7, h8, h3]
      rw [List.take_length] at hu
      exact hu.rv fun b h => .inr h
  · simp (disch := (first | assumption | omega | (simp only [List.length_append, List.length_cons, List.length_nil]; omega))) only [↓wD,wU,Nat.reduceBEq,zx150,zx151,zx159,zx160,zx161,zx162,Nat.reduceAdd,Nat.reduceSub,Nat.reduceMul,Nat.reduceLeDiff,Nat.reduceLT,Nat.reduceEqDiff,Int.reduceAdd,Int.reduceSub,Int.reduceMul,Int.reduceNeg,Int.reduceLT,Int.reduceLE,Int.reduceEq,Int.reduceToNat,Int.cast_ofNat_Int,↓reduceIte]
    exact ⟨.nils, rfl, Gr.refl _, TB.nil⟩
theorem SmallP.clone {x : List (List Int)} (h : SmallP x) : x.length ≤ 100 ∧ ∀ r ∈ x, r.length ≤ 100 := ⟨by have := h.1; omega, fun r hr => by have := (h.2 r hr).2; omega⟩
theorem turn_ret {p q : Nat → Prop} {H : Heap} {u w : AV} {x y : List (List Int)} (hx : Sl p H u x) (hy : Sl q H w y) (h : PuzP x y) : Ret E 45 [.ag [u, w]] (fun _ => False) H (T2.mk (y, x) (0 : Int)) := by
  refine Ret.ro rfl fn45 rfl ?_
  unfold f45A
  have vu := hx.cellsV
  have vw := hy.cellsV
  have c0 : (H ++ [Blk.cells [u, w]] ++ [Blk.cells [.nils, .nils]])[H.length]? = some (.cells [u, w]) := by simp [List.getElem?_append]
  have c1 : (H ++ [Blk.cells [u, w]] ++ [Blk.cells [.nils, .nils]])[H.length + 1]? = some (.cells [.nils, .nils]) := by simp [List.getElem?_append]
  have hx2 := (hx.app [Blk.cells [u, w]]).app [Blk.cells [.nils, .nils]]
  have hy2 := (hy.app [Blk.cells [u, w]]).app [Blk.cells [.nils, .nils]]
  have hn : (H ++ [Blk.cells [u, w]] ++ [Blk.cells [.nils, .nils]]).length = H.length + 2 := by simp
  simp (disch := (first | assumption | omega | (simp only [List.length_append, List.length_cons, List.length_nil]; omega))) only [↓wD,wU,Nat.reduceBEq,zx150,zx151,zx159,zx160,zx161,zx162,Nat.reduceAdd,Nat.reduceSub,Nat.reduceMul,Nat.reduceLeDiff,Nat.reduceLT,Nat.reduceEqDiff,Int.reduceAdd,Int.reduceSub,Int.reduceMul,Int.reduceNeg,Int.reduceLT,Int.reduceLE,Int.reduceEq,Int.reduceToNat,Int.cast_ofNat_Int,↓reduceIte, vu, vw]
  generalize H ++ [Blk.cells [u, w]] ++ [Blk.cells [.nils, .nils]] = H2 at *
  have hv := pvalid_ret hx2 hy2
  rw [decide_eq_true h] at hv
  obtain ⟨sx, sy⟩ := h.small
  simp (disch := (first | assumption | omega | (simp only [List.length_append, List.length_cons, List.length_nil]; omega))) only [↓wD,wU,Nat.reduceBEq,zx150,zx151,zx159,zx160,zx161,zx162,Nat.reduceAdd,Nat.reduceSub,Nat.reduceMul,Nat.reduceLeDiff,Nat.reduceLT,Nat.reduceEqDiff,Int.reduceAdd,Int.reduceSub,Int.reduceMul,Int.reduceNeg,Int.reduceLT,Int.reduceLE,Int.reduceEq,Int.reduceToNat,Int.cast_ofNat_Int,↓reduceIte, ldn_of c0, hv.call, ld_of c0]
  refine (clonet_ret hy2 sy.clone.1 sy.clone.2).toX fun r H3 x3 hr => ?_
  have tr : TB H2.length H3 r y := TB.of hr fun b h => h.elim (fun h => h.elim) id
  have c03 := x3.get trivial c0
  have c13 := x3.get trivial c1
  have hl3 := x3.1
  simp (disch := (first | assumption | omega | (simp only [List.length_append, List.length_cons, List.length_nil]; omega))) only [↓wD,wU,Nat.reduceBEq,zx150,zx151,zx159,zx160,zx161,zx162,Nat.reduceAdd,Nat.reduceSub,Nat.reduceMul,Nat.reduceLeDiff,Nat.reduceLT,Nat.reduceEqDiff,Int.reduceAdd,Int.reduceSub,Int.reduceMul,Int.reduceNeg,Int.reduceLT,Int.reduceLE,Int.reduceEq,Int.reduceToNat,Int.cast_ofNat_Int,↓reduceIte, ld_of c03]
  refine (clonet_ret (hx2.kp (x3.all _).kp) sx.clone.1 sx.clone.2).toX fun s H4 x4 hs => ?_
  have ts : TB H3.length H4 s x := TB.of hs fun b h => h.elim (fun h => h.elim) id
  have c14 := x4.get trivial c13
  have sr := (tr.gr (x4.all _).kp).sl
  have ss := ts.sl
  have hst : st H.length H4 (H.length + 1) 0 [r, s] = some (H4.set (H.length + 1) (.cells [r, s])) := by rw [st_of c14 (by omega) (by simp)]; simp [wr]
  simp (disch := (first | assumption | omega | (simp only [List.length_append, List.length_cons, List.length_nil]; omega))) only [↓wD,wU,Nat.reduceBEq,zx150,zx151,zx159,zx160,zx161,zx162,Nat.reduceAdd,Nat.reduceSub,Nat.reduceMul,Nat.reduceLeDiff,Nat.reduceLT,Nat.reduceEqDiff,Int.reduceAdd,Int.reduceSub,Int.reduceMul,Int.reduceNeg,Int.reduceLT,Int.reduceLE,Int.reduceEq,Int.reduceToNat,Int.cast_ofNat_Int,↓reduceIte, sr.cellsV, ss.cellsV, hst, ldn_of (get_set c14)]
  refine rv_2 (rv_pp ?_ ?_) rv_i
  · exact (sr.kp ((Kp.set _ _ _).weak fun b h => by omega)).weak fun b h => .inr (by omega)
  · exact (ss.kp ((Kp.set _ _ _).weak fun b h => by omega)).weak fun b h => .inr (by omega)
theorem turn_err {p q : Nat → Prop} {H : Heap} {u w : AV} {x y : List (List Int)} (hx : Sl p H u x) (hy : Sl q H w y) (h : ¬ PuzP x y) : RetP E 45 [.ag [u, w]] H (.tp [.ag [.nils, .nils], .i 2]) := by
  refine RetP.ro rfl fn45 rfl rfl ?_
  unfold f45A
  have vu := hx.cellsV
  have vw := hy.cellsV
  have c0 : (H ++ [Blk.cells [u, w]] ++ [Blk.cells [.nils, .nils]])[H.length]? = some (.cells [u, w]) := by simp [List.getElem?_append]
  have c1 : (H ++ [Blk.cells [u, w]] ++ [Blk.cells [.nils, .nils]])[H.length + 1]? = some (.cells [.nils, .nils]) := by simp [List.getElem?_append]
  have hx2 := (hx.app [Blk.cells [u, w]]).app [Blk.cells [.nils, .nils]]
  have hy2 := (hy.app [Blk.cells [u, w]]).app [Blk.cells [.nils, .nils]]
  simp (disch := (first | assumption | omega | (simp only [List.length_append, List.length_cons, List.length_nil]; omega))) only [↓wD,wU,Nat.reduceBEq,zx150,zx151,zx159,zx160,zx161,zx162,Nat.reduceAdd,Nat.reduceSub,Nat.reduceMul,Nat.reduceLeDiff,Nat.reduceLT,Nat.reduceEqDiff,Int.reduceAdd,Int.reduceSub,Int.reduceMul,Int.reduceNeg,Int.reduceLT,Int.reduceLE,Int.reduceEq,Int.reduceToNat,Int.cast_ofNat_Int,↓reduceIte, vu, vw]
  generalize H ++ [Blk.cells [u, w]] ++ [Blk.cells [.nils, .nils]] = H2 at *
  have hv := pvalid_ret hx2 hy2
  rw [decide_eq_false h] at hv
  have hst : st H.length H2 (H.length + 1) 0 [.nils, .nils] = some (H2.set (H.length + 1) (.cells [.nils, .nils])) := by rw [st_of c1 (by omega) (by simp)]; simp [wr]
  simp (disch := (first | assumption | omega | (simp only [List.length_append, List.length_cons, List.length_nil]; omega))) only [↓wD,wU,Nat.reduceBEq,zx150,zx151,zx159,zx160,zx161,zx162,Nat.reduceAdd,Nat.reduceSub,Nat.reduceMul,Nat.reduceLeDiff,Nat.reduceLT,Nat.reduceEqDiff,Int.reduceAdd,Int.reduceSub,Int.reduceMul,Int.reduceNeg,Int.reduceLT,Int.reduceLE,Int.reduceEq,Int.reduceToNat,Int.cast_ofNat_Int,↓reduceIte, ldn_of c0, hv.call, hst, ldn_of (get_set c1)]
theorem rturn_ret {p : Nat → Prop} {H : Heap} {u w : AV} {x y : List (List Int)} (hx : Sl p H u x) (hy : Sl p H w y) : Ret E 48 [.ag [u, w]] p H (y, x) := by
  refine Ret.ro rfl fn48 rfl ?_
  unfold f48A
  have c0 : (H ++ [Blk.cells [u, w]] ++ [Blk.cells [.nils, .nils]])[H.length]? = some (.cells [u, w]) := by simp [List.getElem?_append]
  have c1 : (H ++ [Blk.cells [u, w]] ++ [Blk.cells [.nils, .nils]])[H.length + 1]? = some (.cells [.nils, .nils]) := by simp [List.getElem?_append]
  have hx2 := (hx.low.app [Blk.cells [u, w]]).app [Blk.cells [.nils, .nils]]
  have hy2 := (hy.low.app [Blk.cells [u, w]]).app [Blk.cells [.nils, .nils]]
  have hu := hx.cellsV
  have hw := hy.cellsV
  have hst : st H.length (H ++ [Blk.cells [u, w]] ++ [Blk.cells [.nils, .nils]]) (H.length + 1) 0 [w, u] = some ((H ++ [Blk.cells [u, w]] ++ [Blk.cells [.nils, .nils]]).set (H.length + 1) (.cells [w, u])) := by rw [st_of c1 (by omega) (by simp)]; simp [wr]
  have g1 := get_set (k := .cells [w, u]) c1
  have e1 := (hx2.kp ((Kp.set (H.length + 1) _ (.cells [w, u])).weak fun b h => by omega)).weak (q := fun b => p b ∨ H.length ≤ b) fun b h => .inl h.1
  have e2 := (hy2.kp ((Kp.set (H.length + 1) _ (.cells [w, u])).weak fun b h => by omega)).weak (q := fun b => p b ∨ H.length ≤ b) fun b h => .inl h.1
  generalize (H ++ [Blk.cells [u, w]] ++ [Blk.cells [.nils, .nils]]).set (H.length + 1) (.cells [w, u]) = H3 at *
  simp (disch := (first | assumption | omega | (simp only [List.length_append, List.length_cons, List.length_nil]; omega))) only [↓wD,wU,Nat.reduceBEq,zx150,zx151,zx159,zx160,zx161,zx162,Nat.reduceAdd,Nat.reduceSub,Nat.reduceMul,Nat.reduceLeDiff,Nat.reduceLT,Nat.reduceEqDiff,Int.reduceAdd,Int.reduceSub,Int.reduceMul,Int.reduceNeg,Int.reduceLT,Int.reduceLE,Int.reduceEq,Int.reduceToNat,Int.cast_ofNat_Int,↓reduceIte, hu, hw, ld_of c0, hst, ldn_of g1]
  exact rv_pp e2 e1
theorem backward_ret {p : Nat → Prop} {H : Heap} {v : AV} {xs : List Int} (hx : Sl p H v xs) (hl : xs.length ≤ 1000) : Ret E 80 [v] (fun _ => False) H xs.reverse := by
  refine Ret.ro rfl fn80 rfl ?_
  unfold f80A
  have hI := hx.I
  simp (disch := (first | assumption | omega | (simp only [List.length_append, List.length_cons, List.length_nil]; omega))) only [↓wD,wU,Nat.reduceBEq,zx150,zx151,zx159,zx160,zx161,zx162,Nat.reduceAdd,Nat.reduceSub,Nat.reduceMul,Nat.reduceLeDiff,Nat.reduceLT,Nat.reduceEqDiff,Int.reduceAdd,Int.reduceSub,Int.reduceMul,Int.reduceNeg,Int.reduceLT,Int.reduceLE,Int.reduceEq,Int.reduceToNat,Int.cast_ofNat_Int,↓reduceIte, hI]
  refine Wp.for xs.length (fun i a H' => ∃ u, a 0 = v ∧ a 3 = u ∧ a 4 = .i ((xs.length : Int) - 1 - i) ∧ Gr H H' ∧ Acc H.length (fun _ => False) H' u (xs.reverse.take i)) ?_ ?_
  · rintro i a H1 hi ⟨u, a0, a3, a4, hg, hu⟩ ih
    simp (disch := (first | assumption | omega | (simp only [List.length_append, List.length_cons, List.length_nil]; omega))) only [↓wD,wU,Nat.reduceBEq,zx150,zx151,zx159,zx160,zx161,zx162,Nat.reduceAdd,Nat.reduceSub,Nat.reduceMul,Nat.reduceLeDiff,Nat.reduceLT,Nat.reduceEqDiff,Int.reduceAdd,Int.reduceSub,Int.reduceMul,Int.reduceNeg,Int.reduceLT,Int.reduceLE,Int.reduceEq,Int.reduceToNat,Int.cast_ofNat_Int,↓reduceIte, a0, a3, a4]
    refine condP_split (fun hlt => ?_) (fun hlt => ?_)
    · have hi' : i < xs.length := by omega
      have hI1 := (hx.low.kp hg.all.weakT).I
      have ex : gi xs ((xs.length : Int) - 1 - i) = gi xs.reverse (i : Int) := by
        rw [show (xs.length : Int) - 1 - i = ((xs.length - 1 - i : Nat) : Int) by omega, gi_nat (by omega), gi_nat (by simpa using hi'), List.getElem_reverse]
      simp (disch := (first | assumption | omega | (simp only [List.length_append, List.length_cons, List.length_nil]; omega))) only [↓wD,wU,Nat.reduceBEq,zx150,zx151,zx159,zx160,zx161,zx162,Nat.reduceAdd,Nat.reduceSub,Nat.reduceMul,Nat.reduceLeDiff,Nat.reduceLT,Nat.reduceEqDiff,Int.reduceAdd,Int.reduceSub,Int.reduceMul,Int.reduceNeg,Int.reduceLT,Int.reduceLE,Int.reduceEq,Int.reduceToNat,Int.cast_ofNat_Int,↓reduceIte, a0, a3, a4, hI1, ex]
      refine hu.pushI (Nat.le_refl _) hg.1 (by rw [List.length_take]; simp; omega) fun u' H2 hu' hk2 _ _ => ?_
      simp (disch := (first | assumption | omega | (simp only [List.length_append, List.length_cons, List.length_nil]; omega))) only [↓wD,wU,Nat.reduceBEq,zx150,zx151,zx159,zx160,zx161,zx162,Nat.reduceAdd,Nat.reduceSub,Nat.reduceMul,Nat.reduceLeDiff,Nat.reduceLT,Nat.reduceEqDiff,Int.reduceAdd,Int.reduceSub,Int.reduceMul,Int.reduceNeg,Int.reduceLT,Int.reduceLE,Int.reduceEq,Int.reduceToNat,Int.cast_ofNat_Int,↓reduceIte, a0, a3, a4]
      refine (ih hi').go ⟨u', ?_⟩
      simp (disch := (first | assumption | omega | (simp only [List.length_append, List.length_cons, List.length_nil]; omega))) only [↓wD,wU,Nat.reduceBEq,zx150,zx151,zx159,zx160,zx161,zx162,Nat.reduceAdd,Nat.reduceSub,Nat.reduceMul,Nat.reduceLeDiff,Nat.reduceLT,Nat.reduceEqDiff,Int.reduceAdd,Int.reduceSub,Int.reduceMul,Int.reduceNeg,Int.reduceLT,Int.reduceLE,Int.reduceEq,Int.reduceToNat,Int.cast_ofNat_Int,↓reduceIte, a0, a3, a4]
      rw [take_gi (show i < xs.reverse.length by simpa using hi')]
      refine ⟨?_, hg.push hu (Nat.le_refl _) hk2, hu'⟩
      congr 1; omega
    · obtain rfl : i = xs.length := by omega
      rw [List.take_of_length_le (by simp)] at hu
      simp (disch := (first | assumption | omega | (simp only [List.length_append, List.length_cons, List.length_nil]; omega))) only [↓wD,wU,Nat.reduceBEq,zx150,zx151,zx159,zx160,zx161,zx162,Nat.reduceAdd,Nat.reduceSub,Nat.reduceMul,Nat.reduceLeDiff,Nat.reduceLT,Nat.reduceEqDiff,Int.reduceAdd,Int.reduceSub,Int.reduceMul,Int.reduceNeg,Int.reduceLT,Int.reduceLE,Int.reduceEq,Int.reduceToNat,Int.cast_ofNat_Int,↓reduceIte, a0, a3, a4]
      exact hu.sl
  · simp (disch := (first | assumption | omega | (simp only [List.length_append, List.length_cons, List.length_nil]; omega))) only [↓wD,wU,Nat.reduceBEq,zx150,zx151,zx159,zx160,zx161,zx162,Nat.reduceAdd,Nat.reduceSub,Nat.reduceMul,Nat.reduceLeDiff,Nat.reduceLT,Nat.reduceEqDiff,Int.reduceAdd,Int.reduceSub,Int.reduceMul,Int.reduceNeg,Int.reduceLT,Int.reduceLE,Int.reduceEq,Int.reduceToNat,Int.cast_ofNat_Int,↓reduceIte]
    exact ⟨.nils, rfl, by simp, Gr.refl _, Acc.nil⟩
end Go.Proofs.YtjjndoigkhabdaaDoor
namespace Go.Proofs.YtjjndoigkhabdaaDoor
open Go Go.AM Go.Proofs
theorem Sl_accI {L : Nat} {H : Heap} {v : AV} {xs : List Int} (h : Sl (fun b => L ≤ b) H v xs) : Acc L (fun _ => False) H v xs := by
  rcases h with h | ⟨b, o, c, k, rfl, hb, hk, h1, h2, h3⟩
  · exact .inl h
  · exact .inr ⟨b, o, c, k, rfl, hb, hk, h1, h2, fun i hi => h3 i hi⟩
theorem get_kx {p : Nat → Prop} {H H' : Heap} {v : AV} {k : Int} (hx : Kx p H H') (h : ∀ b, v.blk = some b → p b ∧ b < H.length) : v.get H' k = v.get H k := by
  cases v <;> try rfl
  rename_i e b o m c
  obtain ⟨h1, h2⟩ := h b rfl
  simp only [AV.get, ld, hx.2 b h2 h1]
/-- the first rows turned over -/
def mixR (t : List (List Int)) (i : Nat) : List (List Int) := (t.take i).map List.reverse ++ t.drop i
theorem mixR_len {t : List (List Int)} {i : Nat} : (mixR t i).length = t.length := by unfold mixR; simp; omega
theorem mixR_gi {t : List (List Int)} {i : Nat} (h : i < t.length) : gi (mixR t i) (i : Int) = gi t (i : Int) := by
  rw [gi_nat (by rw [mixR_len]; exact h), gi_nat h]
  unfold mixR
  rw [List.getElem_append_right (by simp; omega)]
  simp [show min i t.length = i by omega]
theorem mixR_set {t : List (List Int)} {i : Nat} (h : i < t.length) : (mixR t i).set i (gi t (i : Int)).reverse = mixR t (i + 1) := by
  unfold mixR
  have e : t.drop i = gi t (i : Int) :: t.drop (i + 1) := by rw [gi_nat h]; exact List.drop_eq_getElem_cons h
  rw [e, List.set_append_right _ _ (by simp; omega), take_gi h, List.map_append]
  simp [show min i t.length = i by omega]
theorem mirror_ret {p q : Nat → Prop} {H : Heap} {u w : AV} {x y : List (List Int)} (hx : Sl p H u x) (hy : Sl q H w y) (h : PuzP x y) : Ret E 46 [.ag [u, w]] (fun _ => False) H (T2.mk (x.map List.reverse, y.reverse) (0 : Int)) := by
  refine Ret.ro rfl fn46 rfl ?_
  unfold f46A
  have vu := hx.cellsV
  have vw := hy.cellsV
  have c0 : (H ++ [Blk.cells [u, w]] ++ [Blk.cells [.nils, .nils]])[H.length]? = some (.cells [u, w]) := by simp [List.getElem?_append]
  have c1 : (H ++ [Blk.cells [u, w]] ++ [Blk.cells [.nils, .nils]])[H.length + 1]? = some (.cells [.nils, .nils]) := by simp [List.getElem?_append]
  have hx2 := (hx.app [Blk.cells [u, w]]).app [Blk.cells [.nils, .nils]]
  have hy2 := (hy.app [Blk.cells [u, w]]).app [Blk.cells [.nils, .nils]]
  have hn : (H ++ [Blk.cells [u, w]] ++ [Blk.cells [.nils, .nils]]).length = H.length + 2 := by simp
  simp (disch := (first | assumption | omega | (simp only [List.length_append, List.length_cons, List.length_nil]; omega))) only [↓wD,wU,Nat.reduceBEq,zx150,zx151,zx159,zx160,zx161,zx162,Nat.reduceAdd,Nat.reduceSub,Nat.reduceMul,Nat.reduceLeDiff,Nat.reduceLT,Nat.reduceEqDiff,Int.reduceAdd,Int.reduceSub,Int.reduceMul,Int.reduceNeg,Int.reduceLT,Int.reduceLE,Int.reduceEq,Int.reduceToNat,Int.cast_ofNat_Int,↓reduceIte, vu, vw]
  generalize H ++ [Blk.cells [u, w]] ++ [Blk.cells [.nils, .nils]] = H2 at *
  have hv := pvalid_ret hx2 hy2
  rw [decide_eq_true h] at hv
  obtain ⟨sx, sy⟩ := h.small
  have lx5 := sx.1
  have ly5 := sy.1
  simp (disch := (first | assumption | omega | (simp only [List.length_append, List.length_cons, List.length_nil]; omega))) only [↓wD,wU,Nat.reduceBEq,zx150,zx151,zx159,zx160,zx161,zx162,Nat.reduceAdd,Nat.reduceSub,Nat.reduceMul,Nat.reduceLeDiff,Nat.reduceLT,Nat.reduceEqDiff,Int.reduceAdd,Int.reduceSub,Int.reduceMul,Int.reduceNeg,Int.reduceLT,Int.reduceLE,Int.reduceEq,Int.reduceToNat,Int.cast_ofNat_Int,↓reduceIte, ldn_of c0, hv.call, ld_of c0]
  refine (clonet_ret hx2 sx.clone.1 sx.clone.2).toX fun r H3 x3 hr => ?_
  have tr : TB H2.length H3 r x := TB.of hr fun b h => h.elim (fun h => h.elim) id
  have c03 := x3.get trivial c0
  have c13 := x3.get trivial c1
  have hl3 := x3.1
  have rlt : ∀ i : Nat, i < x.length → ∀ c, (r.get H3 (i : Int)).blk = some c → c < H3.length := fun i hi c hc => by
    obtain ⟨y', rfl, _, hs, _⟩ := tr.row hi
    exact (hs.blkp hc).2
  have rb : ∀ b, r.blk = some b → b < H3.length := fun b hb => (tr.blk_lt hb).2
  simp (disch := (first | assumption | omega | (simp only [List.length_append, List.length_cons, List.length_nil]; omega))) only [↓wD,wU,Nat.reduceBEq,zx150,zx151,zx159,zx160,zx161,zx162,Nat.reduceAdd,Nat.reduceSub,Nat.reduceMul,Nat.reduceLeDiff,Nat.reduceLT,Nat.reduceEqDiff,Int.reduceAdd,Int.reduceSub,Int.reduceMul,Int.reduceNeg,Int.reduceLT,Int.reduceLE,Int.reduceEq,Int.reduceToNat,Int.cast_ofNat_Int,↓reduceIte, ld_of c03]
  refine (clonet_ret (hy2.kp (x3.all _).kp) sy.clone.1 sy.clone.2).toX fun s H4 x4 hs => ?_
  have ts : TB H3.length H4 s y := TB.of hs fun b h => h.elim (fun h => h.elim) id
  have c14 := x4.get trivial c13
  have hl4 := x4.1
  have tr4 := tr.gr (x4.all _).kp
  have trV := tr4.sl.cellsV
  have tsV := ts.sl.cellsV
  have rlt4 : ∀ i : Nat, i < x.length → ∀ c, (r.get H4 (i : Int)).blk = some c → c < H3.length := fun i hi c hc => by
    rw [get_kx x4 fun b hb => ⟨trivial, rb b hb⟩] at hc
    exact rlt i hi c hc
  obtain ⟨H5, eH5⟩ : ∃ H5, H4 ++ [Blk.cells [r, s]] = H5 := ⟨_, rfl⟩
  have hst : st H.length (H4 ++ [Blk.cells [.nils, .nils]]) H4.length 0 [r, s] = some H5 := by
    rw [st_of get_last (by omega) (by simp), ← eH5]
    congr 1
    simp [wr]
  have x45 : Kx (fun _ => True) H4 H5 := by rw [← eH5]; exact Kx.app _ _ _
  have n5 : H5.length = H4.length + 1 := by rw [← eH5]; simp
  have g5 : H5[H4.length]? = some (.cells [r, s]) := by rw [← eH5]; exact get_last
  have c15 := x45.get trivial c14
  have tr5 := tr4.gr (x45.all _).kp
  have ts5 := ts.gr (x45.all _).kp
  have sb : ∀ b, s.blk = some b → H3.length ≤ b ∧ b < H4.length := fun b hb => ts.blk_lt hb
  have rlt5 : ∀ i : Nat, i < x.length → ∀ c, (r.get H5 (i : Int)).blk = some c → c < H3.length := fun i hi c hc => by
    rw [get_kx x45 fun b hb => ⟨trivial, by have := rb b hb; omega⟩] at hc
    exact rlt4 i hi c hc
  clear eH5 tr tr4 rlt rlt4 hr hs
  simp (disch := (first | assumption | omega | (simp only [List.length_append, List.length_cons, List.length_nil]; omega))) only [↓wD,wU,Nat.reduceBEq,zx150,zx151,zx159,zx160,zx161,zx162,Nat.reduceAdd,Nat.reduceSub,Nat.reduceMul,Nat.reduceLeDiff,Nat.reduceLT,Nat.reduceEqDiff,Int.reduceAdd,Int.reduceSub,Int.reduceMul,Int.reduceNeg,Int.reduceLT,Int.reduceLE,Int.reduceEq,Int.reduceToNat,Int.cast_ofNat_Int,↓reduceIte, trV, tsV, hst, ld_of g5]
  refine callI (acc_rev rfl (lo := H.length) ts5.accL (by omega) (by omega) (fun _ => rev2_nil) rev2_raw ?_)
  intro _ H6 x56 cs hl6
  have c16 := x56.get (b := H.length + 1) (fun e => by have := sb _ e; omega) c15
  have g6 := x56.get (b := H4.length) (fun e => by have := sb _ e; omega) g5
  have tr6 : TB H2.length H6 r x := by
    obtain ⟨rs, e1, e2, e3⟩ := tr5
    refine ⟨rs, e1, e2, ?_⟩
    have hrs : ∀ z ∈ rs, ∀ c, z.v.blk = some c → c < H3.length := by
      intro z hz c hc
      obtain ⟨i, hi, rfl⟩ := List.mem_iff_getElem.1 hz
      refine rlt5 i (by rw [← e1]; simpa using hi) c ?_
      rcases e3 with ⟨_, rfl⟩ | ⟨b1, o, c', k, rfl, hb1, hk, h1, h2, h3⟩
      · simp at hi
      · obtain ⟨e, _⟩ := h3 i hi
        change (k.drop (o + i * 1)).take 1 = _ at e
        have e2 := take1 e
        have eg : AV.get H5 (.s (Rep.sz RW) b1 o rs.length c') (i : Int) = rs[i].v := by
          change (ld H5 b1 (o + i * 1)).getD .un = _
          simp only [ld, hk, e2]; rfl
        rw [eg]; exact hc
    rcases e3 with e3 | ⟨b1, o, c', k, rfl, hb1, hk, h1, h2, h3⟩
    · exact .inl e3
    · refine .inr ⟨b1, o, c', k, rfl, hb1, x56.get (fun e => by have := sb _ e; have := rb _ rfl; omega) hk, h1, h2, fun i hi => ?_⟩
      obtain ⟨e, hs⟩ := h3 i hi
      refine ⟨e, (hs.own.kp (x56.weak (q := fun b => rs[i].v.blk = some b) fun b _ hb e => ?_).kp).weak fun b hb => (hs.blkp hb).1⟩
      have h9 := hrs _ (List.getElem_mem hi) b hb
      have := sb b e
      omega
  have rlt6 : ∀ i : Nat, i < x.length → ∀ c, (r.get H6 (i : Int)).blk = some c → c < H3.length := fun i hi c hc => by
    rw [get_kx x56 fun b hb => ⟨fun e => by have := sb _ e; have := rb _ hb; omega, by have := rb b hb; omega⟩] at hc
    exact rlt5 i hi c hc
  clear tr5 rlt5 ts5 ts
  have lr := tr6.sl.L
  simp (disch := (first | assumption | omega | (simp only [List.length_append, List.length_cons, List.length_nil]; omega))) only [↓wD,wU,Nat.reduceBEq,zx150,zx151,zx159,zx160,zx161,zx162,Nat.reduceAdd,Nat.reduceSub,Nat.reduceMul,Nat.reduceLeDiff,Nat.reduceLT,Nat.reduceEqDiff,Int.reduceAdd,Int.reduceSub,Int.reduceMul,Int.reduceNeg,Int.reduceLT,Int.reduceLE,Int.reduceEq,Int.reduceToNat,Int.cast_ofNat_Int,↓reduceIte, ld_of g6, lr]
  refine Wp.for x.length (fun i a H' => a 2 = .p (H.length + 1) 0 ∧ a 4 = .p H4.length 0 ∧ a 22 = r ∧ a 23 = .i x.length ∧ a 24 = .i i ∧ TB H2.length H' r (mixR x i) ∧ Kx (fun b => H3.length ≤ b ∨ b < H2.length) H6 H' ∧ (∀ j : Nat, j < x.length → ∀ c, (r.get H' (j : Int)).blk = some c → c < H3.length)) ?_ ?_
  · rintro i a H7 hi ⟨a2, a4, a22, a23, a24, tr7, x67, rlt7⟩ ih
    simp (disch := (first | assumption | omega | (simp only [List.length_append, List.length_cons, List.length_nil]; omega))) only [↓wD,wU,Nat.reduceBEq,zx150,zx151,zx159,zx160,zx161,zx162,Nat.reduceAdd,Nat.reduceSub,Nat.reduceMul,Nat.reduceLeDiff,Nat.reduceLT,Nat.reduceEqDiff,Int.reduceAdd,Int.reduceSub,Int.reduceMul,Int.reduceNeg,Int.reduceLT,Int.reduceLE,Int.reduceEq,Int.reduceToNat,Int.cast_ofNat_Int,↓reduceIte, a2, a4, a22, a23, a24]
    have hl7 := x67.1
    refine condP_split (fun hlt => ?_) (fun hlt => ?_)
    · have hi' : i < x.length := by omega
      obtain ⟨yv, ey, el, hs7, hne, hup⟩ := tr7.row (i := i) (by rw [mixR_len]; exact hi')
      rw [mixR_gi hi'] at hs7
      have hlt7 := rlt7 i hi'
      rw [ey] at hlt7
      have il := tr7.sl.L.2.1 .i64 (i : Int) (by omega) (by rw [mixR_len]; omega)
      have hrl := (sx.2 _ (mem_gi hi')).2
      simp (disch := (first | assumption | omega | (simp only [List.length_append, List.length_cons, List.length_nil]; omega))) only [↓wD,wU,Nat.reduceBEq,zx150,zx151,zx159,zx160,zx161,zx162,Nat.reduceAdd,Nat.reduceSub,Nat.reduceMul,Nat.reduceLeDiff,Nat.reduceLT,Nat.reduceEqDiff,Int.reduceAdd,Int.reduceSub,Int.reduceMul,Int.reduceNeg,Int.reduceLT,Int.reduceLE,Int.reduceEq,Int.reduceToNat,Int.cast_ofNat_Int,↓reduceIte, a2, a4, a22, a23, a24, il, el]
      refine callI (acc_rev rfl (lo := H.length) (Sl_accI hs7) (by omega) (by omega) (fun _ => rev1_nil) rev1_raw ?_)
      intro _ H8 x78 cs8 hl8
      have t8 := hup H8 _ x78 (cs8.sl.weak fun b h => h.elim (fun h => h.elim) id)
      rw [mixR_set hi'] at t8
      simp (disch := (first | assumption | omega | (simp only [List.length_append, List.length_cons, List.length_nil]; omega))) only [↓wD,wU,Nat.reduceBEq,zx150,zx151,zx159,zx160,zx161,zx162,Nat.reduceAdd,Nat.reduceSub,Nat.reduceMul,Nat.reduceLeDiff,Nat.reduceLT,Nat.reduceEqDiff,Int.reduceAdd,Int.reduceSub,Int.reduceMul,Int.reduceNeg,Int.reduceLT,Int.reduceLE,Int.reduceEq,Int.reduceToNat,Int.cast_ofNat_Int,↓reduceIte, a2, a4, a22, a23, a24]
      refine (ih hi').go ?_
      simp (disch := (first | assumption | omega | (simp only [List.length_append, List.length_cons, List.length_nil]; omega))) only [↓wD,wU,Nat.reduceBEq,zx150,zx151,zx159,zx160,zx161,zx162,Nat.reduceAdd,Nat.reduceSub,Nat.reduceMul,Nat.reduceLeDiff,Nat.reduceLT,Nat.reduceEqDiff,Int.reduceAdd,Int.reduceSub,Int.reduceMul,Int.reduceNeg,Int.reduceLT,Int.reduceLE,Int.reduceEq,Int.reduceToNat,Int.cast_ofNat_Int,↓reduceIte, a2, a4, a22, a23, a24]
      refine ⟨t8, x67.trans x78 fun b _ h e => ?_, fun j hj c hc => ?_⟩
      · have h8 := hlt7 b e
        have h9 := (hs7.blkp e).1
        omega
      · rw [get_kx x78 fun b hb => ⟨hne b hb, (tr7.blk_lt hb).2⟩] at hc
        exact rlt7 j hj c hc
    · obtain rfl : i = x.length := by omega
      have em : mixR x x.length = x.map List.reverse := by unfold mixR; simp
      rw [em] at tr7
      have c17 := x67.get (b := H.length + 1) (.inr (by omega)) c16
      have g7 := x67.get (b := H4.length) (.inl (by omega)) g6
      have cs7 := cs.mono (x67.weak fun b _ h => .inl (h.elim id id)).kp fun _ h => h
      have hst2 : st H.length H7 (H.length + 1) 0 [r, s] = some (H7.set (H.length + 1) (.cells [r, s])) := by rw [st_of c17 (by omega) (by simp)]; simp [wr]
      simp (disch := (first | assumption | omega | (simp only [List.length_append, List.length_cons, List.length_nil]; omega))) only [↓wD,wU,Nat.reduceBEq,zx150,zx151,zx159,zx160,zx161,zx162,Nat.reduceAdd,Nat.reduceSub,Nat.reduceMul,Nat.reduceLeDiff,Nat.reduceLT,Nat.reduceEqDiff,Int.reduceAdd,Int.reduceSub,Int.reduceMul,Int.reduceNeg,Int.reduceLT,Int.reduceLE,Int.reduceEq,Int.reduceToNat,Int.cast_ofNat_Int,↓reduceIte, a2, a4, ldn_of g7, trV, tsV, hst2, ldn_of (get_set c17)]
      refine rv_2 (rv_pp ?_ ?_) rv_i
      · exact (tr7.sl.kp ((Kp.set _ _ _).weak fun b h => by omega)).weak fun b h => .inr (by omega)
      · exact (cs7.sl.kp ((Kp.set _ _ _).weak fun b h => by have := h.elim id id; omega)).weak fun b h => .inr (by have := h.elim id id; omega)
  · simp (disch := (first | assumption | omega | (simp only [List.length_append, List.length_cons, List.length_nil]; omega))) only [↓wD,wU,Nat.reduceBEq,zx150,zx151,zx159,zx160,zx161,zx162,Nat.reduceAdd,Nat.reduceSub,Nat.reduceMul,Nat.reduceLeDiff,Nat.reduceLT,Nat.reduceEqDiff,Int.reduceAdd,Int.reduceSub,Int.reduceMul,Int.reduceNeg,Int.reduceLT,Int.reduceLE,Int.reduceEq,Int.reduceToNat,Int.cast_ofNat_Int,↓reduceIte]
    have em : mixR x 0 = x := by unfold mixR; simp
    rw [em]
    exact ⟨tr6, Kx.refl _ _, rlt6⟩
theorem mirror_err {p q : Nat → Prop} {H : Heap} {u w : AV} {x y : List (List Int)} (hx : Sl p H u x) (hy : Sl q H w y) (h : ¬ PuzP x y) : RetP E 46 [.ag [u, w]] H (.tp [.ag [.nils, .nils], .i 2]) := by
  refine RetP.ro rfl fn46 rfl rfl ?_
  unfold f46A
  have vu := hx.cellsV
  have vw := hy.cellsV
  have c0 : (H ++ [Blk.cells [u, w]] ++ [Blk.cells [.nils, .nils]])[H.length]? = some (.cells [u, w]) := by simp [List.getElem?_append]
  have c1 : (H ++ [Blk.cells [u, w]] ++ [Blk.cells [.nils, .nils]])[H.length + 1]? = some (.cells [.nils, .nils]) := by simp [List.getElem?_append]
  have hx2 := (hx.app [Blk.cells [u, w]]).app [Blk.cells [.nils, .nils]]
  have hy2 := (hy.app [Blk.cells [u, w]]).app [Blk.cells [.nils, .nils]]
  simp (disch := (first | assumption | omega | (simp only [List.length_append, List.length_cons, List.length_nil]; omega))) only [↓wD,wU,Nat.reduceBEq,zx150,zx151,zx159,zx160,zx161,zx162,Nat.reduceAdd,Nat.reduceSub,Nat.reduceMul,Nat.reduceLeDiff,Nat.reduceLT,Nat.reduceEqDiff,Int.reduceAdd,Int.reduceSub,Int.reduceMul,Int.reduceNeg,Int.reduceLT,Int.reduceLE,Int.reduceEq,Int.reduceToNat,Int.cast_ofNat_Int,↓reduceIte, vu, vw]
  generalize H ++ [Blk.cells [u, w]] ++ [Blk.cells [.nils, .nils]] = H2 at *
  have hv := pvalid_ret hx2 hy2
  rw [decide_eq_false h] at hv
  have hst : st H.length H2 (H.length + 1) 0 [.nils, .nils] = some (H2.set (H.length + 1) (.cells [.nils, .nils])) := by rw [st_of c1 (by omega) (by simp)]; simp [wr]
  simp (disch := (first | assumption | omega | (simp only [List.length_append, List.length_cons, List.length_nil]; omega))) only [↓wD,wU,Nat.reduceBEq,zx150,zx151,zx159,zx160,zx161,zx162,Nat.reduceAdd,Nat.reduceSub,Nat.reduceMul,Nat.reduceLeDiff,Nat.reduceLT,Nat.reduceEqDiff,Int.reduceAdd,Int.reduceSub,Int.reduceMul,Int.reduceNeg,Int.reduceLT,Int.reduceLE,Int.reduceEq,Int.reduceToNat,Int.cast_ofNat_Int,↓reduceIte, ldn_of c0, hv.call, hst, ldn_of (get_set c1)]
end Go.Proofs.YtjjndoigkhabdaaDoor
namespace Go.Proofs.YtjjndoigkhabdaaDoor
open Go Go.AM Go.Proofs
theorem rmirror_ret {p : Nat → Prop} {H : Heap} {u w : AV} {x y : List (List Int)} (hx : Sl p H u x) (hy : Sl p H w y) (h : PuzP x y) : Ret E 49 [.ag [u, w]] p H (x.map List.reverse, y.reverse) := by
  refine Ret.ro rfl fn49 rfl ?_
  unfold f49A
  have vu := hx.cellsV
  have vw := hy.cellsV
  have c0 : (H ++ [Blk.cells [u, w]] ++ [Blk.cells [.nils, .nils]] ++ [Blk.cells [.nils, .nils]])[H.length]? = some (.cells [u, w]) := by simp [List.getElem?_append]
  have c1 : (H ++ [Blk.cells [u, w]] ++ [Blk.cells [.nils, .nils]] ++ [Blk.cells [.nils, .nils]])[H.length + 1]? = some (.cells [.nils, .nils]) := by simp [List.getElem?_append]
  have c2 : (H ++ [Blk.cells [u, w]] ++ [Blk.cells [.nils, .nils]] ++ [Blk.cells [.nils, .nils]])[H.length + 2]? = some (.cells [.nils, .nils]) := by simp [List.getElem?_append]
  have kx := ((hx.low.app [Blk.cells [u, w]]).app [Blk.cells [.nils, .nils]]).app [Blk.cells [.nils, .nils]]
  have ky := ((hy.low.app [Blk.cells [u, w]]).app [Blk.cells [.nils, .nils]]).app [Blk.cells [.nils, .nils]]
  have hn : (H ++ [Blk.cells [u, w]] ++ [Blk.cells [.nils, .nils]] ++ [Blk.cells [.nils, .nils]]).length = H.length + 3 := by simp
  obtain ⟨sx, sy⟩ := h.small
  have lx5 := sx.1
  have ly5 := sy.1
  have kL := kx.L
  simp (disch := (first | assumption | omega | (simp only [List.length_append, List.length_cons, List.length_nil]; omega))) only [↓wD,wU,Nat.reduceBEq,zx150,zx151,zx159,zx160,zx161,zx162,Nat.reduceAdd,Nat.reduceSub,Nat.reduceMul,Nat.reduceLeDiff,Nat.reduceLT,Nat.reduceEqDiff,Int.reduceAdd,Int.reduceSub,Int.reduceMul,Int.reduceNeg,Int.reduceLT,Int.reduceLE,Int.reduceEq,Int.reduceToNat,Int.cast_ofNat_Int,↓reduceIte, vu, vw, kL]
  generalize H ++ [Blk.cells [u, w]] ++ [Blk.cells [.nils, .nils]] ++ [Blk.cells [.nils, .nils]] = H2 at *
  refine Wp.for x.length (fun i a H' => ∃ z, a 1 = .p H.length 0 ∧ a 2 = .p (H.length + 1) 0 ∧ a 3 = .p (H.length + 2) 0 ∧ a 8 = u ∧ a 9 = .i x.length ∧ a 10 = .i i ∧ Kp (fun b => b < H2.length ∧ b ≠ H.length + 2) H2 H' ∧
    H'[H.length + 2]? = some (.cells [z, .nils]) ∧ Acc H2.length (fun b => H2.length ≤ b) H' z ((x.take i).map List.reverse)) ?_ ?_
  · rintro i a H3 hi ⟨z, a1, a2, a3, a8, a9, a10, hk, c3, hz⟩ ih
    have hl3 := hk.1
    simp (disch := (first | assumption | omega | (simp only [List.length_append, List.length_cons, List.length_nil]; omega))) only [↓wD,wU,Nat.reduceBEq,zx150,zx151,zx159,zx160,zx161,zx162,Nat.reduceAdd,Nat.reduceSub,Nat.reduceMul,Nat.reduceLeDiff,Nat.reduceLT,Nat.reduceEqDiff,Int.reduceAdd,Int.reduceSub,Int.reduceMul,Int.reduceNeg,Int.reduceLT,Int.reduceLE,Int.reduceEq,Int.reduceToNat,Int.cast_ofNat_Int,↓reduceIte, a1, a2, a3, a8, a9, a10]
    have kx3 : Sl (fun b => p b ∧ b < H.length) H3 u x := kx.kp (hk.weak fun b h => by omega)
    refine condP_split (fun hlt => ?_) (fun hlt => ?_)
    · have hi' : i < x.length := by omega
      have g := kx3.get (k := (i : Int)) (by omega) (by omega)
      have hr := (sx.2 _ (mem_gi hi')).2
      simp (disch := (first | assumption | omega | (simp only [List.length_append, List.length_cons, List.length_nil]; omega))) only [↓wD,wU,Nat.reduceBEq,zx150,zx151,zx159,zx160,zx161,zx162,Nat.reduceAdd,Nat.reduceSub,Nat.reduceMul,Nat.reduceLeDiff,Nat.reduceLT,Nat.reduceEqDiff,Int.reduceAdd,Int.reduceSub,Int.reduceMul,Int.reduceNeg,Int.reduceLT,Int.reduceLE,Int.reduceEq,Int.reduceToNat,Int.cast_ofNat_Int,↓reduceIte, a1, a2, a3, a8, a9, a10, kx3.L, ld_of c3]
      refine (backward_ret g (by omega)).toF fun yv H4 hg4 hyv => ?_
      have hl4 := hg4.1
      have hz4 := hz.gr hg4
      simp (disch := (first | assumption | omega | (simp only [List.length_append, List.length_cons, List.length_nil]; omega))) only [↓wD,wU,Nat.reduceBEq,zx150,zx151,zx159,zx160,zx161,zx162,Nat.reduceAdd,Nat.reduceSub,Nat.reduceMul,Nat.reduceLeDiff,Nat.reduceLT,Nat.reduceEqDiff,Int.reduceAdd,Int.reduceSub,Int.reduceMul,Int.reduceNeg,Int.reduceLT,Int.reduceLE,Int.reduceEq,Int.reduceToNat,Int.cast_ofNat_Int,↓reduceIte, hyv.cellsV]
      refine hz4.pushL (by omega) (by omega) hyv (fun b hb => ⟨by omega, fun e => by have := hz.blk_lt e; omega⟩) (by rw [List.length_map, List.length_take]; omega) fun z' H5 hz' hk5 hl5 _ => ?_
      have c5 := hk5.get (b := H.length + 2) (fun e => by have := hz4.blk_lt e; omega) (hg4.get c3)
      simp (disch := (first | assumption | omega | (simp only [List.length_append, List.length_cons, List.length_nil]; omega))) only [↓wD,wU,Nat.reduceBEq,zx150,zx151,zx159,zx160,zx161,zx162,Nat.reduceAdd,Nat.reduceSub,Nat.reduceMul,Nat.reduceLeDiff,Nat.reduceLT,Nat.reduceEqDiff,Int.reduceAdd,Int.reduceSub,Int.reduceMul,Int.reduceNeg,Int.reduceLT,Int.reduceLE,Int.reduceEq,Int.reduceToNat,Int.cast_ofNat_Int,↓reduceIte, a1, a2, a3, a8, a9, a10, st_of c5, hz'.cellsV]
      refine (ih hi').go ⟨z', ?_⟩
      simp (disch := (first | assumption | omega | (simp only [List.length_append, List.length_cons, List.length_nil]; omega))) only [↓wD,wU,Nat.reduceBEq,zx150,zx151,zx159,zx160,zx161,zx162,Nat.reduceAdd,Nat.reduceSub,Nat.reduceMul,Nat.reduceLeDiff,Nat.reduceLT,Nat.reduceEqDiff,Int.reduceAdd,Int.reduceSub,Int.reduceMul,Int.reduceNeg,Int.reduceLT,Int.reduceLE,Int.reduceEq,Int.reduceToNat,Int.cast_ofNat_Int,↓reduceIte, a1, a2, a3, a8, a9, a10]
      rw [take_gi hi', List.map_append]
      refine ⟨?_, get_set c5, hz'.mono ((Kp.set _ _ _).weak fun b hb => by omega) fun _ h => h⟩
      exact ((hk.trans hg4.all fun _ _ => trivial).trans hk5 fun b hb e => by have := hz4.blk_lt e; omega).trans (Kp.set _ _ _) fun b hb => hb.2
    · obtain rfl : i = x.length := by omega
      rw [List.take_length] at hz
      clear ih
      have hzs : Sl (fun b => H2.length ≤ b ∧ b < H3.length) H3 z (x.map List.reverse) := hz.sl.low.weak fun b h => ⟨h.1.elim id id, h.2⟩
      have c0' := hk.get (b := H.length) ⟨by omega, by omega⟩ c0
      have ky3 : Sl (fun b => p b ∧ b < H.length) H3 w y := ky.kp (hk.weak fun b h => by omega)
      simp (disch := (first | assumption | omega | (simp only [List.length_append, List.length_cons, List.length_nil]; omega))) only [↓wD,wU,Nat.reduceBEq,zx150,zx151,zx159,zx160,zx161,zx162,Nat.reduceAdd,Nat.reduceSub,Nat.reduceMul,Nat.reduceLeDiff,Nat.reduceLT,Nat.reduceEqDiff,Int.reduceAdd,Int.reduceSub,Int.reduceMul,Int.reduceNeg,Int.reduceLT,Int.reduceLE,Int.reduceEq,Int.reduceToNat,Int.cast_ofNat_Int,↓reduceIte, a1, a2, a3, ld_of c0', ky3.L]
      refine Wp.for y.length (fun i a H' => ∃ s, a 1 = .p H.length 0 ∧ a 2 = .p (H.length + 1) 0 ∧ a 3 = .p (H.length + 2) 0 ∧ a 6 = .i ((y.length : Int) - 1 - i) ∧ Kp (fun b => b < H3.length ∧ b ≠ H.length + 2) H3 H' ∧
        H'[H.length + 2]? = some (.cells [z, s]) ∧ Acc H3.length (fun b => H3.length ≤ b ∨ (p b ∧ b < H.length)) H' s (y.reverse.take i)) ?_ ?_
      · clear a1 a2 a3 a8 a9 a10
        rintro i a H4 hi ⟨s, a1, a2, a3, a6, hk4, c4, hs⟩ ih
        have hl4 := hk4.1
        simp (disch := (first | assumption | omega | (simp only [List.length_append, List.length_cons, List.length_nil]; omega))) only [↓wD,wU,Nat.reduceBEq,zx150,zx151,zx159,zx160,zx161,zx162,Nat.reduceAdd,Nat.reduceSub,Nat.reduceMul,Nat.reduceLeDiff,Nat.reduceLT,Nat.reduceEqDiff,Int.reduceAdd,Int.reduceSub,Int.reduceMul,Int.reduceNeg,Int.reduceLT,Int.reduceLE,Int.reduceEq,Int.reduceToNat,Int.cast_ofNat_Int,↓reduceIte, a1, a2, a3, a6]
        have ky4 : Sl (fun b => p b ∧ b < H.length) H4 w y := ky3.kp (hk4.weak fun b h => by omega)
        refine condP_split (fun hlt => ?_) (fun hlt => ?_)
        · have hi' : i < y.length := by omega
          have g := ky4.get (k := (y.length : Int) - 1 - i) (by omega) (by omega)
          have ex : gi y ((y.length : Int) - 1 - i) = gi y.reverse (i : Int) := by
            rw [show (y.length : Int) - 1 - i = ((y.length - 1 - i : Nat) : Int) by omega, gi_nat (by omega), gi_nat (by simpa using hi'), List.getElem_reverse]
          rw [ex] at g
          have c04 := hk4.get (b := H.length) ⟨by omega, by omega⟩ c0'
          simp (disch := (first | assumption | omega | (simp only [List.length_append, List.length_cons, List.length_nil]; omega))) only [↓wD,wU,Nat.reduceBEq,zx150,zx151,zx159,zx160,zx161,zx162,Nat.reduceAdd,Nat.reduceSub,Nat.reduceMul,Nat.reduceLeDiff,Nat.reduceLT,Nat.reduceEqDiff,Int.reduceAdd,Int.reduceSub,Int.reduceMul,Int.reduceNeg,Int.reduceLT,Int.reduceLE,Int.reduceEq,Int.reduceToNat,Int.cast_ofNat_Int,↓reduceIte, a1, a2, a3, a6, ld_of c4, ld_of c04, ky4.L, g.cellsV]
          refine hs.pushL (by omega) (by omega) g (fun b hb => ⟨.inr hb, fun e => by have := hs.blk_lt e; omega⟩) (by rw [List.length_take]; simp; omega) fun s' H5 hs' hk5 hl5 _ => ?_
          have c5 := hk5.get (b := H.length + 2) (fun e => by have := hs.blk_lt e; omega) c4
          simp (disch := (first | assumption | omega | (simp only [List.length_append, List.length_cons, List.length_nil]; omega))) only [↓wD,wU,Nat.reduceBEq,zx150,zx151,zx159,zx160,zx161,zx162,Nat.reduceAdd,Nat.reduceSub,Nat.reduceMul,Nat.reduceLeDiff,Nat.reduceLT,Nat.reduceEqDiff,Int.reduceAdd,Int.reduceSub,Int.reduceMul,Int.reduceNeg,Int.reduceLT,Int.reduceLE,Int.reduceEq,Int.reduceToNat,Int.cast_ofNat_Int,↓reduceIte, a1, a2, a3, a6, st_of c5, hs'.cellsV]
          refine (ih hi').go ⟨s', ?_⟩
          simp (disch := (first | assumption | omega | (simp only [List.length_append, List.length_cons, List.length_nil]; omega))) only [↓wD,wU,Nat.reduceBEq,zx150,zx151,zx159,zx160,zx161,zx162,Nat.reduceAdd,Nat.reduceSub,Nat.reduceMul,Nat.reduceLeDiff,Nat.reduceLT,Nat.reduceEqDiff,Int.reduceAdd,Int.reduceSub,Int.reduceMul,Int.reduceNeg,Int.reduceLT,Int.reduceLE,Int.reduceEq,Int.reduceToNat,Int.cast_ofNat_Int,↓reduceIte, a1, a2, a3, a6]
          rw [take_gi (show i < y.reverse.length by simpa using hi')]
          refine ⟨by congr 1; omega, ?_, get_set c5, hs'.mono ((Kp.set _ _ _).weak fun b hb => by omega) fun _ h => h⟩
          exact (hk4.trans hk5 fun b hb e => by have := hs.blk_lt e; omega).trans (Kp.set _ _ _) fun b hb => hb.2
        · obtain rfl : i = y.length := by omega
          rw [List.take_of_length_le (by simp)] at hs
          have c14 := hk4.get (b := H.length + 1) ⟨by omega, by omega⟩ (hk.get (b := H.length + 1) ⟨by omega, by omega⟩ c1)
          have hz4 : Sl (fun b => H2.length ≤ b ∧ b < H3.length) H4 z (x.map List.reverse) := hzs.kp (hk4.weak fun b h => by omega)
          have hst : st H.length H4 (H.length + 1) 0 [z, s] = some (H4.set (H.length + 1) (.cells [z, s])) := by rw [st_of c14 (by omega) (by simp)]; simp [wr]
          simp (disch := (first | assumption | omega | (simp only [List.length_append, List.length_cons, List.length_nil]; omega))) only [↓wD,wU,Nat.reduceBEq,zx150,zx151,zx159,zx160,zx161,zx162,Nat.reduceAdd,Nat.reduceSub,Nat.reduceMul,Nat.reduceLeDiff,Nat.reduceLT,Nat.reduceEqDiff,Int.reduceAdd,Int.reduceSub,Int.reduceMul,Int.reduceNeg,Int.reduceLT,Int.reduceLE,Int.reduceEq,Int.reduceToNat,Int.cast_ofNat_Int,↓reduceIte, a1, a2, a3, a6, ldn_of c4, hz4.cellsV, hs.cellsV, hst, ldn_of (get_set c14)]
          refine rv_pp ?_ ?_
          · exact (hz4.kp ((Kp.set _ _ _).weak fun b h => by omega)).weak fun b h => .inr (by omega)
          · refine (hs.sl.kp ((Kp.set _ _ _).weak fun b h => ?_)).weak fun b h => ?_
            · rcases h with (h | h) | h <;> omega
            · rcases h with (h | h) | h
              · exact .inr (by omega)
              · exact .inl h.1
              · exact .inr (by omega)
      · simp (disch := (first | assumption | omega | (simp only [List.length_append, List.length_cons, List.length_nil]; omega))) only [↓wD,wU,Nat.reduceBEq,zx150,zx151,zx159,zx160,zx161,zx162,Nat.reduceAdd,Nat.reduceSub,Nat.reduceMul,Nat.reduceLeDiff,Nat.reduceLT,Nat.reduceEqDiff,Int.reduceAdd,Int.reduceSub,Int.reduceMul,Int.reduceNeg,Int.reduceLT,Int.reduceLE,Int.reduceEq,Int.reduceToNat,Int.cast_ofNat_Int,↓reduceIte, a1, a2, a3]
        exact ⟨.nils, by simp, Kp.refl _ _, c3, Acc.nil⟩
  · simp (disch := (first | assumption | omega | (simp only [List.length_append, List.length_cons, List.length_nil]; omega))) only [↓wD,wU,Nat.reduceBEq,zx150,zx151,zx159,zx160,zx161,zx162,Nat.reduceAdd,Nat.reduceSub,Nat.reduceMul,Nat.reduceLeDiff,Nat.reduceLT,Nat.reduceEqDiff,Int.reduceAdd,Int.reduceSub,Int.reduceMul,Int.reduceNeg,Int.reduceLT,Int.reduceLE,Int.reduceEq,Int.reduceToNat,Int.cast_ofNat_Int,↓reduceIte]
    exact ⟨.nils, Kp.refl _ _, c2, Acc.nil⟩
end Go.Proofs.YtjjndoigkhabdaaDoor
namespace Go.Proofs.YtjjndoigkhabdaaDoor
open Go Go.AM Go.Proofs
theorem Walk.SquaresTurns (H : Heap) (cs : List AV) (z : List (List Int) × List (List Int)) (h : Rep.rep (fun b => b < H.length) H cs z) : WpF E H.length 10 [.ag cs] H fun v _ => v = .b true := by
  obtain ⟨u, w, rfl, hx, hy⟩ := rep_pp_elim h
  obtain ⟨x, y⟩ := z
  simp only at hx hy
  refine law_of (RetP.ro rfl fn10 rfl rfl ?_)
  unfold f10A
  have vu := hx.cellsV
  have vw := hy.cellsV
  have c0 : (H ++ [Blk.cells [u, w]])[H.length]? = some (.cells [u, w]) := by simp
  have hx0 := hx.app [Blk.cells [u, w]]
  have hy0 := hy.app [Blk.cells [u, w]]
  have hn0 : (H ++ [Blk.cells [u, w]]).length = H.length + 1 := by simp
  simp (disch := (first | assumption | omega | (simp only [List.length_append, List.length_cons, List.length_nil]; omega))) only [↓wD,wU,Nat.reduceBEq,zx150,zx151,zx159,zx160,zx161,zx162,Nat.reduceAdd,Nat.reduceSub,Nat.reduceMul,Nat.reduceLeDiff,Nat.reduceLT,Nat.reduceEqDiff,Int.reduceAdd,Int.reduceSub,Int.reduceMul,Int.reduceNeg,Int.reduceLT,Int.reduceLE,Int.reduceEq,Int.reduceToNat,Int.cast_ofNat_Int,↓reduceIte, vu, vw]
  generalize H ++ [Blk.cells [u, w]] = H0 at *
  refine (of_ret hx0 hy0).toX fun r1 H1 x1 hr1 => ?_
  obtain ⟨u1, w1, rfl, a1, b1⟩ := rv_pp_elim hr1
  simp only at a1 b1
  have c1 := x1.get trivial c0
  have hx1 := hx0.kp (x1.all _).kp
  have hy1 := hy0.kp (x1.all _).kp
  have hl1 := x1.1
  by_cases hP : PuzP x y
  · obtain ⟨ex, ey⟩ := cutT_ok hP
    rw [ex] at a1
    rw [ey] at b1
    have fl := filled_ret a1 b1 hP
    obtain ⟨n, e, ef⟩ : ∃ n e : Int, (if sumP x = sumP y then AV.tp [.i (sumP x), .i 0] else .tp [.i 0, .i 4]) = .tp [.i n, .i e] := by
      split
      · exact ⟨_, _, rfl⟩
      · exact ⟨_, _, rfl⟩
    rw [ef] at fl
    simp (disch := (first | assumption | omega | (simp only [List.length_append, List.length_cons, List.length_nil]; omega))) only [↓wD,wU,Nat.reduceBEq,zx150,zx151,zx159,zx160,zx161,zx162,Nat.reduceAdd,Nat.reduceSub,Nat.reduceMul,Nat.reduceLeDiff,Nat.reduceLT,Nat.reduceEqDiff,Int.reduceAdd,Int.reduceSub,Int.reduceMul,Int.reduceNeg,Int.reduceLT,Int.reduceLE,Int.reduceEq,Int.reduceToNat,Int.cast_ofNat_Int,↓reduceIte, fl.call, ldn_of c1]
    refine (of_ret hx1 hy1).toX fun r2 H2 x2 hr2 => ?_
    obtain ⟨u2, w2, rfl, a2, b2⟩ := rv_pp_elim hr2
    simp only at a2 b2
    rw [ex] at a2
    rw [ey] at b2
    have c2 := x2.get trivial c1
    have hx2 := hx1.kp (x2.all _).kp
    have hy2 := hy1.kp (x2.all _).kp
    have hl2 := x2.1
    simp (disch := (first | assumption | omega | (simp only [List.length_append, List.length_cons, List.length_nil]; omega))) only [↓wD,wU,Nat.reduceBEq,zx150,zx151,zx159,zx160,zx161,zx162,Nat.reduceAdd,Nat.reduceSub,Nat.reduceMul,Nat.reduceLeDiff,Nat.reduceLT,Nat.reduceEqDiff,Int.reduceAdd,Int.reduceSub,Int.reduceMul,Int.reduceNeg,Int.reduceLT,Int.reduceLE,Int.reduceEq,Int.reduceToNat,Int.cast_ofNat_Int,↓reduceIte]
    refine (turn_ret a2 b2 hP).toX fun r3 H3 x3 hr3 => ?_
    obtain ⟨q3, _, rfl, h3, rfl⟩ := rv2 hr3
    obtain ⟨tu, tw, rfl, t1, t2⟩ := rv_pp_elim h3
    simp only at t1 t2
    have hl3 := x3.1
    have c3 := x3.get trivial c2
    have hx3 := hx2.kp (x3.all _).kp
    have hy3 := hy2.kp (x3.all _).kp
    have hst : st H.length (H3 ++ [Blk.cells [.nils, .nils]]) H3.length 0 [tu, tw] = some (H3 ++ [Blk.cells [tu, tw]]) := by
      rw [st_of get_last (by omega) (by simp)]
      congr 1
      simp [wr]
    have x34 : Kx (fun _ => True) H3 (H3 ++ [Blk.cells [tu, tw]]) := Kx.app _ _ _
    have g4 : (H3 ++ [Blk.cells [tu, tw]])[H3.length]? = some (.cells [tu, tw]) := get_last
    have n4 : (H3 ++ [Blk.cells [tu, tw]]).length = H3.length + 1 := by simp
    simp (disch := (first | assumption | omega | (simp only [List.length_append, List.length_cons, List.length_nil]; omega))) only [↓wD,wU,Nat.reduceBEq,zx150,zx151,zx159,zx160,zx161,zx162,Nat.reduceAdd,Nat.reduceSub,Nat.reduceMul,Nat.reduceLeDiff,Nat.reduceLT,Nat.reduceEqDiff,Int.reduceAdd,Int.reduceSub,Int.reduceMul,Int.reduceNeg,Int.reduceLT,Int.reduceLE,Int.reduceEq,Int.reduceToNat,Int.cast_ofNat_Int,↓reduceIte, t1.cellsV, t2.cellsV, hst, ldn_of c3]
    generalize H3 ++ [Blk.cells [tu, tw]] = H4 at *
    have c4 := x34.get trivial c3
    have hx4 := hx3.kp (x34.all _).kp
    have hy4 := hy3.kp (x34.all _).kp
    have t14 := t1.kp (x34.all _).kp
    have t24 := t2.kp (x34.all _).kp
    refine (of_ret hx4 hy4).toX fun r5 H5 x5 hr5 => ?_
    obtain ⟨u5, w5, rfl, a5, b5⟩ := rv_pp_elim hr5
    simp only at a5 b5
    rw [ex] at a5
    rw [ey] at b5
    have c5 := x5.get trivial c4
    have g5 := x5.get trivial g4
    have hx5 := hx4.kp (x5.all _).kp
    have hy5 := hy4.kp (x5.all _).kp
    have t15 := t14.kp (x5.all _).kp
    have t25 := t24.kp (x5.all _).kp
    have hl5 := x5.1
    simp (disch := (first | assumption | omega | (simp only [List.length_append, List.length_cons, List.length_nil]; omega))) only [↓wD,wU,Nat.reduceBEq,zx150,zx151,zx159,zx160,zx161,zx162,Nat.reduceAdd,Nat.reduceSub,Nat.reduceMul,Nat.reduceLeDiff,Nat.reduceLT,Nat.reduceEqDiff,Int.reduceAdd,Int.reduceSub,Int.reduceMul,Int.reduceNeg,Int.reduceLT,Int.reduceLE,Int.reduceEq,Int.reduceToNat,Int.cast_ofNat_Int,↓reduceIte]
    refine (mirror_ret a5 b5 hP).toX fun r6 H6 x6 hr6 => ?_
    obtain ⟨q6, _, rfl, h6, rfl⟩ := rv2 hr6
    obtain ⟨mu, mw, rfl, m1, m2⟩ := rv_pp_elim h6
    simp only at m1 m2
    have hl6 := x6.1
    have c6 := x6.get trivial c5
    have g6 := x6.get trivial g5
    have hx6 := hx5.kp (x6.all _).kp
    have hy6 := hy5.kp (x6.all _).kp
    have t16 := t15.kp (x6.all _).kp
    have t26 := t25.kp (x6.all _).kp
    have hst7 : st H.length (H6 ++ [Blk.cells [.nils, .nils]]) H6.length 0 [mu, mw] = some (H6 ++ [Blk.cells [mu, mw]]) := by
      rw [st_of get_last (by omega) (by simp)]
      congr 1
      simp [wr]
    have x67 : Kx (fun _ => True) H6 (H6 ++ [Blk.cells [mu, mw]]) := Kx.app _ _ _
    have k7 : (H6 ++ [Blk.cells [mu, mw]])[H6.length]? = some (.cells [mu, mw]) := get_last
    have n7 : (H6 ++ [Blk.cells [mu, mw]]).length = H6.length + 1 := by simp
    simp (disch := (first | assumption | omega | (simp only [List.length_append, List.length_cons, List.length_nil]; omega))) only [↓wD,wU,Nat.reduceBEq,zx150,zx151,zx159,zx160,zx161,zx162,Nat.reduceAdd,Nat.reduceSub,Nat.reduceMul,Nat.reduceLeDiff,Nat.reduceLT,Nat.reduceEqDiff,Int.reduceAdd,Int.reduceSub,Int.reduceMul,Int.reduceNeg,Int.reduceLT,Int.reduceLE,Int.reduceEq,Int.reduceToNat,Int.cast_ofNat_Int,↓reduceIte, m1.cellsV, m2.cellsV, hst7, ldn_of c6]
    generalize H6 ++ [Blk.cells [mu, mw]] = H7 at *
    have c7 := x67.get trivial c6
    have g7 := x67.get trivial g6
    have hx7 := hx6.kp (x67.all _).kp
    have hy7 := hy6.kp (x67.all _).kp
    have t17 := t16.kp (x67.all _).kp
    have t27 := t26.kp (x67.all _).kp
    have m17 := m1.kp (x67.all _).kp
    have m27 := m2.kp (x67.all _).kp
    have rv := rvalid_ret hx7 hy7
    rw [decide_eq_true hP] at rv
    have rf := rfilled_ret hx7 hy7 hP
    rw [ef] at rf
    clear hx0 hy0 hx1 hy1 hx2 hy2 hx3 hy3 hx4 hy4 hx5 hy5 hx6 hy6 t1 t2 t14 t24 t15 t25 t16 t26 m1 m2 a1 b1 a2 b2 a5 b5 c0 c1 c2 c3 c4 c5 c6 g4 g5 g6 x1 x2 x3 x34 x5 x6 x67 hr1 hr2 hr3 hr5 hr6 h3 h6 fl ef hst hst7 hx hy h
    simp (disch := (first | assumption | omega | (simp only [List.length_append, List.length_cons, List.length_nil]; omega))) only [↓wD,wU,Nat.reduceBEq,zx150,zx151,zx159,zx160,zx161,zx162,Nat.reduceAdd,Nat.reduceSub,Nat.reduceMul,Nat.reduceLeDiff,Nat.reduceLT,Nat.reduceEqDiff,Int.reduceAdd,Int.reduceSub,Int.reduceMul,Int.reduceNeg,Int.reduceLT,Int.reduceLE,Int.reduceEq,Int.reduceToNat,Int.cast_ofNat_Int,↓reduceIte, ldn_of c7, rv.call, rf.call, ldn_of g7]
    refine (own_ret t17 t27).toX fun r8 H8 x8 hr8 => ?_
    obtain ⟨ou, ow, rfl, o1, o2⟩ := rv_pp_elim hr8
    simp only at o1 o2
    have c8 := x8.get trivial c7
    have k8 := x8.get trivial k7
    have hx8 := hx7.kp (x8.all _).kp
    have hy8 := hy7.kp (x8.all _).kp
    have m18 := m17.kp (x8.all _).kp
    have m28 := m27.kp (x8.all _).kp
    simp (disch := (first | assumption | omega | (simp only [List.length_append, List.length_cons, List.length_nil]; omega))) only [↓wD,wU,Nat.reduceBEq,zx150,zx151,zx159,zx160,zx161,zx162,Nat.reduceAdd,Nat.reduceSub,Nat.reduceMul,Nat.reduceLeDiff,Nat.reduceLT,Nat.reduceEqDiff,Int.reduceAdd,Int.reduceSub,Int.reduceMul,Int.reduceNeg,Int.reduceLT,Int.reduceLE,Int.reduceEq,Int.reduceToNat,Int.cast_ofNat_Int,↓reduceIte, ldn_of c8]
    refine (rturn_ret hx8 hy8).toX fun r9 H9 x9 hr9 => ?_
    obtain ⟨ru, rw', rfl, s1, s2⟩ := rv_pp_elim hr9
    simp only at s1 s2
    have c9 := x9.get trivial c8
    have k9 := x9.get trivial k8
    have hx9 := hx8.kp (x9.all _).kp
    have hy9 := hy8.kp (x9.all _).kp
    have m19 := m18.kp (x9.all _).kp
    have m29 := m28.kp (x9.all _).kp
    have sm := psame_ret (o1.kp (x9.all _).kp) (o2.kp (x9.all _).kp) s1 s2
    rw [decide_eq_true ⟨rfl, rfl⟩] at sm
    simp (disch := (first | assumption | omega | (simp only [List.length_append, List.length_cons, List.length_nil]; omega))) only [↓wD,wU,Nat.reduceBEq,zx150,zx151,zx159,zx160,zx161,zx162,Nat.reduceAdd,Nat.reduceSub,Nat.reduceMul,Nat.reduceLeDiff,Nat.reduceLT,Nat.reduceEqDiff,Int.reduceAdd,Int.reduceSub,Int.reduceMul,Int.reduceNeg,Int.reduceLT,Int.reduceLE,Int.reduceEq,Int.reduceToNat,Int.cast_ofNat_Int,↓reduceIte, sm.call, ldn_of k9]
    refine (own_ret m19 m29).toX fun r10 H10 x10 hr10 => ?_
    obtain ⟨pu, pw, rfl, p1, p2⟩ := rv_pp_elim hr10
    simp only at p1 p2
    have c10 := x10.get trivial c9
    have hx10 := hx9.kp (x10.all _).kp
    have hy10 := hy9.kp (x10.all _).kp
    simp (disch := (first | assumption | omega | (simp only [List.length_append, List.length_cons, List.length_nil]; omega))) only [↓wD,wU,Nat.reduceBEq,zx150,zx151,zx159,zx160,zx161,zx162,Nat.reduceAdd,Nat.reduceSub,Nat.reduceMul,Nat.reduceLeDiff,Nat.reduceLT,Nat.reduceEqDiff,Int.reduceAdd,Int.reduceSub,Int.reduceMul,Int.reduceNeg,Int.reduceLT,Int.reduceLE,Int.reduceEq,Int.reduceToNat,Int.cast_ofNat_Int,↓reduceIte, ldn_of c10]
    refine (rmirror_ret hx10 hy10 hP).toX fun r11 H11 x11 hr11 => ?_
    obtain ⟨nu, nw, rfl, n1, n2⟩ := rv_pp_elim hr11
    simp only at n1 n2
    have sm2 := psame_ret (p1.kp (x11.all _).kp) (p2.kp (x11.all _).kp) n1 n2
    rw [decide_eq_true ⟨rfl, rfl⟩] at sm2
    simp (disch := (first | assumption | omega | (simp only [List.length_append, List.length_cons, List.length_nil]; omega))) only [↓wD,wU,Nat.reduceBEq,zx150,zx151,zx159,zx160,zx161,zx162,Nat.reduceAdd,Nat.reduceSub,Nat.reduceMul,Nat.reduceLeDiff,Nat.reduceLT,Nat.reduceEqDiff,Int.reduceAdd,Int.reduceSub,Int.reduceMul,Int.reduceNeg,Int.reduceLT,Int.reduceLE,Int.reduceEq,Int.reduceToNat,Int.cast_ofNat_Int,↓reduceIte, sm2.call, awake_ret.call]
  · have hP' : ¬ PuzP (cutT x) (cutT y) := fun q => hP (PuzP_cut.1 q)
    simp (disch := (first | assumption | omega | (simp only [List.length_append, List.length_cons, List.length_nil]; omega))) only [↓wD,wU,Nat.reduceBEq,zx150,zx151,zx159,zx160,zx161,zx162,Nat.reduceAdd,Nat.reduceSub,Nat.reduceMul,Nat.reduceLeDiff,Nat.reduceLT,Nat.reduceEqDiff,Int.reduceAdd,Int.reduceSub,Int.reduceMul,Int.reduceNeg,Int.reduceLT,Int.reduceLE,Int.reduceEq,Int.reduceToNat,Int.cast_ofNat_Int,↓reduceIte, (filled_err a1 b1 hP').call, ldn_of c1]
    refine (of_ret hx1 hy1).toX fun r2 H2 x2 hr2 => ?_
    obtain ⟨u2, w2, rfl, a2, b2⟩ := rv_pp_elim hr2
    simp only at a2 b2
    have c2 := x2.get trivial c1
    have hx2 := hx1.kp (x2.all _).kp
    have hy2 := hy1.kp (x2.all _).kp
    have hl2 := x2.1
    have hst : st H.length (H2 ++ [Blk.cells [.nils, .nils]]) H2.length 0 [.nils, .nils] = some (H2 ++ [Blk.cells [.nils, .nils]]) := by
      rw [st_of get_last (by omega) (by simp)]
      congr 1
      simp [wr]
    have x23 : Kx (fun _ => True) H2 (H2 ++ [Blk.cells [.nils, .nils]]) := Kx.app _ _ _
    have g3 : (H2 ++ [Blk.cells [.nils, .nils]])[H2.length]? = some (.cells [.nils, .nils]) := get_last
    have n3 : (H2 ++ [Blk.cells [.nils, .nils]]).length = H2.length + 1 := by simp
    simp (disch := (first | assumption | omega | (simp only [List.length_append, List.length_cons, List.length_nil]; omega))) only [↓wD,wU,Nat.reduceBEq,zx150,zx151,zx159,zx160,zx161,zx162,Nat.reduceAdd,Nat.reduceSub,Nat.reduceMul,Nat.reduceLeDiff,Nat.reduceLT,Nat.reduceEqDiff,Int.reduceAdd,Int.reduceSub,Int.reduceMul,Int.reduceNeg,Int.reduceLT,Int.reduceLE,Int.reduceEq,Int.reduceToNat,Int.cast_ofNat_Int,↓reduceIte, (turn_err a2 b2 hP').call, hst, ldn_of c2]
    generalize H2 ++ [Blk.cells [.nils, .nils]] = H3 at *
    have c3 := x23.get trivial c2
    have hx3 := hx2.kp (x23.all _).kp
    have hy3 := hy2.kp (x23.all _).kp
    refine (of_ret hx3 hy3).toX fun r4 H4 x4 hr4 => ?_
    obtain ⟨u4, w4, rfl, a4, b4⟩ := rv_pp_elim hr4
    simp only at a4 b4
    have c4 := x4.get trivial c3
    have g4 := x4.get trivial g3
    have hx4 := hx3.kp (x4.all _).kp
    have hy4 := hy3.kp (x4.all _).kp
    have hl4 := x4.1
    have hst5 : st H.length (H4 ++ [Blk.cells [.nils, .nils]]) H4.length 0 [.nils, .nils] = some (H4 ++ [Blk.cells [.nils, .nils]]) := by
      rw [st_of get_last (by omega) (by simp)]
      congr 1
      simp [wr]
    have x45 : Kx (fun _ => True) H4 (H4 ++ [Blk.cells [.nils, .nils]]) := Kx.app _ _ _
    have k5 : (H4 ++ [Blk.cells [.nils, .nils]])[H4.length]? = some (.cells [.nils, .nils]) := get_last
    have c5 := x45.get trivial c4
    have g5 := x45.get trivial g4
    have rv := rvalid_ret (hx4.kp (x45.all _).kp) (hy4.kp (x45.all _).kp)
    rw [decide_eq_false hP] at rv
    simp (disch := (first | assumption | omega | (simp only [List.length_append, List.length_cons, List.length_nil]; omega))) only [↓wD,wU,Nat.reduceBEq,zx150,zx151,zx159,zx160,zx161,zx162,Nat.reduceAdd,Nat.reduceSub,Nat.reduceMul,Nat.reduceLeDiff,Nat.reduceLT,Nat.reduceEqDiff,Int.reduceAdd,Int.reduceSub,Int.reduceMul,Int.reduceNeg,Int.reduceLT,Int.reduceLE,Int.reduceEq,Int.reduceToNat,Int.cast_ofNat_Int,↓reduceIte, (mirror_err a4 b4 hP').call, hst5, ldn_of c5, rv.call, ld_of g5, ld_of k5, awake_ret.call]
end Go.Proofs.YtjjndoigkhabdaaDoor
