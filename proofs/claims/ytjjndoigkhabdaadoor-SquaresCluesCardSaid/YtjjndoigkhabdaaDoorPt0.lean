/- What the law needs: what its functions do, and the laws on lists behind it. No condition. -/
import Derived.Test.YtjjndoigkhabdaaDoorPi
import Derived.Test.YtjjndoigkhabdaaDoorBo
import Derived.Lib.TrailingZeros
import Derived.Shelf.Spec.TrailingZeros
import Derived.KernelRfl
import Derived.Laws.StructEq
import Derived.Test.YtjjndoigkhabdaaDoorRows
import Derived.ProofKit
import Derived.LaidMore
import Derived.OpenShut
import Derived.Stop.Joined
import Derived.WalkKit
import Derived.ShutString
import Derived.ChangeOld
import Derived.Below
import Derived.SizedLaws
import Derived.Carry
import Derived.SevenTiedAt
set_option linter.unusedSimpArgs false
set_option linter.unusedVariables false
namespace Go.Proofs.YtjjndoigkhabdaaDoor
open Go Go.AM Go.Proofs Go.Shelf Go.RowKit
def tzRen : Ren where
  f n := if n = 27 then 87 else if n = 28 then 108 else 109
  t n := if n = 22 then 112 else if n = 25 then 65 else if n = 27 then 110 else if n = 53 then 117 else if n = 54 then 118 else n
  g n := n
theorem tzLays : Lays7.n27 Tryd.prog tzRen where
  mixed := by kernel_rfl
  f27 := by kernel_rfl
  f28 := by kernel_rfl
  f29 := by kernel_rfl
  t0 := by kernel_rfl
  a0 := fun w => by kernel_rfl
  z0 := fun w => by kernel_rfl
  v0 := fun w => by kernel_rfl
  i0 := by kernel_rfl
  t3 := by kernel_rfl
  a3 := fun w => by kernel_rfl
  z3 := fun w => by kernel_rfl
  v3 := fun w => by kernel_rfl
  i3 := by kernel_rfl
  t4 := by kernel_rfl
  a4 := fun w => by kernel_rfl
  z4 := fun w => by kernel_rfl
  v4 := fun w => by kernel_rfl
  i4 := by kernel_rfl
  t5 := by kernel_rfl
  a5 := fun w => by kernel_rfl
  z5 := fun w => by kernel_rfl
  v5 := fun w => by kernel_rfl
  i5 := by kernel_rfl
  t22 := by kernel_rfl
  a22 := fun w => by kernel_rfl
  z22 := fun w => by kernel_rfl
  v22 := fun w => by kernel_rfl
  i22 := by kernel_rfl
  t25 := by kernel_rfl
  a25 := fun w => by kernel_rfl
  z25 := fun w => by kernel_rfl
  v25 := fun w => by kernel_rfl
  i25 := by kernel_rfl
  t27 := by kernel_rfl
  a27 := fun w => by kernel_rfl
  z27 := fun w => by kernel_rfl
  v27 := fun w => by kernel_rfl
  i27 := by kernel_rfl
  t53 := by kernel_rfl
  a53 := fun w => by kernel_rfl
  z53 := fun w => by kernel_rfl
  v53 := fun w => by kernel_rfl
  i53 := by kernel_rfl
  t54 := by kernel_rfl
  a54 := fun w => by kernel_rfl
  z54 := fun w => by kernel_rfl
  g0 := by kernel_rfl
  g1 := by kernel_rfl
/-- the library's table lies in its variable -/
def TzI (w : World) : Prop := TabAt 1 Lib.deBruijn64tab w
theorem tzI_stable : Stable TzI := fun w w' h hb j hj => by
  have h1 := h j hj
  have hlt : (1 : Nat) < w.heap.size := by
    rcases Nat.lt_or_ge 1 w.heap.size with q | q
    · exact q
    · simp [World.cell?, Array.getElem?_eq_none q] at h1
  rw [← h1]
  exact hb.cell hlt
theorem tz_prim (I : World → Prop) (hI : ∀ w, I w → TzI w) : ∀ (vs : List AV) (v : AV) (args : Array Value) (w : World), tzP vs = some v → VRelL (fun _ => none) vs args.toList → I w → ∀ cs, ∃ x w', Rets Tryd.prog 87 args cs w x w' ∧ VRel (fun _ => none) v x ∧ Below w.heap.size w w' := by
  intro vs v args w hv hr hw cs
  obtain ⟨n, rfl, h0, h1, rfl⟩ : ∃ n : Int, vs = [.int .u64 n] ∧ 0 ≤ n ∧ n ≤ 18446744073709551615 ∧ v = .i (Lib.ctz 64 n.toNat : Nat) := by
    unfold tzP at hv
    split at hv
    · rename_i n
      split at hv
      · rename_i h
        simp only [Option.some.injEq] at hv
        exact ⟨n, rfl, h.1, h.2, hv.symm⟩
      · cases hv
    · cases hv
  obtain ⟨n, rfl⟩ := Int.eq_ofNat_of_zero_le h0
  have ha : args = #[.int .u64 (n : Int)] := by
    simp only [VRelL] at hr
    obtain ⟨x, xs, e, hx, hxs⟩ := hr
    simp only [VRel] at hx
    cases args
    simp_all
  subst ha
  obtain ⟨e, w', fr, ⟨rfl, rfl⟩, hc, hf, hl⟩ := Any7.bits_TrailingZeros tzLays n (by omega) w (fun _ => hI w hw) cs
  exact ⟨_, _, ⟨fr, hc, hf, hl⟩, by simp [VRel], Below.refl _ _⟩
theorem tz_enters : Enters' Tryd.prog 87 := enters_of tzLays.f27 (by kernel_rfl) rfl
end Go.Proofs.YtjjndoigkhabdaaDoor
namespace Go.Proofs.YtjjndoigkhabdaaDoor
open Go Go.AM Go.Proofs Go.RowKit
theorem list2 {xs : List Int} (h : xs.length = 2) : ∃ a b, xs = [a, b] := by
  match xs, h with
  | [a, b], _ => exact ⟨a, b, rfl⟩
theorem eq72 (w : World) (x0 x1 y0 y1 : Int) : (Op.equalIn 10000 72 (.agg #[.int .i64 x0, .int .i64 x1]) (.agg #[.int .i64 y0, .int .i64 y1])).run C.P w = .ok ([x0, x1] == [y0, y1]) w := by
  rw [run_equalIn_struct w 9999 72 _ _ (by kernel_rfl) (by kernel_rfl)]
  have hi : Tryd.prog.underlying 3 = some (.int .i64) := Tryd.underlying3
  have e : ∀ a b : Int, (Op.equalIn 9999 3 (.int .i64 a) (.int .i64 b)).run Tryd.prog w = .ok (a == b) w := fun a b => run_equalIn_int w 9998 3 .i64 .i64 a b hi
  have pt : ∀ (a b : Int) (k : Nat), k < 2 → (part 3 #[.int .i64 a, .int .i64 b] k).run Tryd.prog w = .ok (.int .i64 (if k = 0 then a else b)) w := by
    intro a b k hk
    have : k = 0 ∨ k = 1 := by omega
    rcases this with rfl | rfl <;> go_simp
  simp [Tryd.underlying72, Program.fieldsOf, C, Op.eqFields, pt, e]
  by_cases h1 : x0 = y0 <;> by_cases h2 : x1 = y1 <;> simp [h1, h2]
theorem eqOk : EqOk C := by
  intro t n ht xs ys hx hy neg xo yo w
  obtain ⟨rfl, rfl⟩ : t = 72 ∧ n = 2 := by
    simp only [C] at ht
    split at ht
    · rename_i h; cases ht; exact ⟨by simpa using h, rfl⟩
    · cases ht
  obtain ⟨x0, x1, rfl⟩ := list2 hx
  obtain ⟨y0, y1, rfl⟩ := list2 hy
  have g : ∀ op, (eqGuard op 72 xo yo (.agg (ints [x0, x1])) (.agg (ints [y0, y1]))).run C.P w = .ok () w := fun op => run_eqGuard_agg w op 72 xo yo _ _ (by kernel_rfl)
  have e := eq72 w x0 x1 y0 y1
  cases neg
  · simp only [Bool.false_eq_true, if_false, Sem.run_bind, g, Result.andThen_ok, run_eql_struct]
    simp [ints] at e ⊢; rw [e]; rfl
  · simp only [if_true, Sem.run_bind, g, Result.andThen_ok, run_neq_struct]
    simp [ints] at e ⊢; rw [e]; simp [Result.andThen, Bool.not_and]
theorem eOk : EOk C TzI E where
  kd := rfl
  fn := fun f af h => tab_ok (f, af) (lookup_mem h)
  prim := fun f g h => by
    simp only [C, kd] at h
    split at h
    · cases h
    · split at h
      · cases h
      · split at h
        · rename_i e
          cases h
          subst e
          exact ⟨tz_enters, tz_prim TzI fun _ h => h⟩
        · cases h
  stable := tzI_stable
  eq := eqOk
  mixed := mixed
theorem hrelI {ρ : Mp} {H : Heap} {w : World} {I : World → Prop} (h : FRel C ρ H w) (hI : I w) : HRel C I ρ H.length w H w where
  below := Below.refl _ _
  inv := hI
  lt := Nat.le_refl _
  dom := h.1
  own b r e hb := absurd (h.1 b r e) (by omega)
  apart b b' r r' k k' e _ hb := absurd (h.1 b r e) (by omega)
  blk b r k e hk := by
    have hb : ¬ H.length ≤ b := by have := h.1 b r e; omega
    have := h.2 b r k e hk
    cases k with
    | cells vs => exact ⟨this.1, fun q => absurd q hb, fun _ => this.2.2 (fun q => q)⟩
    | dead => trivial
    | loop st pend nt fr ps asg body => exact fun q => absurd q hb
/-- from the abstract machine to the row's walk -/
theorem walk_lawI {f : Nat} {vs : List AV} {H : Heap} (hx : WpF E H.length f vs H fun v _ => v = .b true) {ρ : Mp} {w : World} (hF : FRel C ρ H w) (hI : TzI w) {args : Array Value} (ha : VRelL ρ vs args.toList) :
    Calls C.P f args w fun e W' => e = .returned (.bool true) ∧ Below w.heap.size w W' := by
  obtain ⟨n, v, H', h1, rfl⟩ := hx
  refine (calls_of eOk rfl h1 (hrelI hF hI) ha (Nat.le_refl _)).mono fun e W' h => ?_
  obtain ⟨ρ', x, rfl, h2, h3, _⟩ := h
  rw [h2.bool]
  exact ⟨rfl, h3.below⟩
end Go.Proofs.YtjjndoigkhabdaaDoor
namespace Go.Proofs.YtjjndoigkhabdaaDoor
open Go Go.AM Go.Proofs Go.ChangeShapes Go.WideShapes Go.ChangeAt Go.WideMaps Go.WideElems Go.RowKit
theorem gT64 : Tryd.prog.globalNamed "math/bits.deBruijn64tab" = some 1 := by kernel_rfl
theorem tT64 : (Tryd.prog.globals[1]?).map (·.type) = some 118 := by kernel_rfl
abbrev laid2 {H : Type} : List (String × DataW H) := [("math/bits.deBruijn32tab", Rows.laid_math_bits_deBruijn32tab), ("math/bits.deBruijn64tab", Rows.laid_math_bits_deBruijn64tab)]
/-- the door's own heap meets the condition -/
theorem door_met (os : Os) (args : Array Value) : laidMetH Tryd.prog laid2 ((World.doorLaid Tryd.prog 400 os).forCall (fun _ _ => 0) ⟨#[], args, []⟩).memory :=
  laidMetH_of_parts3 (fuel := 8) (laidMet_of_run' 8 (by kernel_rfl) (by kernel_rfl)) (by kernel_rfl) (by kernel_rfl)
theorem lits64 {H : Type} : ∃ l : List (DataW H), Rows.laid_math_bits_deBruijn64tab = .agg l ∧ l = Lib.deBruijn64tab.map fun k : Nat => .lit (.int .u8 (k : Int)) := ⟨_, rfl, rfl⟩
theorem tzI_of_laid {W : World} (h : laidMetH Tryd.prog laid2 W) : TzI W := by
  rw [MakeChecks.laidMetH_plain _ _ _ (by kernel_rfl)] at h
  obtain ⟨ps, ⟨g0, t0, cs0, f0, p0, q0, hg0, ht0, hv0, hd0, ⟨g1, t1, cs1, f1, p1, q1, hg1, ht1, hv1, hd1, _, _⟩, _⟩, _, _⟩ := h
  obtain rfl := Option.some.inj (gT64.symm.trans hg1)
  obtain rfl := Option.some.inj (tT64.symm.trans ht1)
  intro j hj
  have hj64 : j < 64 := hj
  obtain ⟨xs, m1, rfl, hx1, hlen, hn3, hel⟩ := DataW.trod_array Tryd.underlying118 hd1
  have c5 : Tryd.prog.cellsOf 5 = 1 := by kernel_rfl
  have h0 := hel j hj64
  obtain ⟨l, el, hl⟩ := lits64 (H := _)
  simp only [Prod.mk.injEq] at hx1
  rw [el] at hx1
  have hmap : l = xs.map (·.1) := by
    have := hx1.1
    simpa using this
  have hxj : xs[j]? = some (xs[j]'(by omega)) := List.getElem?_eq_getElem (by omega)
  rw [hxj, c5, Nat.mul_one] at h0
  obtain ⟨k, e1, e2, _⟩ := DataW.trod_int Tryd.underlying5 h0
  have e3 : l[j]? = some (xs[j]'(by omega)).1 := by rw [hmap, List.getElem?_map, hxj]; rfl
  rw [e2, hl, List.getElem?_map] at e3
  have e4 : Lib.deBruijn64tab[j]? = some (Lib.deBruijn64tab.getD j 0) := by
    rw [List.getD_eq_getElem?_getD]
    have : j < Lib.deBruijn64tab.length := hj
    rw [List.getElem?_eq_getElem this]; rfl
  rw [e4] at e3
  simp only [Option.map_some, Option.some.injEq, DataW.lit.injEq, Lit.int.injEq, true_and] at e3
  have hc := World.var?_cell hg1 hv1 j
  have e5 : cs1[j]? = some (.int .u8 k) := by
    have : (cs1.toList.drop j).take 1 = [.int .u8 k] := e1
    have := take1 this
    simpa using this
  rw [e5, ← e3] at hc
  exact hc
end Go.Proofs.YtjjndoigkhabdaaDoor
namespace Go.Proofs.YtjjndoigkhabdaaDoor
open Go Go.AM Go.Proofs
theorem clone_ret {p : Nat → Prop} {H : Heap} {v : AV} {xs : List Int} (hx : Sl p H v xs) (hs : xs.length * 8 ≤ 1099511627776) : Ret E 33 [v] (fun _ => False) H xs := by
  refine Ret.ro rfl fn33 rfl ?_
  unfold f33A
  have main : ∀ {Q : AV × Heap → Prop}, (∀ v' H', Sl (fun b => H.length ≤ b) H' v' xs → Q (v', H')) → @optP _ (appendV H.length 1 8 (.s 1 H.length 0 0 (some 0)) v (H ++ [.cells []])) ⟨Q⟩ := fun {Q} go => by
    have ha : Acc H.length (fun _ => True) (H ++ [.cells []]) (.s 1 H.length 0 0 (some 0)) ([] : List Int) := Acc.fresh0 (Nat.le_refl _)
    refine ha.extend (q := fun b => b < H.length) (Nat.le_refl _) (by simp) ((hx.low.app [.cells []]).weak fun b h => h.2) (fun b hb => ⟨trivial, ?_⟩) (by simpa using hs) (by omega) fun v' H' h' _ => go _ _ ?_
    · intro e; simp only [AV.blk, Option.some.injEq] at e; omega
    · rw [List.nil_append] at h'
      rcases h' with h' | ⟨b, o, c, k, e, hb, hk, h1, h2, h3⟩
      · exact .inl h'
      · exact .inr ⟨b, o, c, k, e, hb, hk, h1, h2, h3⟩
  rcases hx with ⟨rfl, rfl⟩ | ⟨b, o, c, k, e, hb, hk, h1, h2, h3⟩
  · simp (disch := (first | assumption | omega | (simp only [List.length_append, List.length_cons, List.length_nil]; omega))) only [↓wD,wU,Nat.reduceBEq,zx150,zx151,zx159,zx160,zx161,zx162,Nat.reduceAdd,Nat.reduceSub,Nat.reduceMul,Nat.reduceLeDiff,Nat.reduceLT,Nat.reduceEqDiff,Int.reduceAdd,Int.reduceSub,Int.reduceMul,Int.reduceNeg,Int.reduceLT,Int.reduceLE,Int.reduceEq,Int.reduceToNat,Int.cast_ofNat_Int,↓reduceIte, *]
    exact Sl.nil
  · subst e
    simp (disch := (first | assumption | omega | (simp only [List.length_append, List.length_cons, List.length_nil]; omega))) only [↓wD,wU,Nat.reduceBEq,zx150,zx151,zx159,zx160,zx161,zx162,Nat.reduceAdd,Nat.reduceSub,Nat.reduceMul,Nat.reduceLeDiff,Nat.reduceLT,Nat.reduceEqDiff,Int.reduceAdd,Int.reduceSub,Int.reduceMul,Int.reduceNeg,Int.reduceLT,Int.reduceLE,Int.reduceEq,Int.reduceToNat,Int.cast_ofNat_Int,↓reduceIte, *]
    refine main fun v' H' h' => ?_
    simp (disch := (first | assumption | omega | (simp only [List.length_append, List.length_cons, List.length_nil]; omega))) only [↓wD,wU,Nat.reduceBEq,zx150,zx151,zx159,zx160,zx161,zx162,Nat.reduceAdd,Nat.reduceSub,Nat.reduceMul,Nat.reduceLeDiff,Nat.reduceLT,Nat.reduceEqDiff,Int.reduceAdd,Int.reduceSub,Int.reduceMul,Int.reduceNeg,Int.reduceLT,Int.reduceLE,Int.reduceEq,Int.reduceToNat,Int.cast_ofNat_Int,↓reduceIte, *]
    exact h'.weak fun _ h => .inr h
end Go.Proofs.YtjjndoigkhabdaaDoor
namespace Go.Proofs.YtjjndoigkhabdaaDoor
open Go Go.AM Go.Proofs
theorem _root_.Go.AM.RetP.prim {E : Tab} {f : Nat} {g : List AV → Option AV} {vs : List AV} {v : AV} {H : Heap} (hk : E.kd f = .prim g) (h : g vs = some v) (hv : v.pure = true) (ha : AV.pureAll vs = true) : RetP E f vs H v := fun lo => by
  refine ⟨0, v, H, ?_, rfl, rfl⟩
  unfold callF
  simp [hk, h, hv, ha]
/-! ### Bits -/
theorem ofI {a : Nat} (h : a ≤ 9223372036854775807) : (BitVec.ofInt 64 (a : Int)).toNat = a := by
  rw [BitVec.ofInt_natCast, BitVec.toNat_ofNat]; exact Nat.mod_eq_of_lt (by omega)
theorem and_le {a b : Nat} (h : a ≤ 9223372036854775807) : a &&& b ≤ 9223372036854775807 := Nat.le_trans Nat.and_le_left h
theorem or_le {a b : Nat} (h : a ≤ 9223372036854775807) (h' : b ≤ 9223372036854775807) : a ||| b ≤ 9223372036854775807 := by
  have : a ||| b < 2 ^ 63 := Nat.or_lt_two_pow (by omega) (by omega)
  omega
theorem b_and {a b : Nat} (h : a ≤ 9223372036854775807) (h' : b ≤ 9223372036854775807) : binA .and (.i (a : Int)) (.i (b : Int)) = some (.i ((a &&& b : Nat) : Int)) := by
  have e : (BitVec.ofInt 64 (a : Int) &&& BitVec.ofInt 64 (b : Int)).toNat = a &&& b := by rw [BitVec.toNat_and, ofI h, ofI h']
  show some (AV.int .i64 (IntKind.wrap .i64 ((BitVec.ofInt 64 (a : Int) &&& BitVec.ofInt 64 (b : Int)).toNat : Int))) = _
  have := and_le (b := b) h
  rw [e, zx172 (by omega) (by omega)]
theorem b_or {a b : Nat} (h : a ≤ 9223372036854775807) (h' : b ≤ 9223372036854775807) : binA .or (.i (a : Int)) (.i (b : Int)) = some (.i ((a ||| b : Nat) : Int)) := by
  have e : (BitVec.ofInt 64 (a : Int) ||| BitVec.ofInt 64 (b : Int)).toNat = a ||| b := by rw [BitVec.toNat_or, ofI h, ofI h']
  show some (AV.int .i64 (IntKind.wrap .i64 ((BitVec.ofInt 64 (a : Int) ||| BitVec.ofInt 64 (b : Int)).toNat : Int))) = _
  have := or_le h h'
  rw [e, zx172 (by omega) (by omega)]
theorem b_shr {a b : Nat} (h' : b ≤ 63) : binA .shr (.i (a : Int)) (.i (b : Int)) = some (.i ((a >>> b : Nat) : Int)) := by
  show (if (b : Int) < 0 then none else some (AV.int .i64 ((a : Int).fdiv (2 ^ (min (b : Int).toNat 64))))) = _
  rw [if_neg (by omega), show min (b : Int).toNat 64 = b by omega, Nat.shiftRight_eq_div_pow]
  congr 2
  rw [Int.fdiv_eq_ediv_of_nonneg _ (by exact_mod_cast Nat.zero_le (2 ^ b))]
  simp
theorem b_shl {a b : Nat} (h' : b ≤ 63) (h : a <<< b ≤ 9223372036854775807) : binA .shl (.i (a : Int)) (.i (b : Int)) = some (.i ((a <<< b : Nat) : Int)) := by
  show (if (b : Int) < 0 then none else some (AV.int .i64 (IntKind.wrap .i64 ((a : Int) * 2 ^ (min (b : Int).toNat 64))))) = _
  have e : (a : Int) * 2 ^ b = ((a <<< b : Nat) : Int) := by rw [Nat.shiftLeft_eq]; simp
  rw [if_neg (by omega), show min (b : Int).toNat 64 = b by omega, e]
  generalize a <<< b = c at h
  rw [zx172 (by omega) (by omega)]
/-! ### Blocks -/
def tzQ (x : Nat) : Nat := Lib.ctz 64 x
def yQ (x : Nat) : Nat := x >>> tzQ x
def nQ (x : Nat) : Nat := 18446744073709551615 - yQ x
def cnQ (x : Nat) : Nat := Lib.ctz 64 (nQ x)
def nxQ (x : Nat) : Nat := yQ x >>> cnQ x
def blkF : Nat → Nat → List Int
  | 0, _ => []
  | f + 1, x => if x = 0 then [] else (cnQ x : Int) :: blkF f (nxQ x)
/-- the blocks of a line -/
def blkL (x : Nat) : List Int := blkF 5 x
def osame (o : Option AV) (v : AV) : Bool := match o with
  | some u => u.same v
  | none => false
theorem osame_eq {o : Option AV} {v : AV} (h : osame o v = true) : o = some v := by
  cases o with
  | none => cases h
  | some u => rw [AV.eq_of_same _ _ h]
def qOk (x : Nat) : Bool := x = 0 || (decide (nxQ x < x) && decide (cnQ x ≤ 5) && decide (blkL x = (cnQ x : Int) :: blkL (nxQ x)) && osame (tzP [.int .u64 x]) (.i (tzQ x)) && osame (binA .shr (.int .u64 x) (.i (tzQ x))) (.int .u64 (yQ x)) &&
  osame (unA .xor (.int .u64 (yQ x))) (.int .u64 (nQ x)) && osame (tzP [.int .u64 (nQ x)]) (.i (cnQ x)) && osame (binA .shr (.int .u64 (yQ x)) (.i (cnQ x))) (.int .u64 (nxQ x)))
theorem qOk_all : ∀ x, x < 32 → qOk x = true := by decide +kernel
theorem q_facts {x : Nat} (h : x < 32) (h0 : x ≠ 0) : nxQ x < x ∧ cnQ x ≤ 5 ∧ blkL x = (cnQ x : Int) :: blkL (nxQ x) ∧ tzP [.int .u64 (x : Int)] = some (.i (tzQ x : Nat)) ∧ binA .shr (.int .u64 (x : Int)) (.i (tzQ x : Nat)) = some (.int .u64 (yQ x : Nat)) ∧
    unA .xor (.int .u64 (yQ x : Nat)) = some (.int .u64 (nQ x : Nat)) ∧ tzP [.int .u64 (nQ x : Nat)] = some (.i (cnQ x : Nat)) ∧ binA .shr (.int .u64 (yQ x : Nat)) (.i (cnQ x : Nat)) = some (.int .u64 (nxQ x : Nat)) := by
  have q := qOk_all x h
  unfold qOk at q
  simp only [h0, decide_false, Bool.false_or, Bool.and_eq_true, decide_eq_true_eq] at q
  obtain ⟨⟨⟨⟨⟨⟨⟨q1, q2⟩, q3⟩, q4⟩, q5⟩, q6⟩, q7⟩, q8⟩ := q
  exact ⟨q1, q2, q3, osame_eq q4, osame_eq q5, osame_eq q6, osame_eq q7, osame_eq q8⟩
theorem blkL_0 : blkL 0 = [] := rfl
theorem blkL_len (x : Nat) : (blkL x).length ≤ 5 := by
  have : ∀ f x, (blkF f x).length ≤ f := by
    intro f
    induction f with
    | zero => intro x; simp [blkF]
    | succ f ih => intro x; unfold blkF; split <;> simp; exact ih _
  exact this 5 x
theorem blocks_ret {H : Heap} {x : Nat} (hx : x < 32) : Ret E 56 [.i x] (fun _ => False) H (blkL x) := by
  refine Ret.ro rfl fn56 rfl ?_
  unfold f56A
  have hc : convV .u64 (.i (x : Int)) = some (.int .u64 x) := by rw [zx95, wrapU (by omega) (by omega)]
  simp (disch := (first | assumption | omega | (simp only [List.length_append, List.length_cons, List.length_nil]; omega))) only [↓wD,wU,Nat.reduceBEq,zx150,zx151,zx159,zx160,zx161,zx162,Nat.reduceAdd,Nat.reduceSub,Nat.reduceMul,Nat.reduceLeDiff,Nat.reduceLT,Nat.reduceEqDiff,Int.reduceAdd,Int.reduceSub,Int.reduceMul,Int.reduceNeg,Int.reduceLT,Int.reduceLE,Int.reduceEq,Int.reduceToNat,Int.cast_ofNat_Int,↓reduceIte, hc]
  refine Wp.dec (fun y a H' => ∃ u acc, a 4 = .int .u64 y ∧ a 3 = u ∧ y < 32 ∧ Gr H H' ∧ Acc H.length (fun _ => False) H' u acc ∧ acc ++ blkL y = blkL x) x ?_ ?_
  · rintro y a H1 ⟨u, acc, a4, a3, hy, hg, hu, he⟩ ih
    by_cases h0 : y = 0
    · subst h0
      rw [blkL_0, List.append_nil] at he
      subst he
      have hd : decide (¬ ((0 : Nat) : Int) = 0) = false := by decide
      simp (disch := (first | assumption | omega | (simp only [List.length_append, List.length_cons, List.length_nil]; omega))) only [↓wD,wU,Nat.reduceBEq,zx150,zx151,zx159,zx160,zx161,zx162,Nat.reduceAdd,Nat.reduceSub,Nat.reduceMul,Nat.reduceLeDiff,Nat.reduceLT,Nat.reduceEqDiff,Int.reduceAdd,Int.reduceSub,Int.reduceMul,Int.reduceNeg,Int.reduceLT,Int.reduceLE,Int.reduceEq,Int.reduceToNat,Int.cast_ofNat_Int,↓reduceIte, a4, a3, hd]
      exact hu.sl
    · obtain ⟨q1, q2, q3, q4, q5, q6, q7, q8⟩ := q_facts hy h0
      have hd : decide (¬ (y : Int) = 0) = true := decide_eq_true (by omega)
      have t1 := RetP.prim (E := E) (H := H1) (f := 87) rfl q4 rfl rfl
      have t2 := RetP.prim (E := E) (H := H1) (f := 87) rfl q7 rfl rfl
      have hl : acc.length + (blkL y).length = (blkL x).length := by rw [← he, List.length_append]
      have hl5 := blkL_len x
      simp (disch := (first | assumption | omega | (simp only [List.length_append, List.length_cons, List.length_nil]; omega))) only [↓wD,wU,Nat.reduceBEq,zx150,zx151,zx159,zx160,zx161,zx162,Nat.reduceAdd,Nat.reduceSub,Nat.reduceMul,Nat.reduceLeDiff,Nat.reduceLT,Nat.reduceEqDiff,Int.reduceAdd,Int.reduceSub,Int.reduceMul,Int.reduceNeg,Int.reduceLT,Int.reduceLE,Int.reduceEq,Int.reduceToNat,Int.cast_ofNat_Int,↓reduceIte, a4, a3, hd, t1.call, q5, q6, t2.call, q8]
      refine hu.pushI (Nat.le_refl _) hg.1 (by omega) fun u' H2 hu' hk2 _ _ => ?_
      simp (disch := (first | assumption | omega | (simp only [List.length_append, List.length_cons, List.length_nil]; omega))) only [↓wD,wU,Nat.reduceBEq,zx150,zx151,zx159,zx160,zx161,zx162,Nat.reduceAdd,Nat.reduceSub,Nat.reduceMul,Nat.reduceLeDiff,Nat.reduceLT,Nat.reduceEqDiff,Int.reduceAdd,Int.reduceSub,Int.reduceMul,Int.reduceNeg,Int.reduceLT,Int.reduceLE,Int.reduceEq,Int.reduceToNat,Int.cast_ofNat_Int,↓reduceIte, q8]
      refine ih.go ⟨nxQ y, q1, u', acc ++ [(cnQ y : Int)], ?_⟩
      simp (disch := (first | assumption | omega | (simp only [List.length_append, List.length_cons, List.length_nil]; omega))) only [↓wD,wU,Nat.reduceBEq,zx150,zx151,zx159,zx160,zx161,zx162,Nat.reduceAdd,Nat.reduceSub,Nat.reduceMul,Nat.reduceLeDiff,Nat.reduceLT,Nat.reduceEqDiff,Int.reduceAdd,Int.reduceSub,Int.reduceMul,Int.reduceNeg,Int.reduceLT,Int.reduceLE,Int.reduceEq,Int.reduceToNat,Int.cast_ofNat_Int,↓reduceIte]
      refine ⟨by omega, hg.push hu (Nat.le_refl _) hk2, hu', ?_⟩
      rw [← he, q3]; simp
  · simp (disch := (first | assumption | omega | (simp only [List.length_append, List.length_cons, List.length_nil]; omega))) only [↓wD,wU,Nat.reduceBEq,zx150,zx151,zx159,zx160,zx161,zx162,Nat.reduceAdd,Nat.reduceSub,Nat.reduceMul,Nat.reduceLeDiff,Nat.reduceLT,Nat.reduceEqDiff,Int.reduceAdd,Int.reduceSub,Int.reduceMul,Int.reduceNeg,Int.reduceLT,Int.reduceLE,Int.reduceEq,Int.reduceToNat,Int.cast_ofNat_Int,↓reduceIte]
    exact ⟨.nils, [], rfl, hx, Gr.refl _, Acc.nil, rfl⟩
end Go.Proofs.YtjjndoigkhabdaaDoor
namespace Go.Proofs.YtjjndoigkhabdaaDoor
open Go Go.AM Go.Proofs
theorem b_shl1 {n : Nat} (h : n ≤ 62) : binA .shl (.i 1) (.i (n : Int)) = some (.i ((2 ^ n : Nat) : Int)) := by
  have hp : 2 ^ n ≤ 2 ^ 62 := Nat.pow_le_pow_right (by omega) h
  have := b_shl (a := 1) (b := n) (by omega) (by rw [Nat.shiftLeft_eq]; omega)
  rw [Nat.shiftLeft_eq, Nat.one_mul] at this
  exact this
theorem pow5 {n : Nat} (h : n ≤ 5) : 1 ≤ 2 ^ n ∧ 2 ^ n ≤ 32 := ⟨Nat.one_le_two_pow, Nat.pow_le_pow_right (n := 2) (by omega) h⟩
def SizeP (n : Int) : Prop := 1 ≤ n ∧ n ≤ 5
instance (n : Int) : Decidable (SizeP n) := by unfold SizeP; infer_instance
def SetP (n x : Int) : Prop := SizeP n ∧ 0 ≤ x ∧ x < ((2 ^ n.toNat : Nat) : Int)
instance (n x : Int) : Decidable (SetP n x) := by unfold SetP; infer_instance
theorem SizeP.nat {n : Int} (h : SizeP n) : ∃ m : Nat, n = m ∧ 1 ≤ m ∧ m ≤ 5 := by
  obtain ⟨m, rfl⟩ := Int.eq_ofNat_of_zero_le (show 0 ≤ n by have := h.1; omega)
  exact ⟨m, rfl, by have := h.1; omega, by have := h.2; omega⟩
theorem SetP.nat {n x : Int} (h : SetP n x) : ∃ m y : Nat, n = m ∧ x = y ∧ 1 ≤ m ∧ m ≤ 5 ∧ y < 2 ^ m ∧ y < 32 := by
  obtain ⟨m, rfl, h1, h2⟩ := h.1.nat
  obtain ⟨y, rfl⟩ := Int.eq_ofNat_of_zero_le h.2.1
  have h3 := h.2.2
  rw [Int.toNat_natCast] at h3
  have := pow5 h2
  exact ⟨m, y, rfl, rfl, h1, h2, by omega, by omega⟩
theorem isSize_ret {H : Heap} {n : Int} : RetP E 86 [.i n] H (.b (decide (SizeP n))) := by
  refine RetP.ro rfl fn86 rfl rfl ?_
  unfold f86A
  by_cases h1 : 1 ≤ n
  · by_cases h2 : n ≤ 5
    · have e : decide (SizeP n) = true := decide_eq_true ⟨h1, h2⟩
      simp (disch := (first | assumption | omega | (simp only [List.length_append, List.length_cons, List.length_nil]; omega))) only [↓wD,wU,Nat.reduceBEq,zx150,zx151,zx159,zx160,zx161,zx162,Nat.reduceAdd,Nat.reduceSub,Nat.reduceMul,Nat.reduceLeDiff,Nat.reduceLT,Nat.reduceEqDiff,Int.reduceAdd,Int.reduceSub,Int.reduceMul,Int.reduceNeg,Int.reduceLT,Int.reduceLE,Int.reduceEq,Int.reduceToNat,Int.cast_ofNat_Int,↓reduceIte, decide_eq_true h1, decide_eq_true h2, e]
    · have e : decide (SizeP n) = false := decide_eq_false fun h => h2 h.2
      simp (disch := (first | assumption | omega | (simp only [List.length_append, List.length_cons, List.length_nil]; omega))) only [↓wD,wU,Nat.reduceBEq,zx150,zx151,zx159,zx160,zx161,zx162,Nat.reduceAdd,Nat.reduceSub,Nat.reduceMul,Nat.reduceLeDiff,Nat.reduceLT,Nat.reduceEqDiff,Int.reduceAdd,Int.reduceSub,Int.reduceMul,Int.reduceNeg,Int.reduceLT,Int.reduceLE,Int.reduceEq,Int.reduceToNat,Int.cast_ofNat_Int,↓reduceIte, decide_eq_true h1, decide_eq_false h2, e]
  · have e : decide (SizeP n) = false := decide_eq_false fun h => h1 h.1
    simp (disch := (first | assumption | omega | (simp only [List.length_append, List.length_cons, List.length_nil]; omega))) only [↓wD,wU,Nat.reduceBEq,zx150,zx151,zx159,zx160,zx161,zx162,Nat.reduceAdd,Nat.reduceSub,Nat.reduceMul,Nat.reduceLeDiff,Nat.reduceLT,Nat.reduceEqDiff,Int.reduceAdd,Int.reduceSub,Int.reduceMul,Int.reduceNeg,Int.reduceLT,Int.reduceLE,Int.reduceEq,Int.reduceToNat,Int.cast_ofNat_Int,↓reduceIte, decide_eq_false h1, e]
theorem rsize_ret {H : Heap} {n : Int} : RetP E 59 [.i n] H (.b (decide (SizeP n))) := by
  refine RetP.ro rfl fn59 rfl rfl ?_
  unfold f59A
  by_cases h1 : 1 ≤ n
  · by_cases h2 : n ≤ 5
    · have e : decide (SizeP n) = true := decide_eq_true ⟨h1, h2⟩
      simp (disch := (first | assumption | omega | (simp only [List.length_append, List.length_cons, List.length_nil]; omega))) only [↓wD,wU,Nat.reduceBEq,zx150,zx151,zx159,zx160,zx161,zx162,Nat.reduceAdd,Nat.reduceSub,Nat.reduceMul,Nat.reduceLeDiff,Nat.reduceLT,Nat.reduceEqDiff,Int.reduceAdd,Int.reduceSub,Int.reduceMul,Int.reduceNeg,Int.reduceLT,Int.reduceLE,Int.reduceEq,Int.reduceToNat,Int.cast_ofNat_Int,↓reduceIte, decide_eq_true h1, decide_eq_true h2, e]
    · have e : decide (SizeP n) = false := decide_eq_false fun h => h2 h.2
      simp (disch := (first | assumption | omega | (simp only [List.length_append, List.length_cons, List.length_nil]; omega))) only [↓wD,wU,Nat.reduceBEq,zx150,zx151,zx159,zx160,zx161,zx162,Nat.reduceAdd,Nat.reduceSub,Nat.reduceMul,Nat.reduceLeDiff,Nat.reduceLT,Nat.reduceEqDiff,Int.reduceAdd,Int.reduceSub,Int.reduceMul,Int.reduceNeg,Int.reduceLT,Int.reduceLE,Int.reduceEq,Int.reduceToNat,Int.cast_ofNat_Int,↓reduceIte, decide_eq_true h1, decide_eq_false h2, e]
  · have e : decide (SizeP n) = false := decide_eq_false fun h => h1 h.1
    simp (disch := (first | assumption | omega | (simp only [List.length_append, List.length_cons, List.length_nil]; omega))) only [↓wD,wU,Nat.reduceBEq,zx150,zx151,zx159,zx160,zx161,zx162,Nat.reduceAdd,Nat.reduceSub,Nat.reduceMul,Nat.reduceLeDiff,Nat.reduceLT,Nat.reduceEqDiff,Int.reduceAdd,Int.reduceSub,Int.reduceMul,Int.reduceNeg,Int.reduceLT,Int.reduceLE,Int.reduceEq,Int.reduceToNat,Int.cast_ofNat_Int,↓reduceIte, decide_eq_false h1, e]
theorem isSet_ret {H : Heap} {n x : Int} : RetP E 55 [.i n, .i x] H (.b (decide (SetP n x))) := by
  refine RetP.ro rfl fn55 rfl rfl ?_
  unfold f55A
  have hz := isSize_ret (H := H) (n := n)
  by_cases h : SizeP n
  · rw [decide_eq_true h] at hz
    obtain ⟨m, rfl, h1, h2⟩ := h.nat
    have e : decide (SetP (m : Int) x) = (decide (0 ≤ x) && decide (x < ((2 ^ m : Nat) : Int))) := by
      by_cases q1 : 0 ≤ x <;> by_cases q2 : x < ((2 ^ m : Nat) : Int) <;> simp only [q1, q2, decide_true, decide_false, Bool.and_true, Bool.and_false, Bool.true_and]
      · exact decide_eq_true ⟨h, q1, by rwa [Int.toNat_natCast]⟩
      · exact decide_eq_false fun q => q2 (by have := q.2.2; rwa [Int.toNat_natCast] at this)
      · exact decide_eq_false fun q => q1 q.2.1
      · exact decide_eq_false fun q => q1 q.2.1
    have hsh := b_shl1 (n := m) (by omega)
    rw [e]
    generalize 2 ^ m = M at hsh
    by_cases q1 : 0 ≤ x
    · simp (disch := (first | assumption | omega | (simp only [List.length_append, List.length_cons, List.length_nil]; omega))) only [↓wD,wU,Nat.reduceBEq,zx150,zx151,zx159,zx160,zx161,zx162,Nat.reduceAdd,Nat.reduceSub,Nat.reduceMul,Nat.reduceLeDiff,Nat.reduceLT,Nat.reduceEqDiff,Int.reduceAdd,Int.reduceSub,Int.reduceMul,Int.reduceNeg,Int.reduceLT,Int.reduceLE,Int.reduceEq,Int.reduceToNat,Int.cast_ofNat_Int,↓reduceIte, hz.call, hsh, decide_eq_true q1]
    · simp (disch := (first | assumption | omega | (simp only [List.length_append, List.length_cons, List.length_nil]; omega))) only [↓wD,wU,Nat.reduceBEq,zx150,zx151,zx159,zx160,zx161,zx162,Nat.reduceAdd,Nat.reduceSub,Nat.reduceMul,Nat.reduceLeDiff,Nat.reduceLT,Nat.reduceEqDiff,Int.reduceAdd,Int.reduceSub,Int.reduceMul,Int.reduceNeg,Int.reduceLT,Int.reduceLE,Int.reduceEq,Int.reduceToNat,Int.cast_ofNat_Int,↓reduceIte, hz.call, hsh, decide_eq_false q1]
  · rw [decide_eq_false h] at hz
    have e : decide (SetP n x) = false := decide_eq_false fun q => h q.1
    simp (disch := (first | assumption | omega | (simp only [List.length_append, List.length_cons, List.length_nil]; omega))) only [↓wD,wU,Nat.reduceBEq,zx150,zx151,zx159,zx160,zx161,zx162,Nat.reduceAdd,Nat.reduceSub,Nat.reduceMul,Nat.reduceLeDiff,Nat.reduceLT,Nat.reduceEqDiff,Int.reduceAdd,Int.reduceSub,Int.reduceMul,Int.reduceNeg,Int.reduceLT,Int.reduceLE,Int.reduceEq,Int.reduceToNat,Int.cast_ofNat_Int,↓reduceIte, hz.call, e]
theorem rset_ret {H : Heap} {n x : Int} : RetP E 20 [.i n, .i x] H (.b (decide (SetP n x))) := by
  refine RetP.ro rfl fn20 rfl rfl ?_
  unfold f20A
  have hz := rsize_ret (H := H) (n := n)
  by_cases h : SizeP n
  · rw [decide_eq_true h] at hz
    obtain ⟨m, rfl, h1, h2⟩ := h.nat
    have e : decide (SetP (m : Int) x) = (decide (0 ≤ x) && decide (x < ((2 ^ m : Nat) : Int))) := by
      by_cases q1 : 0 ≤ x <;> by_cases q2 : x < ((2 ^ m : Nat) : Int) <;> simp only [q1, q2, decide_true, decide_false, Bool.and_true, Bool.and_false, Bool.true_and]
      · exact decide_eq_true ⟨h, q1, by rwa [Int.toNat_natCast]⟩
      · exact decide_eq_false fun q => q2 (by have := q.2.2; rwa [Int.toNat_natCast] at this)
      · exact decide_eq_false fun q => q1 q.2.1
      · exact decide_eq_false fun q => q1 q.2.1
    have hsh := b_shl1 (n := m) (by omega)
    rw [e]
    generalize 2 ^ m = M at hsh
    by_cases q1 : 0 ≤ x
    · simp (disch := (first | assumption | omega | (simp only [List.length_append, List.length_cons, List.length_nil]; omega))) only [↓wD,wU,Nat.reduceBEq,zx150,zx151,zx159,zx160,zx161,zx162,Nat.reduceAdd,Nat.reduceSub,Nat.reduceMul,Nat.reduceLeDiff,Nat.reduceLT,Nat.reduceEqDiff,Int.reduceAdd,Int.reduceSub,Int.reduceMul,Int.reduceNeg,Int.reduceLT,Int.reduceLE,Int.reduceEq,Int.reduceToNat,Int.cast_ofNat_Int,↓reduceIte, hz.call, hsh, decide_eq_true q1]
    · simp (disch := (first | assumption | omega | (simp only [List.length_append, List.length_cons, List.length_nil]; omega))) only [↓wD,wU,Nat.reduceBEq,zx150,zx151,zx159,zx160,zx161,zx162,Nat.reduceAdd,Nat.reduceSub,Nat.reduceMul,Nat.reduceLeDiff,Nat.reduceLT,Nat.reduceEqDiff,Int.reduceAdd,Int.reduceSub,Int.reduceMul,Int.reduceNeg,Int.reduceLT,Int.reduceLE,Int.reduceEq,Int.reduceToNat,Int.cast_ofNat_Int,↓reduceIte, hz.call, hsh, decide_eq_false q1]
  · rw [decide_eq_false h] at hz
    have e : decide (SetP n x) = false := decide_eq_false fun q => h q.1
    simp (disch := (first | assumption | omega | (simp only [List.length_append, List.length_cons, List.length_nil]; omega))) only [↓wD,wU,Nat.reduceBEq,zx150,zx151,zx159,zx160,zx161,zx162,Nat.reduceAdd,Nat.reduceSub,Nat.reduceMul,Nat.reduceLeDiff,Nat.reduceLT,Nat.reduceEqDiff,Int.reduceAdd,Int.reduceSub,Int.reduceMul,Int.reduceNeg,Int.reduceLT,Int.reduceLE,Int.reduceEq,Int.reduceToNat,Int.cast_ofNat_Int,↓reduceIte, hz.call, e]
/-! ### Lines -/
theorem list_ret {p : Nat → Prop} {H : Heap} {v : AV} {xs : List Int} (hx : Sl p H v xs) : Ret E 19 [v] (fun _ => False) H (xs.take 8) := by
  refine Ret.ro rfl fn19 rfl ?_
  unfold f19A
  have hb := hx.bound
  have hs : slV 1 v none (some (.i (min (xs.length : Int) 8))) none = some (v.cut 0 (min xs.length 8)) := by
    refine hx.slV_lh none _ (b := min xs.length 8) ?_ (bound_none (by omega)) (by omega) (by omega)
    rw [bound_some (by omega) (by omega)]
    congr 1
    omega
  simp (disch := (first | assumption | omega | (simp only [List.length_append, List.length_cons, List.length_nil]; omega))) only [↓wD,wU,Nat.reduceBEq,zx150,zx151,zx159,zx160,zx161,zx162,Nat.reduceAdd,Nat.reduceSub,Nat.reduceMul,Nat.reduceLeDiff,Nat.reduceLT,Nat.reduceEqDiff,Int.reduceAdd,Int.reduceSub,Int.reduceMul,Int.reduceNeg,Int.reduceLT,Int.reduceLE,Int.reduceEq,Int.reduceToNat,Int.cast_ofNat_Int,↓reduceIte, *, hx.I, hs]
  have hc := hx.cut (a := 0) (b := min xs.length 8) (by omega) (by omega)
  have e : (xs.drop 0).take (min xs.length 8 - 0) = xs.take 8 := by
    rw [List.drop_zero, Nat.sub_zero]
    by_cases hl : xs.length ≤ 8
    · rw [List.take_of_length_le (by omega), List.take_of_length_le hl]
    · congr 1; omega
  rw [e] at hc
  refine (clone_ret hc (by rw [List.length_take]; omega)).go fun u N hu => ?_
  simp (disch := (first | assumption | omega | (simp only [List.length_append, List.length_cons, List.length_nil]; omega))) only [↓wD,wU,Nat.reduceBEq,zx150,zx151,zx159,zx160,zx161,zx162,Nat.reduceAdd,Nat.reduceSub,Nat.reduceMul,Nat.reduceLeDiff,Nat.reduceLT,Nat.reduceEqDiff,Int.reduceAdd,Int.reduceSub,Int.reduceMul,Int.reduceNeg,Int.reduceLT,Int.reduceLE,Int.reduceEq,Int.reduceToNat,Int.cast_ofNat_Int,↓reduceIte]
  exact hu
end Go.Proofs.YtjjndoigkhabdaaDoor
namespace Go.Proofs.YtjjndoigkhabdaaDoor
open Go Go.AM Go.Proofs
theorem same_ret {p q : Nat → Prop} {H : Heap} {v u : AV} {xs ys : List Int} (hx : Sl p H v xs) (hy : Sl q H u ys) : RetP E 60 [v, u] H (.b (decide (xs = ys))) := by
  refine RetP.ro rfl fn60 rfl rfl ?_
  unfold f60A
  have hbx := hx.bound
  by_cases hl : xs.length = ys.length
  · have e0 : decide (¬ (xs.length : Int) = ys.length) = false := decide_eq_false (by omega)
    simp (disch := (first | assumption | omega | (simp only [List.length_append, List.length_cons, List.length_nil]; omega))) only [↓wD,wU,Nat.reduceBEq,zx150,zx151,zx159,zx160,zx161,zx162,Nat.reduceAdd,Nat.reduceSub,Nat.reduceMul,Nat.reduceLeDiff,Nat.reduceLT,Nat.reduceEqDiff,Int.reduceAdd,Int.reduceSub,Int.reduceMul,Int.reduceNeg,Int.reduceLT,Int.reduceLE,Int.reduceEq,Int.reduceToNat,Int.cast_ofNat_Int,↓reduceIte, hx.I, hy.I, e0]
    refine Wp.for xs.length (fun i a H' => H' = H ∧ a 1 = u ∧ a 12 = v ∧ a 13 = .i xs.length ∧ a 14 = .i i ∧ xs.take i = ys.take i) ?_ ?_
    · rintro i a H' hi ⟨rfl, a1, a12, a13, a14, hh⟩ ih
      simp (disch := (first | assumption | omega | (simp only [List.length_append, List.length_cons, List.length_nil]; omega))) only [↓wD,wU,Nat.reduceBEq,zx150,zx151,zx159,zx160,zx161,zx162,Nat.reduceAdd,Nat.reduceSub,Nat.reduceMul,Nat.reduceLeDiff,Nat.reduceLT,Nat.reduceEqDiff,Int.reduceAdd,Int.reduceSub,Int.reduceMul,Int.reduceNeg,Int.reduceLT,Int.reduceLE,Int.reduceEq,Int.reduceToNat,Int.cast_ofNat_Int,↓reduceIte, a1, a12, a13, a14]
      refine condP_split (fun hlt => ?_) (fun hlt => ?_)
      · have hi' : i < xs.length := by omega
        by_cases he : gi xs (i : Int) = gi ys (i : Int)
        · have hh2 := take_eq_succ hh hi' (by omega) he
          have hd : decide (¬ gi xs (i : Int) = gi ys (i : Int)) = false := decide_eq_false fun q => q he
          simp (disch := (first | assumption | omega | (simp only [List.length_append, List.length_cons, List.length_nil]; omega))) only [↓wD,wU,Nat.reduceBEq,zx150,zx151,zx159,zx160,zx161,zx162,Nat.reduceAdd,Nat.reduceSub,Nat.reduceMul,Nat.reduceLeDiff,Nat.reduceLT,Nat.reduceEqDiff,Int.reduceAdd,Int.reduceSub,Int.reduceMul,Int.reduceNeg,Int.reduceLT,Int.reduceLE,Int.reduceEq,Int.reduceToNat,Int.cast_ofNat_Int,↓reduceIte, a1, a12, a13, a14, hx.I, hy.I, hd]
          refine (ih hi').go ⟨rfl, ?_⟩
          simp (disch := (first | assumption | omega | (simp only [List.length_append, List.length_cons, List.length_nil]; omega))) only [↓wD,wU,Nat.reduceBEq,zx150,zx151,zx159,zx160,zx161,zx162,Nat.reduceAdd,Nat.reduceSub,Nat.reduceMul,Nat.reduceLeDiff,Nat.reduceLT,Nat.reduceEqDiff,Int.reduceAdd,Int.reduceSub,Int.reduceMul,Int.reduceNeg,Int.reduceLT,Int.reduceLE,Int.reduceEq,Int.reduceToNat,Int.cast_ofNat_Int,↓reduceIte, a1, a12, a13, a14]
          exact hh2
        · have e : decide (xs = ys) = false := decide_eq_false fun h => he (by rw [h])
          have hd : decide (¬ gi xs (i : Int) = gi ys (i : Int)) = true := decide_eq_true he
          simp (disch := (first | assumption | omega | (simp only [List.length_append, List.length_cons, List.length_nil]; omega))) only [↓wD,wU,Nat.reduceBEq,zx150,zx151,zx159,zx160,zx161,zx162,Nat.reduceAdd,Nat.reduceSub,Nat.reduceMul,Nat.reduceLeDiff,Nat.reduceLT,Nat.reduceEqDiff,Int.reduceAdd,Int.reduceSub,Int.reduceMul,Int.reduceNeg,Int.reduceLT,Int.reduceLE,Int.reduceEq,Int.reduceToNat,Int.cast_ofNat_Int,↓reduceIte, a1, a12, a13, a14, hx.I, hy.I, hd, e]
      · have e : decide (xs = ys) = true := decide_eq_true (take_all hh hl (by omega))
        simp (disch := (first | assumption | omega | (simp only [List.length_append, List.length_cons, List.length_nil]; omega))) only [↓wD,wU,Nat.reduceBEq,zx150,zx151,zx159,zx160,zx161,zx162,Nat.reduceAdd,Nat.reduceSub,Nat.reduceMul,Nat.reduceLeDiff,Nat.reduceLT,Nat.reduceEqDiff,Int.reduceAdd,Int.reduceSub,Int.reduceMul,Int.reduceNeg,Int.reduceLT,Int.reduceLE,Int.reduceEq,Int.reduceToNat,Int.cast_ofNat_Int,↓reduceIte, a1, a12, a13, a14, e]
    · (simp (disch := (first | assumption | omega | (simp only [List.length_append, List.length_cons, List.length_nil]; omega))) only [↓wD,wU,Nat.reduceBEq,zx150,zx151,zx159,zx160,zx161,zx162,Nat.reduceAdd,Nat.reduceSub,Nat.reduceMul,Nat.reduceLeDiff,Nat.reduceLT,Nat.reduceEqDiff,Int.reduceAdd,Int.reduceSub,Int.reduceMul,Int.reduceNeg,Int.reduceLT,Int.reduceLE,Int.reduceEq,Int.reduceToNat,Int.cast_ofNat_Int,↓reduceIte]) <;> simp
  · have e0 : decide (¬ (xs.length : Int) = ys.length) = true := decide_eq_true (by omega)
    have e : decide (xs = ys) = false := decide_eq_false fun h => hl (by rw [h])
    simp (disch := (first | assumption | omega | (simp only [List.length_append, List.length_cons, List.length_nil]; omega))) only [↓wD,wU,Nat.reduceBEq,zx150,zx151,zx159,zx160,zx161,zx162,Nat.reduceAdd,Nat.reduceSub,Nat.reduceMul,Nat.reduceLeDiff,Nat.reduceLT,Nat.reduceEqDiff,Int.reduceAdd,Int.reduceSub,Int.reduceMul,Int.reduceNeg,Int.reduceLT,Int.reduceLE,Int.reduceEq,Int.reduceToNat,Int.cast_ofNat_Int,↓reduceIte, hx.I, hy.I, e0, e]
/-- what the reference's Blocks knows behind i squares -/
def rbS (x : Nat) : Nat → List Int × Nat
  | 0 => ([], 0)
  | i + 1 => if (x >>> i) % 2 = 1 then ((rbS x i).1, (rbS x i).2 + 1) else (if (rbS x i).2 > 0 then (rbS x i).1 ++ [((rbS x i).2 : Int)] else (rbS x i).1, 0)
theorem rbS_all : ∀ n, n < 6 → ∀ x, x < 2 ^ n → (rbS x (n + 1)).1 = blkL x := by decide +kernel
theorem rbS_len (x : Nat) : ∀ i, (rbS x i).1.length ≤ i ∧ (rbS x i).2 ≤ i
  | 0 => ⟨Nat.le_refl _, Nat.le_refl _⟩
  | i + 1 => by
    have h := rbS_len x i
    unfold rbS
    split
    · exact ⟨by simp only []; omega, by simp only []; omega⟩
    · split
      · simp; omega
      · simp; omega
theorem rblocks_ret {H : Heap} {n x : Nat} (hn : n ≤ 5) (hx : x < 2 ^ n) : Ret E 22 [.i n, .i x] (fun _ => False) H (blkL x) := by
  refine Ret.ro rfl fn22 rfl ?_
  unfold f22A
  have h32 : x < 32 := by have := pow5 hn; omega
  have e := rbS_all n (by omega) x hx
  simp (disch := (first | assumption | omega | (simp only [List.length_append, List.length_cons, List.length_nil]; omega))) only [↓wD,wU,Nat.reduceBEq,zx150,zx151,zx159,zx160,zx161,zx162,Nat.reduceAdd,Nat.reduceSub,Nat.reduceMul,Nat.reduceLeDiff,Nat.reduceLT,Nat.reduceEqDiff,Int.reduceAdd,Int.reduceSub,Int.reduceMul,Int.reduceNeg,Int.reduceLT,Int.reduceLE,Int.reduceEq,Int.reduceToNat,Int.cast_ofNat_Int,↓reduceIte]
  refine Wp.for (n + 1) (fun i a H' => ∃ u, a 1 = .i x ∧ a 5 = u ∧ a 6 = .i (rbS x i).2 ∧ a 9 = .i (n + 1) ∧ a 10 = .i i ∧ Gr H H' ∧ Acc H.length (fun _ => False) H' u (rbS x i).1) ?_ ?_
  · rintro i a H1 hi ⟨u, a1, a5, a6, a9, a10, hg, hu⟩ ih
    have ln := rbS_len x i
    simp (disch := (first | assumption | omega | (simp only [List.length_append, List.length_cons, List.length_nil]; omega))) only [↓wD,wU,Nat.reduceBEq,zx150,zx151,zx159,zx160,zx161,zx162,Nat.reduceAdd,Nat.reduceSub,Nat.reduceMul,Nat.reduceLeDiff,Nat.reduceLT,Nat.reduceEqDiff,Int.reduceAdd,Int.reduceSub,Int.reduceMul,Int.reduceNeg,Int.reduceLT,Int.reduceLE,Int.reduceEq,Int.reduceToNat,Int.cast_ofNat_Int,↓reduceIte, a1, a5, a6, a9, a10]
    refine condP_split (fun hlt => ?_) (fun hlt => ?_)
    · have hi' : i < n + 1 := by omega
      have sh := b_shr (a := x) (b := i) (by omega)
      have sle : x >>> i ≤ x := by rw [Nat.shiftRight_eq_div_pow]; exact Nat.div_le_self _ _
      have an : binA .and (.i ((x >>> i : Nat) : Int)) (.i 1) = some (.i ((x >>> i % 2 : Nat) : Int)) := by
        have := b_and (a := x >>> i) (b := 1) (by omega) (by omega)
        rw [Nat.and_one_is_mod] at this
        exact this
      by_cases hb : x >>> i % 2 = 1
      · have hd : decide (((x >>> i % 2 : Nat) : Int) = 1) = true := decide_eq_true (by omega)
        have e1 : rbS x (i + 1) = ((rbS x i).1, (rbS x i).2 + 1) := by rw [rbS, if_pos hb]
        simp (disch := (first | assumption | omega | (simp only [List.length_append, List.length_cons, List.length_nil]; omega))) only [↓wD,wU,Nat.reduceBEq,zx150,zx151,zx159,zx160,zx161,zx162,Nat.reduceAdd,Nat.reduceSub,Nat.reduceMul,Nat.reduceLeDiff,Nat.reduceLT,Nat.reduceEqDiff,Int.reduceAdd,Int.reduceSub,Int.reduceMul,Int.reduceNeg,Int.reduceLT,Int.reduceLE,Int.reduceEq,Int.reduceToNat,Int.cast_ofNat_Int,↓reduceIte, a1, a5, a6, a9, a10, sh, an, hd]
        refine (ih hi').go ⟨u, ?_⟩
        rw [e1]
        simp (disch := (first | assumption | omega | (simp only [List.length_append, List.length_cons, List.length_nil]; omega))) only [↓wD,wU,Nat.reduceBEq,zx150,zx151,zx159,zx160,zx161,zx162,Nat.reduceAdd,Nat.reduceSub,Nat.reduceMul,Nat.reduceLeDiff,Nat.reduceLT,Nat.reduceEqDiff,Int.reduceAdd,Int.reduceSub,Int.reduceMul,Int.reduceNeg,Int.reduceLT,Int.reduceLE,Int.reduceEq,Int.reduceToNat,Int.cast_ofNat_Int,↓reduceIte, a1, a5, a6, a9, a10]
        exact ⟨hg, hu⟩
      · have hd : decide (((x >>> i % 2 : Nat) : Int) = 1) = false := decide_eq_false (by omega)
        by_cases h0 : (rbS x i).2 > 0
        · have e1 : rbS x (i + 1) = ((rbS x i).1 ++ [((rbS x i).2 : Int)], 0) := by rw [rbS, if_neg hb, if_pos h0]
          have hd2 : decide (0 < ((rbS x i).2 : Int)) = true := decide_eq_true (by omega)
          simp (disch := (first | assumption | omega | (simp only [List.length_append, List.length_cons, List.length_nil]; omega))) only [↓wD,wU,Nat.reduceBEq,zx150,zx151,zx159,zx160,zx161,zx162,Nat.reduceAdd,Nat.reduceSub,Nat.reduceMul,Nat.reduceLeDiff,Nat.reduceLT,Nat.reduceEqDiff,Int.reduceAdd,Int.reduceSub,Int.reduceMul,Int.reduceNeg,Int.reduceLT,Int.reduceLE,Int.reduceEq,Int.reduceToNat,Int.cast_ofNat_Int,↓reduceIte, a1, a5, a6, a9, a10, sh, an, hd, hd2]
          refine hu.pushI (Nat.le_refl _) hg.1 (by omega) fun u' H3 hu' hk3 _ _ => ?_
          simp (disch := (first | assumption | omega | (simp only [List.length_append, List.length_cons, List.length_nil]; omega))) only [↓wD,wU,Nat.reduceBEq,zx150,zx151,zx159,zx160,zx161,zx162,Nat.reduceAdd,Nat.reduceSub,Nat.reduceMul,Nat.reduceLeDiff,Nat.reduceLT,Nat.reduceEqDiff,Int.reduceAdd,Int.reduceSub,Int.reduceMul,Int.reduceNeg,Int.reduceLT,Int.reduceLE,Int.reduceEq,Int.reduceToNat,Int.cast_ofNat_Int,↓reduceIte, a1, a5, a6, a9, a10]
          refine (ih hi').go ⟨u', ?_⟩
          rw [e1]
          simp (disch := (first | assumption | omega | (simp only [List.length_append, List.length_cons, List.length_nil]; omega))) only [↓wD,wU,Nat.reduceBEq,zx150,zx151,zx159,zx160,zx161,zx162,Nat.reduceAdd,Nat.reduceSub,Nat.reduceMul,Nat.reduceLeDiff,Nat.reduceLT,Nat.reduceEqDiff,Int.reduceAdd,Int.reduceSub,Int.reduceMul,Int.reduceNeg,Int.reduceLT,Int.reduceLE,Int.reduceEq,Int.reduceToNat,Int.cast_ofNat_Int,↓reduceIte, a1, a5, a6, a9, a10]
          exact ⟨hg.push hu (Nat.le_refl _) hk3, hu'⟩
        · have e1 : rbS x (i + 1) = ((rbS x i).1, 0) := by rw [rbS, if_neg hb, if_neg h0]
          have hd2 : decide (0 < ((rbS x i).2 : Int)) = false := decide_eq_false (by omega)
          simp (disch := (first | assumption | omega | (simp only [List.length_append, List.length_cons, List.length_nil]; omega))) only [↓wD,wU,Nat.reduceBEq,zx150,zx151,zx159,zx160,zx161,zx162,Nat.reduceAdd,Nat.reduceSub,Nat.reduceMul,Nat.reduceLeDiff,Nat.reduceLT,Nat.reduceEqDiff,Int.reduceAdd,Int.reduceSub,Int.reduceMul,Int.reduceNeg,Int.reduceLT,Int.reduceLE,Int.reduceEq,Int.reduceToNat,Int.cast_ofNat_Int,↓reduceIte, a1, a5, a6, a9, a10, sh, an, hd, hd2]
          refine (ih hi').go ⟨u, ?_⟩
          rw [e1]
          simp (disch := (first | assumption | omega | (simp only [List.length_append, List.length_cons, List.length_nil]; omega))) only [↓wD,wU,Nat.reduceBEq,zx150,zx151,zx159,zx160,zx161,zx162,Nat.reduceAdd,Nat.reduceSub,Nat.reduceMul,Nat.reduceLeDiff,Nat.reduceLT,Nat.reduceEqDiff,Int.reduceAdd,Int.reduceSub,Int.reduceMul,Int.reduceNeg,Int.reduceLT,Int.reduceLE,Int.reduceEq,Int.reduceToNat,Int.cast_ofNat_Int,↓reduceIte, a1, a5, a6, a9, a10]
          exact ⟨hg, hu⟩
    · obtain rfl : i = n + 1 := by omega
      rw [e] at hu
      simp (disch := (first | assumption | omega | (simp only [List.length_append, List.length_cons, List.length_nil]; omega))) only [↓wD,wU,Nat.reduceBEq,zx150,zx151,zx159,zx160,zx161,zx162,Nat.reduceAdd,Nat.reduceSub,Nat.reduceMul,Nat.reduceLeDiff,Nat.reduceLT,Nat.reduceEqDiff,Int.reduceAdd,Int.reduceSub,Int.reduceMul,Int.reduceNeg,Int.reduceLT,Int.reduceLE,Int.reduceEq,Int.reduceToNat,Int.cast_ofNat_Int,↓reduceIte, a1, a5, a6, a9, a10]
      exact hu.sl
  · simp (disch := (first | assumption | omega | (simp only [List.length_append, List.length_cons, List.length_nil]; omega))) only [↓wD,wU,Nat.reduceBEq,zx150,zx151,zx159,zx160,zx161,zx162,Nat.reduceAdd,Nat.reduceSub,Nat.reduceMul,Nat.reduceLeDiff,Nat.reduceLT,Nat.reduceEqDiff,Int.reduceAdd,Int.reduceSub,Int.reduceMul,Int.reduceNeg,Int.reduceLT,Int.reduceLE,Int.reduceEq,Int.reduceToNat,Int.cast_ofNat_Int,↓reduceIte]
    exact ⟨.nils, rfl, rfl, Gr.refl _, Acc.nil⟩
theorem awake_ret {H : Heap} : RetP E 24 [] H (.b true) :=
  RetP.closed (n := 300) rfl fn24 rfl rfl (by kernel_rfl)
end Go.Proofs.YtjjndoigkhabdaaDoor
namespace Go.Proofs.YtjjndoigkhabdaaDoor
open Go Go.AM Go.Proofs
theorem _root_.Go.AM.RetP.callv {E : Tab} {f : Nat} {us caps vs : List AV} {H : Heap} {v : AV} (h : RetP E f (us ++ vs ++ caps) H v) {lo : Nat} {Q : AV → Heap → Prop} : @callvP E lo (.fn f us caps) vs H ⟨Q⟩ = Q v H := h.iff
theorem _root_.Go.AM.RetP.callv1 {E : Tab} {f : Nat} {caps vs : List AV} {H : Heap} {v : AV} (h : RetP E f (vs ++ caps) H v) {lo : Nat} {Q : AV → Heap → Prop} : @callvP E lo (.fn f [] caps) vs H ⟨Q⟩ = Q v H := RetP.callv (us := []) (by simpa using h)
end Go.Proofs.YtjjndoigkhabdaaDoor
namespace Go.Proofs.YtjjndoigkhabdaaDoor
open Go Go.AM Go.Proofs
theorem rv_pp {α β : Type} [Rep α] [Rep β] {p : Nat → Prop} {H : Heap} {u w : AV} {x : List α} {y : List β} (h1 : Sl p H u x) (h2 : Sl p H w y) : RV.rv p H (.ag [u, w]) ((x, y) : List α × List β) :=
  ⟨[u, w], rfl, [u], [w], rfl, ⟨u, rfl, h1⟩, ⟨w, rfl, h2⟩⟩
theorem rv_pp_elim {α β : Type} [Rep α] [Rep β] {p : Nat → Prop} {H : Heap} {v : AV} {x : List α × List β} (h : RV.rv p H v x) : ∃ u w, v = .ag [u, w] ∧ Sl p H u x.1 ∧ Sl p H w x.2 := by
  obtain ⟨cs, rfl, c1, c2, rfl, ⟨u, rfl, h1⟩, ⟨w, rfl, h2⟩⟩ := h
  exact ⟨u, w, rfl, h1, h2⟩
def findG {α : Type} (P : α → Bool) : List α → Nat → Int
  | [], _ => -1
  | y :: ys, i => if P y then i else findG P ys (i + 1)
theorem findG_ge {α : Type} {P : α → Bool} : ∀ {xs : List α} {i : Nat}, decide (0 ≤ findG P xs i) = xs.any P
  | [], i => by simp [findG]
  | y :: ys, i => by
    unfold findG
    cases h : P y
    · simp [h, findG_ge]
    · simp [h]
theorem idxI_ret {p : Nat → Prop} {H : Heap} {v : AV} {f : Nat} {caps : List AV} {xs : List Int} {P : Int → Bool} (hx : Sl p H v xs) (hf : ∀ x ∈ xs, RetP E f ([.i x] ++ caps) H (.b (P x))) : RetP E 110 [v, .fn f [] caps] H (.i (findG P xs 0)) := by
  refine RetP.ro rfl fn110 rfl rfl ?_
  unfold f110A
  have hI := hx.I
  have hb := hx.bound
  obtain ⟨r, er⟩ : ∃ r, findG P xs 0 = r := ⟨_, rfl⟩
  rw [er]
  simp (disch := (first | assumption | omega | (simp only [List.length_append, List.length_cons, List.length_nil]; omega))) only [↓wD,wU,Nat.reduceBEq,zx150,zx151,zx159,zx160,zx161,zx162,Nat.reduceAdd,Nat.reduceSub,Nat.reduceMul,Nat.reduceLeDiff,Nat.reduceLT,Nat.reduceEqDiff,Int.reduceAdd,Int.reduceSub,Int.reduceMul,Int.reduceNeg,Int.reduceLT,Int.reduceLE,Int.reduceEq,Int.reduceToNat,Int.cast_ofNat_Int,↓reduceIte, hI]
  refine Wp.for xs.length (fun i a H' => H' = H ∧ a 0 = v ∧ a 1 = .fn f [] caps ∧ a 7 = .i xs.length ∧ a 8 = .i i ∧ findG P (xs.drop i) i = r) ?_ ?_
  · clear er
    rintro i a H' hi ⟨rfl, a0, a1, a7, a8, hh⟩ ih
    simp (disch := (first | assumption | omega | (simp only [List.length_append, List.length_cons, List.length_nil]; omega))) only [↓wD,wU,Nat.reduceBEq,zx150,zx151,zx159,zx160,zx161,zx162,Nat.reduceAdd,Nat.reduceSub,Nat.reduceMul,Nat.reduceLeDiff,Nat.reduceLT,Nat.reduceEqDiff,Int.reduceAdd,Int.reduceSub,Int.reduceMul,Int.reduceNeg,Int.reduceLT,Int.reduceLE,Int.reduceEq,Int.reduceToNat,Int.cast_ofNat_Int,↓reduceIte, a0, a1, a7, a8]
    refine condP_split (fun hlt => ?_) (fun hlt => ?_)
    · have hi' : i < xs.length := by omega
      have e : xs.drop i = gi xs (i : Int) :: xs.drop (i + 1) := by rw [gi_nat hi']; exact List.drop_eq_getElem_cons hi'
      rw [e, findG] at hh
      clear e
      have hc := hf _ (mem_gi hi')
      cases hp : P (gi xs (i : Int))
      · rw [hp] at hc hh
        simp only [Bool.false_eq_true, if_false] at hh
        simp (disch := (first | assumption | omega | (simp only [List.length_append, List.length_cons, List.length_nil]; omega))) only [↓wD,wU,Nat.reduceBEq,zx150,zx151,zx159,zx160,zx161,zx162,Nat.reduceAdd,Nat.reduceSub,Nat.reduceMul,Nat.reduceLeDiff,Nat.reduceLT,Nat.reduceEqDiff,Int.reduceAdd,Int.reduceSub,Int.reduceMul,Int.reduceNeg,Int.reduceLT,Int.reduceLE,Int.reduceEq,Int.reduceToNat,Int.cast_ofNat_Int,↓reduceIte, a0, a1, a7, a8, hI, hc.callv1]
        refine (ih hi').go ⟨rfl, ?_⟩
        simp (disch := (first | assumption | omega | (simp only [List.length_append, List.length_cons, List.length_nil]; omega))) only [↓wD,wU,Nat.reduceBEq,zx150,zx151,zx159,zx160,zx161,zx162,Nat.reduceAdd,Nat.reduceSub,Nat.reduceMul,Nat.reduceLeDiff,Nat.reduceLT,Nat.reduceEqDiff,Int.reduceAdd,Int.reduceSub,Int.reduceMul,Int.reduceNeg,Int.reduceLT,Int.reduceLE,Int.reduceEq,Int.reduceToNat,Int.cast_ofNat_Int,↓reduceIte, a0, a1, a7, a8]
        exact hh
      · rw [hp] at hc hh
        simp only [if_true] at hh
        simp (disch := (first | assumption | omega | (simp only [List.length_append, List.length_cons, List.length_nil]; omega))) only [↓wD,wU,Nat.reduceBEq,zx150,zx151,zx159,zx160,zx161,zx162,Nat.reduceAdd,Nat.reduceSub,Nat.reduceMul,Nat.reduceLeDiff,Nat.reduceLT,Nat.reduceEqDiff,Int.reduceAdd,Int.reduceSub,Int.reduceMul,Int.reduceNeg,Int.reduceLT,Int.reduceLE,Int.reduceEq,Int.reduceToNat,Int.cast_ofNat_Int,↓reduceIte, a0, a1, a7, a8, hI, hc.callv1]
        rw [hh]
    · rw [List.drop_of_length_le (by omega), findG] at hh
      subst hh
      simp (disch := (first | assumption | omega | (simp only [List.length_append, List.length_cons, List.length_nil]; omega))) only [↓wD,wU,Nat.reduceBEq,zx150,zx151,zx159,zx160,zx161,zx162,Nat.reduceAdd,Nat.reduceSub,Nat.reduceMul,Nat.reduceLeDiff,Nat.reduceLT,Nat.reduceEqDiff,Int.reduceAdd,Int.reduceSub,Int.reduceMul,Int.reduceNeg,Int.reduceLT,Int.reduceLE,Int.reduceEq,Int.reduceToNat,Int.cast_ofNat_Int,↓reduceIte, a0, a1, a7, a8]
  · simp (disch := (first | assumption | omega | (simp only [List.length_append, List.length_cons, List.length_nil]; omega))) only [↓wD,wU,Nat.reduceBEq,zx150,zx151,zx159,zx160,zx161,zx162,Nat.reduceAdd,Nat.reduceSub,Nat.reduceMul,Nat.reduceLeDiff,Nat.reduceLT,Nat.reduceEqDiff,Int.reduceAdd,Int.reduceSub,Int.reduceMul,Int.reduceNeg,Int.reduceLT,Int.reduceLE,Int.reduceEq,Int.reduceToNat,Int.cast_ofNat_Int,↓reduceIte]
    exact er
theorem hasI_ret {p : Nat → Prop} {H : Heap} {v : AV} {f : Nat} {caps : List AV} {xs : List Int} {P : Int → Bool} (hx : Sl p H v xs) (hf : ∀ x ∈ xs, RetP E f ([.i x] ++ caps) H (.b (P x))) : RetP E 89 [v, .fn f [] caps] H (.b (xs.any P)) := by
  refine RetP.ro rfl fn89 rfl rfl ?_
  unfold f89A
  have h := findG_ge (P := P) (xs := xs) (i := 0)
  simp (disch := (first | assumption | omega | (simp only [List.length_append, List.length_cons, List.length_nil]; omega))) only [↓wD,wU,Nat.reduceBEq,zx150,zx151,zx159,zx160,zx161,zx162,Nat.reduceAdd,Nat.reduceSub,Nat.reduceMul,Nat.reduceLeDiff,Nat.reduceLT,Nat.reduceEqDiff,Int.reduceAdd,Int.reduceSub,Int.reduceMul,Int.reduceNeg,Int.reduceLT,Int.reduceLE,Int.reduceEq,Int.reduceToNat,Int.cast_ofNat_Int,↓reduceIte, (idxI_ret hx hf).call, h]
def PicP (w : Int) (xs : List Int) : Prop := SizeP xs.length ∧ SizeP w ∧ ∀ x ∈ xs, SetP w x
instance (w : Int) (xs : List Int) : Decidable (PicP w xs) := by unfold PicP; infer_instance
theorem PicP_cut {w : Int} {xs : List Int} : PicP w (xs.take 8) ↔ PicP w xs := by
  constructor
  · intro h
    have h1 := h.1.2
    rw [List.length_take] at h1
    rwa [List.take_of_length_le (by omega)] at h
  · intro h
    rwa [List.take_of_length_le (by have := h.1.2; omega)]
theorem pic1_ret {H : Heap} {b : Nat} {w x : Int} (hb : H[b]? = some (.cells [.i w])) : RetP E 90 ([.i x] ++ [.p b 0]) H (.b (!decide (SetP w x))) := by
  refine RetP.ro rfl fn90 rfl rfl ?_
  unfold f90A
  simp (disch := (first | assumption | omega | (simp only [List.length_append, List.length_cons, List.length_nil]; omega))) only [↓wD,wU,Nat.reduceBEq,zx150,zx151,zx159,zx160,zx161,zx162,Nat.reduceAdd,Nat.reduceSub,Nat.reduceMul,Nat.reduceLeDiff,Nat.reduceLT,Nat.reduceEqDiff,Int.reduceAdd,Int.reduceSub,Int.reduceMul,Int.reduceNeg,Int.reduceLT,Int.reduceLE,Int.reduceEq,Int.reduceToNat,Int.cast_ofNat_Int,↓reduceIte, ld_of hb, isSet_ret.call]
theorem isPic_ret {p : Nat → Prop} {H : Heap} {v : AV} {w : Int} {xs : List Int} (hx : Sl p H v xs) : RetP E 62 [.i w, v] H (.b (decide (PicP w xs))) := by
  refine RetP.ro rfl fn62 rfl rfl ?_
  unfold f62A
  have hx1 := hx.app [.cells [.i w]]
  have z1 := isSize_ret (H := H ++ [.cells [.i w]]) (n := xs.length)
  have z2 := isSize_ret (H := H ++ [.cells [.i w]]) (n := w)
  have c0 : (H ++ [.cells [.i w]])[H.length]? = some (.cells [.i w]) := get_last
  have hs := hasI_ret (P := fun x => !decide (SetP w x)) hx1 fun x _ => pic1_ret c0
  have hI := hx1.I
  by_cases h1 : SizeP xs.length
  · rw [decide_eq_true h1] at z1
    by_cases h2 : SizeP w
    · rw [decide_eq_true h2] at z2
      have e : decide (PicP w xs) = !xs.any fun x => !decide (SetP w x) := by
        by_cases h3 : ∀ x ∈ xs, SetP w x
        · rw [decide_eq_true (show PicP w xs from ⟨h1, h2, h3⟩)]
          symm
          rw [Bool.not_eq_true', List.any_eq_false]
          intro x hx
          simp [h3 x hx]
        · rw [decide_eq_false (show ¬ PicP w xs from fun h => h3 h.2.2)]
          symm
          rw [Bool.not_eq_false', List.any_eq_true]
          refine Classical.byContradiction fun hh => h3 fun x hx => Classical.byContradiction fun hn => hh ⟨x, hx, by simp [hn]⟩
      rw [e]
      simp (disch := (first | assumption | omega | (simp only [List.length_append, List.length_cons, List.length_nil]; omega))) only [↓wD,wU,Nat.reduceBEq,zx150,zx151,zx159,zx160,zx161,zx162,Nat.reduceAdd,Nat.reduceSub,Nat.reduceMul,Nat.reduceLeDiff,Nat.reduceLT,Nat.reduceEqDiff,Int.reduceAdd,Int.reduceSub,Int.reduceMul,Int.reduceNeg,Int.reduceLT,Int.reduceLE,Int.reduceEq,Int.reduceToNat,Int.cast_ofNat_Int,↓reduceIte, hI, z1.call, ld_of c0, z2.call, hs.call]
    · rw [decide_eq_false h2] at z2
      have e : decide (PicP w xs) = false := decide_eq_false fun h => h2 h.2.1
      simp (disch := (first | assumption | omega | (simp only [List.length_append, List.length_cons, List.length_nil]; omega))) only [↓wD,wU,Nat.reduceBEq,zx150,zx151,zx159,zx160,zx161,zx162,Nat.reduceAdd,Nat.reduceSub,Nat.reduceMul,Nat.reduceLeDiff,Nat.reduceLT,Nat.reduceEqDiff,Int.reduceAdd,Int.reduceSub,Int.reduceMul,Int.reduceNeg,Int.reduceLT,Int.reduceLE,Int.reduceEq,Int.reduceToNat,Int.cast_ofNat_Int,↓reduceIte, hI, z1.call, ld_of c0, z2.call, e]
  · rw [decide_eq_false h1] at z1
    have e : decide (PicP w xs) = false := decide_eq_false fun h => h1 h.1
    simp (disch := (first | assumption | omega | (simp only [List.length_append, List.length_cons, List.length_nil]; omega))) only [↓wD,wU,Nat.reduceBEq,zx150,zx151,zx159,zx160,zx161,zx162,Nat.reduceAdd,Nat.reduceSub,Nat.reduceMul,Nat.reduceLeDiff,Nat.reduceLT,Nat.reduceEqDiff,Int.reduceAdd,Int.reduceSub,Int.reduceMul,Int.reduceNeg,Int.reduceLT,Int.reduceLE,Int.reduceEq,Int.reduceToNat,Int.cast_ofNat_Int,↓reduceIte, hI, z1.call, e]
theorem rpic_ret {p : Nat → Prop} {H : Heap} {v : AV} {w : Int} {xs : List Int} (hx : Sl p H v xs) : RetP E 29 [.i w, v] H (.b (decide (PicP w xs))) := by
  refine RetP.ro rfl fn29 rfl rfl ?_
  unfold f29A
  have hI := hx.I
  have hb := hx.bound
  simp (disch := (first | assumption | omega | (simp only [List.length_append, List.length_cons, List.length_nil]; omega))) only [↓wD,wU,Nat.reduceBEq,zx150,zx151,zx159,zx160,zx161,zx162,Nat.reduceAdd,Nat.reduceSub,Nat.reduceMul,Nat.reduceLeDiff,Nat.reduceLT,Nat.reduceEqDiff,Int.reduceAdd,Int.reduceSub,Int.reduceMul,Int.reduceNeg,Int.reduceLT,Int.reduceLE,Int.reduceEq,Int.reduceToNat,Int.cast_ofNat_Int,↓reduceIte, hI]
  refine Wp.for xs.length (fun i a H' => H' = H ∧ a 0 = .i w ∧ a 1 = v ∧ a 7 = v ∧ a 8 = .i xs.length ∧ a 9 = .i i ∧ ∀ x ∈ xs.take i, SetP w x) ?_ ?_
  · rintro i a H' hi ⟨rfl, a0, a1, a7, a8, a9, hh⟩ ih
    simp (disch := (first | assumption | omega | (simp only [List.length_append, List.length_cons, List.length_nil]; omega))) only [↓wD,wU,Nat.reduceBEq,zx150,zx151,zx159,zx160,zx161,zx162,Nat.reduceAdd,Nat.reduceSub,Nat.reduceMul,Nat.reduceLeDiff,Nat.reduceLT,Nat.reduceEqDiff,Int.reduceAdd,Int.reduceSub,Int.reduceMul,Int.reduceNeg,Int.reduceLT,Int.reduceLE,Int.reduceEq,Int.reduceToNat,Int.cast_ofNat_Int,↓reduceIte, a0, a1, a7, a8, a9]
    refine condP_split (fun hlt => ?_) (fun hlt => ?_)
    · have hi' : i < xs.length := by omega
      have rs := rset_ret (H := H') (n := w) (x := gi xs (i : Int))
      by_cases h : SetP w (gi xs (i : Int))
      · rw [decide_eq_true h] at rs
        have hh2 := mem_take_gi hh hi' h
        simp (disch := (first | assumption | omega | (simp only [List.length_append, List.length_cons, List.length_nil]; omega))) only [↓wD,wU,Nat.reduceBEq,zx150,zx151,zx159,zx160,zx161,zx162,Nat.reduceAdd,Nat.reduceSub,Nat.reduceMul,Nat.reduceLeDiff,Nat.reduceLT,Nat.reduceEqDiff,Int.reduceAdd,Int.reduceSub,Int.reduceMul,Int.reduceNeg,Int.reduceLT,Int.reduceLE,Int.reduceEq,Int.reduceToNat,Int.cast_ofNat_Int,↓reduceIte, a0, a1, a7, a8, a9, hI, rs.call]
        refine (ih hi').go ⟨rfl, ?_⟩
        simp (disch := (first | assumption | omega | (simp only [List.length_append, List.length_cons, List.length_nil]; omega))) only [↓wD,wU,Nat.reduceBEq,zx150,zx151,zx159,zx160,zx161,zx162,Nat.reduceAdd,Nat.reduceSub,Nat.reduceMul,Nat.reduceLeDiff,Nat.reduceLT,Nat.reduceEqDiff,Int.reduceAdd,Int.reduceSub,Int.reduceMul,Int.reduceNeg,Int.reduceLT,Int.reduceLE,Int.reduceEq,Int.reduceToNat,Int.cast_ofNat_Int,↓reduceIte, a0, a1, a7, a8, a9]
        exact hh2
      · rw [decide_eq_false h] at rs
        have e : decide (PicP w xs) = false := decide_eq_false fun q => h (q.2.2 _ (mem_gi hi'))
        simp (disch := (first | assumption | omega | (simp only [List.length_append, List.length_cons, List.length_nil]; omega))) only [↓wD,wU,Nat.reduceBEq,zx150,zx151,zx159,zx160,zx161,zx162,Nat.reduceAdd,Nat.reduceSub,Nat.reduceMul,Nat.reduceLeDiff,Nat.reduceLT,Nat.reduceEqDiff,Int.reduceAdd,Int.reduceSub,Int.reduceMul,Int.reduceNeg,Int.reduceLT,Int.reduceLE,Int.reduceEq,Int.reduceToNat,Int.cast_ofNat_Int,↓reduceIte, a0, a1, a7, a8, a9, hI, rs.call, e]
    · have hall := mem_take_all hh (by omega)
      clear hh
      have z1 := rsize_ret (H := H') (n := xs.length)
      have z2 := rsize_ret (H := H') (n := w)
      have e : decide (PicP w xs) = (decide (SizeP w) && decide (SizeP xs.length)) := by
        by_cases q1 : SizeP w <;> by_cases q2 : SizeP xs.length
        · rw [decide_eq_true q1, decide_eq_true q2]; exact decide_eq_true ⟨q2, q1, hall⟩
        · rw [decide_eq_true q1, decide_eq_false q2]; exact decide_eq_false fun h => q2 h.1
        · rw [decide_eq_false q1, decide_eq_true q2]; exact decide_eq_false fun h => q1 h.2.1
        · rw [decide_eq_false q1, decide_eq_false q2]; exact decide_eq_false fun h => q1 h.2.1
      rw [e]
      clear e hall ih
      generalize decide (SizeP w) = b1 at *
      generalize decide (SizeP xs.length) = b2 at *
      cases b1 <;> (simp (disch := (first | assumption | omega | (simp only [List.length_append, List.length_cons, List.length_nil]; omega))) only [↓wD,wU,Nat.reduceBEq,zx150,zx151,zx159,zx160,zx161,zx162,Nat.reduceAdd,Nat.reduceSub,Nat.reduceMul,Nat.reduceLeDiff,Nat.reduceLT,Nat.reduceEqDiff,Int.reduceAdd,Int.reduceSub,Int.reduceMul,Int.reduceNeg,Int.reduceLT,Int.reduceLE,Int.reduceEq,Int.reduceToNat,Int.cast_ofNat_Int,↓reduceIte, a0, a1, a7, a8, a9, z2.call, z1.call, hI])
  · (simp (disch := (first | assumption | omega | (simp only [List.length_append, List.length_cons, List.length_nil]; omega))) only [↓wD,wU,Nat.reduceBEq,zx150,zx151,zx159,zx160,zx161,zx162,Nat.reduceAdd,Nat.reduceSub,Nat.reduceMul,Nat.reduceLeDiff,Nat.reduceLT,Nat.reduceEqDiff,Int.reduceAdd,Int.reduceSub,Int.reduceMul,Int.reduceNeg,Int.reduceLT,Int.reduceLE,Int.reduceEq,Int.reduceToNat,Int.cast_ofNat_Int,↓reduceIte]) <;> simp
/-! ### Columns -/
def nL (P : List Nat) : List Int := P.map fun x : Nat => (x : Int)
theorem nL_len (P : List Nat) : (nL P).length = P.length := by simp [nL]
theorem nL_gi {P : List Nat} {i : Nat} (h : i < P.length) : gi (nL P) (i : Int) = (gi P (i : Int) : Nat) := by
  rw [gi_nat (by rw [nL_len]; exact h), gi_nat h]; simp [nL]
/-- a column, behind i rows -/
def colT (P : List Nat) (c : Nat) : Nat → Nat
  | 0 => 0
  | i + 1 => colT P c i ||| ((gi P (i : Int) >>> c) % 2) <<< i
def colN (P : List Nat) (c : Nat) : Nat := colT P c P.length
theorem colT_lt (P : List Nat) (c : Nat) : ∀ i, colT P c i < 2 ^ i
  | 0 => by simp [colT]
  | i + 1 => by
    have h := colT_lt P c i
    have h1 : colT P c i < 2 ^ (i + 1) := Nat.lt_of_lt_of_le h (Nat.pow_le_pow_right (by omega) (by omega))
    have h2 : ((gi P (i : Int) >>> c) % 2) <<< i < 2 ^ (i + 1) := by
      rw [Nat.shiftLeft_eq, Nat.pow_succ, Nat.mul_comm]
      have : (gi P (i : Int) >>> c) % 2 ≤ 1 := by omega
      have h3 := Nat.mul_le_mul_left (2 ^ i) this
      have h4 : 0 < 2 ^ i := Nat.two_pow_pos i
      omega
    exact Nat.or_lt_two_pow h1 h2
theorem col_step {P : List Nat} {c i : Nat} (hc : c ≤ 31) (hi : i ≤ 31) : binA .shr (.i (gi P (i : Int) : Nat)) (.i (c : Int)) = some (.i ((gi P (i : Int) >>> c : Nat) : Int)) ∧ (gi P (i : Int) ≤ 9223372036854775807 → binA .and (.i ((gi P (i : Int) >>> c : Nat) : Int)) (.i 1) = some (.i (((gi P (i : Int) >>> c) % 2 : Nat) : Int))) ∧
    binA .shl (.i (((gi P (i : Int) >>> c) % 2 : Nat) : Int)) (.i (i : Int)) = some (.i ((((gi P (i : Int) >>> c) % 2) <<< i : Nat) : Int)) ∧
    binA .or (.i ((colT P c i : Nat) : Int)) (.i ((((gi P (i : Int) >>> c) % 2) <<< i : Nat) : Int)) = some (.i ((colT P c (i + 1) : Nat) : Int)) := by
  have hm : (gi P (i : Int) >>> c) % 2 ≤ 1 := by omega
  have h3 := Nat.mul_le_mul_right (2 ^ i) hm
  have h4 : 2 ^ i ≤ 2 ^ 31 := Nat.pow_le_pow_right (by omega) hi
  have h5 : ((gi P (i : Int) >>> c) % 2) <<< i ≤ 9223372036854775807 := by rw [Nat.shiftLeft_eq]; omega
  have h6 := colT_lt P c i
  refine ⟨b_shr (by omega), fun hp => ?_, b_shl (by omega) h5, b_or (by omega) h5⟩
  have sle : gi P (i : Int) >>> c ≤ gi P (i : Int) := by rw [Nat.shiftRight_eq_div_pow]; exact Nat.div_le_self _ _
  have := b_and (a := gi P (i : Int) >>> c) (b := 1) (by omega) (by omega)
  rw [Nat.and_one_is_mod] at this
  exact this
theorem column_ret {p : Nat → Prop} {H : Heap} {v : AV} {P : List Nat} {c : Nat} (hx : Sl p H v (nL P)) (hl : P.length ≤ 31) (hc : c ≤ 31) (h31 : ∀ x ∈ P, x ≤ 9223372036854775807) : RetP E 91 [v, .i c] H (.i (colN P c : Nat)) := by
  refine RetP.ro rfl fn91 rfl rfl ?_
  unfold f91A
  have hI := hx.I
  rw [nL_len] at hI
  simp (disch := (first | assumption | omega | (simp only [List.length_append, List.length_cons, List.length_nil]; omega))) only [↓wD,wU,Nat.reduceBEq,zx150,zx151,zx159,zx160,zx161,zx162,Nat.reduceAdd,Nat.reduceSub,Nat.reduceMul,Nat.reduceLeDiff,Nat.reduceLT,Nat.reduceEqDiff,Int.reduceAdd,Int.reduceSub,Int.reduceMul,Int.reduceNeg,Int.reduceLT,Int.reduceLE,Int.reduceEq,Int.reduceToNat,Int.cast_ofNat_Int,↓reduceIte, hI]
  refine Wp.for P.length (fun i a H' => H' = H ∧ a 1 = .i c ∧ a 5 = .i (colT P c i : Nat) ∧ a 8 = v ∧ a 9 = .i P.length ∧ a 10 = .i i) ?_ ?_
  · rintro i a H' hi ⟨rfl, a1, a5, a8, a9, a10⟩ ih
    simp (disch := (first | assumption | omega | (simp only [List.length_append, List.length_cons, List.length_nil]; omega))) only [↓wD,wU,Nat.reduceBEq,zx150,zx151,zx159,zx160,zx161,zx162,Nat.reduceAdd,Nat.reduceSub,Nat.reduceMul,Nat.reduceLeDiff,Nat.reduceLT,Nat.reduceEqDiff,Int.reduceAdd,Int.reduceSub,Int.reduceMul,Int.reduceNeg,Int.reduceLT,Int.reduceLE,Int.reduceEq,Int.reduceToNat,Int.cast_ofNat_Int,↓reduceIte, a1, a5, a8, a9, a10]
    refine condP_split (fun hlt => ?_) (fun hlt => ?_)
    · have hi' : i < P.length := by omega
      obtain ⟨o1, o2, o3, o4⟩ := col_step (P := P) (c := c) (i := i) hc (by omega)
      replace o2 := o2 (h31 _ (mem_gi hi'))
      have eg := nL_gi hi'
      simp (disch := (first | assumption | omega | (simp only [List.length_append, List.length_cons, List.length_nil]; omega))) only [↓wD,wU,Nat.reduceBEq,zx150,zx151,zx159,zx160,zx161,zx162,Nat.reduceAdd,Nat.reduceSub,Nat.reduceMul,Nat.reduceLeDiff,Nat.reduceLT,Nat.reduceEqDiff,Int.reduceAdd,Int.reduceSub,Int.reduceMul,Int.reduceNeg,Int.reduceLT,Int.reduceLE,Int.reduceEq,Int.reduceToNat,Int.cast_ofNat_Int,↓reduceIte, a1, a5, a8, a9, a10, hI, eg, o1, o2, o3, o4]
      refine (ih hi').go ⟨rfl, ?_⟩
      simp (disch := (first | assumption | omega | (simp only [List.length_append, List.length_cons, List.length_nil]; omega))) only [↓wD,wU,Nat.reduceBEq,zx150,zx151,zx159,zx160,zx161,zx162,Nat.reduceAdd,Nat.reduceSub,Nat.reduceMul,Nat.reduceLeDiff,Nat.reduceLT,Nat.reduceEqDiff,Int.reduceAdd,Int.reduceSub,Int.reduceMul,Int.reduceNeg,Int.reduceLT,Int.reduceLE,Int.reduceEq,Int.reduceToNat,Int.cast_ofNat_Int,↓reduceIte, a1, a5, a8, a9, a10]
    · obtain rfl : i = P.length := by omega
      simp (disch := (first | assumption | omega | (simp only [List.length_append, List.length_cons, List.length_nil]; omega))) only [↓wD,wU,Nat.reduceBEq,zx150,zx151,zx159,zx160,zx161,zx162,Nat.reduceAdd,Nat.reduceSub,Nat.reduceMul,Nat.reduceLeDiff,Nat.reduceLT,Nat.reduceEqDiff,Int.reduceAdd,Int.reduceSub,Int.reduceMul,Int.reduceNeg,Int.reduceLT,Int.reduceLE,Int.reduceEq,Int.reduceToNat,Int.cast_ofNat_Int,↓reduceIte, a1, a5, a8, a9, a10]
      rfl
  · simp (disch := (first | assumption | omega | (simp only [List.length_append, List.length_cons, List.length_nil]; omega))) only [↓wD,wU,Nat.reduceBEq,zx150,zx151,zx159,zx160,zx161,zx162,Nat.reduceAdd,Nat.reduceSub,Nat.reduceMul,Nat.reduceLeDiff,Nat.reduceLT,Nat.reduceEqDiff,Int.reduceAdd,Int.reduceSub,Int.reduceMul,Int.reduceNeg,Int.reduceLT,Int.reduceLE,Int.reduceEq,Int.reduceToNat,Int.cast_ofNat_Int,↓reduceIte]
    rfl
theorem rcolumn_ret {p : Nat → Prop} {H : Heap} {v : AV} {P : List Nat} {c : Nat} (hx : Sl p H v (nL P)) (hl : P.length ≤ 31) (hc : c ≤ 31) (h31 : ∀ x ∈ P, x ≤ 9223372036854775807) : RetP E 64 [v, .i c] H (.i (colN P c : Nat)) := by
  refine RetP.ro rfl fn64 rfl rfl ?_
  unfold f64A
  have hI := hx.I
  rw [nL_len] at hI
  simp (disch := (first | assumption | omega | (simp only [List.length_append, List.length_cons, List.length_nil]; omega))) only [↓wD,wU,Nat.reduceBEq,zx150,zx151,zx159,zx160,zx161,zx162,Nat.reduceAdd,Nat.reduceSub,Nat.reduceMul,Nat.reduceLeDiff,Nat.reduceLT,Nat.reduceEqDiff,Int.reduceAdd,Int.reduceSub,Int.reduceMul,Int.reduceNeg,Int.reduceLT,Int.reduceLE,Int.reduceEq,Int.reduceToNat,Int.cast_ofNat_Int,↓reduceIte, hI]
  refine Wp.for P.length (fun i a H' => H' = H ∧ a 1 = .i c ∧ a 5 = .i (colT P c i : Nat) ∧ a 8 = v ∧ a 9 = .i P.length ∧ a 10 = .i i) ?_ ?_
  · rintro i a H' hi ⟨rfl, a1, a5, a8, a9, a10⟩ ih
    simp (disch := (first | assumption | omega | (simp only [List.length_append, List.length_cons, List.length_nil]; omega))) only [↓wD,wU,Nat.reduceBEq,zx150,zx151,zx159,zx160,zx161,zx162,Nat.reduceAdd,Nat.reduceSub,Nat.reduceMul,Nat.reduceLeDiff,Nat.reduceLT,Nat.reduceEqDiff,Int.reduceAdd,Int.reduceSub,Int.reduceMul,Int.reduceNeg,Int.reduceLT,Int.reduceLE,Int.reduceEq,Int.reduceToNat,Int.cast_ofNat_Int,↓reduceIte, a1, a5, a8, a9, a10]
    refine condP_split (fun hlt => ?_) (fun hlt => ?_)
    · have hi' : i < P.length := by omega
      obtain ⟨o1, o2, o3, o4⟩ := col_step (P := P) (c := c) (i := i) hc (by omega)
      replace o2 := o2 (h31 _ (mem_gi hi'))
      have eg := nL_gi hi'
      simp (disch := (first | assumption | omega | (simp only [List.length_append, List.length_cons, List.length_nil]; omega))) only [↓wD,wU,Nat.reduceBEq,zx150,zx151,zx159,zx160,zx161,zx162,Nat.reduceAdd,Nat.reduceSub,Nat.reduceMul,Nat.reduceLeDiff,Nat.reduceLT,Nat.reduceEqDiff,Int.reduceAdd,Int.reduceSub,Int.reduceMul,Int.reduceNeg,Int.reduceLT,Int.reduceLE,Int.reduceEq,Int.reduceToNat,Int.cast_ofNat_Int,↓reduceIte, a1, a5, a8, a9, a10, hI, eg, o1, o2, o3, o4]
      refine (ih hi').go ⟨rfl, ?_⟩
      simp (disch := (first | assumption | omega | (simp only [List.length_append, List.length_cons, List.length_nil]; omega))) only [↓wD,wU,Nat.reduceBEq,zx150,zx151,zx159,zx160,zx161,zx162,Nat.reduceAdd,Nat.reduceSub,Nat.reduceMul,Nat.reduceLeDiff,Nat.reduceLT,Nat.reduceEqDiff,Int.reduceAdd,Int.reduceSub,Int.reduceMul,Int.reduceNeg,Int.reduceLT,Int.reduceLE,Int.reduceEq,Int.reduceToNat,Int.cast_ofNat_Int,↓reduceIte, a1, a5, a8, a9, a10]
    · obtain rfl : i = P.length := by omega
      simp (disch := (first | assumption | omega | (simp only [List.length_append, List.length_cons, List.length_nil]; omega))) only [↓wD,wU,Nat.reduceBEq,zx150,zx151,zx159,zx160,zx161,zx162,Nat.reduceAdd,Nat.reduceSub,Nat.reduceMul,Nat.reduceLeDiff,Nat.reduceLT,Nat.reduceEqDiff,Int.reduceAdd,Int.reduceSub,Int.reduceMul,Int.reduceNeg,Int.reduceLT,Int.reduceLE,Int.reduceEq,Int.reduceToNat,Int.cast_ofNat_Int,↓reduceIte, a1, a5, a8, a9, a10]
      rfl
  · simp (disch := (first | assumption | omega | (simp only [List.length_append, List.length_cons, List.length_nil]; omega))) only [↓wD,wU,Nat.reduceBEq,zx150,zx151,zx159,zx160,zx161,zx162,Nat.reduceAdd,Nat.reduceSub,Nat.reduceMul,Nat.reduceLeDiff,Nat.reduceLT,Nat.reduceEqDiff,Int.reduceAdd,Int.reduceSub,Int.reduceMul,Int.reduceNeg,Int.reduceLT,Int.reduceLE,Int.reduceEq,Int.reduceToNat,Int.cast_ofNat_Int,↓reduceIte]
    rfl
theorem PicP.nat {w : Int} {xs : List Int} (h : PicP w xs) : ∃ (m : Nat) (P : List Nat), w = m ∧ xs = nL P ∧ 1 ≤ m ∧ m ≤ 5 ∧ 1 ≤ P.length ∧ P.length ≤ 5 ∧ ∀ x ∈ P, x < 2 ^ m := by
  obtain ⟨m, rfl, m1, m5⟩ := h.2.1.nat
  refine ⟨m, xs.map Int.toNat, rfl, ?_, m1, m5, by have := h.1.1; simp; omega, by have := h.1.2; simp; omega, fun x hx => ?_⟩
  · unfold nL
    rw [List.map_map]
    conv => lhs; rw [← List.map_id xs]
    apply List.map_congr_left
    intro x hx
    obtain ⟨_, y, _, e, _⟩ := (h.2.2 x hx).nat
    rw [e]; rfl
  · obtain ⟨y, hy, rfl⟩ := List.mem_map.1 hx
    obtain ⟨_, z, _, e, _, _, hz, _⟩ := (h.2.2 y hy).nat
    subst e
    rw [Int.toNat_natCast]
    have := (h.2.2 _ hy).2.2
    rw [Int.toNat_natCast] at this
    omega
end Go.Proofs.YtjjndoigkhabdaaDoor
namespace Go.Proofs.YtjjndoigkhabdaaDoor
open Go Go.AM Go.Proofs
/-- the Puzzle of a picture -/
def cluesL (m : Nat) (P : List Nat) : List (List Int) × List (List Int) := (P.map blkL, (List.range m).map fun c => blkL (colN P c))
theorem clues_ret {p : Nat → Prop} {H : Heap} {v : AV} {m : Nat} {P : List Nat} (hx : Sl p H v (nL P)) (m5 : m ≤ 5) (hl : P.length ≤ 5) (hP : ∀ x ∈ P, x < 2 ^ m) : Ret E 63 [.i m, v] (fun _ => False) H (cluesL m P) := by
  refine Ret.ro rfl fn63 rfl ?_
  unfold f63A
  have p5 := pow5 m5
  have h32 : ∀ x ∈ P, x < 32 := fun x hx => by have := hP x hx; omega
  replace hx : Sl (fun b => b < H.length) H v (nL P) := hx.low.weak fun _ h => h.2
  have hI0 := ((hx.app [.cells [.nils, .nils]]).app [.cells [.nils, .nils]]).I
  rw [nL_len] at hI0
  simp (disch := (first | assumption | omega | (simp only [List.length_append, List.length_cons, List.length_nil]; omega))) only [↓wD,wU,Nat.reduceBEq,zx150,zx151,zx159,zx160,zx161,zx162,Nat.reduceAdd,Nat.reduceSub,Nat.reduceMul,Nat.reduceLeDiff,Nat.reduceLT,Nat.reduceEqDiff,Int.reduceAdd,Int.reduceSub,Int.reduceMul,Int.reduceNeg,Int.reduceLT,Int.reduceLE,Int.reduceEq,Int.reduceToNat,Int.cast_ofNat_Int,↓reduceIte, hI0]
  refine Wp.for P.length (fun i a H' => ∃ u, a 0 = .i m ∧ a 1 = v ∧ a 4 = .p H.length 0 ∧ a 5 = .p (H.length + 1) 0 ∧ a 9 = v ∧ a 10 = .i P.length ∧ a 11 = .i i ∧ Gr H H' ∧ H.length + 2 ≤ H'.length ∧
    H'[H.length]? = some (.cells [.nils, .nils]) ∧ H'[H.length + 1]? = some (.cells [u, .nils]) ∧ Acc (H.length + 2) (fun b => H.length + 2 ≤ b) H' u ((P.take i).map blkL)) ?_ ?_
  · rintro i a H1 hi ⟨u, a0, a1, a4, a5, a9, a10, a11, hg, hln, c1, c2, hu⟩ ih
    simp (disch := (first | assumption | omega | (simp only [List.length_append, List.length_cons, List.length_nil]; omega))) only [↓wD,wU,Nat.reduceBEq,zx150,zx151,zx159,zx160,zx161,zx162,Nat.reduceAdd,Nat.reduceSub,Nat.reduceMul,Nat.reduceLeDiff,Nat.reduceLT,Nat.reduceEqDiff,Int.reduceAdd,Int.reduceSub,Int.reduceMul,Int.reduceNeg,Int.reduceLT,Int.reduceLE,Int.reduceEq,Int.reduceToNat,Int.cast_ofNat_Int,↓reduceIte, a0, a1, a4, a5, a9, a10, a11]
    have hxg := hx.gr hg
    refine condP_split (fun hlt => ?_) (fun hlt => ?_)
    · have hi' : i < P.length := by omega
      have hI := hxg.I
      rw [nL_len] at hI
      have eg := nL_gi hi'
      have hgx := h32 _ (mem_gi hi')
      simp (disch := (first | assumption | omega | (simp only [List.length_append, List.length_cons, List.length_nil]; omega))) only [↓wD,wU,Nat.reduceBEq,zx150,zx151,zx159,zx160,zx161,zx162,Nat.reduceAdd,Nat.reduceSub,Nat.reduceMul,Nat.reduceLeDiff,Nat.reduceLT,Nat.reduceEqDiff,Int.reduceAdd,Int.reduceSub,Int.reduceMul,Int.reduceNeg,Int.reduceLT,Int.reduceLE,Int.reduceEq,Int.reduceToNat,Int.cast_ofNat_Int,↓reduceIte, a0, a1, a4, a5, a9, a10, a11, hI, eg, ld_of c2]
      refine (blocks_ret hgx).toF fun y H2 hg2 hy => ?_
      have hl2 := hg2.1
      have hu2 := hu.gr hg2
      simp (disch := (first | assumption | omega | (simp only [List.length_append, List.length_cons, List.length_nil]; omega))) only [↓wD,wU,Nat.reduceBEq,zx150,zx151,zx159,zx160,zx161,zx162,Nat.reduceAdd,Nat.reduceSub,Nat.reduceMul,Nat.reduceLeDiff,Nat.reduceLT,Nat.reduceEqDiff,Int.reduceAdd,Int.reduceSub,Int.reduceMul,Int.reduceNeg,Int.reduceLT,Int.reduceLE,Int.reduceEq,Int.reduceToNat,Int.cast_ofNat_Int,↓reduceIte, hy.cellsV]
      refine hu2.pushL (by omega) (by omega) hy (fun b hb => ⟨by omega, fun e => by have := hu.blk_lt e; omega⟩) (by rw [List.length_map, List.length_take]; omega) fun u' H3 hu' hk3 hl3' _ => ?_
      have c33 := hk3.get (b := H.length + 1) (fun e => by have := hu2.blk_lt e; omega) (hg2.get c2)
      have c23 := hk3.get (b := H.length) (fun e => by have := hu2.blk_lt e; omega) (hg2.get c1)
      simp (disch := (first | assumption | omega | (simp only [List.length_append, List.length_cons, List.length_nil]; omega))) only [↓wD,wU,Nat.reduceBEq,zx150,zx151,zx159,zx160,zx161,zx162,Nat.reduceAdd,Nat.reduceSub,Nat.reduceMul,Nat.reduceLeDiff,Nat.reduceLT,Nat.reduceEqDiff,Int.reduceAdd,Int.reduceSub,Int.reduceMul,Int.reduceNeg,Int.reduceLT,Int.reduceLE,Int.reduceEq,Int.reduceToNat,Int.cast_ofNat_Int,↓reduceIte, a0, a1, a4, a5, a9, a10, a11, st_of c33, hu'.cellsV]
      refine (ih hi').go ⟨u', ?_⟩
      simp (disch := (first | assumption | omega | (simp only [List.length_append, List.length_cons, List.length_nil]; omega))) only [↓wD,wU,Nat.reduceBEq,zx150,zx151,zx159,zx160,zx161,zx162,Nat.reduceAdd,Nat.reduceSub,Nat.reduceMul,Nat.reduceLeDiff,Nat.reduceLT,Nat.reduceEqDiff,Int.reduceAdd,Int.reduceSub,Int.reduceMul,Int.reduceNeg,Int.reduceLT,Int.reduceLE,Int.reduceEq,Int.reduceToNat,Int.cast_ofNat_Int,↓reduceIte, a0, a1, a4, a5, a9, a10, a11]
      have e : (P.take (i + 1)).map blkL = (P.take i).map blkL ++ [blkL (gi P (i : Int))] := by rw [take_gi hi', List.map_append]; rfl
      rw [e]
      refine ⟨((hg.trans hg2).push hu2 (by omega) hk3).set (by omega) _, by simp; omega, by rw [List.getElem?_set_ne (by omega)]; exact c23, get_set c33, ?_⟩
      exact hu'.mono ((Kp.set _ _ _).weak fun b hb => by omega) fun _ h => h
    · obtain rfl : i = P.length := by omega
      rw [List.take_length] at hu
      have hus : Sl (fun b => H.length + 2 ≤ b ∧ b < H1.length) H1 u (P.map blkL) := hu.sl.low.weak fun b h => ⟨h.1.elim id id, h.2⟩
      clear ih
      simp (disch := (first | assumption | omega | (simp only [List.length_append, List.length_cons, List.length_nil]; omega))) only [↓wD,wU,Nat.reduceBEq,zx150,zx151,zx159,zx160,zx161,zx162,Nat.reduceAdd,Nat.reduceSub,Nat.reduceMul,Nat.reduceLeDiff,Nat.reduceLT,Nat.reduceEqDiff,Int.reduceAdd,Int.reduceSub,Int.reduceMul,Int.reduceNeg,Int.reduceLT,Int.reduceLE,Int.reduceEq,Int.reduceToNat,Int.cast_ofNat_Int,↓reduceIte, a0, a1, a4, a5, a9, a10, a11]
      refine Wp.for m (fun i a H' => ∃ w, a 1 = v ∧ a 4 = .p H.length 0 ∧ a 5 = .p (H.length + 1) 0 ∧  a 23 = .i m ∧ a 24 = .i i ∧ Kp (fun b => b < H1.length ∧ b ≠ H.length + 1) H1 H' ∧
        H'[H.length + 1]? = some (.cells [u, w]) ∧ Acc H1.length (fun b => H1.length ≤ b) H' w ((List.range i).map fun c => blkL (colN P c))) ?_ ?_
      · clear a0 a1 a4 a5 a9 a10 a11
        rintro i a H2 hi ⟨w, a1, a4, a5,  aT1, aT2, hk, c2', hw⟩ ih
        simp (disch := (first | assumption | omega | (simp only [List.length_append, List.length_cons, List.length_nil]; omega))) only [↓wD,wU,Nat.reduceBEq,zx150,zx151,zx159,zx160,zx161,zx162,Nat.reduceAdd,Nat.reduceSub,Nat.reduceMul,Nat.reduceLeDiff,Nat.reduceLT,Nat.reduceEqDiff,Int.reduceAdd,Int.reduceSub,Int.reduceMul,Int.reduceNeg,Int.reduceLT,Int.reduceLE,Int.reduceEq,Int.reduceToNat,Int.cast_ofNat_Int,↓reduceIte, a1, a4, a5,  aT1, aT2]
        refine condP_split (fun hlt => ?_) (fun hlt => ?_)
        · have hi' : i < m := by omega
          have hx2 : Sl (fun b => b < H.length) H2 v (nL P) := hxg.mono (hk.weak fun b h => by omega) fun _ h => h
          have hx2I := hx2.I
          rw [nL_len] at hx2I
          have cr := column_ret (c := i) hx2 (by omega) (by omega) fun x hx => by have := h32 x hx; omega
          have clt : colN P i < 2 ^ P.length := colT_lt P i P.length
          have cl32 := pow5 hl
          simp (disch := (first | assumption | omega | (simp only [List.length_append, List.length_cons, List.length_nil]; omega))) only [↓wD,wU,Nat.reduceBEq,zx150,zx151,zx159,zx160,zx161,zx162,Nat.reduceAdd,Nat.reduceSub,Nat.reduceMul,Nat.reduceLeDiff,Nat.reduceLT,Nat.reduceEqDiff,Int.reduceAdd,Int.reduceSub,Int.reduceMul,Int.reduceNeg,Int.reduceLT,Int.reduceLE,Int.reduceEq,Int.reduceToNat,Int.cast_ofNat_Int,↓reduceIte, a1, a4, a5,  aT1, aT2, ld_of c2', cr.call, hx2I]
          refine (blocks_ret (x := colN P i) (by omega)).toF fun y H3 hg3 hy => ?_
          have hl3 := hg3.1
          have hk1 := hk.1
          have hw3 := hw.gr hg3
          simp (disch := (first | assumption | omega | (simp only [List.length_append, List.length_cons, List.length_nil]; omega))) only [↓wD,wU,Nat.reduceBEq,zx150,zx151,zx159,zx160,zx161,zx162,Nat.reduceAdd,Nat.reduceSub,Nat.reduceMul,Nat.reduceLeDiff,Nat.reduceLT,Nat.reduceEqDiff,Int.reduceAdd,Int.reduceSub,Int.reduceMul,Int.reduceNeg,Int.reduceLT,Int.reduceLE,Int.reduceEq,Int.reduceToNat,Int.cast_ofNat_Int,↓reduceIte, hy.cellsV]
          refine hw3.pushL (by omega) (by omega) hy (fun b hb => ⟨by omega, fun e => by have := hw.blk_lt e; omega⟩) (by rw [List.length_map, List.length_range]; omega) fun w' H4 hw' hk4 hl4 _ => ?_
          have c34 := hk4.get (b := H.length + 1) (fun e => by have := hw3.blk_lt e; omega) (hg3.get c2')
          simp (disch := (first | assumption | omega | (simp only [List.length_append, List.length_cons, List.length_nil]; omega))) only [↓wD,wU,Nat.reduceBEq,zx150,zx151,zx159,zx160,zx161,zx162,Nat.reduceAdd,Nat.reduceSub,Nat.reduceMul,Nat.reduceLeDiff,Nat.reduceLT,Nat.reduceEqDiff,Int.reduceAdd,Int.reduceSub,Int.reduceMul,Int.reduceNeg,Int.reduceLT,Int.reduceLE,Int.reduceEq,Int.reduceToNat,Int.cast_ofNat_Int,↓reduceIte, a1, a4, a5,  aT1, aT2, st_of c34, hw'.cellsV]
          refine (ih hi').go ⟨w', ?_⟩
          simp (disch := (first | assumption | omega | (simp only [List.length_append, List.length_cons, List.length_nil]; omega))) only [↓wD,wU,Nat.reduceBEq,zx150,zx151,zx159,zx160,zx161,zx162,Nat.reduceAdd,Nat.reduceSub,Nat.reduceMul,Nat.reduceLeDiff,Nat.reduceLT,Nat.reduceEqDiff,Int.reduceAdd,Int.reduceSub,Int.reduceMul,Int.reduceNeg,Int.reduceLT,Int.reduceLE,Int.reduceEq,Int.reduceToNat,Int.cast_ofNat_Int,↓reduceIte, a1, a4, a5,  aT1, aT2]
          have e : (List.range (i + 1)).map (fun c => blkL (colN P c)) = (List.range i).map (fun c => blkL (colN P c)) ++ [blkL (colN P i)] := by rw [List.range_succ, List.map_append]; rfl
          rw [e]
          refine ⟨?_, get_set c34, hw'.mono ((Kp.set _ _ _).weak fun b hb => by omega) fun _ h => h⟩
          exact ((hk.trans hg3.all fun _ _ => trivial).trans hk4 fun b hb e => by have := hw3.blk_lt e; omega).trans (Kp.set _ _ _) fun b hb => hb.2
        · obtain rfl : i = m := by omega
          have c14 := hk.get (b := H.length) ⟨by omega, by omega⟩ c1
          have hu3 : Sl (fun b => H.length + 2 ≤ b ∧ b < H1.length) H2 u (P.map blkL) := hus.kp (hk.weak fun b h => by omega)
          have hst : st H.length H2 H.length 0 [u, w] = some (H2.set H.length (.cells [u, w])) := by rw [st_of c14 (Nat.le_refl _) (by simp)]; simp [wr]
          simp (disch := (first | assumption | omega | (simp only [List.length_append, List.length_cons, List.length_nil]; omega))) only [↓wD,wU,Nat.reduceBEq,zx150,zx151,zx159,zx160,zx161,zx162,Nat.reduceAdd,Nat.reduceSub,Nat.reduceMul,Nat.reduceLeDiff,Nat.reduceLT,Nat.reduceEqDiff,Int.reduceAdd,Int.reduceSub,Int.reduceMul,Int.reduceNeg,Int.reduceLT,Int.reduceLE,Int.reduceEq,Int.reduceToNat,Int.cast_ofNat_Int,↓reduceIte, a1, a4, a5,  aT1, aT2, ldn_of c2', hu3.cellsV, hw.cellsV, hst, ldn_of (get_set c14)]
          refine rv_pp ?_ ?_
          · exact (hu3.kp ((Kp.set _ _ _).weak fun b h => by omega)).weak fun b h => .inr (by omega)
          · exact (hw.mono ((Kp.set _ _ _).weak fun b hb => by omega) fun _ h => h).sl.weak fun b h => .inr (by omega)
      · simp (disch := (first | assumption | omega | (simp only [List.length_append, List.length_cons, List.length_nil]; omega))) only [↓wD,wU,Nat.reduceBEq,zx150,zx151,zx159,zx160,zx161,zx162,Nat.reduceAdd,Nat.reduceSub,Nat.reduceMul,Nat.reduceLeDiff,Nat.reduceLT,Nat.reduceEqDiff,Int.reduceAdd,Int.reduceSub,Int.reduceMul,Int.reduceNeg,Int.reduceLT,Int.reduceLE,Int.reduceEq,Int.reduceToNat,Int.cast_ofNat_Int,↓reduceIte, a0, a1, a4, a5, a9, a10, a11]
        exact ⟨.nils, Kp.refl _ _, c2, Acc.nil⟩
  · simp (disch := (first | assumption | omega | (simp only [List.length_append, List.length_cons, List.length_nil]; omega))) only [↓wD,wU,Nat.reduceBEq,zx150,zx151,zx159,zx160,zx161,zx162,Nat.reduceAdd,Nat.reduceSub,Nat.reduceMul,Nat.reduceLeDiff,Nat.reduceLT,Nat.reduceEqDiff,Int.reduceAdd,Int.reduceSub,Int.reduceMul,Int.reduceNeg,Int.reduceLT,Int.reduceLE,Int.reduceEq,Int.reduceToNat,Int.cast_ofNat_Int,↓reduceIte]
    first | exact ⟨.nils, ((Gr.refl H).app _).app _, rfl, Acc.nil⟩ | exact ⟨.nils, ((Gr.refl H).app _).app _, rfl, rfl, Acc.nil⟩
theorem rclues_ret {p : Nat → Prop} {H : Heap} {v : AV} {m : Nat} {P : List Nat} (hx : Sl p H v (nL P)) (m5 : m ≤ 5) (hl : P.length ≤ 5) (hP : ∀ x ∈ P, x < 2 ^ m) : Ret E 32 [.i m, v] (fun _ => False) H (cluesL m P) := by
  refine Ret.ro rfl fn32 rfl ?_
  unfold f32A
  have p5 := pow5 m5
  have h32 : ∀ x ∈ P, x < 32 := fun x hx => by have := hP x hx; omega
  replace hx : Sl (fun b => b < H.length) H v (nL P) := hx.low.weak fun _ h => h.2
  have hI0 := ((hx.app [.cells [.nils, .nils]]).app [.cells [.nils, .nils]]).I
  rw [nL_len] at hI0
  simp (disch := (first | assumption | omega | (simp only [List.length_append, List.length_cons, List.length_nil]; omega))) only [↓wD,wU,Nat.reduceBEq,zx150,zx151,zx159,zx160,zx161,zx162,Nat.reduceAdd,Nat.reduceSub,Nat.reduceMul,Nat.reduceLeDiff,Nat.reduceLT,Nat.reduceEqDiff,Int.reduceAdd,Int.reduceSub,Int.reduceMul,Int.reduceNeg,Int.reduceLT,Int.reduceLE,Int.reduceEq,Int.reduceToNat,Int.cast_ofNat_Int,↓reduceIte, hI0]
  refine Wp.for P.length (fun i a H' => ∃ u, a 0 = .i m ∧ a 1 = v ∧ a 4 = .p H.length 0 ∧ a 5 = .p (H.length + 1) 0 ∧ a 9 = v ∧ a 10 = .i P.length ∧ a 11 = .i i ∧ Gr H H' ∧ H.length + 2 ≤ H'.length ∧
    H'[H.length]? = some (.cells [.nils, .nils]) ∧ H'[H.length + 1]? = some (.cells [u, .nils]) ∧ Acc (H.length + 2) (fun b => H.length + 2 ≤ b) H' u ((P.take i).map blkL)) ?_ ?_
  · rintro i a H1 hi ⟨u, a0, a1, a4, a5, a9, a10, a11, hg, hln, c1, c2, hu⟩ ih
    simp (disch := (first | assumption | omega | (simp only [List.length_append, List.length_cons, List.length_nil]; omega))) only [↓wD,wU,Nat.reduceBEq,zx150,zx151,zx159,zx160,zx161,zx162,Nat.reduceAdd,Nat.reduceSub,Nat.reduceMul,Nat.reduceLeDiff,Nat.reduceLT,Nat.reduceEqDiff,Int.reduceAdd,Int.reduceSub,Int.reduceMul,Int.reduceNeg,Int.reduceLT,Int.reduceLE,Int.reduceEq,Int.reduceToNat,Int.cast_ofNat_Int,↓reduceIte, a0, a1, a4, a5, a9, a10, a11]
    have hxg := hx.gr hg
    refine condP_split (fun hlt => ?_) (fun hlt => ?_)
    · have hi' : i < P.length := by omega
      have hI := hxg.I
      rw [nL_len] at hI
      have eg := nL_gi hi'
      have hgx := h32 _ (mem_gi hi')
      simp (disch := (first | assumption | omega | (simp only [List.length_append, List.length_cons, List.length_nil]; omega))) only [↓wD,wU,Nat.reduceBEq,zx150,zx151,zx159,zx160,zx161,zx162,Nat.reduceAdd,Nat.reduceSub,Nat.reduceMul,Nat.reduceLeDiff,Nat.reduceLT,Nat.reduceEqDiff,Int.reduceAdd,Int.reduceSub,Int.reduceMul,Int.reduceNeg,Int.reduceLT,Int.reduceLE,Int.reduceEq,Int.reduceToNat,Int.cast_ofNat_Int,↓reduceIte, a0, a1, a4, a5, a9, a10, a11, hI, eg, ld_of c2]
      refine (rblocks_ret m5 (hP _ (mem_gi hi'))).toF fun y H2 hg2 hy => ?_
      have hl2 := hg2.1
      have hu2 := hu.gr hg2
      simp (disch := (first | assumption | omega | (simp only [List.length_append, List.length_cons, List.length_nil]; omega))) only [↓wD,wU,Nat.reduceBEq,zx150,zx151,zx159,zx160,zx161,zx162,Nat.reduceAdd,Nat.reduceSub,Nat.reduceMul,Nat.reduceLeDiff,Nat.reduceLT,Nat.reduceEqDiff,Int.reduceAdd,Int.reduceSub,Int.reduceMul,Int.reduceNeg,Int.reduceLT,Int.reduceLE,Int.reduceEq,Int.reduceToNat,Int.cast_ofNat_Int,↓reduceIte, hy.cellsV]
      refine hu2.pushL (by omega) (by omega) hy (fun b hb => ⟨by omega, fun e => by have := hu.blk_lt e; omega⟩) (by rw [List.length_map, List.length_take]; omega) fun u' H3 hu' hk3 hl3' _ => ?_
      have c33 := hk3.get (b := H.length + 1) (fun e => by have := hu2.blk_lt e; omega) (hg2.get c2)
      have c23 := hk3.get (b := H.length) (fun e => by have := hu2.blk_lt e; omega) (hg2.get c1)
      simp (disch := (first | assumption | omega | (simp only [List.length_append, List.length_cons, List.length_nil]; omega))) only [↓wD,wU,Nat.reduceBEq,zx150,zx151,zx159,zx160,zx161,zx162,Nat.reduceAdd,Nat.reduceSub,Nat.reduceMul,Nat.reduceLeDiff,Nat.reduceLT,Nat.reduceEqDiff,Int.reduceAdd,Int.reduceSub,Int.reduceMul,Int.reduceNeg,Int.reduceLT,Int.reduceLE,Int.reduceEq,Int.reduceToNat,Int.cast_ofNat_Int,↓reduceIte, a0, a1, a4, a5, a9, a10, a11, st_of c33, hu'.cellsV]
      refine (ih hi').go ⟨u', ?_⟩
      simp (disch := (first | assumption | omega | (simp only [List.length_append, List.length_cons, List.length_nil]; omega))) only [↓wD,wU,Nat.reduceBEq,zx150,zx151,zx159,zx160,zx161,zx162,Nat.reduceAdd,Nat.reduceSub,Nat.reduceMul,Nat.reduceLeDiff,Nat.reduceLT,Nat.reduceEqDiff,Int.reduceAdd,Int.reduceSub,Int.reduceMul,Int.reduceNeg,Int.reduceLT,Int.reduceLE,Int.reduceEq,Int.reduceToNat,Int.cast_ofNat_Int,↓reduceIte, a0, a1, a4, a5, a9, a10, a11]
      have e : (P.take (i + 1)).map blkL = (P.take i).map blkL ++ [blkL (gi P (i : Int))] := by rw [take_gi hi', List.map_append]; rfl
      rw [e]
      refine ⟨((hg.trans hg2).push hu2 (by omega) hk3).set (by omega) _, by simp; omega, by rw [List.getElem?_set_ne (by omega)]; exact c23, get_set c33, ?_⟩
      exact hu'.mono ((Kp.set _ _ _).weak fun b hb => by omega) fun _ h => h
    · obtain rfl : i = P.length := by omega
      rw [List.take_length] at hu
      have hus : Sl (fun b => H.length + 2 ≤ b ∧ b < H1.length) H1 u (P.map blkL) := hu.sl.low.weak fun b h => ⟨h.1.elim id id, h.2⟩
      clear ih
      simp (disch := (first | assumption | omega | (simp only [List.length_append, List.length_cons, List.length_nil]; omega))) only [↓wD,wU,Nat.reduceBEq,zx150,zx151,zx159,zx160,zx161,zx162,Nat.reduceAdd,Nat.reduceSub,Nat.reduceMul,Nat.reduceLeDiff,Nat.reduceLT,Nat.reduceEqDiff,Int.reduceAdd,Int.reduceSub,Int.reduceMul,Int.reduceNeg,Int.reduceLT,Int.reduceLE,Int.reduceEq,Int.reduceToNat,Int.cast_ofNat_Int,↓reduceIte, a0, a1, a4, a5, a9, a10, a11]
      refine Wp.for m (fun i a H' => ∃ w, a 1 = v ∧ a 4 = .p H.length 0 ∧ a 5 = .p (H.length + 1) 0 ∧  a 24 = .i m ∧ a 25 = .i i ∧ Kp (fun b => b < H1.length ∧ b ≠ H.length + 1) H1 H' ∧
        H'[H.length + 1]? = some (.cells [u, w]) ∧ Acc H1.length (fun b => H1.length ≤ b) H' w ((List.range i).map fun c => blkL (colN P c))) ?_ ?_
      · clear a0 a1 a4 a5 a9 a10 a11
        rintro i a H2 hi ⟨w, a1, a4, a5,  aT1, aT2, hk, c2', hw⟩ ih
        simp (disch := (first | assumption | omega | (simp only [List.length_append, List.length_cons, List.length_nil]; omega))) only [↓wD,wU,Nat.reduceBEq,zx150,zx151,zx159,zx160,zx161,zx162,Nat.reduceAdd,Nat.reduceSub,Nat.reduceMul,Nat.reduceLeDiff,Nat.reduceLT,Nat.reduceEqDiff,Int.reduceAdd,Int.reduceSub,Int.reduceMul,Int.reduceNeg,Int.reduceLT,Int.reduceLE,Int.reduceEq,Int.reduceToNat,Int.cast_ofNat_Int,↓reduceIte, a1, a4, a5,  aT1, aT2]
        refine condP_split (fun hlt => ?_) (fun hlt => ?_)
        · have hi' : i < m := by omega
          have hx2 : Sl (fun b => b < H.length) H2 v (nL P) := hxg.mono (hk.weak fun b h => by omega) fun _ h => h
          have hx2I := hx2.I
          rw [nL_len] at hx2I
          have cr := rcolumn_ret (c := i) hx2 (by omega) (by omega) fun x hx => by have := h32 x hx; omega
          have clt : colN P i < 2 ^ P.length := colT_lt P i P.length
          have cl32 := pow5 hl
          simp (disch := (first | assumption | omega | (simp only [List.length_append, List.length_cons, List.length_nil]; omega))) only [↓wD,wU,Nat.reduceBEq,zx150,zx151,zx159,zx160,zx161,zx162,Nat.reduceAdd,Nat.reduceSub,Nat.reduceMul,Nat.reduceLeDiff,Nat.reduceLT,Nat.reduceEqDiff,Int.reduceAdd,Int.reduceSub,Int.reduceMul,Int.reduceNeg,Int.reduceLT,Int.reduceLE,Int.reduceEq,Int.reduceToNat,Int.cast_ofNat_Int,↓reduceIte, a1, a4, a5,  aT1, aT2, ld_of c2', cr.call, hx2I]
          refine (rblocks_ret hl clt).toF fun y H3 hg3 hy => ?_
          have hl3 := hg3.1
          have hk1 := hk.1
          have hw3 := hw.gr hg3
          simp (disch := (first | assumption | omega | (simp only [List.length_append, List.length_cons, List.length_nil]; omega))) only [↓wD,wU,Nat.reduceBEq,zx150,zx151,zx159,zx160,zx161,zx162,Nat.reduceAdd,Nat.reduceSub,Nat.reduceMul,Nat.reduceLeDiff,Nat.reduceLT,Nat.reduceEqDiff,Int.reduceAdd,Int.reduceSub,Int.reduceMul,Int.reduceNeg,Int.reduceLT,Int.reduceLE,Int.reduceEq,Int.reduceToNat,Int.cast_ofNat_Int,↓reduceIte, hy.cellsV]
          refine hw3.pushL (by omega) (by omega) hy (fun b hb => ⟨by omega, fun e => by have := hw.blk_lt e; omega⟩) (by rw [List.length_map, List.length_range]; omega) fun w' H4 hw' hk4 hl4 _ => ?_
          have c34 := hk4.get (b := H.length + 1) (fun e => by have := hw3.blk_lt e; omega) (hg3.get c2')
          simp (disch := (first | assumption | omega | (simp only [List.length_append, List.length_cons, List.length_nil]; omega))) only [↓wD,wU,Nat.reduceBEq,zx150,zx151,zx159,zx160,zx161,zx162,Nat.reduceAdd,Nat.reduceSub,Nat.reduceMul,Nat.reduceLeDiff,Nat.reduceLT,Nat.reduceEqDiff,Int.reduceAdd,Int.reduceSub,Int.reduceMul,Int.reduceNeg,Int.reduceLT,Int.reduceLE,Int.reduceEq,Int.reduceToNat,Int.cast_ofNat_Int,↓reduceIte, a1, a4, a5,  aT1, aT2, st_of c34, hw'.cellsV]
          refine (ih hi').go ⟨w', ?_⟩
          simp (disch := (first | assumption | omega | (simp only [List.length_append, List.length_cons, List.length_nil]; omega))) only [↓wD,wU,Nat.reduceBEq,zx150,zx151,zx159,zx160,zx161,zx162,Nat.reduceAdd,Nat.reduceSub,Nat.reduceMul,Nat.reduceLeDiff,Nat.reduceLT,Nat.reduceEqDiff,Int.reduceAdd,Int.reduceSub,Int.reduceMul,Int.reduceNeg,Int.reduceLT,Int.reduceLE,Int.reduceEq,Int.reduceToNat,Int.cast_ofNat_Int,↓reduceIte, a1, a4, a5,  aT1, aT2]
          have e : (List.range (i + 1)).map (fun c => blkL (colN P c)) = (List.range i).map (fun c => blkL (colN P c)) ++ [blkL (colN P i)] := by rw [List.range_succ, List.map_append]; rfl
          rw [e]
          refine ⟨?_, get_set c34, hw'.mono ((Kp.set _ _ _).weak fun b hb => by omega) fun _ h => h⟩
          exact ((hk.trans hg3.all fun _ _ => trivial).trans hk4 fun b hb e => by have := hw3.blk_lt e; omega).trans (Kp.set _ _ _) fun b hb => hb.2
        · obtain rfl : i = m := by omega
          have c14 := hk.get (b := H.length) ⟨by omega, by omega⟩ c1
          have hu3 : Sl (fun b => H.length + 2 ≤ b ∧ b < H1.length) H2 u (P.map blkL) := hus.kp (hk.weak fun b h => by omega)
          have hst : st H.length H2 H.length 0 [u, w] = some (H2.set H.length (.cells [u, w])) := by rw [st_of c14 (Nat.le_refl _) (by simp)]; simp [wr]
          simp (disch := (first | assumption | omega | (simp only [List.length_append, List.length_cons, List.length_nil]; omega))) only [↓wD,wU,Nat.reduceBEq,zx150,zx151,zx159,zx160,zx161,zx162,Nat.reduceAdd,Nat.reduceSub,Nat.reduceMul,Nat.reduceLeDiff,Nat.reduceLT,Nat.reduceEqDiff,Int.reduceAdd,Int.reduceSub,Int.reduceMul,Int.reduceNeg,Int.reduceLT,Int.reduceLE,Int.reduceEq,Int.reduceToNat,Int.cast_ofNat_Int,↓reduceIte, a1, a4, a5,  aT1, aT2, ldn_of c2', hu3.cellsV, hw.cellsV, hst, ldn_of (get_set c14)]
          refine rv_pp ?_ ?_
          · exact (hu3.kp ((Kp.set _ _ _).weak fun b h => by omega)).weak fun b h => .inr (by omega)
          · exact (hw.mono ((Kp.set _ _ _).weak fun b hb => by omega) fun _ h => h).sl.weak fun b h => .inr (by omega)
      · simp (disch := (first | assumption | omega | (simp only [List.length_append, List.length_cons, List.length_nil]; omega))) only [↓wD,wU,Nat.reduceBEq,zx150,zx151,zx159,zx160,zx161,zx162,Nat.reduceAdd,Nat.reduceSub,Nat.reduceMul,Nat.reduceLeDiff,Nat.reduceLT,Nat.reduceEqDiff,Int.reduceAdd,Int.reduceSub,Int.reduceMul,Int.reduceNeg,Int.reduceLT,Int.reduceLE,Int.reduceEq,Int.reduceToNat,Int.cast_ofNat_Int,↓reduceIte, a0, a1, a4, a5, a9, a10, a11]
        exact ⟨.nils, Kp.refl _ _, c2, Acc.nil⟩
  · simp (disch := (first | assumption | omega | (simp only [List.length_append, List.length_cons, List.length_nil]; omega))) only [↓wD,wU,Nat.reduceBEq,zx150,zx151,zx159,zx160,zx161,zx162,Nat.reduceAdd,Nat.reduceSub,Nat.reduceMul,Nat.reduceLeDiff,Nat.reduceLT,Nat.reduceEqDiff,Int.reduceAdd,Int.reduceSub,Int.reduceMul,Int.reduceNeg,Int.reduceLT,Int.reduceLE,Int.reduceEq,Int.reduceToNat,Int.cast_ofNat_Int,↓reduceIte]
    first | exact ⟨.nils, ((Gr.refl H).app _).app _, rfl, Acc.nil⟩ | exact ⟨.nils, ((Gr.refl H).app _).app _, rfl, rfl, Acc.nil⟩
end Go.Proofs.YtjjndoigkhabdaaDoor
namespace Go.Proofs.YtjjndoigkhabdaaDoor
open Go Go.AM Go.Proofs
theorem own_ret {p : Nat → Prop} {H : Heap} {u w : AV} {x y : List (List Int)} (hx : Sl p H u x) (hy : Sl p H w y) : Ret E 31 [.ag [u, w]] p H (x, y) := by
  refine Ret.ro rfl fn31 rfl ?_
  unfold f31A
  have c0 : (H ++ [Blk.cells [u, w]] ++ [Blk.cells [.nils, .nils]])[H.length]? = some (.cells [u, w]) := by simp [List.getElem?_append]
  have c1 : (H ++ [Blk.cells [u, w]] ++ [Blk.cells [.nils, .nils]])[H.length + 1]? = some (.cells [.nils, .nils]) := by simp [List.getElem?_append]
  have hx2 := (hx.low.app [Blk.cells [u, w]]).app [Blk.cells [.nils, .nils]]
  have hy2 := (hy.low.app [Blk.cells [u, w]]).app [Blk.cells [.nils, .nils]]
  have hu := hx.cellsV
  have hw := hy.cellsV
  have hst : st H.length (H ++ [Blk.cells [u, w]] ++ [Blk.cells [.nils, .nils]]) (H.length + 1) 0 [u, w] = some ((H ++ [Blk.cells [u, w]] ++ [Blk.cells [.nils, .nils]]).set (H.length + 1) (.cells [u, w])) := by rw [st_of c1 (by omega) (by simp)]; simp [wr]
  have g1 := get_set (k := .cells [u, w]) c1
  have e1 := (hx2.kp ((Kp.set (H.length + 1) _ (.cells [u, w])).weak fun b h => by omega)).weak (q := fun b => p b ∨ H.length ≤ b) fun b h => .inl h.1
  have e2 := (hy2.kp ((Kp.set (H.length + 1) _ (.cells [u, w])).weak fun b h => by omega)).weak (q := fun b => p b ∨ H.length ≤ b) fun b h => .inl h.1
  generalize (H ++ [Blk.cells [u, w]] ++ [Blk.cells [.nils, .nils]]).set (H.length + 1) (.cells [u, w]) = H3 at *
  simp (disch := (first | assumption | omega | (simp only [List.length_append, List.length_cons, List.length_nil]; omega))) only [↓wD,wU,Nat.reduceBEq,zx150,zx151,zx159,zx160,zx161,zx162,Nat.reduceAdd,Nat.reduceSub,Nat.reduceMul,Nat.reduceLeDiff,Nat.reduceLT,Nat.reduceEqDiff,Int.reduceAdd,Int.reduceSub,Int.reduceMul,Int.reduceNeg,Int.reduceLT,Int.reduceLE,Int.reduceEq,Int.reduceToNat,Int.cast_ofNat_Int,↓reduceIte, hu, hw, ld_of c0, hst, ldn_of g1]
  exact rv_pp e1 e2
theorem psame_ret {p q : Nat → Prop} {H : Heap} {u w u' w' : AV} {x y x' y' : List (List Int)} (hx : Sl p H u x) (hy : Sl p H w y) (hx' : Sl q H u' x') (hy' : Sl q H w' y') : RetP E 30 [.ag [u, w], .ag [u', w']] H (.b (decide (x = x' ∧ y = y'))) := by
  refine RetP.ro rfl fn30 rfl rfl ?_
  unfold f30A
  have c0 : (H ++ [Blk.cells [u, w]] ++ [Blk.cells [u', w']])[H.length]? = some (.cells [u, w]) := by simp [List.getElem?_append]
  have c1 : (H ++ [Blk.cells [u, w]] ++ [Blk.cells [u', w']])[H.length + 1]? = some (.cells [u', w']) := by simp [List.getElem?_append]
  have kx := (hx.app [Blk.cells [u, w]]).app [Blk.cells [u', w']]
  have ky := (hy.app [Blk.cells [u, w]]).app [Blk.cells [u', w']]
  have kx' := (hx'.app [Blk.cells [u, w]]).app [Blk.cells [u', w']]
  have ky' := (hy'.app [Blk.cells [u, w]]).app [Blk.cells [u', w']]
  have vu := hx.cellsV
  have vw := hy.cellsV
  have vu' := hx'.cellsV
  have vw' := hy'.cellsV
  have bx := hx.bound
  have bY := hy.bound
  clear hx hy hx' hy'
  have lx := kx.L
  have ly := ky.L
  have lx' := kx'.L
  have ly' := ky'.L
  by_cases h1 : x.length = x'.length
  case neg =>
    have d1 : decide (¬ (x.length : Int) = x'.length) = true := decide_eq_true (by omega)
    have e : decide (x = x' ∧ y = y') = false := decide_eq_false fun h => h1 (by rw [h.1])
    simp (disch := (first | assumption | omega | (simp only [List.length_append, List.length_cons, List.length_nil]; omega))) only [↓wD,wU,Nat.reduceBEq,zx150,zx151,zx159,zx160,zx161,zx162,Nat.reduceAdd,Nat.reduceSub,Nat.reduceMul,Nat.reduceLeDiff,Nat.reduceLT,Nat.reduceEqDiff,Int.reduceAdd,Int.reduceSub,Int.reduceMul,Int.reduceNeg,Int.reduceLT,Int.reduceLE,Int.reduceEq,Int.reduceToNat,Int.cast_ofNat_Int,↓reduceIte, vu, vw, vu', vw', ld_of c0, ld_of c1, lx, ly, lx', ly', d1, e]
  have d1 : decide (¬ (x.length : Int) = x'.length) = false := decide_eq_false (by omega)
  by_cases h2 : y.length = y'.length
  case neg =>
    have d2 : decide (¬ (y.length : Int) = y'.length) = true := decide_eq_true (by omega)
    have e : decide (x = x' ∧ y = y') = false := decide_eq_false fun h => h2 (by rw [h.2])
    simp (disch := (first | assumption | omega | (simp only [List.length_append, List.length_cons, List.length_nil]; omega))) only [↓wD,wU,Nat.reduceBEq,zx150,zx151,zx159,zx160,zx161,zx162,Nat.reduceAdd,Nat.reduceSub,Nat.reduceMul,Nat.reduceLeDiff,Nat.reduceLT,Nat.reduceEqDiff,Int.reduceAdd,Int.reduceSub,Int.reduceMul,Int.reduceNeg,Int.reduceLT,Int.reduceLE,Int.reduceEq,Int.reduceToNat,Int.cast_ofNat_Int,↓reduceIte, vu, vw, vu', vw', ld_of c0, ld_of c1, lx, ly, lx', ly', d1, d2, e]
  have d2 : decide (¬ (y.length : Int) = y'.length) = false := decide_eq_false (by omega)
  simp (disch := (first | assumption | omega | (simp only [List.length_append, List.length_cons, List.length_nil]; omega))) only [↓wD,wU,Nat.reduceBEq,zx150,zx151,zx159,zx160,zx161,zx162,Nat.reduceAdd,Nat.reduceSub,Nat.reduceMul,Nat.reduceLeDiff,Nat.reduceLT,Nat.reduceEqDiff,Int.reduceAdd,Int.reduceSub,Int.reduceMul,Int.reduceNeg,Int.reduceLT,Int.reduceLE,Int.reduceEq,Int.reduceToNat,Int.cast_ofNat_Int,↓reduceIte, vu, vw, vu', vw', ld_of c0, ld_of c1, lx, ly, lx', ly', d1, d2]
  generalize H ++ [Blk.cells [u, w]] ++ [Blk.cells [u', w']] = H2 at *
  refine Wp.for x.length (fun i a H' => H' = H2 ∧ a 2 = .p H.length 0 ∧ a 3 = .p (H.length + 1) 0 ∧ a 26 = u ∧ a 27 = .i x.length ∧ a 28 = .i i ∧ x.take i = x'.take i) ?_ ?_
  · rintro i a H' hi ⟨rfl, a2, a3, a26, a27, a28, hh⟩ ih
    simp (disch := (first | assumption | omega | (simp only [List.length_append, List.length_cons, List.length_nil]; omega))) only [↓wD,wU,Nat.reduceBEq,zx150,zx151,zx159,zx160,zx161,zx162,Nat.reduceAdd,Nat.reduceSub,Nat.reduceMul,Nat.reduceLeDiff,Nat.reduceLT,Nat.reduceEqDiff,Int.reduceAdd,Int.reduceSub,Int.reduceMul,Int.reduceNeg,Int.reduceLT,Int.reduceLE,Int.reduceEq,Int.reduceToNat,Int.cast_ofNat_Int,↓reduceIte, a2, a3, a26, a27, a28]
    refine condP_split (fun hlt => ?_) (fun hlt => ?_)
    · have hi' : i < x.length := by omega
      have g := kx.get (k := (i : Int)) (by omega) (by omega)
      have g' := kx'.get (k := (i : Int)) (by omega) (by omega)
      have sm := same_ret g g'
      by_cases he : gi x (i : Int) = gi x' (i : Int)
      · rw [decide_eq_true he] at sm
        have hh2 := take_eq_succ hh hi' (by omega) he
        simp (disch := (first | assumption | omega | (simp only [List.length_append, List.length_cons, List.length_nil]; omega))) only [↓wD,wU,Nat.reduceBEq,zx150,zx151,zx159,zx160,zx161,zx162,Nat.reduceAdd,Nat.reduceSub,Nat.reduceMul,Nat.reduceLeDiff,Nat.reduceLT,Nat.reduceEqDiff,Int.reduceAdd,Int.reduceSub,Int.reduceMul,Int.reduceNeg,Int.reduceLT,Int.reduceLE,Int.reduceEq,Int.reduceToNat,Int.cast_ofNat_Int,↓reduceIte, a2, a3, a26, a27, a28, lx, lx', ld_of c1, sm.call]
        refine (ih hi').go ⟨rfl, ?_⟩
        simp (disch := (first | assumption | omega | (simp only [List.length_append, List.length_cons, List.length_nil]; omega))) only [↓wD,wU,Nat.reduceBEq,zx150,zx151,zx159,zx160,zx161,zx162,Nat.reduceAdd,Nat.reduceSub,Nat.reduceMul,Nat.reduceLeDiff,Nat.reduceLT,Nat.reduceEqDiff,Int.reduceAdd,Int.reduceSub,Int.reduceMul,Int.reduceNeg,Int.reduceLT,Int.reduceLE,Int.reduceEq,Int.reduceToNat,Int.cast_ofNat_Int,↓reduceIte, a2, a3, a26, a27, a28]
        exact hh2
      · rw [decide_eq_false he] at sm
        have e : decide (x = x' ∧ y = y') = false := decide_eq_false fun h => he (by rw [h.1])
        simp (disch := (first | assumption | omega | (simp only [List.length_append, List.length_cons, List.length_nil]; omega))) only [↓wD,wU,Nat.reduceBEq,zx150,zx151,zx159,zx160,zx161,zx162,Nat.reduceAdd,Nat.reduceSub,Nat.reduceMul,Nat.reduceLeDiff,Nat.reduceLT,Nat.reduceEqDiff,Int.reduceAdd,Int.reduceSub,Int.reduceMul,Int.reduceNeg,Int.reduceLT,Int.reduceLE,Int.reduceEq,Int.reduceToNat,Int.cast_ofNat_Int,↓reduceIte, a2, a3, a26, a27, a28, lx, lx', ld_of c1, sm.call, e]
    · have ex := take_all hh h1 (by omega)
      clear ih hh
      simp (disch := (first | assumption | omega | (simp only [List.length_append, List.length_cons, List.length_nil]; omega))) only [↓wD,wU,Nat.reduceBEq,zx150,zx151,zx159,zx160,zx161,zx162,Nat.reduceAdd,Nat.reduceSub,Nat.reduceMul,Nat.reduceLeDiff,Nat.reduceLT,Nat.reduceEqDiff,Int.reduceAdd,Int.reduceSub,Int.reduceMul,Int.reduceNeg,Int.reduceLT,Int.reduceLE,Int.reduceEq,Int.reduceToNat,Int.cast_ofNat_Int,↓reduceIte, a2, a3, a26, a27, a28, ld_of c0, ly]
      refine Wp.for y.length (fun i a Hh => Hh = H' ∧ a 2 = .p H.length 0 ∧ a 3 = .p (H.length + 1) 0 ∧ a 43 = w ∧ a 44 = .i y.length ∧ a 45 = .i i ∧ y.take i = y'.take i) ?_ ?_
      · clear a2 a3 a26 a27 a28
        rintro i a Hh hi ⟨rfl, a2, a3, a43, a44, a45, hh⟩ ih
        simp (disch := (first | assumption | omega | (simp only [List.length_append, List.length_cons, List.length_nil]; omega))) only [↓wD,wU,Nat.reduceBEq,zx150,zx151,zx159,zx160,zx161,zx162,Nat.reduceAdd,Nat.reduceSub,Nat.reduceMul,Nat.reduceLeDiff,Nat.reduceLT,Nat.reduceEqDiff,Int.reduceAdd,Int.reduceSub,Int.reduceMul,Int.reduceNeg,Int.reduceLT,Int.reduceLE,Int.reduceEq,Int.reduceToNat,Int.cast_ofNat_Int,↓reduceIte, a2, a3, a43, a44, a45]
        refine condP_split (fun hlt => ?_) (fun hlt => ?_)
        · have hi' : i < y.length := by omega
          have g := ky.get (k := (i : Int)) (by omega) (by omega)
          have g' := ky'.get (k := (i : Int)) (by omega) (by omega)
          have sm := same_ret g g'
          by_cases he : gi y (i : Int) = gi y' (i : Int)
          · rw [decide_eq_true he] at sm
            have hh2 := take_eq_succ hh hi' (by omega) he
            simp (disch := (first | assumption | omega | (simp only [List.length_append, List.length_cons, List.length_nil]; omega))) only [↓wD,wU,Nat.reduceBEq,zx150,zx151,zx159,zx160,zx161,zx162,Nat.reduceAdd,Nat.reduceSub,Nat.reduceMul,Nat.reduceLeDiff,Nat.reduceLT,Nat.reduceEqDiff,Int.reduceAdd,Int.reduceSub,Int.reduceMul,Int.reduceNeg,Int.reduceLT,Int.reduceLE,Int.reduceEq,Int.reduceToNat,Int.cast_ofNat_Int,↓reduceIte, a2, a3, a43, a44, a45, ly, ly', ld_of c1, sm.call]
            refine (ih hi').go ⟨rfl, ?_⟩
            simp (disch := (first | assumption | omega | (simp only [List.length_append, List.length_cons, List.length_nil]; omega))) only [↓wD,wU,Nat.reduceBEq,zx150,zx151,zx159,zx160,zx161,zx162,Nat.reduceAdd,Nat.reduceSub,Nat.reduceMul,Nat.reduceLeDiff,Nat.reduceLT,Nat.reduceEqDiff,Int.reduceAdd,Int.reduceSub,Int.reduceMul,Int.reduceNeg,Int.reduceLT,Int.reduceLE,Int.reduceEq,Int.reduceToNat,Int.cast_ofNat_Int,↓reduceIte, a2, a3, a43, a44, a45]
            exact hh2
          · rw [decide_eq_false he] at sm
            have e : decide (x = x' ∧ y = y') = false := decide_eq_false fun h => he (by rw [h.2])
            simp (disch := (first | assumption | omega | (simp only [List.length_append, List.length_cons, List.length_nil]; omega))) only [↓wD,wU,Nat.reduceBEq,zx150,zx151,zx159,zx160,zx161,zx162,Nat.reduceAdd,Nat.reduceSub,Nat.reduceMul,Nat.reduceLeDiff,Nat.reduceLT,Nat.reduceEqDiff,Int.reduceAdd,Int.reduceSub,Int.reduceMul,Int.reduceNeg,Int.reduceLT,Int.reduceLE,Int.reduceEq,Int.reduceToNat,Int.cast_ofNat_Int,↓reduceIte, a2, a3, a43, a44, a45, ly, ly', ld_of c1, sm.call, e]
        · have e : decide (x = x' ∧ y = y') = true := decide_eq_true ⟨ex, take_all hh h2 (by omega)⟩
          simp (disch := (first | assumption | omega | (simp only [List.length_append, List.length_cons, List.length_nil]; omega))) only [↓wD,wU,Nat.reduceBEq,zx150,zx151,zx159,zx160,zx161,zx162,Nat.reduceAdd,Nat.reduceSub,Nat.reduceMul,Nat.reduceLeDiff,Nat.reduceLT,Nat.reduceEqDiff,Int.reduceAdd,Int.reduceSub,Int.reduceMul,Int.reduceNeg,Int.reduceLT,Int.reduceLE,Int.reduceEq,Int.reduceToNat,Int.cast_ofNat_Int,↓reduceIte, a2, a3, a43, a44, a45, e]
      · (simp (disch := (first | assumption | omega | (simp only [List.length_append, List.length_cons, List.length_nil]; omega))) only [↓wD,wU,Nat.reduceBEq,zx150,zx151,zx159,zx160,zx161,zx162,Nat.reduceAdd,Nat.reduceSub,Nat.reduceMul,Nat.reduceLeDiff,Nat.reduceLT,Nat.reduceEqDiff,Int.reduceAdd,Int.reduceSub,Int.reduceMul,Int.reduceNeg,Int.reduceLT,Int.reduceLE,Int.reduceEq,Int.reduceToNat,Int.cast_ofNat_Int,↓reduceIte, a2, a3, a26, a27, a28]) <;> simp
  · (simp (disch := (first | assumption | omega | (simp only [List.length_append, List.length_cons, List.length_nil]; omega))) only [↓wD,wU,Nat.reduceBEq,zx150,zx151,zx159,zx160,zx161,zx162,Nat.reduceAdd,Nat.reduceSub,Nat.reduceMul,Nat.reduceLeDiff,Nat.reduceLT,Nat.reduceEqDiff,Int.reduceAdd,Int.reduceSub,Int.reduceMul,Int.reduceNeg,Int.reduceLT,Int.reduceLE,Int.reduceEq,Int.reduceToNat,Int.cast_ofNat_Int,↓reduceIte]) <;> simp
theorem cluesX_ret {p : Nat → Prop} {H : Heap} {v : AV} {w : Int} {xs : List Int} {m : Nat} {P : List Nat} (hx : Sl p H v xs) (h : PicP w xs) (ew : w = m) (ex : xs = nL P) (m5 : m ≤ 5) (hl : P.length ≤ 5) (hP : ∀ x ∈ P, x < 2 ^ m) : Ret E 28 [.i w, v] (fun _ => False) H (T2.mk (cluesL m P) (0 : Int)) := by
  subst ew ex
  refine Ret.ro rfl fn28 rfl ?_
  unfold f28A
  have hx1 := hx.app [.cells [.nils, .nils]]
  have ip := isPic_ret (w := (m : Int)) hx1
  rw [decide_eq_true h] at ip
  simp (disch := (first | assumption | omega | (simp only [List.length_append, List.length_cons, List.length_nil]; omega))) only [↓wD,wU,Nat.reduceBEq,zx150,zx151,zx159,zx160,zx161,zx162,Nat.reduceAdd,Nat.reduceSub,Nat.reduceMul,Nat.reduceLeDiff,Nat.reduceLT,Nat.reduceEqDiff,Int.reduceAdd,Int.reduceSub,Int.reduceMul,Int.reduceNeg,Int.reduceLT,Int.reduceLE,Int.reduceEq,Int.reduceToNat,Int.cast_ofNat_Int,↓reduceIte, ip.call]
  refine (clues_ret hx1 m5 hl hP).toX fun u H1 x1 hu => ?_
  obtain ⟨r, c, rfl, h1, h2⟩ := rv_pp_elim hu
  have c0 : H1[H.length]? = some (.cells [.nils, .nils]) := x1.get trivial get_last
  have hst : st H.length H1 H.length 0 [r, c] = some (H1.set H.length (.cells [r, c])) := by rw [st_of c0 (Nat.le_refl _) (by simp)]; simp [wr]
  have hn : (H ++ [Blk.cells [.nils, .nils]]).length = H.length + 1 := by simp
  have k1 := (h1.weak (q := fun b => H.length + 1 ≤ b) fun b h => h.elim (fun h => h.elim) fun h => by omega).kp ((Kp.set H.length H1 (.cells [r, c])).weak fun b h => by omega)
  have k2 := (h2.weak (q := fun b => H.length + 1 ≤ b) fun b h => h.elim (fun h => h.elim) fun h => by omega).kp ((Kp.set H.length H1 (.cells [r, c])).weak fun b h => by omega)
  simp (disch := (first | assumption | omega | (simp only [List.length_append, List.length_cons, List.length_nil]; omega))) only [↓wD,wU,Nat.reduceBEq,zx150,zx151,zx159,zx160,zx161,zx162,Nat.reduceAdd,Nat.reduceSub,Nat.reduceMul,Nat.reduceLeDiff,Nat.reduceLT,Nat.reduceEqDiff,Int.reduceAdd,Int.reduceSub,Int.reduceMul,Int.reduceNeg,Int.reduceLT,Int.reduceLE,Int.reduceEq,Int.reduceToNat,Int.cast_ofNat_Int,↓reduceIte, h1.cellsV, h2.cellsV, hst, ldn_of (get_set c0)]
  exact rv_2 (rv_pp (k1.weak fun b h => .inr (by omega)) (k2.weak fun b h => .inr (by omega))) rv_i
theorem cluesX_err {p : Nat → Prop} {H : Heap} {v : AV} {w : Int} {xs : List Int} (hx : Sl p H v xs) (h : ¬ PicP w xs) : RetP E 28 [.i w, v] H (.tp [.ag [.nils, .nils], .i 2]) := by
  refine RetP.ro rfl fn28 rfl rfl ?_
  unfold f28A
  have hx1 := hx.app [.cells [.nils, .nils]]
  have ip := isPic_ret (w := w) hx1
  rw [decide_eq_false h] at ip
  simp (disch := (first | assumption | omega | (simp only [List.length_append, List.length_cons, List.length_nil]; omega))) only [↓wD,wU,Nat.reduceBEq,zx150,zx151,zx159,zx160,zx161,zx162,Nat.reduceAdd,Nat.reduceSub,Nat.reduceMul,Nat.reduceLeDiff,Nat.reduceLT,Nat.reduceEqDiff,Int.reduceAdd,Int.reduceSub,Int.reduceMul,Int.reduceNeg,Int.reduceLT,Int.reduceLE,Int.reduceEq,Int.reduceToNat,Int.cast_ofNat_Int,↓reduceIte, ip.call]
end Go.Proofs.YtjjndoigkhabdaaDoor
namespace Go.Proofs.YtjjndoigkhabdaaDoor
open Go Go.AM Go.Proofs
theorem Walk.SquaresClues (H : Heap) (n : Int) (w : AV) (xs : List Int) (hc : Sl (fun b => b < H.length) H w xs) (sz : xs.length * 8 ≤ 140737488351232) : WpF E H.length 5 [.i n, w] H fun v _ => v = .b true := by
  refine law_of (RetP.ro rfl fn5 rfl rfl ?_)
  unfold f5A
  simp (disch := (first | assumption | omega | (simp only [List.length_append, List.length_cons, List.length_nil]; omega))) only [↓wD,wU,Nat.reduceBEq,zx150,zx151,zx159,zx160,zx161,zx162,Nat.reduceAdd,Nat.reduceSub,Nat.reduceMul,Nat.reduceLeDiff,Nat.reduceLT,Nat.reduceEqDiff,Int.reduceAdd,Int.reduceSub,Int.reduceMul,Int.reduceNeg,Int.reduceLT,Int.reduceLE,Int.reduceEq,Int.reduceToNat,Int.cast_ofNat_Int,↓reduceIte]
  refine (list_ret hc).toFX fun y H1 x1 hy => ?_
  have hc1 := hc.kp (x1.all _).kp
  have hl1 := x1.1
  by_cases h : PicP n xs
  · obtain ⟨m, P, en, ex, m1, m5, l1, l5, hP⟩ := h.nat
    have e8 : xs.take 8 = xs := List.take_of_length_le (by rw [ex, nL_len]; omega)
    rw [e8] at hy
    simp (disch := (first | assumption | omega | (simp only [List.length_append, List.length_cons, List.length_nil]; omega))) only [↓wD,wU,Nat.reduceBEq,zx150,zx151,zx159,zx160,zx161,zx162,Nat.reduceAdd,Nat.reduceSub,Nat.reduceMul,Nat.reduceLeDiff,Nat.reduceLT,Nat.reduceEqDiff,Int.reduceAdd,Int.reduceSub,Int.reduceMul,Int.reduceNeg,Int.reduceLT,Int.reduceLE,Int.reduceEq,Int.reduceToNat,Int.cast_ofNat_Int,↓reduceIte]
    refine (cluesX_ret hy h en ex m5 l5 hP).toX fun u H2 x2 hu => ?_
    obtain ⟨t, _, rfl, ht, rfl⟩ := rv2 hu
    obtain ⟨r, c, rfl, h1, h2⟩ := rv_pp_elim ht
    have hc2 := hc1.kp (x2.all _).kp
    have hst : st H.length (H2 ++ [Blk.cells [.nils, .nils]]) H2.length 0 [r, c] = some (H2 ++ [Blk.cells [r, c]]) := by
      have := x2.1
      rw [st_of get_last (by omega) (by simp)]
      congr 1
      simp [wr]
    have hc3 := hc2.app [Blk.cells [r, c]]
    have k1 := h1.app [Blk.cells [r, c]]
    have k2 := h2.app [Blk.cells [r, c]]
    have g3 : (H2 ++ [Blk.cells [r, c]])[H2.length]? = some (.cells [r, c]) := get_last
    generalize H2 ++ [Blk.cells [r, c]] = H3 at *
    have rp := rpic_ret (w := n) hc3
    rw [decide_eq_true h] at rp
    simp (disch := (first | assumption | omega | (simp only [List.length_append, List.length_cons, List.length_nil]; omega))) only [↓wD,wU,Nat.reduceBEq,zx150,zx151,zx159,zx160,zx161,zx162,Nat.reduceAdd,Nat.reduceSub,Nat.reduceMul,Nat.reduceLeDiff,Nat.reduceLT,Nat.reduceEqDiff,Int.reduceAdd,Int.reduceSub,Int.reduceMul,Int.reduceNeg,Int.reduceLT,Int.reduceLE,Int.reduceEq,Int.reduceToNat,Int.cast_ofNat_Int,↓reduceIte, h1.cellsV, h2.cellsV, hst, rp.call, ldn_of g3]
    refine (own_ret k1 k2).toX fun u4 H4 x4 hu4 => ?_
    obtain ⟨r4, c4, rfl, q1, q2⟩ := rv_pp_elim hu4
    have hc4 := hc3.kp (x4.all _).kp
    subst en ex
    simp (disch := (first | assumption | omega | (simp only [List.length_append, List.length_cons, List.length_nil]; omega))) only [↓wD,wU,Nat.reduceBEq,zx150,zx151,zx159,zx160,zx161,zx162,Nat.reduceAdd,Nat.reduceSub,Nat.reduceMul,Nat.reduceLeDiff,Nat.reduceLT,Nat.reduceEqDiff,Int.reduceAdd,Int.reduceSub,Int.reduceMul,Int.reduceNeg,Int.reduceLT,Int.reduceLE,Int.reduceEq,Int.reduceToNat,Int.cast_ofNat_Int,↓reduceIte]
    refine (rclues_ret hc4 m5 l5 hP).toX fun u5 H5 x5 hu5 => ?_
    obtain ⟨r5, c5, rfl, s1, s2⟩ := rv_pp_elim hu5
    have sm := psame_ret (q1.kp (x5.all _).kp) (q2.kp (x5.all _).kp) s1 s2
    rw [decide_eq_true ⟨rfl, rfl⟩] at sm
    simp (disch := (first | assumption | omega | (simp only [List.length_append, List.length_cons, List.length_nil]; omega))) only [↓wD,wU,Nat.reduceBEq,zx150,zx151,zx159,zx160,zx161,zx162,Nat.reduceAdd,Nat.reduceSub,Nat.reduceMul,Nat.reduceLeDiff,Nat.reduceLT,Nat.reduceEqDiff,Int.reduceAdd,Int.reduceSub,Int.reduceMul,Int.reduceNeg,Int.reduceLT,Int.reduceLE,Int.reduceEq,Int.reduceToNat,Int.cast_ofNat_Int,↓reduceIte, sm.call, awake_ret.call]
  · have ce := cluesX_err hy (fun q => h (PicP_cut.1 q))
    have hst : st H.length (H1 ++ [Blk.cells [.nils, .nils]]) H1.length 0 [.nils, .nils] = some (H1 ++ [Blk.cells [.nils, .nils]]) := by
      rw [st_of get_last (by omega) (by simp)]
      congr 1
      simp [wr]
    have g3 : (H1 ++ [Blk.cells [.nils, .nils]])[H1.length]? = some (.cells [.nils, .nils]) := get_last
    have rp := rpic_ret (w := n) (hc1.app [Blk.cells [.nils, .nils]])
    rw [decide_eq_false h] at rp
    simp (disch := (first | assumption | omega | (simp only [List.length_append, List.length_cons, List.length_nil]; omega))) only [↓wD,wU,Nat.reduceBEq,zx150,zx151,zx159,zx160,zx161,zx162,Nat.reduceAdd,Nat.reduceSub,Nat.reduceMul,Nat.reduceLeDiff,Nat.reduceLT,Nat.reduceEqDiff,Int.reduceAdd,Int.reduceSub,Int.reduceMul,Int.reduceNeg,Int.reduceLT,Int.reduceLE,Int.reduceEq,Int.reduceToNat,Int.cast_ofNat_Int,↓reduceIte, ce.call, hst, rp.call, ld_of g3, awake_ret.call]
end Go.Proofs.YtjjndoigkhabdaaDoor
