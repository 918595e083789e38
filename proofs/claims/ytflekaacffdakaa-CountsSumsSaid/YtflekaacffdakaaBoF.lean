/- Small laws on lists and results. No condition. -/
import Derived.Test.YtflekaacffdakaaBoE
set_option linter.unusedSimpArgs false
set_option linter.unusedVariables false
namespace Go.AM
open Go
theorem avb_f {c : Prop} [Decidable c] (h : ¬ c) : AV.b false = AV.b (decide c) := by rw [decide_eq_false h]
theorem avb_t {c : Prop} [Decidable c] (h : c) : AV.b true = AV.b (decide c) := by rw [decide_eq_true h]
theorem gi_at {α : Type} [Inhabited α] {xs : List α} {i : Nat} (h : i < xs.length) : xs[i]? = some (gi xs (i : Int)) := by
  rw [gi_nat h]; exact List.getElem?_eq_getElem h
theorem take_gi {α : Type} [Inhabited α] {xs : List α} {i : Nat} (h : i < xs.length) : xs.take (i + 1) = xs.take i ++ [gi xs (i : Int)] := by
  rw [List.take_add_one, gi_at h]; rfl
theorem take_eq_succ {α : Type} [Inhabited α] {xs ys : List α} {i : Nat} (h : xs.take i = ys.take i) (h1 : i < xs.length) (h2 : i < ys.length) (e : gi xs (i : Int) = gi ys (i : Int)) : xs.take (i + 1) = ys.take (i + 1) := by
  rw [take_gi h1, take_gi h2, h, e]
theorem take_all {α : Type} {xs ys : List α} {i : Nat} (h : xs.take i = ys.take i) (hl : xs.length = ys.length) (hi : xs.length ≤ i) : xs = ys := by
  rwa [List.take_of_length_le hi, List.take_of_length_le (by omega)] at h
theorem gi_ext {α : Type} [Inhabited α] {xs ys : List α} (hl : xs.length = ys.length) (h : ∀ i : Nat, i < xs.length → gi xs (i : Int) = gi ys (i : Int)) : xs = ys := by
  apply List.ext_getElem hl
  intro i h1 h2
  have := h i h1
  rwa [gi_nat h1, gi_nat h2] at this
theorem rv_si {β : Type} [Rep β] {p : Nat → Prop} {H : Heap} {r : AV} {v : Int} {xs : List β} (h : Sl p H r xs) : RV.rv p H (.ag [.i v, r]) ((v, xs) : Int × List β) :=
  ⟨[.i v, r], rfl, [.i v], [r], rfl, rfl, r, rfl, h⟩
theorem rv_si_elim {β : Type} [Rep β] {p : Nat → Prop} {H : Heap} {u : AV} {v : Int} {xs : List β} (h : RV.rv p H u ((v, xs) : Int × List β)) : ∃ r, u = .ag [.i v, r] ∧ Sl p H r xs := by
  obtain ⟨cs, rfl, c1, c2, rfl, h1, r, h2, h3⟩ := h
  change c1 = _ at h1
  rw [h1, h2]
  exact ⟨r, rfl, h3⟩
theorem rep_si_elim {β : Type} [Rep β] {p : Nat → Prop} {H : Heap} {cs : List AV} {x : Int × List β} (h : Rep.rep p H cs x) : ∃ r, cs = [.i x.1, r] ∧ Sl p H r x.2 := by
  obtain ⟨c1, c2, rfl, h1, r, h2, h3⟩ := h
  change c1 = _ at h1
  rw [h1, h2]
  exact ⟨r, rfl, h3⟩
theorem rv_2 {α β : Type} [RV α] [RV β] {p : Nat → Prop} {H : Heap} {v1 v2 : AV} {x : α} {y : β} (h1 : RV.rv p H v1 x) (h2 : RV.rv p H v2 y) : RV.rv p H (.tp [v1, v2]) (T2.mk x y) := ⟨v1, v2, rfl, h1, h2⟩
theorem rv_3 {α β γ : Type} [RV α] [RV β] [RV γ] {p : Nat → Prop} {H : Heap} {v1 v2 v3 : AV} {x : α} {y : β} {z : γ} (h1 : RV.rv p H v1 x) (h2 : RV.rv p H v2 y) (h3 : RV.rv p H v3 z) : RV.rv p H (.tp [v1, v2, v3]) (T3.mk x y z) := ⟨v1, v2, v3, rfl, h1, h2, h3⟩
theorem rv2 {α β : Type} [RV α] [RV β] {p : Nat → Prop} {H : Heap} {v : AV} {x : α} {y : β} (h : RV.rv p H v (T2.mk x y)) : ∃ v1 v2, v = .tp [v1, v2] ∧ RV.rv p H v1 x ∧ RV.rv p H v2 y := h
theorem rv3 {α β γ : Type} [RV α] [RV β] [RV γ] {p : Nat → Prop} {H : Heap} {v : AV} {x : α} {y : β} {z : γ} (h : RV.rv p H v (T3.mk x y z)) : ∃ v1 v2 v3, v = .tp [v1, v2, v3] ∧ RV.rv p H v1 x ∧ RV.rv p H v2 y ∧ RV.rv p H v3 z := h
theorem rvi {p : Nat → Prop} {H : Heap} {v : AV} {x : Int} (h : RV.rv p H v x) : v = .i x := h
theorem rvb {p : Nat → Prop} {H : Heap} {v : AV} {x : Bool} (h : RV.rv p H v x) : v = .b x := h
theorem rvs {α : Type} [Rep α] {p : Nat → Prop} {H : Heap} {v : AV} {x : List α} (h : RV.rv p H v x) : Sl p H v x := h
theorem rv_i {p : Nat → Prop} {H : Heap} {n : Int} : RV.rv p H (.i n) n := rfl
theorem RetP.closed {E : Tab} {n f : Nat} {af : AFunc} {vs : List AV} {H : Heap} {v : AV} (hk : E.kd f = .closed) (hf : E.fn f = some af) (hp : AV.pureAll vs = true) (hv : v.pure = true)
    (h : (runF (R E n) 0 af vs []).map (·.1) = some v) : RetP E f vs H v := fun lo => by
  obtain ⟨r, h1, h2⟩ := Option.map_eq_some_iff.1 h
  refine ⟨n, v, H, ?_, rfl, rfl⟩
  unfold callF
  simp only [hk, hp, hf, if_true, Option.bind_some, h1, h2, hv]
/-- a law's own call -/
theorem law_of {E : Tab} {f : Nat} {vs : List AV} {H : Heap} (h : RetP E f vs H (.b true)) : WpF E H.length f vs H fun v _ => v = .b true := (h _).mono fun _ _ h => h.1
theorem mul_small {x y m n : Int} (h0 : 0 ≤ x) (h1 : x ≤ m) (h2 : 0 ≤ y) (h3 : y ≤ n) (hm : 0 ≤ m) : 0 ≤ x * y ∧ x * y ≤ m * n :=
  ⟨Int.mul_nonneg h0 h2, Int.mul_le_mul h1 h3 h2 hm⟩
end Go.AM
