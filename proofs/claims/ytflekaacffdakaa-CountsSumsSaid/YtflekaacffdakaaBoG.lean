/- A slice behind a growing one; cuts; copies. No condition. -/
import Derived.Test.YtflekaacffdakaaBoF
set_option linter.unusedSimpArgs false
set_option linter.unusedVariables false
namespace Go.AM
open Go
section
variable {α : Type} [Rep α] {L lo bytes : Nat} {p q : Nat → Prop} {H H' : Heap} {v y : AV} {xs ys : List α}
theorem Sl.cellsOf (h : Sl p H v xs) : ∃ cs, Go.AM.cellsOf (Rep.sz α) xs.length v H = some cs ∧ cs.length = xs.length * Rep.sz α ∧ ∀ (i : Nat) (hi : i < xs.length), Rep.rep p H ((cs.drop (i * Rep.sz α)).take (Rep.sz α)) xs[i] := by
  rcases h with ⟨rfl, rfl⟩ | ⟨b, o, c, k, rfl, hb, hk, h1, h2, h3⟩
  · exact ⟨[], rfl, by simp, fun i hi => by simp at hi⟩
  · by_cases h0 : xs.length = 0
    · refine ⟨[], ?_, by simp [h0], fun i hi => by omega⟩
      simp [Go.AM.cellsOf, h0]
    · refine ⟨(k.drop o).take (xs.length * Rep.sz α), ?_, by rw [List.length_take, List.length_drop]; omega, fun i hi => ?_⟩
      · simp [Go.AM.cellsOf, h0, ldn, hk, h1]
      · have hle : i * Rep.sz α + Rep.sz α ≤ xs.length * Rep.sz α := by rw [← Nat.succ_mul]; exact Nat.mul_le_mul_right _ (by omega)
        have e : (((k.drop o).take (xs.length * Rep.sz α)).drop (i * Rep.sz α)).take (Rep.sz α) = (k.drop (o + i * Rep.sz α)).take (Rep.sz α) := by
          rw [List.drop_take, List.drop_drop, List.take_take]
          congr 1
          omega
        rw [e]; exact h3 i hi
/-- a slice behind a growing one -/
theorem Acc.extend {Q : AV × Heap → Prop} (h : Acc L p H v xs) (hlo : lo ≤ L) (hL : L ≤ H.length) (hy : Sl q H y ys) (hq : ∀ b, q b → p b ∧ v.blk ≠ some b)
    (hb : (xs.length + ys.length) * bytes ≤ 1099511627776) (hb0 : 0 < bytes)
    (go : ∀ v' H', Acc L p H' v' (xs ++ ys) → Kp (fun b => v.blk ≠ some b) H H' → Q (v', H')) :
    @optP _ (appendV lo (Rep.sz α) bytes v y H) ⟨Q⟩ := by
  obtain ⟨cs, hc, hcl, hcr⟩ := hy.cellsOf
  have hxl : xs.length + ys.length ≤ 9223372036854775806 := by
    have : xs.length + ys.length ≤ (xs.length + ys.length) * bytes := Nat.le_mul_of_pos_right _ hb0
    omega
  have hmb : mostBytes = 1099511627776 := by decide
  simp only [appendV, hy.lenA, hc, optP]
  by_cases h0 : ys.length = 0
  · have hy0 : ys = [] := List.length_eq_zero_iff.1 h0
    subst hy0
    refine ⟨(v, H), ?_, by have := go v H (by rwa [List.append_nil]) (Kp.refl _ _); exact this⟩
    rcases h with ⟨rfl, rfl⟩ | ⟨b, o, c, k, rfl, hbl, hk, h1, h2, h3⟩ <;> simp [appendA]
  rcases h with ⟨rfl, rfl⟩ | ⟨b, o, c, k, rfl, hbl, hk, h1, h2, h3⟩
  · simp only [appendA]
    rw [if_neg h0, if_pos (by rw [hmb]; simpa using hb)]
    refine ⟨_, rfl, ?_⟩
    refine go _ _ (.inr ⟨H.length, 0, none, cs, by simp, by omega, ?_, by simp [hcl], by simp at hxl ⊢; omega, ?_⟩) ((Kp.app _ _ _).weak fun _ h => h)
    · rw [List.getElem?_append_right (Nat.le_refl _), Nat.sub_self]; rfl
    · intro i hi
      simp only [List.nil_append] at hi ⊢
      rw [Nat.zero_add]
      refine Rep.mono (Rep.low (hcr i hi)) (Kp.app _ _ _) fun b hb => ⟨(hq b hb.1).1, ?_⟩
      have := hb.2; omega
  · have hbH : b < H.length := (List.getElem?_eq_some_iff.1 hk).1
    simp only [appendA, ne_eq, not_true_eq_false, if_false]
    rw [if_neg h0, hk]
    simp only []
    rw [if_pos ⟨h1, by rw [hmb]; exact hb⟩]
    have hkt : ((k.drop o).take (xs.length * Rep.sz α)).length = xs.length * Rep.sz α := by rw [List.length_take, List.length_drop]; omega
    have fin : ∀ H2 : Heap, H2.length = H.length → Kp (fun b' => b' ≠ b) H H2 → Q (.s (Rep.sz α) H2.length 0 (xs.length + ys.length) none, H2 ++ [.cells ((k.drop o).take (xs.length * Rep.sz α) ++ cs)]) := by
      intro H2 hl2 hkp
      refine go _ _ (.inr ⟨H2.length, 0, none, (k.drop o).take (xs.length * Rep.sz α) ++ cs, by simp, by omega, ?_, ?_, by simp; omega, ?_⟩) ?_
      · rw [List.getElem?_append_right (Nat.le_refl _), Nat.sub_self]; rfl
      · simp [hkt, hcl, Nat.add_mul]
      · intro i hi
        rw [Nat.zero_add]
        by_cases hi' : i < xs.length
        · rw [List.getElem_append_left hi']
          have hle : i * Rep.sz α + Rep.sz α ≤ xs.length * Rep.sz α := by rw [← Nat.succ_mul]; exact Nat.mul_le_mul_right _ (by omega)
          have e1 : (((k.drop o).take (xs.length * Rep.sz α) ++ cs).drop (i * Rep.sz α)).take (Rep.sz α) = (k.drop (o + i * Rep.sz α)).take (Rep.sz α) := by
            rw [List.drop_append_of_le_length (by omega), List.take_append_of_le_length (by rw [List.length_drop]; omega), List.drop_take, List.drop_drop, List.take_take]
            congr 1
            omega
          rw [e1]
          refine Rep.mono (Rep.low (h3 i hi')) (((hkp.trans (Kp.app (fun _ => True) _ _) fun _ _ => trivial)).weak fun b' h => h.1.2) fun b' h => ⟨h.1.1, ?_⟩
          have := h.2; omega
        · have hi2 : i < xs.length + ys.length := by simpa using hi
          have e1 : (xs ++ ys)[i]'hi = ys[i - xs.length]'(by omega) := List.getElem_append_right (by omega)
          have hge : xs.length * Rep.sz α ≤ i * Rep.sz α := Nat.mul_le_mul_right _ (by omega)
          have e2 : ((k.drop o).take (xs.length * Rep.sz α) ++ cs).drop (i * Rep.sz α) = cs.drop ((i - xs.length) * Rep.sz α) := by
            rw [List.drop_append, hkt, Nat.sub_mul]
            have : ((k.drop o).take (xs.length * Rep.sz α)).drop (i * Rep.sz α) = [] := by rw [List.drop_eq_nil_iff]; omega
            rw [this, List.nil_append]
          rw [e1, e2]
          refine Rep.mono (Rep.low (hcr (i - xs.length) (by omega))) (((hkp.trans (Kp.app (fun _ => True) _ _) fun _ _ => trivial)).weak fun b' h => fun e => (hq b' h.1).2 (by simp [AV.blk, e])) fun b' h => ⟨(hq b' h.1).1, ?_⟩
          have := h.2; omega
      · exact (hkp.trans (Kp.app (fun _ => True) _ _) fun _ _ => trivial).weak fun b' h e => h (by simp [AV.blk, e])
    by_cases hcap : c = some xs.length
    · rw [if_pos hcap]
      exact ⟨_, rfl, fin H rfl (Kp.refl _ _)⟩
    · rw [if_neg hcap, if_pos (by omega)]
      refine ⟨_, rfl, ?_⟩
      have := fin (H.set b Blk.dead) (by simp) (Kp.set _ _ _)
      simpa using this
/-- a new slice of no elements -/
theorem Acc.fresh0 (h : L ≤ H.length) : Acc L p (H ++ [.cells []]) (.s (Rep.sz α) H.length 0 0 (some 0)) ([] : List α) :=
  .inr ⟨H.length, 0, some 0, [], rfl, h, by simp, by simp, by simp, fun i hi => by simp at hi⟩
/-- a slice of the call's own that was made whole -/
theorem Acc.of_sl {b o : Nat} {c : Option Nat} (h : Sl p H (.s (Rep.sz α) b o xs.length c) xs) (hL : L ≤ b) (hq : ∀ b', p b' → b' = b ∨ (q b' ∧ b' ≠ b)) (hd : ∀ (i : Nat) (hi : i < xs.length) (cs : List AV), Rep.rep p H cs xs[i] → Rep.rep (fun b' => q b' ∧ b' ≠ b) H cs xs[i]) : Acc L q H (.s (Rep.sz α) b o xs.length c) xs := by
  rcases h with ⟨e, _⟩ | ⟨b1, o1, c1, k, e, hb, hk, h1, h2, h3⟩
  · cases e
  · cases e
    exact .inr ⟨b, o, c, k, rfl, hL, hk, h1, h2, fun i hi => hd i hi _ (h3 i hi)⟩

/-! ### Cuts -/
/-- from l to h -/
def AV.cut (v : AV) (l h : Nat) : AV := match v with
  | .s es bb oo n c => .s es bb (oo + l * es) (h - l) (c.map (· - l))
  | _ => .nils
/-- from l to h, its capacity cut to m -/
def AV.cut3 (v : AV) (l h m : Nat) : AV := match v with
  | .s es bb oo n c => .s es bb (if m = l then oo else oo + l * es) (h - l) (some (m - l))
  | _ => .nils
theorem bound_some {k : IntKind} {i : Int} {d m : Nat} (h0 : 0 ≤ i) (h1 : i ≤ m) : boundV (some (.int k i)) d m = some i.toNat := by simp [boundV, h0, h1]
theorem bound_none {d m : Nat} (h : d ≤ m) : boundV none d m = some d := by simp [boundV, h]
theorem Sl.slV_lh {a b : Nat} (h : Sl p H v xs) (l u : Option AV) (hu : boundV u xs.length xs.length = some b) (hl : boundV l 0 b = some a) (hab : a ≤ b) (hb : b ≤ xs.length) : slV (Rep.sz α) v l u none = some (v.cut a b) := by
  have hm : boundV none xs.length xs.length = some xs.length := bound_none (Nat.le_refl _)
  rcases h with ⟨rfl, rfl⟩ | ⟨b', o, c, k, rfl, _⟩
  · simp only [List.length_nil] at hu hl hm hb
    simp only [slV, Go.AM.lenA, hm, hu, hl]
    have : a = 0 := by omega
    have : b = 0 := by omega
    subst a b
    simp [sliceA, AV.cut]
  · simp only [slV, Go.AM.lenA, hm, hu, hl]
    simp [sliceA, AV.cut, hb, hab]
theorem Sl.slV_3 {a b m : Nat} (h : Sl p H v xs) (l u w : Option AV) (hw : boundV w xs.length xs.length = some m) (hws : w.isSome = true) (hu : boundV u xs.length m = some b) (hl : boundV l 0 b = some a) (hab : a ≤ b) (hbm : b ≤ m) (hm : m ≤ xs.length) : slV (Rep.sz α) v l u w = some (v.cut3 a b m) := by
  rcases h with ⟨rfl, rfl⟩ | ⟨b', o, c, k, rfl, _⟩
  · simp only [List.length_nil] at hu hl hw hm
    simp only [slV, Go.AM.lenA, hw, hu, hl]
    have : a = 0 := by omega
    have : b = 0 := by omega
    have : m = 0 := by omega
    subst a b m
    simp [sliceA, AV.cut3, hws]
  · simp only [slV, Go.AM.lenA, hw, hu, hl]
    simp [sliceA, AV.cut3, hbm, hab, hm, hws]
theorem Sl.cut {a b : Nat} (h : Sl p H v xs) (hab : a ≤ b) (hb : b ≤ xs.length) : Sl p H (v.cut a b) ((xs.drop a).take (b - a)) := by
  have hl : ((xs.drop a).take (b - a)).length = b - a := by rw [List.length_take, List.length_drop]; omega
  rcases h with ⟨rfl, rfl⟩ | ⟨b', o, c, k, rfl, hb', hk, h1, h2, h3⟩
  · simp at hb; subst hb; exact .inl ⟨rfl, by simp⟩
  · have hmul : a * Rep.sz α + (b - a) * Rep.sz α ≤ xs.length * Rep.sz α := by rw [← Nat.add_mul]; exact Nat.mul_le_mul_right _ (by omega)
    refine .inr ⟨b', o + a * Rep.sz α, _, k, by rw [hl]; rfl, hb', hk, by rw [hl]; omega, by rw [hl]; omega, fun i hi => ?_⟩
    have hi' : a + i < xs.length := by omega
    have e : ((xs.drop a).take (b - a))[i]'hi = xs[a + i] := by simp
    rw [e, Nat.add_assoc, ← Nat.add_mul]
    exact h3 (a + i) hi'
theorem Sl.cut3 {a b m : Nat} (h : Sl p H v xs) (hab : a ≤ b) (hbm : b ≤ m) (hm : m ≤ xs.length) : Sl p H (v.cut3 a b m) ((xs.drop a).take (b - a)) := by
  by_cases e : m = a
  · have hb0 : b = a := by omega
    subst e hb0
    rcases h with ⟨rfl, rfl⟩ | ⟨b', o, c, k, rfl, hb', hk, h1, h2, h3⟩
    · exact .inl ⟨rfl, by simp⟩
    · refine .inr ⟨b', o, some (b - b), k, by simp [AV.cut3], hb', hk, ?_, by simp, fun i hi => by simp at hi⟩
      simp
      have := Nat.zero_le (xs.length * Rep.sz α); omega
  · have hc := h.cut hab (Nat.le_trans hbm hm)
    have hl : ((xs.drop a).take (b - a)).length = b - a := by rw [List.length_take, List.length_drop]; omega
    rcases h with ⟨rfl, rfl⟩ | ⟨b', o, c, k, rfl, hb', hk, h1, h2, h3⟩
    · simp at hm; omega
    · rcases hc with ⟨e1, _⟩ | ⟨b1, o1, c1, k1, e1, r⟩
      · cases e1
      · simp only [AV.cut, AV.s.injEq, true_and] at e1
        obtain ⟨rfl, rfl, _, _⟩ := e1
        exact .inr ⟨b', o + a * Rep.sz α, some (m - a), k1, by rw [hl]; simp [AV.cut3, e], r⟩
end
end Go.AM
namespace Go.AM
open Go
theorem zx178 {es b o n : Nat} {c : Option Nat} {k : IntKind} {i : Int} (h0 : 0 ≤ i) (h1 : i < n) : iaddrV es (.s es b o n c) (.int k i) = some (.p b (o + i.toNat * es)) := by
  simp [iaddrV, h0, h1]
theorem zx173 {neg : Bool} : seqV neg .nils .nils = some (.b (!neg)) := (rfl)
theorem zx174 {neg : Bool} {e b o n : Nat} {c : Option Nat} : seqV neg (.s e b o n c) .nils = some (.b neg) := (rfl)
theorem zx175 {neg : Bool} {e b o n : Nat} {c : Option Nat} : seqV neg .nils (.s e b o n c) = some (.b neg) := (rfl)
theorem zx47 {k k' : IntKind} {a b : Int} : mnV [.int k a, .int k' b] = some (.int k (min a b)) := by
  simp only [mnV, foldMin, Option.map_some]; congr 2; rw [Int.min_def]; split <;> split <;> omega
theorem zx48 {k k' : IntKind} {a b : Int} : mxV [.int k a, .int k' b] = some (.int k (max a b)) := by
  simp only [mxV, foldMax, Option.map_some]; congr 2; rw [Int.max_def]; split <;> split <;> omega
theorem zx49 {k k1 k2 k3 : IntKind} {a b c d : Int} : mnV [.int k a, .int k1 b, .int k2 c, .int k3 d] = some (.int k (min (min (min a b) c) d)) := by
  simp only [mnV, foldMin, Option.map_some]
  congr 2
  simp only [Int.min_def]
  repeat' split
  all_goals omega
/-- a call returns a value of which P holds; the heap stays -/
def RetE (E : Tab) (f : Nat) (vs : List AV) (H : Heap) (P : AV → Prop) : Prop := ∀ lo, WpF E lo f vs H fun v H' => P v ∧ H' = H
theorem RetE.ro {E : Tab} {f : Nat} {af : AFunc} {vs : List AV} {H : Heap} {P : AV → Prop} (hk : E.kd f = .ro) (hf : E.fn f = some af) (hn : vs.length = af.nargs) (hp : ∀ v, P v → v.pure = true)
    (h : Wp E H.length none [.code af.body] (initFr vs) H (RetQ af.res fun v _ => P v)) : RetE E f vs H P := fun lo => by
  refine WpF.of_ro hk hf hn (h.mono fun o a' H' hq => ?_)
  cases o with
  | exit id => exact hq.elim
  | done => obtain ⟨u, e, hu⟩ := hq; exact ⟨.inl rfl, u, e, hu, by simp [hp u hu]⟩
  | ret => obtain ⟨u, e, hu⟩ := hq; exact ⟨.inr rfl, u, e, hu, by simp [hp u hu]⟩
theorem RetE.use {E : Tab} {f : Nat} {vs : List AV} {H : Heap} {P : AV → Prop} (h : RetE E f vs H P) {lo : Nat} {Q : AV → Heap → Prop} (hq : ∀ v, P v → Q v H) : @callP E lo f vs H ⟨Q⟩ :=
  (h lo).mono fun v H' ⟨h1, h2⟩ => by subst h2; exact hq v h1
theorem Ret.go {α : Type} [RV α] {E : Tab} {f : Nat} {vs : List AV} {p : Nat → Prop} {H : Heap} {x : α} (h : Ret E f vs p H x) {lo : Nat} {Q : AV → Heap → Prop}
    (hq : ∀ v N, RV.rv (fun b => p b ∨ H.length ≤ b) (H ++ N) v x → Q v (H ++ N)) : @callP E lo f vs H ⟨Q⟩ := callI (h.use hq)
/-- .. the heap behind it under a letter of its own -/
theorem Ret.to {α : Type} [RV α] {E : Tab} {f : Nat} {vs : List AV} {p : Nat → Prop} {H : Heap} {x : α} (h : Ret E f vs p H x) {lo : Nat} {Q : AV → Heap → Prop}
    (hq : ∀ v H', Gr H H' → RV.rv (fun b => p b ∨ H.length ≤ b) H' v x → Q v H') : @callP E lo f vs H ⟨Q⟩ := h.go fun v N hv => hq v (H ++ N) (Kp.app _ _ _) hv
theorem Ret.toF {α : Type} [Rep α] {E : Tab} {f : Nat} {vs : List AV} {H : Heap} {x : List α} (h : Ret E f vs (fun _ => False) H x) {lo : Nat} {Q : AV → Heap → Prop}
    (hq : ∀ v H', Gr H H' → Sl (fun b => H.length ≤ b) H' v x → Q v H') : @callP E lo f vs H ⟨Q⟩ := h.to fun v H' hg hv => hq v H' hg (Sl.weak hv fun b h => h.elim (fun h => h.elim) id)
end Go.AM
