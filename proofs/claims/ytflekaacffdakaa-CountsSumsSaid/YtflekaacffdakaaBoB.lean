/- Values that stand for numbers, slices and structs; heaps that keep blocks; what functions return. No condition. -/
import Derived.Test.YtflekaacffdakaaBoA2
set_option linter.unusedSimpArgs false
set_option linter.unusedVariables false
namespace Go.AM
open Go

/-! ### Whole numbers -/
theorem zx172 {n : Int} (h1 : -9223372036854775808 ≤ n) (h2 : n ≤ 9223372036854775807) : IntKind.wrap .i64 n = n := by
  have e1 : IntKind.i64.bits = 64 := rfl
  have e2 : IntKind.i64.signed = true := rfl
  simp only [IntKind.wrap, e1, e2, Bool.true_and, Bool.false_and, decide_eq_true_eq, ge_iff_le, Nat.reduceSub, Int.reducePow, Bool.false_eq_true, if_false]
  first | (split <;> omega) | omega
theorem wrapU {n : Int} (h1 : 0 ≤ n) (h2 : n ≤ 18446744073709551615) : IntKind.wrap .u64 n = n := by
  have e1 : IntKind.u64.bits = 64 := rfl
  have e2 : IntKind.u64.signed = false := rfl
  simp only [IntKind.wrap, e1, e2, Bool.true_and, Bool.false_and, decide_eq_true_eq, ge_iff_le, Nat.reduceSub, Int.reducePow, Bool.false_eq_true, if_false]
  first | (split <;> omega) | omega
theorem zx81 {k : IntKind} {x y : Int} : binA .add (.int k x) (.int k y) = some (.int k (k.wrap (x + y))) := by simp [binA]
theorem zx82 {k : IntKind} {x y : Int} : binA .sub (.int k x) (.int k y) = some (.int k (k.wrap (x - y))) := by simp [binA]
theorem zx83 {k : IntKind} {x y : Int} : binA .mul (.int k x) (.int k y) = some (.int k (k.wrap (x * y))) := by simp [binA]
theorem zx84 {k : IntKind} {x y : Int} (h : y ≠ 0) : binA .quo (.int k x) (.int k y) = some (.int k (k.wrap (x.tdiv y))) := by simp [binA, h]
theorem zx85 {k : IntKind} {x y : Int} (h : y ≠ 0) : binA .rem (.int k x) (.int k y) = some (.int k (x.tmod y)) := by simp [binA, h]
theorem zx86 {k : IntKind} {x y : Int} : binA .lss (.int k x) (.int k y) = some (.b (decide (x < y))) := by simp [binA]
theorem zx87 {k : IntKind} {x y : Int} : binA .leq (.int k x) (.int k y) = some (.b (decide (x ≤ y))) := by simp [binA]
theorem zx88 {k : IntKind} {x y : Int} : binA .gtr (.int k x) (.int k y) = some (.b (decide (y < x))) := by simp [binA]
theorem zx89 {k : IntKind} {x y : Int} : binA .geq (.int k x) (.int k y) = some (.b (decide (y ≤ x))) := by simp [binA]
theorem zx90 {k : IntKind} {x y : Int} : binA .eql (.int k x) (.int k y) = some (.b (decide (x = y))) := by simp [binA]; rfl
theorem zx91 {k : IntKind} {x y : Int} : binA .neq (.int k x) (.int k y) = some (.b (decide (¬ x = y))) := by
  simp [binA]; by_cases h : x = y <;> simp [h]
theorem zx92 {b : Bool} : unA .not (.b b) = some (.b (!b)) := (rfl)
theorem zx93 {k : IntKind} {n : Int} : unA .neg (.int k n) = some (.int k (k.wrap (0 - n))) := (rfl)
theorem zx94 {c : Prop} [Decidable c] : (!decide c) = decide (¬ c) := by simp
theorem zx95 {k k' : IntKind} {n : Int} : convV k (.int k' n) = some (.int k (k.wrap n)) := (rfl)
theorem zx96 {x y : AV} : pickV (.b true) x y = some x := (rfl)
theorem zx97 {x y : AV} : pickV (.b false) x y = some y := (rfl)
theorem zx98 {b : Bool} {x : AV} : pickV (.b b) x x = some x := by cases b <;> rfl
theorem zx99 {b c : Bool} : pickV (.b b) (.b true) (.b c) = some (.b (b || c)) := by cases b <;> rfl
theorem zx100 {b c : Bool} : pickV (.b b) (.b c) (.b false) = some (.b (b && c)) := by cases b <;> rfl
theorem zx101 {v : AV} {vs : List AV} : extrV 0 (.tp (v :: vs)) = some v := (rfl)
theorem e_consS {v : AV} {vs : List AV} {i : Nat} : extrV (i + 1) (.tp (v :: vs)) = extrV i (.tp vs) := (rfl)
theorem zx102 {v u : AV} {vs : List AV} : extrV 1 (.tp (v :: u :: vs)) = some u := (rfl)
theorem zx103 {v u t : AV} {vs : List AV} : extrV 2 (.tp (v :: u :: t :: vs)) = some t := (rfl)

/-- the element at a whole number -/
def gi {α : Type} [Inhabited α] (xs : List α) (k : Int) : α := xs.getD k.toNat default
theorem gi_nat {α : Type} [Inhabited α] {xs : List α} {i : Nat} (h : i < xs.length) : gi xs (i : Int) = xs[i] := by
  simp [gi, h]
theorem gi_mem {α : Type} [Inhabited α] {xs : List α} {k : Int} (h0 : 0 ≤ k) (h : k < xs.length) : gi xs k ∈ xs := by
  obtain ⟨i, rfl⟩ := Int.eq_ofNat_of_zero_le h0
  rw [gi_nat (by omega)]; exact List.getElem_mem _

/-! ### Heaps that keep blocks -/
/-- the blocks of which p holds stay as they are -/
def Kp (p : Nat → Prop) (H H' : Heap) : Prop := H.length ≤ H'.length ∧ ∀ b k, p b → H[b]? = some (.cells k) → H'[b]? = some (.cells k)
theorem Kp.refl (p : Nat → Prop) (H : Heap) : Kp p H H := ⟨Nat.le_refl _, fun _ _ _ h => h⟩
theorem Kp.trans {p q : Nat → Prop} {H H1 H2 : Heap} (h : Kp p H H1) (h' : Kp q H1 H2) (hq : ∀ b, p b → q b) : Kp p H H2 :=
  ⟨Nat.le_trans h.1 h'.1, fun b k hp hb => h'.2 b k (hq b hp) (h.2 b k hp hb)⟩
theorem Kp.app (p : Nat → Prop) (H N : Heap) : Kp p H (H ++ N) :=
  ⟨by simp, fun b k _ hb => by rw [List.getElem?_append_left (List.getElem?_eq_some_iff.1 hb).1]; exact hb⟩
theorem Kp.weak {p q : Nat → Prop} {H H' : Heap} (h : Kp p H H') (hq : ∀ b, q b → p b) : Kp q H H' := ⟨h.1, fun b k hp hb => h.2 b k (hq b hp) hb⟩
theorem Kp.weakT {q : Nat → Prop} {H H' : Heap} (h : Kp (fun _ => True) H H') : Kp q H H' := h.weak fun _ _ => trivial
theorem Kp.app' {p : Nat → Prop} {H H1 : Heap} (h : Kp p H H1) (N : Heap) : Kp p H (H1 ++ N) := h.trans (Kp.app (fun _ => True) H1 N) fun _ _ => trivial

/-! ### Values that stand for something -/
class Rep (α : Type) where
  sz : Nat
  pos : 0 < sz
  rep : (Nat → Prop) → Heap → List AV → α → Prop
  len : ∀ {p H cs x}, rep p H cs x → cs.length = sz
  one : ∀ {p H cs x}, rep p H cs x → cs.all AV.one = true
  mono : ∀ {p q H H' cs x}, rep p H cs x → Kp p H H' → (∀ b, p b → q b) → rep q H' cs x
  /-- no address in it: whatever the heap -/
  pure : ∀ {p q H H' cs x}, rep p H cs x → AV.pureAll cs = true → rep q H' cs x
  /-- its blocks are there -/
  low : ∀ {p H cs x}, rep p H cs x → rep (fun b => p b ∧ b < H.length) H cs x

theorem pureAll_append {us vs : List AV} : AV.pureAll (us ++ vs) = (AV.pureAll us && AV.pureAll vs) := by
  induction us with
  | nil => simp [AV.pureAll]
  | cons u us ih => simp [AV.pureAll, ih, Bool.and_assoc]

instance : Rep Int where
  sz := 1
  pos := Nat.one_pos
  rep _ _ cs x := cs = [.i x]
  len h := by rw [h]; rfl
  one h := by rw [h]; rfl
  mono h _ _ := h
  pure h _ := h
  low h := h
instance : Rep Bool where
  sz := 1
  pos := Nat.one_pos
  rep _ _ cs x := cs = [.b x]
  len h := by rw [h]; rfl
  one h := by rw [h]; rfl
  mono h _ _ := h
  pure h _ := h
  low h := h
instance {α β : Type} [Rep α] [Rep β] : Rep (α × β) where
  sz := Rep.sz α + Rep.sz β
  pos := Nat.add_pos_left Rep.pos _
  rep p H cs x := ∃ c1 c2, cs = c1 ++ c2 ∧ Rep.rep p H c1 x.1 ∧ Rep.rep p H c2 x.2
  len := by rintro p H cs x ⟨c1, c2, rfl, h1, h2⟩; rw [List.length_append, Rep.len h1, Rep.len h2]
  one := by rintro p H cs x ⟨c1, c2, rfl, h1, h2⟩; rw [List.all_append, Rep.one h1, Rep.one h2]; rfl
  mono := by rintro p q H H' cs x ⟨c1, c2, rfl, h1, h2⟩ hk hq; exact ⟨c1, c2, rfl, Rep.mono h1 hk hq, Rep.mono h2 hk hq⟩
  pure := by
    rintro p q H H' cs x ⟨c1, c2, rfl, h1, h2⟩ hp
    rw [pureAll_append, Bool.and_eq_true] at hp
    exact ⟨c1, c2, rfl, Rep.pure h1 hp.1, Rep.pure h2 hp.2⟩
  low := by rintro p H cs x ⟨c1, c2, rfl, h1, h2⟩; exact ⟨c1, c2, rfl, Rep.low h1, Rep.low h2⟩

/-- a slice; its block and those behind it are some of which p holds -/
def Sl {α : Type} [Rep α] (p : Nat → Prop) (H : Heap) (v : AV) (xs : List α) : Prop :=
  (v = .nils ∧ xs = []) ∨ ∃ b o c k, v = .s (Rep.sz α) b o xs.length c ∧ p b ∧ H[b]? = some (.cells k) ∧ o + xs.length * Rep.sz α ≤ k.length ∧ xs.length ≤ 9223372036854775807 ∧
    ∀ (i : Nat) (h : i < xs.length), Rep.rep p H ((k.drop (o + i * Rep.sz α)).take (Rep.sz α)) xs[i]
section
variable {α : Type} [Rep α] {p q : Nat → Prop} {H H' : Heap} {v : AV} {xs : List α}
theorem Sl.nil : Sl p H .nils ([] : List α) := .inl ⟨rfl, rfl⟩
theorem Sl.mono (h : Sl p H v xs) (hk : Kp p H H') (hq : ∀ b, p b → q b) : Sl q H' v xs := by
  rcases h with h | ⟨b, o, c, k, e, hb, hk1, h1, h2, h3⟩
  · exact .inl h
  · exact .inr ⟨b, o, c, k, e, hq b hb, hk.2 b k hb hk1, h1, h2, fun i hi => Rep.mono (h3 i hi) hk hq⟩
theorem Sl.kp (h : Sl p H v xs) (hk : Kp p H H') : Sl p H' v xs := h.mono hk fun _ h => h
theorem Sl.weak (h : Sl p H v xs) (hq : ∀ b, p b → q b) : Sl q H v xs := h.mono (Kp.refl _ _) hq
theorem Sl.app (h : Sl p H v xs) (N : Heap) : Sl p (H ++ N) v xs := h.kp (Kp.app _ _ _)
theorem Sl.low (h : Sl p H v xs) : Sl (fun b => p b ∧ b < H.length) H v xs := by
  rcases h with h | ⟨b, o, c, k, e, hb, hk1, h1, h2, h3⟩
  · exact .inl h
  · exact .inr ⟨b, o, c, k, e, ⟨hb, (List.getElem?_eq_some_iff.1 hk1).1⟩, hk1, h1, h2, fun i hi => Rep.low (h3 i hi)⟩
theorem Sl.pure (h : Sl p H v xs) (hp : v.pure = true) : Sl q H' v xs := by
  rcases h with h | ⟨b, o, c, k, e, _⟩
  · exact .inl h
  · subst e; simp [AV.pure] at hp
theorem Sl.lenV (h : Sl p H v xs) : lenV v = some (.i xs.length) := by
  rcases h with ⟨rfl, rfl⟩ | ⟨b, o, c, k, rfl, _⟩ <;> rfl
theorem Sl.lenA (h : Sl p H v xs) : lenA v = some xs.length := by
  rcases h with ⟨rfl, rfl⟩ | ⟨b, o, c, k, rfl, _⟩ <;> rfl
theorem Sl.bound (h : Sl p H v xs) : xs.length ≤ 9223372036854775807 := by
  rcases h with ⟨rfl, rfl⟩ | ⟨b, o, c, k, rfl, _, _, _, h, _⟩
  · simp
  · exact h
theorem Sl.one (h : Sl p H v xs) : v.one = true := by
  rcases h with ⟨rfl, rfl⟩ | ⟨b, o, c, k, rfl, _⟩ <;> rfl
end
instance {α : Type} [Rep α] : Rep (List α) where
  sz := 1
  pos := Nat.one_pos
  rep p H cs xs := ∃ v, cs = [v] ∧ Sl p H v xs
  len := by rintro p H cs x ⟨v, rfl, _⟩; rfl
  one := by rintro p H cs x ⟨v, rfl, h⟩; simp [h.one]
  mono := by rintro p q H H' cs x ⟨v, rfl, h⟩ hk hq; exact ⟨v, rfl, h.mono hk hq⟩
  pure := by rintro p q H H' cs x ⟨v, rfl, h⟩ hp; exact ⟨v, rfl, h.pure (by simpa [AV.pureAll] using hp)⟩
  low := by rintro p H cs x ⟨v, rfl, h⟩; exact ⟨v, rfl, h.low⟩

/-- the place of an element -/
def AV.at (es : Nat) (v : AV) (k : Int) : AV := match v with
  | .s _ bb oo _ _ => .p bb (oo + k.toNat * es)
  | _ => .un
/-- the value of an element of one cell -/
def AV.get (H : Heap) (v : AV) (k : Int) : AV := match v with
  | .s es bb oo _ _ => (ld H bb (oo + k.toNat * es)).getD .un
  | _ => .un
/-- the cells of an element -/
def AV.getn (H : Heap) (v : AV) (k : Int) : List AV := match v with
  | .s es bb oo _ _ => (ldn H bb (oo + k.toNat * es) es).getD []
  | _ => []
section
variable {p q : Nat → Prop} {H H' : Heap} {v : AV}
theorem Sl.iaddr {α : Type} [Rep α] {xs : List α} {kk : IntKind} {k : Int} (h : Sl p H v xs) (h0 : 0 ≤ k) (h1 : k < xs.length) : iaddrV (Rep.sz α) v (.int kk k) = some (v.at (Rep.sz α) k) := by
  rcases h with ⟨rfl, rfl⟩ | ⟨b, o, c, kk, rfl, _⟩
  · simp at h1; omega
  · simp [iaddrV, AV.at, h0, h1]
theorem Sl.cells {α : Type} [Rep α] [Inhabited α] {xs : List α} {k : Int} (h : Sl p H v xs) (h0 : 0 ≤ k) (h1 : k < xs.length) : ∃ b o n c ks, v = .s (Rep.sz α) b o n c ∧ H[b]? = some (.cells ks) ∧ o + k.toNat * Rep.sz α + Rep.sz α ≤ ks.length ∧ Rep.rep p H ((ks.drop (o + k.toNat * Rep.sz α)).take (Rep.sz α)) (gi xs k) := by
  rcases h with ⟨rfl, rfl⟩ | ⟨b, o, c, ks, rfl, _, h2, h3, _, h4⟩
  · simp at h1; omega
  · obtain ⟨i, rfl⟩ := Int.eq_ofNat_of_zero_le h0
    have hi : i < xs.length := by omega
    refine ⟨b, o, _, c, ks, rfl, h2, ?_, ?_⟩
    · have := Nat.mul_le_mul_right (Rep.sz α) (Nat.succ_le_of_lt hi)
      rw [Nat.succ_mul] at this
      simp only [Int.toNat_natCast]; omega
    · rw [gi_nat hi]; exact h4 i hi
theorem take1 {α : Type} {l : List α} {n : Nat} {x : α} (h : (l.drop n).take 1 = [x]) : l[n]? = some x := by
  have : ((l.drop n).take 1)[0]? = some x := by rw [h]; rfl
  simpa using this
theorem Sl.ld_int {xs : List Int} {k : Int} (h : Sl p H v xs) (h0 : 0 ≤ k) (h1 : k < xs.length) : ldA H none (v.at 1 k) = some (.i (gi xs k)) := by
  obtain ⟨b, o, n, c, ks, rfl, h2, h3, h4⟩ := h.cells h0 h1
  have h5 := take1 h4
  change ld H b (o + k.toNat * 1) = _
  simp only [ld, h2]
  exact h5
theorem Sl.ld_bool {xs : List Bool} {k : Int} (h : Sl p H v xs) (h0 : 0 ≤ k) (h1 : k < xs.length) : ldA H none (v.at 1 k) = some (.b (gi xs k)) := by
  obtain ⟨b, o, n, c, ks, rfl, h2, h3, h4⟩ := h.cells h0 h1
  have h5 := take1 h4
  change ld H b (o + k.toNat * 1) = _
  simp only [ld, h2]
  exact h5
theorem Sl.ld_get {α : Type} [Rep α] {xs : List (List α)} {k : Int} (h : Sl p H v xs) (h0 : 0 ≤ k) (h1 : k < xs.length) : ldA H none (v.at 1 k) = some (v.get H k) ∧ Sl p H (v.get H k) (gi xs k) := by
  obtain ⟨b, o, n, c, ks, rfl, h2, h3, u, h4, h6⟩ := h.cells h0 h1
  have h5 := take1 h4
  have e : ld H b (o + k.toNat * 1) = some u := by simp only [ld, h2]; exact h5
  constructor
  · change ld H b (o + k.toNat * 1) = some ((ld H b (o + k.toNat * 1)).getD .un)
    rw [e]; rfl
  · change Sl p H ((ld H b (o + k.toNat * 1)).getD .un) _
    rw [e]; exact h6
theorem Sl.ld_list {α : Type} [Rep α] {xs : List (List α)} {k : Int} (h : Sl p H v xs) (h0 : 0 ≤ k) (h1 : k < xs.length) : ldA H none (v.at 1 k) = some (v.get H k) := (h.ld_get h0 h1).1
theorem Sl.get {α : Type} [Rep α] {xs : List (List α)} {k : Int} (h : Sl p H v xs) (h0 : 0 ≤ k) (h1 : k < xs.length) : Sl p H (v.get H k) (gi xs k) := (h.ld_get h0 h1).2
theorem Sl.ld_n {α : Type} [Rep α] [Inhabited α] {xs : List α} {k : Int} (h : Sl p H v xs) (h0 : 0 ≤ k) (h1 : k < xs.length) : ldA H (some (Rep.sz α)) (v.at (Rep.sz α) k) = some (.ag (v.getn H k)) ∧ Rep.rep p H (v.getn H k) (gi xs k) := by
  obtain ⟨b, o, n, c, ks, rfl, h2, h3, h4⟩ := h.cells h0 h1
  have e : ldn H b (o + k.toNat * Rep.sz α) (Rep.sz α) = some ((ks.drop (o + k.toNat * Rep.sz α)).take (Rep.sz α)) := by simp only [ldn, h2, if_pos h3]
  constructor
  · change (ldn H b (o + k.toNat * Rep.sz α) (Rep.sz α)).map AV.ag = some (.ag ((ldn H b (o + k.toNat * Rep.sz α) (Rep.sz α)).getD []))
    rw [e]; rfl
  · change Rep.rep p H ((ldn H b (o + k.toNat * Rep.sz α) (Rep.sz α)).getD []) _
    rw [e]; exact h4
theorem Sl.ld_two {xs : List (Int × Int)} {k : Int} (h : Sl p H v xs) (h0 : 0 ≤ k) (h1 : k < xs.length) : ldA H (some 2) (v.at 2 k) = some (.ag [.i (gi xs k).1, .i (gi xs k).2]) := by
  obtain ⟨e1, c1, c2, e2, r1, r2⟩ := h.ld_n h0 h1
  change ldA H (some 2) (v.at 2 k) = _ at e1
  rw [e1, e2]
  change c1 = _ at r1; change c2 = _ at r2
  rw [r1, r2]; rfl
end

/-! ### What functions return -/
/-- a result: a number, a slice, a struct, or several -/
class RV (α : Type) where
  rv : (Nat → Prop) → Heap → AV → α → Prop
  mono : ∀ {p q H H' v x}, rv p H v x → Kp p H H' → (∀ b, p b → q b) → rv q H' v x
  pure : ∀ {p q H H' v x}, rv p H v x → v.pure = true → rv q H' v x
instance : RV Int := ⟨fun _ _ v x => v = .i x, fun h _ _ => h, fun h _ => h⟩
instance : RV Bool := ⟨fun _ _ v x => v = .b x, fun h _ _ => h, fun h _ => h⟩
instance {α : Type} [Rep α] : RV (List α) := ⟨fun p H v x => Sl p H v x, fun h a b => Sl.mono h a b, fun h a => Sl.pure h a⟩
instance {α β : Type} [Rep α] [Rep β] : RV (α × β) :=
  ⟨fun p H v x => ∃ cs, v = .ag cs ∧ Rep.rep p H cs x, by rintro p q H H' v x ⟨cs, rfl, h⟩ a b; exact ⟨cs, rfl, Rep.mono h a b⟩,
   by rintro p q H H' v x ⟨cs, rfl, h⟩ a; exact ⟨cs, rfl, Rep.pure h (by simpa [AV.pure] using a)⟩⟩
/-- two results -/
structure T2 (α β : Type) where
  a : α
  b : β
structure T3 (α β γ : Type) where
  a : α
  b : β
  c : γ
instance {α β : Type} [RV α] [RV β] : RV (T2 α β) :=
  ⟨fun p H v x => ∃ v1 v2, v = .tp [v1, v2] ∧ RV.rv p H v1 x.a ∧ RV.rv p H v2 x.b,
   by rintro p q H H' v x ⟨v1, v2, rfl, h1, h2⟩ a b; exact ⟨v1, v2, rfl, RV.mono h1 a b, RV.mono h2 a b⟩,
   by
    rintro p q H H' v x ⟨v1, v2, rfl, h1, h2⟩ a
    simp only [AV.pure, AV.pureAll, Bool.and_true, Bool.and_eq_true] at a
    exact ⟨v1, v2, rfl, RV.pure h1 a.1, RV.pure h2 a.2⟩⟩
instance {α β γ : Type} [RV α] [RV β] [RV γ] : RV (T3 α β γ) :=
  ⟨fun p H v x => ∃ v1 v2 v3, v = .tp [v1, v2, v3] ∧ RV.rv p H v1 x.a ∧ RV.rv p H v2 x.b ∧ RV.rv p H v3 x.c,
   by rintro p q H H' v x ⟨v1, v2, v3, rfl, h1, h2, h3⟩ a b; exact ⟨v1, v2, v3, rfl, RV.mono h1 a b, RV.mono h2 a b, RV.mono h3 a b⟩,
   by
    rintro p q H H' v x ⟨v1, v2, v3, rfl, h1, h2, h3⟩ a
    simp only [AV.pure, AV.pureAll, Bool.and_true, Bool.and_eq_true] at a
    exact ⟨v1, v2, v3, rfl, RV.pure h1 a.1, RV.pure h2 a.2.1, RV.pure h3 a.2.2⟩⟩

/-- **a call returns what stands for x**, in memory of which p holds, or new; the heap is only added to -/
def Ret {α : Type} [RV α] (E : Tab) (f : Nat) (vs : List AV) (p : Nat → Prop) (H : Heap) (x : α) : Prop :=
  ∀ lo, WpF E lo f vs H fun v H' => ∃ N, H' = H ++ N ∧ RV.rv (fun b => p b ∨ H.length ≤ b) H' v x
/-- a call returns this very value; the heap stays -/
def RetP (E : Tab) (f : Nat) (vs : List AV) (H : Heap) (v : AV) : Prop :=
  ∀ lo, WpF E lo f vs H fun v' H' => v' = v ∧ H' = H
theorem WpF.det {E : Tab} {lo f : Nat} {vs : List AV} {H : Heap} {Q Q' : AV → Heap → Prop} (h : WpF E lo f vs H Q) (h' : WpF E lo f vs H Q') : WpF E lo f vs H fun v H => Q v H ∧ Q' v H := by
  obtain ⟨n, v, H1, e, q⟩ := h
  obtain ⟨m, v', H1', e', q'⟩ := h'
  have a := callF_mono (R_le E (Nat.le_max_left n m)) e
  have b := callF_mono (R_le E (Nat.le_max_right n m)) e'
  rw [a] at b
  cases b
  exact ⟨_, _, _, a, q, q'⟩
theorem RetP.iff {E : Tab} {f : Nat} {vs : List AV} {H : Heap} {v : AV} (h : RetP E f vs H v) {lo : Nat} {Q : AV → Heap → Prop} : WpF E lo f vs H Q = Q v H := by
  apply propext
  constructor
  · intro h'
    obtain ⟨n, v', H1, _, q, rfl, rfl⟩ := WpF.det h' (h lo)
    exact q
  · intro hq
    exact (h lo).mono fun v' H' ⟨e1, e2⟩ => by rw [e1, e2]; exact hq
theorem RetP.call {E : Tab} {f : Nat} {vs : List AV} {H : Heap} {v : AV} (h : RetP E f vs H v) {lo : Nat} {Q : AV → Heap → Prop} : @callP E lo f vs H ⟨Q⟩ = Q v H := h.iff
theorem Ret.use {α : Type} [RV α] {E : Tab} {f : Nat} {vs : List AV} {p : Nat → Prop} {H : Heap} {x : α} (h : Ret E f vs p H x) {lo : Nat} {Q : AV → Heap → Prop}
    (hq : ∀ v N, RV.rv (fun b => p b ∨ H.length ≤ b) (H ++ N) v x → Q v (H ++ N)) : WpF E lo f vs H Q :=
  (h lo).mono fun v H' ⟨N, e, hr⟩ => by subst e; exact hq v N hr
theorem RetP.ret {α : Type} [RV α] {E : Tab} {f : Nat} {vs : List AV} {p : Nat → Prop} {H : Heap} {x : α} {v : AV} (h : RetP E f vs H v) (hv : ∀ p H, RV.rv p H v x) : Ret E f vs p H x :=
  fun lo => (h lo).mono fun v' H' ⟨e1, e2⟩ => by subst e1 e2; exact ⟨[], by simp, hv _ _⟩

/-- how a function's body ends -/
def RetQ (res : List RVar) (P : AV → Heap → Prop) (o : Out) (a : Fr) (H : Heap) : Prop := match o with
  | .exit _ => False
  | _ => @optP _ (resA res a H) ⟨fun v => P v H⟩
theorem zx104 {res : List RVar} {P : AV → Heap → Prop} {a : Fr} {H : Heap} : RetQ res P .ret a H = @optP _ (resA res a H) ⟨fun v => P v H⟩ := (rfl)
theorem zx105 {res : List RVar} {P : AV → Heap → Prop} {a : Fr} {H : Heap} : RetQ res P .done a H = @optP _ (resA res a H) ⟨fun v => P v H⟩ := (rfl)
theorem res_1 {t : Nat} {a : Fr} {H : Heap} : resA [.t t] a H = some (a t) := (rfl)
theorem res_2 {t u : Nat} {a : Fr} {H : Heap} : resA [.t t, .t u] a H = some (.tp [a t, a u]) := (rfl)
theorem res_3 {t u s : Nat} {a : Fr} {H : Heap} : resA [.t t, .t u, .t s] a H = some (.tp [a t, a u, a s]) := (rfl)
theorem res_0 {a : Fr} {H : Heap} : resA [] a H = some (.tp []) := (rfl)

section
variable {E : Tab} {f : Nat} {af : AFunc} {vs : List AV} {H : Heap}
theorem RetP.ro (hk : E.kd f = .ro) (hf : E.fn f = some af) (hn : vs.length = af.nargs) {v : AV} (hv : v.pure = true)
    (h : Wp E H.length none [.code af.body] (initFr vs) H (RetQ af.res fun v' _ => v' = v)) : RetP E f vs H v := fun lo => by
  refine WpF.of_ro hk hf hn (h.mono fun o a' H' hq => ?_)
  cases o with
  | exit id => exact hq.elim
  | done => obtain ⟨u, e, rfl⟩ := hq; exact ⟨.inl rfl, u, e, rfl, by simp [hv]⟩
  | ret => obtain ⟨u, e, rfl⟩ := hq; exact ⟨.inr rfl, u, e, rfl, by simp [hv]⟩
theorem Ret.ro {α : Type} [RV α] (hk : E.kd f = .ro) (hf : E.fn f = some af) (hn : vs.length = af.nargs) {p : Nat → Prop} {x : α}
    (h : Wp E H.length none [.code af.body] (initFr vs) H (RetQ af.res fun v H' => RV.rv (fun b => p b ∨ H.length ≤ b) H' v x)) : Ret E f vs p H x := fun lo => by
  refine WpF.of_ro hk hf hn (h.low.mono fun o a' H' hq => ?_)
  obtain ⟨hlow, hq⟩ := hq
  have key : ∀ {u : AV}, RV.rv (fun b => p b ∨ H.length ≤ b) H' u x →
      ∃ N, (if u.pure = true then H else H ++ (H'.drop H.length).map Blk.shut) = H ++ N ∧ RV.rv (fun b => p b ∨ H.length ≤ b) (if u.pure = true then H else H ++ (H'.drop H.length).map Blk.shut) u x := by
    intro u q3
    by_cases hp : u.pure = true
    · rw [if_pos hp]; exact ⟨[], by simp, RV.pure q3 hp⟩
    · rw [if_neg hp]
      refine ⟨_, rfl, RV.mono q3 ⟨by have := hlow.1; simp; omega, fun b k _ hb => ?_⟩ fun _ h => h⟩
      by_cases hl : b < H.length
      · rw [List.getElem?_append_left hl, ← hlow.2 b hl hl]; exact hb
      · have hl' : H.length ≤ b := by omega
        rw [List.getElem?_append_right hl', List.getElem?_map, List.getElem?_drop, Nat.add_sub_cancel' hl', hb]
        rfl
  cases o with
  | exit id => exact hq.elim
  | done => obtain ⟨u, e, q⟩ := hq; exact ⟨.inl rfl, u, e, key q⟩
  | ret => obtain ⟨u, e, q⟩ := hq; exact ⟨.inr rfl, u, e, key q⟩
end
end Go.AM
