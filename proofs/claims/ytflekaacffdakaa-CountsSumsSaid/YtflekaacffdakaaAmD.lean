/- What the abstract machine's values and heap mean in the machine's memory. No condition. -/
import Derived.Test.YtflekaacffdakaaAmC
import Derived.Below
import Derived.AtR
import Derived.RangeFuncRecord
import Derived.RangeFuncNested
import Derived.Deep.AppendSrc
import Derived.Laws.IdiomCopy
namespace Go.AM
open Go Go.RowKit

/-- Where a block lies: its first cell, and how many cells it has room for (none: it is not the call's own). -/
structure PB where
  a : Addr
  room : Option Nat
abbrev Mp := Nat → Option PB
def Mp.le (ρ ρ' : Mp) : Prop := ∀ b r, ρ b = some r → ρ' b = some r
theorem Mp.le_refl (ρ : Mp) : Mp.le ρ ρ := fun _ _ h => h
theorem Mp.le_trans {ρ ρ' ρ'' : Mp} (h : Mp.le ρ ρ') (k : Mp.le ρ' ρ'') : Mp.le ρ ρ'' := fun b r e => k b r (h b r e)
def Mp.add (ρ : Mp) (b : Nat) (r : PB) : Mp := fun i => if i = b then some r else ρ i
theorem Mp.add_same (ρ : Mp) (b : Nat) (r : PB) : ρ.add b r b = some r := by simp [Mp.add]
theorem Mp.add_ne (ρ : Mp) {b i : Nat} (r : PB) (h : i ≠ b) : ρ.add b r i = ρ i := by simp [Mp.add, h]
theorem Mp.le_add (ρ : Mp) {b : Nat} (r : PB) (h : ρ b = none) : Mp.le ρ (ρ.add b r) := fun i q e => by
  by_cases hi : i = b
  · subst hi; rw [h] at e; cases e
  · rw [Mp.add_ne ρ r hi]; exact e

mutual
/-- The machine's value is the abstract one's, blocks placed by ρ. -/
def VRel (ρ : Mp) : AV → Value → Prop
  | .un, _ => True
  | .int k n, v => v = .int k n
  | .b x, v => v = .bool x
  | .nilp, v => v = .pointer none
  | .nilf, v => v = .nilFunc
  | .p b o, v => ∃ r, ρ b = some r ∧ v = .pointer (some (r.a.add o))
  | .nils, v => v = .slice none 0 0
  | .s es b o n c, v => ∃ r o' c', ρ b = some r ∧ v = .slice (some (r.a.add o')) n c' ∧ n ≤ c' ∧ (∀ k, c = some k → c' = k) ∧ (n ≠ 0 → o' = o) ∧ (∀ m, r.room = some m → o' + c' * es ≤ m)
  | .fn f us caps, v => ∃ ds cs, v = .func (.func f) ds cs ∧ VRelL ρ us ds.toList ∧ VRelL ρ caps cs.toList
  | .yl l, v => ∃ r, ρ l = some r ∧ v = .func (.yield r.a.block) #[] #[]
  | .ag vs, v => ∃ cs, v = .agg cs ∧ VRelL ρ vs cs.toList
  | .tp vs, v => ∃ cs, v = .tuple cs ∧ VRelL ρ vs cs.toList
def VRelL (ρ : Mp) : List AV → List Value → Prop
  | [], l => l = []
  | v :: vs, l => ∃ x xs, l = x :: xs ∧ VRel ρ v x ∧ VRelL ρ vs xs
end

mutual
theorem VRel.mono {ρ ρ' : Mp} (h : Mp.le ρ ρ') : ∀ (v : AV) (x : Value), VRel ρ v x → VRel ρ' v x
  | .un, _, _ => by simp [VRel]
  | .int _ _, _, hv => by simpa [VRel] using hv
  | .b _, _, hv => by simpa [VRel] using hv
  | .nilp, _, hv => by simpa [VRel] using hv
  | .nilf, _, hv => by simpa [VRel] using hv
  | .p b o, _, hv => by simp only [VRel] at hv ⊢; obtain ⟨r, e, q⟩ := hv; exact ⟨r, h _ _ e, q⟩
  | .nils, _, hv => by simpa [VRel] using hv
  | .s es b o n c, _, hv => by simp only [VRel] at hv ⊢; obtain ⟨r, o', c', e, q⟩ := hv; exact ⟨r, o', c', h _ _ e, q⟩
  | .fn f us caps, _, hv => by simp only [VRel] at hv ⊢; obtain ⟨ds, cs, e, p, q⟩ := hv; exact ⟨ds, cs, e, VRelL.mono h us _ p, VRelL.mono h caps _ q⟩
  | .yl l, _, hv => by simp only [VRel] at hv ⊢; obtain ⟨r, e, q⟩ := hv; exact ⟨r, h _ _ e, q⟩
  | .ag vs, _, hv => by simp only [VRel] at hv ⊢; obtain ⟨cs, e, q⟩ := hv; exact ⟨cs, e, VRelL.mono h vs _ q⟩
  | .tp vs, _, hv => by simp only [VRel] at hv ⊢; obtain ⟨cs, e, q⟩ := hv; exact ⟨cs, e, VRelL.mono h vs _ q⟩
theorem VRelL.mono {ρ ρ' : Mp} (h : Mp.le ρ ρ') : ∀ (vs : List AV) (xs : List Value), VRelL ρ vs xs → VRelL ρ' vs xs
  | [], _, hv => by simpa [VRelL] using hv
  | v :: vs, _, hv => by
    simp only [VRelL] at hv ⊢
    obtain ⟨x, xs, e, hx, hxs⟩ := hv
    exact ⟨x, xs, e, VRel.mono h v x hx, VRelL.mono h vs xs hxs⟩
end

mutual
theorem VRel.pure {ρ ρ' : Mp} : ∀ (v : AV) (x : Value), v.pure = true → VRel ρ v x → VRel ρ' v x
  | .un, _, _, _ => by simp [VRel]
  | .int _ _, _, _, hv => by simpa [VRel] using hv
  | .b _, _, _, hv => by simpa [VRel] using hv
  | .nilp, _, _, hv => by simpa [VRel] using hv
  | .nilf, _, _, hv => by simpa [VRel] using hv
  | .p b o, _, hp, _ => by simp [AV.pure] at hp
  | .nils, _, _, hv => by simpa [VRel] using hv
  | .s _ _ _ _ _, _, hp, _ => by simp [AV.pure] at hp
  | .fn f us caps, _, hp, hv => by simp only [VRel, AV.pure, Bool.and_eq_true] at hv hp ⊢; obtain ⟨ds, cs, e, p, q⟩ := hv; exact ⟨ds, cs, e, VRelL.pure us _ hp.1 p, VRelL.pure caps _ hp.2 q⟩
  | .yl l, _, hp, _ => by simp [AV.pure] at hp
  | .ag vs, _, hp, hv => by simp only [VRel, AV.pure] at hv hp ⊢; obtain ⟨cs, e, q⟩ := hv; exact ⟨cs, e, VRelL.pure vs _ hp q⟩
  | .tp vs, _, hp, hv => by simp only [VRel, AV.pure] at hv hp ⊢; obtain ⟨cs, e, q⟩ := hv; exact ⟨cs, e, VRelL.pure vs _ hp q⟩
theorem VRelL.pure {ρ ρ' : Mp} : ∀ (vs : List AV) (xs : List Value), AV.pureAll vs = true → VRelL ρ vs xs → VRelL ρ' vs xs
  | [], _, _, hv => by simpa [VRelL] using hv
  | v :: vs, _, hp, hv => by
    simp only [VRelL] at hv ⊢
    simp only [AV.pureAll, Bool.and_eq_true] at hp
    obtain ⟨x, xs, e, hx, hxs⟩ := hv
    exact ⟨x, xs, e, VRel.pure v x hp.1 hx, VRelL.pure vs xs hp.2 hxs⟩
end

theorem VRelL.length {ρ : Mp} : ∀ {vs : List AV} {xs : List Value}, VRelL ρ vs xs → xs.length = vs.length
  | [], _, h => by simp only [VRelL] at h; subst h; rfl
  | v :: vs, _, h => by
    simp only [VRelL] at h
    obtain ⟨x, xs, rfl, _, q⟩ := h
    simp [VRelL.length q]
theorem VRelL.get {ρ : Mp} : ∀ {vs : List AV} {xs : List Value} {i : Nat} {v : AV}, VRelL ρ vs xs → vs[i]? = some v → ∃ x, xs[i]? = some x ∧ VRel ρ v x
  | [], _, _, _, _, e => by simp at e
  | u :: us, _, i, v, h, e => by
    simp only [VRelL] at h
    obtain ⟨x, xs, rfl, hx, q⟩ := h
    cases i with
    | zero => simp at e; subst e; exact ⟨x, by simp, hx⟩
    | succ i => simp at e; obtain ⟨y, hy, hr⟩ := VRelL.get q e; exact ⟨y, by simpa using hy, hr⟩
theorem VRelL.of_get {ρ : Mp} : ∀ {vs : List AV} {xs : List Value}, xs.length = vs.length → (∀ (i : Nat) (v : AV), vs[i]? = some v → ∃ x, xs[i]? = some x ∧ VRel ρ v x) → VRelL ρ vs xs
  | [], [], _, _ => by simp [VRelL]
  | [], _ :: _, h, _ => by simp at h
  | _ :: _, [], h, _ => by simp at h
  | v :: vs, x :: xs, h, hg => by
    simp only [VRelL]
    refine ⟨x, xs, rfl, ?_, VRelL.of_get (by simpa using h) (fun i u hu => by simpa using hg (i + 1) u (by simpa using hu))⟩
    obtain ⟨y, hy, hr⟩ := hg 0 v (by simp)
    simp at hy; subst hy; exact hr
theorem VRelL.append {ρ : Mp} : ∀ {vs us : List AV} {xs ys : List Value}, VRelL ρ vs xs → VRelL ρ us ys → VRelL ρ (vs ++ us) (xs ++ ys)
  | [], _, _, _, h, k => by simp only [VRelL] at h; subst h; simpa using k
  | v :: vs, _, _, _, h, k => by
    simp only [VRelL] at h
    obtain ⟨x, xs, rfl, hx, q⟩ := h
    simp only [List.cons_append, VRelL]
    exact ⟨x, _, rfl, hx, VRelL.append q k⟩
theorem VRelL.take {ρ : Mp} {vs : List AV} {xs : List Value} (h : VRelL ρ vs xs) (n : Nat) : VRelL ρ (vs.take n) (xs.take n) :=
  VRelL.of_get (by simp [h.length]) fun i v hv => by
    rw [List.getElem?_take] at hv
    split at hv
    · rename_i hlt
      obtain ⟨x, hx, hr⟩ := h.get hv
      exact ⟨x, by rw [List.getElem?_take, if_pos hlt]; exact hx, hr⟩
    · cases hv
theorem VRelL.drop {ρ : Mp} {vs : List AV} {xs : List Value} (h : VRelL ρ vs xs) (n : Nat) : VRelL ρ (vs.drop n) (xs.drop n) :=
  VRelL.of_get (by simp [h.length]) fun i v hv => by
    rw [List.getElem?_drop] at hv
    obtain ⟨x, hx, hr⟩ := h.get hv
    exact ⟨x, by rw [List.getElem?_drop]; exact hx, hr⟩
theorem VRelL.set {ρ : Mp} {vs : List AV} {xs : List Value} (h : VRelL ρ vs xs) (i : Nat) {v : AV} {x : Value} (hv : VRel ρ v x) : VRelL ρ (vs.set i v) (xs.set i x) :=
  VRelL.of_get (by simp [h.length]) fun j u hu => by
    rw [List.getElem?_set] at hu
    have hl := h.length
    split at hu
    · subst i
      split at hu
      · cases hu; exact ⟨x, by rw [List.getElem?_set, if_pos rfl, if_pos (by omega)], hv⟩
      · cases hu
    · rename_i hne
      obtain ⟨y, hy, hr⟩ := h.get hu
      exact ⟨y, by rw [List.getElem?_set, if_neg hne]; exact hy, hr⟩

/-- the value of one cell -/
theorem VRel.one {ρ : Mp} {v : AV} {x : Value} (h : VRel ρ v x) (h1 : v.one = true) : x.oneCell' = true := by
  cases v <;> simp [AV.one] at h1 <;> simp only [VRel] at h
  all_goals first
    | (subst h; rfl)
    | (obtain ⟨_, _, rfl⟩ := h; rfl)
    | (obtain ⟨_, rfl, _⟩ := h; rfl)
    | (obtain ⟨_, _, rfl, _⟩ := h; rfl)
    | (obtain ⟨_, _, _, _, rfl, _⟩ := h; rfl)
theorem VRelL.one {ρ : Mp} {vs : List AV} {xs : List Value} (h : VRelL ρ vs xs) (h1 : vs.all AV.one = true) : ∀ x ∈ xs, x.oneCell' = true := by
  intro x hx
  obtain ⟨i, hi, rfl⟩ := List.mem_iff_getElem.1 hx
  have hl := h.length
  obtain ⟨y, hy, hr⟩ := h.get (i := i) (v := vs[i]'(by omega)) (by simp)
  rw [List.getElem?_eq_getElem hi] at hy
  cases hy
  exact hr.one (List.all_eq_true.1 h1 _ (List.getElem_mem _))
/-- the cells of a value -/
theorem VRel.cells {ρ : Mp} {v : AV} {x : Value} (h : VRel ρ v x) (h1 : v.cells.all AV.one = true) : VRelL ρ v.cells x.cells.toList := by
  cases v <;> simp only [AV.cells] at h1 ⊢ <;> simp only [VRel] at h
  case ag vs => obtain ⟨cs, rfl, q⟩ := h; simpa [Value.cells] using q
  case fn f us caps => obtain ⟨ds, cs, rfl, q⟩ := h; simp only [VRelL, Value.cells]; exact ⟨_, _, rfl, by simp only [VRel]; exact ⟨ds, cs, rfl, q⟩, rfl⟩
  case un => simp [AV.one] at h1
  case tp => simp [AV.one] at h1
  all_goals first
    | (subst h; simp [VRelL, Value.cells, VRel])
    | (obtain ⟨r, e, rfl⟩ := h; simp [VRelL, Value.cells, VRel]; exact ⟨r, e, rfl⟩)
    | (obtain ⟨r, e, rfl⟩ := h; simp [VRelL, Value.cells, VRel]; first | exact ⟨r, e⟩ | exact e)
    | (obtain ⟨r, o', c', e, rfl, q⟩ := h; simp only [VRelL, Value.cells]; exact ⟨_, _, rfl, by simp only [VRel]; exact ⟨r, o', c', e, rfl, q⟩, rfl⟩)

/-! ### Frames -/
structure FrRel (ρ : Mp) (nt : Nat) (a : Fr) (tmps : Array Value) : Prop where
  size : tmps.size = nt
  val : ∀ t, t < nt → VRel ρ (a t) (tmps.getD t undef)
theorem FrRel.mono {ρ ρ' : Mp} (h : Mp.le ρ ρ') {nt : Nat} {a : Fr} {tmps : Array Value} (f : FrRel ρ nt a tmps) : FrRel ρ' nt a tmps :=
  ⟨f.size, fun t ht => (f.val t ht).mono h _ _⟩
theorem FrRel.put {ρ : Mp} {nt : Nat} {a : Fr} {tmps : Array Value} (f : FrRel ρ nt a tmps) {d : Nat} (hd : d < nt) {v : AV} {x : Value} (hv : VRel ρ v x) : FrRel ρ nt (a.upd d v) (tmps.setIfInBounds d x) := by
  refine ⟨by simp [f.size], fun t ht => ?_⟩
  by_cases e : t = d
  · subst e
    simp only [Fr.upd, if_true]
    have : (tmps.setIfInBounds t x).getD t undef = x := by simp [Array.getD, f.size, ht]
    rw [this]; exact hv
  · simp only [Fr.upd, if_neg e]
    have : (tmps.setIfInBounds d x).getD t undef = tmps.getD t undef := by
      simp only [Array.getD_eq_getD_getElem?, Array.getElem?_setIfInBounds_ne (Ne.symm e)]
    rw [this]; exact f.val t ht

theorem toAVs_rel {f : Value → Option AV} {ρ : Mp} (hf : ∀ v x, f v = some x → VRel ρ x v) : ∀ {l : List Value} {r : List AV}, toAVs f l = some r → VRelL ρ r l
  | [], _, h => by simp [toAVs] at h; subst h; simp [VRelL]
  | v :: vs, _, h => by
    simp only [toAVs, Option.bind_eq_some_iff, Option.map_eq_some_iff] at h
    obtain ⟨x, hx, xs, hxs, rfl⟩ := h
    simp only [VRelL]
    exact ⟨v, vs, rfl, hf _ _ hx, toAVs_rel hf hxs⟩
theorem toAV1_rel {ρ : Mp} {v : Value} {x : AV} (h : toAV1 v = some x) : VRel ρ x v ∧ x.one = true := by
  unfold toAV1 at h
  split at h <;> cases h <;> simp [VRel, AV.one]
theorem toAV_rel {ρ : Mp} {v : Value} {x : AV} (h : toAV v = some x) : VRel ρ x v := by
  unfold toAV at h
  split at h
  · simp only [Option.map_eq_some_iff] at h
    obtain ⟨r, hr, rfl⟩ := h
    simp only [VRel]
    exact ⟨_, rfl, toAVs_rel (fun v x e => (toAV1_rel e).1) hr⟩
  · exact (toAV1_rel h).1
theorem toAVs_one : ∀ {l : List Value} {r : List AV}, toAVs toAV1 l = some r → r.all AV.one = true
  | [], _, h => by simp [toAVs] at h; subst h; rfl
  | v :: vs, _, h => by
    simp only [toAVs, Option.bind_eq_some_iff, Option.map_eq_some_iff] at h
    obtain ⟨x, hx, xs, hxs, rfl⟩ := h
    simp [(toAV1_rel (ρ := fun _ => none) hx).2, toAVs_one hxs]

theorem evalX {ρ : Mp} {nt : Nat} {a : Fr} {am : Act} {x : Operand} {ax : AX} (h : prepX nt x = some ax) (f : FrRel ρ nt a am.tmps) : VRel ρ (ev a ax) (am.eval x) := by
  cases x with
  | tmp t =>
    simp only [prepX] at h
    split at h
    · cases h; exact f.val _ (by assumption)
    · cases h
  | const v =>
    simp only [prepX, Option.map_eq_some_iff] at h
    obtain ⟨y, hy, rfl⟩ := h
    exact toAV_rel hy
  | global g => simp [prepX] at h
  | func g => simp only [prepX] at h; cases h; simp only [ev, Act.eval, VRel]; exact ⟨#[], #[], rfl, by simp [VRelL]⟩
theorem evalXs {ρ : Mp} {nt : Nat} {a : Fr} {am : Act} (f : FrRel ρ nt a am.tmps) : ∀ {xs : List Operand} {l : List AX}, prepXs nt xs = some l → VRelL ρ (l.map (ev a)) (xs.map am.eval)
  | [], _, h => by simp [prepXs] at h; subst h; simp [VRelL]
  | x :: xs, _, h => by
    simp only [prepXs, Option.bind_eq_some_iff, Option.map_eq_some_iff] at h
    obtain ⟨y, hy, ys, hys, rfl⟩ := h
    simp only [List.map_cons, VRelL]
    exact ⟨_, _, rfl, evalX hy f, evalXs f hys⟩

end Go.AM
