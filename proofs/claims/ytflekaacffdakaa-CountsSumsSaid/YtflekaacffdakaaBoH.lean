/- Slices of whole numbers that are written in place; sums. No condition. -/
import Derived.Test.YtflekaacffdakaaBoG
set_option linter.unusedSimpArgs false
set_option linter.unusedVariables false
namespace Go.AM
open Go
/-- a slice of the call's own, from L on, written in place -/
def MI (L : Nat) (H : Heap) (v : AV) (ys : List Int) : Prop :=
  ∃ b c, v = .s 1 b 0 ys.length c ∧ L ≤ b ∧ H[b]? = some (.cells (ys.map AV.i)) ∧ ys.length ≤ 9223372036854775807
section
variable {L lo : Nat} {p : Nat → Prop} {H H' : Heap} {v : AV} {ys : List Int} {k x : Int}
theorem MI.acc (h : MI L H v ys) : Acc L p H v ys := by
  obtain ⟨b, c, rfl, hb, hk, hl⟩ := h
  refine .inr ⟨b, 0, c, _, rfl, hb, hk, ?_, hl, fun i hi => ?_⟩
  · change 0 + ys.length * 1 ≤ _; simp
  · change ((ys.map AV.i).drop (0 + i * 1)).take 1 = [.i ys[i]]
    rw [Nat.zero_add, Nat.mul_one, List.take_one, List.head?_drop]
    simp [hi]
theorem MI.sl (h : MI L H v ys) : Sl (fun b => L ≤ b) H v ys := (h.acc (p := fun _ => False)).sl.weak fun b h => h.elim (fun h => h.elim) id
theorem MI.bound (h : MI L H v ys) : ys.length ≤ 9223372036854775807 := by obtain ⟨b, c, _, _, _, h⟩ := h; exact h
theorem MI.mono (h : MI L H v ys) (hk : Kp (fun b => L ≤ b) H H') : MI L H' v ys := by
  obtain ⟨b, c, rfl, hb, hk', hl⟩ := h
  exact ⟨b, c, rfl, hb, hk.2 b _ hb hk', hl⟩
theorem MI.gr (h : MI L H v ys) (hg : Gr H H') : MI L H' v ys := h.mono hg.all.weakT
theorem MI.app (h : MI L H v ys) (N : Heap) : MI L (H ++ N) v ys := h.mono (Kp.app _ _ _)
theorem MI.blk_lt (h : MI L H v ys) {b : Nat} (e : v.blk = some b) : L ≤ b ∧ b < H.length := (h.acc (p := fun _ => True)).blk_lt e
theorem MI.kp (h : MI L H v ys) (hk : Kp p H H') (hp : ∀ b, v.blk = some b → p b) : MI L H' v ys := by
  obtain ⟨b, c, rfl, hb, hk', hl⟩ := h
  exact ⟨b, c, rfl, hb, hk.2 b _ (hp b rfl) hk', hl⟩
theorem Acc.up {α : Type} [Rep α] {xs : List α} (h : Acc L (fun _ => False) H v xs) (hk : Kp (fun b => L ≤ b) H H') : Acc L (fun _ => False) H' v xs :=
  h.mono (hk.weak fun b (hb : L ≤ b ∨ False) => hb.elim id fun h => h.elim) fun _ h => h
theorem Acc.kp {α : Type} [Rep α] {q : Nat → Prop} {xs : List α} (h : Acc L q H v xs) (hk : Kp p H H') (hp : ∀ b, v.blk = some b → p b) (hq : ∀ b, q b → p b) : Acc L q H' v xs := by
  rcases h with h | ⟨b, o, c, k, rfl, hb, hk1, h1, h2, h3⟩
  · exact .inl h
  · exact .inr ⟨b, o, c, k, rfl, hb, hk.2 b k (hp b rfl) hk1, h1, h2, fun i hi => Rep.mono (h3 i hi) (hk.weak fun b h => hq b h.1) fun b h => h⟩
theorem MI.store {Q : Heap → Prop} (h : MI L H v ys) (hlo : lo ≤ L) (h0 : 0 ≤ k) (h1 : k < ys.length)
    (go : ∀ H', MI L H' v (ys.set k.toNat x) → Kp (fun b => v.blk ≠ some b) H H' → H'.length = H.length → Q H') : @optP _ (stA lo H 1 (v.at 1 k) (.i x)) ⟨Q⟩ := by
  obtain ⟨b, c, rfl, hb, hk, hl⟩ := h
  have hkl : k.toNat < ys.length := by omega
  refine ⟨H.set b (.cells ((ys.set k.toNat x).map AV.i)), ?_, go _ ⟨b, c, by simp, hb, get_set hk, by simpa using hl⟩ ((Kp.set b H _).weak fun b' h e => h (by simp [AV.blk, e])) (by simp)⟩
  simp only [stA, AV.at, zx130, List.length_singleton, List.all_cons, List.all_nil, zx140, Bool.and_self, and_self, if_true]
  rw [st_of hk (by omega) (by simp; omega)]
  congr 2
  simp [wr, List.map_set]
theorem reps_z (n : Nat) (z : AV) : reps n [z] = List.replicate n z := by
  induction n with
  | zero => rfl
  | succ n ih => simp [reps, ih, List.replicate_succ]
theorem MI.mk {n : Nat} (hL : L ≤ H.length) (hn : n ≤ 9223372036854775807) : MI L (H ++ [.cells (reps n [.int .i64 0])]) (.s 1 H.length 0 n (some n)) (List.replicate n 0) :=
  ⟨H.length, some n, by simp, hL, by simp [reps_z], by simpa using hn⟩
end
theorem zx176 {z : AV} {n : Int} (h0 : 0 ≤ n) (h1 : n ≤ 137438953472) : mksliceV 1 8 [z] (.int .i64 n) = some n.toNat := by
  have : mostBytes = 1099511627776 := by decide
  simp only [mksliceV, this]
  rw [if_pos ⟨h0, by omega, by omega, rfl⟩]
theorem zx177 {z : AV} {n : Int} (h0 : 0 ≤ n) (h1 : n ≤ 45812984490) : mksliceV 1 24 [z] (.int .i64 n) = some n.toNat := by
  have : mostBytes = 1099511627776 := by decide
  simp only [mksliceV, this]
  rw [if_pos ⟨h0, by omega, by omega, rfl⟩]
/-! ### Sums -/
theorem sum_take {xs : List Int} {i : Nat} (h : i < xs.length) : (xs.take (i + 1)).sum = (xs.take i).sum + gi xs i := by
  rw [take_gi h]; simp [List.sum_append]
theorem sum_take_all {xs : List Int} {i : Nat} (h : xs.length ≤ i) : (xs.take i).sum = xs.sum := by rw [List.take_of_length_le h]
theorem sum_bound {xs : List Int} {m : Int} (h : ∀ x ∈ xs, 0 ≤ x ∧ x ≤ m) : 0 ≤ xs.sum ∧ xs.sum ≤ xs.length * m := by
  induction xs with
  | nil => simp
  | cons x xs ih =>
    have h1 := h x (by simp)
    have h2 := ih fun y hy => h y (by simp [hy])
    simp only [List.sum_cons, List.length_cons, Int.natCast_add, Int.natCast_one, Int.add_mul]
    omega
theorem mem_take_gi {α : Type} [Inhabited α] {xs : List α} {i : Nat} {P : α → Prop} (h : ∀ x ∈ xs.take i, P x) (hi : i < xs.length) (hp : P (gi xs i)) : ∀ x ∈ xs.take (i + 1), P x := by
  rw [take_gi hi]
  intro x hx
  rcases List.mem_append.1 hx with hx | hx
  · exact h x hx
  · simp at hx; rw [hx]; exact hp
theorem mem_take_all {α : Type} {xs : List α} {i : Nat} {P : α → Prop} (h : ∀ x ∈ xs.take i, P x) (hi : xs.length ≤ i) : ∀ x ∈ xs, P x := by rwa [List.take_of_length_le hi] at h
theorem mem_gi {α : Type} [Inhabited α] {xs : List α} {i : Nat} (hi : i < xs.length) : gi xs i ∈ xs := gi_mem (by omega) (by omega)
end Go.AM
