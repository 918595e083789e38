/- The heap at calls that write to nothing older, and behind them. No condition. -/
import Derived.Test.YtflekaacffdakaaAmL
namespace Go.AM
open Go Go.RowKit

/-- what holds of a world holds of each later one that has kept its memory -/
def Stable (I : World → Prop) : Prop := ∀ w w', I w → Below w.heap.size w w' → I w'

section
variable {C : Cfg} {I : World → Prop} {ρ ρ' : Mp} {L0 n : Nat} {w0 w w' : World} {H H' : Heap}

theorem HRel.later (h : HRel C I ρ L0 w0 H w) (hb : Below w.heap.size w w') : HRel C I ρ L0 w0 H w' := by
  refine ⟨h.below.trans (hb.mono h.below.size), h.inv, h.lt, h.dom, fun b r e hL => ?_, h.apart, fun b r k e hk => ?_⟩
  · have := h.own b r e hL
    have := hb.size
    exact ⟨by omega, by omega, by simp_all⟩
  · have hB := h.blk b r k e hk
    by_cases hL : L0 ≤ b
    · exact hB.mono (Mp.le_refl ρ) (hb.block _ (h.own b r e hL).2.1)
    · cases k with
      | dead => trivial
      | loop => exact fun ho => absurd ho hL
      | cells vs =>
        cases vs with
        | nil => exact ⟨fun i v e => by simp at e, fun ho => absurd ho hL, fun _ e => absurd rfl e⟩
        | cons v vs =>
          have h1 := hB.2.2 hL (by simp)
          exact hB.mono (Mp.le_refl ρ) (hb.block _ (Nat.lt_of_lt_of_le h1 h.below.size))
theorem Ext.later (ρ : Mp) (L0 n : Nat) (hb : Below w.heap.size w w') : Ext ρ L0 n w ρ w' :=
  ⟨Mp.le_refl ρ, fun b r e e' => (by rw [e] at e'; cases e'), hb.size, fun pb hp _ => hb.block pb hp⟩

/-- a call that writes to nothing older begins -/
theorem HRel.start (h : HRel C I ρ L0 w0 H w) (hI : Stable I) : HRel C I ρ H.length w H w := by
  refine ⟨Below.refl _ w, hI _ _ h.inv h.below, Nat.le_refl _, h.dom, fun b r e hL => ?_, fun b b' r r' k k' e _ hL => ?_, fun b r k e hk => ?_⟩
  · have := h.dom b r e; omega
  · have := h.dom b r e; omega
  · have hB := h.blk b r k e hk
    have hd := h.dom b r e
    have hno : ¬ H.length ≤ b := by omega
    cases k with
    | dead => trivial
    | loop => exact fun ho => absurd ho hno
    | cells vs =>
      refine ⟨hB.1, fun ho => absurd ho hno, fun _ hne => ?_⟩
      by_cases hL : L0 ≤ b
      · exact (h.own b r e hL).2.1
      · exact Nat.lt_of_lt_of_le (hB.2.2 hL hne) h.below.size

/-- a call without an address in or out begins -/
theorem HRel.empty (C : Cfg) (I : World → Prop) (hI : I w) : HRel C I (fun _ => none) 0 w [] w :=
  ⟨Below.refl _ w, hI, Nat.le_refl _, (fun _ _ e => by cases e), (fun _ _ e => by cases e), (fun _ _ _ _ _ _ e => by cases e), (fun _ _ _ e => by cases e)⟩

/-- … and ends with an address in its result: its own blocks are added -/
theorem HRel.back (h : HRel C I ρ L0 w0 H w) (h' : HRel C I ρ' H.length w H' w') (hE : Ext ρ H.length H.length w ρ' w') :
    HRel C I ρ' L0 w0 (H ++ H'.drop H.length) w' ∧ Ext ρ L0 H.length w ρ' w' := by
  have hlt := h'.lt
  have hL0 := h.lt
  have hlen : (H ++ H'.drop H.length).length = H'.length := by simp; omega
  have hold : ∀ b r, ρ' b = some r → b < H.length → ρ b = some r := fun b r e hb => by
    cases e0 : ρ b with
    | none => have := (hE.fresh b r e e0).1; omega
    | some r0 => have := hE.le b r0 e0; rw [e] at this; cases this; rfl
  have hget : ∀ b, ¬ b < H.length → (H ++ H'.drop H.length)[b]? = H'[b]? := fun b hb => by
    rw [List.getElem?_append_right (by omega), List.getElem?_drop]
    congr 1; omega
  have hget0 : ∀ b, b < H.length → (H ++ H'.drop H.length)[b]? = H[b]? := fun b hb => List.getElem?_append_left hb
  have hl := h.later h'.below
  refine ⟨⟨hl.below, h.inv, by rw [hlen]; omega, fun b r e => by rw [hlen]; exact h'.dom b r e, fun b r e hL => ?_, ?_, ?_⟩, hE.le, fun b r e e0 => ?_, hE.size, fun pb hp _ => h'.below.block pb hp⟩
  · by_cases hb : b < H.length
    · exact hl.own b r (hold b r e hb) hL
    · have := h'.own b r e (by omega)
      have := h.below.size
      exact ⟨by omega, by omega, by simp_all⟩
  · intro b b' r r' k k' e e' hL hL' hk hk' hl1 hl2 hbl
    by_cases hb : b < H.length <;> by_cases hb' : b' < H.length
    · rw [hget0 b hb] at hk; rw [hget0 b' hb'] at hk'
      exact h.apart b b' r r' k k' (hold b r e hb) (hold b' r' e' hb') hL hL' hk hk' hl1 hl2 hbl
    · have := (h.own b r (hold b r e hb) hL).2.1
      have := (h'.own b' r' e' (by omega)).1
      omega
    · have := (h.own b' r' (hold b' r' e' hb') hL').2.1
      have := (h'.own b r e (by omega)).1
      omega
    · rw [hget b hb] at hk; rw [hget b' hb'] at hk'
      exact h'.apart b b' r r' k k' e e' (by omega) (by omega) hk hk' hl1 hl2 hbl
  · intro b r k e hk
    by_cases hb : b < H.length
    · rw [hget0 b hb] at hk
      have hB := hl.blk b r k (hold b r e hb) hk
      exact hB.mono hE.le rfl
    · rw [hget b hb] at hk
      have hB := h'.blk b r k e hk
      have e1 : (H.length ≤ b) = True := by simp; omega
      have e2 : (L0 ≤ b) = True := by simp; omega
      rw [e1] at hB; rw [e2]
      cases k with
      | dead => trivial
      | loop => exact hB
      | cells vs => exact ⟨hB.1, hB.2.1, fun ho => absurd trivial ho⟩
  · obtain ⟨h1, h2⟩ := hE.fresh b r e e0
    refine ⟨h1, ?_⟩
    rcases h2 with h2 | ⟨b0, r0, hb0, e1, e2⟩
    · exact .inl h2
    · have := h.dom b0 r0 e1; omega

/-- some blocks are let go -/
theorem HRel.fade (h : HRel C I ρ L0 w0 H w) {H2 : Heap} (hl : H2.length = H.length) (hk : ∀ (b : Nat) (k : Blk), H2[b]? = some k → H[b]? = some k ∨ k = .dead) : HRel C I ρ L0 w0 H2 w := by
  refine ⟨h.below, h.inv, by rw [hl]; exact h.lt, fun b r e => by rw [hl]; exact h.dom b r e, h.own, ?_, ?_⟩
  · intro b b' r r' k k' e e' hL hL' h1 h2 hl1 hl2 hbl
    rcases hk b k h1 with h1 | rfl
    · rcases hk b' k' h2 with h2 | rfl
      · exact h.apart b b' r r' k k' e e' hL hL' h1 h2 hl1 hl2 hbl
      · exact absurd hl2 id
    · exact absurd hl1 id
  · intro b r k e h1
    rcases hk b k h1 with h1 | rfl
    · exact h.blk b r k e h1
    · trivial
theorem seal_spec (H H' : Heap) : (H ++ (H'.drop H.length).map Blk.shut).length = (H ++ H'.drop H.length).length ∧ ∀ (b : Nat) (k : Blk), (H ++ (H'.drop H.length).map Blk.shut)[b]? = some k → (H ++ H'.drop H.length)[b]? = some k ∨ k = .dead := by
  refine ⟨by simp, fun b k h => ?_⟩
  by_cases hb : b < H.length
  · rw [List.getElem?_append_left hb] at h
    exact .inl (by rw [List.getElem?_append_left hb]; exact h)
  · rw [List.getElem?_append_right (by omega), List.getElem?_map] at h
    obtain ⟨u, hu, e⟩ := Option.map_eq_some_iff.1 h
    rw [List.getElem?_append_right (by omega), hu]
    cases u <;> simp only [Blk.shut] at e <;> subst e
    · exact .inl rfl
    · exact .inl rfl
    · exact .inr rfl

/-! ### The marks of loops over functions -/
structure Mark (ρ : Mp) (L0 base : Nat) (w : World) (D : Nat) : Prop where
  ge : base ≤ D
  at' : w.heap[D]? = some (.deferred (some []))
  free : ∀ b r, ρ b = some r → L0 ≤ b → r.a.block ≠ D
def markOf (D : Nat) : Deferred := { target := .collected D, args := #[] }
def Marks (ρ : Mp) (L0 base : Nat) (w : World) (ds : List Deferred) : Prop :=
  ∃ Ds : List Nat, ds = Ds.map markOf ∧ Ds.Nodup ∧ ∀ D ∈ Ds, Mark ρ L0 base w D

theorem Mark.lt {base D : Nat} (m : Mark ρ L0 base w D) : D < w.heap.size := (Array.getElem?_eq_some_iff.1 m.at').1
theorem Mark.ext {base D : Nat} (m : Mark ρ L0 base w D) (hE : Ext ρ L0 n w ρ' w') : Mark ρ' L0 base w' D := by
  refine ⟨m.ge, (hE.keep D m.lt m.free).trans m.at', fun b r e hL => ?_⟩
  cases e0 : ρ b with
  | some r0 =>
    have := hE.le b r0 e0; rw [e] at this; cases this
    exact m.free b r e0 hL
  | none =>
    obtain ⟨_, h⟩ := hE.fresh b r e e0
    rcases h with h | ⟨b0, r0, hL0, e1, e2⟩
    · have := m.lt; omega
    · rw [← e2]; exact m.free b0 r0 e1 hL0
theorem Marks.ext {base : Nat} {ds : List Deferred} (m : Marks ρ L0 base w ds) (hE : Ext ρ L0 n w ρ' w') : Marks ρ' L0 base w' ds := by
  obtain ⟨Ds, h1, h2, h3⟩ := m
  exact ⟨Ds, h1, h2, fun D hD => (h3 D hD).ext hE⟩
theorem Marks.nil (ρ : Mp) (L0 base : Nat) (w : World) : Marks ρ L0 base w [] := ⟨[], rfl, .nil, fun _ h => by cases h⟩
end
end Go.AM
