/- What the abstract heap means in the machine's memory, and how it abides the machine's moves. No condition. -/
import Derived.Test.YtflekaacffdakaaAmD
namespace Go.AM
open Go Go.RowKit

theorem add_spot {a : Addr} (h : a.spot = none) (i : Nat) : a.add i = ⟨a.block, a.off + i, none⟩ := by
  obtain ⟨b, o, s⟩ := a
  simp only at h
  subst h
  unfold Addr.add
  split
  · rename_i e; subst e; simp
  · rfl
theorem addBlk (a : Addr) (n : Nat) : (a.add n).block = a.block := by unfold Addr.add; split <;> rfl
theorem cellB {w w' : World} {a : Addr} (h : w'.heap[a.block]? = w.heap[a.block]?) : w'.cell? a = w.cell? a := by simp only [World.cell?, h]

def StRel : LSt → LoopState → Prop
  | .ready, s => s = .ready
  | .busy, s => s = .busy
  | .done, s => s = .done
def JmpRel : Option Jmp → Option Code → Prop
  | none, c => c = none
  | some .ret, c => c = some .ret
  | some (.exit i), c => c = some (.exit i)

/-- the cells from an address on -/
def CellsRel (ρ : Mp) (w : World) (a : Addr) (vs : List AV) : Prop :=
  ∀ (i : Nat) (v : AV), vs[i]? = some v → ∃ x, w.cell? (a.add i) = some x ∧ VRel ρ v x ∧ x.oneCell' = true

def BRel (C : Cfg) (ρ : Mp) (own : Prop) (B0 : Nat) (w : World) (r : PB) : Blk → Prop
  | .cells vs => CellsRel ρ w r.a vs ∧ (own → ∃ cs t m, w.heap[r.a.block]? = some (.cells cs t (0, 0)) ∧ r.room = some m ∧ vs.length ≤ m ∧ r.a.off + m ≤ cs.size) ∧
      (¬ own → vs ≠ [] → r.a.block < B0)
  | .dead => True
  | .loop st pend nt fr ps asg body => own → ∃ rec, w.heap[r.a.block]? = some (.loop rec) ∧ StRel st rec.state ∧ JmpRel pend rec.pending ∧ FrRel ρ nt fr rec.tmps ∧
      rec.params.toList = ps ∧ (∀ p ∈ ps, p < nt) ∧ prepC C nt rec.assign = some asg ∧ prepC C nt rec.body = some body

def Blk.live : Blk → Prop
  | .dead => False
  | _ => True

structure HRel (C : Cfg) (I : World → Prop) (ρ : Mp) (L0 : Nat) (w0 : World) (H : Heap) (w : World) : Prop where
  below : Below w0.heap.size w0 w
  inv : I w0
  lt : L0 ≤ H.length
  dom : ∀ b r, ρ b = some r → b < H.length
  own : ∀ b r, ρ b = some r → L0 ≤ b → w0.heap.size ≤ r.a.block ∧ r.a.block < w.heap.size ∧ r.a.spot = none
  apart : ∀ b b' r r' k k', ρ b = some r → ρ b' = some r' → L0 ≤ b → L0 ≤ b' → H[b]? = some k → H[b']? = some k' → k.live → k'.live → r.a.block = r'.a.block → b = b'
  blk : ∀ b r k, ρ b = some r → H[b]? = some k → BRel C ρ (L0 ≤ b) w0.heap.size w r k

/-- What the moves from w to w' leave as it was. -/
structure Ext (ρ : Mp) (L0 n : Nat) (w : World) (ρ' : Mp) (w' : World) : Prop where
  le : Mp.le ρ ρ'
  fresh : ∀ b r, ρ' b = some r → ρ b = none → n ≤ b ∧ (w.heap.size ≤ r.a.block ∨ ∃ b0 r0, L0 ≤ b0 ∧ ρ b0 = some r0 ∧ r0.a.block = r.a.block)
  size : w.heap.size ≤ w'.heap.size
  keep : ∀ pb, pb < w.heap.size → (∀ b r, ρ b = some r → L0 ≤ b → r.a.block ≠ pb) → w'.heap[pb]? = w.heap[pb]?

section
variable {C : Cfg} {I : World → Prop} {ρ ρ' ρ'' : Mp} {L0 n n' : Nat} {w0 w w' w'' : World} {H : Heap}

theorem Ext.refl (ρ : Mp) (L0 n : Nat) (w : World) : Ext ρ L0 n w ρ w := ⟨Mp.le_refl ρ, fun b r e e' => (by rw [e] at e'; cases e'), Nat.le_refl _, fun _ _ _ => rfl⟩
theorem Ext.trans (h : Ext ρ L0 n w ρ' w') (k : Ext ρ' L0 n' w' ρ'' w'') (hn : n ≤ n') : Ext ρ L0 n w ρ'' w'' := by
  refine ⟨Mp.le_trans h.le k.le, fun b r e e0 => ?_, Nat.le_trans h.size k.size, fun pb hpb hno => ?_⟩
  · cases e1 : ρ' b with
    | some r1 =>
      have := k.le b r1 e1
      rw [e] at this; cases this
      exact h.fresh b r e1 e0
    | none =>
      obtain ⟨hb, hr⟩ := k.fresh b r e e1
      refine ⟨by omega, ?_⟩
      rcases hr with hr | ⟨b0, r0, hL0, e2, e3⟩
      · exact .inl (Nat.le_trans h.size hr)
      · cases e4 : ρ b0 with
        | some r4 =>
          have := h.le b0 r4 e4
          rw [e2] at this; cases this
          exact .inr ⟨b0, r0, hL0, e4, e3⟩
        | none =>
          obtain ⟨_, hr⟩ := h.fresh b0 r0 e2 e4
          rw [e3] at hr
          exact hr
  · rw [k.keep pb (Nat.lt_of_lt_of_le hpb h.size) ?_, h.keep pb hpb hno]
    intro b r e hL' hbl
    cases e1 : ρ b with
    | some r1 =>
      have := h.le b r1 e1
      rw [e] at this; cases this
      exact hno b r e1 hL' hbl
    | none =>
      obtain ⟨_, hr⟩ := h.fresh b r e e1
      rcases hr with hr | ⟨b0, r0, hL0, e2, e3⟩
      · omega
      · exact hno b0 r0 e2 hL0 (e3.trans hbl)

theorem CellsRel.mono {a : Addr} {vs : List AV} (h : CellsRel ρ w a vs) (hle : Mp.le ρ ρ') (hw : w'.heap[a.block]? = w.heap[a.block]?) : CellsRel ρ' w' a vs := fun i v e => by
  obtain ⟨x, hx, hr, h1⟩ := h i v e
  exact ⟨x, by rw [cellB (w := w) (by rw [addBlk]; exact hw)]; exact hx, hr.mono hle _ _, h1⟩
theorem BRel.mono {own : Prop} {B0 : Nat} {r : PB} {k : Blk} (h : BRel C ρ own B0 w r k) (hle : Mp.le ρ ρ') (hw : w'.heap[r.a.block]? = w.heap[r.a.block]?) : BRel C ρ' own B0 w' r k := by
  cases k with
  | cells vs =>
    refine ⟨h.1.mono hle hw, fun ho => ?_, h.2.2⟩
    obtain ⟨cs, t, m, h1, h2⟩ := h.2.1 ho
    exact ⟨cs, t, m, hw.trans h1, h2⟩
  | dead => trivial
  | loop st pend nt fr ps asg body =>
    intro ho
    obtain ⟨rec, h1, h2, h3, h4, h5⟩ := h ho
    exact ⟨rec, hw.trans h1, h2, h3, h4.mono hle, h5⟩
/-- a block with no cell needs nothing -/
theorem BRel.away (h : HRel C I ρ L0 w0 H w) {b b' : Nat} {r r' : PB} {k k' : Blk} (hb : ρ b = some r) (hL : L0 ≤ b) (hk : H[b]? = some k) (hl : k.live) (hb' : ρ b' = some r') (hk' : H[b']? = some k')
    (hne : b' ≠ b) (hle : Mp.le ρ ρ') (hw : ∀ pb, pb ≠ r.a.block → pb < w.heap.size → w'.heap[pb]? = w.heap[pb]?) : BRel C ρ' (L0 ≤ b') w0.heap.size w' r' k' := by
  have hB := h.blk b' r' k' hb' hk'
  have keep : r'.a.block ≠ r.a.block → r'.a.block < w.heap.size → BRel C ρ' (L0 ≤ b') w0.heap.size w' r' k' := fun e e' => hB.mono hle (hw _ e e')
  by_cases hL' : L0 ≤ b'
  · by_cases hl' : k'.live
    · exact keep (fun e => hne (h.apart b' b r' r k' k hb' hb hL' hL hk' hk hl' hl e)) (h.own b' r' hb' hL').2.1
    · cases k' with
      | dead => trivial
      | cells vs => exact absurd trivial hl'
      | loop => exact absurd trivial hl'
  · cases k' with
    | dead => trivial
    | loop => exact fun ho => absurd ho hL'
    | cells vs =>
      cases vs with
      | nil => exact ⟨fun i v e => by simp at e, fun ho => absurd ho hL', fun _ e => absurd rfl e⟩
      | cons v vs =>
        have h1 := hB.2.2 hL' (by simp)
        exact keep (by have := (h.own b r hb hL).1; omega) (Nat.lt_of_lt_of_le h1 h.below.size)

theorem HRel.none_of_ge (h : HRel C I ρ L0 w0 H w) {b : Nat} (hb : H.length ≤ b) : ρ b = none := by
  cases e : ρ b with
  | none => rfl
  | some r => have := h.dom b r e; omega

/-- the machine lays a block; the abstract heap too -/
theorem HRel.push (h : HRel C I ρ L0 w0 H w) (o : Obj) (k : Blk) (room : Option Nat) (off : Nat)
    (hk : BRel C (ρ.add H.length ⟨⟨w.heap.size, off, none⟩, room⟩) True w0.heap.size (w.alloc o) ⟨⟨w.heap.size, off, none⟩, room⟩ k) :
    HRel C I (ρ.add H.length ⟨⟨w.heap.size, off, none⟩, room⟩) L0 w0 (H ++ [k]) (w.alloc o) ∧ Ext ρ L0 H.length w (ρ.add H.length ⟨⟨w.heap.size, off, none⟩, room⟩) (w.alloc o) := by
  have hnew : ρ H.length = none := h.none_of_ge (Nat.le_refl _)
  have hle := Mp.le_add ρ ⟨⟨w.heap.size, off, none⟩, room⟩ hnew
  have get : ∀ b r, (ρ.add H.length ⟨⟨w.heap.size, off, none⟩, room⟩) b = some r → (b = H.length ∧ r = ⟨⟨w.heap.size, off, none⟩, room⟩) ∨ (ρ b = some r ∧ b < H.length) := fun b r e => by
    by_cases hb : b = H.length
    · subst hb; rw [Mp.add_same] at e; cases e; exact .inl ⟨rfl, rfl⟩
    · rw [Mp.add_ne ρ _ hb] at e; exact .inr ⟨e, h.dom b r e⟩
  have old : ∀ pb, pb < w.heap.size → (w.alloc o).heap[pb]? = w.heap[pb]? := fun pb hp => Below.heap_alloc w o pb hp
  have hget : ∀ b k', (H ++ [k])[b]? = some k' → b < H.length → H[b]? = some k' := fun b k' e hb => by rwa [List.getElem?_append_left hb] at e
  refine ⟨⟨h.below.alloc h.below.size o, h.inv, ?_, ?_, ?_, ?_, ?_⟩, hle, ?_, by simp, fun pb hp _ => old pb hp⟩
  · have := h.lt; simp; omega
  · intro b r e
    rcases get b r e with ⟨rfl, _⟩ | ⟨_, hb⟩ <;> simp <;> omega
  · intro b r e hL
    rcases get b r e with ⟨rfl, rfl⟩ | ⟨e', _⟩
    · exact ⟨h.below.size, by simp, rfl⟩
    · have := h.own b r e' hL
      exact ⟨this.1, by simp; omega, this.2.2⟩
  · intro b b' r r' k1 k2 e e' hL hL' hk1 hk2 hl1 hl2 hbl
    rcases get b r e with ⟨rfl, rfl⟩ | ⟨e1, hb⟩ <;> rcases get b' r' e' with ⟨rfl, rfl⟩ | ⟨e2, hb'⟩
    · rfl
    · have := (h.own b' r' e2 hL').2.1; simp at hbl; omega
    · have := (h.own b r e1 hL).2.1; simp at hbl; omega
    · exact h.apart b b' r r' k1 k2 e1 e2 hL hL' (hget _ _ hk1 hb) (hget _ _ hk2 hb') hl1 hl2 hbl
  · intro b r k1 e hk1
    rcases get b r e with ⟨rfl, rfl⟩ | ⟨e1, hb⟩
    · rw [List.getElem?_append_right (Nat.le_refl _)] at hk1
      simp at hk1
      subst hk1
      have : (L0 ≤ H.length) = True := by simp [h.lt]
      rw [this]; exact hk
    · have hB := h.blk b r k1 e1 (hget _ _ hk1 hb)
      by_cases hL : L0 ≤ b
      · exact hB.mono hle (old _ (h.own b r e1 hL).2.1)
      · cases k1 with
        | dead => trivial
        | loop => exact fun ho => absurd ho hL
        | cells vs =>
          cases vs with
          | nil => exact ⟨fun i v e => by simp at e, fun ho => absurd ho hL, fun _ e => absurd rfl e⟩
          | cons v vs => exact hB.mono hle (old _ (Nat.lt_of_lt_of_le (hB.2.2 hL (by simp)) h.below.size))
  · intro b r e e0
    rcases get b r e with ⟨rfl, rfl⟩ | ⟨e1, _⟩
    · exact ⟨Nat.le_refl _, .inl (Nat.le_refl _)⟩
    · rw [e0] at e1; cases e1

/-- a world whose memory is the same -/
theorem HRel.congr (h : HRel C I ρ L0 w0 H w) (hh : w'.heap = w.heap) (ho : w'.os = w.os) (ht : w'.tape = w.tape) (hp : w'.output = w.output) : HRel C I ρ L0 w0 H w' := by
  refine ⟨⟨ho.trans h.below.os, ht.trans h.below.tape, hp.trans h.below.output, by rw [hh]; exact h.below.size, fun k hk => by rw [hh]; exact h.below.block k hk⟩, h.inv, h.lt, h.dom, fun b r e hL => by rw [hh]; exact h.own b r e hL, h.apart,
    fun b r k e hk => (h.blk b r k e hk).mono (Mp.le_refl ρ) (by rw [hh])⟩
theorem HRel.drew (h : HRel C I ρ L0 w0 H w) : HRel C I ρ L0 w0 H w.drew := h.congr rfl rfl rfl rfl
theorem Ext.congr (ρ : Mp) (L0 n : Nat) (w : World) (hh : w'.heap = w.heap) : Ext ρ L0 n w ρ w' := ⟨Mp.le_refl ρ, fun b r e e' => (by rw [e] at e'; cases e'), by rw [hh]; exact Nat.le_refl _, fun _ _ _ => by rw [hh]⟩
/-- the machine lays a block of which the abstract heap does not know -/
theorem HRel.alloc (h : HRel C I ρ L0 w0 H w) (o : Obj) : HRel C I ρ L0 w0 H (w.alloc o) ∧ Ext ρ L0 n w ρ (w.alloc o) := by
  have old : ∀ pb, pb < w.heap.size → (w.alloc o).heap[pb]? = w.heap[pb]? := fun pb hp => Below.heap_alloc w o pb hp
  refine ⟨⟨h.below.alloc h.below.size o, h.inv, h.lt, h.dom, fun b r e hL => ?_, h.apart, fun b r k e hk => ?_⟩, Mp.le_refl ρ, fun b r e e' => (by rw [e] at e'; cases e'), by simp, fun pb hp _ => old pb hp⟩
  · have := h.own b r e hL
    exact ⟨this.1, by simp; omega, this.2.2⟩
  · have hB := h.blk b r k e hk
    by_cases hL : L0 ≤ b
    · exact hB.mono (Mp.le_refl ρ) (old _ (h.own b r e hL).2.1)
    · cases k with
      | dead => trivial
      | loop => exact fun ho => absurd ho hL
      | cells vs =>
        cases vs with
        | nil => exact ⟨fun i v e => by simp at e, fun ho => absurd ho hL, fun _ e => absurd rfl e⟩
        | cons v vs => exact hB.mono (Mp.le_refl ρ) (old _ (Nat.lt_of_lt_of_le (hB.2.2 hL (by simp)) h.below.size))

theorem Ext.turn {b : Nat} {r : PB} (hb : ρ b = some r) (hL : L0 ≤ b) (hsz : w'.heap.size = w.heap.size) (hw : ∀ pb, pb ≠ r.a.block → pb < w.heap.size → w'.heap[pb]? = w.heap[pb]?) : Ext ρ L0 n w ρ w' :=
  ⟨Mp.le_refl ρ, fun b r e e' => (by rw [e] at e'; cases e'), by omega, fun pb hp hno => hw pb (fun e => hno b r hb hL e.symm) hp⟩
/-- one block of the call's own is turned, in the machine's memory and in the abstract heap -/
theorem HRel.turn (h : HRel C I ρ L0 w0 H w) {b : Nat} {r : PB} {k : Blk} (hb : ρ b = some r) (hL : L0 ≤ b) (hk : H[b]? = some k) (hl : k.live) (k' : Blk)
    (hwB : Below w0.heap.size w0 w') (hsz : w'.heap.size = w.heap.size) (hw : ∀ pb, pb ≠ r.a.block → pb < w.heap.size → w'.heap[pb]? = w.heap[pb]?) (hk' : BRel C ρ True w0.heap.size w' r k') :
    HRel C I ρ L0 w0 (H.set b k') w' := by
  have hbl : b < H.length := h.dom b r hb
  refine ⟨hwB, h.inv, by simpa using h.lt, fun b' r' e => by simpa using h.dom b' r' e, fun b' r' e hL' => by rw [hsz]; exact h.own b' r' e hL', ?_, ?_⟩
  · intro b1 b2 r1 r2 k1 k2 e1 e2 hL1 hL2 hk1 hk2 hl1 hl2 hbk
    have up : ∀ (i : Nat) (ki : Blk), (H.set b k')[i]? = some ki → ki.live → ∃ kj : Blk, H[i]? = some kj ∧ kj.live := fun i ki hki hli => by
      rw [List.getElem?_set] at hki
      split at hki
      · subst i; exact ⟨k, hk, hl⟩
      · exact ⟨ki, hki, hli⟩
    obtain ⟨j1, hj1, hlj1⟩ := up b1 k1 hk1 hl1
    obtain ⟨j2, hj2, hlj2⟩ := up b2 k2 hk2 hl2
    exact h.apart b1 b2 r1 r2 j1 j2 e1 e2 hL1 hL2 hj1 hj2 hlj1 hlj2 hbk
  · intro b1 r1 k1 e1 hk1
    rw [List.getElem?_set] at hk1
    split at hk1
    · subst b1
      cases hk1
      rw [hb] at e1; cases e1
      have : (L0 ≤ b) = True := by simp [hL]
      rw [this]; exact hk'
    · rename_i hne
      exact BRel.away h hb hL hk hl e1 hk1 (Ne.symm hne) (Mp.le_refl ρ) hw

/-- a block of which the abstract heap forgets -/
theorem HRel.kill (h : HRel C I ρ L0 w0 H w) (b : Nat) : HRel C I ρ L0 w0 (H.set b .dead) w := by
  refine ⟨h.below, h.inv, by simpa using h.lt, fun b' r' e => by simpa using h.dom b' r' e, h.own, ?_, ?_⟩
  · intro b1 b2 r1 r2 k1 k2 e1 e2 hL1 hL2 hk1 hk2 hl1 hl2 hbk
    have up : ∀ (i : Nat) (ki : Blk), (H.set b Blk.dead)[i]? = some ki → ki.live → H[i]? = some ki := fun i ki hki hli => by
      rw [List.getElem?_set] at hki
      split at hki
      · split at hki
        · cases hki; exact hli.elim
        · cases hki
      · exact hki
    exact h.apart b1 b2 r1 r2 k1 k2 e1 e2 hL1 hL2 (up _ _ hk1 hl1) (up _ _ hk2 hl2) hl1 hl2 hbk
  · intro b1 r1 k1 e1 hk1
    rw [List.getElem?_set] at hk1
    split at hk1
    · split at hk1
      · cases hk1; trivial
      · cases hk1
    · exact h.blk b1 r1 k1 e1 hk1
end

/-! ### Cells of an own block are written -/
def setMany : Array Value → Nat → List Value → Array Value
  | cs, _, [] => cs
  | cs, o, x :: xs => setMany (cs.setIfInBounds o x) (o + 1) xs
theorem setMany_size : ∀ (xs : List Value) (cs : Array Value) (o : Nat), (setMany cs o xs).size = cs.size
  | [], _, _ => rfl
  | x :: xs, cs, o => by rw [setMany, setMany_size xs]; simp
theorem setCells_heap {b : Nat} {t : TypeId} {f : Nat × Nat} : ∀ (xs : List Value) (o : Nat) (w : World) (cs : Array Value), w.heap[b]? = some (.cells cs t f) → (w.setCells b o xs).heap[b]? = some (.cells (setMany cs o xs) t f)
  | [], _, _, _, h => h
  | x :: xs, o, w, cs, h => by
    simp only [World.setCells, setMany]
    refine setCells_heap xs (o + 1) _ _ ?_
    have hlt := (Array.getElem?_eq_some_iff.1 h).1
    have hv := (Array.getElem?_eq_some_iff.1 h).2
    show (w.heap.modify b _)[b]? = _
    rw [Array.getElem?_eq_getElem (by rw [Array.size_modify]; exact hlt), Array.getElem_modify_self, hv]
    simp
theorem setCells_other {b : Nat} : ∀ (xs : List Value) (o : Nat) (w : World) (pb : Nat), pb ≠ b → (w.setCells b o xs).heap[pb]? = w.heap[pb]?
  | [], _, _, _, _ => rfl
  | x :: xs, o, w, pb, h => by
    simp only [World.setCells]
    rw [setCells_other xs (o + 1) _ pb h, Below.heap_setCell _ _ _ _ h]
theorem setCells_below {B b : Nat} {a : World} (hb : B ≤ b) : ∀ (xs : List Value) (o : Nat) (w : World), Below B a w → Below B a (w.setCells b o xs)
  | [], _, _, h => h
  | x :: xs, o, w, h => by
    simp only [World.setCells]
    exact setCells_below hb xs (o + 1) _ (h.setCell (p := ⟨b, o, none⟩) hb x)
theorem setCells_size {b : Nat} : ∀ (xs : List Value) (o : Nat) (w : World), (w.setCells b o xs).heap.size = w.heap.size
  | [], _, _ => rfl
  | x :: xs, o, w => by
    simp only [World.setCells]
    rw [setCells_size xs (o + 1)]; simp

/-- cells of an array from 'off' on -/
def ArrRel (ρ : Mp) (cs : Array Value) (off : Nat) (vs : List AV) : Prop := ∀ (i : Nat) (v : AV), vs[i]? = some v → ∃ x, cs[off + i]? = some x ∧ VRel ρ v x ∧ x.oneCell' = true
theorem ArrRel.set {ρ : Mp} {cs : Array Value} {off : Nat} {vs : List AV} (h : ArrRel ρ cs off vs) {o : Nat} (ho : o < vs.length) {v : AV} {x : Value} (hv : VRel ρ v x) (h1 : x.oneCell' = true) : ArrRel ρ (cs.setIfInBounds (off + o) x) off (vs.set o v) := by
  intro i u hu
  rw [List.getElem?_set] at hu
  split at hu
  · subst i
    cases hu
    obtain ⟨y, hy, _⟩ := h o vs[o] (by simp [ho])
    have := (Array.getElem?_eq_some_iff.1 hy).1
    exact ⟨x, by simp [this], hv, h1⟩
  · rename_i hne
    obtain ⟨y, hy, hr⟩ := h i u hu
    exact ⟨y, by rw [Array.getElem?_setIfInBounds_ne (by omega)]; exact hy, hr⟩
theorem wr_length : ∀ (us : List AV) (vs : List AV) (o : Nat), (wr vs o us).length = vs.length
  | [], _, _ => rfl
  | u :: us, vs, o => by rw [wr, wr_length us]; simp
theorem ArrRel.wr {ρ : Mp} {off : Nat} : ∀ {us : List AV} {xs : List Value} {cs : Array Value} {vs : List AV} {o : Nat}, ArrRel ρ cs off vs → VRelL ρ us xs → (∀ x ∈ xs, x.oneCell' = true) → o + us.length ≤ vs.length → ArrRel ρ (setMany cs (off + o) xs) off (wr vs o us)
  | [], _, _, _, _, h, hu, _, _ => by simp only [VRelL] at hu; subst hu; exact h
  | u :: us, _, _, _, o, h, hu, h1, hl => by
    simp only [VRelL] at hu
    obtain ⟨x, xs, rfl, hx, hxs⟩ := hu
    simp only [setMany, AM.wr]
    simp at hl
    exact ArrRel.wr (h.set (by omega) hx (h1 x (by simp))) hxs (fun y hy => h1 y (by simp [hy])) (by simp; omega)
theorem cellsRel_arr {ρ : Mp} {w : World} {a : Addr} {cs : Array Value} {t : TypeId} {f : Nat × Nat} {vs : List AV} (hs : a.spot = none) (h : w.heap[a.block]? = some (.cells cs t f)) : CellsRel ρ w a vs ↔ ArrRel ρ cs a.off vs := by
  have e : ∀ i, w.cell? (a.add i) = cs[a.off + i]? := fun i => by rw [add_spot hs, cell_of_row w _ _ cs t f h]
  unfold CellsRel ArrRel
  simp only [e]

section
variable {C : Cfg} {I : World → Prop} {ρ : Mp} {L0 n : Nat} {w0 w : World} {H : Heap}
/-- a store into an own block -/
theorem HRel.store (h : HRel C I ρ L0 w0 H w) {b : Nat} {r : PB} {vs us : List AV} {xs : List Value} {o : Nat} (hb : ρ b = some r) (hL : L0 ≤ b) (hk : H[b]? = some (.cells vs)) (hl : o + us.length ≤ vs.length)
    (hu : VRelL ρ us xs) (h1 : ∀ x ∈ xs, x.oneCell' = true) :
    HRel C I ρ L0 w0 (H.set b (.cells (wr vs o us))) (w.setCells r.a.block (r.a.off + o) xs) ∧ Ext ρ L0 n w ρ (w.setCells r.a.block (r.a.off + o) xs) ∧
    (storeCells (r.a.add o) xs).run C.P w = .ok () (w.setCells r.a.block (r.a.off + o) xs) := by
  obtain ⟨hB1, hB2, _⟩ := h.blk b r _ hb hk
  obtain ⟨cs, t, m, hc, hm, hv, hcs⟩ := hB2 hL
  obtain ⟨ho1, ho2, hs⟩ := h.own b r hb hL
  have hA := (cellsRel_arr hs hc).1 hB1
  have hc' := setCells_heap xs (r.a.off + o) w cs hc
  have hA' := (cellsRel_arr (w := w.setCells r.a.block (r.a.off + o) xs) hs hc').2 (ArrRel.wr hA hu h1 hl)
  refine ⟨HRel.turn h hb hL hk trivial (.cells (wr vs o us)) (setCells_below ho1 xs _ w h.below) (setCells_size xs _ w) (fun pb e _ => setCells_other xs _ w pb e) ⟨hA', fun _ => ⟨_, t, m, hc', hm, by rw [wr_length]; exact hv, by rw [setMany_size]; exact hcs⟩, fun e => absurd trivial e⟩,
    Ext.turn hb hL (setCells_size xs _ w) (fun pb e _ => setCells_other xs _ w pb e), ?_⟩
  · have hx := hu.length
    rw [add_spot hs]
    have := run_storeCells_cells (P := C.P) r.a.block (r.a.off + o) xs 0 w (fun j hj => ?_) (fun j hj => ?_) h1
    · simpa using this
    · rw [cell_of_row w _ _ cs t (0, 0) hc]
      simp; omega
    · simp [World.frozen?, hc]
end
end Go.AM
