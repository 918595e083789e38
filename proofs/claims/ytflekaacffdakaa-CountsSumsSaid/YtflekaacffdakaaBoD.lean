/- A row's arguments, opened: what a slice, a struct, a whole number of the machine's memory is to the abstract machine. No condition. -/
import Derived.Test.YtflekaacffdakaaBoC
import Derived.Deep.Slices
import Derived.ChangeSame
import Derived.ChangeOld
import Derived.Carry
set_option linter.unusedSimpArgs false
set_option linter.unusedVariables false
namespace Go.AM
open Go Go.RowKit Go.ChangeShapes

def FRel (C : Cfg) (ρ : Mp) (H : Heap) (w : World) : Prop :=
  (∀ b r, ρ b = some r → b < H.length) ∧ ∀ b r k, ρ b = some r → H[b]? = some k → BRel C ρ False w.heap.size w r k
theorem FRel.nil (C : Cfg) (w : World) : FRel C (fun _ => none) [] w := ⟨fun _ _ h => (nomatch h), fun _ _ _ h => (nomatch h)⟩
theorem CellsRel.le {ρ ρ' : Mp} (h : Mp.le ρ ρ') {w : World} {a : Addr} {vs : List AV} (hc : CellsRel ρ w a vs) : CellsRel ρ' w a vs := fun i v e => by
  obtain ⟨x, h1, h2, h3⟩ := hc i v e
  exact ⟨x, h1, h2.mono h _ _, h3⟩
theorem BRel.far {C : Cfg} {ρ ρ' : Mp} (h : Mp.le ρ ρ') {B0 : Nat} {w : World} {r : PB} {k : Blk} (hb : BRel C ρ False B0 w r k) : BRel C ρ' False B0 w r k := by
  cases k with
  | cells vs => exact ⟨hb.1.le h, fun q => q.elim, hb.2.2⟩
  | dead => trivial
  | loop st pend nt fr ps asg body => exact fun q => q.elim
theorem FRel.push {C : Cfg} {ρ : Mp} {H : Heap} {w : World} (h : FRel C ρ H w) {a : Addr} {vs : List AV} (hc : CellsRel ρ w a vs) (hb : vs ≠ [] → a.block < w.heap.size) :
    FRel C (ρ.add H.length ⟨a, none⟩) (H ++ [.cells vs]) w ∧ Mp.le ρ (ρ.add H.length ⟨a, none⟩) := by
  have hn : ρ H.length = none := by
    cases e : ρ H.length with
    | none => rfl
    | some r => exact absurd (h.1 _ _ e) (Nat.lt_irrefl _)
  have hle := Mp.le_add ρ ⟨a, none⟩ hn
  refine ⟨⟨fun b r e => ?_, fun b r k e hk => ?_⟩, hle⟩
  · by_cases hbb : b = H.length
    · subst hbb; simp
    · rw [Mp.add_ne _ _ hbb] at e; have := h.1 b r e; simp; omega
  · by_cases hbb : b = H.length
    · subst hbb
      rw [Mp.add_same] at e
      cases e
      rw [List.getElem?_append_right (Nat.le_refl _), Nat.sub_self] at hk
      cases hk
      exact ⟨hc.le hle, fun q => q.elim, fun _ => hb⟩
    · rw [Mp.add_ne _ _ hbb] at e
      rw [List.getElem?_append_left (h.1 b r e)] at hk
      exact (h.2 b r k e hk).far hle

section
variable {H0 : Type} {enc : TypeId × Value → H0} {P : Program} {C : Cfg}
/-- what a type's cells, read, are to the abstract machine -/
def Opn (C : Cfg) (enc : TypeId × Value → H0) (P : Program) (t : TypeId) (α : Type) [Rep α] : Prop :=
  ∀ (fuel : Nat) (cs : List Value) (y : DataW H0 × List MemPlace) (w : World) (ρ : Mp) (H : Heap), DataW.trod enc P w 0 (fun _ => true) true fuel t cs = some y → FRel C ρ H w →
    ∃ (N : Heap) (ρ' : Mp) (vs : List AV) (x : α), FRel C ρ' (H ++ N) w ∧ Mp.le ρ ρ' ∧ VRelL ρ' vs cs ∧ Rep.rep (fun _ => True) (H ++ N) vs x
theorem opn_int {t : TypeId} (ht : P.underlying t = some (.int .i64)) : Opn C enc P t Int := by
  intro fuel cs y w ρ H h hF
  obtain ⟨n, rfl, _⟩ := DataW.trod_int ht h
  exact ⟨[], ρ, [.i n], n, by simpa using hF, Mp.le_refl ρ, by simp [VRelL, VRel], rfl⟩
theorem opn_sliceL {t e : TypeId} {α : Type} [Rep α] (ht : P.underlying t = some (.slice e)) (hs : P.cellsOf e = Rep.sz α) (he : Opn C enc P e α)
    (fuel : Nat) (cs : List Value) (y : DataW H0 × List MemPlace) (w : World) (ρ : Mp) (H : Heap) (h : DataW.trod enc P w 0 (fun _ => true) true fuel t cs = some y) (hF : FRel C ρ H w) :
    ∃ (N : Heap) (ρ' : Mp) (vs : List AV) (x : List α), FRel C ρ' (H ++ N) w ∧ Mp.le ρ ρ' ∧ VRelL ρ' vs cs ∧ Rep.rep (fun _ => True) (H ++ N) vs x ∧ ((y.1 = .nil ∧ x = []) ∨ ∃ es sp, y.1 = .slice es sp ∧ x.length = es.length) := by
  rcases Go.Deep.open_slice ht h with ⟨rfl, hy⟩ | ⟨a, len, cap, m, n, D, Pl, rfl, _, hlc, hcm, hm, hy, hx⟩
  · exact ⟨[], ρ, [.nils], [], by simpa using hF, Mp.le_refl ρ, by simp [VRelL, VRel], ⟨.nils, rfl, Sl.nil⟩, .inl ⟨by rw [hy], rfl⟩⟩
  · simp only [if_true] at hm
    subst hm
    have key : ∀ j, j ≤ len → ∃ (N : Heap) (ρ' : Mp) (flat : List AV) (xs : List α), FRel C ρ' (H ++ N) w ∧ Mp.le ρ ρ' ∧ flat.length = j * Rep.sz α ∧ xs.length = j ∧ CellsRel ρ' w a flat ∧
        ∀ (i : Nat) (hi : i < xs.length), Rep.rep (fun _ => True) (H ++ N) ((flat.drop (i * Rep.sz α)).take (Rep.sz α)) xs[i] := by
      intro j
      induction j with
      | zero => intro _; exact ⟨[], ρ, [], [], by simpa using hF, Mp.le_refl ρ, by simp, rfl, fun i v e => by simp at e, fun i hi => by simp at hi⟩
      | succ j ih =>
        intro hj
        obtain ⟨N, ρ1, flat, xs, q1, q2, q3, q4, q5, q6⟩ := ih (by omega)
        obtain ⟨cs', c1, c2⟩ := hx j (by omega)
        obtain ⟨N2, ρ2, vs, x, r1, r2, r3, r4⟩ := he n cs' _ w ρ1 (H ++ N) c2 q1
        obtain ⟨_, c3, c4⟩ := World.cells?_some c1
        rw [List.append_assoc] at r1 r4
        have hvl := Rep.len r4
        refine ⟨N ++ N2, ρ2, flat ++ vs, xs ++ [x], r1, Mp.le_trans q2 r2, by rw [List.length_append, q3, hvl, Nat.succ_mul], by simp [q4], ?_, ?_⟩
        · intro i v ev
          by_cases hi : i < flat.length
          · rw [List.getElem?_append_left hi] at ev
            obtain ⟨z, z1, z2, z3⟩ := q5 i v ev
            exact ⟨z, z1, z2.mono r2 _ _, z3⟩
          · rw [List.getElem?_append_right (by omega)] at ev
            obtain ⟨z, z1, z2⟩ := r3.get ev
            have hlt := (List.getElem?_eq_some_iff.1 z1).1
            have := c4 (i - flat.length) (by omega)
            rw [Go.Deep.add_add, hs, ← q3, Nat.add_sub_cancel' (by omega)] at this
            exact ⟨z, by rw [this]; exact z1, z2, z2.one (List.all_eq_true.1 (Rep.one r4) _ (List.mem_of_getElem? ev))⟩
        · intro i hi
          by_cases hij : i < xs.length
          · rw [List.getElem_append_left hij]
            have hle : i * Rep.sz α + Rep.sz α ≤ flat.length := by
              rw [q3, ← Nat.succ_mul]; exact Nat.mul_le_mul_right _ (by omega)
            rw [List.drop_append_of_le_length (by omega), List.take_append_of_le_length (by rw [List.length_drop]; omega), ← List.append_assoc]
            exact Rep.mono (q6 i hij) (Kp.app _ _ _) fun _ h => h
          · have : i = j := by simp [q4] at hi hij; omega
            subst this
            have e1 : (xs ++ [x])[i]'hi = x := by simp [List.getElem_append_right, q4]
            rw [e1, ← q3, List.drop_append_of_le_length (Nat.le_refl _), List.drop_length, List.nil_append, ← hvl, List.take_length]
            exact r4
    obtain ⟨N, ρ1, flat, xs, q1, q2, q3, q4, q5, q6⟩ := key len (Nat.le_refl _)
    have hb : flat ≠ [] → a.block < w.heap.size := by
      intro hne
      obtain ⟨v, hv⟩ : ∃ v, flat[0]? = some v := by cases flat with | nil => exact absurd rfl hne | cons v r => exact ⟨v, rfl⟩
      obtain ⟨x, hx', _⟩ := q5 0 v hv
      have : a.add 0 = a := by simp [Addr.add]
      rw [this] at hx'
      unfold World.cell? at hx'
      cases e : w.heap[a.block]? with
      | none => simp [e] at hx'
      | some o => exact (Array.getElem?_eq_some_iff.1 e).1
    obtain ⟨p1, p2⟩ := q1.push q5 hb
    rw [List.append_assoc] at p1
    refine ⟨N ++ [.cells flat], _, [.s (Rep.sz α) (H ++ N).length 0 len none], xs, p1, Mp.le_trans q2 p2, ?_, ⟨_, rfl, .inr ⟨(H ++ N).length, 0, none, flat, by rw [q4], trivial, ?_, ?_, ?_, fun i hi => ?_⟩⟩, .inr ⟨_, _, by rw [hy], by simp [q4]⟩⟩
    · simp only [VRelL, VRel]
      exact ⟨_, _, rfl, ⟨⟨a, none⟩, 0, m, Mp.add_same _ _ _, by simp [Addr.add], hlc, by simp, by simp, by simp⟩, rfl⟩
    · rw [← List.append_assoc, List.getElem?_append_right (Nat.le_refl _), Nat.sub_self]; rfl
    · rw [q4, q3]; omega
    · rw [q4]; unfold maxLen at hcm; omega
    · rw [Nat.zero_add, ← List.append_assoc]
      exact Rep.mono (q6 i hi) (Kp.app _ _ _) fun _ h => h
theorem opn_slice {t e : TypeId} {α : Type} [Rep α] (ht : P.underlying t = some (.slice e)) (hs : P.cellsOf e = Rep.sz α) (he : Opn C enc P e α) : Opn C enc P t (List α) := by
  intro fuel cs y w ρ H h hF
  obtain ⟨N, ρ', vs, x, q1, q2, q3, q4, _⟩ := opn_sliceL ht hs he fuel cs y w ρ H h hF
  exact ⟨N, ρ', vs, x, q1, q2, q3, q4⟩
theorem opn_struct2 {t : TypeId} {f0 f1 : Field} {α β : Type} [Rep α] [Rep β] (ht : P.underlying t = some (.struct #[f0, f1])) (h0 : f0.offset = 0) (h1 : f1.offset = P.cellsOf f0.type) (hc : P.cellsOf t = P.cellsOf f0.type + P.cellsOf f1.type)
    (ha : Opn C enc P f0.type α) (hb : Opn C enc P f1.type β) : Opn C enc P t (α × β) := by
  intro fuel cs y w ρ H h hF
  obtain ⟨y0, y1, n, _, hl, e0, e1⟩ := trod_struct2 ht h
  rw [h0, List.drop_zero] at e0
  rw [h1, List.take_of_length_le (by rw [List.length_drop]; omega)] at e1
  obtain ⟨N, ρ1, vs, x, q1, q2, q3, q4⟩ := ha n _ _ w ρ H e0 hF
  obtain ⟨N2, ρ2, us, z, r1, r2, r3, r4⟩ := hb n _ _ w ρ1 (H ++ N) e1 q1
  refine ⟨N ++ N2, ρ2, vs ++ us, (x, z), by rw [← List.append_assoc]; exact r1, Mp.le_trans q2 r2, ?_, vs, us, rfl, ?_, ?_⟩
  · rw [← List.take_append_drop (P.cellsOf f0.type) cs]
    exact (VRelL.mono r2 _ _ q3).append r3
  · rw [← List.append_assoc]; exact Rep.mono q4 (Kp.app _ _ _) fun _ h => h
  · rw [← List.append_assoc]; exact r4

/-- the heap of the arguments alone: all of it older than the call -/
theorem FRel.hrel {ρ : Mp} {H : Heap} {w : World} (h : FRel C ρ H w) : HRel C (fun _ => True) ρ H.length w H w where
  below := Below.refl _ _
  inv := trivial
  lt := Nat.le_refl _
  dom := h.1
  own b r e hb := absurd (h.1 b r e) (by omega)
  apart b b' r r' k k' e _ hb := absurd (h.1 b r e) (by omega)
  blk b r k e hk := by
    have hb : ¬ H.length ≤ b := by have := h.1 b r e; omega
    have := h.2 b r k e hk
    cases k with
    | cells vs => exact ⟨this.1, fun q => absurd q hb, fun _ => this.2.2 (fun q => q)⟩
    | dead => trivial
    | loop st pend nt fr ps asg body => exact fun q => absurd q hb
/-- **from the abstract machine to the row's walk** -/
theorem walk_law {E : Tab} (hE : EOk C (fun _ => True) E) {f : Nat} {vs : List AV} {H : Heap} (hx : WpF E H.length f vs H fun v _ => v = .b true) {ρ : Mp} {w : World} (hF : FRel C ρ H w) {args : Array Value} (ha : VRelL ρ vs args.toList) :
    Calls C.P f args w fun e W' => e = .returned (.bool true) ∧ Below w.heap.size w W' := by
  obtain ⟨n, v, H', h1, rfl⟩ := hx
  refine (calls_of hE rfl h1 hF.hrel ha (Nat.le_refl _)).mono fun e W' h => ?_
  obtain ⟨ρ', x, rfl, h2, h3, _⟩ := h
  rw [h2.bool]
  exact ⟨rfl, h3.below⟩
end
end Go.AM
