/- Operations whose order is drawn: a state, and what an operation that writes to nothing makes of it. Conditions as at 'EOk'. -/
import Derived.Test.YtflekaacffdakaaAmS
namespace Go.AM
open Go Go.RowKit

def ldX (n : Option Nat) (H : Heap) (b o : Nat) : Option (List AV) :=
  match n with
  | none => (ld H b o).map fun v => [v]
  | some n => ldn H b o n
theorem ldX_congr {n : Option Nat} {H H' : Heap} {b o : Nat} (h : H'[b]? = H[b]?) : ldX n H' b o = ldX n H b o := by
  cases n <;> simp only [ldX, ld, ldn, h]
theorem sameO_eq {x y : Option AV} (h : sameO x y = true) : x = y := by
  cases x <;> cases y <;> simp [sameO] at h
  · rfl
  · rw [AV.eq_of_same _ _ h]
theorem sameLO_eq {x y : Option (List AV)} (h : sameLO x y = true) : x = y := by
  cases x <;> cases y <;> simp [sameLO] at h
  · rfl
  · rw [AV.eq_of_sameL _ _ h]

section
variable {C : Cfg} {I : World → Prop} {E : Tab} {rec : Rec} {ρ : Mp} {L0 lo nt : Nat} {w0 wS w : World} {H : Heap} {a : Fr} {l : List AOper} {ops : Array Oper} {A : Nat → Fr} {Hs : Nat → Heap} {V : Nat → AV} {ρs : Nat → Mp} {ck : List (Nat × Nat)}

structure Ctx (C : Cfg) (I : World → Prop) (E : Tab) (rec : Rec) (ρ : Mp) (L0 lo nt : Nat) (w0 wS : World) (H : Heap) (a : Fr) (l : List AOper) (ops : Array Oper) (A : Nat → Fr) (Hs : Nat → Heap) (V : Nat → AV) (ρs : Nat → Mp) (ck : List (Nat × Nat)) : Prop where
  hE : EOk C I E
  hS : Sim C I rec
  hR : LenR rec
  T : Tr E rec lo l a H A Hs V
  hlo : L0 ≤ lo
  hp : ∀ (j : Nat) (o : AOper), l[j]? = some o → ∃ om, ops[j]? = some om ∧ prepOper C nt ops om = some o
  S : Seqs C I L0 w0 nt l.length A Hs V ρ ρs
  start : HRel C I ρ L0 w0 H wS
  pair : ∀ (i j : Nat) (x y : AOper), i < j → l[i]? = some x → l[j]? = some y → (∀ d d', x.dst = some d → y.dst = some d' → d ≠ d') ∧
    (Ahead ops.toList j i ∨ ((∀ d, x.dst = some d → d ∉ y.reads) ∧ (∀ d, y.dst = some d → d ∉ x.reads) ∧ memOk ck i j (x.op.cl C.kd) (y.op.cl C.kd) = true))
  chk : ∀ (j i : Nat), (j, i) ∈ ck → ∀ (o : AOper) (n : Option Nat) (x : AX), l[j]? = some o → o.op = .load n x → ∀ b off, ev (A j) x = .p b off → b < (Hs i).length → ldX n (Hs i) b off = ldX n (Hs (i + 1)) b off

variable (K : Ctx C I E rec ρ L0 lo nt w0 wS H a l ops A Hs V ρs ck)
include K
theorem Ctx.len : ∀ j k, j ≤ k → k ≤ l.length → (Hs j).length ≤ (Hs k).length := fun _ _ h1 h2 => K.T.len K.hR h1 h2
theorem Ctx.h0 : Hs 0 = H := K.T.h0
omit K in
theorem stepV_new {o : AOper} {v : AV} {H1 : Heap} (hc : o.op.cl E.kd ≠ .write) (h : stepV E rec lo o a H = some (v, H1)) : ∃ new : List Blk, H1 = H ++ new ∧ ∀ k ∈ new, noLoop k := by
  unfold stepV at h
  split at h
  · cases hk : o.op.cl E.kd with
    | pure => obtain ⟨rfl, _⟩ := opF_pure hk h; exact ⟨[], by simp, fun _ q => by cases q⟩
    | new => obtain ⟨vs, rfl, _⟩ := opF_new hk h; exact ⟨_, rfl, fun k q => by simp at q; subst q; trivial⟩
    | load =>
      refine ⟨[], ?_, fun _ q => by cases q⟩
      have : ∃ n x, o.op = .load n x := by cases ho : o.op <;> rw [ho] at hk <;> simp [AOp.cl] at hk <;> first | exact ⟨_, _, rfl⟩ | (split at hk <;> cases hk)
      obtain ⟨n, x, e⟩ := this
      rw [e] at h
      simp only [opF, opA] at h
      split at h
      · obtain ⟨_, _, e2⟩ := Option.map_eq_some_iff.1 h; cases e2; simp
      · obtain ⟨_, _, e2⟩ := Option.map_eq_some_iff.1 h; cases e2; simp
      · cases h
    | call => exact (opF_call hk h).1
    | write => exact absurd hk hc
  · cases h; exact ⟨[], by simp, fun _ q => by cases q⟩
  · cases h
theorem Ctx.still {j k : Nat} (hjk : j ≤ k) (hk : k ≤ l.length) (hW : ∀ i o, j ≤ i → i < k → l[i]? = some o → o.op.cl C.kd ≠ .write) {b : Nat} (hb : b < (Hs j).length) : (Hs k)[b]? = (Hs j)[b]? := by
  induction hjk with
  | refl => rfl
  | @step m hm ih =>
    have hst := (K.T.step m l[m] (by simp)).1
    obtain ⟨new, e, _⟩ := stepV_new (by rw [K.hE.kd]; exact hW m l[m] hm (by omega) (by simp)) hst
    rw [e, List.getElem?_append_left (Nat.lt_of_lt_of_le hb (K.len j m hm (by omega)))]
    exact ih (by omega) fun i o h1 h2 => hW i o h1 (by omega)

/-- the state where D is done -/
structure DS (C : Cfg) (I : World → Prop) (ρ : Mp) (L0 nt : Nat) (w0 wS : World) (H : Heap) (a : Fr) (l : List AOper) (ops : Array Oper) (Hs : Nat → Heap) (V : Nat → AV) (ρs : Nat → Mp) (D : Nat → Prop) (c : Nat) (ρD : Mp) (aD : Fr) (am : Act) (w : World) : Prop where
  lt : ∀ j, D j → j < l.length
  down : ∀ j, D j → ∀ i, Ahead ops.toList j i → D i
  cle : c ≤ l.length
  cW : ∀ (j : Nat) (o : AOper), D j → l[j]? = some o → o.op.cl C.kd = .write → j < c
  cD : c ≠ 0 → D (c - 1) ∧ ∃ o : AOper, l[c - 1]? = some o ∧ o.op.cl C.kd = .write
  frV : ∀ (j : Nat) (o : AOper) (d : Nat), D j → l[j]? = some o → o.dst = some d → aD d = V j
  frO : ∀ t, (∀ (j : Nat) (o : AOper), D j → l[j]? = some o → o.dst ≠ some t) → aD t = a t
  fr : FrRel ρD nt aD am.tmps
  hp : HRel C I ρD L0 w0 (HD Hs l.length c) w
  ext : Ext ρ L0 H.length wS ρD w
  dom : ∀ b r, ρD b = some r → (∃ r', ρs l.length b = some r') ∧ (b < H.length ∨ ∃ j, D j ∧ (Hs j).length ≤ b ∧ b < (Hs (j + 1)).length)
  uns : ∀ (j : Nat) (o : AOper), D j → l[j]? = some o → o.op.cl C.kd = .new → c ≤ j → (Hs j).length < (Hs (j + 1)).length → ∀ r, ρD (Hs j).length = some r → ∀ b' r', b' ≠ (Hs j).length → ρD b' = some r' → L0 ≤ b' → r'.a.block ≠ r.a.block

variable {D : Nat → Prop} {c : Nat} {ρD : Mp} {aD : Fr} {am : Act}

theorem Ctx.aval (j : Nat) (hj : j ≤ l.length) (t : Nat) : (∃ i o, i < j ∧ l[i]? = some o ∧ o.dst = some t ∧ A j t = V i) ∨ ((∀ i o, i < j → l[i]? = some o → o.dst ≠ some t) ∧ A j t = a t) := by
  induction j with
  | zero => right; exact ⟨fun i o h => by omega, by rw [K.T.a0]⟩
  | succ j ih =>
    have hst := (K.T.step j l[j] (by simp)).2
    by_cases hd : l[j].dst = some t
    · left
      refine ⟨j, l[j], by omega, by simp, hd, ?_⟩
      rw [hst, hd]; simp [Fr.put, Fr.upd]
    · have hA : A (j + 1) t = A j t := by
        rw [hst]
        cases e : l[j].dst with
        | none => rfl
        | some d => rw [e] at hd; simp only [Fr.put, Fr.upd]; rw [if_neg (fun e' => hd (by rw [e']))]
      rcases ih (by omega) with ⟨i, o, h1, h2, h3, h4⟩ | ⟨h1, h2⟩
      · exact .inl ⟨i, o, by omega, h2, h3, by rw [hA]; exact h4⟩
      · right
        refine ⟨fun i o hi ho => ?_, by rw [hA]; exact h2⟩
        by_cases e : i = j
        · subst e
          rw [List.getElem?_eq_getElem (by omega)] at ho
          cases ho; exact hd
        · exact h1 i o (by omega) ho

variable (Q : DS C I ρ L0 nt w0 wS H a l ops Hs V ρs D c ρD aD am w) {j : Nat} {o : AOper} (ho : l[j]? = some o) (hj : ¬ D j) (hup : ∀ i, Ahead ops.toList j i → D i)
include Q ho hj hup
theorem Ctx.reads : ∀ t ∈ o.reads, A j t = aD t := by
  intro t ht
  have hjl := (List.getElem?_eq_some_iff.1 ho).1
  rcases K.aval j (by omega) t with ⟨i, x, h1, h2, h3, h4⟩ | ⟨h1, h2⟩
  · rcases (K.pair i j x o h1 h2 ho).2 with h | ⟨h, _⟩
    · rw [h4, Q.frV i x t (hup i h) h2 h3]
    · exact absurd ht (h t h3)
  · rw [h2, Q.frO t]
    intro i x hi hx hd
    rcases Nat.lt_trichotomy i j with e | e | e
    · exact h1 i x e hx hd
    · subst e; exact hj hi
    · rcases (K.pair j i o x e ho hx).2 with h | ⟨_, h, _⟩
      · exact hj (Q.down i hi j h)
      · exact h t hd ht

omit K Q ho hj hup in
def Mp.cut (ρ : Mp) (m : Nat) : Mp := fun b => if b < m then ρ b else none
omit K Q ho hj hup in
theorem Mp.cut_some {ρ : Mp} {m b : Nat} {r : PB} (h : ρ.cut m b = some r) : b < m ∧ ρ b = some r := by
  unfold Mp.cut at h
  split at h
  · exact ⟨by assumption, h⟩
  · cases h
omit Q hj hup in
theorem Ctx.cutBoth : ∀ b r1 r2, ρD b = some r1 → ρs j b = some r2 → ρD.cut (Hs j).length b = some r1 := fun b r1 r2 h1 h2 => by
  have hjl := (List.getElem?_eq_some_iff.1 ho).1
  have := K.S.dom (k := j) (by omega) h2
  simp [Mp.cut, this, h1]

/-- the frame, at the places that the operation reads -/
theorem Ctx.view : ∃ a' : Fr, (∀ t ∈ o.reads, a' t = A j t) ∧ FrRel (ρD.cut (Hs j).length) nt a' am.tmps := by
  have hjl := (List.getElem?_eq_some_iff.1 ho).1
  have hr := K.reads Q ho hj hup
  refine ⟨fun t => if t ∈ o.reads then A j t else .un, fun t ht => if_pos ht, Q.fr.size, fun t ht => ?_⟩
  split
  · rename_i hm
    obtain ⟨ts, hts⟩ := K.S.fr j (by omega)
    have h1 := Q.fr.val t ht
    rw [← hr t hm] at h1
    exact VRel.both (K.cutBoth ho) _ _ _ h1 (hts.val t ht)
  · simp [VRel]

omit K Q ho hj hup in
theorem cells_both {ρ1 ρ2 ρ3 : Mp} {w2 : World} {a1 a2 : Addr} {vs : List AV} (h : ∀ b r1 r2, ρ1 b = some r1 → ρ2 b = some r2 → ρ3 b = some r1) (h1 : CellsRel ρ1 w a1 vs) (h2 : CellsRel ρ2 w2 a2 vs) : CellsRel ρ3 w a1 vs := fun i v e => by
  obtain ⟨x, q1, q2, q3⟩ := h1 i v e
  obtain ⟨y, _, q5, _⟩ := h2 i v e
  exact ⟨x, q1, VRel.both h _ _ _ q2 q5, q3⟩
omit K Q ho hj hup in
theorem HRel.ofView {ρj : Mp} {G : Heap} (hI : I w) (hd : ∀ b r, ρj b = some r → b < G.length) (hv : ∀ b r k, ρj b = some r → G[b]? = some k → BRel C ρj False w.heap.size w r k) : HRel C I ρj G.length w G w := by
  refine ⟨Below.refl _ w, hI, Nat.le_refl _, hd, fun b r e hL => ?_, fun b b' r r' k k' e _ hL => ?_, fun b r k e hk => ?_⟩
  · have := hd b r e; omega
  · have := hd b r e; omega
  · have : (G.length ≤ b) = False := by have := hd b r e; simp; omega
    rw [this]; exact hv b r k e hk

omit K ho hj in
/-- the writing operations that are done are those ahead -/
theorem DS.wBefore (hq : ∀ (i : Nat) (x : AOper), i < j → l[i]? = some x → x.op.cl C.kd = .write → Ahead ops.toList j i) : ∀ (i : Nat) (x : AOper), c ≤ i → i < j → l[i]? = some x → x.op.cl C.kd ≠ .write := fun i x h1 h2 hx hw => by
  have := Q.cW i x (hup i (hq i x h2 hx hw)) hx hw
  omega
omit K ho hup in
theorem DS.cBefore (hq : ∀ (i : Nat) (x : AOper), j < i → l[i]? = some x → x.op.cl C.kd = .write → Ahead ops.toList i j) : c ≤ j := by
  rcases Nat.lt_or_ge j c with h | h
  · obtain ⟨h1, x, hx, hw⟩ := Q.cD (by omega)
    by_cases e : c - 1 = j
    · rw [e] at h1; exact absurd h1 hj
    · exact absurd (Q.down _ h1 j (hq (c - 1) x (by omega) hx hw)) hj
  · exact h
end
end Go.AM
