/- Operations whose order is drawn: one step. Conditions as at 'EOk'. -/
import Derived.Test.YtflekaacffdakaaAmU
namespace Go.AM
open Go Go.RowKit

theorem fr_both {ρ1 ρ2 ρ3 : Mp} {nt : Nat} {fr : Fr} {t1 t2 : Array Value} (h : ∀ b r1 r2, ρ1 b = some r1 → ρ2 b = some r2 → ρ3 b = some r1) (h1 : FrRel ρ1 nt fr t1) (h2 : FrRel ρ2 nt fr t2) : FrRel ρ3 nt fr t1 :=
  ⟨h1.size, fun t ht => VRel.both h _ _ _ (h1.val t ht) (h2.val t ht)⟩
theorem brel_both {C : Cfg} {ρ1 ρ2 ρ3 : Mp} {own own2 : Prop} {B0 B2 : Nat} {w w2 : World} {r r2 : PB} {k : Blk} (h : ∀ b r1 r2, ρ1 b = some r1 → ρ2 b = some r2 → ρ3 b = some r1) (ho : own → own2)
    (h1 : BRel C ρ1 own B0 w r k) (h2 : BRel C ρ2 own2 B2 w2 r2 k) : BRel C ρ3 own B0 w r k := by
  cases k with
  | dead => trivial
  | cells vs => exact ⟨cells_both h h1.1 h2.1, h1.2⟩
  | loop st pend nt fr ps asg body =>
    intro hq
    obtain ⟨rec, q1, q2, q3, q4, q5⟩ := h1 hq
    obtain ⟨rec2, _, _, _, p4, _⟩ := h2 (ho hq)
    exact ⟨rec, q1, q2, q3, fr_both h q4 p4, q5⟩

section
variable {C : Cfg} {I : World → Prop} {E : Tab} {rec : Rec} {ρ : Mp} {L0 lo nt : Nat} {w0 wS w : World} {H : Heap} {a : Fr} {l : List AOper} {ops : Array Oper} {A : Nat → Fr} {Hs : Nat → Heap} {V : Nat → AV} {ρs : Nat → Mp} {ck : List (Nat × Nat)}
  {D : Nat → Prop} {c : Nat} {ρD : Mp} {aD : Fr} {am : Act}

/-- the blocks' places, with those of one operation -/
def overlay (Hs : Nat → Heap) (n j : Nat) (ρs : Nat → Mp) (ρD ρ1 : Mp) : Mp := fun b =>
  if (Hs j).length ≤ b ∧ b < (Hs (j + 1)).length then (if (ρs n b).isSome then ρ1 b else none) else ρD b
theorem overlay_in {n j b : Nat} {ρ1 : Mp} {r : PB} (h1 : (Hs j).length ≤ b) (h2 : b < (Hs (j + 1)).length) : overlay Hs n j ρs ρD ρ1 b = some r ↔ ρ1 b = some r ∧ ∃ r', ρs n b = some r' := by
  unfold overlay
  rw [if_pos ⟨h1, h2⟩]
  cases e : ρs n b <;> simp
theorem overlay_out {n j b : Nat} {ρ1 : Mp} (h : b < (Hs j).length ∨ (Hs (j + 1)).length ≤ b) : overlay Hs n j ρs ρD ρ1 b = ρD b := by
  unfold overlay
  rw [if_neg (by omega)]

theorem DS.frame (Q : DS C I ρ L0 nt w0 wS H a l ops Hs V ρs D c ρD aD am w) (K : Ctx C I E rec ρ L0 lo nt w0 wS H a l ops A Hs V ρs ck) {j : Nat} {o : AOper} (ho : l[j]? = some o) (hj : ¬ D j) :
    (∀ (i : Nat) (y : AOper) (d : Nat), D i ∨ i = j → l[i]? = some y → y.dst = some d → (aD.put o.dst (V j)) d = V i) ∧ (∀ t, (∀ (i : Nat) (y : AOper), D i ∨ i = j → l[i]? = some y → y.dst ≠ some t) → (aD.put o.dst (V j)) t = a t) := by
  constructor
  · intro i y d hi hy hd
    by_cases e : i = j
    · subst e
      rw [ho] at hy; cases hy
      rw [hd]; simp [Fr.put, Fr.upd]
    · have hDi : D i := hi.resolve_right e
      have hne : o.dst ≠ some d := fun q => by
        rcases Nat.lt_or_ge i j with h | h
        · exact (K.pair i j y o h hy ho).1 d d hd q rfl
        · exact (K.pair j i o y (by omega) ho hy).1 d d q hd rfl
      have : (aD.put o.dst (V j)) d = aD d := by
        cases e2 : o.dst with
        | none => rfl
        | some d' => rw [e2] at hne; simp only [Fr.put, Fr.upd]; rw [if_neg (fun q => hne (by rw [q]))]
      rw [this]; exact Q.frV i y d hDi hy hd
  · intro t ht
    have hne : o.dst ≠ some t := ht j o (.inr rfl) ho
    have : (aD.put o.dst (V j)) t = aD t := by
      cases e2 : o.dst with
      | none => rfl
      | some d' => rw [e2] at hne; simp only [Fr.put, Fr.upd]; rw [if_neg (fun q => hne (by rw [q]))]
    rw [this]; exact Q.frO t fun i y hi => ht i y (.inl hi)

theorem DS.range (Q : DS C I ρ L0 nt w0 wS H a l ops Hs V ρs D c ρD aD am w) (K : Ctx C I E rec ρ L0 lo nt w0 wS H a l ops A Hs V ρs ck) {j : Nat} (hjl : j < l.length) (hj : ¬ D j) {b : Nat} {r : PB} (h : ρD b = some r) : b < (Hs j).length ∨ ((Hs (j + 1)).length ≤ b ∧ ∃ i, j < i ∧ D i ∧ (Hs i).length ≤ b ∧ b < (Hs (i + 1)).length) := by
  rcases (Q.dom b r h).2 with h1 | ⟨i, hi, h1, h2⟩
  · left; have := K.len 0 j (by omega) (by omega); rw [K.h0] at this; omega
  · have hil := Q.lt i hi
    rcases Nat.lt_trichotomy i j with e | e | e
    · left; have := K.len (i + 1) j (by omega) (by omega); omega
    · subst e; exact absurd hi hj
    · right; have := K.len (j + 1) i (by omega) (by omega); exact ⟨by omega, i, e, hi, h1, h2⟩

theorem DS.overlay_le (Q : DS C I ρ L0 nt w0 wS H a l ops Hs V ρs D c ρD aD am w) (K : Ctx C I E rec ρ L0 lo nt w0 wS H a l ops A Hs V ρs ck) {j : Nat} (hjl : j < l.length) (hj : ¬ D j) (ρ1 : Mp) : Mp.le ρD (overlay Hs l.length j ρs ρD ρ1) := fun b r h => by
  rw [overlay_out ((Q.range K hjl hj h).imp id (·.1))]; exact h

theorem Ctx.overlayBoth (K : Ctx C I E rec ρ L0 lo nt w0 wS H a l ops A Hs V ρs ck) {j : Nat} (hjl : j < l.length) {ρ1 : Mp} {L n : Nat} {w1 w2 : World} (hE1 : Ext (ρD.cut (Hs j).length) L n w1 ρ1 w2) (hn : n = (Hs j).length) :
    ∀ b r1 r2, ρ1 b = some r1 → ρs (j + 1) b = some r2 → overlay Hs l.length j ρs ρD ρ1 b = some r1 := fun b r1 r2 h1 h2 => by
  have hb := K.S.dom (k := j + 1) (by omega) h2
  by_cases hlt : b < (Hs j).length
  · rw [overlay_out (.inl hlt)]
    cases e : ρD.cut (Hs j).length b with
    | none => have := (hE1.fresh b r1 h1 e).1; omega
    | some r0 =>
      have := hE1.le b r0 e
      rw [h1] at this; cases this
      exact (Mp.cut_some e).2
  · rw [overlay_in (by omega) hb]
    exact ⟨h1, r2, K.S.le' (j := j + 1) (k := l.length) (by omega) (Nat.le_refl _) b r2 h2⟩

theorem Ctx.readStep (K : Ctx C I E rec ρ L0 lo nt w0 wS H a l ops A Hs V ρs ck) (Q : DS C I ρ L0 nt w0 wS H a l ops Hs V ρs D c ρD aD am w) {j : Nat} {o : AOper} (ho : l[j]? = some o) (hj : ¬ D j) (hup : ∀ i, Ahead ops.toList j i → D i)
    (hn : o.op.cl C.kd ≠ .write) (b : Frame) (km : List Item) (cs : List Frame) (rest : List Nat) :
    ∃ c' ρ' aD' am' w', Steps C.P (lone (b.atR am (.inRegion ops (j :: rest) :: km)) cs w) (lone (b.atR am' (.inRegion ops rest :: km)) cs w') ∧ am'.defers = am.defers ∧ DS C I ρ L0 nt w0 wS H a l ops Hs V ρs (fun i => D i ∨ i = j) c' ρ' aD' am' w' := by
  have hjl := (List.getElem?_eq_some_iff.1 ho).1
  obtain ⟨G, new, hGl, hGst, hnew, _, hcj, hn1, hGv⟩ := K.viewHeap Q ho hj hup hn
  obtain ⟨a', ha', hfr⟩ := K.view Q ho hj hup
  obtain ⟨om, hom, hpo⟩ := K.hp j o ho
  obtain ⟨_, _, hdn, _⟩ := prepOper_spec hpo
  have hI : I w := K.hE.stable _ _ Q.hp.inv Q.hp.below
  have hG : HRel C I (ρD.cut (Hs j).length) G.length w G w := HRel.ofView hI (fun b r e => by rw [hGl]; exact (Mp.cut_some e).1) hGv
  obtain ⟨ρ1, x, w', s, hv, hH1, hE1, _⟩ := oper_sim (lo := (Hs j).length) K.hE K.hS K.hR hom hpo (a := a') (H := G) (v := V j) (H' := G ++ new) (by
    show stepV E rec (Hs j).length o a' G = _
    rw [stepV_congr ha']; exact hGst) hG hfr (by rw [hGl]; exact Nat.le_refl _) b km cs (rest := rest)
  have hBw : Below w.heap.size w w' := hH1.below
  have hle := Q.overlay_le K hjl hj ρ1
  have hboth := K.overlayBoth hjl hE1 hGl
  have hl := Q.hp.later hBw
  have hlen : (Hs (j + 1)).length = (Hs j).length + new.length := by rw [hnew]; simp
  have hH0 : H.length ≤ (Hs j).length := by have := K.len 0 j (by omega) (by omega); rwa [K.h0] at this
  have hjn := K.len (j + 1) l.length (by omega) (Nat.le_refl _)
  have hL0 : L0 ≤ H.length := K.start.lt
  have hcase : ∀ b r, overlay Hs l.length j ρs ρD ρ1 b = some r → ρD b = some r ∨ ((Hs j).length ≤ b ∧ b < (Hs (j + 1)).length ∧ ρ1 b = some r ∧ ∃ r', ρs l.length b = some r') := fun b r h => by
    by_cases hr : (Hs j).length ≤ b ∧ b < (Hs (j + 1)).length
    · right; exact ⟨hr.1, hr.2, (overlay_in hr.1 hr.2).1 h⟩
    · left; rwa [overlay_out (by omega)] at h
  have hown1 : ∀ b r, (Hs j).length ≤ b → ρ1 b = some r → w.heap.size ≤ r.a.block ∧ r.a.block < w'.heap.size ∧ r.a.spot = none := fun b r h e => hH1.own b r e (by omega)
  have hcont : ∀ b, (Hs j).length ≤ b → b < (Hs (j + 1)).length → (HD Hs l.length c)[b]? = (Hs (j + 1))[b]? ∧ (G ++ new)[b]? = (Hs (j + 1))[b]? := fun b h1 h2 => by
    have hcle : c ≤ j := hcj fun e => by rw [e] at hlen; simp at hlen; omega
    have hbn : b < (Hs l.length).length := by omega
    refine ⟨?_, by rw [hnew, List.getElem?_append_right (by omega), List.getElem?_append_right h1, hGl]⟩
    have e1 := own_gt K.len (j := j) (by omega) hbn h1
    have e2 := own_le K.len (j := j + 1) (by omega) h2
    rw [HD_get K.len Q.cle hbn, show max (own Hs b l.length) c = j + 1 by omega]
  have holdlt : ∀ b r, ρD b = some r → L0 ≤ b → r.a.block < w.heap.size := fun b r e h => (Q.hp.own b r e h).2.1
  obtain ⟨hfV, hfO⟩ := Q.frame K ho hj
  refine ⟨c, overlay Hs l.length j ρs ρD ρ1, aD.put o.dst (V j), am.put o.dst x, w', s, put_defers .., ?_⟩
  refine ⟨?_, ?_, Q.cle, ?_, ?_, hfV, hfO, (Q.fr.mono hle).put' hdn ?_, ?_, ?_, ?_, ?_⟩
  · rintro i (hi | rfl)
    · exact Q.lt i hi
    · exact hjl
  · rintro i (hi | rfl) q hq
    · exact .inl (Q.down i hi q hq)
    · exact .inl (hup q hq)
  · rintro i y (hi | rfl) hy hw
    · exact Q.cW i y hi hy hw
    · rw [ho] at hy; cases hy; exact absurd hw hn
  · intro h; obtain ⟨q1, q2⟩ := Q.cD h; exact ⟨.inl q1, q2⟩
  · obtain ⟨y, hy⟩ := K.S.val j hjl
    exact VRel.both hboth _ _ _ hv hy
  · -- the heap
    refine ⟨hl.below, hl.inv, hl.lt, fun b r e => ?_, fun b r e hL => ?_, ?_, ?_⟩
    · rw [HD_len]
      rcases hcase b r e with h | ⟨_, h, _⟩
      · have := Q.hp.dom b r h; rwa [HD_len] at this
      · omega
    · rcases hcase b r e with h | ⟨h1, _, h3, _⟩
      · exact hl.own b r h hL
      · have := hown1 b r h1 h3
        have := Q.hp.below.size
        exact ⟨by omega, by omega, by simp_all⟩
    · intro b b' r r' k k' e e' hL hL' hk hk' hl1 hl2 hbl
      rcases hcase b r e with h | ⟨h1, h2, h3, _⟩ <;> rcases hcase b' r' e' with h' | ⟨h1', h2', h3', _⟩
      · exact hl.apart b b' r r' k k' h h' hL hL' hk hk' hl1 hl2 hbl
      · have := holdlt b r h hL; have := (hown1 b' r' h1' h3').1; omega
      · have := holdlt b' r' h' hL'; have := (hown1 b r h1 h3).1; omega
      · obtain ⟨q1, q2⟩ := hcont b h1 h2
        obtain ⟨q1', q2'⟩ := hcont b' h1' h2'
        exact hH1.apart b b' r r' k k' h3 h3' (by omega) (by omega) (by rw [q2, ← q1]; exact hk) (by rw [q2', ← q1']; exact hk') hl1 hl2 hbl
    · intro b r k e hk
      rcases hcase b r e with h | ⟨h1, h2, h3, r', h4⟩
      · exact (hl.blk b r k h hk).mono hle rfl
      · obtain ⟨q1, q2⟩ := hcont b h1 h2
        rw [q1] at hk
        have hB := hH1.blk b r k h3 (by rw [q2]; exact hk)
        obtain ⟨wj, hwj⟩ := K.S.hp (j + 1) (by omega)
        have hB2 := hwj.blk b r' k (K.S.back' K.len (by omega) (Nat.le_refl _) h4 h2) hk
        have e1 : (G.length ≤ b) = True := by simp; omega
        have e2 : (L0 ≤ b) = True := by simp; omega
        rw [e1] at hB; rw [e2] at hB2 ⊢
        have := brel_both hboth id hB hB2
        cases k with
        | dead => trivial
        | loop => exact this
        | cells vs => exact ⟨this.1, this.2.1, fun q => absurd trivial q⟩
  · -- what was there
    refine ⟨Mp.le_trans Q.ext.le hle, fun b r e e0 => ?_, Nat.le_trans Q.ext.size hBw.size, fun pb hp hno => (hBw.block pb (Nat.lt_of_lt_of_le hp Q.ext.size)).trans (Q.ext.keep pb hp hno)⟩
    rcases hcase b r e with h | ⟨h1, _, h3, _⟩
    · exact Q.ext.fresh b r h e0
    · have := (hown1 b r h1 h3).1
      have := Q.ext.size
      exact ⟨by omega, .inl (by omega)⟩
  · intro b r e
    rcases hcase b r e with h | ⟨h1, h2, h3, h4⟩
    · obtain ⟨q1, q2⟩ := Q.dom b r h
      exact ⟨q1, q2.imp id fun ⟨i, hi, q⟩ => ⟨i, .inl hi, q⟩⟩
    · exact ⟨h4, .inr ⟨j, .inr rfl, h1, h2⟩⟩
  · intro i y hi hy hw hc hlt r hr b' r' hne hr' hL
    rcases hi with hi | rfl
    · -- an earlier one
      have hold : ρD (Hs i).length = some r := by
        rcases hcase _ _ hr with h | ⟨h1, h2, _, _⟩
        · exact h
        · exfalso
          rcases Nat.lt_trichotomy i j with e | e | e
          · have := K.len (i + 1) j (by omega) (by omega); omega
          · subst e; exact hj hi
          · have := K.len (j + 1) i (by omega) (by have := Q.lt i hi; omega); omega
      rcases hcase b' r' hr' with h | ⟨h1, _, h3, _⟩
      · exact Q.uns i y hi hy hw hc hlt r hold b' r' hne h hL
      · have := (hown1 b' r' h1 h3).1
        have := holdlt _ _ hold (by have := K.len 0 i (by omega) (by have := Q.lt i hi; omega); rw [K.h0] at this; omega)
        omega
    · rw [ho] at hy; cases hy
      have hone := hn1 hw
      rcases hcase _ _ hr with h | ⟨h1, h2, h3, _⟩
      · rcases Q.range K hjl hj h with q | ⟨q, _⟩ <;> omega
      · have hb := (hown1 _ r h1 h3).1
        rcases hcase b' r' hr' with h' | ⟨h1', h2', _, _⟩
        · have := holdlt b' r' h' hL; omega
        · omega
end
end Go.AM
