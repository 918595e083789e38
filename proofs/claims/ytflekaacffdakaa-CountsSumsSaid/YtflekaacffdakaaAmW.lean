/- Operations whose order is drawn: a step that writes; the whole region. Conditions as at 'EOk'. -/
import Derived.Test.YtflekaacffdakaaAmV
namespace Go.AM
open Go Go.RowKit
section
variable {C : Cfg} {I : World → Prop} {E : Tab} {rec : Rec} {ρ : Mp} {L0 lo nt : Nat} {w0 wS w : World} {H : Heap} {a : Fr} {l : List AOper} {ops : Array Oper} {A : Nat → Fr} {Hs : Nat → Heap} {V : Nat → AV} {ρs : Nat → Mp} {ck : List (Nat × Nat)}
  {D : Nat → Prop} {c : Nat} {ρD : Mp} {aD : Fr} {am : Act}

theorem Ctx.writeStep (K : Ctx C I E rec ρ L0 lo nt w0 wS H a l ops A Hs V ρs ck) (Q : DS C I ρ L0 nt w0 wS H a l ops Hs V ρs D c ρD aD am w) {j : Nat} {o : AOper} (ho : l[j]? = some o) (hj : ¬ D j) (hup : ∀ i, Ahead ops.toList j i → D i)
    (hn : o.op.cl C.kd = .write) (b : Frame) (km : List Item) (cs : List Frame) (rest : List Nat) :
    ∃ c' ρ' aD' am' w', Steps C.P (lone (b.atR am (.inRegion ops (j :: rest) :: km)) cs w) (lone (b.atR am' (.inRegion ops rest :: km)) cs w') ∧ am'.defers = am.defers ∧ DS C I ρ L0 nt w0 wS H a l ops Hs V ρs (fun i => D i ∨ i = j) c' ρ' aD' am' w' := by
  have hjl := (List.getElem?_eq_some_iff.1 ho).1
  have hbefore := Q.wBefore hup (j := j) fun i x hi hx hw' => by
    rcases (K.pair i j x o hi hx ho).2 with h | ⟨_, _, h⟩
    · exact h
    · rw [hn, hw'] at h; simp [memOk] at h
  have hc : c ≤ j := Q.cBefore hj fun i x hi hx hw' => by
    rcases (K.pair j i o x hi ho hx).2 with h | ⟨_, _, h⟩
    · exact h
    · rw [hn, hw'] at h; simp [memOk] at h
  have hH0 : H.length ≤ (Hs j).length := by have := K.len 0 j (by omega) (by omega); rwa [K.h0] at this
  have hjj := K.len j (j + 1) (by omega) (by omega)
  have hjn := K.len (j + 1) l.length (by omega) (Nat.le_refl _)
  have hL0 : L0 ≤ H.length := K.start.lt
  obtain ⟨a', ha', hfr⟩ := K.view Q ho hj hup
  obtain ⟨om, hom, hpo⟩ := K.hp j o ho
  obtain ⟨_, _, hdn, _⟩ := prepOper_spec hpo
  -- the heap ahead of it
  have hget : ∀ b, b < (Hs j).length → (HD Hs l.length c)[b]? = (Hs j)[b]? := fun b hb => by
    have hbn : b < (Hs l.length).length := by omega
    have hown := own_le K.len (j := j) (by omega) hb
    obtain ⟨hs1, hs2, _⟩ := own_spec K.len hbn
    rw [HD_get K.len Q.cle hbn]
    refine (K.still (j := max (own Hs b l.length) c) (k := j) (by omega) (by omega) (fun i x h1 h2 hx => hbefore i x (by omega) h2 hx) ?_).symm
    exact Nat.lt_of_lt_of_le hs2 (K.len _ _ (Nat.le_max_left ..) (by omega))
  have hG : HRel C I (ρD.cut (Hs j).length) L0 w0 (Hs j) w := by
    refine ⟨Q.hp.below, Q.hp.inv, by omega, fun b r e => (Mp.cut_some e).1, fun b r e hL => Q.hp.own b r (Mp.cut_some e).2 hL, ?_, ?_⟩
    · intro b b' r r' k k' e e' hL hL' hk hk' hl1 hl2 hbl
      obtain ⟨q1, q2⟩ := Mp.cut_some e
      obtain ⟨q1', q2'⟩ := Mp.cut_some e'
      exact Q.hp.apart b b' r r' k k' q2 q2' hL hL' (by rw [hget b q1]; exact hk) (by rw [hget b' q1']; exact hk') hl1 hl2 hbl
    · intro b r k e hk
      obtain ⟨q1, q2⟩ := Mp.cut_some e
      have hB := Q.hp.blk b r k q2 (by rw [hget b q1]; exact hk)
      obtain ⟨⟨r', hr'⟩, _⟩ := Q.dom b r q2
      obtain ⟨wj, hwj⟩ := K.S.hp j (by omega)
      have hB2 := hwj.blk b r' k (K.S.back' K.len (by omega) (Nat.le_refl _) hr' q1) hk
      exact brel_both (K.cutBoth ho) id hB hB2
  have hst := (K.T.step j o ho).1
  obtain ⟨ρ1, x, w', s, hv, hH1, hE1, _⟩ := oper_sim K.hE K.hS K.hR hom hpo (a := a') (H := Hs j) (v := V j) (H' := Hs (j + 1)) (lo := lo) (by
    show stepV E rec lo o a' (Hs j) = _
    rw [stepV_congr ha']; exact hst) hG hfr K.hlo b km cs (rest := rest)
  have hle := Q.overlay_le K hjl hj ρ1
  have hboth := K.overlayBoth hjl hE1 rfl
  have hcase : ∀ b r, overlay Hs l.length j ρs ρD ρ1 b = some r → (b < (Hs (j + 1)).length ∧ ρ1 b = some r ∧ ∃ r', ρs l.length b = some r') ∨ ((Hs (j + 1)).length ≤ b ∧ ρD b = some r) := fun b r h => by
    by_cases h1 : (Hs (j + 1)).length ≤ b
    · right; rw [overlay_out (.inr h1)] at h; exact ⟨h1, h⟩
    · left
      by_cases h2 : (Hs j).length ≤ b
      · obtain ⟨q1, q2⟩ := (overlay_in h2 (by omega)).1 h
        exact ⟨by omega, q1, q2⟩
      · rw [overlay_out (.inl (by omega))] at h
        refine ⟨by omega, hE1.le b r ?_, (Q.dom b r h).1⟩
        simp [Mp.cut, h, show b < (Hs j).length by omega]
  have holdlt : ∀ b r, ρD b = some r → L0 ≤ b → r.a.block < w.heap.size := fun b r e h => (Q.hp.own b r e h).2.1
  -- blocks of later operations are nobody else's
  have later : ∀ b r, (Hs (j + 1)).length ≤ b → ρD b = some r → ∀ b' r', b' ≠ b → ρD b' = some r' → L0 ≤ b' → r'.a.block ≠ r.a.block := fun b r hb hr => by
    rcases Q.range K hjl hj hr with h | ⟨_, i, hij, hi, h1, h2⟩
    · omega
    · have hil := Q.lt i hi
      have hy : l[i]? = some l[i] := by simp
      have hsti := (K.T.step i l[i] hy).1
      rcases (K.pair j i o l[i] hij ho hy).2 with h | ⟨_, _, h⟩
      · exact absurd (Q.down i hi j h) hj
      · rw [hn] at h
        have hlt : (Hs i).length < (Hs (i + 1)).length := by omega
        have hcl : l[i].op.cl C.kd = .new ∧ (Hs (i + 1)).length = (Hs i).length + 1 := by
          unfold stepV at hsti
          split at hsti
          · cases hk : l[i].op.cl C.kd with
            | pure => obtain ⟨e, _⟩ := opF_pure hk hsti; rw [e] at hlt; omega
            | new => obtain ⟨vs, e, _⟩ := opF_new hk hsti; exact ⟨rfl, by rw [e]; simp⟩
            | load =>
              have : ∃ n x, l[i].op = .load n x := by cases ho' : l[i].op <;> rw [ho'] at hk <;> simp [AOp.cl] at hk <;> first | exact ⟨_, _, rfl⟩ | (split at hk <;> cases hk)
              obtain ⟨n, x, e⟩ := this
              rw [e] at hsti
              simp only [opF, opA] at hsti
              split at hsti
              · obtain ⟨_, _, e2⟩ := Option.map_eq_some_iff.1 hsti; simp only [Prod.mk.injEq] at e2; rw [← e2.2] at hlt; omega
              · obtain ⟨_, _, e2⟩ := Option.map_eq_some_iff.1 hsti; simp only [Prod.mk.injEq] at e2; rw [← e2.2] at hlt; omega
              · cases hsti
            | call => rw [hk] at h; simp [memOk] at h
            | write => rw [hk] at h; simp [memOk] at h
          · simp only [Option.some.injEq, Prod.mk.injEq] at hsti; rw [← hsti.2] at hlt; omega
          · cases hsti
        have hbi : b = (Hs i).length := by omega
        subst hbi
        exact Q.uns i l[i] hi hy hcl.1 (by omega) hlt r hr
  -- the new places share no block with those of later operations
  have apart1 : ∀ b r b' r', b < (Hs (j + 1)).length → ρ1 b = some r → L0 ≤ b → (Hs (j + 1)).length ≤ b' → ρD b' = some r' → r.a.block ≠ r'.a.block := fun b r b' r' hb h1 hL hb' h2 => by
    have hlt' := holdlt b' r' h2 (by omega)
    cases e : ρD.cut (Hs j).length b with
    | some r0 =>
      have := hE1.le b r0 e
      rw [h1] at this; cases this
      exact later b' r' hb' h2 b r (by omega) (Mp.cut_some e).2 hL
    | none =>
      obtain ⟨_, h⟩ := hE1.fresh b r h1 e
      rcases h with h | ⟨b0, r0, hL0', e1, e2⟩
      · omega
      · rw [← e2]
        exact later b' r' hb' h2 b0 r0 (by have := (Mp.cut_some e1).1; omega) (Mp.cut_some e1).2 hL0'
  have hkeep : ∀ b r, (Hs (j + 1)).length ≤ b → ρD b = some r → w'.heap[r.a.block]? = w.heap[r.a.block]? := fun b r hb hr =>
    hE1.keep _ (holdlt b r hr (by omega)) fun b0 r0 e hL => later b r hb hr b0 r0 (by have := (Mp.cut_some e).1; omega) (Mp.cut_some e).2 hL
  -- the heap behind it
  have hget1 : ∀ b, b < (Hs (j + 1)).length → (HD Hs l.length (j + 1))[b]? = (Hs (j + 1))[b]? := fun b hb => by
    have := own_le K.len (j := j + 1) (by omega) hb
    rw [HD_get K.len (by omega) (by omega), show max (own Hs b l.length) (j + 1) = j + 1 by omega]
  have hget2 : ∀ b, (Hs (j + 1)).length ≤ b → b < (Hs l.length).length → (HD Hs l.length (j + 1))[b]? = (HD Hs l.length c)[b]? := fun b hb hbn => by
    have := own_gt K.len (j := j + 1) (by omega) hbn hb
    rw [HD_get K.len (by omega) hbn, HD_get K.len Q.cle hbn, show max (own Hs b l.length) (j + 1) = own Hs b l.length by omega, show max (own Hs b l.length) c = own Hs b l.length by omega]
  have hDn : ∀ b r, ρD b = some r → b < (Hs l.length).length := fun b r e => by have := Q.hp.dom b r e; rwa [HD_len] at this
  obtain ⟨hfV, hfO⟩ := Q.frame K ho hj
  refine ⟨j + 1, overlay Hs l.length j ρs ρD ρ1, aD.put o.dst (V j), am.put o.dst x, w', s, put_defers .., ?_⟩
  refine ⟨?_, ?_, by omega, ?_, ?_, hfV, hfO, (Q.fr.mono hle).put' hdn ?_, ?_, ?_, ?_, ?_⟩
  · rintro i (hi | rfl)
    · exact Q.lt i hi
    · exact hjl
  · rintro i (hi | rfl) q hq
    · exact .inl (Q.down i hi q hq)
    · exact .inl (hup q hq)
  · rintro i y (hi | rfl) hy hw
    · have := Q.cW i y hi hy hw; omega
    · omega
  · intro _; exact ⟨.inr (by omega), o, by simpa using ho, hn⟩
  · obtain ⟨y, hy⟩ := K.S.val j hjl
    exact VRel.both hboth _ _ _ hv hy
  · refine ⟨hH1.below, hH1.inv, by rw [HD_len]; omega, fun b r e => ?_, fun b r e hL => ?_, ?_, ?_⟩
    · rw [HD_len]
      rcases hcase b r e with ⟨h, _⟩ | ⟨_, h⟩
      · omega
      · exact hDn b r h
    · rcases hcase b r e with ⟨_, h, _⟩ | ⟨_, h⟩
      · exact hH1.own b r h hL
      · have := Q.hp.own b r h hL
        have := hE1.size
        exact ⟨by omega, by omega, by simp_all⟩
    · intro b b' r r' k k' e e' hL hL' hk hk' hl1 hl2 hbl
      rcases hcase b r e with ⟨h1, h2, _⟩ | ⟨h1, h2⟩ <;> rcases hcase b' r' e' with ⟨h1', h2', _⟩ | ⟨h1', h2'⟩
      · rw [hget1 b h1] at hk; rw [hget1 b' h1'] at hk'
        exact hH1.apart b b' r r' k k' h2 h2' hL hL' hk hk' hl1 hl2 hbl
      · exact absurd hbl (apart1 b r b' r' h1 h2 hL h1' h2')
      · exact absurd hbl.symm (apart1 b' r' b r h1' h2' hL' h1 h2)
      · rcases Nat.lt_trichotomy b b' with q | q | q
        · exact absurd hbl (later b' r' h1' h2' b r (by omega) h2 hL)
        · exact q
        · exact absurd hbl (later b' r' h1' h2' b r (by omega) h2 hL)
    · intro b r k e hk
      rcases hcase b r e with ⟨h1, h2, r', h3⟩ | ⟨h1, h2⟩
      · rw [hget1 b h1] at hk
        have hB := hH1.blk b r k h2 hk
        obtain ⟨wj, hwj⟩ := K.S.hp (j + 1) (by omega)
        exact brel_both hboth id hB (hwj.blk b r' k (K.S.back' K.len (by omega) (Nat.le_refl _) h3 h1) hk)
      · rw [hget2 b h1 (hDn b r h2)] at hk
        exact (Q.hp.blk b r k h2 hk).mono hle (hkeep b r h1 h2)
  · refine ⟨Mp.le_trans Q.ext.le hle, fun b r e e0 => ?_, Nat.le_trans Q.ext.size hE1.size, fun pb hp hno => ?_⟩
    · rcases hcase b r e with ⟨h1, h2, h3⟩ | ⟨h1, h2⟩
      · cases ec : ρD.cut (Hs j).length b with
        | some r0 =>
          have := hE1.le b r0 ec
          rw [h2] at this; cases this
          exact Q.ext.fresh b r (Mp.cut_some ec).2 e0
        | none =>
          obtain ⟨q1, q2⟩ := hE1.fresh b r h2 ec
          refine ⟨by omega, ?_⟩
          rcases q2 with q2 | ⟨b0, r0, hL0', e1, e2⟩
          · left; have := Q.ext.size; omega
          · obtain ⟨_, e3⟩ := Mp.cut_some e1
            cases e4 : ρ b0 with
            | some r4 =>
              have := Q.ext.le b0 r4 e4
              rw [e3] at this; cases this
              exact .inr ⟨b0, r0, hL0', e4, e2⟩
            | none => have := (Q.ext.fresh b0 r0 e3 e4).2; rwa [e2] at this
      · exact Q.ext.fresh b r h2 e0
    · rw [hE1.keep pb (Nat.lt_of_lt_of_le hp Q.ext.size) ?_, Q.ext.keep pb hp hno]
      intro b0 r0 e1 hL'
      obtain ⟨_, e3⟩ := Mp.cut_some e1
      cases e4 : ρ b0 with
      | some r4 =>
        have := Q.ext.le b0 r4 e4
        rw [e3] at this; cases this
        exact hno b0 r0 e4 hL'
      | none =>
        rcases (Q.ext.fresh b0 r0 e3 e4).2 with q | ⟨b5, r5, q1, q2, q3⟩
        · omega
        · rw [← q3]; exact hno b5 r5 q2 q1
  · intro b r e
    rcases hcase b r e with ⟨h1, h2, h3⟩ | ⟨h1, h2⟩
    · refine ⟨h3, ?_⟩
      by_cases h4 : (Hs j).length ≤ b
      · exact .inr ⟨j, .inr rfl, h4, h1⟩
      · rw [overlay_out (.inl (by omega))] at e
        exact (Q.dom b r e).2.imp id fun ⟨i, hi, q⟩ => ⟨i, .inl hi, q⟩
    · obtain ⟨q1, q2⟩ := Q.dom b r h2
      exact ⟨q1, q2.imp id fun ⟨i, hi, q⟩ => ⟨i, .inl hi, q⟩⟩
  · intro i y hi hy hw hc' hlt r hr b' r' hne hr' hL
    rcases hi with hi | rfl
    · have hil := Q.lt i hi
      have hge : (Hs (j + 1)).length ≤ (Hs i).length := K.len (j + 1) i (by omega) (by omega)
      have hold : ρD (Hs i).length = some r := by
        rcases hcase _ _ hr with ⟨h, _⟩ | ⟨_, h⟩
        · omega
        · exact h
      rcases hcase b' r' hr' with ⟨h1, h2, _⟩ | ⟨_, h2⟩
      · exact apart1 b' r' _ r h1 h2 hL hge hold
      · exact Q.uns i y hi hy hw (by omega) hlt r hold b' r' hne h2 hL
    · rw [ho] at hy; cases hy; rw [hn] at hw; cases hw
end
end Go.AM
