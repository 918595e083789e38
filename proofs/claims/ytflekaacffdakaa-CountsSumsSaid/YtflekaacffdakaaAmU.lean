/- Operations whose order is drawn: the heap as an operation sees it. Conditions as at 'EOk'. -/
import Derived.Test.YtflekaacffdakaaAmT
namespace Go.AM
open Go Go.RowKit

theorem ldX_spec {n : Option Nat} {H : Heap} {b o : Nat} {us : List AV} (h : ldX n H b o = some us) : ∃ vs, H[b]? = some (.cells vs) ∧ o + us.length ≤ vs.length ∧ ∀ i, i < us.length → vs[o + i]? = us[i]? := by
  cases n with
  | none =>
    simp only [ldX] at h
    obtain ⟨v, hv, rfl⟩ := Option.map_eq_some_iff.1 h
    obtain ⟨vs, h1, h2⟩ := ld_spec hv
    have := (List.getElem?_eq_some_iff.1 h2).1
    refine ⟨vs, h1, by simp; omega, fun i hi => ?_⟩
    have : i = 0 := by simpa using hi
    subst this
    simpa using h2
  | some n =>
    simp only [ldX] at h
    obtain ⟨vs, h1, h2, rfl⟩ := ldn_spec h
    refine ⟨vs, h1, by simp; omega, fun i hi => ?_⟩
    simp at hi
    rw [List.getElem?_take, if_pos (by omega), List.getElem?_drop]

section
variable {C : Cfg} {I : World → Prop} {E : Tab} {rec : Rec} {ρ : Mp} {L0 lo nt : Nat} {w0 wS w : World} {H : Heap} {a : Fr} {l : List AOper} {ops : Array Oper} {A : Nat → Fr} {Hs : Nat → Heap} {V : Nat → AV} {ρs : Nat → Mp} {ck : List (Nat × Nat)}
  {D : Nat → Prop} {c : Nat} {ρD : Mp} {aD : Fr} {am : Act}

theorem Ctx.loadSame (K : Ctx C I E rec ρ L0 lo nt w0 wS H a l ops A Hs V ρs ck) (Q : DS C I ρ L0 nt w0 wS H a l ops Hs V ρs D c ρD aD am w) {j : Nat} {o : AOper} (ho : l[j]? = some o) (hj : ¬ D j) (hup : ∀ i, Ahead ops.toList j i → D i)
    {n : Option Nat} {x : AX} (hop : o.op = .load n x) {b off : Nat} (hx : ev (A j) x = .p b off) (hb : b < (Hs j).length) : ldX n (HD Hs l.length c) b off = ldX n (Hs j) b off := by
  have hjl := (List.getElem?_eq_some_iff.1 ho).1
  have hbl : b < (Hs l.length).length := Nat.lt_of_lt_of_le hb (K.len j l.length (by omega) (Nat.le_refl _))
  have hcl : o.op.cl C.kd = .load := by rw [hop]; rfl
  rw [ldX_congr (HD_get K.len Q.cle hbl)]
  have hown := own_le K.len (j := j) (by omega) hb
  obtain ⟨hs1, hs2, _⟩ := own_spec K.len hbl
  have chain : ∀ k k', k ≤ k' → k' ≤ l.length → b < (Hs k).length → (∀ (i : Nat) (y : AOper), k ≤ i → i < k' → l[i]? = some y → y.op.cl C.kd = .write → (j, i) ∈ ck) → ldX n (Hs k) b off = ldX n (Hs k') b off := by
    intro k k' hkk hk' hbk
    induction hkk with
    | refl => intro _; rfl
    | @step m hm ih =>
      intro hck
      rw [ih (by omega) fun i y h1 h2 => hck i y h1 (by omega)]
      have hbm : b < (Hs m).length := Nat.lt_of_lt_of_le hbk (K.len k m hm (by omega))
      by_cases hw : l[m].op.cl C.kd = .write
      · exact K.chk j m (hck m l[m] hm (by omega) (by simp) hw) o n x ho hop b off hx hbm
      · refine (ldX_congr (K.still (j := m) (k := m + 1) (by omega) hk' (fun i y h1 h2 hy => ?_) hbm)).symm
        have : i = m := by omega
        subst this
        rw [List.getElem?_eq_getElem (by omega)] at hy
        cases hy; exact hw
  rcases Nat.lt_or_ge j (max (own Hs b l.length) c) with hk | hk
  · have hc : max (own Hs b l.length) c = c := by omega
    rw [hc] at hk ⊢
    refine (chain j c (by omega) Q.cle hb fun i y h1 h2 hy hw => ?_).symm
    obtain ⟨hD1, z, hz, hzw⟩ := Q.cD (by omega)
    have hDi : D i := by
      by_cases e : i = c - 1
      · rw [e]; exact hD1
      · rcases (K.pair i (c - 1) y z (by omega) hy hz).2 with h | ⟨_, _, h⟩
        · exact Q.down _ hD1 i h
        · rw [hw, hzw] at h; simp [memOk] at h
    have hne : i ≠ j := fun e => hj (e ▸ hDi)
    rcases (K.pair j i o y (by omega) ho hy).2 with h | ⟨_, _, h⟩
    · exact absurd (Q.down i hDi j h) hj
    · rw [hcl, hw] at h
      simpa [memOk] using h
  · refine chain _ j hk (by omega) (Nat.lt_of_lt_of_le hs2 (K.len _ _ (Nat.le_max_left ..) (by omega))) fun i y h1 h2 hy hw => ?_
    rcases (K.pair i j y o h2 hy ho).2 with h | ⟨_, _, h⟩
    · have := Q.cW i y (hup i h) hy hw; omega
    · rw [hcl, hw] at h
      simpa [memOk] using h

theorem Ctx.viewHeap (K : Ctx C I E rec ρ L0 lo nt w0 wS H a l ops A Hs V ρs ck) (Q : DS C I ρ L0 nt w0 wS H a l ops Hs V ρs D c ρD aD am w) {j : Nat} {o : AOper} (ho : l[j]? = some o) (hj : ¬ D j) (hup : ∀ i, Ahead ops.toList j i → D i)
    (hn : o.op.cl C.kd ≠ .write) : ∃ (G : Heap) (new : List Blk), G.length = (Hs j).length ∧ stepV E rec (Hs j).length o (A j) G = some (V j, G ++ new) ∧ Hs (j + 1) = Hs j ++ new ∧ (∀ k ∈ new, noLoop k) ∧ (new ≠ [] → c ≤ j) ∧ (o.op.cl C.kd = .new → new.length ≤ 1) ∧
      ∀ b r k, ρD.cut (Hs j).length b = some r → G[b]? = some k → BRel C (ρD.cut (Hs j).length) False w.heap.size w r k := by
  have hjl := (List.getElem?_eq_some_iff.1 ho).1
  have hst := (K.T.step j o ho).1
  have hkd := K.hE.kd
  have dead : ∀ b r k, ρD.cut (Hs j).length b = some r → (List.replicate (Hs j).length Blk.dead)[b]? = some k → BRel C (ρD.cut (Hs j).length) False w.heap.size w r k := fun b r k _ hk => by
    rw [List.getElem?_replicate] at hk
    split at hk
    · cases hk; trivial
    · cases hk
  have block : ∀ b r, ρD.cut (Hs j).length b = some r → L0 ≤ b → r.a.block < w.heap.size := fun b r hb hL => (Q.hp.own b r (Mp.cut_some hb).2 hL).2.1
  unfold stepV at hst
  split at hst
  · rename_i hw
    have go : ∀ {G : Heap} {H1 : Heap}, opF E rec (Hs j).length o.op (A j) G = some (V j, H1) → stepV E rec (Hs j).length o (A j) G = some (V j, H1) := fun h => by simp only [stepV, hw]; exact h
    cases hk : o.op.cl C.kd with
    | pure =>
      obtain ⟨h1, h2⟩ := opF_pure hk hst
      exact ⟨List.replicate (Hs j).length .dead, [], by simp, go (by rw [List.append_nil]; exact h2 _ _), by simp [h1], (fun _ q => by cases q), (fun q => absurd rfl q), (fun q => by simp), dead⟩
    | new =>
      obtain ⟨vs, h1, h2⟩ := opF_new hk hst
      refine ⟨List.replicate (Hs j).length .dead, [.cells vs], by simp, go (h2 _ _ (by simp)), h1, fun k q => by simp at q; subst q; trivial, fun _ => ?_, fun _ => by simp, dead⟩
      refine Q.cBefore hj fun i x hi hx hw' => ?_
      rcases (K.pair j i o x hi ho hx).2 with h | ⟨_, _, h⟩
      · exact h
      · rw [hk, hw'] at h; simp [memOk] at h
    | call =>
      obtain ⟨⟨new, h1, h3⟩, h2⟩ := opF_call (by rw [hkd]; exact hk) hst
      have hbefore := Q.wBefore hup (j := j) fun i x hi hx hw' => by
        rcases (K.pair i j x o hi hx ho).2 with h | ⟨_, _, h⟩
        · exact h
        · rw [hk, hw'] at h; simp [memOk] at h
      have hc : c ≤ j := Q.cBefore hj fun i x hi hx hw' => by
        rcases (K.pair j i o x hi ho hx).2 with h | ⟨_, _, h⟩
        · exact h
        · rw [hk, hw'] at h; simp [memOk] at h
      refine ⟨Hs j, new, rfl, go (by rw [h1] at h2; exact h2 _), h1, h3, fun _ => hc, (fun q => by cases q), fun b r k hb hkb => ?_⟩
      obtain ⟨hbl, hbD⟩ := Mp.cut_some hb
      have hbl' : b < (Hs l.length).length := Nat.lt_of_lt_of_le hbl (K.len j l.length (by omega) (Nat.le_refl _))
      have hown := own_le K.len (j := j) (by omega) hbl
      obtain ⟨hs1, hs2, _⟩ := own_spec K.len hbl'
      have hget : (HD Hs l.length c)[b]? = some k := by
        rw [HD_get K.len Q.cle hbl', ← hkb]
        refine (K.still (j := max (own Hs b l.length) c) (k := j) (by omega) (by omega) (fun i x h1 h2 hx => hbefore i x (by omega) h2 hx) ?_).symm
        exact Nat.lt_of_lt_of_le hs2 (K.len _ _ (Nat.le_max_left ..) (by omega))
      have hB := Q.hp.blk b r k hbD hget
      obtain ⟨⟨r', hr'⟩, _⟩ := Q.dom b r hbD
      obtain ⟨wj, hwj⟩ := K.S.hp j (by omega)
      have hB2 := hwj.blk b r' k (K.S.back' K.len (by omega) (Nat.le_refl _) hr' hbl) hkb
      cases k with
      | dead => trivial
      | loop => exact fun q => q.elim
      | cells vs =>
        refine ⟨cells_both (K.cutBoth ho) hB.1 hB2.1, fun q => q.elim, fun _ hne => ?_⟩
        by_cases hL : L0 ≤ b
        · exact block b r hb hL
        · exact Nat.lt_of_lt_of_le (hB.2.2 hL hne) Q.hp.below.size
    | load =>
      have : ∃ n x, o.op = .load n x := by cases ho' : o.op <;> rw [ho'] at hk <;> simp [AOp.cl] at hk <;> first | exact ⟨_, _, rfl⟩ | (split at hk <;> cases hk)
      obtain ⟨n, x, e⟩ := this
      have : ∃ b off us, ev (A j) x = .p b off ∧ ldX n (Hs j) b off = some us ∧ Hs (j + 1) = Hs j ∧ (n = none → us = [V j]) ∧ (∀ m, n = some m → V j = .ag us ∧ us.length = m) := by
        rw [e] at hst
        simp only [opF, opA] at hst
        split at hst
        · rename_i b off hx
          obtain ⟨v, hv, e2⟩ := Option.map_eq_some_iff.1 hst
          simp only [Prod.mk.injEq] at e2
          obtain ⟨rfl, e2⟩ := e2
          exact ⟨b, off, [V j], hx, by simp [ldX, hv], e2.symm, fun _ => rfl, fun m q => by cases q⟩
        · rename_i b off m hx
          obtain ⟨us, hv, e2⟩ := Option.map_eq_some_iff.1 hst
          simp only [Prod.mk.injEq] at e2
          obtain ⟨e3, e2⟩ := e2
          refine ⟨b, off, us, hx, by simp [ldX, hv], e2.symm, (fun q => by cases q), fun m' q => ?_⟩
          cases q
          obtain ⟨vs, _, q2, rfl⟩ := ldn_spec hv
          exact ⟨e3.symm, by simp; omega⟩
        · cases hst
      obtain ⟨b, off, us, hx, hus, hH, hn1, hn2⟩ := this
      obtain ⟨vsJ, hJ1, hJ2, hJ3⟩ := ldX_spec hus
      have hbl : b < (Hs j).length := (List.getElem?_eq_some_iff.1 hJ1).1
      have hsame := K.loadSame Q ho hj hup e hx hbl
      rw [hus] at hsame
      obtain ⟨vsD, hD1, hD2, hD3⟩ := ldX_spec hsame
      have hGb : ((List.replicate (Hs j).length Blk.dead).set b (.cells (List.replicate off .un ++ us)))[b]? = some (.cells (List.replicate off .un ++ us)) := by
        rw [List.getElem?_set_self (by simpa using hbl)]
      refine ⟨(List.replicate (Hs j).length .dead).set b (.cells (List.replicate off .un ++ us)), [], by simp, go ?_, by simp [hH], (fun _ q => by cases q), (fun q => absurd rfl q), (fun q => by simp), fun b' r k hb hkb => ?_⟩
      · rw [e, List.append_nil]
        simp only [opF, opA, hx]
        cases n with
        | none =>
          have := hn1 rfl
          subst this
          simp [ld, hGb]
        | some m =>
          obtain ⟨h1, h2⟩ := hn2 m rfl
          subst h2
          simp [ldn, hGb, h1]
      · by_cases eb : b' = b
        · subst eb
          rw [hGb] at hkb
          cases hkb
          obtain ⟨_, hbD⟩ := Mp.cut_some hb
          have hB := Q.hp.blk b' r _ hbD hD1
          obtain ⟨⟨r', hr'⟩, _⟩ := Q.dom b' r hbD
          obtain ⟨wj, hwj⟩ := K.S.hp j (by omega)
          have hB2 := hwj.blk b' r' _ (K.S.back' K.len (by omega) (Nat.le_refl _) hr' hbl) hJ1
          refine ⟨fun i v hv => ?_, fun q => q.elim, fun _ hne => ?_⟩
          · have hilt := (List.getElem?_eq_some_iff.1 hv).1
            simp at hilt
            by_cases hio : i < off
            · rw [List.getElem?_append_left (by simpa using hio), List.getElem?_replicate, if_pos hio] at hv
              cases hv
              obtain ⟨y, q1, _, q3⟩ := hB.1 i vsD[i] (by rw [List.getElem?_eq_getElem (by omega)])
              exact ⟨y, q1, by simp [VRel], q3⟩
            · rw [List.getElem?_append_right (by simp; omega)] at hv
              simp at hv
              have hi2 : i - off < us.length := by omega
              have e1 := hD3 (i - off) hi2
              have e2 := hJ3 (i - off) hi2
              rw [show off + (i - off) = i by omega, hv] at e1 e2
              obtain ⟨y, q1, q2, q3⟩ := hB.1 i v e1
              obtain ⟨z, _, q5, _⟩ := hB2.1 i v e2
              exact ⟨y, q1, VRel.both (K.cutBoth ho) _ _ _ q2 q5, q3⟩
          · by_cases hL : L0 ≤ b'
            · exact block b' r hb hL
            · refine Nat.lt_of_lt_of_le (hB.2.2 hL fun q => hne ?_) Q.hp.below.size
              subst q
              simp at hD2
              obtain ⟨h1, h2⟩ := hD2
              simp [h1, h2]
        · rw [List.getElem?_set_ne (Ne.symm eb)] at hkb
          exact dead b' r k hb hkb
    | write => exact absurd hk hn
  · rename_i hw
    simp only [Option.some.injEq, Prod.mk.injEq] at hst
    exact ⟨List.replicate (Hs j).length .dead, [], by simp, by simp [stepV, hw, hst.1], by simp [hst.2], (fun _ q => by cases q), (fun q => absurd rfl q), (fun q => by simp), dead⟩
  · cases hst
end
end Go.AM
