/- What the law needs: what its functions do, and the laws on lists behind it. No condition. -/
import Derived.Test.YtalaadcbpjnglaaPt0
import Derived.Shelf.Slices.Delete
import Derived.KernelRfl
import Derived.WalkKit
import Derived.ProofKit
import Derived.OpenShut
import Derived.ShutString
import Derived.ChangeOld
import Derived.Below
import Derived.SizedLaws
import Derived.Carry
set_option linter.unusedSimpArgs false
set_option linter.unusedVariables false
namespace Go.Proofs.Ytalaadcbpjnglaa
open Go Go.AM Go.Proofs
/-- two exchanged -/
def swL {α : Type} [Inhabited α] (p q : Nat) (l : List α) : List α := (l.set p (gi l (q : Int))).set q (gi l (p : Int))
def swI (p q : Nat) (x : Int) : Int := if x = q then p else if x = p then q else x
theorem swI_in {α : Type} {p q : Nat} {l : List α} {x : Int} (hp : p < l.length) (hq : q < l.length) (h0 : 0 ≤ x) (h1 : x < l.length) : 0 ≤ swI p q x ∧ swI p q x < l.length := by
  unfold swI; split <;> (try split) <;> omega
theorem swI_inj {p q : Nat} {x y : Int} (h : swI p q x = swI p q y) : x = y := by
  unfold swI at h
  split at h <;> split at h <;> (try split at h) <;> (try split at h) <;> omega
section
variable {α : Type} [Inhabited α] {p q : Nat} {l : List α}
theorem sw_len : (swL p q l).length = l.length := by simp [swL]
theorem sw_perm (hp : p < l.length) (hq : q < l.length) : (swL p q l).Perm l := by
  unfold swL
  rw [gi_nat hp, gi_nat hq]
  exact List.set_set_perm hp hq
theorem sw_gi {x : Int} (hp : p < l.length) (hq : q < l.length) (h0 : 0 ≤ x) (h1 : x < l.length) : gi (swL p q l) x = gi l (swI p q x) := by
  obtain ⟨X, rfl⟩ := Int.eq_ofNat_of_zero_le h0
  have hX : X < l.length := by omega
  have e : gi (swL p q l) (X : Int) = ((l.set p (gi l (q : Int))).set q (gi l (p : Int)))[X]'(by simpa using hX) := by
    rw [gi_nat (by rw [sw_len]; exact hX)]; rfl
  rw [e, List.getElem_set, List.getElem_set]
  unfold swI
  by_cases e1 : q = X
  · subst e1; rw [if_pos rfl, if_pos rfl]
  · have n1 : ¬ (X : Int) = (q : Int) := by omega
    rw [if_neg e1, if_neg n1]
    by_cases e2 : p = X
    · subst e2; rw [if_pos rfl, if_pos rfl]
    · have n2 : ¬ (X : Int) = (p : Int) := by omega
      rw [if_neg e2, if_neg n2, gi_nat hX]
theorem sw_sw (hp : p < l.length) (hq : q < l.length) : swL p q (swL p q l) = l := by
  refine gi_ext (by rw [sw_len, sw_len]) fun i hi => ?_
  rw [sw_len, sw_len] at hi
  have h2 := swI_in (l := l) (x := (i : Int)) hp hq (by omega) (by omega)
  rw [sw_gi (by rw [sw_len]; exact hp) (by rw [sw_len]; exact hq) (by omega) (by rw [sw_len]; omega), sw_gi hp hq h2.1 h2.2]
  congr 1
  unfold swI
  split <;> (try split) <;> (try split) <;> omega
end
/-- what is kept -/
structure Same (v : Int) (t t' : List (List Int)) : Prop where
  arr : ArrP v t'
  hwd : wd t' = wd t
  hlen : t'.length = t.length
  cov : ∀ k, coversB v t' k = coversB v t k
  fair : ∀ k, k ≤ wd t → fairK v t' k = fairK v t k
  dist : minF (wd t) (dstA t' t'.length) = minF (wd t) (dstA t t.length)
theorem Same.of {v : Int} {t t' : List (List Int)} {φ ψ : Int × Int → Int × Int} (hA : ArrP v t) (hA' : ArrP v t') (hw : wd t' = wd t) (hl : t'.length = t.length) (h1 : Emb v t t' φ) (h2 : Emb v t' t ψ) (hd : minF (wd t) (dstA t' t'.length) = minF (wd t) (dstA t t.length)) : Same v t t' :=
  ⟨hA', hw, hl, fun k => bool_eq h2.covers h1.covers, fun k hk => bool_eq (h2.fair hA' hA (by omega) hk) (h1.fair hA hA' hk (by omega)), hd⟩
/-! ### Distances -/
theorem minF_le {w : Int} {l : List Int} : minF w l ≤ w ∧ ∀ x ∈ l, minF w l ≤ x := foldl_min_le
theorem minF_mem {w : Int} {l : List Int} : minF w l = w ∨ minF w l ∈ l := foldl_min_mem
theorem minF_set {w : Int} {l l' : List Int} (h : ∀ x, x ∈ l ↔ x ∈ l') : minF w l = minF w l' := by
  have key : ∀ {l l' : List Int}, (∀ x, x ∈ l → x ∈ l') → minF w l' ≤ minF w l := fun {l l'} h => by
    rcases minF_mem (w := w) (l := l) with e | e
    · rw [e]; exact minF_le.1
    · exact minF_le.2 _ (h _ e)
  exact Int.le_antisymm (key fun x hx => (h x).2 hx) (key fun x hx => (h x).1 hx)
theorem mem_dstA {t : List (List Int)} {n : Nat} {x : Int} : x ∈ dstA t n ↔ ∃ i, i < n ∧ ∃ j, j < i ∧ x = (dst (gi t (i : Int)) (gi t (j : Int)) : Nat) := by
  simp only [dstA, dstP, List.mem_flatMap, List.mem_map, List.mem_range]
  constructor
  · rintro ⟨i, hi, j, hj, rfl⟩; exact ⟨i, hi, j, hj, rfl⟩
  · rintro ⟨i, hi, j, hj, rfl⟩; exact ⟨i, hi, j, hj, rfl⟩
theorem dst_comm {r s : List Int} (h : r.length = s.length) : dst r s = dst s r := by
  unfold dst dstT
  rw [h]
  congr 1
  funext x
  congr 1
  exact decide_eq_decide.2 eq_comm
theorem dst_pairs {r s : List Int} : dst r s = ((List.range r.length).map fun x : Nat => (gi r (x : Int), gi s (x : Int))).countP fun q => !decide (q.1 = q.2) := by
  unfold dst dstT
  rw [List.countP_map]
  rfl
theorem dstA_map {t : List (List Int)} {g : List Int → List Int} (h : ∀ r ∈ t, ∀ s ∈ t, dst (g r) (g s) = dst r s) : dstA (t.map g) (t.map g).length = dstA t t.length := by
  have eg : ∀ i : Nat, i < t.length → gi (t.map g) (i : Int) = g (gi t (i : Int)) := fun i hi => by
    rw [gi_nat (by simpa using hi), gi_nat hi]; simp
  unfold dstA
  rw [List.length_map]
  have key : ∀ n, n ≤ t.length → (List.range n).flatMap (fun i => dstP (t.map g) i i) = (List.range n).flatMap fun i => dstP t i i := by
    intro n
    induction n with
    | zero => intro _; rfl
    | succ n ih =>
      intro hn
      rw [List.range_succ, List.flatMap_append, List.flatMap_append, ih (by omega)]
      congr 1
      simp only [List.flatMap_cons, List.flatMap_nil, List.append_nil]
      unfold dstP
      refine List.map_congr_left fun j hj => ?_
      have hj := List.mem_range.1 hj
      rw [eg n (by omega), eg j (by omega), h _ (mem_gi (by omega)) _ (mem_gi (by omega))]
  exact key _ (Nat.le_refl _)
/-! ### Columns exchanged -/
theorem dst_sw {r s : List Int} {p q : Nat} (hl : r.length = s.length) (hp : p < r.length) (hq : q < r.length) : dst (swL p q r) (swL p q s) = dst r s := by
  rw [dst_pairs, dst_pairs, sw_len]
  refine List.Perm.countP_eq _ ?_
  have e : ((List.range r.length).map fun x : Nat => (gi (swL p q r) (x : Int), gi (swL p q s) (x : Int))) = swL p q ((List.range r.length).map fun x : Nat => (gi r (x : Int), gi s (x : Int))) := by
    refine gi_ext (by rw [sw_len]; simp) fun i hi => ?_
    have hi' : i < r.length := by simpa using hi
    have h2 := swI_in (l := r) (x := (i : Int)) hp hq (by omega) (by omega)
    rw [sw_gi (by simpa using hp) (by simpa using hq) (by omega) (by simpa using hi')]
    obtain ⟨z, ez⟩ := Int.eq_ofNat_of_zero_le h2.1
    have e1 : gi ((List.range r.length).map fun x : Nat => (gi (swL p q r) (x : Int), gi (swL p q s) (x : Int))) (i : Int) = (gi (swL p q r) (i : Int), gi (swL p q s) (i : Int)) := by
      rw [gi_nat hi]; simp
    have e2 : gi ((List.range r.length).map fun x : Nat => (gi r (x : Int), gi s (x : Int))) (z : Int) = (gi r (z : Int), gi s (z : Int)) := by
      rw [gi_nat (by simp; omega)]; simp
    rw [e1, sw_gi hp hq (by omega) (by omega), sw_gi (by omega) (by omega) (by omega) (by omega), ez, e2]
  rw [e]
  exact sw_perm (by simpa using hp) (by simpa using hq)
theorem swc_arr {v : Int} {t : List (List Int)} {p q : Nat} (hA : ArrP v t) (hp : p < wd t) (hq : q < wd t) : ArrP v (t.map (swL p q)) ∧ wd (t.map (swL p q)) = wd t := by
  have hw := hA.wd
  refine ArrP_map hA (by omega) (by omega) fun r hr => ?_
  have := hA.row hr
  refine ⟨by rw [sw_len]; exact this.1, fun x hx => this.2 x ((sw_perm (by omega) (by omega)).mem_iff.1 hx)⟩
theorem swc_emb {v : Int} {t : List (List Int)} {p q : Nat} (hA : ArrP v t) (hp : p < wd t) (hq : q < wd t) : Emb v t (t.map (swL p q)) fun z => (swI p q z.1, z.2) := by
  have hd := (swc_arr hA hp hq).2
  refine ⟨fun z hz => ?_, fun x y _ _ e => swI_inj e, fun ps hps => ?_⟩
  · unfold InR at hz ⊢
    rw [hd] at hz
    refine ⟨?_, hz.2⟩
    simp only [swI]
    split <;> (try split) <;> omega
  · refine cnt_map fun r hr z hz => ?_
    have h2 := hps z hz
    unfold InR at h2
    have := (hA.row hr).1
    rw [sw_gi (by omega) (by omega) h2.1.1 (by omega)]
theorem swc_same {v : Int} {t : List (List Int)} {p q : Nat} (hA : ArrP v t) (hp : p < wd t) (hq : q < wd t) : Same v t (t.map (swL p q)) := by
  obtain ⟨h1, h2⟩ := swc_arr hA hp hq
  have e : (t.map (swL p q)).map (swL p q) = t := by
    rw [List.map_map]
    conv => rhs; rw [← List.map_id t]
    refine List.map_congr_left fun r hr => ?_
    have := (hA.row hr).1
    exact sw_sw (by omega) (by omega)
  have h3 := swc_emb h1 (p := p) (q := q) (by omega) (by omega)
  rw [e] at h3
  refine Same.of hA h1 h2 (by simp) (swc_emb hA hp hq) h3 ?_
  rw [dstA_map]
  intro r hr s hs
  have q1 := (hA.row hr).1
  have q2 := (hA.row hs).1
  exact dst_sw (by omega) (by omega) (by omega)
/-! ### Rows exchanged -/
theorem swr_same {v : Int} {t : List (List Int)} {p q : Nat} (hA : ArrP v t) (hp : p < t.length) (hq : q < t.length) : Same v t (swL p q t) := by
  have hpm := sw_perm hp hq
  have hl : (swL p q t).length = t.length := sw_len
  have hw : wd (swL p q t) = wd t := by
    have h0 := mem_gi (xs := swL p q t) (i := 0) (by rw [hl]; exact hA.2.2.1)
    exact (hA.row (hpm.mem_iff.1 h0)).1
  have hA' : ArrP v (swL p q t) := ⟨hA.1, hA.2.1, by rw [hl]; exact hA.2.2.1, by rw [hl]; exact hA.2.2.2.1, fun r hr => by
    have := hA.2.2.2.2 r (hpm.mem_iff.1 hr)
    unfold wd at hw
    rw [hw]; exact this⟩
  have hc : ∀ ps, cnt (swL p q t) ps = cnt t ps := fun ps => hpm.countP_eq _
  refine Same.of (φ := id) (ψ := id) hA hA' hw hl ⟨fun z hz => by rwa [hw] at hz, fun _ _ _ _ e => e, fun ps _ => by rw [List.map_id]; exact hc ps⟩ ⟨fun z hz => by rw [hw]; exact hz, fun _ _ _ _ e => e, fun ps _ => by rw [List.map_id]; exact (hc ps).symm⟩ ?_
  have key : ∀ {s : List (List Int)} {p q : Nat}, ArrP v s → p < s.length → q < s.length → ∀ x, x ∈ dstA (swL p q s) (swL p q s).length → x ∈ dstA s s.length := by
    intro s p q hA hp hq x hx
    obtain ⟨i, hi, j, hj, rfl⟩ := mem_dstA.1 hx
    rw [sw_len] at hi
    have a1 := swI_in (l := s) (x := (i : Int)) hp hq (by omega) (by omega)
    have a2 := swI_in (l := s) (x := (j : Int)) hp hq (by omega) (by omega)
    rw [sw_gi hp hq (by omega) (by omega), sw_gi hp hq (by omega) (by omega)]
    have hne : swI p q (i : Int) ≠ swI p q (j : Int) := fun e => by have := swI_inj e; omega
    obtain ⟨I, eI⟩ := Int.eq_ofNat_of_zero_le a1.1
    obtain ⟨J, eJ⟩ := Int.eq_ofNat_of_zero_le a2.1
    rw [eI] at a1 hne ⊢
    rw [eJ] at a2 hne ⊢
    have q1 := (hA.row (mem_gi (show I < s.length by omega))).1
    have q2 := (hA.row (mem_gi (show J < s.length by omega))).1
    rcases Nat.lt_or_gt_of_ne (show I ≠ J by omega) with h | h
    · rw [dst_comm (by omega)]; exact mem_dstA.2 ⟨J, by omega, I, h, rfl⟩
    · exact mem_dstA.2 ⟨I, by omega, J, h, rfl⟩
  refine minF_set fun x => ⟨key hA hp hq x, fun hx => ?_⟩
  have := key (p := p) (q := q) hA' (by omega) (by omega) x
  rw [sw_sw hp hq] at this
  exact this hx
end Go.Proofs.Ytalaadcbpjnglaa
namespace Go.Proofs.Ytalaadcbpjnglaa
open Go Go.AM Go.Proofs
def nodB (V : Nat) (l : List Int) : Bool := !hasB V l || (decide l.Nodup && l.all fun x => decide (x < V))
theorem nod_2 : tupB (nodB 2) 2 3 [] = true := by decide +kernel
theorem nod_3 : tupB (nodB 3) 3 4 [] = true := by decide +kernel
theorem nod_4 : tupB (nodB 4) 4 5 [] = true := by decide +kernel
theorem names_good {V : Nat} (h2 : 2 ≤ V) (h4 : V ≤ 4) {to : List Int} (h : namesC V to) : to.Nodup ∧ ∀ x ∈ to, 0 ≤ x ∧ x < V := by
  obtain ⟨hl, hh⟩ := h
  have hb : hasB V (to.map (sent V)) = true := by rw [hasB_sent, hasB_iff]; exact hh
  have hin : ∀ x ∈ (to.map (sent V)).reverse, 0 ≤ x ∧ x < ((V + 1 : Nat) : Int) := by
    intro x hx
    rw [List.mem_reverse, List.mem_map] at hx
    obtain ⟨y, _, rfl⟩ := hx
    unfold sent
    split <;> omega
  have hll : (to.map (sent V)).reverse.length = V := by simpa using hl
  have key : nodB V (to.map (sent V)) = true := by
    have : V = 2 ∨ V = 3 ∨ V = 4 := by omega
    rcases this with rfl | rfl | rfl
    · have := tupB_all nod_2 hll hin
      simpa using this
    · have := tupB_all nod_3 hll hin
      simpa using this
    · have := tupB_all nod_4 hll hin
      simpa using this
  unfold nodB at key
  rw [hb] at key
  simp only [Bool.not_true, Bool.false_or, Bool.and_eq_true, decide_eq_true_eq, List.all_eq_true] at key
  obtain ⟨k1, k2⟩ := key
  have hr : ∀ x ∈ to, 0 ≤ x ∧ x < V := by
    intro x hx
    have := k2 _ (List.mem_map_of_mem hx)
    unfold sent at this
    split at this
    · assumption
    · omega
  have e : to.map (sent V) = to := by
    conv => rhs; rw [← List.map_id to]
    refine List.map_congr_left fun x hx => ?_
    unfold sent
    rw [if_pos (hr x hx)]; rfl
  rw [e] at k1
  exact ⟨k1, hr⟩
theorem nod_inj {to : List Int} {V : Nat} (h : to.Nodup) (hl : to.length = V) {j j' : Int} (h1 : 0 ≤ j ∧ j < V) (h2 : 0 ≤ j' ∧ j' < V) (e : gi to j = gi to j') : j = j' := by
  obtain ⟨J, rfl⟩ := Int.eq_ofNat_of_zero_le h1.1
  obtain ⟨K, rfl⟩ := Int.eq_ofNat_of_zero_le h2.1
  rw [gi_nat (by omega), gi_nat (by omega)] at e
  unfold List.Nodup at h
  rw [List.pairwise_iff_getElem] at h
  rcases Nat.lt_trichotomy J K with q | q | q
  · exact absurd e (h J K (by omega) (by omega) q)
  · rw [q]
  · exact absurd e.symm (h K J (by omega) (by omega) q)
theorem ren_gi {c : Nat} {to r : List Int} {x : Int} (hc : c < r.length) (h0 : 0 ≤ x) (h1 : x < r.length) : gi (renC c to r) x = if x = c then gi to (gi r (c : Int)) else gi r x := by
  obtain ⟨X, rfl⟩ := Int.eq_ofNat_of_zero_le h0
  have hX : X < r.length := by omega
  have e : gi (renC c to r) (X : Int) = (r.set c (gi to (gi r (c : Int))))[X]'(by simpa using hX) := by
    rw [gi_nat (by simpa [renC] using hX)]; rfl
  rw [e, List.getElem_set]
  by_cases e1 : c = X
  · subst e1; rw [if_pos rfl, if_pos rfl]
  · have n1 : ¬ (X : Int) = (c : Int) := by omega
    rw [if_neg e1, if_neg n1, gi_nat hX]
theorem cnt_map' {t : List (List Int)} {g : List Int → List Int} {ps : PL} {φ : Int × Int → Int × Int} (h : ∀ r ∈ t, ∀ q ∈ ps, gi r q.1 = q.2 ↔ gi (g r) (φ q).1 = (φ q).2) : cnt t ps = cnt (t.map g) (ps.map φ) := by
  unfold cnt
  rw [List.countP_map]
  refine List.countP_congr fun r hr => ?_
  simp only [Function.comp, List.all_eq_true, beq_iff_eq, List.mem_map, forall_exists_index, and_imp, forall_apply_eq_imp_iff₂]
  exact forall_congr' fun q => forall_congr' fun hq => h r hr q hq
theorem ren_arr {v : Int} {t : List (List Int)} {c : Nat} {to : List Int} (h : renP v t c to) : ArrP v (t.map (renC c to)) ∧ wd (t.map (renC c to)) = wd t := by
  obtain ⟨⟨hA, h2, h3⟩, hn⟩ := h
  have hw := hA.wd
  have hv := hA.1
  have hv4 := hA.2.1
  obtain ⟨g1, g2⟩ := names_good (by omega) (by omega) hn
  refine ArrP_map hA (by omega) (by omega) fun r hr => ?_
  have hr1 := hA.row hr
  refine ⟨by simp [renC]; exact hr1.1, fun x hx => ?_⟩
  unfold renC at hx
  rcases List.mem_or_eq_of_mem_set hx with hx | rfl
  · exact hr1.2 x hx
  · have hg := hr1.2 _ (gi_mem (xs := r) (k := (c : Int)) (by omega) (by omega))
    have hl := hn.1
    have := g2 _ (gi_mem (xs := to) (k := gi r (c : Int)) hg.1 (by omega))
    omega
theorem ren_same {v : Int} {t : List (List Int)} {c : Nat} {to : List Int} (h : renP v t c to) : Same v t (t.map (renC c to)) := by
  obtain ⟨h1, h2⟩ := ren_arr h
  obtain ⟨⟨hA, q2, q3⟩, hn⟩ := h
  have hv := hA.1
  have hv4 := hA.2.1
  obtain ⟨V, rfl⟩ := Int.eq_ofNat_of_zero_le (show 0 ≤ v by omega)
  simp only [Int.toNat_natCast] at hn
  obtain ⟨g1, g2⟩ := names_good (by omega) (by omega) hn
  have hl := hn.1
  have ex : ∀ k : Int, ∃ j : Int, (0 ≤ k ∧ k < V → (0 ≤ j ∧ j < V) ∧ gi to j = k) := by
    intro k
    by_cases hk : 0 ≤ k ∧ k < V
    · obtain ⟨K, rfl⟩ := Int.eq_ofNat_of_zero_le hk.1
      have hm := hn.2 K (by omega)
      obtain ⟨j, hj, e⟩ := List.mem_iff_getElem.1 hm
      exact ⟨j, fun _ => ⟨⟨by omega, by omega⟩, by rw [gi_nat hj]; exact e⟩⟩
    · exact ⟨0, fun q => absurd q hk⟩
  obtain ⟨ι, hι⟩ := Classical.axiomOfChoice ex
  have rowc : ∀ r ∈ t, c < r.length ∧ (0 ≤ gi r (c : Int) ∧ gi r (c : Int) < (V : Int)) := fun r hr => by
    have := hA.row hr
    exact ⟨by omega, this.2 _ (gi_mem (by omega) (by omega))⟩
  have hto : ∀ j : Int, 0 ≤ j ∧ j < V → 0 ≤ gi to j ∧ gi to j < (V : Int) := fun j hj => g2 _ (gi_mem hj.1 (by omega))
  refine Same.of (φ := fun q => if q.1 = (c : Int) then (q.1, ι q.2) else q) (ψ := fun q => if q.1 = (c : Int) then (q.1, gi to q.2) else q) hA h1 h2 (by simp) ?_ ?_ ?_
  · refine ⟨fun q hq => ?_, fun p q _ _ e => ?_, fun ps hps => cnt_map fun r hr q hq => ?_⟩
    · rw [h2] at hq
      split
      · exact ⟨hq.1, (hι _ hq.2).1⟩
      · exact hq
    · split at e <;> split at e <;> simp_all
    · have hq' := hps q hq
      rw [h2] at hq'
      have hr1 := (hA.row hr).1
      obtain ⟨c1, c2⟩ := rowc r hr
      have hx : 0 ≤ q.1 ∧ q.1 < (r.length : Int) := by have := hq'.1; omega
      rw [ren_gi c1 hx.1 hx.2]
      by_cases e : q.1 = (c : Int)
      · rw [if_pos e, if_pos e]
        obtain ⟨i1, i2⟩ := hι _ hq'.2
        simp only [e]
        constructor
        · intro hh
          exact nod_inj g1 hl c2 i1 (by rw [hh, i2])
        · intro hh
          rw [hh, i2]
      · rw [if_neg e, if_neg e]
  · refine ⟨fun q hq => ?_, fun p q _ _ e => ?_, fun ps hps => cnt_map' fun r hr q hq => ?_⟩
    · rw [h2]
      split
      · exact ⟨hq.1, hto _ hq.2⟩
      · exact hq
    · split at e <;> split at e <;> simp_all
    · have hq' := hps q hq
      have hr1 := (hA.row hr).1
      obtain ⟨c1, c2⟩ := rowc r hr
      have hx : 0 ≤ q.1 ∧ q.1 < (r.length : Int) := by have := hq'.1; omega
      by_cases e : q.1 = (c : Int)
      · rw [if_pos e]
        simp only
        rw [ren_gi c1 hx.1 hx.2, if_pos e, e]
        constructor
        · intro hh; rw [hh]
        · intro hh; exact nod_inj g1 hl c2 hq'.2 hh
      · rw [if_neg e, ren_gi c1 hx.1 hx.2, if_neg e]
  · rw [dstA_map]
    intro r hr s hs
    have r1 := (hA.row hr).1
    have s1 := (hA.row hs).1
    obtain ⟨c1, c2⟩ := rowc r hr
    obtain ⟨d1, d2⟩ := rowc s hs
    unfold dst dstT
    have er : (renC c to r).length = r.length := by simp [renC]
    rw [er]
    refine List.countP_congr fun x hx => ?_
    have hx := List.mem_range.1 hx
    rw [ren_gi c1 (by omega) (by omega), ren_gi d1 (by omega) (by omega)]
    by_cases e : (x : Int) = (c : Int)
    · rw [if_pos e, if_pos e, e]
      simp only [Bool.not_eq_true', decide_eq_false_iff_not]
      exact not_congr ⟨fun hh => nod_inj g1 hl c2 d2 hh, fun hh => by rw [hh]⟩
    · rw [if_neg e, if_neg e]
end Go.Proofs.Ytalaadcbpjnglaa
namespace Go.AM
open Go
/-- a number, and a table of the call's own whose rows lie apart -/
structure OB where
  v : Int
  t : List (List Int)
instance : RV OB where
  rv p H w x := ∃ u, w = .ag [.i x.v, u] ∧ RV.rv p H u (TW.mk x.t)
  mono := by
    rintro p q H H' w x ⟨u, rfl, h⟩ a b
    exact ⟨u, rfl, RV.mono h a b⟩
  pure := by
    rintro p q H H' w x ⟨u, rfl, h⟩ a
    exact ⟨u, rfl, RV.pure h (by simpa [AV.pure, AV.pureAll] using a)⟩
/-- a slice stored into a growing slice of slices -/
theorem Acc.storeL {β : Type} [Rep β] {L lo i : Nat} {p : Nat → Prop} {H : Heap} {v y : AV} {xs : List (List β)} {x : List β} {Q : Heap → Prop} (h : Acc L p H v xs) (hlo : lo ≤ L) (hi : i < xs.length) (hy : Sl (fun b => p b ∧ v.blk ≠ some b) H y x)
    (go : ∀ H', Acc L p H' v (xs.set i x) → Kx (fun b => v.blk ≠ some b) H H' → H'.length = H.length → Q H') : @optP _ (stA lo H 1 (v.at 1 (i : Int)) y) ⟨Q⟩ := by
  have hyV := hy.cellsV
  rcases h with ⟨rfl, rfl⟩ | ⟨b, o, c, k, rfl, hb, hk, h1, h2, h3⟩
  · simp at hi
  change o + xs.length * 1 ≤ k.length at h1
  have hst : stA lo H 1 (AV.at 1 (.s (Rep.sz (List β)) b o xs.length c) (i : Int)) y = some (H.set b (.cells (k.set (o + i) y))) := by
    simp only [stA, AV.at, Nat.mul_one, Int.toNat_natCast, hyV.1, List.length_singleton, List.all_cons, List.all_nil, hyV.2, Bool.and_self, and_self, if_true]
    rw [st_of hk (by omega) (by simp; omega)]
    simp [wr]
  have kpx : Kx (fun b' => b' ≠ b) H (H.set b (.cells (k.set (o + i) y))) := Kx.set _ _ _
  refine ⟨_, hst, go _ (.inr ⟨b, o, c, k.set (o + i) y, by simp, hb, get_set hk, by simp; change o + xs.length * 1 ≤ _; omega, by simpa using h2, fun j hj => ?_⟩) (kpx.weak fun b' _ hb' e => hb' (by simp [AV.blk, e])) (by simp)⟩
  have hj' : j < xs.length := by simpa using hj
  change Rep.rep _ _ (((k.set (o + i) y).drop (o + j * 1)).take 1) _
  rw [Nat.mul_one]
  by_cases e : i = j
  · subst e
    have e2 : ((k.set (o + i) y).drop (o + i)).take 1 = [y] := by
      rw [List.drop_eq_getElem_cons (by simp; omega)]; simp
    rw [e2, List.getElem_set_self]
    exact ⟨y, rfl, (hy.kp (kpx.kp.weak fun b' hb' => by intro e; exact hb'.2 (by simp [AV.blk, e]))).weak fun b' hb' => ⟨hb'.1, fun e => hb'.2 (by simp [AV.blk, e])⟩⟩
  · have h4 := h3 j hj'
    change Rep.rep _ _ ((k.drop (o + j * 1)).take 1) _ at h4
    rw [Nat.mul_one] at h4
    have e2 : ((k.set (o + i) y).drop (o + j)).take 1 = (k.drop (o + j)).take 1 := by
      rw [List.take_one, List.take_one, List.head?_drop, List.head?_drop, List.getElem?_set_ne (by omega)]
    rw [e2, List.getElem_set_ne e]
    exact Rep.mono h4 (kpx.kp.weak fun b' hb' => hb'.2) fun _ h => h
end Go.AM
namespace Go.Proofs.Ytalaadcbpjnglaa
open Go Go.AM Go.Proofs
theorem of_retB {p : Nat → Prop} {H : Heap} {rows : AV} {v : Int} {t : List (List Int)} (ht : Sl p H rows t) : Ret E 32 [.ag [.i v, rows]] (fun _ => False) H (OB.mk v (cutA t)) := by
  refine Ret.ro rfl fn32 rfl ?_
  unfold f32A
  have hb := ht.bound
  simp (disch := (first | assumption | omega | (simp only [List.length_append, List.length_cons, List.length_nil]; omega))) only [↓wD,wU,Nat.reduceBEq,zx150,zx151,zx159,zx160,zx161,zx162,Nat.reduceAdd,Nat.reduceSub,Nat.reduceMul,Nat.reduceLeDiff,Nat.reduceLT,Nat.reduceEqDiff,Int.reduceAdd,Int.reduceSub,Int.reduceMul,Int.reduceNeg,Int.reduceLT,Int.reduceLE,Int.reduceEq,Int.reduceToNat,Int.cast_ofNat_Int,↓reduceIte, *, ht.L]
  replace ht : Sl (fun b => b < H.length) H rows t := ht.low.weak fun _ h => h.2
  refine Wp.for t.length (fun i a H' => ∃ u, a 10 = rows ∧ a 11 = .i t.length ∧ a 12 = .i i ∧ a 2 = .p (H.length + 1) 0 ∧ a 3 = .p (H.length + 2) 0 ∧ Gr H H' ∧ H.length + 3 ≤ H'.length ∧
    H'[H.length + 1]? = some (.cells [.i 0, .nils]) ∧ H'[H.length + 2]? = some (.cells [.i v, u]) ∧ TB (H.length + 3) H' u (((t.take i).take 19).map fun r => r.take 11)) ?_ ?_
  · rintro i a H1 hi ⟨u, a10, a11, a12, a2, a3, hg, hl, c2, c3, hu⟩ ih
    simp (disch := (first | assumption | omega | (simp only [List.length_append, List.length_cons, List.length_nil]; omega))) only [↓wD,wU,Nat.reduceBEq,zx150,zx151,zx159,zx160,zx161,zx162,Nat.reduceAdd,Nat.reduceSub,Nat.reduceMul,Nat.reduceLeDiff,Nat.reduceLT,Nat.reduceEqDiff,Int.reduceAdd,Int.reduceSub,Int.reduceMul,Int.reduceNeg,Int.reduceLT,Int.reduceLE,Int.reduceEq,Int.reduceToNat,Int.cast_ofNat_Int,↓reduceIte, *]
    refine condP_split (fun hlt => ?_) (fun hlt => ?_)
    · have hi' : i < t.length := by omega
      have ht1 := ht.gr hg
      have g := ht1.get (k := (i : Int)) (by omega) (by omega)
      simp (disch := (first | assumption | omega | (simp only [List.length_append, List.length_cons, List.length_nil]; omega))) only [↓wD,wU,Nat.reduceBEq,zx150,zx151,zx159,zx160,zx161,zx162,Nat.reduceAdd,Nat.reduceSub,Nat.reduceMul,Nat.reduceLeDiff,Nat.reduceLT,Nat.reduceEqDiff,Int.reduceAdd,Int.reduceSub,Int.reduceMul,Int.reduceNeg,Int.reduceLT,Int.reduceLE,Int.reduceEq,Int.reduceToNat,Int.cast_ofNat_Int,↓reduceIte, *, ht1.L]
      refine condP_split (fun h6 => ?_) (fun h6 => ?_)
      · simp (disch := (first | assumption | omega | (simp only [List.length_append, List.length_cons, List.length_nil]; omega))) only [↓wD,wU,Nat.reduceBEq,zx150,zx151,zx159,zx160,zx161,zx162,Nat.reduceAdd,Nat.reduceSub,Nat.reduceMul,Nat.reduceLeDiff,Nat.reduceLT,Nat.reduceEqDiff,Int.reduceAdd,Int.reduceSub,Int.reduceMul,Int.reduceNeg,Int.reduceLT,Int.reduceLE,Int.reduceEq,Int.reduceToNat,Int.cast_ofNat_Int,↓reduceIte, *, ld_of c3]
        refine (list_ret g).toF fun y H2 hg2 hy => ?_
        have hl2 := hg2.1
        simp (disch := (first | assumption | omega | (simp only [List.length_append, List.length_cons, List.length_nil]; omega))) only [↓wD,wU,Nat.reduceBEq,zx150,zx151,zx159,zx160,zx161,zx162,Nat.reduceAdd,Nat.reduceSub,Nat.reduceMul,Nat.reduceLeDiff,Nat.reduceLT,Nat.reduceEqDiff,Int.reduceAdd,Int.reduceSub,Int.reduceMul,Int.reduceNeg,Int.reduceLT,Int.reduceLE,Int.reduceEq,Int.reduceToNat,Int.cast_ofNat_Int,↓reduceIte, *, hy.cellsV]
        have bu := fun b e => hu.blk_lt (b := b) e
        refine hu.push hg2 (by omega) (by omega) hy ?_ fun u' H3 hu' hk3 => ?_
        · simp; omega
        · have c33 := hk3.get (b := H.length + 2) (fun e => by have := (bu _ e).1; omega) (hg2.get c3)
          have c23 := hk3.get (b := H.length + 1) (fun e => by have := (bu _ e).1; omega) (hg2.get c2)
          have hl3 := hk3.1
          simp (disch := (first | assumption | omega | (simp only [List.length_append, List.length_cons, List.length_nil]; omega))) only [↓wD,wU,Nat.reduceBEq,zx150,zx151,zx159,zx160,zx161,zx162,Nat.reduceAdd,Nat.reduceSub,Nat.reduceMul,Nat.reduceLeDiff,Nat.reduceLT,Nat.reduceEqDiff,Int.reduceAdd,Int.reduceSub,Int.reduceMul,Int.reduceNeg,Int.reduceLT,Int.reduceLE,Int.reduceEq,Int.reduceToNat,Int.cast_ofNat_Int,↓reduceIte, *, st_of c33, hu'.sl.cellsV]
          refine (ih hi').go ⟨u', ?_⟩
          simp (disch := (first | assumption | omega | (simp only [List.length_append, List.length_cons, List.length_nil]; omega))) only [↓wD,wU,Nat.reduceBEq,zx150,zx151,zx159,zx160,zx161,zx162,Nat.reduceAdd,Nat.reduceSub,Nat.reduceMul,Nat.reduceLeDiff,Nat.reduceLT,Nat.reduceEqDiff,Int.reduceAdd,Int.reduceSub,Int.reduceMul,Int.reduceNeg,Int.reduceLT,Int.reduceLE,Int.reduceEq,Int.reduceToNat,Int.cast_ofNat_Int,↓reduceIte, *]
          have e : ((t.take (i + 1)).take 19) = (t.take i).take 19 ++ [gi t i] := by
            rw [List.take_take, List.take_take, show min 19 (i + 1) = i + 1 by omega, show min 19 i = i by omega, take_gi hi']
          rw [e, List.map_append]
          refine ⟨((hg.trans hg2).trans' hk3 fun b hb e => by have := (bu b e).1; omega).set (by omega) _, by simp; omega, by rw [List.getElem?_set_ne (by omega)]; exact c23, get_set c33, ?_⟩
          exact hu'.kp ((Kp.set _ _ _).weak fun b hb => by omega)
      · simp (disch := (first | assumption | omega | (simp only [List.length_append, List.length_cons, List.length_nil]; omega))) only [↓wD,wU,Nat.reduceBEq,zx150,zx151,zx159,zx160,zx161,zx162,Nat.reduceAdd,Nat.reduceSub,Nat.reduceMul,Nat.reduceLeDiff,Nat.reduceLT,Nat.reduceEqDiff,Int.reduceAdd,Int.reduceSub,Int.reduceMul,Int.reduceNeg,Int.reduceLT,Int.reduceLE,Int.reduceEq,Int.reduceToNat,Int.cast_ofNat_Int,↓reduceIte, *]
        refine (ih hi').go ⟨u, ?_⟩
        simp (disch := (first | assumption | omega | (simp only [List.length_append, List.length_cons, List.length_nil]; omega))) only [↓wD,wU,Nat.reduceBEq,zx150,zx151,zx159,zx160,zx161,zx162,Nat.reduceAdd,Nat.reduceSub,Nat.reduceMul,Nat.reduceLeDiff,Nat.reduceLT,Nat.reduceEqDiff,Int.reduceAdd,Int.reduceSub,Int.reduceMul,Int.reduceNeg,Int.reduceLT,Int.reduceLE,Int.reduceEq,Int.reduceToNat,Int.cast_ofNat_Int,↓reduceIte, *]
        have e : ((t.take (i + 1)).take 19) = (t.take i).take 19 := by
          rw [List.take_take, List.take_take]; congr 1; omega
        rw [e]; first | exact hu | exact ⟨hg, hu⟩ | exact ⟨hg, hl, hu⟩
    · have e : i = t.length := by omega
      subst e
      simp (disch := (first | assumption | omega | (simp only [List.length_append, List.length_cons, List.length_nil]; omega))) only [↓wD,wU,Nat.reduceBEq,zx150,zx151,zx159,zx160,zx161,zx162,Nat.reduceAdd,Nat.reduceSub,Nat.reduceMul,Nat.reduceLeDiff,Nat.reduceLT,Nat.reduceEqDiff,Int.reduceAdd,Int.reduceSub,Int.reduceMul,Int.reduceNeg,Int.reduceLT,Int.reduceLE,Int.reduceEq,Int.reduceToNat,Int.cast_ofNat_Int,↓reduceIte, *, ldn_of c3, st_of c2, hu.sl.cellsV]
      simp (disch := (first | assumption | omega | (simp only [List.length_append, List.length_cons, List.length_nil]; omega))) only [↓wD,wU,Nat.reduceBEq,zx150,zx151,zx159,zx160,zx161,zx162,Nat.reduceAdd,Nat.reduceSub,Nat.reduceMul,Nat.reduceLeDiff,Nat.reduceLT,Nat.reduceEqDiff,Int.reduceAdd,Int.reduceSub,Int.reduceMul,Int.reduceNeg,Int.reduceLT,Int.reduceLE,Int.reduceEq,Int.reduceToNat,Int.cast_ofNat_Int,↓reduceIte, *, ldn_of (get_set c2)]
      rw [List.take_length] at hu
      exact ⟨_, rfl, (hu.kp ((Kp.set _ _ _).weak fun b hb => by omega)).rv fun b h => .inr (by omega)⟩
  · simp (disch := (first | assumption | omega | (simp only [List.length_append, List.length_cons, List.length_nil]; omega))) only [↓wD,wU,Nat.reduceBEq,zx150,zx151,zx159,zx160,zx161,zx162,Nat.reduceAdd,Nat.reduceSub,Nat.reduceMul,Nat.reduceLeDiff,Nat.reduceLT,Nat.reduceEqDiff,Int.reduceAdd,Int.reduceSub,Int.reduceMul,Int.reduceNeg,Int.reduceLT,Int.reduceLE,Int.reduceEq,Int.reduceToNat,Int.cast_ofNat_Int,↓reduceIte, *]
    refine ⟨.nils, ?_⟩
    simp (disch := (first | assumption | omega | (simp only [List.length_append, List.length_cons, List.length_nil]; omega))) only [↓wD,wU,Nat.reduceBEq,zx150,zx151,zx159,zx160,zx161,zx162,Nat.reduceAdd,Nat.reduceSub,Nat.reduceMul,Nat.reduceLeDiff,Nat.reduceLT,Nat.reduceEqDiff,Int.reduceAdd,Int.reduceSub,Int.reduceMul,Int.reduceNeg,Int.reduceLT,Int.reduceLE,Int.reduceEq,Int.reduceToNat,Int.cast_ofNat_Int,↓reduceIte, *]
    exact ⟨(((Gr.refl H).app _).app _).app _, TB.nil⟩
def distX (v : Int) (t : List (List Int)) : Int := if t.length = 1 then 0 else minF (wd t) (dstA t t.length)
def distE (t : List (List Int)) : Int := if t.length = 1 then 4 else 0
theorem dist_any {p : Nat → Prop} {H : Heap} {rows : AV} {v : Int} {t : List (List Int)} (ht : Sl p H rows t) (hA : ArrP v t) : RetP E 47 [.ag [.i v, rows]] H (.tp [.i (distX v t), .i (distE t)]) := by
  unfold distX distE
  by_cases h1 : t.length = 1
  · rw [if_pos h1, if_pos h1]; exact distance_one ht hA h1
  · rw [if_neg h1, if_neg h1]; exact distance_ret ht hA (by have := hA.2.2.1; omega)
theorem Same.dists {v : Int} {t t' : List (List Int)} (h : Same v t t') : distX v t' = distX v t ∧ distE t' = distE t := by
  unfold distX distE
  rw [h.hlen]
  refine ⟨?_, rfl⟩
  split
  · rfl
  · rw [h.hwd]
    have := h.dist
    rw [h.hlen] at this
    exact this
end Go.Proofs.Ytalaadcbpjnglaa
namespace Go.AM
open Go
/-- code that simp does not look into -/
def Hide (c : ACode) : ACode := c
/-- behind n statements -/
def tl : Nat → ACode → ACode
  | 0, c => c
  | n + 1, .seq _ y => tl n y
  | _ + 1, c => c
/-- the same code, put away from behind n statements on -/
def ins : Nat → ACode → ACode
  | 0, c => Hide c
  | n + 1, .seq x y => .seq x (ins n y)
  | _ + 1, c => c
theorem ins_eq : ∀ (n : Nat) (c : ACode), ins n c = c
  | 0, _ => rfl
  | n + 1, c => by
    cases c with
    | seq x y => simp only [ins, ins_eq n y]
    | _ => rfl
end Go.AM
namespace Go.Proofs.Ytalaadcbpjnglaa
open Go Go.AM Go.Proofs
theorem u64_idx {k : Int} {n : Nat} (h : 0 < n) (h1 : n ≤ 1000000) : ∃ r : Nat, r < n ∧ IntKind.wrap .u64 (n : Int) = n ∧ (IntKind.wrap .u64 k).tmod n = r ∧ IntKind.wrap .i64 (r : Int) = r := by
  have h2 : 0 ≤ IntKind.wrap .u64 k := by
    have e1 : IntKind.u64.bits = 64 := rfl
    have e2 : IntKind.u64.signed = false := rfl
    simp only [IntKind.wrap, e1, e2, Bool.false_and, Bool.false_eq_true, if_false]
    exact Int.emod_nonneg _ (by decide)
  have h3 := Int.tmod_nonneg (n : Int) h2
  have h4 := Int.tmod_lt_of_pos (IntKind.wrap .u64 k) (show (0 : Int) < n by omega)
  obtain ⟨r, hr⟩ := Int.eq_ofNat_of_zero_le h3
  exact ⟨r, by omega, wrapU (by omega) (by omega), hr, zx172 (by omega) (by omega)⟩
section
variable {H G : Heap} {v : Int} {r u : AV} {t : List (List Int)} {to : List Int} {k c : Nat} {a : Fr}
theorem stn (K : Heap) (X : AI2) (z : AV) (hK : H.length ≤ K.length) : st H.length (K ++ [Blk.cells [.i 0, .nils]]) K.length 0 [.i X.1, z] = some (K ++ [Blk.cells [.i X.1, z]]) := by
  rw [st_of get_last hK (by simp)]
  congr 1
  simp [wr]
theorem kep_f (hA : ArrP v t) (q1 : 1 ≤ k) (q2 : k ≤ 3) (q3 : k ≤ wd t) (hc : c < wd t) (hl : H.length < G.length) (ca : G[H.length]? = some (.cells [.i v, r])) (sa : Sl (fun _ => True) G r t)
    (a1 : a 1 = .i k) (a2 : a 2 = .i c) (a6 : a 6 = .p H.length 0) (a13 : a 13 = .b (coversB v t k)) (a15 : a 15 = .b (fairK v t k)) :
    Wp E H.length none [.code (Hide (tl 17 f15A.body))] a G (RetQ [.t 12] fun v _ => v = .b true) := by
  unfold f15A
  simp only [tl, Hide]
  have hw := hA.wd
  simp (disch := (first | assumption | omega | (simp only [List.length_append, List.length_cons, List.length_nil]; omega))) only [↓wD,wU,Nat.reduceBEq,zx150,zx151,zx159,zx160,zx161,zx162,Nat.reduceAdd,Nat.reduceSub,Nat.reduceMul,Nat.reduceLeDiff,Nat.reduceLT,Nat.reduceEqDiff,Int.reduceAdd,Int.reduceSub,Int.reduceMul,Int.reduceNeg,Int.reduceLT,Int.reduceLE,Int.reduceEq,Int.reduceToNat,Int.cast_ofNat_Int,↓reduceIte, a1, a2, a6, a13, a15, ldn_of ca]
  refine (of_ret sa).toX fun w G1 x1 hw => ?_
  obtain ⟨u1, rfl, hu1⟩ := rv_si_elim hw
  have ca1 := x1.get trivial ca
  have sa1 := sa.kp (x1.all _).kp
  have hl1 := x1.1
  have hdr := drop_any (v := v) (c := (c : Int)) hu1
  have hcp : colP v t (c : Int) := ⟨hA, by omega, by omega⟩
  obtain ⟨Y, eY⟩ : ∃ Y, dropX v t (c : Int) = Y := ⟨_, rfl⟩
  obtain ⟨f, ef⟩ : ∃ f, dropE v t (c : Int) = f := ⟨_, rfl⟩
  rw [eY, ef] at hdr
  simp (disch := (first | assumption | omega | (simp only [List.length_append, List.length_cons, List.length_nil]; omega))) only [↓wD,wU,Nat.reduceBEq,zx150,zx151,zx159,zx160,zx161,zx162,Nat.reduceAdd,Nat.reduceSub,Nat.reduceMul,Nat.reduceLeDiff,Nat.reduceLT,Nat.reduceEqDiff,Int.reduceAdd,Int.reduceSub,Int.reduceMul,Int.reduceNeg,Int.reduceLT,Int.reduceLE,Int.reduceEq,Int.reduceToNat,Int.cast_ofNat_Int,↓reduceIte, a1, a2, a6, a13, a15]
  refine hdr.toX fun w G2 x2 hw => ?_
  obtain ⟨w1, w2, rfl, hw1, hw2⟩ := rv2 hw
  obtain rfl := rvi hw2
  obtain ⟨yr, rfl, hy⟩ := rv_si_elim (v := Y.1) (xs := Y.2) hw1
  replace hy : Sl (fun _ => True) G2 yr Y.2 := hy.weak fun _ _ => trivial
  have hl2 := x2.1
  have x23 : Kx (fun _ => True) G2 (G2 ++ [Blk.cells [.i Y.1, yr]]) := Kx.app _ _ _
  have cy : (G2 ++ [Blk.cells [.i Y.1, yr]])[G2.length]? = some (.cells [.i Y.1, yr]) := get_last
  have hy3 := hy.kp (x23.all _).kp
  have ca3 := x23.get trivial (x2.get trivial ca1)
  have sa3 := (sa1.kp (x2.all _).kp).kp (x23.all _).kp
  have s3 := stn (H := H) G2 Y yr (by omega)
  have hyV := hy.cellsV
  have b3 : (G2 ++ [Blk.cells [.i Y.1, yr]]).length = G2.length + 1 := by simp
  unfold dropX at eY
  unfold dropE at ef
  rw [if_pos hcp] at eY ef
  by_cases h1 : wd t = 1
  · rw [if_pos h1] at eY ef
    subst ef
    have wr := width_ret (v := v) sa3 hA.2.2.1
    have d1 : decide ((wd t : Int) = 1) = true := decide_eq_true (by omega)
    simp (disch := (first | assumption | omega | (simp only [List.length_append, List.length_cons, List.length_nil]; omega))) only [↓wD,wU,Nat.reduceBEq,zx150,zx151,zx159,zx160,zx161,zx162,Nat.reduceAdd,Nat.reduceSub,Nat.reduceMul,Nat.reduceLeDiff,Nat.reduceLT,Nat.reduceEqDiff,Int.reduceAdd,Int.reduceSub,Int.reduceMul,Int.reduceNeg,Int.reduceLT,Int.reduceLE,Int.reduceEq,Int.reduceToNat,Int.cast_ofNat_Int,↓reduceIte, a1, a2, a6, a13, a15, hyV, s3, ldn_of ca3, wr.call, d1, awake_ret.call]
  rw [if_neg h1] at eY ef
  subst ef
  simp only [Int.toNat_natCast] at eY
  have wr := width_ret (v := v) sa3 hA.2.2.1
  by_cases h2 : wd t ≤ k
  · have d1 : decide ((wd t : Int) ≤ (k : Int)) = true := decide_eq_true (by omega)
    simp (disch := (first | assumption | omega | (simp only [List.length_append, List.length_cons, List.length_nil]; omega))) only [↓wD,wU,Nat.reduceBEq,zx150,zx151,zx159,zx160,zx161,zx162,Nat.reduceAdd,Nat.reduceSub,Nat.reduceMul,Nat.reduceLeDiff,Nat.reduceLT,Nat.reduceEqDiff,Int.reduceAdd,Int.reduceSub,Int.reduceMul,Int.reduceNeg,Int.reduceLT,Int.reduceLE,Int.reduceEq,Int.reduceToNat,Int.cast_ofNat_Int,↓reduceIte, a1, a2, a6, a13, a15, hyV, s3, ldn_of ca3, wr.call, d1, awake_ret.call]
  have d1 : decide ((wd t : Int) ≤ (k : Int)) = false := decide_eq_false (by omega)
  obtain ⟨hA', hw'⟩ := drop_arr hA hc (by omega)
  have em := drop_emb hA hc (by omega)
  have mc : coversB v t k = true → coversB v (t.map (cutC c)) k = true := em.covers
  have mf : fairK v t k = true → fairK v (t.map (cutC c)) k = true := em.fair hA hA' q3 (by omega)
  have e1 : Y.1 = v := by rw [← eY]
  have e2 : Y.2 = t.map (cutC c) := by rw [← eY]
  rw [e2] at hy3
  rw [e1] at cy s3 ca3 sa3 hy3 wr b3
  obtain ⟨X, eX⟩ : ∃ X, coversB v t k = X := ⟨_, rfl⟩
  obtain ⟨F, eF⟩ : ∃ F, fairK v t k = F := ⟨_, rfl⟩
  rw [eX] at mc a13
  rw [eF] at mf a15
  simp (disch := (first | assumption | omega | (simp only [List.length_append, List.length_cons, List.length_nil]; omega))) only [↓wD,wU,Nat.reduceBEq,zx150,zx151,zx159,zx160,zx161,zx162,Nat.reduceAdd,Nat.reduceSub,Nat.reduceMul,Nat.reduceLeDiff,Nat.reduceLT,Nat.reduceEqDiff,Int.reduceAdd,Int.reduceSub,Int.reduceMul,Int.reduceNeg,Int.reduceLT,Int.reduceLE,Int.reduceEq,Int.reduceToNat,Int.cast_ofNat_Int,↓reduceIte, a1, a2, a6, a13, a15, hyV, e1, s3, ldn_of ca3, wr.call, d1, ldn_of cy]
  generalize G2 ++ [Blk.cells [.i v, yr]] = G3 at *
  refine (own_ret hy3).toX fun w G4 x4 hw => ?_
  obtain ⟨z4, rfl, hz4⟩ := rv_si_elim hw
  have cy4 := x4.get trivial cy
  have hy4 := hy3.kp (x4.all _).kp
  simp (disch := (first | assumption | omega | (simp only [List.length_append, List.length_cons, List.length_nil]; omega))) only [↓wD,wU,Nat.reduceBEq,zx150,zx151,zx159,zx160,zx161,zx162,Nat.reduceAdd,Nat.reduceSub,Nat.reduceMul,Nat.reduceLeDiff,Nat.reduceLT,Nat.reduceEqDiff,Int.reduceAdd,Int.reduceSub,Int.reduceMul,Int.reduceNeg,Int.reduceLT,Int.reduceLE,Int.reduceEq,Int.reduceToNat,Int.cast_ofNat_Int,↓reduceIte, a1, a2, a6, a13, a15]
  refine (of_ret hz4).toX fun w G5 x5 hw => ?_
  obtain ⟨z5, rfl, hz5⟩ := rv_si_elim hw
  rw [cutA_ok hA'] at hz5
  have cy5 := x5.get trivial cy4
  have hy5 := hy4.kp (x5.all _).kp
  have cr := covers_ret (k := k) hz5 hA' q1 q2 (by omega)
  have fr := fair_ret (k := k) hy5 hA' q1 q2 (by omega)
  have efr : decide (0 < idxL (allL v (t.map (cutC c)) k)) = fairK v (t.map (cutC c)) k := rfl
  rw [efr] at fr
  obtain ⟨X', eX'⟩ : ∃ X', coversB v (t.map (cutC c)) k = X' := ⟨_, rfl⟩
  obtain ⟨F', eF'⟩ : ∃ F', fairK v (t.map (cutC c)) k = F' := ⟨_, rfl⟩
  rw [eX'] at mc cr
  rw [eF'] at mf fr
  cases X with
  | false => cases F with
    | false => simp (disch := (first | assumption | omega | (simp only [List.length_append, List.length_cons, List.length_nil]; omega))) only [↓wD,wU,Nat.reduceBEq,zx150,zx151,zx159,zx160,zx161,zx162,Nat.reduceAdd,Nat.reduceSub,Nat.reduceMul,Nat.reduceLeDiff,Nat.reduceLT,Nat.reduceEqDiff,Int.reduceAdd,Int.reduceSub,Int.reduceMul,Int.reduceNeg,Int.reduceLT,Int.reduceLE,Int.reduceEq,Int.reduceToNat,Int.cast_ofNat_Int,↓reduceIte, a1, a2, a6, a13, a15, cr.call, ldn_of cy5, fr.call, awake_ret.call]
    | true =>
      obtain rfl := mf rfl
      simp (disch := (first | assumption | omega | (simp only [List.length_append, List.length_cons, List.length_nil]; omega))) only [↓wD,wU,Nat.reduceBEq,zx150,zx151,zx159,zx160,zx161,zx162,Nat.reduceAdd,Nat.reduceSub,Nat.reduceMul,Nat.reduceLeDiff,Nat.reduceLT,Nat.reduceEqDiff,Int.reduceAdd,Int.reduceSub,Int.reduceMul,Int.reduceNeg,Int.reduceLT,Int.reduceLE,Int.reduceEq,Int.reduceToNat,Int.cast_ofNat_Int,↓reduceIte, a1, a2, a6, a13, a15, cr.call, ldn_of cy5, fr.call, awake_ret.call]
  | true =>
    obtain rfl := mc rfl
    cases F with
    | false => simp (disch := (first | assumption | omega | (simp only [List.length_append, List.length_cons, List.length_nil]; omega))) only [↓wD,wU,Nat.reduceBEq,zx150,zx151,zx159,zx160,zx161,zx162,Nat.reduceAdd,Nat.reduceSub,Nat.reduceMul,Nat.reduceLeDiff,Nat.reduceLT,Nat.reduceEqDiff,Int.reduceAdd,Int.reduceSub,Int.reduceMul,Int.reduceNeg,Int.reduceLT,Int.reduceLE,Int.reduceEq,Int.reduceToNat,Int.cast_ofNat_Int,↓reduceIte, a1, a2, a6, a13, a15, cr.call, ldn_of cy5, fr.call, awake_ret.call]
    | true =>
      obtain rfl := mf rfl
      simp (disch := (first | assumption | omega | (simp only [List.length_append, List.length_cons, List.length_nil]; omega))) only [↓wD,wU,Nat.reduceBEq,zx150,zx151,zx159,zx160,zx161,zx162,Nat.reduceAdd,Nat.reduceSub,Nat.reduceMul,Nat.reduceLeDiff,Nat.reduceLT,Nat.reduceEqDiff,Int.reduceAdd,Int.reduceSub,Int.reduceMul,Int.reduceNeg,Int.reduceLT,Int.reduceLE,Int.reduceEq,Int.reduceToNat,Int.cast_ofNat_Int,↓reduceIte, a1, a2, a6, a13, a15, cr.call, ldn_of cy5, fr.call, awake_ret.call]
theorem kep_e {lv : AV} {ls : List AI2} (hA : ArrP v t) (q1 : 1 ≤ k) (q2 : k ≤ 3) (q3 : k ≤ wd t) (hc : c < wd t) (hl : H.length < G.length) (ca : G[H.length]? = some (.cells [.i v, r])) (sa : Sl (fun _ => True) G r t)
    (hls : Sl (fun _ => True) G lv ls) (hin : ∀ x ∈ ls, x.1 = v ∧ Same v t x.2) (h3 : ls.length ≤ 3)
    (a1 : a 1 = .i k) (a2 : a 2 = .i c) (a6 : a 6 = .p H.length 0) (a13 : a 13 = .b (coversB v t k)) (a15 : a 15 = .b (fairK v t k)) (a17 : a 17 = .i (distX v t)) (a18 : a 18 = .i (distE t)) (a29 : a 29 = lv) :
    Wp E H.length none [.code (Hide (tl 16 f15A.body))] a G (RetQ [.t 12] fun v _ => v = .b true) := by
  unfold Hide
  rw [← ins_eq 1 (tl 16 f15A.body)]
  unfold f15A
  simp only [tl, ins]
  have lL := hls.lenV
  simp (disch := (first | assumption | omega | (simp only [List.length_append, List.length_cons, List.length_nil]; omega))) only [↓wD,wU,Nat.reduceBEq,zx150,zx151,zx159,zx160,zx161,zx162,Nat.reduceAdd,Nat.reduceSub,Nat.reduceMul,Nat.reduceLeDiff,Nat.reduceLT,Nat.reduceEqDiff,Int.reduceAdd,Int.reduceSub,Int.reduceMul,Int.reduceNeg,Int.reduceLT,Int.reduceLE,Int.reduceEq,Int.reduceToNat,Int.cast_ofNat_Int,↓reduceIte, a1, a2, a6, a13, a15, a17, a18, a29, lL]
  refine Wp.for ls.length (fun i a K => a 1 = .i k ∧ a 2 = .i c ∧ a 6 = .p H.length 0 ∧ a 13 = .b (coversB v t k) ∧ a 15 = .b (fairK v t k) ∧ a 17 = .i (distX v t) ∧ a 18 = .i (distE t) ∧ a 194 = lv ∧ a 195 = .i ls.length ∧ a 196 = .i i ∧ Kx (fun _ => True) G K) ?_ ?_
  · clear a1 a2 a6 a13 a15 a17 a18 a29
    rintro i a K hi ⟨a1, a2, a6, a13, a15, a17, a18, a194, a195, a196, hx⟩ ih
    have hlK := hx.1
    have caK := hx.get trivial ca
    have saK := sa.kp (hx.all _).kp
    simp (disch := (first | assumption | omega | (simp only [List.length_append, List.length_cons, List.length_nil]; omega))) only [↓wD,wU,Nat.reduceBEq,zx150,zx151,zx159,zx160,zx161,zx162,Nat.reduceAdd,Nat.reduceSub,Nat.reduceMul,Nat.reduceLeDiff,Nat.reduceLT,Nat.reduceEqDiff,Int.reduceAdd,Int.reduceSub,Int.reduceMul,Int.reduceNeg,Int.reduceLT,Int.reduceLE,Int.reduceEq,Int.reduceToNat,Int.cast_ofNat_Int,↓reduceIte, a1, a2, a6, a13, a15, a17, a18, a194, a195, a196]
    refine condP_split (fun hlt => ?_) (fun hlt => ?_)
    · have hi' : i < ls.length := by omega
      obtain ⟨hxv, S⟩ := hin _ (mem_gi hi')
      have hlsK := hls.kp (hx.all _).kp
      have i1 : iaddrV 2 lv (.i (i : Int)) = some (lv.at 2 (i : Int)) := hlsK.iaddr (by omega) (by omega)
      obtain ⟨l1, l2⟩ := hlsK.ld_n (k := (i : Int)) (by omega) (by omega)
      change ldA K (some 2) (lv.at 2 (i : Int)) = _ at l1
      obtain ⟨z, ez, hz⟩ := rep_si_elim l2
      rw [ez, hxv] at l1
      obtain ⟨t', et⟩ : ∃ t', (gi ls (i : Int)).2 = t' := ⟨_, rfl⟩
      rw [et] at S hz
      have hzV := hz.cellsV
      have hB := S.arr
      have s3 : st H.length (K ++ [Blk.cells [.i 0, .nils]]) K.length 0 [.i v, z] = some (K ++ [Blk.cells [.i v, z]]) := stn K (v, t') z (by omega)
      have xk : Kx (fun _ => True) K (K ++ [Blk.cells [.i v, z]]) := Kx.app _ _ _
      have cz : (K ++ [Blk.cells [.i v, z]])[K.length]? = some (.cells [.i v, z]) := get_last
      have caK1 := xk.get trivial caK
      have saK1 := saK.kp (xk.all _).kp
      have hz1 := hz.kp (xk.all _).kp
      have x0 : Kx (fun _ => True) G (K ++ [Blk.cells [.i v, z]]) := hx.trans xk fun _ _ _ => trivial
      obtain ⟨b, eb⟩ : ∃ b, K.length = b := ⟨_, rfl⟩
      simp (disch := (first | assumption | omega | (simp only [List.length_append, List.length_cons, List.length_nil]; omega))) only [↓wD,wU,Nat.reduceBEq,zx150,zx151,zx159,zx160,zx161,zx162,Nat.reduceAdd,Nat.reduceSub,Nat.reduceMul,Nat.reduceLeDiff,Nat.reduceLT,Nat.reduceEqDiff,Int.reduceAdd,Int.reduceSub,Int.reduceMul,Int.reduceNeg,Int.reduceLT,Int.reduceLE,Int.reduceEq,Int.reduceToNat,Int.cast_ofNat_Int,↓reduceIte, a1, a2, a6, a13, a15, a17, a18, a194, a195, a196, i1, l1, hzV, s3, ldn_of cz]
      generalize K ++ [Blk.cells [.i v, z]] = K1 at *
      rw [eb] at cz
      rw [eb]
      refine (own_ret hz1).toX fun w K2 x2 hw => ?_
      obtain ⟨y2, rfl, hy2⟩ := rv_si_elim hw
      have rv := rvalid_ret (v := v) hy2
      rw [decide_eq_true hB] at rv
      have cz2 := x2.get trivial cz
      have ca2' := x2.get trivial caK1
      have hz2 := hz1.kp (x2.all _).kp
      simp (disch := (first | assumption | omega | (simp only [List.length_append, List.length_cons, List.length_nil]; omega))) only [↓wD,wU,Nat.reduceBEq,zx150,zx151,zx159,zx160,zx161,zx162,Nat.reduceAdd,Nat.reduceSub,Nat.reduceMul,Nat.reduceLeDiff,Nat.reduceLT,Nat.reduceEqDiff,Int.reduceAdd,Int.reduceSub,Int.reduceMul,Int.reduceNeg,Int.reduceLT,Int.reduceLE,Int.reduceEq,Int.reduceToNat,Int.cast_ofNat_Int,↓reduceIte, a1, a2, a6, a13, a15, a17, a18, a194, a195, a196, rv.call, ldn_of cz2]
      refine (own_ret hz2).toX fun w K3 x3 hw => ?_
      obtain ⟨y3, rfl, hy3⟩ := rv_si_elim hw
      have cz3 := x3.get trivial cz2
      have ca3 := x3.get trivial ca2'
      have hz3 := hz2.kp (x3.all _).kp
      have sa3 := (saK1.kp (x2.all _).kp).kp (x3.all _).kp
      have al := alike_ret (v := v) (v' := v) hy3 sa3
      rw [decide_eq_true (show alikeP v v t' t from ⟨hB, hA, rfl, S.hwd⟩)] at al
      simp (disch := (first | assumption | omega | (simp only [List.length_append, List.length_cons, List.length_nil]; omega))) only [↓wD,wU,Nat.reduceBEq,zx150,zx151,zx159,zx160,zx161,zx162,Nat.reduceAdd,Nat.reduceSub,Nat.reduceMul,Nat.reduceLeDiff,Nat.reduceLT,Nat.reduceEqDiff,Int.reduceAdd,Int.reduceSub,Int.reduceMul,Int.reduceNeg,Int.reduceLT,Int.reduceLE,Int.reduceEq,Int.reduceToNat,Int.cast_ofNat_Int,↓reduceIte, a1, a2, a6, a13, a15, a17, a18, a194, a195, a196, ldn_of ca3, al.call, ldn_of cz3]
      refine (own_ret hz3).toX fun w K4 x4 hw => ?_
      obtain ⟨y4, rfl, hy4⟩ := rv_si_elim hw
      have cz4 := x4.get trivial cz3
      have hz4 := hz3.kp (x4.all _).kp
      simp (disch := (first | assumption | omega | (simp only [List.length_append, List.length_cons, List.length_nil]; omega))) only [↓wD,wU,Nat.reduceBEq,zx150,zx151,zx159,zx160,zx161,zx162,Nat.reduceAdd,Nat.reduceSub,Nat.reduceMul,Nat.reduceLeDiff,Nat.reduceLT,Nat.reduceEqDiff,Int.reduceAdd,Int.reduceSub,Int.reduceMul,Int.reduceNeg,Int.reduceLT,Int.reduceLE,Int.reduceEq,Int.reduceToNat,Int.cast_ofNat_Int,↓reduceIte, a1, a2, a6, a13, a15, a17, a18, a194, a195, a196]
      refine (of_ret hy4).toX fun w K5 x5 hw => ?_
      obtain ⟨y5, rfl, hy5⟩ := rv_si_elim hw
      rw [cutA_ok hB] at hy5
      have cz5 := x5.get trivial cz4
      have hz5 := hz4.kp (x5.all _).kp
      have cr := covers_ret (k := k) hy5 hB q1 q2 (by have := S.hwd; omega)
      rw [S.cov k] at cr
      simp (disch := (first | assumption | omega | (simp only [List.length_append, List.length_cons, List.length_nil]; omega))) only [↓wD,wU,Nat.reduceBEq,zx150,zx151,zx159,zx160,zx161,zx162,Nat.reduceAdd,Nat.reduceSub,Nat.reduceMul,Nat.reduceLeDiff,Nat.reduceLT,Nat.reduceEqDiff,Int.reduceAdd,Int.reduceSub,Int.reduceMul,Int.reduceNeg,Int.reduceLT,Int.reduceLE,Int.reduceEq,Int.reduceToNat,Int.cast_ofNat_Int,↓reduceIte, a1, a2, a6, a13, a15, a17, a18, a194, a195, a196, cr.call, ldn_of cz5]
      refine (own_ret hz5).toX fun w K6 x6 hw => ?_
      obtain ⟨y6, rfl, hy6⟩ := rv_si_elim hw
      have cz6 := x6.get trivial cz5
      have hz6 := hz5.kp (x6.all _).kp
      simp (disch := (first | assumption | omega | (simp only [List.length_append, List.length_cons, List.length_nil]; omega))) only [↓wD,wU,Nat.reduceBEq,zx150,zx151,zx159,zx160,zx161,zx162,Nat.reduceAdd,Nat.reduceSub,Nat.reduceMul,Nat.reduceLeDiff,Nat.reduceLT,Nat.reduceEqDiff,Int.reduceAdd,Int.reduceSub,Int.reduceMul,Int.reduceNeg,Int.reduceLT,Int.reduceLE,Int.reduceEq,Int.reduceToNat,Int.cast_ofNat_Int,↓reduceIte, a1, a2, a6, a13, a15, a17, a18, a194, a195, a196]
      refine (of_ret hy6).toX fun w K7 x7 hw => ?_
      obtain ⟨y7, rfl, hy7⟩ := rv_si_elim hw
      rw [cutA_ok hB] at hy7
      have cz7 := x7.get trivial cz6
      have hz7 := hz6.kp (x7.all _).kp
      have fr := fair_ret (k := k) hy7 hB q1 q2 (by have := S.hwd; omega)
      have efr : decide (0 < idxL (allL v t' k)) = fairK v t' k := rfl
      rw [efr, S.fair k q3] at fr
      simp (disch := (first | assumption | omega | (simp only [List.length_append, List.length_cons, List.length_nil]; omega))) only [↓wD,wU,Nat.reduceBEq,zx150,zx151,zx159,zx160,zx161,zx162,Nat.reduceAdd,Nat.reduceSub,Nat.reduceMul,Nat.reduceLeDiff,Nat.reduceLT,Nat.reduceEqDiff,Int.reduceAdd,Int.reduceSub,Int.reduceMul,Int.reduceNeg,Int.reduceLT,Int.reduceLE,Int.reduceEq,Int.reduceToNat,Int.cast_ofNat_Int,↓reduceIte, a1, a2, a6, a13, a15, a17, a18, a194, a195, a196, fr.call, ldn_of cz7]
      refine (own_ret hz7).toX fun w K8 x8 hw => ?_
      obtain ⟨y8, rfl, hy8⟩ := rv_si_elim hw
      simp (disch := (first | assumption | omega | (simp only [List.length_append, List.length_cons, List.length_nil]; omega))) only [↓wD,wU,Nat.reduceBEq,zx150,zx151,zx159,zx160,zx161,zx162,Nat.reduceAdd,Nat.reduceSub,Nat.reduceMul,Nat.reduceLeDiff,Nat.reduceLT,Nat.reduceEqDiff,Int.reduceAdd,Int.reduceSub,Int.reduceMul,Int.reduceNeg,Int.reduceLT,Int.reduceLE,Int.reduceEq,Int.reduceToNat,Int.cast_ofNat_Int,↓reduceIte, a1, a2, a6, a13, a15, a17, a18, a194, a195, a196]
      refine (of_ret hy8).toX fun w K9 x9 hw => ?_
      obtain ⟨y9, rfl, hy9⟩ := rv_si_elim hw
      rw [cutA_ok hB] at hy9
      have dr := dist_any hy9 hB
      rw [S.dists.1, S.dists.2] at dr
      have dd : ∀ x : Int, decide (¬ x = x) = false := fun x => decide_eq_false fun q => q rfl
      have db : ∀ x : Bool, decide (¬ x = x) = false := fun x => decide_eq_false fun q => q rfl
      have xx : Kx (fun _ => True) G K9 := ((((((((x0.trans x2 fun _ _ _ => trivial).trans x3 fun _ _ _ => trivial).trans x4 fun _ _ _ => trivial).trans x5 fun _ _ _ => trivial).trans x6 fun _ _ _ => trivial).trans x7 fun _ _ _ => trivial).trans x8 fun _ _ _ => trivial).trans x9 fun _ _ _ => trivial)
      simp (disch := (first | assumption | omega | (simp only [List.length_append, List.length_cons, List.length_nil]; omega))) only [↓wD,wU,Nat.reduceBEq,zx150,zx151,zx159,zx160,zx161,zx162,Nat.reduceAdd,Nat.reduceSub,Nat.reduceMul,Nat.reduceLeDiff,Nat.reduceLT,Nat.reduceEqDiff,Int.reduceAdd,Int.reduceSub,Int.reduceMul,Int.reduceNeg,Int.reduceLT,Int.reduceLE,Int.reduceEq,Int.reduceToNat,Int.cast_ofNat_Int,↓reduceIte, a1, a2, a6, a13, a15, a17, a18, a194, a195, a196, dr.call, dd, db]
      refine (ih hi').go ?_
      simp (disch := (first | assumption | omega | (simp only [List.length_append, List.length_cons, List.length_nil]; omega))) only [↓wD,wU,Nat.reduceBEq,zx150,zx151,zx159,zx160,zx161,zx162,Nat.reduceAdd,Nat.reduceSub,Nat.reduceMul,Nat.reduceLeDiff,Nat.reduceLT,Nat.reduceEqDiff,Int.reduceAdd,Int.reduceSub,Int.reduceMul,Int.reduceNeg,Int.reduceLT,Int.reduceLE,Int.reduceEq,Int.reduceToNat,Int.cast_ofNat_Int,↓reduceIte, a1, a2, a6, a13, a15, a17, a18, a194, a195, a196]
      exact xx
    · simp (disch := (first | assumption | omega | (simp only [List.length_append, List.length_cons, List.length_nil]; omega))) only [↓wD,wU,Nat.reduceBEq,zx150,zx151,zx159,zx160,zx161,zx162,Nat.reduceAdd,Nat.reduceSub,Nat.reduceMul,Nat.reduceLeDiff,Nat.reduceLT,Nat.reduceEqDiff,Int.reduceAdd,Int.reduceSub,Int.reduceMul,Int.reduceNeg,Int.reduceLT,Int.reduceLE,Int.reduceEq,Int.reduceToNat,Int.cast_ofNat_Int,↓reduceIte, a1, a2, a6, a13, a15, a17, a18, a194, a195, a196]
      refine kep_f hA q1 q2 q3 hc (by omega) caK saK ?_ ?_ ?_ ?_ ?_
      all_goals (simp (disch := (first | assumption | omega | (simp only [List.length_append, List.length_cons, List.length_nil]; omega))) only [↓wD,wU,Nat.reduceBEq,zx150,zx151,zx159,zx160,zx161,zx162,Nat.reduceAdd,Nat.reduceSub,Nat.reduceMul,Nat.reduceLeDiff,Nat.reduceLT,Nat.reduceEqDiff,Int.reduceAdd,Int.reduceSub,Int.reduceMul,Int.reduceNeg,Int.reduceLT,Int.reduceLE,Int.reduceEq,Int.reduceToNat,Int.cast_ofNat_Int,↓reduceIte, a1, a2, a6, a13, a15])
  · simp (disch := (first | assumption | omega | (simp only [List.length_append, List.length_cons, List.length_nil]; omega))) only [↓wD,wU,Nat.reduceBEq,zx150,zx151,zx159,zx160,zx161,zx162,Nat.reduceAdd,Nat.reduceSub,Nat.reduceMul,Nat.reduceLeDiff,Nat.reduceLT,Nat.reduceEqDiff,Int.reduceAdd,Int.reduceSub,Int.reduceMul,Int.reduceNeg,Int.reduceLT,Int.reduceLE,Int.reduceEq,Int.reduceToNat,Int.cast_ofNat_Int,↓reduceIte, a1, a2, a6, a13, a15, a17, a18, a29]
    exact Kx.refl _ _
theorem kep_d {w1 w2 : AV} {t1 t2 : List (List Int)} {b19 b20 : Nat} (hA : ArrP v t) (q1 : 1 ≤ k) (q2 : k ≤ 3) (q3 : k ≤ wd t) (hc : c < wd t) (hl : H.length < G.length) (ca : G[H.length]? = some (.cells [.i v, r])) (sa : Sl (fun _ => True) G r t)
    (su : Sl (fun _ => True) G u to) (c19 : G[b19]? = some (.cells [.i v, w1])) (c20 : G[b20]? = some (.cells [.i v, w2])) (s1 : Sl (fun _ => True) G w1 t1) (s2 : Sl (fun _ => True) G w2 t2) (S1 : Same v t t1) (S2 : Same v t t2)
    (a1 : a 1 = .i k) (a2 : a 2 = .i c) (a3 : a 3 = u) (a6 : a 6 = .p H.length 0) (a13 : a 13 = .b (coversB v t k)) (a15 : a 15 = .b (fairK v t k)) (a17 : a 17 = .i (distX v t)) (a18 : a 18 = .i (distE t)) (a19 : a 19 = .p b19 0) (a20 : a 20 = .p b20 0) :
    Wp E H.length none [.code (Hide (tl 14 f15A.body))] a G (RetQ [.t 12] fun v _ => v = .b true) := by
  unfold Hide
  rw [← ins_eq 2 (tl 14 f15A.body)]
  unfold f15A
  simp only [tl, ins]
  have v1 := s1.cellsV
  have v2 := s2.cellsV
  have x01 : Kx (fun _ => True) G (G ++ [Blk.cells [.i v, w1, .i v, w2]]) := Kx.app _ _ _
  have cl : (G ++ [Blk.cells [.i v, w1, .i v, w2]])[G.length]? = some (.cells [.i v, w1, .i v, w2]) := get_last
  have acc : Acc G.length (fun b => b < G.length) (G ++ [Blk.cells [.i v, w1, .i v, w2]]) (.s 2 G.length 0 2 (some 2)) ([(v, t1), (v, t2)] : List AI2) := by
    refine .inr ⟨G.length, 0, some 2, _, rfl, Nat.le_refl _, cl, (show 0 + 2 * 2 ≤ 4 by omega), (show 2 ≤ 9223372036854775807 by omega), fun i hi => ?_⟩
    have k1 : Sl (fun b => b < G.length ∧ b ≠ G.length) (G ++ [Blk.cells [.i v, w1, .i v, w2]]) w1 t1 := (s1.low.kp (x01.all _).kp).weak fun b hb => ⟨hb.2, by omega⟩
    have k2 : Sl (fun b => b < G.length ∧ b ≠ G.length) (G ++ [Blk.cells [.i v, w1, .i v, w2]]) w2 t2 := (s2.low.kp (x01.all _).kp).weak fun b hb => ⟨hb.2, by omega⟩
    match i, hi with
    | 0, _ => exact ⟨[.i v], [w1], rfl, rfl, w1, rfl, k1⟩
    | 1, _ => exact ⟨[.i v], [w2], rfl, rfl, w2, rfl, k2⟩
    | n + 2, hi => exact absurd hi (by simp)
  have ca1 := x01.get trivial ca
  have sa1 := sa.kp (x01.all _).kp
  have su1 := su.kp (x01.all _).kp
  have n1 : (G ++ [Blk.cells [.i v, w1, .i v, w2]]).length = G.length + 1 := by simp
  obtain ⟨lv, elv⟩ : ∃ lv, AV.s 2 G.length 0 2 (some 2) = lv := ⟨_, rfl⟩
  have hlvb : ∀ b, lv.blk = some b → b = G.length := fun b e => by rw [← elv] at e; simp [AV.blk] at e; omega
  have saL1 : Sl (fun b => b < G.length) (G ++ [Blk.cells [.i v, w1, .i v, w2]]) r t := (sa.low.kp (x01.all _).kp).weak fun b hb => hb.2
  rw [elv] at acc
  simp (disch := (first | assumption | omega | (simp only [List.length_append, List.length_cons, List.length_nil]; omega))) only [↓wD,wU,Nat.reduceBEq,zx150,zx151,zx159,zx160,zx161,zx162,Nat.reduceAdd,Nat.reduceSub,Nat.reduceMul,Nat.reduceLeDiff,Nat.reduceLT,Nat.reduceEqDiff,Int.reduceAdd,Int.reduceSub,Int.reduceMul,Int.reduceNeg,Int.reduceLT,Int.reduceLE,Int.reduceEq,Int.reduceToNat,Int.cast_ofNat_Int,↓reduceIte, a1, a2, a3, a6, a13, a15, a17, a18, a19, a20, ldn_of c19, ldn_of c20, v1, v2, elv, ldn_of ca1]
  generalize G ++ [Blk.cells [.i v, w1, .i v, w2]] = G1 at *
  refine (of_ret sa1).toX fun w G2 x2 hw => ?_
  obtain ⟨u2, rfl, hu2⟩ := rv_si_elim hw
  simp (disch := (first | assumption | omega | (simp only [List.length_append, List.length_cons, List.length_nil]; omega))) only [↓wD,wU,Nat.reduceBEq,zx150,zx151,zx159,zx160,zx161,zx162,Nat.reduceAdd,Nat.reduceSub,Nat.reduceMul,Nat.reduceLeDiff,Nat.reduceLT,Nat.reduceEqDiff,Int.reduceAdd,Int.reduceSub,Int.reduceMul,Int.reduceNeg,Int.reduceLT,Int.reduceLE,Int.reduceEq,Int.reduceToNat,Int.cast_ofNat_Int,↓reduceIte, a1, a2, a3, a6, a13, a15, a17, a18]
  refine (list_ret (su1.kp (x2.all _).kp)).toFX fun y G3 x3 hy => ?_
  have hrn := rename_any (v := v) (c := (c : Int)) (hu2.kp (x3.all _).kp) hy
  obtain ⟨Z, eZ⟩ : ∃ Z, renX v t (c : Int) to = Z := ⟨_, rfl⟩
  obtain ⟨g, eg⟩ : ∃ g, renE v t (c : Int) to = g := ⟨_, rfl⟩
  rw [eZ, eg] at hrn
  simp (disch := (first | assumption | omega | (simp only [List.length_append, List.length_cons, List.length_nil]; omega))) only [↓wD,wU,Nat.reduceBEq,zx150,zx151,zx159,zx160,zx161,zx162,Nat.reduceAdd,Nat.reduceSub,Nat.reduceMul,Nat.reduceLeDiff,Nat.reduceLT,Nat.reduceEqDiff,Int.reduceAdd,Int.reduceSub,Int.reduceMul,Int.reduceNeg,Int.reduceLT,Int.reduceLE,Int.reduceEq,Int.reduceToNat,Int.cast_ofNat_Int,↓reduceIte, a1, a2, a3, a6, a13, a15, a17, a18]
  refine hrn.toX fun w G4 x4 hw => ?_
  obtain ⟨y1, y2, rfl, hw1, hw2⟩ := rv2 hw
  obtain rfl := rvi hw2
  obtain ⟨zr, rfl, hz⟩ := rv_si_elim (v := Z.1) (xs := Z.2) hw1
  replace hz : Sl (fun b => G3.length ≤ b) G4 zr Z.2 := hz.weak fun b hb => hb.elim (fun h => h.elim) id
  have hl13 : G1.length ≤ G3.length := Nat.le_trans x2.1 x3.1
  have x14 : Kx (fun _ => True) G1 G4 := (x2.trans x3 fun _ _ _ => trivial).trans x4 fun _ _ _ => trivial
  have hl4 := x14.1
  have x45 : Kx (fun _ => True) G4 (G4 ++ [Blk.cells [.i Z.1, zr]]) := Kx.app _ _ _
  have x15 : Kx (fun _ => True) G1 (G4 ++ [Blk.cells [.i Z.1, zr]]) := x14.trans x45 fun _ _ _ => trivial
  have s5 := stn (H := H) G4 Z zr (by omega)
  have cz : (G4 ++ [Blk.cells [.i Z.1, zr]])[G4.length]? = some (.cells [.i Z.1, zr]) := get_last
  have hz5 := hz.kp (x45.all _).kp
  have ca5 := x15.get trivial ca1
  have sa5 := sa1.kp (x15.all _).kp
  have su5 := su1.kp (x15.all _).kp
  have saL5 := saL1.kp (x15.all _).kp
  have acc5 := acc.gr (x15.all _).kp
  have zV := hz.cellsV
  have hl5 := x15.1
  by_cases hn : namesC v.toNat to
  · have hp : renP v t (c : Int) to := ⟨⟨hA, by omega, by omega⟩, hn⟩
    have S3 := ren_same hp
    unfold renX at eZ
    unfold renE at eg
    rw [if_pos hp] at eZ eg
    subst eg
    simp only [Int.toNat_natCast] at eZ
    have e1 : Z.1 = v := by rw [← eZ]
    have e2 : Z.2 = t.map (renC c to) := by rw [← eZ]
    rw [e1] at s5 cz x15 hl5 ca5 sa5 saL5 acc5 hz5
    rw [e2] at hz5
    have n5 : (G4 ++ [Blk.cells [.i v, zr]]).length = G4.length + 1 := by simp
    simp (disch := (first | assumption | omega | (simp only [List.length_append, List.length_cons, List.length_nil]; omega))) only [↓wD,wU,Nat.reduceBEq,zx150,zx151,zx159,zx160,zx161,zx162,Nat.reduceAdd,Nat.reduceSub,Nat.reduceMul,Nat.reduceLeDiff,Nat.reduceLT,Nat.reduceEqDiff,Int.reduceAdd,Int.reduceSub,Int.reduceMul,Int.reduceNeg,Int.reduceLT,Int.reduceLE,Int.reduceEq,Int.reduceToNat,Int.cast_ofNat_Int,↓reduceIte, a1, a2, a3, a6, a13, a15, a17, a18, zV, e1, s5, ldn_of cz]
    generalize G4 ++ [Blk.cells [.i v, zr]] = G5 at *
    rw [← n5]
    have hGG : G.length ≤ G5.length := by omega
    have hHG : H.length ≤ G.length := by omega
    refine Acc.push1 (α := AI2) (q := fun b => G3.length ≤ b) (cs := [.i v, zr]) (x := (v, t.map (renC c to))) (p := fun _ => True) (bytes := 32) (acc5.mono (Kp.refl _ _) fun _ _ => trivial) hHG hGG ?_ (fun b hb => ⟨trivial, fun e => by have := hlvb b e; omega⟩) (by simp) (by omega) fun lv' G6 A6 hk6 _ _ => ?_
    · exact ⟨[.i v], [zr], rfl, rfl, zr, rfl, hz5⟩
    · have ca6 : G6[H.length]? = some (.cells [.i v, r]) := hk6.get (fun e => by have := (acc5.blk_lt e).1; omega) ca5
      have sa6 : Sl (fun _ => True) G6 r t := saL5.mono (hk6.weak fun b hb e => by have := hlvb b e; omega) fun _ _ => trivial
      have hls := A6.sl.weak (q := fun _ => True) fun _ _ => trivial
      have hl6 := hk6.1
      simp (disch := (first | assumption | omega | (simp only [List.length_append, List.length_cons, List.length_nil]; omega))) only [↓wD,wU,Nat.reduceBEq,zx150,zx151,zx159,zx160,zx161,zx162,Nat.reduceAdd,Nat.reduceSub,Nat.reduceMul,Nat.reduceLeDiff,Nat.reduceLT,Nat.reduceEqDiff,Int.reduceAdd,Int.reduceSub,Int.reduceMul,Int.reduceNeg,Int.reduceLT,Int.reduceLE,Int.reduceEq,Int.reduceToNat,Int.cast_ofNat_Int,↓reduceIte, a1, a2, a3, a6, a13, a15, a17, a18]
      refine kep_e hA q1 q2 q3 hc (by omega) ca6 sa6 hls ?_ (by simp) ?_ ?_ ?_ ?_ ?_ ?_ ?_ ?_
      · intro x hx
        simp only [List.cons_append, List.nil_append, List.mem_cons, List.not_mem_nil, or_false] at hx
        rcases hx with rfl | rfl | rfl
        · exact ⟨rfl, S1⟩
        · exact ⟨rfl, S2⟩
        · exact ⟨rfl, S3⟩
      all_goals (simp (disch := (first | assumption | omega | (simp only [List.length_append, List.length_cons, List.length_nil]; omega))) only [↓wD,wU,Nat.reduceBEq,zx150,zx151,zx159,zx160,zx161,zx162,Nat.reduceAdd,Nat.reduceSub,Nat.reduceMul,Nat.reduceLeDiff,Nat.reduceLT,Nat.reduceEqDiff,Int.reduceAdd,Int.reduceSub,Int.reduceMul,Int.reduceNeg,Int.reduceLT,Int.reduceLE,Int.reduceEq,Int.reduceToNat,Int.cast_ofNat_Int,↓reduceIte, a1, a2, a6, a13, a15, a17, a18])
  · have hp : ¬ renP v t (c : Int) to := fun q => hn q.2
    unfold renX at eZ
    unfold renE at eg
    rw [if_neg hp] at eZ eg
    subst eg
    have hv := hA.1
    have hv4 := hA.2.1
    obtain ⟨V, eV⟩ := Int.eq_ofNat_of_zero_le (show 0 ≤ v by omega)
    have rn := rnames_ret (V := V) su5 (by omega) (by omega)
    rw [decide_eq_false (by rw [eV] at hn; simpa using hn), ← eV] at rn
    have hls := (acc5.sl).weak (q := fun _ => True) fun _ _ => trivial
    have n5 : (G4 ++ [Blk.cells [.i Z.1, zr]]).length = G4.length + 1 := by simp
    simp (disch := (first | assumption | omega | (simp only [List.length_append, List.length_cons, List.length_nil]; omega))) only [↓wD,wU,Nat.reduceBEq,zx150,zx151,zx159,zx160,zx161,zx162,Nat.reduceAdd,Nat.reduceSub,Nat.reduceMul,Nat.reduceLeDiff,Nat.reduceLT,Nat.reduceEqDiff,Int.reduceAdd,Int.reduceSub,Int.reduceMul,Int.reduceNeg,Int.reduceLT,Int.reduceLE,Int.reduceEq,Int.reduceToNat,Int.cast_ofNat_Int,↓reduceIte, a1, a2, a3, a6, a13, a15, a17, a18, zV, s5, ld_of ca5, rn.call]
    refine kep_e hA q1 q2 q3 hc (by omega) ca5 sa5 hls ?_ (by simp) ?_ ?_ ?_ ?_ ?_ ?_ ?_ ?_
    · intro x hx
      simp only [List.mem_cons, List.not_mem_nil, or_false] at hx
      rcases hx with rfl | rfl
      · exact ⟨rfl, S1⟩
      · exact ⟨rfl, S2⟩
    all_goals (simp (disch := (first | assumption | omega | (simp only [List.length_append, List.length_cons, List.length_nil]; omega))) only [↓wD,wU,Nat.reduceBEq,zx150,zx151,zx159,zx160,zx161,zx162,Nat.reduceAdd,Nat.reduceSub,Nat.reduceMul,Nat.reduceLeDiff,Nat.reduceLT,Nat.reduceEqDiff,Int.reduceAdd,Int.reduceSub,Int.reduceMul,Int.reduceNeg,Int.reduceLT,Int.reduceLE,Int.reduceEq,Int.reduceToNat,Int.cast_ofNat_Int,↓reduceIte, a1, a2, a6, a13, a15, a17, a18])
theorem kep_c {w1 w2 : AV} {t1 : List (List Int)} {b19 b20 L M : Nat} {i j : Int} (hA : ArrP v t) (q1 : 1 ≤ k) (q2 : k ≤ 3) (q3 : k ≤ wd t) (hc : c < wd t) (hl : H.length < L) (hLM : L ≤ M) (hM : M ≤ b19 ∧ M ≤ b20) (hlG : M ≤ G.length) (ca : G[H.length]? = some (.cells [.i v, r])) (sa : Sl (fun b => b < L) G r t)
    (su : Sl (fun b => b < L) G u to) (c19 : G[b19]? = some (.cells [.i v, w1])) (c20 : G[b20]? = some (.cells [.i v, w2])) (s1 : Sl (fun b => b < L) G w1 t1) (s2 : TBm L M G w2 t) (S1 : Same v t t1)
    (a1 : a 1 = .i k) (a2 : a 2 = .i c) (a3 : a 3 = u) (a4 : a 4 = .i i) (a5 : a 5 = .i j) (a6 : a 6 = .p H.length 0) (a13 : a 13 = .b (coversB v t k)) (a15 : a 15 = .b (fairK v t k)) (a17 : a 17 = .i (distX v t)) (a18 : a 18 = .i (distE t)) (a19 : a 19 = .p b19 0) (a20 : a 20 = .p b20 0) (a22 : a 22 = .int .u64 (wd t)) :
    Wp E H.length none [.code (Hide (tl 12 f15A.body))] a G (RetQ [.t 12] fun v _ => v = .b true) := by
  unfold Hide
  rw [← ins_eq 2 (tl 12 f15A.body)]
  unfold f15A
  simp only [tl, ins]
  have hw := hA.wd
  have hl16 := hA.2.2.2.1
  obtain ⟨P, hP, _, hP2, _⟩ := u64_idx (k := i) (n := wd t) (by omega) (by omega)
  obtain ⟨Q, hQ, _, hQ2, _⟩ := u64_idx (k := j) (n := wd t) (by omega) (by omega)
  have hu0 : ¬ (wd t : Int) = 0 := by omega
  have wL := s2.sl.lenV
  simp (disch := (first | assumption | omega | (simp only [List.length_append, List.length_cons, List.length_nil]; omega))) only [↓wD,wU,Nat.reduceBEq,zx150,zx151,zx159,zx160,zx161,zx162,Nat.reduceAdd,Nat.reduceSub,Nat.reduceMul,Nat.reduceLeDiff,Nat.reduceLT,Nat.reduceEqDiff,Int.reduceAdd,Int.reduceSub,Int.reduceMul,Int.reduceNeg,Int.reduceLT,Int.reduceLE,Int.reduceEq,Int.reduceToNat,Int.cast_ofNat_Int,↓reduceIte, a1, a2, a3, a4, a5, a6, a13, a15, a17, a18, a19, a20, a22, hu0, hP2, hQ2, ld_of c20, wL]
  refine Wp.for t.length (fun n a K => a 1 = .i k ∧ a 2 = .i c ∧ a 3 = u ∧ a 6 = .p H.length 0 ∧ a 13 = .b (coversB v t k) ∧ a 15 = .b (fairK v t k) ∧ a 17 = .i (distX v t) ∧ a 18 = .i (distE t) ∧ a 19 = .p b19 0 ∧ a 20 = .p b20 0 ∧ a 23 = .int .u64 P ∧ a 24 = .int .u64 Q ∧ a 146 = w2 ∧ a 147 = .i t.length ∧ a 148 = .i n ∧ TBm L M K w2 (renI (swL P Q) t n) ∧ Kx (fun b => b < L ∨ M ≤ b) G K ∧ K.length = G.length) ?_ ?_
  · clear a1 a2 a3 a4 a5 a6 a13 a15 a17 a18 a19 a20 a22
    rintro n a K hn ⟨a1, a2, a3, a6, a13, a15, a17, a18, a19, a20, a23, a24, a146, a147, a148, mm, hk, hlk⟩ ih
    simp (disch := (first | assumption | omega | (simp only [List.length_append, List.length_cons, List.length_nil]; omega))) only [↓wD,wU,Nat.reduceBEq,zx150,zx151,zx159,zx160,zx161,zx162,Nat.reduceAdd,Nat.reduceSub,Nat.reduceMul,Nat.reduceLeDiff,Nat.reduceLT,Nat.reduceEqDiff,Int.reduceAdd,Int.reduceSub,Int.reduceMul,Int.reduceNeg,Int.reduceLT,Int.reduceLE,Int.reduceEq,Int.reduceToNat,Int.cast_ofNat_Int,↓reduceIte, a1, a2, a3, a6, a13, a15, a17, a18, a19, a20, a23, a24, a146, a147, a148]
    refine condP_split (fun hlt => ?_) (fun hlt => ?_)
    · have hn' : n < t.length := by omega
      have ml := renI_len (g := swL P Q) (t := t) (i := n) (by omega)
      have mg := renI_gi (g := swL P Q) hn'
      have mL := mm.sl.L
      rw [ml] at mL
      have g := mm.sl.get (k := (n : Int)) (by omega) (by omega)
      rw [mg] at g
      have hx := hA.row (mem_gi hn')
      have gI := g.I
      rw [hx.1] at gI
      have es := renI_s (g := swL P Q) hn'
      obtain ⟨x, ex⟩ : ∃ x, gi t (n : Int) = x := ⟨_, rfl⟩
      rw [ex] at mg g gI es hx
      obtain ⟨A, eA⟩ : ∃ A, gi x (P : Int) = A := ⟨_, rfl⟩
      obtain ⟨B, eB⟩ : ∃ B, gi x (Q : Int) = B := ⟨_, rfl⟩
      have hPw : (P : Int) < wd t := by omega
      have hQw : (Q : Int) < wd t := by omega
      simp (disch := (first | assumption | omega | (simp only [List.length_append, List.length_cons, List.length_nil]; omega))) only [↓wD,wU,Nat.reduceBEq,zx150,zx151,zx159,zx160,zx161,zx162,Nat.reduceAdd,Nat.reduceSub,Nat.reduceMul,Nat.reduceLeDiff,Nat.reduceLT,Nat.reduceEqDiff,Int.reduceAdd,Int.reduceSub,Int.reduceMul,Int.reduceNeg,Int.reduceLT,Int.reduceLE,Int.reduceEq,Int.reduceToNat,Int.cast_ofNat_Int,↓reduceIte, a1, a2, a3, a6, a13, a15, a17, a18, a19, a20, a23, a24, a146, a147, a148, mL, gI, eA, eB]
      refine mm.storeG (k := P) (by omega) (by omega) (by rw [mg, hx.1]; omega) fun K2 mm2 hk2 hl2 eg2 => ?_
      rw [mg] at mm2
      have g2 := mm2.sl.get (k := (n : Int)) (by omega) (by simp; omega)
      have ml2 : ((renI (swL P Q) t n).set n (x.set P B)).length = t.length := by rw [List.length_set, ml]
      have mg2 : gi ((renI (swL P Q) t n).set n (x.set P B)) (n : Int) = x.set P B := by rw [gi_nat (by rw [ml2]; exact hn')]; simp
      rw [mg2] at g2
      have gI2 := g2.I
      rw [List.length_set, hx.1, eg2] at gI2
      simp (disch := (first | assumption | omega | (simp only [List.length_append, List.length_cons, List.length_nil]; omega))) only [↓wD,wU,Nat.reduceBEq,zx150,zx151,zx159,zx160,zx161,zx162,Nat.reduceAdd,Nat.reduceSub,Nat.reduceMul,Nat.reduceLeDiff,Nat.reduceLT,Nat.reduceEqDiff,Int.reduceAdd,Int.reduceSub,Int.reduceMul,Int.reduceNeg,Int.reduceLT,Int.reduceLE,Int.reduceEq,Int.reduceToNat,Int.cast_ofNat_Int,↓reduceIte, a1, a2, a3, a6, a13, a15, a17, a18, a19, a20, a23, a24, a146, a147, a148, gI2]
      rw [← eg2]
      refine mm2.storeG (k := Q) (by omega) (by omega) (by rw [mg2, List.length_set, hx.1]; omega) fun K3 mm3 hk3 hl3 _ => ?_
      rw [mg2, List.set_set] at mm3
      have esw : (x.set P B).set Q A = swL P Q x := by unfold swL; rw [eA, eB]
      rw [esw, es] at mm3
      simp (disch := (first | assumption | omega | (simp only [List.length_append, List.length_cons, List.length_nil]; omega))) only [↓wD,wU,Nat.reduceBEq,zx150,zx151,zx159,zx160,zx161,zx162,Nat.reduceAdd,Nat.reduceSub,Nat.reduceMul,Nat.reduceLeDiff,Nat.reduceLT,Nat.reduceEqDiff,Int.reduceAdd,Int.reduceSub,Int.reduceMul,Int.reduceNeg,Int.reduceLT,Int.reduceLE,Int.reduceEq,Int.reduceToNat,Int.cast_ofNat_Int,↓reduceIte, a1, a2, a3, a6, a13, a15, a17, a18, a19, a20, a23, a24, a146, a147, a148]
      refine (ih hn').go ?_
      simp (disch := (first | assumption | omega | (simp only [List.length_append, List.length_cons, List.length_nil]; omega))) only [↓wD,wU,Nat.reduceBEq,zx150,zx151,zx159,zx160,zx161,zx162,Nat.reduceAdd,Nat.reduceSub,Nat.reduceMul,Nat.reduceLeDiff,Nat.reduceLT,Nat.reduceEqDiff,Int.reduceAdd,Int.reduceSub,Int.reduceMul,Int.reduceNeg,Int.reduceLT,Int.reduceLE,Int.reduceEq,Int.reduceToNat,Int.cast_ofNat_Int,↓reduceIte, a1, a2, a3, a6, a13, a15, a17, a18, a19, a20, a23, a24, a146, a147, a148]
      exact ⟨mm3, (hk.trans hk2 fun _ _ h => h).trans hk3 fun _ _ h => h, by omega⟩
    · obtain rfl : n = t.length := by omega
      rw [renI_n] at mm
      have ca2 := hk.get (.inl (by omega)) ca
      have c192 := hk.get (.inr (by omega)) c19
      have c202 := hk.get (.inr (by omega)) c20
      have kk : Kp (fun b => b < L) G K := (hk.weak (q := fun b => b < L) fun b _ hb => .inl hb).kp
      simp (disch := (first | assumption | omega | (simp only [List.length_append, List.length_cons, List.length_nil]; omega))) only [↓wD,wU,Nat.reduceBEq,zx150,zx151,zx159,zx160,zx161,zx162,Nat.reduceAdd,Nat.reduceSub,Nat.reduceMul,Nat.reduceLeDiff,Nat.reduceLT,Nat.reduceEqDiff,Int.reduceAdd,Int.reduceSub,Int.reduceMul,Int.reduceNeg,Int.reduceLT,Int.reduceLE,Int.reduceEq,Int.reduceToNat,Int.cast_ofNat_Int,↓reduceIte, a1, a2, a3, a6, a13, a15, a17, a18, a19, a20]
      refine kep_d hA q1 q2 q3 hc (by omega) ca2 (sa.mono kk fun _ _ => trivial) (su.mono kk fun _ _ => trivial) c192 c202 (s1.mono kk fun _ _ => trivial) (mm.sl.weak fun _ _ => trivial) S1 (swc_same hA hP hQ) ?_ ?_ ?_ ?_ ?_ ?_ ?_ ?_ ?_ ?_
      all_goals (simp (disch := (first | assumption | omega | (simp only [List.length_append, List.length_cons, List.length_nil]; omega))) only [↓wD,wU,Nat.reduceBEq,zx150,zx151,zx159,zx160,zx161,zx162,Nat.reduceAdd,Nat.reduceSub,Nat.reduceMul,Nat.reduceLeDiff,Nat.reduceLT,Nat.reduceEqDiff,Int.reduceAdd,Int.reduceSub,Int.reduceMul,Int.reduceNeg,Int.reduceLT,Int.reduceLE,Int.reduceEq,Int.reduceToNat,Int.cast_ofNat_Int,↓reduceIte, a1, a2, a3, a6, a13, a15, a17, a18, a19, a20])
  · simp (disch := (first | assumption | omega | (simp only [List.length_append, List.length_cons, List.length_nil]; omega))) only [↓wD,wU,Nat.reduceBEq,zx150,zx151,zx159,zx160,zx161,zx162,Nat.reduceAdd,Nat.reduceSub,Nat.reduceMul,Nat.reduceLeDiff,Nat.reduceLT,Nat.reduceEqDiff,Int.reduceAdd,Int.reduceSub,Int.reduceMul,Int.reduceNeg,Int.reduceLT,Int.reduceLE,Int.reduceEq,Int.reduceToNat,Int.cast_ofNat_Int,↓reduceIte, a1, a2, a3, a6, a13, a15, a17, a18, a19, a20]
    rw [renI_0]
    exact ⟨s2, Kx.refl _ _⟩
theorem kep_b {i j : Int} (hA : ArrP v t) (q1 : 1 ≤ k) (q2 : k ≤ 3) (q3 : k ≤ wd t) (hc : c < wd t) (hl : H.length < G.length) (ca : G[H.length]? = some (.cells [.i v, r])) (sa : Sl (fun b => b < H.length) G r t)
    (su : Sl (fun b => b < H.length) G u to)
    (a1 : a 1 = .i k) (a2 : a 2 = .i c) (a3 : a 3 = u) (a4 : a 4 = .i i) (a5 : a 5 = .i j) (a6 : a 6 = .p H.length 0) (a13 : a 13 = .b (coversB v t k)) (a15 : a 15 = .b (fairK v t k)) (a17 : a 17 = .i (distX v t)) (a18 : a 18 = .i (distE t)) :
    Wp E H.length none [.code (Hide (tl 6 f15A.body))] a G (RetQ [.t 12] fun v _ => v = .b true) := by
  unfold Hide
  rw [← ins_eq 6 (tl 6 f15A.body)]
  unfold f15A
  simp only [tl, ins]
  have hw := hA.wd
  have hl16 := hA.2.2.2.1
  have hl1 := hA.2.2.1
  obtain ⟨P, hP, hn2, hP2, _⟩ := u64_idx (k := i) (n := t.length) (by omega) (by omega)
  obtain ⟨Q, hQ, _, hQ2, _⟩ := u64_idx (k := j) (n := t.length) (by omega) (by omega)
  have hm2 : IntKind.wrap .u64 (wd t : Int) = wd t := wrapU (by omega) (by omega)
  have hu0 : ¬ (t.length : Int) = 0 := by omega
  simp (disch := (first | assumption | omega | (simp only [List.length_append, List.length_cons, List.length_nil]; omega))) only [↓wD,wU,Nat.reduceBEq,zx150,zx151,zx159,zx160,zx161,zx162,Nat.reduceAdd,Nat.reduceSub,Nat.reduceMul,Nat.reduceLeDiff,Nat.reduceLT,Nat.reduceEqDiff,Int.reduceAdd,Int.reduceSub,Int.reduceMul,Int.reduceNeg,Int.reduceLT,Int.reduceLE,Int.reduceEq,Int.reduceToNat,Int.cast_ofNat_Int,↓reduceIte, a1, a2, a3, a4, a5, a6, a13, a15, a17, a18, ldn_of ca]
  refine (of_retB sa).toX fun w G1 x1 hw1 => ?_
  obtain ⟨w1, rfl, hw1⟩ := hw1
  replace hw1 : RV.rv (fun b => False ∨ G.length ≤ b) G1 w1 (TW.mk t) := by rw [← cutA_ok hA]; exact hw1
  have tb1 := (TB.of (L := G.length) hw1 fun b hb => hb.elim (fun h => h.elim) id).tbm
  have ca1 := x1.get trivial ca
  have sa1 := sa.kp (x1.all _).kp
  have g1 := x1.1
  simp (disch := (first | assumption | omega | (simp only [List.length_append, List.length_cons, List.length_nil]; omega))) only [↓wD,wU,Nat.reduceBEq,zx150,zx151,zx159,zx160,zx161,zx162,Nat.reduceAdd,Nat.reduceSub,Nat.reduceMul,Nat.reduceLeDiff,Nat.reduceLT,Nat.reduceEqDiff,Int.reduceAdd,Int.reduceSub,Int.reduceMul,Int.reduceNeg,Int.reduceLT,Int.reduceLE,Int.reduceEq,Int.reduceToNat,Int.cast_ofNat_Int,↓reduceIte, a1, a2, a3, a4, a5, a6, a13, a15, a17, a18, ldn_of ca1]
  refine (of_retB sa1).toX fun w G2 x2 hw2 => ?_
  obtain ⟨w2, rfl, hw2⟩ := hw2
  replace hw2 : RV.rv (fun b => False ∨ G1.length ≤ b) G2 w2 (TW.mk t) := by rw [← cutA_ok hA]; exact hw2
  have tb2 := (TB.of (L := G1.length) hw2 fun b hb => hb.elim (fun h => h.elim) id).tbm
  have g2 := x2.1
  have v1 := tb1.sl.cellsV
  have v2 := tb2.sl.cellsV
  have x23 : Kx (fun _ => True) G2 (G2 ++ [Blk.cells [.i v, w1]] ++ [Blk.cells [.i v, w2]]) := (Kx.app _ _ _).app' _
  have s_1 : st H.length (G2 ++ [Blk.cells [.i 0, .nils]] ++ [Blk.cells [.i 0, .nils]]) G2.length 0 [.i v, w1] = some (G2 ++ [Blk.cells [.i v, w1]] ++ [Blk.cells [.i 0, .nils]]) := by
    rw [st_of (cs := [.i 0, .nils]) (by simp) (by omega) (by simp)]
    simp [wr]
  have s_2 : st H.length (G2 ++ [Blk.cells [.i v, w1]] ++ [Blk.cells [.i 0, .nils]]) (G2.length + 1) 0 [.i v, w2] = some (G2 ++ [Blk.cells [.i v, w1]] ++ [Blk.cells [.i v, w2]]) := by
    have e : (G2 ++ [Blk.cells [.i v, w1]] ++ [Blk.cells [.i 0, .nils]])[G2.length + 1]? = some (Blk.cells [.i 0, .nils]) := by
      rw [List.getElem?_append_right (by simp)]; simp
    rw [st_of e (by omega) (by simp)]
    congr 1
    have e2 : G2.length + 1 = (G2 ++ [Blk.cells [.i v, w1]]).length := by simp
    rw [e2, List.set_append_right _ _ (Nat.le_refl _)]
    simp [wr]
  have c19 : (G2 ++ [Blk.cells [.i v, w1]] ++ [Blk.cells [.i v, w2]])[G2.length]? = some (.cells [.i v, w1]) := by simp
  have c20 : (G2 ++ [Blk.cells [.i v, w1]] ++ [Blk.cells [.i v, w2]])[G2.length + 1]? = some (.cells [.i v, w2]) := by
    rw [List.getElem?_append_right (by simp)]; simp
  have ca3 := x23.get trivial (x2.get trivial ca1)
  have sa3 := (sa1.kp (x2.all _).kp).kp (x23.all _).kp
  have su3 := ((su.kp (x1.all _).kp).kp (x2.all _).kp).kp (x23.all _).kp
  have tb13 := (tb1.kp (x2.all _).kp).kp (x23.all _).kp
  have tb23 := tb2.kp (x23.all _).kp
  have n3 : (G2 ++ [Blk.cells [.i v, w1]] ++ [Blk.cells [.i v, w2]]).length = G2.length + 2 := by simp
  have rL := sa3.lenV
  have wr0 := width_ret (v := v) sa3 hl1
  simp (disch := (first | assumption | omega | (simp only [List.length_append, List.length_cons, List.length_nil]; omega))) only [↓wD,wU,Nat.reduceBEq,zx150,zx151,zx159,zx160,zx161,zx162,Nat.reduceAdd,Nat.reduceSub,Nat.reduceMul,Nat.reduceLeDiff,Nat.reduceLT,Nat.reduceEqDiff,Int.reduceAdd,Int.reduceSub,Int.reduceMul,Int.reduceNeg,Int.reduceLT,Int.reduceLE,Int.reduceEq,Int.reduceToNat,Int.cast_ofNat_Int,↓reduceIte, a1, a2, a3, a4, a5, a6, a13, a15, a17, a18, v1, v2, s_1, s_2, ld_of ca3, ldn_of ca3, rL, wr0.call, hn2, hm2, hu0, hP2, hQ2]
  generalize G2 ++ [Blk.cells [.i v, w1]] ++ [Blk.cells [.i v, w2]] = G3 at *
  have wL := tb13.sl.L
  obtain ⟨acc, bacc⟩ := tb13.accL
  have yP := tb13.sl.get (k := (P : Int)) (by omega) (by omega)
  have yQ := tb13.sl.get (k := (Q : Int)) (by omega) (by omega)
  obtain ⟨y1, e1⟩ : ∃ y, w1.get G3 (P : Int) = y := ⟨_, rfl⟩
  obtain ⟨y2, e2⟩ : ∃ y, w1.get G3 (Q : Int) = y := ⟨_, rfl⟩
  have ap1 := tb13.apart hP
  have ap2 := tb13.apart hQ
  rw [e1] at yP ap1
  rw [e2] at yQ ap2
  have hPl : (P : Int) < t.length := by omega
  have hQl : (Q : Int) < t.length := by omega
  have y1V := yP.cellsV
  have y2V := yQ.cellsV
  have yQ' : Sl (fun b => (G.length ≤ b ∧ b < G1.length) ∧ w1.blk ≠ some b) G3 y2 (gi t (Q : Int)) := yQ.own.weak fun b hb => ⟨(yQ.blkp hb).1, fun e => ap2 b e hb⟩
  have yP' : Sl (fun b => (G.length ≤ b ∧ b < G1.length) ∧ w1.blk ≠ some b) G3 y1 (gi t (P : Int)) := yP.own.weak fun b hb => ⟨(yP.blkp hb).1, fun e => ap1 b e hb⟩
  simp (disch := (first | assumption | omega | (simp only [List.length_append, List.length_cons, List.length_nil]; omega))) only [↓wD,wU,Nat.reduceBEq,zx150,zx151,zx159,zx160,zx161,zx162,Nat.reduceAdd,Nat.reduceSub,Nat.reduceMul,Nat.reduceLeDiff,Nat.reduceLT,Nat.reduceEqDiff,Int.reduceAdd,Int.reduceSub,Int.reduceMul,Int.reduceNeg,Int.reduceLT,Int.reduceLE,Int.reduceEq,Int.reduceToNat,Int.cast_ofNat_Int,↓reduceIte, a1, a2, a3, a4, a5, a6, a13, a15, a17, a18, ld_of c19, wL, e1, e2]
  refine acc.storeL (i := P) (by omega) hP yQ' fun G4 acc4 x4 l4 => ?_
  have c194 := x4.get (fun e => by have := (bacc _ e).2; omega) c19
  have wI4 : iaddrV 1 w1 (.int .u64 (Q : Int)) = some (w1.at 1 (Q : Int)) := wL.2.1 _ _ (by omega) (by omega)
  simp (disch := (first | assumption | omega | (simp only [List.length_append, List.length_cons, List.length_nil]; omega))) only [↓wD,wU,Nat.reduceBEq,zx150,zx151,zx159,zx160,zx161,zx162,Nat.reduceAdd,Nat.reduceSub,Nat.reduceMul,Nat.reduceLeDiff,Nat.reduceLT,Nat.reduceEqDiff,Int.reduceAdd,Int.reduceSub,Int.reduceMul,Int.reduceNeg,Int.reduceLT,Int.reduceLE,Int.reduceEq,Int.reduceToNat,Int.cast_ofNat_Int,↓reduceIte, a1, a2, a3, a4, a5, a6, a13, a15, a17, a18, ld_of c194, wI4]
  refine acc4.storeL (i := Q) (by omega) (by simpa using hQ) (yP'.kp (x4.weak (q := fun b => (G.length ≤ b ∧ b < G1.length) ∧ w1.blk ≠ some b) fun b _ hb => hb.2).kp) fun G5 acc5 x5 l5 => ?_
  have x45 : Kx (fun b => w1.blk ≠ some b) G3 G5 := x4.trans x5 fun _ _ h => h
  have nb : ∀ b, (b < G.length ∨ G1.length ≤ b) → w1.blk ≠ some b := fun b hb e => by have := bacc b e; omega
  have ca5 := x45.get (nb _ (.inl hl)) ca3
  have c195 := x45.get (nb _ (.inr (by omega))) c19
  have c205 := x45.get (nb _ (.inr (by omega))) c20
  have esw : (t.set P (gi t (Q : Int))).set Q (gi t (P : Int)) = swL P Q t := rfl
  rw [esw] at acc5
  have s1 : Sl (fun b => b < G1.length) G5 w1 (swL P Q t) := acc5.slb.weak fun b hb => hb.elim (fun h => h.2) fun h => (bacc b h).2
  simp (disch := (first | assumption | omega | (simp only [List.length_append, List.length_cons, List.length_nil]; omega))) only [↓wD,wU,Nat.reduceBEq,zx150,zx151,zx159,zx160,zx161,zx162,Nat.reduceAdd,Nat.reduceSub,Nat.reduceMul,Nat.reduceLeDiff,Nat.reduceLT,Nat.reduceEqDiff,Int.reduceAdd,Int.reduceSub,Int.reduceMul,Int.reduceNeg,Int.reduceLT,Int.reduceLE,Int.reduceEq,Int.reduceToNat,Int.cast_ofNat_Int,↓reduceIte, a1, a2, a3, a4, a5, a6, a13, a15, a17, a18]
  refine kep_c (i := i) (j := j) (L := G1.length) (M := G2.length) hA q1 q2 q3 hc (by omega) (by omega) ⟨Nat.le_refl _, Nat.le_succ _⟩ (by omega) ca5 ((sa3.kp (x45.weak (q := fun b => b < H.length) fun b _ hb => nb b (.inl (by omega))).kp).weak fun b hb => by omega) ((su3.kp (x45.weak (q := fun b => b < H.length) fun b _ hb => nb b (.inl (by omega))).kp).weak fun b hb => by omega) c195 c205 s1 (tb23.kp (x45.weak (q := fun b => G1.length ≤ b ∧ b < G2.length) fun b _ hb => nb b (.inr hb.1)).kp) (swr_same hA hP hQ) ?_ ?_ ?_ ?_ ?_ ?_ ?_ ?_ ?_ ?_ ?_ ?_ ?_
  all_goals (simp (disch := (first | assumption | omega | (simp only [List.length_append, List.length_cons, List.length_nil]; omega))) only [↓wD,wU,Nat.reduceBEq,zx150,zx151,zx159,zx160,zx161,zx162,Nat.reduceAdd,Nat.reduceSub,Nat.reduceMul,Nat.reduceLeDiff,Nat.reduceLT,Nat.reduceEqDiff,Int.reduceAdd,Int.reduceSub,Int.reduceMul,Int.reduceNeg,Int.reduceLT,Int.reduceLE,Int.reduceEq,Int.reduceToNat,Int.cast_ofNat_Int,↓reduceIte, a1, a2, a3, a4, a5, a6, a13, a15, a17, a18])
end
theorem Walk.ArraysKept (H : Heap) (cs : List AV) (x : AI2) (h : Rep.rep (fun b => b < H.length) H cs x) (k c : Int) (u : AV) (to : List Int) (hu : Sl (fun b => b < H.length) H u to) (sz : to.length * 8 ≤ 140737488351232) (i j : Int) : WpF E H.length 15 [.ag cs, .i k, .i c, u, .i i, .i j] H fun v _ => v = .b true := by
  obtain ⟨r, rfl, hs⟩ := rep_si_elim h
  obtain ⟨v, t⟩ := x
  change Sl _ H r t at hs
  refine law_of (RetP.ro rfl fn15 rfl rfl ?_)
  rw [← ins_eq 6 f15A.body]
  unfold f15A
  simp only [ins]
  have c0 : (H ++ [Blk.cells [.i v, r]])[H.length]? = some (.cells [.i v, r]) := get_last
  have hs0 := hs.app [.cells [.i v, r]]
  have hu0 := hu.app [.cells [.i v, r]]
  have n0 : (H ++ [Blk.cells [.i v, r]]).length = H.length + 1 := by simp
  simp (disch := (first | assumption | omega | (simp only [List.length_append, List.length_cons, List.length_nil]; omega))) only [↓wD,wU,Nat.reduceBEq,zx150,zx151,zx159,zx160,zx161,zx162,Nat.reduceAdd,Nat.reduceSub,Nat.reduceMul,Nat.reduceLeDiff,Nat.reduceLT,Nat.reduceEqDiff,Int.reduceAdd,Int.reduceSub,Int.reduceMul,Int.reduceNeg,Int.reduceLT,Int.reduceLE,Int.reduceEq,Int.reduceToNat,Int.cast_ofNat_Int,↓reduceIte, hs.cellsV]
  generalize H ++ [Blk.cells [.i v, r]] = H0 at *
  refine (of_ret hs0).toX fun w H1 x1 hw => ?_
  obtain ⟨u1, rfl, hu1⟩ := rv_si_elim hw
  have c1 := x1.get trivial c0
  have hs1 := hs0.kp (x1.all _).kp
  have huu1 := hu0.kp (x1.all _).kp
  have l1 := x1.1
  by_cases hD : ArrP v t ∧ 1 ≤ k ∧ k ≤ 3 ∧ k ≤ wd t
  case neg =>
    have hD' : ¬ (ArrP v (cutA t) ∧ 1 ≤ k ∧ k ≤ 3 ∧ k ≤ wd (cutA t)) := fun ⟨z1, z2, z3, z4⟩ => hD ⟨ArrP_cut.1 z1, z2, z3, by rwa [cutA_ok (ArrP_cut.1 z1)] at z4⟩
    have ce := coversX_err hu1 hD'
    clear hD
    simp (disch := (first | assumption | omega | (simp only [List.length_append, List.length_cons, List.length_nil]; omega))) only [↓wD,wU,Nat.reduceBEq,zx150,zx151,zx159,zx160,zx161,zx162,Nat.reduceAdd,Nat.reduceSub,Nat.reduceMul,Nat.reduceLeDiff,Nat.reduceLT,Nat.reduceEqDiff,Int.reduceAdd,Int.reduceSub,Int.reduceMul,Int.reduceNeg,Int.reduceLT,Int.reduceLE,Int.reduceEq,Int.reduceToNat,Int.cast_ofNat_Int,↓reduceIte, ce.call, ldn_of c1]
    refine (of_ret hs1).toX fun w H2 x2 hw => ?_
    obtain ⟨u2, rfl, hu2⟩ := rv_si_elim hw
    have fe := fairX_err hu2 hD'
    clear hD'
    simp (disch := (first | assumption | omega | (simp only [List.length_append, List.length_cons, List.length_nil]; omega))) only [↓wD,wU,Nat.reduceBEq,zx150,zx151,zx159,zx160,zx161,zx162,Nat.reduceAdd,Nat.reduceSub,Nat.reduceMul,Nat.reduceLeDiff,Nat.reduceLT,Nat.reduceEqDiff,Int.reduceAdd,Int.reduceSub,Int.reduceMul,Int.reduceNeg,Int.reduceLT,Int.reduceLE,Int.reduceEq,Int.reduceToNat,Int.cast_ofNat_Int,↓reduceIte, fe.call, awake_ret.call]
  obtain ⟨hA, q1, q2, q3⟩ := id hD
  obtain ⟨K, rfl⟩ := Int.eq_ofNat_of_zero_le (show 0 ≤ k by omega)
  have hwd := hA.wd
  rw [cutA_ok hA] at hu1
  have cr := covers_ret (k := K) hu1 hA (by omega) (by omega) (by omega)
  clear hD
  simp (disch := (first | assumption | omega | (simp only [List.length_append, List.length_cons, List.length_nil]; omega))) only [↓wD,wU,Nat.reduceBEq,zx150,zx151,zx159,zx160,zx161,zx162,Nat.reduceAdd,Nat.reduceSub,Nat.reduceMul,Nat.reduceLeDiff,Nat.reduceLT,Nat.reduceEqDiff,Int.reduceAdd,Int.reduceSub,Int.reduceMul,Int.reduceNeg,Int.reduceLT,Int.reduceLE,Int.reduceEq,Int.reduceToNat,Int.cast_ofNat_Int,↓reduceIte, cr.call, ldn_of c1]
  refine (of_ret hs1).toX fun w H2 x2 hw => ?_
  obtain ⟨u2, rfl, hu2⟩ := rv_si_elim hw
  rw [cutA_ok hA] at hu2
  have fr := fair_ret (k := K) hu2 hA (by omega) (by omega) (by omega)
  have efr : decide (0 < idxL (allL v t K)) = fairK v t K := rfl
  rw [efr] at fr
  have c2 := x2.get trivial c1
  have hs2 := hs1.kp (x2.all _).kp
  have huu2 := huu1.kp (x2.all _).kp
  have l2 := x2.1
  have rv := rvalid_ret (v := v) hs2
  rw [decide_eq_true hA] at rv
  have dp := deep_ret (v := v) (k := (K : Int)) hs2
  rw [decide_eq_true ⟨hA, q1, q2, q3⟩] at dp
  simp (disch := (first | assumption | omega | (simp only [List.length_append, List.length_cons, List.length_nil]; omega))) only [↓wD,wU,Nat.reduceBEq,zx150,zx151,zx159,zx160,zx161,zx162,Nat.reduceAdd,Nat.reduceSub,Nat.reduceMul,Nat.reduceLeDiff,Nat.reduceLT,Nat.reduceEqDiff,Int.reduceAdd,Int.reduceSub,Int.reduceMul,Int.reduceNeg,Int.reduceLT,Int.reduceLE,Int.reduceEq,Int.reduceToNat,Int.cast_ofNat_Int,↓reduceIte, fr.call, ldn_of c2, rv.call, dp.call]
  refine (of_ret hs2).toX fun w H3 x3 hw => ?_
  obtain ⟨u3, rfl, hu3⟩ := rv_si_elim hw
  rw [cutA_ok hA] at hu3
  have dr := dist_any hu3 hA
  have c3 := x3.get trivial c2
  have hs3 := hs2.kp (x3.all _).kp
  have huu3 := huu2.kp (x3.all _).kp
  have l3 := x3.1
  have wr := width_ret (v := v) hs3 hA.2.2.1
  obtain ⟨C, hC, hC1, hC2, hC3⟩ := u64_idx (k := c) (n := wd t) (by omega) (by omega)
  have hw0 : ¬ (wd t : Int) = 0 := by omega
  simp (disch := (first | assumption | omega | (simp only [List.length_append, List.length_cons, List.length_nil]; omega))) only [↓wD,wU,Nat.reduceBEq,zx150,zx151,zx159,zx160,zx161,zx162,Nat.reduceAdd,Nat.reduceSub,Nat.reduceMul,Nat.reduceLeDiff,Nat.reduceLT,Nat.reduceEqDiff,Int.reduceAdd,Int.reduceSub,Int.reduceMul,Int.reduceNeg,Int.reduceLT,Int.reduceLE,Int.reduceEq,Int.reduceToNat,Int.cast_ofNat_Int,↓reduceIte, dr.call, ldn_of c3, wr.call, hC1, hw0, hC2, hC3]
  refine kep_b (k := K) (c := C) (i := i) (j := j) hA (by omega) (by omega) (by omega) hC (by omega) c3 hs3 huu3 ?_ ?_ ?_ ?_ ?_ ?_ ?_ ?_ ?_ ?_
  all_goals (simp (disch := (first | assumption | omega | (simp only [List.length_append, List.length_cons, List.length_nil]; omega))) only [↓wD,wU,Nat.reduceBEq,zx150,zx151,zx159,zx160,zx161,zx162,Nat.reduceAdd,Nat.reduceSub,Nat.reduceMul,Nat.reduceLeDiff,Nat.reduceLT,Nat.reduceEqDiff,Int.reduceAdd,Int.reduceSub,Int.reduceMul,Int.reduceNeg,Int.reduceLT,Int.reduceLE,Int.reduceEq,Int.reduceToNat,Int.cast_ofNat_Int,↓reduceIte])
end Go.Proofs.Ytalaadcbpjnglaa
