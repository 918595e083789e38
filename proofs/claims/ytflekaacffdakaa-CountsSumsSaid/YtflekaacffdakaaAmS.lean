/- Operations whose order is drawn: the states on the way. Conditions as at 'EOk'. -/
import Derived.Test.YtflekaacffdakaaAmR
namespace Go.AM
open Go Go.RowKit

mutual
theorem VRel.both {ρ1 ρ2 ρ3 : Mp} (h : ∀ b r1 r2, ρ1 b = some r1 → ρ2 b = some r2 → ρ3 b = some r1) : ∀ (v : AV) (x y : Value), VRel ρ1 v x → VRel ρ2 v y → VRel ρ3 v x
  | .un, _, _, _, _ => by simp [VRel]
  | .int _ _, _, _, hv, _ => by simpa [VRel] using hv
  | .b _, _, _, hv, _ => by simpa [VRel] using hv
  | .nilp, _, _, hv, _ => by simpa [VRel] using hv
  | .nilf, _, _, hv, _ => by simpa [VRel] using hv
  | .nils, _, _, hv, _ => by simpa [VRel] using hv
  | .p b o, _, _, hv, hu => by simp only [VRel] at hv hu ⊢; obtain ⟨r, e, q⟩ := hv; obtain ⟨r2, e2, _⟩ := hu; exact ⟨r, h _ _ _ e e2, q⟩
  | .s es b o n c, _, _, hv, hu => by simp only [VRel] at hv hu ⊢; obtain ⟨r, o', c', e, q⟩ := hv; obtain ⟨r2, _, _, e2, _⟩ := hu; exact ⟨r, o', c', h _ _ _ e e2, q⟩
  | .fn f us caps, _, _, hv, hu => by
    simp only [VRel] at hv hu ⊢
    obtain ⟨ds, cs, e, p, q⟩ := hv; obtain ⟨ds2, cs2, _, p2, q2⟩ := hu
    exact ⟨ds, cs, e, VRelL.both h us _ _ p p2, VRelL.both h caps _ _ q q2⟩
  | .yl l, _, _, hv, hu => by simp only [VRel] at hv hu ⊢; obtain ⟨r, e, q⟩ := hv; obtain ⟨r2, e2, _⟩ := hu; exact ⟨r, h _ _ _ e e2, q⟩
  | .ag vs, _, _, hv, hu => by simp only [VRel] at hv hu ⊢; obtain ⟨cs, e, q⟩ := hv; obtain ⟨cs2, _, q2⟩ := hu; exact ⟨cs, e, VRelL.both h vs _ _ q q2⟩
  | .tp vs, _, _, hv, hu => by simp only [VRel] at hv hu ⊢; obtain ⟨cs, e, q⟩ := hv; obtain ⟨cs2, _, q2⟩ := hu; exact ⟨cs, e, VRelL.both h vs _ _ q q2⟩
theorem VRelL.both {ρ1 ρ2 ρ3 : Mp} (h : ∀ b r1 r2, ρ1 b = some r1 → ρ2 b = some r2 → ρ3 b = some r1) : ∀ (vs : List AV) (xs ys : List Value), VRelL ρ1 vs xs → VRelL ρ2 vs ys → VRelL ρ3 vs xs
  | [], _, _, hv, _ => by simpa [VRelL] using hv
  | v :: vs, _, _, hv, hu => by
    simp only [VRelL] at hv hu ⊢
    obtain ⟨x, xs, e, p, q⟩ := hv; obtain ⟨y, ys, _, p2, q2⟩ := hu
    exact ⟨x, xs, e, VRel.both h v _ _ p p2, VRelL.both h vs _ _ q q2⟩
end

/-! ### The run in the text's order -/
structure Tr (E : Tab) (rec : Rec) (lo : Nat) (l : List AOper) (a : Fr) (H : Heap) (A : Nat → Fr) (Hs : Nat → Heap) (V : Nat → AV) : Prop where
  a0 : A 0 = a
  h0 : Hs 0 = H
  step : ∀ j o, l[j]? = some o → stepV E rec lo o (A j) (Hs j) = some (V j, Hs (j + 1)) ∧ A (j + 1) = (A j).put o.dst (V j)

theorem runTr_spec {E : Tab} {rec : Rec} {lo : Nat} : ∀ {l : List AOper} {a : Fr} {H : Heap} {tr : List (Fr × Heap)}, runTr E rec lo l a H = some tr → tr.length = l.length + 1 ∧ tr[0]? = some (a, H) ∧
    ∀ j o, l[j]? = some o → ∃ s v H1, tr[j]? = some s ∧ stepV E rec lo o s.1 s.2 = some (v, H1) ∧ tr[j + 1]? = some (s.1.put o.dst v, H1)
  | [], a, H, tr, h => by cases h; exact ⟨rfl, rfl, fun j o h => by simp at h⟩
  | o :: os, a, H, tr, h => by
    have key : ∀ {v : AV} {H1 : Heap}, stepV E rec lo o a H = some (v, H1) → (runTr E rec lo os (a.put o.dst v) H1).map ((a, H) :: ·) = some tr → tr.length = (o :: os).length + 1 ∧ tr[0]? = some (a, H) ∧
        ∀ j o', (o :: os)[j]? = some o' → ∃ s v H1, tr[j]? = some s ∧ stepV E rec lo o' s.1 s.2 = some (v, H1) ∧ tr[j + 1]? = some (s.1.put o'.dst v, H1) := fun {v H1} h1 h2 => by
      obtain ⟨t, ht, rfl⟩ := Option.map_eq_some_iff.1 h2
      obtain ⟨q1, q2, q3⟩ := runTr_spec ht
      refine ⟨by simp [q1], rfl, fun j o' ho => ?_⟩
      cases j with
      | zero => simp at ho; subst ho; exact ⟨(a, H), v, H1, rfl, h1, by simpa using q2⟩
      | succ j => simp at ho; simpa using q3 j o' ho
    unfold runTr at h
    split at h
    · rename_i hw
      obtain ⟨⟨v, H1⟩, hy, e⟩ := Option.bind_eq_some_iff.1 h
      exact key (v := v) (H1 := H1) (by simp only [stepV, hw]; exact hy) e
    · rename_i hw
      exact key (v := .no) (H1 := H) (by simp only [stepV, hw]) h
    · cases h
theorem tr_of {E : Tab} {rec : Rec} {lo : Nat} {l : List AOper} {a : Fr} {H : Heap} {tr : List (Fr × Heap)} (h : runTr E rec lo l a H = some tr) :
    ∃ A Hs V, Tr E rec lo l a H A Hs V ∧ ∀ j, j ≤ l.length → tr[j]? = some (A j, Hs j) := by
  obtain ⟨h1, h2, h3⟩ := runTr_spec h
  have hget : ∀ j, j ≤ l.length → tr[j]? = some ((tr.getD j (a, H)).1, (tr.getD j (a, H)).2) := fun j hj => by
    rw [List.getD_eq_getElem?_getD, List.getElem?_eq_getElem (by omega)]; rfl
  have hz : tr.getD 0 (a, H) = (a, H) := by rw [List.getD_eq_getElem?_getD, h2]; rfl
  refine ⟨fun j => (tr.getD j (a, H)).1, fun j => (tr.getD j (a, H)).2, fun j => match l[j]? with
    | some o => ((stepV E rec lo o (tr.getD j (a, H)).1 (tr.getD j (a, H)).2).map (·.1)).getD .un
    | none => .un, ⟨by simp only [hz], by simp only [hz], fun j o ho => ?_⟩, hget⟩
  have hj := (List.getElem?_eq_some_iff.1 ho).1
  obtain ⟨s, v, H1, q1, q2, q3⟩ := h3 j o ho
  have e0 := hget j (by omega)
  rw [q1] at e0
  have e1 := hget (j + 1) (by omega)
  rw [q3] at e1
  simp only [Option.some.injEq] at e0 e1
  rw [e0] at q2 e1
  simp only at q2 e1
  have ea := congrArg Prod.fst e1
  have eh := congrArg Prod.snd e1
  simp only at ea eh
  simp only [ho, q2, Option.map_some, Option.getD_some]
  exact ⟨by rw [eh], ea.symm⟩

section
variable {C : Cfg} {I : World → Prop} {E : Tab} {rec : Rec} {ρ : Mp} {L0 lo nt : Nat} {w0 wS w : World} {H : Heap} {a : Fr} {l : List AOper} {ops : Array Oper} {A : Nat → Fr} {Hs : Nat → Heap} {V : Nat → AV}

theorem stepV_len (hR : LenR rec) {o : AOper} {v : AV} {H1 : Heap} (h : stepV E rec lo o a H = some (v, H1)) : H.length ≤ H1.length := by
  unfold stepV at h
  split at h
  · exact opF_len hR h
  · cases h; exact Nat.le_refl _
  · cases h
theorem Tr.len (T : Tr E rec lo l a H A Hs V) (hR : LenR rec) {j k : Nat} (hjk : j ≤ k) (hk : k ≤ l.length) : (Hs j).length ≤ (Hs k).length := by
  induction hjk with
  | refl => exact Nat.le_refl _
  | @step m hm ih =>
    have := T.step m l[m] (by simp)
    exact Nat.le_trans (ih (by omega)) (stepV_len hR this.1)

/-- the run in the text's order, in the machine: what blocks the values speak of -/
structure Seqs (C : Cfg) (I : World → Prop) (L0 : Nat) (w0 : World) (nt n : Nat) (A : Nat → Fr) (Hs : Nat → Heap) (V : Nat → AV) (ρ : Mp) (ρs : Nat → Mp) : Prop where
  zero : ρs 0 = ρ
  fr : ∀ k, k ≤ n → ∃ ts : Array Value, FrRel (ρs k) nt (A k) ts
  hp : ∀ k, k ≤ n → ∃ w, HRel C I (ρs k) L0 w0 (Hs k) w
  val : ∀ k, k < n → ∃ x, VRel (ρs (k + 1)) (V k) x
  le : ∀ k, k < n → Mp.le (ρs k) (ρs (k + 1))
  back : ∀ k, k < n → ∀ b r, ρs (k + 1) b = some r → b < (Hs k).length → ρs k b = some r

theorem seqs_of (hE : EOk C I E) (hS : Sim C I rec) (hR : LenR rec) (T : Tr E rec lo l a H A Hs V) (hlo : L0 ≤ lo) (hp : OpsAt C nt ops (List.range l.length) l) (h : HRel C I ρ L0 w0 H wS) {am : Act} (hf : FrRel ρ nt a am.tmps) :
    ∃ ρs, Seqs C I L0 w0 nt l.length A Hs V ρ ρs := by
  have getOp : ∀ (l' : List AOper) (k m : Nat), OpsAt C nt ops (List.range' k m) l' → ∀ j o, l'[j]? = some o → ∃ om, ops[k + j]? = some om ∧ prepOper C nt ops om = some o := by
    intro l'
    induction l' with
    | nil => intro k m _ j o ho; simp at ho
    | cons x xs ih =>
      intro k m hq j o ho
      cases m with
      | zero => simp [OpsAt] at hq
      | succ m =>
        simp only [List.range'_succ, OpsAt] at hq
        obtain ⟨om, o', l'', e, h1, h2, h3⟩ := hq
        cases e
        cases j with
        | zero => simp at ho; subst ho; exact ⟨om, h1, h2⟩
        | succ j => simp at ho; obtain ⟨om', h4, h5⟩ := ih (k + 1) m h3 j o ho; exact ⟨om', by rw [show k + (j + 1) = k + 1 + j by omega]; exact h4, h5⟩
  have key : ∀ m, m ≤ l.length → ∃ (ρs : Nat → Mp) (ams : Act) (w : World), Seqs C I L0 w0 nt m A Hs V ρ ρs ∧ FrRel (ρs m) nt (A m) ams.tmps ∧ HRel C I (ρs m) L0 w0 (Hs m) w := by
    intro m
    induction m with
    | zero =>
      intro _
      refine ⟨fun _ => ρ, am, wS, ⟨rfl, fun k hk => ?_, fun k hk => ?_, fun k hk => by omega, fun k hk => by omega, fun k hk => by omega⟩, by rw [T.a0]; exact hf, by rw [T.h0]; exact h⟩
      · have : k = 0 := by omega
        subst this; exact ⟨am.tmps, by rw [T.a0]; exact hf⟩
      · have : k = 0 := by omega
        subst this; exact ⟨wS, by rw [T.h0]; exact h⟩
    | succ m ih =>
      intro hm
      obtain ⟨ρs, ams, w, S, hf1, hH1⟩ := ih (by omega)
      obtain ⟨hst, hA⟩ := T.step m l[m] (by simp)
      obtain ⟨om, ho, hpo⟩ := getOp l 0 l.length (by rw [← List.range_eq_range']; exact hp) m l[m] (by simp)
      rw [Nat.zero_add] at ho
      obtain ⟨ρ', x, w', _, hv, hH, hEx, hle⟩ := oper_sim hE hS hR ho hpo (by exact hst) hH1 hf1 hlo (default : Frame) [] [] (rest := [])
      obtain ⟨_, _, hdn, _⟩ := prepOper_spec hpo
      obtain ⟨ρn, e1, e2⟩ : ∃ ρn : Nat → Mp, (∀ k, k ≤ m → ρn k = ρs k) ∧ ρn (m + 1) = ρ' := ⟨fun k => if k = m + 1 then ρ' else ρs k, fun k hk => if_neg (by omega), if_pos rfl⟩
      have hfr : FrRel ρ' nt (A (m + 1)) (ams.put l[m].dst x).tmps := by rw [hA]; exact (hf1.mono hEx.le).put' hdn hv
      refine ⟨ρn, ams.put l[m].dst x, w', ⟨by rw [e1 0 (by omega)]; exact S.zero, fun k hk => ?_, fun k hk => ?_, fun k hk => ?_, fun k hk => ?_, fun k hk b r => ?_⟩, by rw [e2]; exact hfr, by rw [e2]; exact hH⟩
      · by_cases e : k = m + 1
        · subst e; rw [e2]; exact ⟨_, hfr⟩
        · rw [e1 k (by omega)]; exact S.fr k (by omega)
      · by_cases e : k = m + 1
        · subst e; rw [e2]; exact ⟨_, hH⟩
        · rw [e1 k (by omega)]; exact S.hp k (by omega)
      · by_cases e : k = m
        · subst e; rw [e2]; exact ⟨x, hv⟩
        · rw [e1 (k + 1) (by omega)]; exact S.val k (by omega)
      · by_cases e : k = m
        · subst e; rw [e2, e1 k (Nat.le_refl _)]; exact hEx.le
        · rw [e1 (k + 1) (by omega), e1 k (by omega)]; exact S.le k (by omega)
      · by_cases e : k = m
        · subst e; rw [e2, e1 k (Nat.le_refl _)]
          intro hb hlt
          cases e0 : ρs k b with
          | none => have := (hEx.fresh b r hb e0).1; omega
          | some r0 => have := hEx.le b r0 e0; rw [hb] at this; cases this; rfl
        · rw [e1 (k + 1) (by omega), e1 k (by omega)]; exact S.back k (by omega) b r
  obtain ⟨ρs, _, _, S, _⟩ := key l.length (Nat.le_refl _)
  exact ⟨ρs, S⟩

variable {ρs : Nat → Mp} {n : Nat}
theorem Seqs.le' (S : Seqs C I L0 w0 nt n A Hs V ρ ρs) {j k : Nat} (hjk : j ≤ k) (hk : k ≤ n) : Mp.le (ρs j) (ρs k) := by
  induction hjk with
  | refl => exact Mp.le_refl _
  | @step m hm ih => exact Mp.le_trans (ih (by omega)) (S.le m (by omega))
theorem Seqs.dom (S : Seqs C I L0 w0 nt n A Hs V ρ ρs) {k b : Nat} {r : PB} (hk : k ≤ n) (h : ρs k b = some r) : b < (Hs k).length := by
  obtain ⟨w, hw⟩ := S.hp k hk
  exact hw.dom b r h
theorem Seqs.back' (S : Seqs C I L0 w0 nt n A Hs V ρ ρs) (hlen : ∀ j k, j ≤ k → k ≤ n → (Hs j).length ≤ (Hs k).length) {j k b : Nat} {r : PB} (hjk : j ≤ k) (hk : k ≤ n) (h : ρs k b = some r) (hb : b < (Hs j).length) : ρs j b = some r := by
  induction hjk generalizing r with
  | refl => exact h
  | @step m hm ih => exact ih (by omega) (S.back m (by omega) b r h (Nat.lt_of_lt_of_le hb (hlen j m hm (by omega))))

/-! ### Which state of the heap a block is in -/
def own (Hs : Nat → Heap) (b : Nat) : Nat → Nat
  | 0 => 0
  | k + 1 => if b < (Hs k).length then own Hs b k else k + 1
theorem own_spec {b : Nat} : ∀ {n : Nat}, (∀ j k, j ≤ k → k ≤ n → (Hs j).length ≤ (Hs k).length) → b < (Hs n).length → own Hs b n ≤ n ∧ b < (Hs (own Hs b n)).length ∧ ∀ k, k < own Hs b n → (Hs k).length ≤ b
  | 0, _, h => ⟨Nat.le_refl _, h, fun k hk => by simp [own] at hk⟩
  | n + 1, hm, h => by
    simp only [own]
    split
    · rename_i hb
      obtain ⟨h1, h2, h3⟩ := own_spec (n := n) (fun j k hj hk => hm j k hj (by omega)) hb
      exact ⟨by omega, h2, h3⟩
    · rename_i hb
      exact ⟨Nat.le_refl _, h, fun k hk => Nat.le_trans (hm k n (by omega) (by omega)) (by omega)⟩
def HD (Hs : Nat → Heap) (n c : Nat) : Heap := (List.range (Hs n).length).map fun b => ((Hs (max (own Hs b n) c))[b]?).getD .dead
theorem HD_len (n c : Nat) : (HD Hs n c).length = (Hs n).length := by simp [HD]
theorem HD_get (hm : ∀ j k, j ≤ k → k ≤ n → (Hs j).length ≤ (Hs k).length) {c : Nat} (hc : c ≤ n) {b : Nat} (hb : b < (Hs n).length) : (HD Hs n c)[b]? = (Hs (max (own Hs b n) c))[b]? := by
  obtain ⟨h1, h2, _⟩ := own_spec hm hb
  have hlt : b < (Hs (max (own Hs b n) c)).length := Nat.lt_of_lt_of_le h2 (hm _ _ (Nat.le_max_left ..) (by omega))
  simp only [HD, List.getElem?_map, List.getElem?_range hb, Option.map_some]
  rw [List.getElem?_eq_getElem hlt]
  rfl
theorem own_le (hm : ∀ j k, j ≤ k → k ≤ n → (Hs j).length ≤ (Hs k).length) {b j : Nat} (hj : j ≤ n) (hb : b < (Hs j).length) : own Hs b n ≤ j := by
  obtain ⟨h1, h2, h3⟩ := own_spec hm (Nat.lt_of_lt_of_le hb (hm j n hj (Nat.le_refl _)))
  rcases Nat.lt_or_ge j (own Hs b n) with h | h
  · have := h3 j h; omega
  · exact h
theorem own_gt (hm : ∀ j k, j ≤ k → k ≤ n → (Hs j).length ≤ (Hs k).length) {b j : Nat} (hj : j ≤ n) (hb : b < (Hs n).length) (hge : (Hs j).length ≤ b) : j < own Hs b n := by
  obtain ⟨h1, h2, h3⟩ := own_spec hm hb
  rcases Nat.lt_or_ge j (own Hs b n) with h | h
  · exact h
  · have := hm (own Hs b n) j h hj; omega
end
end Go.AM
