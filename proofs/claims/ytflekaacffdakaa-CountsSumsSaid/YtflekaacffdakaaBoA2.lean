/- Nothing below 'lo' is written to. No condition. -/
import Derived.Test.YtflekaacffdakaaBoA
set_option linter.unusedSimpArgs false
set_option linter.unusedVariables false
namespace Go.AM
open Go

def Low (lo : Nat) (H H' : Heap) : Prop := H.length ≤ H'.length ∧ ∀ b, b < lo → b < H.length → H'[b]? = H[b]?
theorem Low.refl (lo : Nat) (H : Heap) : Low lo H H := ⟨Nat.le_refl _, fun _ _ _ => rfl⟩
theorem Low.trans {lo : Nat} {H H1 H2 : Heap} (h : Low lo H H1) (h' : Low lo H1 H2) : Low lo H H2 :=
  ⟨Nat.le_trans h.1 h'.1, fun b h1 h2 => by rw [h'.2 b h1 (Nat.lt_of_lt_of_le h2 h.1), h.2 b h1 h2]⟩
theorem Low.app (lo : Nat) (H N : Heap) : Low lo H (H ++ N) := ⟨by simp, fun b _ h2 => List.getElem?_append_left h2⟩
theorem Low.set {lo b : Nat} (h : lo ≤ b) (H : Heap) (k : Blk) : Low lo H (H.set b k) := ⟨by simp, fun b' h1 h2 => by rw [List.getElem?_set_ne (by omega)]⟩
theorem st_low {lo : Nat} {H H' : Heap} {b o : Nat} {vs : List AV} (h : st lo H b o vs = some H') : Low lo H H' := by
  unfold st at h
  split at h
  · rename_i hl
    split at h
    · split at h
      · cases h; exact .set hl _ _
      · cases h
    · cases h
  · cases h
theorem appendA_low {lo es bytes : Nat} {sv : AV} {xs : List AV} {m : Nat} {H H' : Heap} {v : AV} (h : appendA lo es bytes sv xs m H = some (v, H')) : Low lo H H' := by
  unfold appendA at h
  split at h
  · split at h
    · cases h; exact .refl _ _
    · split at h
      · cases h; exact .app _ _ _
      · cases h
  · split at h
    · cases h
    · split at h
      · cases h; exact .refl _ _
      · split at h
        · split at h
          · split at h
            · cases h; exact .app _ _ _
            · split at h
              · rename_i hl; cases h; exact (Low.set hl _ _).trans (.app _ _ _)
              · cases h
          · cases h
        · cases h
  · cases h
theorem map_low {α : Type} {x : Option α} {f : α → AV} {lo : Nat} {H H' : Heap} {v : AV} (h : x.map (fun u => (f u, H)) = some (v, H')) : Low lo H H' := by
  obtain ⟨u, _, e⟩ := Option.map_eq_some_iff.1 h
  cases e
  exact .refl _ _
theorem opA_low {lo : Nat} {o : AOp} {a : Fr} {H H' : Heap} {v : AV} (h : opA lo o a H = some (v, H')) : Low lo H H' := by
  cases o <;> simp only [opA] at h
  case store n p x =>
    split at h
    · split at h
      · obtain ⟨u, hu, e⟩ := Option.map_eq_some_iff.1 h
        cases e
        exact st_low hu
      · cases h
    · cases h
  case append =>
    split at h
    · split at h
      · exact appendA_low h
      · cases h
    · cases h
  case appendz =>
    split at h
    · split at h
      · exact appendA_low h
      · cases h
    · cases h
  case copy =>
    split at h
    · split at h
      · cases h
      · split at h
        · split at h
          · cases h; exact .refl _ _
          · split at h
            · obtain ⟨u, hu, e⟩ := Option.map_eq_some_iff.1 h
              cases e
              exact st_low hu
            · cases h
        · cases h
    · cases h; exact .refl _ _
    · cases h
  all_goals
    repeat' (split at h)
    all_goals first
      | (cases h; done)
      | (cases h; exact .refl _ _)
      | (cases h; exact .app _ _ _)
      | exact map_low h
      | (obtain ⟨u, hu, e⟩ := Option.map_eq_some_iff.1 h; cases e; exact .app _ _ _)

def LowR (rec : Rec) : Prop := ∀ lo rd k a H o a' H', rec lo rd k a H = some (o, a', H') → Low lo H H'
section
variable {rec : Rec} {E : Tab} {lo : Nat} {rd : Option Nat}
theorem runF_low (h : LowR rec) {af : AFunc} {vs : List AV} {H H' : Heap} {v : AV} (hx : runF rec lo af vs H = some (v, H')) : Low lo H H' := by
  unfold runF at hx
  split at hx
  · split at hx
    · rename_i e; obtain ⟨_, _, e2⟩ := Option.map_eq_some_iff.1 hx; cases e2; exact h _ _ _ _ _ _ _ _ e
    · rename_i e; obtain ⟨_, _, e2⟩ := Option.map_eq_some_iff.1 hx; cases e2; exact h _ _ _ _ _ _ _ _ e
    · cases hx
  · cases hx
theorem callF_low (h : LowR rec) {f : Nat} {vs : List AV} {H H' : Heap} {v : AV} (hx : callF E rec lo f vs H = some (v, H')) : Low lo H H' := by
  unfold callF at hx
  split at hx
  · obtain ⟨u, _, e⟩ := Option.bind_eq_some_iff.1 hx
    split at e
    · cases e; exact .refl _ _
    · cases e
  · obtain ⟨af, _, e⟩ := Option.bind_eq_some_iff.1 hx
    exact runF_low h e
  · obtain ⟨af, _, e⟩ := Option.bind_eq_some_iff.1 hx
    obtain ⟨r, _, e2⟩ := Option.map_eq_some_iff.1 e
    cases e2
    split
    · exact .refl _ _
    · exact .app _ _ _
  · split at hx
    · obtain ⟨af, _, e⟩ := Option.bind_eq_some_iff.1 hx
      obtain ⟨r, _, e2⟩ := Option.bind_eq_some_iff.1 e
      split at e2
      · cases e2; exact .refl _ _
      · cases e2
    · cases hx
theorem roundA_low (h : LowR rec) {l : Nat} {fr : Fr} {ps : List Nat} {asg body : ACode} {vs : List AV} {H H' : Heap} {v : AV} (hx : roundA rec lo l fr ps asg body vs H = some (v, H')) : Low lo H H' := by
  unfold roundA at hx
  split at hx
  · rename_i hl
    split at hx
    · rename_i e
      split at hx
      · cases hx; exact (h _ _ _ _ _ _ _ _ e).trans (.set hl.2 _ _)
      · cases hx
    · cases hx
  · cases hx
theorem callV_low (h : LowR rec) {fv : AV} {vs : List AV} {H H' : Heap} {v : AV} (hx : callV E rec lo fv vs H = some (v, H')) : Low lo H H' := by
  unfold callV at hx
  split at hx
  · exact callF_low h hx
  · split at hx
    · exact roundA_low h hx
    · cases hx
  · cases hx
theorem opF_low (h : LowR rec) {o : AOp} {a : Fr} {H H' : Heap} {v : AV} (hx : opF E rec lo o a H = some (v, H')) : Low lo H H' := by
  unfold opF at hx
  split at hx
  · exact callF_low h hx
  · exact callV_low h hx
  · exact opA_low hx
theorem runOps_low (h : LowR rec) {l : List AOper} : ∀ {a a' : Fr} {H H' : Heap}, runOps E rec lo l a H = some (a', H') → Low lo H H' := by
  induction l with
  | nil => intro a a' H H' hx; cases hx; exact .refl _ _
  | cons o os ih =>
    intro a a' H H' hx
    unfold runOps at hx
    split at hx
    · obtain ⟨y, hy, e⟩ := Option.bind_eq_some_iff.1 hx
      exact (opF_low h hy).trans (ih e)
    · exact ih hx
    · cases hx
theorem runTr_low (h : LowR rec) {l : List AOper} : ∀ {a : Fr} {H : Heap} {tr : List (Fr × Heap)}, runTr E rec lo l a H = some tr → ∃ a' H', tr[l.length]? = some (a', H') ∧ Low lo H H' := by
  induction l with
  | nil => intro a H tr hx; cases hx; exact ⟨a, H, rfl, .refl _ _⟩
  | cons o os ih =>
    intro a H tr hx
    unfold runTr at hx
    split at hx
    · obtain ⟨y, hy, e⟩ := Option.bind_eq_some_iff.1 hx
      obtain ⟨t, ht, rfl⟩ := Option.map_eq_some_iff.1 e
      obtain ⟨a', H', h1, h2⟩ := ih ht
      exact ⟨a', H', by simpa using h1, (opF_low h hy).trans h2⟩
    · obtain ⟨t, ht, rfl⟩ := Option.map_eq_some_iff.1 hx
      obtain ⟨a', H', h1, h2⟩ := ih ht
      exact ⟨a', H', by simpa using h1, h2⟩
    · cases hx
theorem runD_low (h : LowR rec) {ck : List (Nat × Nat)} {l : List AOper} {a a' : Fr} {H H' : Heap} (hx : runD E rec lo ck l a H = some (a', H')) : Low lo H H' := by
  unfold runD at hx
  obtain ⟨tr, ht, e⟩ := Option.bind_eq_some_iff.1 hx
  obtain ⟨a1, H1, h1, h2⟩ := runTr_low h ht
  split at e
  · rw [h1] at e; cases e; exact h2
  · cases e
theorem stepR_low (h : LowR rec) {k : List AI} {a a' : Fr} {H H' : Heap} {o : Out} (hx : stepR E rec lo rd k a H = some (o, a', H')) : Low lo H H' := by
  unfold stepR at hx
  split at hx
  · cases hx; exact .refl _ _
  · exact h _ _ _ _ _ _ _ _ hx
  · exact h _ _ _ _ _ _ _ _ hx
  · split at hx
    · split at hx
      · split at hx
        · rename_i hl; exact (Low.set hl _ _).trans (h _ _ _ _ _ _ _ _ hx)
        · cases hx
      · cases hx
    · cases hx
  · cases hx; exact .refl _ _
  · exact h _ _ _ _ _ _ _ _ hx
  · exact h _ _ _ _ _ _ _ _ hx
  · split at hx
    · exact h _ _ _ _ _ _ _ _ hx
    · exact h _ _ _ _ _ _ _ _ hx
    · cases hx
  · exact h _ _ _ _ _ _ _ _ hx
  · exact h _ _ _ _ _ _ _ _ hx
  · split at hx
    · exact h _ _ _ _ _ _ _ _ hx
    · cases hx; exact .refl _ _
  · obtain ⟨y, hy, e⟩ := Option.bind_eq_some_iff.1 hx
    exact (runOps_low h hy).trans (h _ _ _ _ _ _ _ _ e)
  · obtain ⟨y, hy, e⟩ := Option.bind_eq_some_iff.1 hx
    exact (runD_low h hy).trans (h _ _ _ _ _ _ _ _ e)
  · split at hx
    · split at hx
      · obtain ⟨y, hy, e⟩ := Option.bind_eq_some_iff.1 hx
        have h1 := (Low.app lo H _).trans (callF_low h hy)
        have h2 : ∀ r, Low lo y.2 r → Low lo H r := fun r q => h1.trans q
        have h3 : Low lo H (y.2.set H.length .dead) := ⟨by simpa using h1.1, fun b q1 q2 => by rw [List.getElem?_set_ne (by omega)]; exact h1.2 b q1 q2⟩
        split at e
        · cases e
        · exact h3.trans (h _ _ _ _ _ _ _ _ e)
        · exact h3.trans (h _ _ _ _ _ _ _ _ e)
        · cases e
      · cases hx
    · cases hx
  · cases hx
end
theorem R_low (E : Tab) : ∀ n, LowR (R E n)
  | 0 => fun _ _ _ _ _ _ _ _ h => by cases h
  | n + 1 => fun _ _ _ _ _ _ _ _ h => stepR_low (R_low E n) h
theorem Wp.low {E : Tab} {lo : Nat} {rd : Option Nat} {k : List AI} {a : Fr} {H : Heap} {Q : Out → Fr → Heap → Prop} (h : Wp E lo rd k a H Q) : Wp E lo rd k a H fun o a' H' => Low lo H H' ∧ Q o a' H' := by
  obtain ⟨n, o, a', H', h1, h2⟩ := h
  exact ⟨n, o, a', H', h1, R_low E n _ _ _ _ _ _ _ _ h1, h2⟩
theorem WpF.low {E : Tab} {lo f : Nat} {vs : List AV} {H : Heap} {Q : AV → Heap → Prop} (h : WpF E lo f vs H Q) : WpF E lo f vs H fun v H' => Low lo H H' ∧ Q v H' := by
  obtain ⟨n, v, H', h1, h2⟩ := h
  exact ⟨n, v, H', h1, callF_low (R_low E n) h1, h2⟩
theorem WpV.low {E : Tab} {lo : Nat} {fv : AV} {vs : List AV} {H : Heap} {Q : AV → Heap → Prop} (h : WpV E lo fv vs H Q) : WpV E lo fv vs H fun v H' => Low lo H H' ∧ Q v H' := by
  obtain ⟨n, v, H', h1, h2⟩ := h
  exact ⟨n, v, H', h1, callV_low (R_low E n) h1, h2⟩
end Go.AM
