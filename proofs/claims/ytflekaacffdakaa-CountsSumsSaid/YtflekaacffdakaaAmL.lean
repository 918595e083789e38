/- The abstract heap never shrinks. No condition. -/
import Derived.Test.YtflekaacffdakaaAmK
namespace Go.AM
open Go

theorem st_len {lo : Nat} {H H' : Heap} {b o : Nat} {vs : List AV} (h : st lo H b o vs = some H') : H'.length = H.length := by
  unfold st at h
  split at h
  · split at h
    · split at h
      · cases h; simp
      · cases h
    · cases h
  · cases h
theorem appendA_len {lo es bytes : Nat} {sv : AV} {xs : List AV} {m : Nat} {H H' : Heap} {v : AV} (h : appendA lo es bytes sv xs m H = some (v, H')) : H.length ≤ H'.length := by
  unfold appendA at h
  split at h
  · split at h
    · cases h; exact Nat.le_refl _
    · split at h
      · cases h; simp
      · cases h
  · split at h
    · cases h
    · split at h
      · cases h; exact Nat.le_refl _
      · split at h
        · split at h
          · split at h
            · cases h; simp
            · split at h
              · cases h; simp
              · cases h
          · cases h
        · cases h
  · cases h
theorem map_len {α : Type} {x : Option α} {f : α → AV} {H H' : Heap} {v : AV} (h : x.map (fun u => (f u, H)) = some (v, H')) : H.length ≤ H'.length := by
  obtain ⟨u, _, e⟩ := Option.map_eq_some_iff.1 h
  cases e
  exact Nat.le_refl _
theorem opA_len {lo : Nat} {o : AOp} {a : Fr} {H H' : Heap} {v : AV} (h : opA lo o a H = some (v, H')) : H.length ≤ H'.length := by
  cases o <;> simp only [opA] at h
  case store n p x =>
    split at h
    · split at h
      · obtain ⟨u, hu, e⟩ := Option.map_eq_some_iff.1 h
        cases e
        rw [st_len hu]; exact Nat.le_refl _
      · cases h
    · cases h
  case append =>
    split at h
    · split at h
      · exact appendA_len h
      · cases h
    · cases h
  case appendz =>
    split at h
    · split at h
      · exact appendA_len h
      · cases h
    · cases h
  case copy =>
    split at h
    · split at h
      · cases h
      · split at h
        · split at h
          · cases h; exact Nat.le_refl _
          · split at h
            · obtain ⟨u, hu, e⟩ := Option.map_eq_some_iff.1 h
              cases e
              rw [st_len hu]; exact Nat.le_refl _
            · cases h
        · cases h
    · cases h; exact Nat.le_refl _
    · cases h
  all_goals
    repeat' (split at h)
    all_goals first
      | (cases h; done)
      | (cases h; exact Nat.le_refl _)
      | (cases h; simp; done)
      | exact map_len h
      | (obtain ⟨u, hu, e⟩ := Option.map_eq_some_iff.1 h; cases e; simp; done)

def LenR (rec : Rec) : Prop := ∀ lo rd k a H o a' H', rec lo rd k a H = some (o, a', H') → H.length ≤ H'.length
section
variable {rec : Rec} {E : Tab} {lo : Nat} {rd : Option Nat}
theorem runF_len (h : LenR rec) {af : AFunc} {vs : List AV} {H H' : Heap} {v : AV} (hx : runF rec lo af vs H = some (v, H')) : H.length ≤ H'.length := by
  unfold runF at hx
  split at hx
  · split at hx
    · rename_i e; obtain ⟨_, _, e2⟩ := Option.map_eq_some_iff.1 hx; cases e2; exact h _ _ _ _ _ _ _ _ e
    · rename_i e; obtain ⟨_, _, e2⟩ := Option.map_eq_some_iff.1 hx; cases e2; exact h _ _ _ _ _ _ _ _ e
    · cases hx
  · cases hx
theorem callF_len (h : LenR rec) {f : Nat} {vs : List AV} {H H' : Heap} {v : AV} (hx : callF E rec lo f vs H = some (v, H')) : H.length ≤ H'.length := by
  unfold callF at hx
  split at hx
  · obtain ⟨u, _, e⟩ := Option.bind_eq_some_iff.1 hx
    split at e
    · cases e; exact Nat.le_refl _
    · cases e
  · obtain ⟨af, _, e⟩ := Option.bind_eq_some_iff.1 hx
    exact runF_len h e
  · obtain ⟨af, _, e⟩ := Option.bind_eq_some_iff.1 hx
    obtain ⟨r, _, e2⟩ := Option.map_eq_some_iff.1 e
    cases e2
    split
    · exact Nat.le_refl _
    · simp
  · split at hx
    · obtain ⟨af, _, e⟩ := Option.bind_eq_some_iff.1 hx
      obtain ⟨r, _, e2⟩ := Option.bind_eq_some_iff.1 e
      split at e2
      · cases e2; exact Nat.le_refl _
      · cases e2
    · cases hx
theorem roundA_len (h : LenR rec) {l : Nat} {fr : Fr} {ps : List Nat} {asg body : ACode} {vs : List AV} {H H' : Heap} {v : AV} (hx : roundA rec lo l fr ps asg body vs H = some (v, H')) : H.length ≤ H'.length := by
  unfold roundA at hx
  split at hx
  · split at hx
    · rename_i e
      split at hx
      · cases hx; simp; exact h _ _ _ _ _ _ _ _ e
      · cases hx
    · cases hx
  · cases hx
theorem callV_len (h : LenR rec) {fv : AV} {vs : List AV} {H H' : Heap} {v : AV} (hx : callV E rec lo fv vs H = some (v, H')) : H.length ≤ H'.length := by
  unfold callV at hx
  split at hx
  · exact callF_len h hx
  · split at hx
    · exact roundA_len h hx
    · cases hx
  · cases hx
theorem opF_len (h : LenR rec) {o : AOp} {a : Fr} {H H' : Heap} {v : AV} (hx : opF E rec lo o a H = some (v, H')) : H.length ≤ H'.length := by
  unfold opF at hx
  split at hx
  · exact callF_len h hx
  · exact callV_len h hx
  · exact opA_len hx
theorem runOps_len (h : LenR rec) {l : List AOper} : ∀ {a a' : Fr} {H H' : Heap}, runOps E rec lo l a H = some (a', H') → H.length ≤ H'.length := by
  induction l with
  | nil => intro a a' H H' hx; cases hx; exact Nat.le_refl _
  | cons o os ih =>
    intro a a' H H' hx
    unfold runOps at hx
    split at hx
    · obtain ⟨y, hy, e⟩ := Option.bind_eq_some_iff.1 hx
      exact Nat.le_trans (opF_len h hy) (ih e)
    · exact ih hx
    · cases hx
theorem runTr_len (h : LenR rec) {l : List AOper} : ∀ {a : Fr} {H : Heap} {tr : List (Fr × Heap)}, runTr E rec lo l a H = some tr → ∃ a' H', tr[l.length]? = some (a', H') ∧ H.length ≤ H'.length := by
  induction l with
  | nil => intro a H tr hx; cases hx; exact ⟨a, H, rfl, Nat.le_refl _⟩
  | cons o os ih =>
    intro a H tr hx
    unfold runTr at hx
    split at hx
    · obtain ⟨y, hy, e⟩ := Option.bind_eq_some_iff.1 hx
      obtain ⟨t, ht, rfl⟩ := Option.map_eq_some_iff.1 e
      obtain ⟨a', H', h1, h2⟩ := ih ht
      exact ⟨a', H', by simpa using h1, Nat.le_trans (opF_len h hy) h2⟩
    · obtain ⟨t, ht, rfl⟩ := Option.map_eq_some_iff.1 hx
      obtain ⟨a', H', h1, h2⟩ := ih ht
      exact ⟨a', H', by simpa using h1, h2⟩
    · cases hx
theorem runD_len (h : LenR rec) {ck : List (Nat × Nat)} {l : List AOper} {a a' : Fr} {H H' : Heap} (hx : runD E rec lo ck l a H = some (a', H')) : H.length ≤ H'.length := by
  unfold runD at hx
  obtain ⟨tr, ht, e⟩ := Option.bind_eq_some_iff.1 hx
  obtain ⟨a1, H1, h1, h2⟩ := runTr_len h ht
  split at e
  · rw [h1] at e; cases e; exact h2
  · cases e
theorem stepR_len (h : LenR rec) {k : List AI} {a a' : Fr} {H H' : Heap} {o : Out} (hx : stepR E rec lo rd k a H = some (o, a', H')) : H.length ≤ H'.length := by
  unfold stepR at hx
  split at hx
  · cases hx; exact Nat.le_refl _
  · exact h _ _ _ _ _ _ _ _ hx
  · exact h _ _ _ _ _ _ _ _ hx
  · split at hx
    · split at hx
      · split at hx
        · have := h _ _ _ _ _ _ _ _ hx; simpa using this
        · cases hx
      · cases hx
    · cases hx
  · cases hx; exact Nat.le_refl _
  · exact h _ _ _ _ _ _ _ _ hx
  · exact h _ _ _ _ _ _ _ _ hx
  · split at hx
    · exact h _ _ _ _ _ _ _ _ hx
    · exact h _ _ _ _ _ _ _ _ hx
    · cases hx
  · exact h _ _ _ _ _ _ _ _ hx
  · exact h _ _ _ _ _ _ _ _ hx
  · split at hx
    · exact h _ _ _ _ _ _ _ _ hx
    · cases hx; exact Nat.le_refl _
  · obtain ⟨y, hy, e⟩ := Option.bind_eq_some_iff.1 hx
    exact Nat.le_trans (runOps_len h hy) (h _ _ _ _ _ _ _ _ e)
  · obtain ⟨y, hy, e⟩ := Option.bind_eq_some_iff.1 hx
    exact Nat.le_trans (runD_len h hy) (h _ _ _ _ _ _ _ _ e)
  · split at hx
    · split at hx
      · obtain ⟨y, hy, e⟩ := Option.bind_eq_some_iff.1 hx
        have h1 := callF_len h hy
        simp at h1
        split at e
        · cases e
        · have := h _ _ _ _ _ _ _ _ e; simp at this; omega
        · have := h _ _ _ _ _ _ _ _ e; simp at this; omega
        · cases e
      · cases hx
    · cases hx
  · cases hx
end
theorem R_len (E : Tab) : ∀ n, LenR (R E n)
  | 0 => fun _ _ _ _ _ _ _ _ h => by cases h
  | n + 1 => fun _ _ _ _ _ _ _ _ h => stepR_len (R_len E n) h

end Go.AM
