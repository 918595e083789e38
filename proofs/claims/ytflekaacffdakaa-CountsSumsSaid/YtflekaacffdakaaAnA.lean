/- Rules for reasoning about the abstract machine's evaluator, with no fuel in sight. No condition. -/
import Derived.Test.YtflekaacffdakaaAmZ
namespace Go.AM
open Go

/-- the items come to an end, with what Q says -/
def Wp (E : Tab) (lo : Nat) (rd : Option Nat) (k : List AI) (a : Fr) (H : Heap) (Q : Out → Fr → Heap → Prop) : Prop :=
  ∃ n o a' H', R E n lo rd k a H = some (o, a', H') ∧ Q o a' H'
def WpF (E : Tab) (lo f : Nat) (vs : List AV) (H : Heap) (Q : AV → Heap → Prop) : Prop :=
  ∃ n v H', callF E (R E n) lo f vs H = some (v, H') ∧ Q v H'
def WpV (E : Tab) (lo : Nat) (fv : AV) (vs : List AV) (H : Heap) (Q : AV → Heap → Prop) : Prop :=
  ∃ n v H', callV E (R E n) lo fv vs H = some (v, H') ∧ Q v H'
def WpOp (E : Tab) (lo : Nat) (o : AOp) (a : Fr) (H : Heap) (Q : AV → Heap → Prop) : Prop :=
  match o with
  | .call f args => WpF E lo f (args.map (ev a)) H Q
  | .callv x args => WpV E lo (ev a x) (args.map (ev a)) H Q
  | o => ∃ v H', opA lo o a H = some (v, H') ∧ Q v H'
def WpOps (E : Tab) (lo : Nat) : List AOper → Fr → Heap → (Fr → Heap → Prop) → Prop
  | [], a, H, Q => Q a H
  | o :: os, a, H, Q =>
    match wantedA a o.guard with
    | some true => WpOp E lo o.op a H fun v H' => WpOps E lo os (a.put o.dst v) H' Q
    | some false => WpOps E lo os (a.put o.dst .no) H Q
    | none => False
/-- the same, with the states on the way -/
def WpTr (E : Tab) (lo : Nat) : List AOper → Fr → Heap → List (Fr × Heap) → (List (Fr × Heap) → Fr → Heap → Prop) → Prop
  | [], a, H, tr, Q => Q (tr ++ [(a, H)]) a H
  | o :: os, a, H, tr, Q =>
    match wantedA a o.guard with
    | some true => WpOp E lo o.op a H fun v H' => WpTr E lo os (a.put o.dst v) H' (tr ++ [(a, H)]) Q
    | some false => WpTr E lo os (a.put o.dst .no) H (tr ++ [(a, H)]) Q
    | none => False

section
variable {E : Tab} {lo : Nat} {rd : Option Nat} {k : List AI} {a : Fr} {H : Heap} {Q Q' : Out → Fr → Heap → Prop}

theorem Wp.mono (h : Wp E lo rd k a H Q) (hq : ∀ o a H, Q o a H → Q' o a H) : Wp E lo rd k a H Q' := by
  obtain ⟨n, o, a', H', h1, h2⟩ := h
  exact ⟨n, o, a', H', h1, hq _ _ _ h2⟩
theorem WpF.mono {f : Nat} {vs : List AV} {P P' : AV → Heap → Prop} (h : WpF E lo f vs H P) (hq : ∀ v H, P v H → P' v H) : WpF E lo f vs H P' := by
  obtain ⟨n, v, H', h1, h2⟩ := h
  exact ⟨n, v, H', h1, hq _ _ h2⟩
theorem WpOp.mono {o : AOp} {P P' : AV → Heap → Prop} (h : WpOp E lo o a H P) (hq : ∀ v H, P v H → P' v H) : WpOp E lo o a H P' := by
  unfold WpOp at h ⊢
  split at h
  · exact h.mono hq
  · obtain ⟨n, v, H', h1, h2⟩ := h; exact ⟨n, v, H', h1, hq _ _ h2⟩
  · obtain ⟨v, H', h1, h2⟩ := h; exact ⟨v, H', h1, hq _ _ h2⟩
theorem WpOp.run {o : AOp} {P : AV → Heap → Prop} (h : WpOp E lo o a H P) : ∃ n v H', opF E (R E n) lo o a H = some (v, H') ∧ P v H' := by
  unfold WpOp at h
  split at h
  · exact h
  · exact h
  · rename_i h1 h2
    obtain ⟨v, H', h3, h4⟩ := h
    refine ⟨0, v, H', ?_, h4⟩
    rw [← h3]
    unfold opF
    split
    · exact absurd rfl (h1 _ _)
    · exact absurd rfl (h2 _ _)
    · rfl
theorem WpOps.run : ∀ {l : List AOper} {a : Fr} {H : Heap} {P : Fr → Heap → Prop}, WpOps E lo l a H P → ∃ n a' H', runOps E (R E n) lo l a H = some (a', H') ∧ P a' H'
  | [], a, H, P, h => ⟨0, a, H, rfl, h⟩
  | o :: os, a, H, P, h => by
    unfold WpOps at h
    split at h
    · rename_i hw
      obtain ⟨n, v, H1, h1, h2⟩ := h.run
      obtain ⟨m, a', H', h3, h4⟩ := WpOps.run h2
      refine ⟨max n m, a', H', ?_, h4⟩
      simp only [runOps, hw, opF_mono (R_le E (Nat.le_max_left n m)) h1, Option.bind_some]
      exact runOps_mono (R_le E (Nat.le_max_right n m)) h3
    · rename_i hw
      obtain ⟨m, a', H', h3, h4⟩ := WpOps.run h
      exact ⟨m, a', H', by simp only [runOps, hw]; exact h3, h4⟩
    · exact h.elim
theorem WpTr.run : ∀ {l : List AOper} {a : Fr} {H : Heap} {tr : List (Fr × Heap)} {P : List (Fr × Heap) → Fr → Heap → Prop}, WpTr E lo l a H tr P → ∃ n t a' H', runTr E (R E n) lo l a H = some t ∧ t[l.length]? = some (a', H') ∧ P (tr ++ t) a' H'
  | [], a, H, tr, P, h => ⟨0, [(a, H)], a, H, rfl, rfl, h⟩
  | o :: os, a, H, tr, P, h => by
    unfold WpTr at h
    split at h
    · rename_i hw
      obtain ⟨n, v, H1, h1, h2⟩ := h.run
      obtain ⟨m, t, a', H', h3, h4, h5⟩ := WpTr.run h2
      refine ⟨max n m, (a, H) :: t, a', H', ?_, by simpa using h4, by simpa using h5⟩
      simp only [runTr, hw, opF_mono (R_le E (Nat.le_max_left n m)) h1, Option.bind_some]
      rw [runTr_mono (R_le E (Nat.le_max_right n m)) h3]
      rfl
    · rename_i hw
      obtain ⟨m, t, a', H', h3, h4, h5⟩ := WpTr.run h
      refine ⟨m, (a, H) :: t, a', H', by simp only [runTr, hw, h3, Option.map_some], by simpa using h4, by simpa using h5⟩
    · exact h.elim

theorem Wp.step (h : ∃ n o a' H', stepR E (R E n) lo rd k a H = some (o, a', H') ∧ Q o a' H') : Wp E lo rd k a H Q := by
  obtain ⟨n, o, a', H', h1, h2⟩ := h
  exact ⟨n + 1, o, a', H', h1, h2⟩
theorem Wp.nil (h : Q .done a H) : Wp E lo rd [] a H Q := Wp.step ⟨0, _, _, _, rfl, h⟩
theorem Wp.blk {id : Nat} (h : Wp E lo rd k a H Q) : Wp E lo rd (.blk id :: k) a H Q := Wp.step h
theorem Wp.lp {c : ACode} (h : Wp E lo rd (.code c :: .lp c :: k) a H Q) : Wp E lo rd (.lp c :: k) a H Q := Wp.step h
theorem Wp.skip (h : Wp E lo rd k a H Q) : Wp E lo rd (.code .skip :: k) a H Q := Wp.step h
theorem Wp.ret (h : Q .ret a H) : Wp E lo rd (.code .ret :: k) a H Q := Wp.step ⟨0, _, _, _, rfl, h⟩
theorem Wp.seq {x y : ACode} (h : Wp E lo rd (.code x :: .code y :: k) a H Q) : Wp E lo rd (.code (.seq x y) :: k) a H Q := Wp.step h
theorem Wp.block {id : Nat} {c : ACode} (h : Wp E lo rd (.code c :: .blk id :: k) a H Q) : Wp E lo rd (.code (.block id c) :: k) a H Q := Wp.step h
theorem Wp.loop {c : ACode} (h : Wp E lo rd (.code c :: .lp c :: k) a H Q) : Wp E lo rd (.code (.loop c) :: k) a H Q := Wp.step h
theorem Wp.cond {x : AX} {c d : ACode} {t : Bool} (hx : ev a x = .b t) (h : Wp E lo rd (.code (if t then c else d) :: k) a H Q) : Wp E lo rd (.code (.cond x c d) :: k) a H Q := by
  refine Wp.step ?_
  cases t <;> simp only [stepR, hx]
  · exact h
  · exact h
theorem Wp.exit {id : Nat} {k' : List AI} (hk : exitA id k = some k') (h : Wp E lo rd k' a H Q) : Wp E lo rd (.code (.exit id) :: k) a H Q := by
  refine Wp.step ?_
  simp only [stepR, hk]; exact h
theorem Wp.exitOut {id : Nat} (hk : exitA id k = none) (h : Q (.exit id) a H) : Wp E lo rd (.code (.exit id) :: k) a H Q := by
  refine Wp.step ⟨0, _, _, _, ?_, h⟩
  simp only [stepR, hk]
theorem Wp.reg {l : List AOper} (h : WpOps E lo l a H fun a' H' => Wp E lo rd k a' H' Q) : Wp E lo rd (.code (.reg none l) :: k) a H Q := by
  obtain ⟨n, a', H', h1, m, o, a2, H2, h2, h3⟩ := h.run
  refine Wp.step ⟨max n m, o, a2, H2, ?_, h3⟩
  simp only [stepR, runOps_mono (R_le E (Nat.le_max_left n m)) h1, Option.bind_some]
  exact R_le E (Nat.le_max_right n m) _ _ _ _ _ _ h2
theorem Wp.regD {l : List AOper} (h : WpOps E lo l a H fun a' H' => Wp E lo rd k a' H' Q) : Wp E lo rd (.code (.reg (some []) l) :: k) a H Q := by
  obtain ⟨n, a', H', h1, m, o, a2, H2, h2, h3⟩ := h.run
  refine Wp.step ⟨max n m, o, a2, H2, ?_, h3⟩
  have h4 : runD E (R E (max n m)) lo [] l a H = some (a', H') := by
    have := runTr_ops E (R E (max n m)) lo l a H
    rw [runOps_mono (R_le E (Nat.le_max_left n m)) h1] at this
    unfold runD
    simpa using this
  simp only [stepR, h4, Option.bind_some]
  exact R_le E (Nat.le_max_right n m) _ _ _ _ _ _ h2
theorem Wp.regC {ck : List (Nat × Nat)} {l : List AOper} (h : WpTr E lo l a H [] fun tr a' H' => ck.all (chk1 l tr) = true ∧ Wp E lo rd k a' H' Q) : Wp E lo rd (.code (.reg (some ck) l) :: k) a H Q := by
  obtain ⟨n, t, a', H', h1, h5, h6, m, o, a2, H2, h2, h3⟩ := h.run
  refine Wp.step ⟨max n m, o, a2, H2, ?_, h3⟩
  have h4 : runD E (R E (max n m)) lo ck l a H = some (a', H') := by
    unfold runD
    rw [runTr_mono (R_le E (Nat.le_max_left n m)) h1, Option.bind_some]
    simp only [List.nil_append] at h6
    rw [if_pos h6]; exact h5
  simp only [stepR, h4, Option.bind_some]
  exact R_le E (Nat.le_max_right n m) _ _ _ _ _ _ h2

/-- a loop: what holds at its head, and what grows less -/
theorem Wp.while {c : ACode} (J : Fr → Heap → Prop) (μ : Fr → Heap → Nat)
    (h : ∀ a H, J a H → (∀ a' H', J a' H' → μ a' H' < μ a H → Wp E lo rd (.lp c :: k) a' H' Q) → Wp E lo rd (.code c :: .lp c :: k) a H Q) (h0 : J a H) : Wp E lo rd (.lp c :: k) a H Q := by
  have key : ∀ (m : Nat) (a : Fr) (H : Heap), μ a H = m → J a H → Wp E lo rd (.lp c :: k) a H Q := by
    intro m
    induction m using Nat.strongRecOn with
    | ind m ih =>
      intro a H hm hJ
      refine Wp.lp (h a H hJ fun a' H' hJ' hlt => ih (μ a' H') (by omega) a' H' rfl hJ')
  exact key _ a H rfl h0

/-! ### Calls -/
theorem WpF.of_wrt {f : Nat} {af : AFunc} {vs : List AV} {P : AV → Heap → Prop} (hk : E.kd f = .wrt) (hf : E.fn f = some af) (hn : vs.length = af.nargs)
    (h : Wp E lo none [.code af.body] (initFr vs) H fun o a' H' => (o = .done ∨ o = .ret) ∧ ∃ v, resA af.res a' H' = some v ∧ P v H') : WpF E lo f vs H P := by
  obtain ⟨n, o, a', H', h1, ho, v, h2, h3⟩ := h
  refine ⟨n, v, H', ?_, h3⟩
  unfold callF
  simp only [hk, hf, Option.bind_some, runF, if_pos hn, h1]
  rcases ho with rfl | rfl <;> simp [h2]
theorem WpF.of_ro {f : Nat} {af : AFunc} {vs : List AV} {P : AV → Heap → Prop} (hk : E.kd f = .ro) (hf : E.fn f = some af) (hn : vs.length = af.nargs)
    (h : Wp E H.length none [.code af.body] (initFr vs) H fun o a' H' => (o = .done ∨ o = .ret) ∧ ∃ v, resA af.res a' H' = some v ∧ P v (if v.pure then H else H ++ (H'.drop H.length).map Blk.shut)) : WpF E lo f vs H P := by
  obtain ⟨n, o, a', H', h1, ho, v, h2, h3⟩ := h
  refine ⟨n, v, _, ?_, h3⟩
  unfold callF
  simp only [hk, hf, Option.bind_some, runF, if_pos hn, h1]
  rcases ho with rfl | rfl <;> simp [h2]
/-- a call that writes to nothing older does so wherever it is called from -/
theorem WpF.any {f : Nat} {vs : List AV} {P : AV → Heap → Prop} {lo' : Nat} (hk : E.kd f = .ro) (h : WpF E lo f vs H P) : WpF E lo' f vs H P := by
  obtain ⟨n, v, H', h1, h2⟩ := h
  exact ⟨n, v, H', (callF_call (by rw [hk]; simp) h1).2 lo', h2⟩
theorem WpV.fn {f : Nat} {us caps vs : List AV} {P : AV → Heap → Prop} (h : WpF E lo f (us ++ vs ++ caps) H P) : WpV E lo (.fn f us caps) vs H P := h

theorem Wp.call_run {n f : Nat} {vs : List AV} {v : AV} {H' : Heap} {P : AV → Heap → Prop} (h : callF E (RQ E n) lo f vs H = some (v, H')) (hp : P v H') : WpF E lo f vs H P := by
  rw [RQ_eq] at h
  exact ⟨n, v, H', h, hp⟩
end
end Go.AM
