/- The simulation's parts: a call's beginning and end; a round of a loop over a function. Conditions as at 'EOk'. -/
import Derived.Test.YtflekaacffdakaaAmN
import Derived.RangeFuncLeaves
namespace Go.AM
open Go Go.RowKit
section
variable {C : Cfg} {I : World → Prop} {E : Tab} {rec : Rec} {ρ : Mp} {L0 : Nat} {w0 w : World} {H : Heap}

/-! ### A call begins -/
theorem initFr_rel {nt : Nat} {vs : List AV} {args : Array Value} (h : VRelL ρ vs args.toList) (hn : args.size ≤ nt) : FrRel ρ nt (initFr vs) (args ++ Array.replicate (nt - args.size) undef) := by
  refine ⟨by simp; omega, fun t ht => ?_⟩
  unfold initFr
  have hl := h.length
  by_cases hlt : t < vs.length
  · obtain ⟨x, hx, hr⟩ := h.get (i := t) (v := vs[t]) (by simp [hlt])
    have : (args ++ Array.replicate (nt - args.size) undef).getD t undef = x := by
      rw [Array.getD_eq_getD_getElem?, Array.getElem?_append_left (by simpa using (by omega : t < args.toList.length))]
      have : args[t]? = some x := by simpa using hx
      simp [this]
    rw [this]
    have e : vs.getD t .un = vs[t] := by simp [List.getD_eq_getElem?_getD, hlt]
    rw [e]; exact hr
  · have e : vs.getD t .un = .un := by simp [List.getD_eq_getElem?_getD, List.getElem?_eq_none (by omega : vs.length ≤ t)]
    rw [e]; simp [VRel]

/-! ### A call ends: the marks, the results -/
theorem HRel.putFree (h : HRel C I ρ L0 w0 H w) {D base : Nat} (hb : w0.heap.size ≤ base) (m : Mark ρ L0 base w D) (o : Obj) : HRel C I ρ L0 w0 H (w.putObj D o) := by
  have hD := m.ge
  have keep : ∀ pb, pb ≠ D → (w.putObj D o).heap[pb]? = w.heap[pb]? := fun pb e => World.putObj_heap_other e
  have hb' : Below w0.heap.size w (w.putObj D o) := ⟨rfl, rfl, rfl, by simp, fun k hk => keep k (by omega)⟩
  refine ⟨h.below.trans hb', h.inv, h.lt, h.dom, fun b r e hL => by simpa using h.own b r e hL, h.apart, fun b r k e hk => ?_⟩
  have hB := h.blk b r k e hk
  by_cases hL : L0 ≤ b
  · exact hB.mono (Mp.le_refl ρ) (keep _ (m.free b r e hL))
  · cases k with
    | dead => trivial
    | loop => exact fun ho => absurd ho hL
    | cells vs =>
      cases vs with
      | nil => exact ⟨fun i v e => by simp at e, fun ho => absurd ho hL, fun _ e => absurd rfl e⟩
      | cons v vs =>
        have := hB.2.2 hL (by simp)
        exact hB.mono (Mp.le_refl ρ) (keep _ (by omega))

/-- the frame's marks are taken one by one -/
theorem take_marks {fr : Frame} {cs : List Frame} (hm : fr.mode = .returning) {base : Nat} (hb : w0.heap.size ≤ base) : ∀ (Ds : List Nat) (w : World), HRel C I ρ L0 w0 H w → fr.defers = Ds.map markOf → Ds.Nodup → (∀ D ∈ Ds, Mark ρ L0 base w D) →
    ∃ w', Steps C.P (lone fr cs w) (lone { fr with defers := [] } cs w') ∧ HRel C I ρ L0 w0 H w' ∧ w'.heap.size = w.heap.size ∧ ∀ pb, pb < base → w'.heap[pb]? = w.heap[pb]? := by
  intro Ds
  induction Ds generalizing fr with
  | nil =>
    intro w h hd _ _
    have : { fr with defers := [] } = fr := by cases fr; simp at hd; subst hd; rfl
    exact ⟨w, by rw [this]; exact .refl .., h, rfl, fun _ _ => rfl⟩
  | cons D Ds ih =>
    intro w h hd hn hM
    have m := hM D (by simp)
    have hk := run_takeDeferred (P := C.P) m.at'
    have hs := step_collected (P := C.P) (fr := fr) (cs := cs) (d := markOf D) (ds := Ds.map markOf) (by rw [hm]; simp) (by rw [hd]; rfl) rfl hk
    have hnd := List.nodup_cons.1 hn
    obtain ⟨w', h1, h2, h3, h4⟩ := ih (fr := { fr with defers := Ds.map markOf }) hm (w.putObj D (.deferred none)) (h.putFree hb m _) rfl hnd.2 fun D' hD' => by
      have m' := hM D' (by simp [hD'])
      have hne : D' ≠ D := fun e => hnd.1 (e ▸ hD')
      exact ⟨m'.ge, (World.putObj_heap_other hne).trans m'.at', m'.free⟩
    refine ⟨w', .head hs h1, h2, by rw [h3]; simp, fun pb hp => (h4 pb hp).trans (World.putObj_heap_other ?_)⟩
    have := m.ge; omega

/-- the results of a function, as the machine reads them -/
theorem resVar_spec (h : HRel C I ρ L0 w0 H w) {nt : Nat} {a : Fr} {tmps : Array Value} (hf : FrRel ρ nt a tmps) {f : ResultVar → Sem Value} (f1 : ∀ t, f (.tmp t) = pure (tmps.getD t undef)) (f2 : ∀ b t, f (.cell b t) = (do loadVar t (← asAddr (tmps.getD b undef)))) :
    ∀ {rs : List ResultVar} {l : List RVar} {vs : List AV}, prepRes C nt rs = some l → resVars a H l = some vs → ∃ xs : List Value, VRelL ρ vs xs ∧ (rs.mapM f).run C.P w = .ok xs w
  | [], _, vs, hp, hv => by simp [prepRes] at hp; subst hp; simp [resVars] at hv; subst hv; exact ⟨[], by simp [VRelL], by simp⟩
  | .tmp t :: rs, _, vs, hp, hv => by
    simp only [prepRes] at hp
    split at hp
    · rename_i ht
      obtain ⟨l, hl, rfl⟩ := Option.map_eq_some_iff.1 hp
      simp only [resVars, resVar, Option.bind_some] at hv
      obtain ⟨us, hu, rfl⟩ := Option.map_eq_some_iff.1 hv
      obtain ⟨xs, h1, h2⟩ := resVar_spec h hf f1 f2 hl hu
      refine ⟨tmps.getD t undef :: xs, by simp only [VRelL]; exact ⟨_, _, rfl, hf.val t ht, h1⟩, ?_⟩
      rw [List.mapM_cons, f1]
      simp [h2]
    · cases hp
  | .cell b t :: rs, _, vs, hp, hv => by
    simp only [prepRes] at hp
    split at hp
    · rename_i ht
      obtain ⟨n, hn, hp2⟩ := Option.bind_eq_some_iff.1 hp
      obtain ⟨l, hl, rfl⟩ := Option.map_eq_some_iff.1 hp2
      simp only [resVars] at hv
      obtain ⟨u, hu0, hv2⟩ := Option.bind_eq_some_iff.1 hv
      obtain ⟨us, hu, rfl⟩ := Option.map_eq_some_iff.1 hv2
      clear hp hp2 hv hv2
      obtain ⟨xs, h1, h2⟩ := resVar_spec h hf f1 f2 hl hu
      have hb := hf.val b ht
      have fin : ∀ r B o, a b = .p B o → ρ B = some r → tmps.getD b undef = .pointer (some (r.a.add o)) → (∃ xv, (loadVar t (r.a.add o)).run C.P w = .ok xv w ∧ VRel ρ u xv) → ∃ xs : List Value, VRelL ρ (u :: us) xs ∧ ((ResultVar.cell b t :: rs).mapM f).run C.P w = .ok xs w := fun r B o e hr hxe hx => by
        obtain ⟨xv, h3, h4⟩ := hx
        refine ⟨xv :: xs, by simp only [VRelL]; exact ⟨_, _, rfl, h4, h1⟩, ?_⟩
        rw [List.mapM_cons, f2, hxe]
        simp [asAddr, h3, h2]
      simp only [resVar] at hu0
      split at hu0
      · rename_i B o e
        rw [e] at hb
        obtain ⟨r, hr, hxe⟩ := hb.ptr
        exact fin r B o e hr hxe (load_spec (o := o) h hn hr hu0)
      · rename_i B o m e
        rw [e] at hb
        obtain ⟨r, hr, hxe⟩ := hb.ptr
        exact fin r B o e hr hxe (load_spec (o := o) h hn hr hu0)
      · cases hu0
    · cases hp

def resRead (tmps : Array Value) : ResultVar → Sem Value
  | .tmp t => pure (tmps.getD t undef)
  | .cell a t => do loadVar t (← asAddr (tmps.getD a undef))
theorem run_mapMArr {α : Type} {P : Program} {w : World} {f : α → Sem Value} {xs : List Value} : ∀ (rs : Array α), (rs.toList.mapM f).run P w = .ok xs w → (rs.mapM f).run P w = .ok xs.toArray w := fun rs h => by
  obtain ⟨rs⟩ := rs
  rw [List.mapM_toArray]
  simp only [Sem.run_map]
  simp only at h
  simp [h]

theorem res_spec (h : HRel C I ρ L0 w0 H w) {fn : Func} {nt : Nat} {a : Fr} {tmps : Array Value} (hf : FrRel ρ nt a tmps) {l : List RVar} {v : AV} (hp : prepRes C nt fn.results.toList = some l) (hv : resA l a H = some v) :
    ∃ x, (results fn tmps).run C.P w = .ok x w ∧ VRel ρ v x := by
  unfold resA at hv
  have key : ∀ vs, resVars a H l = some vs → ∃ xs : List Value, VRelL ρ vs xs ∧ (results fn tmps).run C.P w = .ok (if h : xs.toArray.size = 1 then xs.toArray[0] else .tuple xs.toArray) w := fun vs hvs => by
    unfold results
    obtain ⟨xs, h1, h2⟩ := resVar_spec h hf (f := resRead tmps) (fun t => rfl) (fun b t => rfl) hp hvs
    refine ⟨xs, h1, ?_⟩
    have h3 := run_mapMArr fn.results h2
    have h4 : ∀ g : ResultVar → Sem Value, g = resRead tmps → (do let vs ← fn.results.mapM g; pure (if h : vs.size = 1 then vs[0] else .tuple vs) : Sem Value).run C.P w = .ok (if h : xs.toArray.size = 1 then xs.toArray[0] else .tuple xs.toArray) w := fun g hg => by
      rw [hg, Sem.run_bind, h3, Result.andThen_ok, Sem.run_pure]
    exact h4 _ (funext fun x => by cases x <;> rfl)
  split at hv
  · rename_i u hvs
    cases hv
    obtain ⟨xs, h1, h2⟩ := key _ hvs
    simp only [VRelL] at h1
    obtain ⟨x, _, rfl, h3, rfl⟩ := h1
    exact ⟨x, by rw [h2]; simp, h3⟩
  · rename_i us hne hvs
    cases hv
    obtain ⟨xs, h1, h2⟩ := key _ hvs
    refine ⟨.tuple xs.toArray, ?_, by simp only [VRel]; exact ⟨_, rfl, h1⟩⟩
    rw [h2, dif_neg]
    intro e
    have hl := h1.length
    simp only [List.size_toArray] at e
    rw [e] at hl
    match us, hl with
    | [u], _ => exact hne u rfl
  · cases hv
end
end Go.AM
