/- Each operation without a call, all in one: 'simOp'. No condition. -/
import Derived.Test.YtflekaacffdakaaAmF
namespace Go.AM
open Go Go.RowKit
section
variable {C : Cfg} {I : World → Prop} {ρ : Mp} {L0 : Nat} {w0 w : World} {H : Heap} {nt lo : Nat} {a : Fr} {am : Act}

theorem run_mapM {α β : Type} {P : Program} {w : World} {f : α → Sem β} {g : α → β} : ∀ {l : List α}, (∀ x ∈ l, (f x).run P w = .ok (g x) w) → (l.mapM f).run P w = .ok (l.map g) w
  | [], _ => by simp
  | x :: l, h => by
    rw [List.mapM_cons]
    simp [h x (by simp), run_mapM (l := l) fun y hy => h y (by simp [hy])]
theorem run_mapMA {α β : Type} {P : Program} {w : World} {f : α → Sem β} {g : α → β} {l : Array α} (h : ∀ x ∈ l.toList, (f x).run P w = .ok (g x) w) : (l.mapM f).run P w = .ok (l.map g) w := by
  obtain ⟨l⟩ := l
  rw [List.mapM_toArray]
  simp [run_mapM (l := l) h]

theorem prepParts_rel {P : Program} {place : Nat → Option (Nat × Nat)} (hf : FrRel ρ nt a am.tmps) : ∀ {l : List (Nat × Operand)} {ps : List (Nat × Nat × AX)}, prepParts P nt place l = some ps →
    PartsRel ρ place (l.map fun q => (q.1, am.eval q.2)) (ps.map fun q => (q.1, q.2.1, ev a q.2.2))
  | [], _, h => by simp [prepParts] at h; subst h; simp [PartsRel]
  | (i, x) :: l, _, h => by
    simp only [prepParts, Option.bind_eq_some_iff, Option.map_eq_some_iff] at h
    obtain ⟨q, hq, y, hy, ps, hps, rfl⟩ := h
    simp only [List.map_cons, PartsRel]
    exact ⟨q.1, q.2, _, _, rfl, hq, evalX hy hf, prepParts_rel hf hps⟩
theorem prepSParts_rel {es : Nat} (hf : FrRel ρ nt a am.tmps) : ∀ {l : List (Nat × Operand)} {ps : List (Nat × AX)}, prepSParts nt l = some ps →
    PartsRel ρ (fun i => some (i * es, es)) (l.map fun q => (q.1, am.eval q.2)) (ps.map fun q => (q.1 * es, es, ev a q.2))
  | [], _, h => by simp [prepSParts] at h; subst h; simp [PartsRel]
  | (i, x) :: l, _, h => by
    simp only [prepSParts, Option.bind_eq_some_iff, Option.map_eq_some_iff] at h
    obtain ⟨y, hy, ps, hps, rfl⟩ := h
    simp only [List.map_cons, PartsRel]
    exact ⟨_, _, _, _, rfl, rfl, evalX hy hf, prepSParts_rel hf hps⟩
theorem PartsRel.congr {place place' : Nat → Option (Nat × Nat)} (h : ∀ i q, place i = some q → place' i = some q) : ∀ {l : List (Nat × Value)} {ps : List (Nat × Nat × AV)}, PartsRel ρ place l ps → PartsRel ρ place' l ps
  | [], _, h' => h'
  | (i, x) :: l, _, h' => by
    simp only [PartsRel] at h' ⊢
    obtain ⟨off, size, v, ps, e, hp, hv, hr⟩ := h'
    exact ⟨off, size, v, ps, e, h _ _ hp, hv, PartsRel.congr h hr⟩

theorem gives_build (h : HRel C I ρ L0 w0 H w) (hf : FrRel ρ nt a am.tmps) {t : TypeId} {parts : Array (Nat × Operand)} {ao : AOp} (hp : prepOp C nt (.build t parts) = some ao) {v : AV} {H' : Heap} (hx : opA lo ao a H = some (v, H')) :
    Gives C I ρ L0 w0 H w (do pure (.value (← Instr.build t (parts.map fun (i, x) => (i, am.eval x))))) v H' := by
  simp only [prepOp, Option.bind_eq_some_iff] at hp
  obtain ⟨z, hz, hp⟩ := hp
  obtain ⟨i, zv, hi, hzv, hr⟩ := zeroA_spec hz
  have hzr : VRelL ρ z zv.cells.toList := toAVs_rel (fun v x e => (toAV1_rel e).1) hr
  have hl : (parts.map fun (i, x) => (i, am.eval x)).toList = parts.toList.map fun q => (q.1, am.eval q.2) := by simp
  split at hp
  · rename_i fs hu
    split at hp
    · cases hp
    · rename_i hall
      simp only [Option.map_eq_some_iff] at hp
      obtain ⟨ps, hps, rfl⟩ := hp
      simp only [opA, Option.map_eq_some_iff] at hx
      obtain ⟨cs, hcs, e⟩ := hx
      cases e
      have hsz : ∀ f ∈ fs.toList, sizeA C.P f.type = some ((sizeA C.P f.type).getD 0) := fun f hf' => by
        cases e : sizeA C.P f.type with
        | none => exact absurd (List.any_eq_true.2 ⟨f, hf', by simp [e]⟩) hall
        | some n => rfl
      have hm := run_mapMA (P := C.P) (w := w) (l := fs) (f := fun f => do pure (f.offset, ← sizeOf f.type)) (g := fun f => (f.offset, (sizeA C.P f.type).getD 0)) fun f hf' => by simp [run_sizeOf' (hsz f hf')]
      have hpr := PartsRel.congr (place' := fun i => (fs.map fun f => (f.offset, (sizeA C.P f.type).getD 0))[i]?) (fun i q hq => by
        simp only [Option.bind_eq_some_iff, Option.map_eq_some_iff] at hq
        obtain ⟨f, hf', n, hn, rfl⟩ := hq
        simp [hf', hn]) (prepParts_rel hf hps)
      obtain ⟨cc, hcc, hrr, _⟩ := fill_spec hpr hzr (toAVs_one hr) hcs
      rw [← hl] at hcc
      refine Gives.pure h (x := .agg cc) ?_ (by simp only [VRel]; exact ⟨cc, rfl, hrr⟩)
      simp only [Instr.build, Sem.run_bind, run_zeroValue' hi hzv, Result.andThen_ok, run_underlying hu, hm, hcc, Sem.run_pure]
  · rename_i n e hu
    simp only [Option.bind_eq_some_iff, Option.map_eq_some_iff] at hp
    obtain ⟨es, hes, ps, hps, rfl⟩ := hp
    simp only [opA, Option.map_eq_some_iff] at hx
    obtain ⟨cs, hcs, e'⟩ := hx
    cases e'
    obtain ⟨cc, hcc, hrr, _⟩ := fill_spec (prepParts_rel hf hps) hzr (toAVs_one hr) hcs
    rw [← hl] at hcc
    refine Gives.pure h (x := .agg cc) ?_ (by simp only [VRel]; exact ⟨cc, rfl, hrr⟩)
    simp only [Instr.build, Sem.run_bind, run_zeroValue' hi hzv, Result.andThen_ok, run_underlying hu, run_sizeOf' hes, hcc, Sem.run_pure]
  · cases hp

theorem reps_length (z : List AV) : ∀ n, (reps n z).length = n * z.length
  | 0 => by simp [reps]
  | n + 1 => by simp [reps, reps_length z n, Nat.succ_mul, Nat.add_comm]
theorem reps_all {p : AV → Bool} {z : List AV} (h : z.all p = true) : ∀ n, (reps n z).all p = true
  | 0 => rfl
  | n + 1 => by simp only [reps, List.all_append, h, reps_all h n, Bool.and_self]
theorem reps_get (z : List AV) : ∀ (n i : Nat), i < n * z.length → (reps n z)[i]? = z[i % z.length]?
  | 0, i, h => by simp at h
  | n + 1, i, h => by
    simp only [reps]
    by_cases hi : i < z.length
    · rw [List.getElem?_append_left hi, Nat.mod_eq_of_lt hi]
    · rw [List.getElem?_append_right (by omega), reps_get z n (i - z.length) (by rw [Nat.succ_mul] at h; omega)]
      congr 1
      rw [Nat.mod_eq_sub_mod (a := i) (by omega)]
/-- zero cells, many times -/
theorem reps_rel {z : List AV} {zc : Array Value} (hz : VRelL ρ z zc.toList) (n m : Nat) (hm : m = n * zc.size) : VRelL ρ (reps n z) ((Array.range m).map (zc[· % zc.size]!)).toList := by
  have hl : zc.size = z.length := by have := hz.length; simpa using this
  refine VRelL.of_get (by simp [reps_length, hm, hl]) fun i v hv => ?_
  have hi : i < n * z.length := by have := (List.getElem?_eq_some_iff.1 hv).1; rwa [reps_length] at this
  rw [reps_get z n i hi] at hv
  obtain ⟨x, hx, hr⟩ := hz.get hv
  refine ⟨x, ?_, hr⟩
  have hpos : 0 < zc.size := by
    rcases Nat.eq_zero_or_pos zc.size with h0 | h0
    · rw [← hl, h0] at hi; simp at hi
    · exact h0
  have hx' : zc[i % zc.size]? = some x := by simpa [hl] using hx
  have hi' : i < m := by rw [hm, hl]; exact hi
  have hg : zc[i % zc.size]! = x := by rw [getElem!_def, hx']
  simp [hi', hg]

theorem gives_bslice (h : HRel C I ρ L0 w0 H w) (hf : FrRel ρ nt a am.tmps) {t : TypeId} {len : Nat} {parts : Array (Nat × Operand)} {ao : AOp} (hp : prepOp C nt (.buildSlice t len parts) = some ao) {v : AV} {H' : Heap} (hx : opA lo ao a H = some (v, H')) :
    Gives C I ρ L0 w0 H w (do pure (.value (← Instr.buildSlice t len (parts.map fun (i, x) => (i, am.eval x))))) v H' := by
  simp only [prepOp] at hp
  split at hp
  · rename_i e hu
    simp only [Option.bind_eq_some_iff] at hp
    obtain ⟨es, hes, z, hz, hp⟩ := hp
    split at hp
    · rename_i hc
      obtain ⟨hzl, hbig⟩ := hc
      simp only [Option.map_eq_some_iff] at hp
      obtain ⟨ps, hps, rfl⟩ := hp
      obtain ⟨i, zv, hi, hzv, hr⟩ := zeroA_spec hz
      have hzr : VRelL ρ z zv.cells.toList := toAVs_rel (fun v x e => (toAV1_rel e).1) hr
      have hzs : zv.cells.size = es := by have := hzr.length; simp at this; omega
      simp only [opA, Option.map_eq_some_iff] at hx
      obtain ⟨cs, hcs, e'⟩ := hx
      cases e'
      have hl : (parts.map fun (i, x) => (i, am.eval x)).toList = parts.toList.map fun q => (q.1, am.eval q.2) := by simp
      have hrp : VRelL ρ (reps len z) ((Array.range (len * es)).map (zv.cells[· % zv.cells.size]!)).toList := reps_rel hzr len _ (by rw [hzs])
      obtain ⟨cc, hcc, hrr, hone⟩ := fill_spec (prepSParts_rel hf hps) hrp (reps_all (toAVs_one hr) len) hcs
      rw [← hl] at hcc
      obtain ⟨ρ', e1, hH, hE⟩ := newCellsL h (cs := cc) e hrr hone
      have hccs : cc.size = len * es := by
        have h1 := hrr.length
        have h2 : ∀ {ps : List (Nat × Nat × AV)} {z cs : List AV}, fillA z ps = some cs → cs.length = z.length := by
          intro ps
          induction ps with
          | nil => intro z cs h; simp [fillA] at h; subst h; rfl
          | cons p ps ih =>
            intro z cs h
            obtain ⟨off, size, v⟩ := p
            simp only [fillA] at h
            split at h
            · rw [ih h, wr_length]
            · cases h
        have h3 := h2 hcs
        rw [reps_length, hzl] at h3
        simp at h1
        omega
      refine Gives.val ρ' (.slice (some ⟨w.heap.size, 0, none⟩) len len) (w.alloc (.cells cc e)) ?_ ?_ hH hE
      · have hsz : ¬ (len * es > 2 ^ 24) := by omega
        by_cases h0 : len * es = 0
        · have hemp : ∀ f : Nat → Value, (Array.range (len * es)).map f = #[] := fun f => by rw [h0]; simp
          rw [hemp] at hcc
          simp only [Instr.buildSlice, Sem.run_bind, run_underlying hu, Result.andThen_ok, run_sizeOf' hes, if_neg hsz, if_pos h0, Sem.run_pure, hemp, hcc, newRow, run_newObj]
          rfl
        · simp only [Instr.buildSlice, Sem.run_bind, run_underlying hu, Result.andThen_ok, run_sizeOf' hes, if_neg hsz, if_neg h0, run_zeroValue' hi hzv, Sem.run_pure, hcc, newRow, run_newObj]
          rfl
      · simp only [VRel]
        refine ⟨_, 0, len, e1, rfl, Nat.le_refl _, fun k e => by cases e; rfl, fun _ => rfl, fun m hm => ?_⟩
        simp at hm; omega
    · cases hp
  · cases hp

/-! ### Arithmetic -/
theorem binA_spec {op : BinOp} {t : TypeId} {x y v : AV} {xm ym : Value} {xo yo : Operand} (hx : VRel ρ x xm) (hy : VRel ρ y ym) (h : binA op x y = some v) (w : World) :
    ∃ vm, (do eqGuard op t xo yo xm ym; binOp op t xm ym : Sem Value).run C.P w = .ok vm w ∧ VRel ρ v vm := by
  cases x <;> cases y <;> (try (cases op <;> simp [binA] at h; done))
  rename_i k m k' n
  simp only [VRel] at hx hy
  subst hx hy
  have hg : (eqGuard op t xo yo (.int k m) (.int k' n)).run C.P w = .ok () w := by
    unfold eqGuard
    cases op <;> simp
  simp only [Sem.run_bind, hg, Result.andThen_ok]
  cases op <;> simp only [binA] at h
  case shl =>
    split at h
    · cases h
    · rename_i hn; cases h; simp [binOp, Op.shift, hn, VRel]
  case shr =>
    split at h
    · cases h
    · rename_i hn; cases h; simp [binOp, Op.shift, hn, VRel]
  all_goals
    split at h
    · rename_i hk
      subst hk
      first
        | (cases h; simp [binOp, Op.intArith, Op.intBits, Op.intCmp, VRel]; done)
        | (split at h
           · cases h
           · rename_i hn; cases h; simp [binOp, Op.intDiv, hn, VRel])
        | cases h
    · cases h
theorem unA_spec {op : UnOp} {x v : AV} {xm : Value} (hx : VRel ρ x xm) (h : unA op x = some v) (w : World) : ∃ vm, (Op.unary op xm).run C.P w = .ok vm w ∧ VRel ρ v vm := by
  unfold unA at h
  split at h
  · cases h; simp only [VRel] at hx; subst hx; simp [Op.unary, Op.intArith, VRel]
  · cases h; simp only [VRel] at hx; subst hx; simp [Op.unary, Op.intBits, VRel]
  · cases h; simp only [VRel] at hx; subst hx; simp [Op.unary, VRel]
  · cases h
theorem foldMin_spec {k : IntKind} {P : Program} {w : World} : ∀ {l : List AV} {xs : List Value} {x n : Int}, VRelL ρ l xs → foldMin k x l = some n → (xs.foldlM Builtin.min2 (.int k x)).run P w = .ok (.int k n) w
  | [], _, x, n, h, e => by simp only [VRelL] at h; subst h; simp [foldMin] at e; subst e; simp
  | v :: l, _, x, n, h, e => by
    simp only [VRelL] at h
    obtain ⟨y, ys, rfl, hy, hr⟩ := h
    cases v <;> simp only [foldMin] at e <;> try cases e
    simp only [VRel] at hy
    subst hy
    simp only [List.foldlM_cons, Builtin.min2, Sem.run_bind, Sem.run_pure, Result.andThen_ok]
    exact foldMin_spec hr e
theorem foldMax_spec {k : IntKind} {P : Program} {w : World} : ∀ {l : List AV} {xs : List Value} {x n : Int}, VRelL ρ l xs → foldMax k x l = some n → (xs.foldlM Builtin.max2 (.int k x)).run P w = .ok (.int k n) w
  | [], _, x, n, h, e => by simp only [VRelL] at h; subst h; simp [foldMax] at e; subst e; simp
  | v :: l, _, x, n, h, e => by
    simp only [VRelL] at h
    obtain ⟨y, ys, rfl, hy, hr⟩ := h
    cases v <;> simp only [foldMax] at e <;> try cases e
    simp only [VRel] at hy
    subst hy
    simp only [List.foldlM_cons, Builtin.max2, Sem.run_bind, Sem.run_pure, Result.andThen_ok]
    exact foldMax_spec hr e
end
end Go.AM
