/- Each operation without a call: the machine does what the abstract machine does. No condition. -/
import Derived.Test.YtflekaacffdakaaAmE
namespace Go.AM
open Go Go.RowKit

/-- the operation goes through: its value, the heap behind it -/
def Gives (C : Cfg) (I : World → Prop) (ρ : Mp) (L0 : Nat) (w0 : World) (H : Heap) (w : World) (s : Sem Next) (v : AV) (H' : Heap) : Prop :=
  ∃ ρ' nx x w', s.run C.P w = .ok nx w' ∧ (nx = .value x ∨ (nx = .skip ∧ x = undef)) ∧ VRel ρ' v x ∧ HRel C I ρ' L0 w0 H' w' ∧ Ext ρ L0 H.length w ρ' w'

section
variable {C : Cfg} {I : World → Prop} {ρ : Mp} {L0 : Nat} {w0 w : World} {H : Heap}

theorem Gives.pure (h : HRel C I ρ L0 w0 H w) {s : Sem Next} {v : AV} {x : Value} (hs : s.run C.P w = .ok (.value x) w) (hv : VRel ρ v x) : Gives C I ρ L0 w0 H w s v H :=
  ⟨ρ, _, x, w, hs, .inl rfl, hv, h, Ext.refl ..⟩

theorem Gives.val {s : Sem Next} {v : AV} {H' : Heap} (ρ' : Mp) (x : Value) (w' : World) (hs : s.run C.P w = .ok (.value x) w') (hv : VRel ρ' v x) (hH : HRel C I ρ' L0 w0 H' w') (hE : Ext ρ L0 H.length w ρ' w') : Gives C I ρ L0 w0 H w s v H' :=
  ⟨ρ', _, x, w', hs, .inl rfl, hv, hH, hE⟩
theorem run_typeInfo' {t : TypeId} {i : TypeInfo} (h : C.P.info? t = some i) (w : World) : (typeInfo t).run C.P w = .ok i w := by simp [typeInfo, h]
theorem run_sizeOf' {t : TypeId} {n : Nat} (h : sizeA C.P t = some n) (w : World) : (sizeOf t).run C.P w = .ok n w := by
  simp only [sizeA, Option.map_eq_some_iff] at h
  obtain ⟨i, hi, rfl⟩ := h
  simp [sizeOf, run_typeInfo' hi]
theorem zeroA_spec {t : TypeId} {z : List AV} (h : zeroA C.P t = some z) : ∃ i zv, C.P.info? t = some i ∧ i.zero = some zv ∧ toAVs toAV1 zv.cells.toList = some z := by
  unfold zeroA at h
  split at h
  · rename_i i hi
    split at h
    · rename_i zv hz; exact ⟨i, zv, hi, hz, h⟩
    · cases h
  · cases h
theorem run_zeroValue' {t : TypeId} {i : TypeInfo} {z : Value} (h : C.P.info? t = some i) (hz : i.zero = some z) (w : World) : (zeroValue t).run C.P w = .ok z w := by
  simp [zeroValue, run_typeInfo' h, hz]
theorem shapeA_none {t : TypeId} (h : shapeA C.P t = some none) (w : World) : (isAgg t).run C.P w = .ok false w := by
  unfold shapeA at h
  split at h
  · simp at h
  · simp at h
  · rename_i d h1 h2 hd
    simp only [isAgg, Sem.run_bind, run_underlying hd, Result.andThen_ok]
    cases d <;> first | rfl | exact absurd hd (h1 _) | exact absurd hd (h2 _ _)
  · cases h
theorem shapeA_some {t : TypeId} {n : Nat} (h : shapeA C.P t = some (some n)) (w : World) : (isAgg t).run C.P w = .ok true w ∧ sizeA C.P t = some n := by
  unfold shapeA at h
  split at h
  · rename_i hd
    simp at h
    exact ⟨by simp [isAgg, run_underlying hd], h⟩
  · rename_i hd
    simp at h
    exact ⟨by simp [isAgg, run_underlying hd], h⟩
  · simp at h
  · cases h

/-- a new block of cells -/
theorem newCells (h : HRel C I ρ L0 w0 H w) {vs : List AV} {cs : Array Value} (t : TypeId) (hl : vs.length ≤ cs.size) (hv : ∀ (i : Nat) (v : AV), vs[i]? = some v → ∃ x, cs[i]? = some x ∧ VRel ρ v x ∧ x.oneCell' = true) :
    ∃ ρ', ρ' H.length = some ⟨⟨w.heap.size, 0, none⟩, some cs.size⟩ ∧ HRel C I ρ' L0 w0 (H ++ [.cells vs]) (w.alloc (.cells cs t)) ∧ Ext ρ L0 H.length w ρ' (w.alloc (.cells cs t)) := by
  have hle := Mp.le_add ρ ⟨⟨w.heap.size, 0, none⟩, some cs.size⟩ (h.none_of_ge (Nat.le_refl _))
  have hn : (w.alloc (.cells cs t)).heap[w.heap.size]? = some (.cells cs t (0, 0)) := World.alloc_heap_new w _
  refine ⟨_, Mp.add_same .., HRel.push h (.cells cs t) (.cells vs) (some cs.size) 0 ⟨(cellsRel_arr rfl hn).2 fun i v hv' => ?_, fun _ => ⟨cs, t, cs.size, hn, rfl, hl, by simp⟩, fun e => absurd trivial e⟩⟩
  obtain ⟨x, hx, hr, h1⟩ := hv i v hv'
  exact ⟨x, by simpa using hx, hr.mono hle _ _, h1⟩
theorem newCellsL (h : HRel C I ρ L0 w0 H w) {vs : List AV} {cs : Array Value} (t : TypeId) (hv : VRelL ρ vs cs.toList) (h1 : vs.all AV.one = true) :
    ∃ ρ', ρ' H.length = some ⟨⟨w.heap.size, 0, none⟩, some cs.size⟩ ∧ HRel C I ρ' L0 w0 (H ++ [.cells vs]) (w.alloc (.cells cs t)) ∧ Ext ρ L0 H.length w ρ' (w.alloc (.cells cs t)) :=
  newCells h t (by have := hv.length; simp at this; omega) fun i v hv' => by
    obtain ⟨x, hx, hr⟩ := hv.get hv'
    exact ⟨x, by simpa using hx, hr, hr.one (List.all_eq_true.1 h1 _ (List.mem_of_getElem? hv'))⟩

theorem gives_alloc (h : HRel C I ρ L0 w0 H w) {t : TypeId} {z : List AV} (hz : zeroA C.P t = some z) : Gives C I ρ L0 w0 H w (do pure (.value (← Instr.alloc t true (.tuple #[])))) (.p H.length 0) (H ++ [.cells z]) := by
  obtain ⟨i, zv, hi, hzv, hr⟩ := zeroA_spec hz
  obtain ⟨ρ', e, hH, hE⟩ := newCellsL h (cs := zv.cells) t (toAVs_rel (fun v x e => (toAV1_rel e).1) hr) (toAVs_one hr)
  refine Gives.val ρ' (.pointer (some ⟨w.heap.size, 0, none⟩)) _ ?_ ?_ hH hE
  · simp [Instr.alloc, run_zeroValue' hi hzv, newVar, newRow]
  · simp only [VRel]; exact ⟨_, e, rfl⟩

theorem gives_box (h : HRel C I ρ L0 w0 H w) {t : TypeId} {v : AV} {x : Value} (hv : VRel ρ v x) (h1 : v.cells.all AV.one = true) : Gives C I ρ L0 w0 H w (do pure (.value (← Instr.box t x))) (.p H.length 0) (H ++ [.cells v.cells]) := by
  obtain ⟨ρ', e, hH, hE⟩ := newCellsL h (cs := x.cells) t (hv.cells h1) h1
  refine Gives.val ρ' (.pointer (some ⟨w.heap.size, 0, none⟩)) _ ?_ ?_ hH hE
  · simp [Instr.box, newVar, newRow]
  · simp only [VRel]; exact ⟨_, e, rfl⟩

/-! ### Reading -/
theorem ld_spec {b o : Nat} {v : AV} (h : ld H b o = some v) : ∃ vs, H[b]? = some (.cells vs) ∧ vs[o]? = some v := by
  unfold ld at h
  split at h
  · rename_i vs e; exact ⟨vs, e, h⟩
  · cases h
theorem ldn_spec {b o n : Nat} {us : List AV} (h : ldn H b o n = some us) : ∃ vs, H[b]? = some (.cells vs) ∧ o + n ≤ vs.length ∧ us = (vs.drop o).take n := by
  unfold ldn at h
  split at h
  · rename_i vs e
    split at h
    · rename_i hl; cases h; exact ⟨vs, e, hl, rfl⟩
    · cases h
  · cases h
theorem read1 (h : HRel C I ρ L0 w0 H w) {b o : Nat} {v : AV} {r : PB} (hb : ρ b = some r) (hl : ld H b o = some v) : ∃ x, w.cell? (r.a.add o) = some x ∧ VRel ρ v x ∧ x.oneCell' = true := by
  obtain ⟨vs, e, hv⟩ := ld_spec hl
  exact (h.blk b r _ hb e).1 o v hv
theorem cellsOfRel (h : HRel C I ρ L0 w0 H w) {b o n : Nat} {us : List AV} {r : PB} (hb : ρ b = some r) (hl : ldn H b o n = some us) :
    ∃ xs : List Value, xs.length = n ∧ us.length = n ∧ VRelL ρ us xs ∧ (∀ x ∈ xs, x.oneCell' = true) ∧ ∀ j v, xs[j]? = some v → w.cell? ((r.a.add o).add j) = some v := by
  obtain ⟨vs, e, hle, rfl⟩ := ldn_spec hl
  have hB := (h.blk b r _ hb e).1
  have hlen : ((vs.drop o).take n).length = n := by simp; omega
  have key : ∀ m, m ≤ n → ∃ xs : List Value, xs.length = m ∧ ∀ (j : Nat), j < m → ∃ v x, vs[o + j]? = some v ∧ xs[j]? = some x ∧ w.cell? (r.a.add (o + j)) = some x ∧ VRel ρ v x ∧ x.oneCell' = true := by
    intro m
    induction m with
    | zero => exact fun _ => ⟨[], rfl, fun j hj => by omega⟩
    | succ m ih =>
      intro hm
      obtain ⟨xs, hx, hp⟩ := ih (by omega)
      have hv : vs[o + m]? = some (vs[o + m]'(by omega)) := List.getElem?_eq_getElem _
      obtain ⟨x, hc, hr, h1⟩ := hB (o + m) _ hv
      refine ⟨xs ++ [x], by simp [hx], fun j hj => ?_⟩
      by_cases e' : j = m
      · subst e'
        exact ⟨_, x, hv, by simp [hx], hc, hr, h1⟩
      · obtain ⟨v, y, h2, h3, h4⟩ := hp j (by omega)
        exact ⟨v, y, h2, by rw [List.getElem?_append_left (by omega)]; exact h3, h4⟩
  obtain ⟨xs, hx, hp⟩ := key n (Nat.le_refl _)
  refine ⟨xs, hx, hlen, VRelL.of_get (by rw [hx, hlen]) fun i v hv => ?_, fun x hxm => ?_, fun j v hv => ?_⟩
  · have hi : i < n := by have := (List.getElem?_eq_some_iff.1 hv).1; omega
    obtain ⟨v', x, h2, h3, _, hr, _⟩ := hp i hi
    rw [List.getElem?_take, if_pos hi, List.getElem?_drop, h2] at hv
    cases hv
    exact ⟨x, h3, hr⟩
  · obtain ⟨i, hi, rfl⟩ := List.mem_iff_getElem.1 hxm
    obtain ⟨v', x, _, h3, _, _, h1⟩ := hp i (by omega)
    rw [List.getElem?_eq_getElem hi] at h3; cases h3; exact h1
  · have hj : j < n := by have := (List.getElem?_eq_some_iff.1 hv).1; omega
    obtain ⟨v', x, _, h3, hc, _, _⟩ := hp j hj
    rw [hv] at h3; cases h3
    rw [Addr.add_add]; exact hc

theorem run_loadVar1 {t : TypeId} (hs : shapeA C.P t = some none) {a : Addr} {x : Value} (hc : w.cell? a = some x) : (loadVar t a).run C.P w = .ok x w := by
  simp [loadVar, shapeA_none hs, hc]
theorem run_loadVarN {t : TypeId} {n : Nat} (hs : shapeA C.P t = some (some n)) {a : Addr} {xs : List Value} (hl : xs.length = n) (hc : ∀ j v, xs[j]? = some v → w.cell? (a.add j) = some v) : (loadVar t a).run C.P w = .ok (.agg xs.toArray) w := by
  obtain ⟨h1, h2⟩ := shapeA_some hs w
  have := run_loadCells_list (P := C.P) w a xs hc
  rw [hl] at this
  simp [loadVar, h1, run_sizeOf' h2, this]

theorem load_spec (h : HRel C I ρ L0 w0 H w) {t : TypeId} {n : Option Nat} (hs : shapeA C.P t = some n) {b o : Nat} {r : PB} (hb : ρ b = some r) {v : AV}
    (hx : (match n with
      | none => ld H b o
      | some n => (ldn H b o n).map .ag) = some v) : ∃ x, (loadVar t (r.a.add o)).run C.P w = .ok x w ∧ VRel ρ v x := by
  cases n with
  | none =>
    obtain ⟨x, hc, hr, _⟩ := read1 h hb hx
    exact ⟨x, run_loadVar1 hs hc, hr⟩
  | some n =>
    simp only [Option.map_eq_some_iff] at hx
    obtain ⟨us, hu, rfl⟩ := hx
    obtain ⟨xs, hl, _, hr, _, hc⟩ := cellsOfRel h hb hu
    exact ⟨_, run_loadVarN hs hl hc, by simp only [VRel]; exact ⟨_, rfl, by simpa using hr⟩⟩

theorem storeVar_spec (h : HRel C I ρ L0 w0 H w) {t : TypeId} {n : Nat} (hs : sizeA C.P t = some n) {lo b o : Nat} {r : PB} (hb : ρ b = some r) (hlo : L0 ≤ lo) {v : AV} {x : Value} (hv : VRel ρ v x) (hn : v.cells.length = n) (h1 : v.cells.all AV.one = true)
    {H' : Heap} (hst : st lo H b o v.cells = some H') : ∃ w', (storeVar t (r.a.add o) x).run C.P w = .ok () w' ∧ HRel C I ρ L0 w0 H' w' ∧ Ext ρ L0 H.length w ρ w' := by
  unfold st at hst
  split at hst
  · rename_i hle
    split at hst
    · rename_i vs e
      split at hst
      · rename_i hl
        cases hst
        have hc := hv.cells h1
        obtain ⟨hH, hE, hrun⟩ := HRel.store (n := H.length) h hb (by omega) e hl hc (hc.one h1)
        refine ⟨_, ?_, hH, hE⟩
        have hsz : x.cells.size = n := by have := hc.length; simp at this; omega
        simp [storeVar, run_sizeOf' hs, hsz, hrun]
      · cases hst
    · cases hst
  · cases hst

/-! ### Building -/
theorem setMany_foldl : ∀ (xs : List Value) (cs : Array Value) (o k : Nat), (xs.zipIdx k).foldl (fun cs (c, j) => cs.setIfInBounds (o + j) c) cs = setMany cs (o + k) xs
  | [], _, _, _ => rfl
  | x :: xs, cs, o, k => by
    simp only [List.zipIdx_cons, List.foldl_cons, setMany]
    rw [setMany_foldl xs _ o (k + 1)]
    congr 1
theorem foldl_zipIdx (v : Array Value) (cs : Array Value) (o : Nat) : v.zipIdx.foldl (fun cs (c, j) => cs.setIfInBounds (o + j) c) cs = setMany cs o v.toList := by
  rw [← Array.foldl_toList]
  have : v.zipIdx.toList = v.toList.zipIdx := by simp [Array.toList_zipIdx]
  rw [this]
  exact setMany_foldl v.toList cs o 0
theorem VRelL.wr {ρ : Mp} : ∀ {us : List AV} {xs : List Value} {vs : List AV} {cs : Array Value} {o : Nat}, VRelL ρ vs cs.toList → VRelL ρ us xs → VRelL ρ (AM.wr vs o us) (setMany cs o xs).toList
  | [], _, _, _, _, h, hu => by simp only [VRelL] at hu; subst hu; exact h
  | u :: us, _, vs, cs, o, h, hu => by
    simp only [VRelL] at hu
    obtain ⟨x, xs, rfl, hx, hxs⟩ := hu
    simp only [AM.wr, setMany]
    refine VRelL.wr ?_ hxs
    simpa using h.set o hx
theorem wr_all {p : AV → Bool} : ∀ {us vs : List AV} {o : Nat}, vs.all p = true → us.all p = true → (AM.wr vs o us).all p = true
  | [], _, _, h, _ => h
  | u :: us, vs, o, h, hu => by
    simp only [List.all_cons, Bool.and_eq_true] at hu
    simp only [AM.wr]
    refine wr_all ?_ hu.2
    rw [List.all_eq_true] at h ⊢
    intro x hx
    rcases List.mem_or_eq_of_mem_set hx with hx | rfl
    · exact h x hx
    · exact hu.1
def PartsRel (ρ : Mp) (place : Nat → Option (Nat × Nat)) : List (Nat × Value) → List (Nat × Nat × AV) → Prop
  | [], ps => ps = []
  | (i, x) :: l, ps => ∃ off size v ps', ps = (off, size, v) :: ps' ∧ place i = some (off, size) ∧ VRel ρ v x ∧ PartsRel ρ place l ps'
theorem fill_spec {place : Nat → Option (Nat × Nat)} : ∀ {l : List (Nat × Value)} {ps : List (Nat × Nat × AV)} {z : List AV} {zc : Array Value} {cs : List AV},
    PartsRel ρ place l ps → VRelL ρ z zc.toList → z.all AV.one = true → fillA z ps = some cs →
    ∃ cc, Instr.fill place zc l = some cc ∧ VRelL ρ cs cc.toList ∧ cs.all AV.one = true
  | [], _, _, zc, _, h, hz, h1, hf => by simp only [PartsRel] at h; subst h; simp [fillA] at hf; subst hf; exact ⟨zc, rfl, hz, h1⟩
  | (i, x) :: l, _, z, zc, cs, h, hz, h1, hf => by
    simp only [PartsRel] at h
    obtain ⟨off, size, v, ps, rfl, hpl, hv, hr⟩ := h
    simp only [fillA] at hf
    split at hf
    · rename_i hc
      obtain ⟨hc1, hc2, hc3⟩ := hc
      have hcs := hv.cells hc3
      have e1 : x.cells.size = size := by have := hcs.length; simp at this; omega
      have e2 := hz.length
      obtain ⟨cc, hcc, hrr, hone⟩ := fill_spec hr (hz.wr (o := off) hcs) (wr_all h1 hc3) hf
      refine ⟨cc, ?_, hrr, hone⟩
      simp at e2
      simp only [Instr.fill]
      rw [hpl]
      simp only [e1]
      rw [if_neg (by simp; omega), foldl_zipIdx]
      exact hcc
    · cases hf
end
end Go.AM
