/- 'simOp': whatever operation without a call: the machine does what the abstract machine does. Condition: EqOk, on the comparison of aggregates. -/
import Derived.Test.YtflekaacffdakaaAmI
namespace Go.AM
open Go Go.RowKit
section
variable {C : Cfg} {I : World → Prop} {ρ : Mp} {L0 : Nat} {w0 w : World} {H : Heap} {nt lo : Nat} {a : Fr} {am : Act}

theorem VRel.int {k : IntKind} {n : Int} {x : Value} (h : VRel ρ (.int k n) x) : x = .int k n := by simpa [VRel] using h
theorem VRel.bool {b : Bool} {x : Value} (h : VRel ρ (.b b) x) : x = .bool b := by simpa [VRel] using h
theorem VRel.ptr {b o : Nat} {x : Value} (h : VRel ρ (.p b o) x) : ∃ r, ρ b = some r ∧ x = .pointer (some (r.a.add o)) := by simpa [VRel] using h
theorem VRel.agg {vs : List AV} {x : Value} (h : VRel ρ (.ag vs) x) : ∃ cs, x = .agg cs ∧ VRelL ρ vs cs.toList := by simpa [VRel] using h
theorem VRel.slc {es b o n : Nat} {c : Option Nat} {x : Value} (h : VRel ρ (.s es b o n c) x) : ∃ r o' c', ρ b = some r ∧ x = .slice (some (r.a.add o')) n c' ∧ n ≤ c' ∧ (∀ k, c = some k → c' = k) ∧ (n ≠ 0 → o' = o) ∧ (∀ m, r.room = some m → o' + c' * es ≤ m) := by simpa only [VRel] using h

theorem lenRel {v : AV} {x : Value} {n : Nat} (h : VRel ρ v x) (hn : lenA v = some n) : ∃ ad c, x = .slice ad n c := by
  cases v <;> simp [lenA] at hn <;> subst hn
  · simp only [VRel] at h; exact ⟨none, 0, h⟩
  · obtain ⟨r, o', c', _, e, _⟩ := h.slc; exact ⟨_, _, e⟩

theorem cells_spec (h : HRel C I ρ L0 w0 H w) {es m : Nat} {v : AV} {x : Value} (hv : VRel ρ v x) {us : List AV} (hc : cellsOf es m v H = some us) :
    ∃ xs : List Value, xs.length = m * es ∧ VRelL ρ us xs ∧ (∀ x ∈ xs, x.oneCell' = true) ∧ ∀ w2 : World, w2.heap = w.heap → (Builtin.firstCells es m x).run C.P w2 = .ok xs.toArray w2 := by
  cases v <;> simp only [cellsOf] at hc <;> try (cases hc; done)
  case nils =>
    split at hc
    · rename_i h0
      cases hc
      subst h0
      simp only [VRel] at hv
      subst hv
      exact ⟨[], by simp, by simp [VRelL], by simp, fun w2 _ => run_firstCells_none w2 es 0 0 0⟩
    · cases hc
  case s es' b o n c =>
    split at hc
    · rename_i hc1
      obtain ⟨hmn, rfl⟩ := hc1
      obtain ⟨r, o', c', hb, rfl, hnc, _, ho, _⟩ := hv.slc
      split at hc
      · rename_i h0
        cases hc
        subst h0
        exact ⟨[], by simp, by simp [VRelL], by simp, fun w2 _ => by simp [Builtin.firstCells, loadCells, loadCellsFrom]⟩
      · rename_i h0
        have ho' := ho (by omega)
        subst ho'
        obtain ⟨xs, h1, _, h3, h4, h5⟩ := cellsOfRel h hb hc
        exact ⟨xs, h1, h3, h4, fun w2 hw2 => run_firstCells_some w2 es' m (r.a.add o') n c' xs h1 fun j u hu' => by
          have := h5 j u hu'
          simpa [World.cell?, hw2] using this⟩
    · cases hc

theorem args1 {c : Array Operand} {x : AX} (h : prepXs nt c.toList = some [x]) : ∃ y, c = #[y] ∧ prepX nt y = some x := by
  obtain ⟨l⟩ := c
  match l with
  | [] => simp [prepXs] at h
  | [y] =>
    simp only [prepXs, Option.bind_eq_some_iff, Option.map_eq_some_iff, Option.some.injEq] at h
    obtain ⟨_, h1, _, rfl, e⟩ := h
    cases e
    exact ⟨y, rfl, h1⟩
  | y :: z :: l =>
    simp only [prepXs, Option.bind_eq_some_iff, Option.map_eq_some_iff] at h
    obtain ⟨_, _, _, ⟨_, _, _, _, rfl⟩, e⟩ := h
    simp at e
theorem args2 {c : Array Operand} {x x' : AX} (h : prepXs nt c.toList = some [x, x']) : ∃ y y', c = #[y, y'] ∧ prepX nt y = some x ∧ prepX nt y' = some x' := by
  obtain ⟨l⟩ := c
  match l with
  | [] => simp [prepXs] at h
  | [y] =>
    simp only [prepXs, Option.bind_eq_some_iff, Option.map_eq_some_iff, Option.some.injEq] at h
    obtain ⟨_, h1, _, rfl, e⟩ := h
    cases e
  | [y, z] =>
    simp only [prepXs, Option.bind_eq_some_iff, Option.map_eq_some_iff, Option.some.injEq] at h
    obtain ⟨_, h1, _, ⟨_, h2, _, rfl, rfl⟩, e⟩ := h
    cases e
    exact ⟨y, z, rfl, h1, h2⟩
  | y :: z :: u :: l =>
    simp only [prepXs, Option.bind_eq_some_iff, Option.map_eq_some_iff] at h
    obtain ⟨_, _, _, ⟨_, _, _, ⟨_, _, _, _, rfl⟩, rfl⟩, e⟩ := h
    simp at e
theorem argTy {ts : Array TypeId} {P : Program} {i : Nat} {d : TypeDesc} (h : (ts[i]?).bind P.underlying = some d) : ∃ t, ts[i]? = some t ∧ P.underlying t = some d := by
  simpa only [Option.bind_eq_some_iff] using h

theorem run_builtin (b : Builtin) (c : Call) (hc : c.callee = .builtin b) (o : Oper) (ho : o.op = .call c) (P : Program) :
    ∃ cs, ∀ w : World, (execOp am.eval o).run P w = (builtin b c.argTypes o.type cs (c.args.map am.eval)).run P w := by
  refine ⟨c.args.map fun | .const _ => true | _ => false, fun w => ?_⟩
  simp only [execOp, ho, resolve, hc, invoke, Sem.run_bind, Sem.run_pure, Result.andThen_ok]
  rfl

/-- append's own first argument's type alone counts -/
theorem append_types {ts : Array TypeId} {t tx ty : TypeId} (h0 : ts[0]? = some t) (h1 : ts[1]? = some tx) (args : Array Value) : Builtin.append_ ts ty args = Builtin.append_ #[t, tx] ty args := by
  unfold Builtin.append_
  rw [h0, h1]
  rfl

theorem simBuiltin (h : HRel C I ρ L0 w0 H w) (hf : FrRel ρ nt a am.tmps) (hlo : L0 ≤ lo) {b : Builtin} {c : Call} (hc : c.callee = .builtin b) {ao : AOp} (hp : prepOp C nt (.call c) = some ao) {v : AV} {H' : Heap} (hx : opA lo ao a H = some (v, H')) (o : Oper) (ho : o.op = .call c) :
    Gives C I ρ L0 w0 H w (execOp am.eval o) v H' := by
  obtain ⟨consts, run⟩ := run_builtin (am := am) b c hc o ho C.P
  obtain ⟨callee, cargs, cts⟩ := c
  simp only at hc
  subst hc
  simp only [prepOp, Option.bind_eq_some_iff] at hp
  obtain ⟨args, hargs, hp⟩ := hp
  have hal := evalXs hf hargs
  have pure1 : ∀ {x : Value} {s : Sem Value}, (∀ w, (execOp am.eval o).run C.P w = (do pure (.value (← s)) : Sem Next).run C.P w) → s.run C.P w = .ok x w → VRel ρ v x → H' = H → Gives C I ρ L0 w0 H w (execOp am.eval o) v H' := fun {x s} h1 h2 h3 h4 => by
    subst h4
    refine Gives.pure h (x := x) ?_ h3
    rw [h1 w]; simp [h2]
  cases b <;> simp only at hp <;> try (cases hp; done)
  case append =>
    split at hp
    · rename_i x y e u h0 h1
      obtain ⟨t, ht0, ht⟩ := argTy h0
      obtain ⟨tx, htx0, htx⟩ := argTy h1
      simp only [Option.bind_eq_some_iff] at hp
      obtain ⟨es, hes, by', hby, z, hz, hp⟩ := hp
      obtain ⟨sx, xx, rfl, hsx, hxx⟩ := args2 hargs
      obtain ⟨i, zv, hi, hzv, hzr⟩ := zeroA_spec hz
      have hsz : i.size = es := by simp only [sizeA, Option.map_eq_some_iff] at hes; obtain ⟨i', hi', rfl⟩ := hes; rw [hi] at hi'; cases hi'; rfl
      have hbz : i.bytes = by' := by simp only [bytesA, Option.map_eq_some_iff] at hby; obtain ⟨i', hi', rfl⟩ := hby; rw [hi] at hi'; cases hi'; rfl
      split at hp
      · cases hp
      · rename_i hcond
        have hb0 : by' ≠ 0 := fun e => hcond (.inl e)
        have hzl : z.length = es := by
          by_cases e : z.length = es
          · exact e
          · exact absurd (.inr e) hcond
        have hzrel : VRelL ρ z zv.cells.toList := toAVs_rel (fun v x e => (toAV1_rel e).1) hzr
        have hzs : zv.cells.size = i.size := by have := hzrel.length; simp at this; omega
        have hsv := evalX hsx hf
        have hxv := evalX hxx hf
        have fin : ∀ {m : Nat} {us : List AV} {news : List Value}, AppSrc C.P t tx e i (am.eval xx) m news w → VRelL ρ us news → appendA lo es by' (ev a x) us m H = some (v, H') → Gives C I ρ L0 w0 H w (execOp am.eval o) v H' := fun {m us news} hsrc hu hap => by
          obtain ⟨ρ', vm, w', hr, hv, hH, hEx⟩ := append_spec h hlo (ty := o.type) hsz hbz hb0 hsv hsrc hu hap
          refine Gives.val ρ' vm w' ?_ hv hH hEx
          rw [run w]
          simp only [builtin]
          rw [append_types ht0 htx0]
          simp [hr]
        split at hp
        · rename_i k
          cases hp
          simp only [opA] at hx
          split at hx
          · rename_i n hn
            rw [hn] at hxv
            have hxe := hxv.int
            split at hx
            · rename_i hc
              obtain ⟨hn0, hn1, hnb, _⟩ := hc
              rw [mostBytes_val] at hnb
              have hcast : ((n.toNat : Nat) : Int) = n := by omega
              have hone : ∀ u ∈ zv.cells.toList, u.oneCell' = true := hzrel.one (toAVs_one hzr)
              have hsrc := appSrc_zeros (P := C.P) (w := w) (tx := tx) (k := k) ht hi hzv hzs htx hone (kx := .i64) (m := n.toNat) (by omega) (by rw [hbz]; omega)
              rw [hcast, ← hxe] at hsrc
              refine fin hsrc ?_ hx
              have := reps_rel hzrel n.toNat (n.toNat * zv.cells.size) rfl
              simpa [Builtin.zeroCells] using this
            · cases hx
          · cases hx
        · rename_i e'
          cases hp
          simp only [opA] at hx
          split at hx
          · rename_i m hm
            split at hx
            · rename_i us hus
              obtain ⟨news, h1, h2, h3, h4⟩ := cells_spec h hxv hus
              obtain ⟨ad, cc, hxe⟩ := lenRel hxv hm
              refine fin (appSrc_slice ht hi hzv hzs ⟨.inl ⟨e', htx⟩, fun w' => by rw [hxe]; rfl, by rw [hsz]; exact h4 w rfl, by rw [hsz]; exact h4 w.drew rfl, by rw [hsz]; exact h1, h3⟩) h2 hx
            · cases hx
          · cases hx
        · cases hp
    · cases hp
  case cap =>
    split at hp
    · rename_i x e h0
      obtain ⟨t, ht0, ht⟩ := argTy h0
      obtain ⟨y, rfl, hy⟩ := args1 hargs
      cases hp
      have hv := evalX hy hf
      simp only [opA] at hx
      split at hx
      · rename_i e1
        cases hx
        rw [e1] at hv
        simp only [VRel] at hv
        exact pure1 (x := goInt 0) (s := Builtin.cap_ cts o.type (#[y].map am.eval)) (fun w => by rw [run w]; rfl) (by simp [Builtin.cap_, ht0, run_underlying ht, hv]) (by simp [VRel, goInt]) rfl
      · rename_i e1
        cases hx
        rw [e1] at hv
        obtain ⟨r, o', c', _, hxe, _, hck, _⟩ := hv.slc
        have := hck _ rfl
        subst this
        exact pure1 (x := goInt c') (s := Builtin.cap_ cts o.type (#[y].map am.eval)) (fun w => by rw [run w]; rfl) (by simp [Builtin.cap_, ht0, run_underlying ht, hxe]) (by simp [VRel, goInt]) rfl
      · cases hx
    · cases hp
  case copy =>
    split at hp
    · rename_i x y e h0
      obtain ⟨t, ht0, ht⟩ := argTy h0
      simp only [Option.map_eq_some_iff] at hp
      obtain ⟨es, hes, rfl⟩ := hp
      obtain ⟨dx, sx, rfl, hdx, hsx⟩ := args2 hargs
      have hdv := evalX hdx hf
      have hsv := evalX hsx hf
      simp only [opA] at hx
      split at hx
      · rename_i es' b off n c m hd hm
        rw [hd] at hdv
        obtain ⟨r, o', c', hb, hde, hnc, _, hoff, _⟩ := hdv.slc
        split at hx
        · cases hx
        · rename_i hes'
          have hes' : es' = es := by simpa using hes'
          subst hes'
          split at hx
          · rename_i us hus
            obtain ⟨xs, h1, h2, h3, h4⟩ := cells_spec h hsv hus
            obtain ⟨ad, cc, hse⟩ := lenRel hsv hm
            have hrun : ∀ w', (storeCells (r.a.add o') xs).run C.P w = .ok () w' → (execOp am.eval o).run C.P w = .ok (.value (goInt ((min m n : Nat) : Int))) w' := fun w' hw' => by
              rw [run w]
              have h4' := h4 w rfl
              rw [hse] at h4'
              have hmin : m.min n = min m n := rfl
              simp [builtin, Builtin.copy_, ht0, run_underlying ht, hde, hse, Builtin.lenOf, run_sizeOf' hes, hmin, h4', hw']
            split at hx
            · rename_i hnil
              cases hx
              subst hnil
              simp only [VRelL] at h2
              subst h2
              exact Gives.val ρ (goInt ((min m n : Nat) : Int)) w (hrun w (by simp [storeCells])) (by simp [VRel, goInt]) h (Ext.refl ..)
            · rename_i hne
              split at hx
              · rename_i h1s
                simp only [Option.map_eq_some_iff] at hx
                obtain ⟨H2, hH2, e2⟩ := hx
                cases e2
                unfold st at hH2
                split at hH2
                · rename_i hle
                  split at hH2
                  · rename_i vs hk
                    split at hH2
                    · rename_i hlen
                      cases hH2
                      have hn0 : n ≠ 0 := fun e => by
                        subst e
                        have : xs.length = 0 := by rw [h1]; simp
                        have := h2.length
                        exact hne (List.eq_nil_of_length_eq_zero (by omega))
                      have ho' := hoff hn0
                      subst ho'
                      obtain ⟨hH, hEx, hst⟩ := HRel.store (n := H.length) h hb (by omega) hk hlen h2 h3
                      exact Gives.val ρ (goInt ((min m n : Nat) : Int)) _ (hrun _ hst) (by simp [VRel, goInt]) hH hEx
                    · cases hH2
                  · cases hH2
                · cases hH2
              · cases hx
          · cases hx
      · rename_i m hd hm
        cases hx
        rw [hd] at hdv
        simp only [VRel] at hdv
        obtain ⟨ad, cc, hse⟩ := lenRel hsv hm
        refine pure1 (x := goInt 0) (s := Builtin.copy_ cts o.type (#[dx, sx].map am.eval)) (fun w => by rw [run w]; rfl) ?_ (by simp [VRel, goInt]) rfl
        cases ad <;> simp [Builtin.copy_, ht0, run_underlying ht, hdv, hse, Builtin.lenOf, run_sizeOf' hes, Builtin.firstCells, loadCells, loadCellsFrom]
      · cases hx
    · cases hp
  case len =>
    split at hp
    · rename_i x e h0
      obtain ⟨t, ht0, ht⟩ := argTy h0
      obtain ⟨y, rfl, hy⟩ := args1 hargs
      cases hp
      simp only [opA] at hx
      obtain ⟨n, hn, e1⟩ := Option.map_eq_some_iff.1 hx
      cases e1
      obtain ⟨ad, c, hxe⟩ := lenRel (evalX hy hf) hn
      exact pure1 (x := goInt n) (s := Builtin.len_ cts o.type (#[y].map am.eval)) (fun w => by rw [run w]; rfl) (by simp [Builtin.len_, ht0, run_underlying ht, hxe]) (by simp [VRel, goInt]) rfl
    · rename_i y n e h0
      obtain ⟨t, ht0, ht⟩ := argTy h0
      obtain ⟨y, rfl, hy⟩ := args1 hargs
      cases hp
      simp only [opA] at hx
      cases hx
      exact pure1 (x := goInt n) (s := Builtin.len_ cts o.type (#[y].map am.eval)) (fun w => by rw [run w]; rfl) (by simp [Builtin.len_, ht0, run_underlying ht]) (by simp [VRel, goInt]) rfl
    · cases hp
  case max =>
    split at hp
    · cases hp
    · cases hp
      simp only [opA] at hx
      split at hx
      · rename_i k x r e
        simp only [Option.map_eq_some_iff] at hx
        obtain ⟨n, hn, e1⟩ := hx
        cases e1
        rw [e] at hal
        simp only [VRelL, VRel] at hal
        obtain ⟨y, ys, hys, rfl, hr⟩ := hal
        refine pure1 (x := .int k n) (s := Builtin.max_ cts o.type (cargs.map am.eval)) (fun w => by rw [run w]; rfl) ?_ (by simp [VRel]) rfl
        have : (cargs.map am.eval).toList = .int k x :: ys := by simpa using hys
        simp only [Builtin.max_, this]
        exact foldMax_spec hr hn
      · cases hx
  case min =>
    split at hp
    · cases hp
    · cases hp
      simp only [opA] at hx
      split at hx
      · rename_i k x r e
        simp only [Option.map_eq_some_iff] at hx
        obtain ⟨n, hn, e1⟩ := hx
        cases e1
        rw [e] at hal
        simp only [VRelL, VRel] at hal
        obtain ⟨y, ys, hys, rfl, hr⟩ := hal
        refine pure1 (x := .int k n) (s := Builtin.min_ cts o.type (cargs.map am.eval)) (fun w => by rw [run w]; rfl) ?_ (by simp [VRel]) rfl
        have : (cargs.map am.eval).toList = .int k x :: ys := by simpa using hys
        simp only [Builtin.min_, this]
        exact foldMin_spec hr hn
      · cases hx
end
end Go.AM
