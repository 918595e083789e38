/- 'simOp': whatever operation without a call: the machine does what the abstract machine does. Condition: EqOk, on the comparison of aggregates. -/
import Derived.Test.YtflekaacffdakaaAmJ
import Derived.Laws.Cover3
import Derived.Laws.MakeOwn
namespace Go.AM
open Go Go.RowKit
section
variable {C : Cfg} {I : World → Prop} {ρ : Mp} {L0 : Nat} {w0 w : World} {H : Heap} {nt lo : Nat} {a : Fr} {am : Act}

theorem sizeA_info {t : TypeId} {n : Nat} (h : sizeA C.P t = some n) : ∃ i, C.P.info? t = some i ∧ i.size = n := by
  simpa only [sizeA, Option.map_eq_some_iff] using h
theorem VRel.intOf {k : IntKind} {n : Int} {x : Value} (h : VRel ρ (.int k n) x) : x = .int k n := h.int

def partA (sh : Option Nat) (vs : List AV) (off : Nat) : Option AV :=
  match sh with
  | none => vs[off]?
  | some n => if off + n ≤ vs.length then some (.ag ((vs.drop off).take n)) else none
theorem part_spec {t : TypeId} {sh : Option Nat} (hs : shapeA C.P t = some sh) {vs : List AV} {cs : Array Value} (hr : VRelL ρ vs cs.toList) {off : Nat} {v : AV}
    (hv : partA sh vs off = some v) : ∃ x, (part t cs off).run C.P w = .ok x w ∧ VRel ρ v x := by
  cases sh with
  | none =>
    simp only [partA] at hv
    obtain ⟨x, hx, hrx⟩ := hr.get hv
    refine ⟨x, ?_, hrx⟩
    have hx' : cs[off]? = some x := by simpa using hx
    simp [part, shapeA_none hs, hx']
  | some n =>
    simp only [partA] at hv
    split at hv
    · cases hv
      obtain ⟨h1, h2⟩ := shapeA_some hs w
      refine ⟨.agg (cs.extract off (off + n)), by simp [part, h1, run_sizeOf' h2], ?_⟩
      simp only [VRel]
      refine ⟨_, rfl, ?_⟩
      have : (cs.extract off (off + n)).toList = (cs.toList.drop off).take n := by simp [Array.toList_extract]
      rw [this]
      exact (hr.drop off).take n
    · cases hv

theorem run_equalIn_nils {t e : TypeId} (ht : C.P.underlying t = some (.slice e)) (d : Nat) {p q : Option Addr} {l1 c1 l2 c2 : Nat} (hn : p = none ∨ q = none) :
    (Op.equalIn (d + 1) t (.slice p l1 c1) (.slice q l2 c2)).run C.P w = .ok (p.isNone && q.isNone) w := by
  rcases hn with rfl | rfl
  · cases q <;> simp [Op.equalIn, run_underlying ht]
  · cases p <;> simp [Op.equalIn, run_underlying ht]
theorem run_equal_nils {t e : TypeId} (ht : C.P.underlying t = some (.slice e)) {p q : Option Addr} {l1 c1 l2 c2 : Nat} (hn : p = none ∨ q = none) :
    (Op.equal t (.slice p l1 c1) (.slice q l2 c2)).run C.P w = .ok (p.isNone && q.isNone) w := run_equalIn_nils ht 9999 hn
theorem run_seq_nil {t e : TypeId} (ht : C.P.underlying t = some (.slice e)) (neg : Bool) {p q : Option Addr} {l1 c1 l2 c2 : Nat} (hn : p = none ∨ q = none) {xo yo : Operand} :
    (do eqGuard (if neg then .neq else .eql) t xo yo (.slice p l1 c1) (.slice q l2 c2); binOp (if neg then .neq else .eql) t (.slice p l1 c1) (.slice q l2 c2) : Sem Value).run C.P w = .ok (.bool ((p.isNone && q.isNone) != neg)) w := by
  have := run_equal_nils (w := w) ht (p := p) (q := q) (l1 := l1) (c1 := c1) (l2 := l2) (c2 := c2) hn
  cases neg
  · simp only [Bool.false_eq_true, if_false, binOp]
    simp [eqGuard, this]
  · simp only [if_true, binOp]
    simp [eqGuard, this]

theorem prepO_isSome {y : Option Operand} {z : Option AX} (e : prepO nt y = some z) : y.isSome = z.isSome := by
  cases y with
  | none => simp [prepO] at e; subst e; rfl
  | some y => simp only [prepO, Option.map_eq_some_iff] at e; obtain ⟨_, _, rfl⟩ := e; rfl

theorem simBin (h : HRel C I ρ L0 w0 H w) (hf : FrRel ρ nt a am.tmps) (hEq : EqOk C) {op : BinOp} {t : TypeId} {x y : Operand} {fused : TypeId} {ao : AOp} (hp : prepOp C nt (.binOp op t x y fused) = some ao) {v : AV} {H' : Heap} (hx : opA lo ao a H = some (v, H')) (o : Oper) (ho : o.op = .binOp op t x y fused) :
    Gives C I ρ L0 w0 H w (execOp am.eval o) v H' := by
  have pure1 : ∀ {x : Value} {s : Sem Value}, (execOp am.eval o) = (do pure (.value (← s)) : Sem Next) → s.run C.P w = .ok x w → VRel ρ v x → H' = H → Gives C I ρ L0 w0 H w (execOp am.eval o) v H' := fun {x s} h1 h2 h3 h4 => by
    subst h4
    refine Gives.pure h (x := x) ?_ h3
    rw [h1]; simp [h2]
  simp only [prepOp] at hp
  simp only [Option.bind_eq_some_iff] at hp
  obtain ⟨x', hx', y', hy', hp⟩ := hp
  have hxv := evalX hx' hf
  have hyv := evalX hy' hf
  have hE : execOp am.eval o = (do pure (.value (← (do eqGuard op t x y (am.eval x) (am.eval y); binOp op t (am.eval x) (am.eval y)))) : Sem Next) := by rw [execOp, ho]
  split at hp
  · cases hp
    simp only [opA] at hx
    obtain ⟨u, hu, e⟩ := Option.map_eq_some_iff.1 hx
    cases e
    obtain ⟨vm, h1, h2⟩ := binA_spec (C := C) (t := t) (xo := x) (yo := y) hxv hyv hu w
    exact pure1 hE h1 h2 rfl
  · rename_i ht
    split at hp
    · cases hp
      simp only [opA] at hx
      split at hx
      · rename_i p q e1 e2
        cases hx
        rw [e1] at hxv; rw [e2] at hyv
        refine pure1 hE (x := .bool ((p == q) != false)) ?_ (by simp [VRel]) rfl
        rw [hxv.bool, hyv.bool]
        simp [eqGuard, run_eql_bool w t p q ht]
      · cases hx
    · cases hp
      simp only [opA] at hx
      split at hx
      · rename_i p q e1 e2
        cases hx
        rw [e1] at hxv; rw [e2] at hyv
        refine pure1 hE (x := .bool ((p == q) != true)) ?_ (by simp [VRel]) rfl
        rw [hxv.bool, hyv.bool]
        simp [eqGuard, run_neq_bool w t p q ht]
      · cases hx
    · cases hp
  · rename_i e ht
    have key : ∀ (neg : Bool), (op = if neg then .neq else .eql) → opA lo (.seq neg x' y') a H = some (v, H') → Gives C I ρ L0 w0 H w (execOp am.eval o) v H' := fun neg hop hx => by
      simp only [opA] at hx
      have go : ∀ (p q : Option Addr) (l1 c1 l2 c2 : Nat), am.eval x = .slice p l1 c1 → am.eval y = .slice q l2 c2 → (p = none ∨ q = none) → v = .b ((p.isNone && q.isNone) != neg) → H' = H → Gives C I ρ L0 w0 H w (execOp am.eval o) v H' := fun p q l1 c1 l2 c2 e1 e2 hn hv hH => by
        subst hv
        refine pure1 hE (x := .bool ((p.isNone && q.isNone) != neg)) ?_ (by simp [VRel]) hH
        rw [e1, e2]
        rw [hop]
        exact run_seq_nil ht neg hn
      split at hx
      · rename_i e1 e2
        cases hx
        rw [e1] at hxv; rw [e2] at hyv
        simp only [VRel] at hxv hyv
        exact go none none 0 0 0 0 hxv hyv (.inl rfl) (by simp) rfl
      · rename_i e1 e2
        cases hx
        rw [e1] at hxv; rw [e2] at hyv
        simp only [VRel] at hxv
        obtain ⟨r, o', c', _, e3, _⟩ := hyv.slc
        exact go none _ 0 0 _ _ hxv e3 (.inl rfl) (by simp) rfl
      · rename_i e1 e2
        cases hx
        rw [e1] at hxv; rw [e2] at hyv
        simp only [VRel] at hyv
        obtain ⟨r, o', c', _, e3, _⟩ := hxv.slc
        exact go _ none _ _ 0 0 e3 hyv (.inr rfl) (by simp) rfl
      · cases hx
    split at hp
    · cases hp; exact key false rfl hx
    · cases hp; exact key true rfl hx
    · cases hp
  · obtain ⟨n, hn, hp⟩ := Option.bind_eq_some_iff.1 hp
    have key : ∀ (neg : Bool), (op = if neg then .neq else .eql) → opA lo (.aeq neg n x' y') a H = some (v, H') → Gives C I ρ L0 w0 H w (execOp am.eval o) v H' := fun neg hop hx => by
      simp only [opA] at hx
      split at hx
      · rename_i xs ys e1 e2
        split at hx
        · rename_i hl
          obtain ⟨r, hr, e⟩ := Option.map_eq_some_iff.1 hx
          cases e
          obtain ⟨ms, ns, rfl, rfl, rfl, _⟩ := eqInts_spec hr
          rw [e1] at hxv; rw [e2] at hyv
          obtain ⟨cs, hcs, r1⟩ := hxv.agg
          obtain ⟨ds, hds, r2⟩ := hyv.agg
          have hc1 := intsRel r1
          have hd1 := intsRel r2
          have hc : cs = ints ms := by apply Array.ext'; simpa [ints] using hc1
          have hd : ds = ints ns := by apply Array.ext'; simpa [ints] using hd1
          refine pure1 hE (x := .bool ((ms == ns) != neg)) ?_ (by simp [VRel]) rfl
          rw [hcs, hds, hc, hd, hop]
          simp only [List.length_map] at hl
          exact hEq t n hn ms ns hl.1 hl.2 neg x y w
        · cases hx
      · cases hx
    split at hp
    · cases hp; exact key false rfl hx
    · cases hp; exact key true rfl hx
    · cases hp

theorem simOp (h : HRel C I ρ L0 w0 H w) (hf : FrRel ρ nt a am.tmps) (hlo : L0 ≤ lo) (hEq : EqOk C) {op : Op} {ao : AOp} (hp : prepOp C nt op = some ao) {v : AV} {H' : Heap} (hx : opA lo ao a H = some (v, H')) (o : Oper) (ho : o.op = op) :
    Gives C I ρ L0 w0 H w (execOp am.eval o) v H' := by
  have pure1 : ∀ {x : Value} {s : Sem Value}, (execOp am.eval o) = (do pure (.value (← s)) : Sem Next) → s.run C.P w = .ok x w → VRel ρ v x → H' = H → Gives C I ρ L0 w0 H w (execOp am.eval o) v H' := fun {x s} h1 h2 h3 h4 => by
    subst h4
    refine Gives.pure h (x := x) ?_ h3
    rw [h1]; simp [h2]
  cases op <;> simp only [prepOp] at hp <;> try (cases hp; done)
  case move x =>
    obtain ⟨y, hy, rfl⟩ := Option.map_eq_some_iff.1 hp
    simp only [opA] at hx
    cases hx
    exact Gives.pure h (by rw [execOp, ho]; simp) (evalX hy hf)
  case assign x =>
    obtain ⟨y, hy, rfl⟩ := Option.map_eq_some_iff.1 hp
    simp only [opA] at hx
    cases hx
    exact Gives.pure h (by rw [execOp, ho]; simp) (evalX hy hf)
  case pick c x y =>
    simp only [Option.bind_eq_some_iff, Option.map_eq_some_iff] at hp
    obtain ⟨c', hc, x', hx', y', hy, rfl⟩ := hp
    simp only [opA] at hx
    split at hx
    · rename_i e; cases hx
      have := evalX hc hf
      rw [e] at this
      exact Gives.pure h (by rw [execOp, ho]; simp [asBool, this.bool]) (evalX hx' hf)
    · rename_i e; cases hx
      have := evalX hc hf
      rw [e] at this
      exact Gives.pure h (by rw [execOp, ho]; simp [asBool, this.bool]) (evalX hy hf)
    · cases hx
  case alloc t =>
    obtain ⟨z, hz, rfl⟩ := Option.map_eq_some_iff.1 hp
    simp only [opA] at hx
    cases hx
    have := gives_alloc h hz
    rw [execOp, ho]; exact this
  case box t x =>
    obtain ⟨y, hy, rfl⟩ := Option.map_eq_some_iff.1 hp
    simp only [opA] at hx
    split at hx
    · rename_i h1
      cases hx
      have := gives_box h (t := t) (evalX hy hf) h1
      rw [execOp, ho]; exact this
    · cases hx
  case build t ps =>
    have := gives_build h hf (t := t) (parts := ps) (by simpa only [prepOp] using hp) hx
    rw [execOp, ho]; exact this
  case buildSlice t len ps =>
    have := gives_bslice h hf (t := t) (len := len) (parts := ps) (by simpa only [prepOp] using hp) hx
    rw [execOp, ho]; exact this
  case load t x =>
    simp only [Option.bind_eq_some_iff, Option.map_eq_some_iff] at hp
    obtain ⟨n, hn, y, hy, rfl⟩ := hp
    simp only [opA] at hx
    have hy' := evalX hy hf
    split at hx
    · rename_i b o' e
      rw [e] at hy'
      obtain ⟨r, hr, hxe⟩ := hy'.ptr
      obtain ⟨u, hu, e2⟩ := Option.map_eq_some_iff.1 hx
      cases e2
      obtain ⟨xv, h1, h2⟩ := load_spec h hn hr (v := v) hu
      exact pure1 (by rw [execOp, ho]) (by rw [hxe]; simp [Instr.loadAt, Instr.sureAddr, h1]) h2 rfl
    · rename_i b o' m e
      rw [e] at hy'
      obtain ⟨r, hr, hxe⟩ := hy'.ptr
      obtain ⟨u, hu, e2⟩ := Option.map_eq_some_iff.1 hx
      cases e2
      obtain ⟨xv, h1, h2⟩ := load_spec (o := o') h hn hr (v := .ag u) (by simp [hu])
      exact pure1 (by rw [execOp, ho]) (by rw [hxe]; simp [Instr.loadAt, Instr.sureAddr, h1]) h2 rfl
    · cases hx
  case store t p x =>
    simp only [Option.bind_eq_some_iff, Option.map_eq_some_iff] at hp
    obtain ⟨n, hn, q, hq, y, hy, rfl⟩ := hp
    simp only [opA] at hx
    split at hx
    · rename_i b o' e
      split at hx
      · rename_i hc
        obtain ⟨hc1, hc2⟩ := hc
        obtain ⟨H2, hH2, e2⟩ := Option.map_eq_some_iff.1 hx
        cases e2
        have hq' := evalX hq hf
        rw [e] at hq'
        obtain ⟨r, hr, hpe⟩ := hq'.ptr
        obtain ⟨w', h1, h2, h3⟩ := storeVar_spec h hn hr hlo (evalX hy hf) hc1 hc2 hH2
        exact ⟨ρ, .skip, undef, w', by rw [execOp, ho]; simp [hpe, Instr.storeAt, Instr.sureAddr, h1], .inr ⟨rfl, rfl⟩, by simp only [VRel, undef]; exact ⟨#[], rfl, by simp [VRelL]⟩, h2, h3⟩
      · cases hx
    · cases hx
  case binOp op t x y fused => exact simBin h hf hEq (by simpa only [prepOp] using hp) hx o ho
  case unOp op t x =>
    obtain ⟨y, hy, rfl⟩ := Option.map_eq_some_iff.1 hp
    simp only [opA] at hx
    obtain ⟨u, hu, e⟩ := Option.map_eq_some_iff.1 hx
    cases e
    obtain ⟨vm, h1, h2⟩ := unA_spec (C := C) (evalX hy hf) hu w
    exact pure1 (by rw [execOp, ho]) h1 h2 rfl
  case convert src dst x =>
    split at hp
    · rename_i ds k hs hd
      obtain ⟨y, hy, rfl⟩ := Option.map_eq_some_iff.1 hp
      simp only [opA] at hx
      split at hx
      · rename_i k' n e
        cases hx
        have := evalX hy hf
        rw [e] at this
        exact pure1 (x := .int k (k.wrap n)) (by rw [execOp, ho]) (by rw [this.int]; simp [convert, run_underlying hs, run_underlying hd, Conv.intToInt]) (by simp [VRel]) rfl
      · cases hx
    · cases hp
  case makeFunc fn first caps =>
    split at hp
    · rename_i f
      obtain ⟨us, hus, hp2⟩ := Option.bind_eq_some_iff.1 hp
      obtain ⟨l, hl, rfl⟩ := Option.map_eq_some_iff.1 hp2
      simp only [opA] at hx
      cases hx
      refine Gives.pure h (x := .func (.func f) (first.map am.eval) (caps.map am.eval)) (by rw [execOp, ho]; simp [Instr.makeFunc]) ?_
      simp only [VRel]
      exact ⟨_, _, rfl, by simpa using evalXs hf hus, by simpa using evalXs hf hl⟩
    · cases hp
  case makeSlice t l c =>
    split at hp
    · rename_i e ht
      simp only [Option.bind_eq_some_iff] at hp
      obtain ⟨es, hes, by', hby, z, hz, hp⟩ := hp
      split at hp
      · rename_i hsame
        obtain ⟨y, hy, rfl⟩ := Option.map_eq_some_iff.1 hp
        simp only [opA] at hx
        split at hx
        · rename_i n en
          split at hx
          · rename_i hc
            obtain ⟨hn0, hnb, hn1, hzl⟩ := hc
            cases hx
            have hlc : l = c := by
              unfold sameX at hsame
              split at hsame
              · rename_i i j; have : i = j := by simpa using hsame
                rw [this]
              · cases hsame
            subst hlc
            have hyv := evalX hy hf
            rw [en] at hyv
            obtain ⟨i, zv, hi, hzv, hzr⟩ := zeroA_spec hz
            have hsz : i.size = es := by obtain ⟨i', hi', rfl⟩ := sizeA_info hes; rw [hi] at hi'; cases hi'; rfl
            have hbz : i.bytes = by' := by simp only [bytesA, Option.map_eq_some_iff] at hby; obtain ⟨i', hi', rfl⟩ := hby; rw [hi] at hi'; cases hi'; rfl
            have hzrel : VRelL ρ z zv.cells.toList := toAVs_rel (fun v x e => (toAV1_rel e).1) hzr
            have hzs : zv.cells.size = i.size := by have := hzrel.length; simp at this; omega
            rw [mostBytes_val] at hnb
            have hb : (i.bytes : Int) * n ≤ 281474976710656 := by
              have : ((n.toNat * by' : Nat) : Int) ≤ 1099511627776 := Int.ofNat_le.2 hnb
              rw [Int.natCast_mul, Int.toNat_of_nonneg hn0, Int.mul_comm] at this
              rw [hbz]; omega
            have hrun := run_make (P := C.P) w t e i zv ht hi hzv .i64 .i64 n n hn0 (Int.le_refl _) hb (by omega)
            have hrel : VRelL ρ (reps n.toNat z) (madeCells zv.cells (n.toNat * i.size)).toList := reps_rel hzrel n.toNat _ (by rw [hzs])
            obtain ⟨ρ', e1, hH, hE⟩ := newCellsL h e hrel (reps_all (toAVs_one hzr) _)
            refine Gives.val ρ' _ _ (by rw [execOp, ho]; simp only [hyv.int, Sem.run_bind, hrun, Result.andThen_ok, Sem.run_pure]; rfl) ?_ hH hE
            simp only [VRel]
            refine ⟨_, 0, n.toNat, e1, rfl, Nat.le_refl _, fun k e => by cases e; rfl, fun _ => rfl, fun m hm => ?_⟩
            simp only [Option.some.injEq] at hm
            rw [← hm, size_madeCells, hsz]
            omega
          · cases hx
        · cases hx
      · cases hp
    · cases hp
  case slice t x l hi mx =>
    split at hp
    · rename_i e ht
      simp only [Option.bind_eq_some_iff] at hp
      obtain ⟨es, hes, x', hx', l', hl', h', hh', m', hm', hp⟩ := hp
      split at hp
      · cases hp
      · rename_i hc
        cases hp
        obtain ⟨vm, h1, h2, h3⟩ := slice_spec (C := C) (w := w) hf ht hes hx' hl' hh' hm' hc hx
        exact pure1 (by rw [execOp, ho]) h1 h2 h3
    · rename_i n e ht
      simp only [Option.bind_eq_some_iff] at hp
      obtain ⟨es, hes, x', hx', l', hl', h', hh', hp⟩ := hp
      split at hp
      · cases hp
      · rename_i hc
        cases hp
        have hmx : mx = none := by cases mx <;> simp_all
        subst hmx
        simp only [opA] at hx
        split at hx
        · rename_i b o' ex
          split at hx
          · rename_i hv ehv
            split at hx
            · rename_i lv elv
              split at hx
              · rename_i cs ecs
                split at hx
                · rename_i hcond
                  obtain ⟨hc1, hc2, hc3⟩ := hcond
                  cases hx
                  subst hc1
                  have hxv := evalX hx' hf
                  rw [ex] at hxv
                  obtain ⟨r, hr, hxe⟩ := hxv.ptr
                  have hhn : hv ≤ n := by
                    rcases bound_spec hh' hf ehv with ⟨_, _, rfl, h2⟩ | ⟨_, _, i, _, _, h1, h2, h3, _⟩ <;> omega
                  have hlh : lv ≤ hv := by
                    rcases bound_spec hl' hf elv with ⟨_, _, rfl, h2⟩ | ⟨_, _, i, _, _, h1, h2, h3, _⟩ <;> omega
                  have hb := sliceBounds_spec (C := C) (w := w) (mx' := none) (mx := none) (m := n) hf hl' hh' (by rfl) false (len := n) (cap := n) (mostm := n) (by simp [boundA]) (fun e => by simp at e) ehv (by simpa using hhn) elv (fun e => by simp at e)
                  refine pure1 (x := .slice (some (if n = lv then r.a.add o' else (r.a.add o').add (lv * 1))) (hv - lv) (n - lv)) (by rw [execOp, ho]) ?_ ?_ rfl
                  · rw [hxe]
                    simp only [Option.isSome_none, Bool.false_eq_true, if_false, Option.map_none] at hb
                    simp [Instr.sliceAt, run_underlying ht, Instr.sureAddr, hb, run_sizeOf' hes]
                  · obtain ⟨_, hB2, _⟩ := h.blk b r _ hr ecs
                    obtain ⟨cs', t', m, _, hm, hvm, _⟩ := hB2 (by omega)
                    simp only [VRel]
                    by_cases hnl : n = lv
                    · exact ⟨r, o', n - lv, hr, by rw [if_pos hnl], by omega, fun k e => by cases e; rfl, fun e => by omega, fun q hq => by rw [hm] at hq; cases hq; omega⟩
                    · exact ⟨r, o' + lv, n - lv, hr, by rw [if_neg hnl, Addr.add_add, Nat.mul_one], by omega, fun k e => by cases e; rfl, fun _ => rfl, fun q hq => by rw [hm] at hq; cases hq; omega⟩
                · cases hx
              · cases hx
            · cases hx
          · cases hx
        · cases hx
    · cases hp
  case fieldAddr t x f =>
    split at hp
    · rename_i fs ht
      simp only [Option.bind_eq_some_iff] at hp
      obtain ⟨fd, hfd, n, hn, hp⟩ := hp
      split at hp
      · cases hp
      · rename_i hn0
        obtain ⟨y, hy, rfl⟩ := Option.map_eq_some_iff.1 hp
        simp only [opA] at hx
        split at hx
        · rename_i b o' e
          cases hx
          have hyv := evalX hy hf
          rw [e] at hyv
          obtain ⟨r, hr, hxe⟩ := hyv.ptr
          refine pure1 (x := .pointer (some (r.a.add (o' + fd.offset)))) (by rw [execOp, ho]) ?_ (by simp only [VRel]; exact ⟨r, hr, rfl⟩) rfl
          rw [hxe]
          simp [Instr.fieldAt, run_underlying ht, hfd, Instr.sureAddr, fieldPlace, run_sizeOf' hn, hn0, Addr.add_add]
        · cases hx
    · cases hp
  case field t x f =>
    split at hp
    · rename_i fs ht
      simp only [Option.bind_eq_some_iff] at hp
      obtain ⟨fd, hfd, n, hn, hp⟩ := hp
      obtain ⟨y, hy, rfl⟩ := Option.map_eq_some_iff.1 hp
      have hyv := evalX hy hf
      simp only [opA] at hx
      have fin : ∀ vs, ev a y = .ag vs → partA n vs fd.offset = some v → H' = H → Gives C I ρ L0 w0 H w (execOp am.eval o) v H' := fun vs e hv hH => by
        rw [e] at hyv
        obtain ⟨cs, hxe, hr⟩ := hyv.agg
        obtain ⟨xv, h1, h2⟩ := part_spec (C := C) (w := w) hn hr hv
        exact pure1 (by rw [execOp, ho]) (by rw [hxe]; simp [Instr.field, run_underlying ht, hfd, asAgg, h1]) h2 hH
      split at hx
      · rename_i vs e
        obtain ⟨u, hu, e2⟩ := Option.map_eq_some_iff.1 hx
        cases e2
        exact fin vs e (by simpa [partA] using hu) rfl
      · rename_i vs m e
        split at hx
        · rename_i hle
          cases hx
          exact fin vs e (by simp [partA, hle]) rfl
        · cases hx
      · cases hx
    · cases hp
  case indexAddr t x i =>
    split at hp
    · rename_i e ht
      simp only [Option.bind_eq_some_iff] at hp
      obtain ⟨es, hes, x', hx', hp⟩ := hp
      obtain ⟨i', hi', rfl⟩ := Option.map_eq_some_iff.1 hp
      simp only [opA] at hx
      split at hx
      · rename_i es' b o' n c k j ex ei
        split at hx
        · rename_i hc
          obtain ⟨hc1, hc2, rfl⟩ := hc
          cases hx
          have hxv := evalX hx' hf
          have hiv := evalX hi' hf
          rw [ex] at hxv; rw [ei] at hiv
          obtain ⟨r, o2, c', hr, hxe, _, _, ho2, _⟩ := hxv.slc
          have ho2' := ho2 (by omega)
          subst ho2'
          refine pure1 (x := .pointer (some (r.a.add (o2 + j.toNat * es')))) (by rw [execOp, ho]) ?_ (by simp only [VRel]; exact ⟨r, hr, rfl⟩) rfl
          rw [hxe, hiv.int]
          simp [Instr.indexAt, asIntOf, run_underlying ht, run_sizeOf' hes, Addr.add_add, hc1, hc2]
        · cases hx
      · cases hx
    · rename_i n e ht
      simp only [Option.bind_eq_some_iff] at hp
      obtain ⟨es, hes, x', hx', hp⟩ := hp
      obtain ⟨i', hi', rfl⟩ := Option.map_eq_some_iff.1 hp
      simp only [opA] at hx
      split at hx
      · rename_i b o' k j ex ei
        split at hx
        · rename_i hc
          obtain ⟨hc1, hc2⟩ := hc
          cases hx
          have hxv := evalX hx' hf
          have hiv := evalX hi' hf
          rw [ex] at hxv; rw [ei] at hiv
          obtain ⟨r, hr, hxe⟩ := hxv.ptr
          refine pure1 (x := .pointer (some (r.a.add (o' + j.toNat * es)))) (by rw [execOp, ho]) ?_ (by simp only [VRel]; exact ⟨r, hr, rfl⟩) rfl
          rw [hxe, hiv.int]
          simp [Instr.indexAt, asIntOf, run_underlying ht, run_sizeOf' hes, Instr.sureAddr, Addr.add_add, hc1, hc2]
        · cases hx
      · cases hx
    · cases hp
  case index t x i =>
    split at hp
    · rename_i n e ht
      simp only [Option.bind_eq_some_iff] at hp
      obtain ⟨es, hes, sh, hsh, x', hx', hp⟩ := hp
      obtain ⟨i', hi', rfl⟩ := Option.map_eq_some_iff.1 hp
      simp only [opA] at hx
      split at hx
      · rename_i vs k j ex ei
        split at hx
        · rename_i hc
          obtain ⟨hc1, hc2⟩ := hc
          have hxv := evalX hx' hf
          have hiv := evalX hi' hf
          rw [ex] at hxv; rw [ei] at hiv
          obtain ⟨cs, hxe, hr⟩ := hxv.agg
          have fin : partA sh vs (j.toNat * es) = some v → H' = H → Gives C I ρ L0 w0 H w (execOp am.eval o) v H' := fun hv hH => by
            obtain ⟨xv, h1, h2⟩ := part_spec (C := C) (w := w) hsh hr hv
            exact pure1 (by rw [execOp, ho]) (by rw [hxe, hiv.int]; simp [Instr.index, asIntOf, run_underlying ht, run_sizeOf' hes, hc1, hc2, h1]) h2 hH
          cases sh with
          | none =>
            simp only [Option.isSome_none, Bool.false_eq_true, if_false] at hx
            obtain ⟨u, hu, e2⟩ := Option.map_eq_some_iff.1 hx
            cases e2
            exact fin (by simpa [partA] using hu) rfl
          | some m =>
            obtain ⟨_, hm⟩ := shapeA_some hsh w
            have : m = es := by rw [hm] at hes; cases hes; rfl
            subst this
            simp only [Option.isSome_some, if_true] at hx
            split at hx
            · rename_i hle
              cases hx
              exact fin (by simp [partA, hle]) rfl
            · cases hx
        · cases hx
      · cases hx
    · cases hp
  case extract x i =>
    obtain ⟨y, hy, rfl⟩ := Option.map_eq_some_iff.1 hp
    simp only [opA] at hx
    split at hx
    · rename_i vs e
      obtain ⟨u, hu, e2⟩ := Option.map_eq_some_iff.1 hx
      cases e2
      have hyv := evalX hy hf
      rw [e] at hyv
      simp only [VRel] at hyv
      obtain ⟨cs, hxe, hr⟩ := hyv
      obtain ⟨xv, h1, h2⟩ := hr.get hu
      have h1' : cs[i]? = some xv := by simpa using h1
      exact pure1 (by rw [execOp, ho]) (by rw [hxe]; simp [Instr.extract, h1']) h2 rfl
    · cases hx
  case nilCheck x =>
    obtain ⟨y, hy, rfl⟩ := Option.map_eq_some_iff.1 hp
    simp only [opA] at hx
    have hyv := evalX hy hf
    split at hx
    · rename_i b o' e
      cases hx
      rw [e] at hyv
      obtain ⟨r, hr, hxe⟩ := hyv.ptr
      exact Gives.pure h (x := .pointer (some (r.a.add o'))) (by rw [execOp, ho]; simp [hxe]) (by simp only [VRel]; exact ⟨r, hr, rfl⟩)
    · rename_i f u c e
      cases hx
      rw [e] at hyv
      simp only [VRel] at hyv
      obtain ⟨ds, cs, hxe, hr⟩ := hyv
      exact Gives.pure h (x := .func (.func f) ds cs) (by rw [execOp, ho]; simp [hxe]) (by simp only [VRel]; exact ⟨ds, cs, rfl, hr⟩)
    · rename_i l e
      cases hx
      rw [e] at hyv
      simp only [VRel] at hyv
      obtain ⟨r, hr, hxe⟩ := hyv
      exact Gives.pure h (x := .func (.yield r.a.block) #[] #[]) (by rw [execOp, ho]; simp [hxe]) (by simp only [VRel]; exact ⟨r, hr, rfl⟩)
    · cases hx
  case call c =>
    cases hcal : c.callee with
    | builtin b => exact simBuiltin h hf hlo hcal (by simpa only [prepOp] using hp) hx o ho
    | value f =>
      rw [hcal] at hp
      simp only [Option.bind_eq_some_iff] at hp
      obtain ⟨args, _, hp⟩ := hp
      cases f <;> simp only at hp <;> first
        | (cases hp; simp [opA] at hx; done)
        | (obtain ⟨_, _, rfl⟩ := Option.map_eq_some_iff.1 hp; simp [opA] at hx)
    | _ => rw [hcal] at hp; simp at hp
  case panic x => cases hp; simp [opA] at hx
  case makeInterface t x => cases hp; simp [opA] at hx
end
end Go.AM
