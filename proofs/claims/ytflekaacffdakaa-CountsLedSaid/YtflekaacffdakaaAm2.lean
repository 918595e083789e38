/- The abstract machine: calls, rounds, drawn regions; what it says is so; rules without fuel. No condition. -/
import Derived.Test.YtflekaacffdakaaAm1
import Derived.RangeFuncIn
import Derived.RangeFuncLeaves
set_option linter.unusedSimpArgs false
set_option linter.unusedVariables false
namespace Go.AM
open Go Go.RowKit

def FnOk (C : Cfg) (f : Nat) (af : AFunc) : Prop := ∃ fn, C.P.funcs[f]? = some fn ∧ prepF C fn = some af
def Enters' (P : Program) (f : Nat) : Prop := ∀ args w, (callFunc f args).run P w = .ok (.enter f args) w

/-- one call, among callers cs, comes back with x -/
def Rets (P : Program) (f : Nat) (args : Array Value) (cs : List Frame) (w : World) (x : Value) (w' : World) : Prop :=
  ∃ fr, Steps P (lone (Frame.enter P f args .normal) cs w) (lone fr cs w') ∧ fr.fn = f ∧ fr.leaving P w' (.returned x)

def PrimOk (C : Cfg) (I : World → Prop) : Prop := ∀ f g, C.kd f = .prim g → Enters' C.P f ∧
  ∀ (vs : List AV) (v : AV) (args : Array Value) (w : World), g vs = some v → VRelL (fun _ => none) vs args.toList → I w → ∀ cs, ∃ x w', Rets C.P f args cs w x w' ∧ VRel (fun _ => none) v x ∧ Below w.heap.size w w'

/-- what is to be known of the function that takes elements out -/
def DelOk (C : Cfg) : Prop := ∀ f, C.kd f = .del → Enters' C.P f ∧
  ∀ (blk off cap i j : Nat) (zs : List Int) (w : World), (∀ k (h : k < zs.length), w.cell? ⟨blk, off + k, none⟩ = some (.int .i64 zs[k]) ∧ w.frozen? ⟨blk, off + k, none⟩ = false) → zs.length ≤ cap → cap ≤ 9223372036854775807 → i ≤ j → j ≤ zs.length →
    ∀ cs, ∃ w1 : World, Rets C.P f #[.slice (some ⟨blk, off, none⟩) zs.length cap, .int .i64 i, .int .i64 j] cs w (.slice (some ⟨blk, off, none⟩) (zs.length - (j - i)) cap) (w1.setCells blk off ((zs.take i ++ zs.drop j ++ List.replicate (j - i) 0).map (Value.int .i64))) ∧
      w1.heap = w.heap ∧ w1.os = w.os ∧ w1.tape = w.tape ∧ w1.output = w.output

structure EOk (C : Cfg) (I : World → Prop) (E : Tab) : Prop where
  kd : E.kd = C.kd
  fn : ∀ f af, E.fn f = some af → FnOk C f af
  prim : PrimOk C I
  del : DelOk C
  stable : Stable I
  eq : EqOk C
  key : KeyOk C
  mixed : C.P.follows .mixedOrders = true

theorem FnOk.enters {C : Cfg} {f : Nat} {af : AFunc} (h : FnOk C f af) : Enters' C.P f := by
  obtain ⟨fn, hf, hp⟩ := h
  unfold prepF at hp
  split at hp
  · cases hp
  · rename_i c hb
    split at hp
    · rename_i hc
      intro args w
      have h1 : fn.name ≠ "runtime.NumGoroutine" := hc.2
      simp [callFunc, hf, h1, hb, mark]
    · cases hp

/-! ### Items -/
def ItemRel (C : Cfg) (nt : Nat) : AI → Item → Prop
  | .code c, .code cm => prepC C nt cm = some c
  | .blk id, .inBlock id' => id' = id
  | .lp c, .inLoop cm => prepC C nt cm = some c
  | .begin, .beginRound => True
  | .code c, .inScope _ => c = .skip
  | _, _ => False
def ItemsRel (C : Cfg) (nt : Nat) : List AI → List Item → Prop
  | [], km => km = []
  | i :: k, km => ∃ im km', km = im :: km' ∧ ItemRel C nt i im ∧ ItemsRel C nt k km'

theorem exit_some {C : Cfg} {nt id : Nat} : ∀ {k k' : List AI} {km : List Item}, ItemsRel C nt k km → exitA id k = some k' → ∃ km', exitTo id km = some km' ∧ ItemsRel C nt k' km'
  | [], _, _, _, h => by simp [exitA] at h
  | i :: k, k', _, hr, h => by
    obtain ⟨im, km', rfl, h1, h2⟩ := hr
    cases i with
    | blk j =>
      cases im <;> simp only [ItemRel] at h1
      subst h1
      simp only [exitA] at h
      simp only [exitTo]
      split at h
      · rename_i e; cases h; subst e; exact ⟨km', by simp, h2⟩
      · rename_i e; rw [if_neg (by simpa using e)]; exact exit_some h2 h
    | code c => cases im <;> simp only [ItemRel] at h1 <;> (simp only [exitA] at h; simp only [exitTo]; exact exit_some h2 h)
    | lp c => cases im <;> simp only [ItemRel] at h1; simp only [exitA] at h; simp only [exitTo]; exact exit_some h2 h
    | begin => cases im <;> simp only [ItemRel] at h1; simp only [exitA] at h; simp only [exitTo]; exact exit_some h2 h
theorem exit_none {C : Cfg} {nt id : Nat} : ∀ {k : List AI} {km : List Item}, ItemsRel C nt k km → exitA id k = none → exitTo id km = none
  | [], _, hr, _ => by simp only [ItemsRel] at hr; subst hr; rfl
  | i :: k, _, hr, h => by
    obtain ⟨im, km', rfl, h1, h2⟩ := hr
    cases i with
    | blk j =>
      cases im <;> simp only [ItemRel] at h1
      subst h1
      simp only [exitA] at h
      simp only [exitTo]
      split at h
      · cases h
      · rename_i e; rw [if_neg (by simpa using e)]; exact exit_none h2 h
    | code c => cases im <;> simp only [ItemRel] at h1 <;> (simp only [exitA] at h; simp only [exitTo]; exact exit_none h2 h)
    | lp c => cases im <;> simp only [ItemRel] at h1; simp only [exitA] at h; simp only [exitTo]; exact exit_none h2 h
    | begin => cases im <;> simp only [ItemRel] at h1; simp only [exitA] at h; simp only [exitTo]; exact exit_none h2 h

/-- the round that a frame runs -/
def RdRel (ρ : Mp) : Option Nat → Option Nat → Prop
  | none, ro => ro = none
  | some l, ro => ∃ r, ρ l = some r ∧ ro = some r.a.block
theorem RdRel.mono {ρ ρ' : Mp} {rd ro : Option Nat} (h : RdRel ρ rd ro) (hle : Mp.le ρ ρ') : RdRel ρ' rd ro := by
  cases rd with
  | none => exact h
  | some l => obtain ⟨r, e, q⟩ := h; exact ⟨r, hle _ _ e, q⟩

def Ends (P : Program) (b : Frame) (am : Act) (km : List Item) (cs : List Frame) (w : World) (am' : Act) (w' : World) : Out → Prop
  | .done => Steps P (lone (b.atR am km) cs w) (lone (b.atR am' []) cs w')
  | .ret => ∃ k1, Steps P (lone (b.atR am km) cs w) (lone (b.atR am' (.code .ret :: k1)) cs w')
  | .exit id => ∃ k1, exitTo id k1 = none ∧ Steps P (lone (b.atR am km) cs w) (lone (b.atR am' (.code (.exit id) :: k1)) cs w')
theorem Ends.of_steps {P : Program} {b : Frame} {am am1 am' : Act} {km km1 : List Item} {cs : List Frame} {w w1 w' : World} {o : Out} (h : Steps P (lone (b.atR am km) cs w) (lone (b.atR am1 km1) cs w1)) (h' : Ends P b am1 km1 cs w1 am' w' o) : Ends P b am km cs w am' w' o := by
  cases o with
  | done => exact h.trans h'
  | ret => obtain ⟨k1, h1⟩ := h'; exact ⟨k1, h.trans h1⟩
  | exit id => obtain ⟨k1, h0, h1⟩ := h'; exact ⟨k1, h0, h.trans h1⟩

/-- **what is to be shown of an evaluator** -/
def Sim (C : Cfg) (I : World → Prop) (rec : Rec) : Prop :=
  ∀ lo rd k a H out a' H', rec lo rd k a H = some (out, a', H') →
  ∀ (ρ : Mp) (L0 : Nat) (w0 w : World) (b : Frame) (am : Act) (km : List Item) (cs : List Frame) (nt base : Nat),
    ItemsRel C nt k km → RdRel ρ rd b.roundOf → FrRel ρ nt a am.tmps → HRel C I ρ L0 w0 H w → L0 ≤ lo → base ≤ w.heap.size → w0.heap.size ≤ base → Marks ρ L0 base w am.defers →
    ∃ ρ' am' w', FrRel ρ' nt a' am'.tmps ∧ HRel C I ρ' L0 w0 H' w' ∧ Ext ρ L0 H.length w ρ' w' ∧ Marks ρ' L0 base w' am'.defers ∧ Ends C.P b am km cs w am' w' out

/-! ### Steps -/
section
variable {P : Program} {b : Frame} {a : Act} {k : List Item} {cs : List Frame} {w w' : World} {ops : Array Oper} {i : Nat} {rest : List Nat} {o : Oper}
theorem stepR_value (ho : ops[i]? = some o) (hw : Region.wanted o (yielded ops a.tmps) = true) (hd : ∀ c, o.op ≠ .defer c) {nx : Next} {x : Value} (hr : (execOp a.eval o).run P w = .ok nx w') (hn : nx = .value x ∨ (nx = .skip ∧ x = undef)) :
    step P (lone (b.atR a (.inRegion ops (i :: rest) :: k)) cs w) = .next (lone (b.atR (a.put o.dst x) (.inRegion ops rest :: k)) cs w') := by
  have hg := stepGR_op (P := P) (b := b) (k := k) (cs := cs) (w := w) (rest := rest) ho hw
  rw [Oper.semAt_eq _ _ _ hd] at hg
  have hfin : ∀ v, (b.atR a (.inRegion ops (i :: rest) :: k)).finish v = b.atR (a.put o.dst v) (.inRegion ops rest :: k) := by
    intro v; rw [Frame.finish_atR, ho]; rfl
  refine step_lone_go ?_
  rw [hg, ← hfin]
  rcases hn with rfl | ⟨rfl, rfl⟩ <;> simp [stepG.apply, hr]
theorem stepR_enter (ho : ops[i]? = some o) (hw : Region.wanted o (yielded ops a.tmps) = true) (hd : ∀ c, o.op ≠ .defer c) {f : Nat} {args : Array Value} (hr : (execOp a.eval o).run P w = .ok (.enter f args) w') :
    step P (lone (b.atR a (.inRegion ops (i :: rest) :: k)) cs w) = .next (lone (Frame.enter P f args .normal) (b.atR a (.inRegion ops (i :: rest) :: k) :: cs) w') := by
  have hg := stepGR_op (P := P) (b := b) (k := k) (cs := cs) (w := w) (rest := rest) ho hw
  rw [Oper.semAt_eq _ _ _ hd] at hg
  exact step_lone_go (by rw [hg]; simp [stepG.apply, hr, Frame.atR])
theorem stepR_roundOf (ho : ops[i]? = some o) (hw : Region.wanted o (yielded ops a.tmps) = true) (hd : ∀ c, o.op ≠ .defer c) {l f : Nat} {tmps : Array Value} {asg body : Code} (hr : (execOp a.eval o).run P w = .ok (.round l f tmps asg body) w') :
    step P (lone (b.atR a (.inRegion ops (i :: rest) :: k)) cs w) = .next (lone (Frame.round l f tmps asg body .normal) (b.atR a (.inRegion ops (i :: rest) :: k) :: cs) w') := by
  have hg := stepGR_op (P := P) (b := b) (k := k) (cs := cs) (w := w) (rest := rest) ho hw
  rw [Oper.semAt_eq _ _ _ hd] at hg
  exact step_lone_go (by rw [hg]; simp [stepG.apply, hr])
theorem stepR_called (ho : ops[i]? = some o) (hw : Region.wanted o (yielded ops a.tmps) = true) (hd : ∀ c, o.op ≠ .defer c) {f : Nat} {args : Array Value} {x : Value} {w1 : World} (hr : (execOp a.eval o).run P w = .ok (.enter f args) w1)
    (hc : Rets P f args (b.atR a (.inRegion ops (i :: rest) :: k) :: cs) w1 x w') : Steps P (lone (b.atR a (.inRegion ops (i :: rest) :: k)) cs w) (lone (b.atR (a.put o.dst x) (.inRegion ops rest :: k)) cs w') := by
  obtain ⟨fr, hs, _, hl⟩ := hc
  refine .head (stepR_enter ho hw hd hr) (hs.trans (.one ?_))
  rw [step_leave_returned hl, Frame.finish_atR, ho]; rfl
end
end Go.AM

namespace Go.AM
open Go Go.RowKit
section
variable {C : Cfg} {I : World → Prop} {E : Tab} {rec : Rec} {ρ : Mp} {L0 : Nat} {w0 w : World} {H : Heap}

/-! ### A call begins -/
theorem initFr_rel {nt : Nat} {vs : List AV} {args : Array Value} (h : VRelL ρ vs args.toList) (hn : args.size ≤ nt) : FrRel ρ nt (initFr vs) (args ++ Array.replicate (nt - args.size) undef) := by
  refine ⟨by simp; omega, fun t ht => ?_⟩
  unfold initFr
  have hl := h.length
  by_cases hlt : t < vs.length
  · obtain ⟨x, hx, hr⟩ := h.get (i := t) (v := vs[t]) (by simp [hlt])
    have : (args ++ Array.replicate (nt - args.size) undef).getD t undef = x := by
      rw [Array.getD_eq_getD_getElem?, Array.getElem?_append_left (by simpa using (by omega : t < args.toList.length))]
      have : args[t]? = some x := by simpa using hx
      simp [this]
    rw [this]
    have e : vs.getD t .un = vs[t] := by simp [List.getD_eq_getElem?_getD, hlt]
    rw [e]; exact hr
  · have e : vs.getD t .un = .un := by simp [List.getD_eq_getElem?_getD, List.getElem?_eq_none (by omega : vs.length ≤ t)]
    rw [e]; simp [VRel]

/-! ### A call ends: the marks, the results -/
theorem HRel.putFree (h : HRel C I ρ L0 w0 H w) {D base : Nat} (hb : w0.heap.size ≤ base) (m : Mark ρ L0 base w D) (o : Obj) : HRel C I ρ L0 w0 H (w.putObj D o) := by
  have hD := m.ge
  have keep : ∀ pb, pb ≠ D → (w.putObj D o).heap[pb]? = w.heap[pb]? := fun pb e => World.putObj_heap_other e
  have hb' : Below w0.heap.size w (w.putObj D o) := ⟨rfl, rfl, rfl, by simp, fun k hk => keep k (by omega)⟩
  refine ⟨h.below.trans hb', h.inv, h.lt, h.dom, fun b r e hL => by simpa using h.own b r e hL, h.apart, fun b r k e hk => ?_⟩
  have hB := h.blk b r k e hk
  by_cases hL : L0 ≤ b
  · exact hB.mono (Mp.le_refl ρ) (keep _ (m.free b r e hL))
  · cases k with
    | dead => trivial
    | loop => exact fun ho => absurd ho hL
    | map => exact fun ho => absurd ho hL
    | cells vs =>
      cases vs with
      | nil => exact ⟨fun i v e => by simp at e, fun ho => absurd ho hL, fun _ e => absurd rfl e⟩
      | cons v vs =>
        have := hB.2.2 hL (by simp)
        exact hB.mono (Mp.le_refl ρ) (keep _ (by omega))

/-- the frame's marks are taken one by one -/
theorem take_marks {fr : Frame} {cs : List Frame} (hm : fr.mode = .returning) {base : Nat} (hb : w0.heap.size ≤ base) : ∀ (Ds : List Nat) (w : World), HRel C I ρ L0 w0 H w → fr.defers = Ds.map markOf → Ds.Nodup → (∀ D ∈ Ds, Mark ρ L0 base w D) →
    ∃ w', Steps C.P (lone fr cs w) (lone { fr with defers := [] } cs w') ∧ HRel C I ρ L0 w0 H w' ∧ w'.heap.size = w.heap.size ∧ ∀ pb, pb < base → w'.heap[pb]? = w.heap[pb]? := by
  intro Ds
  induction Ds generalizing fr with
  | nil =>
    intro w h hd _ _
    have : { fr with defers := [] } = fr := by cases fr; simp at hd; subst hd; rfl
    exact ⟨w, by rw [this]; exact .refl .., h, rfl, fun _ _ => rfl⟩
  | cons D Ds ih =>
    intro w h hd hn hM
    have m := hM D (by simp)
    have hk := run_takeDeferred (P := C.P) m.at'
    have hs := step_collected (P := C.P) (fr := fr) (cs := cs) (d := markOf D) (ds := Ds.map markOf) (by rw [hm]; simp) (by rw [hd]; rfl) rfl hk
    have hnd := List.nodup_cons.1 hn
    obtain ⟨w', h1, h2, h3, h4⟩ := ih (fr := { fr with defers := Ds.map markOf }) hm (w.putObj D (.deferred none)) (h.putFree hb m _) rfl hnd.2 fun D' hD' => by
      have m' := hM D' (by simp [hD'])
      have hne : D' ≠ D := fun e => hnd.1 (e ▸ hD')
      exact ⟨m'.ge, (World.putObj_heap_other hne).trans m'.at', m'.free⟩
    refine ⟨w', .head hs h1, h2, by rw [h3]; simp, fun pb hp => (h4 pb hp).trans (World.putObj_heap_other ?_)⟩
    have := m.ge; omega

/-- the results of a function, as the machine reads them -/
theorem resVar_spec (h : HRel C I ρ L0 w0 H w) {nt : Nat} {a : Fr} {tmps : Array Value} (hf : FrRel ρ nt a tmps) {f : ResultVar → Sem Value} (f1 : ∀ t, f (.tmp t) = pure (tmps.getD t undef)) (f2 : ∀ b t, f (.cell b t) = (do loadVar t (← asAddr (tmps.getD b undef)))) :
    ∀ {rs : List ResultVar} {l : List RVar} {vs : List AV}, prepRes C nt rs = some l → resVars a H l = some vs → ∃ xs : List Value, VRelL ρ vs xs ∧ (rs.mapM f).run C.P w = .ok xs w
  | [], _, vs, hp, hv => by simp [prepRes] at hp; subst hp; simp [resVars] at hv; subst hv; exact ⟨[], by simp [VRelL], by simp⟩
  | .tmp t :: rs, _, vs, hp, hv => by
    simp only [prepRes] at hp
    split at hp
    · rename_i ht
      obtain ⟨l, hl, rfl⟩ := Option.map_eq_some_iff.1 hp
      simp only [resVars, resVar, Option.bind_some] at hv
      obtain ⟨us, hu, rfl⟩ := Option.map_eq_some_iff.1 hv
      obtain ⟨xs, h1, h2⟩ := resVar_spec h hf f1 f2 hl hu
      refine ⟨tmps.getD t undef :: xs, by simp only [VRelL]; exact ⟨_, _, rfl, hf.val t ht, h1⟩, ?_⟩
      rw [List.mapM_cons, f1]
      simp [h2]
    · cases hp
  | .cell b t :: rs, _, vs, hp, hv => by
    simp only [prepRes] at hp
    split at hp
    · rename_i ht
      obtain ⟨n, hn, hp2⟩ := Option.bind_eq_some_iff.1 hp
      obtain ⟨l, hl, rfl⟩ := Option.map_eq_some_iff.1 hp2
      simp only [resVars] at hv
      obtain ⟨u, hu0, hv2⟩ := Option.bind_eq_some_iff.1 hv
      obtain ⟨us, hu, rfl⟩ := Option.map_eq_some_iff.1 hv2
      clear hp hp2 hv hv2
      obtain ⟨xs, h1, h2⟩ := resVar_spec h hf f1 f2 hl hu
      have hb := hf.val b ht
      have fin : ∀ r B o, a b = .p B o → ρ B = some r → tmps.getD b undef = .pointer (some (r.a.add o)) → (∃ xv, (loadVar t (r.a.add o)).run C.P w = .ok xv w ∧ VRel ρ u xv) → ∃ xs : List Value, VRelL ρ (u :: us) xs ∧ ((ResultVar.cell b t :: rs).mapM f).run C.P w = .ok xs w := fun r B o e hr hxe hx => by
        obtain ⟨xv, h3, h4⟩ := hx
        refine ⟨xv :: xs, by simp only [VRelL]; exact ⟨_, _, rfl, h4, h1⟩, ?_⟩
        rw [List.mapM_cons, f2, hxe]
        simp [asAddr, h3, h2]
      simp only [resVar] at hu0
      split at hu0
      · rename_i B o e
        rw [e] at hb
        obtain ⟨r, hr, hxe⟩ := hb.ptr
        exact fin r B o e hr hxe (load_spec (o := o) h hn hr hu0)
      · rename_i B o m e
        rw [e] at hb
        obtain ⟨r, hr, hxe⟩ := hb.ptr
        exact fin r B o e hr hxe (load_spec (o := o) h hn hr hu0)
      · cases hu0
    · cases hp

def resRead (tmps : Array Value) : ResultVar → Sem Value
  | .tmp t => pure (tmps.getD t undef)
  | .cell a t => do loadVar t (← asAddr (tmps.getD a undef))
theorem run_mapMArr {α : Type} {P : Program} {w : World} {f : α → Sem Value} {xs : List Value} : ∀ (rs : Array α), (rs.toList.mapM f).run P w = .ok xs w → (rs.mapM f).run P w = .ok xs.toArray w := fun rs h => by
  obtain ⟨rs⟩ := rs
  rw [List.mapM_toArray]
  simp only [Sem.run_map]
  simp only at h
  simp [h]

theorem res_spec (h : HRel C I ρ L0 w0 H w) {fn : Func} {nt : Nat} {a : Fr} {tmps : Array Value} (hf : FrRel ρ nt a tmps) {l : List RVar} {v : AV} (hp : prepRes C nt fn.results.toList = some l) (hv : resA l a H = some v) :
    ∃ x, (results fn tmps).run C.P w = .ok x w ∧ VRel ρ v x := by
  unfold resA at hv
  have key : ∀ vs, resVars a H l = some vs → ∃ xs : List Value, VRelL ρ vs xs ∧ (results fn tmps).run C.P w = .ok (if h : xs.toArray.size = 1 then xs.toArray[0] else .tuple xs.toArray) w := fun vs hvs => by
    unfold results
    obtain ⟨xs, h1, h2⟩ := resVar_spec h hf (f := resRead tmps) (fun t => rfl) (fun b t => rfl) hp hvs
    refine ⟨xs, h1, ?_⟩
    have h3 := run_mapMArr fn.results h2
    have h4 : ∀ g : ResultVar → Sem Value, g = resRead tmps → (do let vs ← fn.results.mapM g; pure (if h : vs.size = 1 then vs[0] else .tuple vs) : Sem Value).run C.P w = .ok (if h : xs.toArray.size = 1 then xs.toArray[0] else .tuple xs.toArray) w := fun g hg => by
      rw [hg, Sem.run_bind, h3, Result.andThen_ok, Sem.run_pure]
    exact h4 _ (funext fun x => by cases x <;> rfl)
  split at hv
  · rename_i u hvs
    cases hv
    obtain ⟨xs, h1, h2⟩ := key _ hvs
    simp only [VRelL] at h1
    obtain ⟨x, _, rfl, h3, rfl⟩ := h1
    exact ⟨x, by rw [h2]; simp, h3⟩
  · rename_i us hne hvs
    cases hv
    obtain ⟨xs, h1, h2⟩ := key _ hvs
    refine ⟨.tuple xs.toArray, ?_, by simp only [VRel]; exact ⟨_, rfl, h1⟩⟩
    rw [h2, dif_neg]
    intro e
    have hl := h1.length
    simp only [List.size_toArray] at e
    rw [e] at hl
    match us, hl with
    | [u], _ => exact hne u rfl
  · cases hv
end
end Go.AM

namespace Go.AM
open Go Go.RowKit
section
variable {C : Cfg} {I : World → Prop} {E : Tab} {rec : Rec} {ρ : Mp} {L0 : Nat} {w0 w : World} {H : Heap}

/-- what a call, among callers cs, comes to -/
def CallTo (C : Cfg) (I : World → Prop) (ρ : Mp) (L0 : Nat) (w0 : World) (H : Heap) (w : World) (f : Nat) (args : Array Value) (cs : List Frame) (v : AV) (H' : Heap) : Prop :=
  ∃ ρ' x w', Rets C.P f args cs w x w' ∧ VRel ρ' v x ∧ HRel C I ρ' L0 w0 H' w' ∧ Ext ρ L0 H.length w ρ' w'

theorem runF_sim (hS : Sim C I rec) {lo f : Nat} {af : AFunc} {vs : List AV} {v : AV} {H' : Heap} (hx : runF rec lo af vs H = some (v, H')) (hF : FnOk C f af) (h : HRel C I ρ L0 w0 H w) {args : Array Value} (ha : VRelL ρ vs args.toList) (hlo : L0 ≤ lo) (cs : List Frame) :
    CallTo C I ρ L0 w0 H w f args cs v H' := by
  obtain ⟨fn, hf, hp⟩ := hF
  unfold prepF at hp
  split at hp
  · cases hp
  · rename_i cb hbody
    split at hp
    · rename_i hc
      obtain ⟨hc1, hc2⟩ := hc
      obtain ⟨rs, hrs, hp2⟩ := Option.bind_eq_some_iff.1 hp
      obtain ⟨ac, hac, rfl⟩ := Option.map_eq_some_iff.1 hp2
      clear hp hp2
      unfold runF at hx
      split at hx
      · rename_i hn
        simp only at hn
        have hargs : args.size = vs.length := by have := ha.length; simpa using this
        let b : Frame := { (default : Frame) with fn := f, kind := .normal }
        have hb0 : Frame.enter C.P f args .normal = b.atR { tmps := args ++ Array.replicate (fn.ntmps - args.size) undef, defers := [] } [.code cb] := by
          simp [Frame.enter, Frame.atR, b, hf, hbody]
          rfl
        have hfr := initFr_rel (ρ := ρ) (nt := fn.ntmps) ha (by omega)
        have sim := fun out a' => hS lo none [.code ac] (initFr vs) H out a'
        have fin : ∀ (a' : Fr) (H1 : Heap) (ρ1 : Mp) (am1 : Act) (w1 : World) (todo : List Item), (resA rs a' H1).map (fun v => (v, H1)) = some (v, H') → FrRel ρ1 fn.ntmps a' am1.tmps → HRel C I ρ1 L0 w0 H1 w1 → Ext ρ L0 H.length w ρ1 w1 → Marks ρ1 L0 w.heap.size w1 am1.defers →
            Steps C.P (lone (Frame.enter C.P f args .normal) cs w) (lone { b.atR am1 todo with mode := .returning } cs w1) → CallTo C I ρ L0 w0 H w f args cs v H' := fun a' H1 ρ1 am1 w1 todo hr hfr1 hH1 hE1 hM1 hst => by
          obtain ⟨u, hu, e⟩ := Option.map_eq_some_iff.1 hr
          cases e
          obtain ⟨Ds, hD1, hD2, hD3⟩ := hM1
          obtain ⟨w2, s2, hH2, hsz, hkeep⟩ := take_marks (fr := { b.atR am1 todo with mode := .returning }) (cs := cs) rfl h.below.size Ds w1 hH1 hD1 hD2 hD3
          obtain ⟨x, hx1, hx2⟩ := res_spec hH2 hfr1 hrs hu
          refine ⟨ρ1, x, w2, ⟨_, hst.trans s2, rfl, rfl, rfl, rfl, fn, hf, hx1⟩, hx2, hH2, hE1.le, hE1.fresh, by rw [hsz]; exact hE1.size, fun pb hp hno => (hkeep pb hp).trans (hE1.keep pb hp hno)⟩
        split at hx
        · rename_i a' H1 e
          obtain ⟨ρ1, am1, w1, h1, h2, h3, h4, h5⟩ := sim _ _ _ e ρ L0 w0 w b { tmps := args ++ Array.replicate (fn.ntmps - args.size) undef, defers := [] } [.code cb] cs fn.ntmps w.heap.size ⟨_, [], rfl, hac, rfl⟩ rfl hfr h hlo (Nat.le_refl _) h.below.size (Marks.nil ..)
          exact fin a' H1 ρ1 am1 w1 [] hx h1 h2 h3 h4 (by rw [hb0]; exact h5.trans (.one (stepR_end rfl)))
        · rename_i a' H1 e
          obtain ⟨ρ1, am1, w1, h1, h2, h3, h4, k1, h5⟩ := sim _ _ _ e ρ L0 w0 w b { tmps := args ++ Array.replicate (fn.ntmps - args.size) undef, defers := [] } [.code cb] cs fn.ntmps w.heap.size ⟨_, [], rfl, hac, rfl⟩ rfl hfr h hlo (Nat.le_refl _) h.below.size (Marks.nil ..)
          exact fin a' H1 ρ1 am1 w1 _ hx h1 h2 h3 h4 (by rw [hb0]; exact h5.trans (.one (stepR_ret rfl)))
        · cases hx
      · cases hx
    · cases hp

theorem intsOf_map : ∀ {l : List AV} {zs : List Int}, intsOf l = some zs → l = zs.map AV.i
  | [], _, h => by cases h; rfl
  | .int .i64 n :: r, _, h => by
    simp only [intsOf] at h
    obtain ⟨u, hu, rfl⟩ := Option.map_eq_some_iff.1 h
    rw [intsOf_map hu]; rfl
  | .un :: _, _, h | .b _ :: _, _, h | .nilp :: _, _, h | .p _ _ :: _, _, h | .nils :: _, _, h | .s _ _ _ _ _ :: _, _, h | .nilf :: _, _, h | .fn _ _ _ :: _, _, h | .yl _ :: _, _, h | .m _ :: _, _, h | .ag _ :: _, _, h | .tp _ :: _, _, h => by simp [intsOf] at h
  | .int k n :: r, _, h => by cases k <;> simp [intsOf] at h <;> (obtain ⟨u, hu, rfl⟩ := h; rw [intsOf_map hu]; rfl)
theorem delV_sim {f : Nat} {lo : Nat} {vs : List AV} {v : AV} {H' : Heap}
    (hd : ∀ (blk off cap i j : Nat) (zs : List Int) (w : World), (∀ k (h : k < zs.length), w.cell? ⟨blk, off + k, none⟩ = some (.int .i64 zs[k]) ∧ w.frozen? ⟨blk, off + k, none⟩ = false) → zs.length ≤ cap → cap ≤ 9223372036854775807 → i ≤ j → j ≤ zs.length →
      ∀ cs, ∃ w1 : World, Rets C.P f #[.slice (some ⟨blk, off, none⟩) zs.length cap, .int .i64 i, .int .i64 j] cs w (.slice (some ⟨blk, off, none⟩) (zs.length - (j - i)) cap) (w1.setCells blk off ((zs.take i ++ zs.drop j ++ List.replicate (j - i) 0).map (Value.int .i64))) ∧
        w1.heap = w.heap ∧ w1.os = w.os ∧ w1.tape = w.tape ∧ w1.output = w.output)
    (hx : delV lo vs H = some (v, H')) (h : HRel C I ρ L0 w0 H w) {args : Array Value} (ha : VRelL ρ vs args.toList) (hlo : L0 ≤ lo) (cs : List Frame) : CallTo C I ρ L0 w0 H w f args cs v H' := by
  unfold delV at hx
  split at hx
  · rename_i es b o n c i j
    split at hx
    · rename_i hc
      obtain ⟨rfl, hlb, hi0, hij, hjn, hn0⟩ := hc
      split at hx
      · rename_i ks hk
        split at hx
        · rename_i zs hz
          split at hx
          · rename_i hzl
            cases hx
            have hzs := intsOf_map hz
            obtain ⟨i, rfl⟩ := Int.eq_ofNat_of_zero_le hi0
            obtain ⟨j, rfl⟩ := Int.eq_ofNat_of_zero_le (show 0 ≤ j by omega)
            simp only [Int.toNat_natCast]
            simp only [VRelL] at ha
            obtain ⟨x, xs, ea, hx1, x2, xs2, rfl, hx2, x3, xs3, rfl, hx3, rfl⟩ := ha
            simp only [VRel] at hx1 hx2 hx3
            subst hx2 hx3
            obtain ⟨r, o', c', hb, rfl, hnc, hcc, ho, hroom⟩ := hx1
            have ho := ho (by omega)
            subst ho
            have hL : L0 ≤ b := by omega
            obtain ⟨ho1, ho2, hs⟩ := h.own b r hb hL
            obtain ⟨hB1, hB2, _⟩ := h.blk b r _ hb hk
            obtain ⟨cs0, t, m, hcl, hm, hv, hcs⟩ := hB2 hL
            have hkl : o' + n ≤ ks.length := by
              have : ((ks.drop o').take n).length = n := by rw [hzs]; simpa using hzl
              rw [List.length_take, List.length_drop] at this
              omega
            have hcell : ∀ k (hk' : k < zs.length), w.cell? ⟨r.a.block, r.a.off + o' + k, none⟩ = some (.int .i64 zs[k]) ∧ w.frozen? ⟨r.a.block, r.a.off + o' + k, none⟩ = false := by
              intro k hk'
              have e1 : ks[o' + k]? = some (.i zs[k]) := by
                have : ((ks.drop o').take n)[k]? = some (.i zs[k]) := by rw [hzs]; simp [hk']
                rw [List.getElem?_take, if_pos (by omega), List.getElem?_drop] at this
                exact this
              obtain ⟨y, hy1, hy2, _⟩ := hB1 _ _ e1
              simp only [VRel] at hy2
              subst hy2
              rw [add_spot hs, ← Nat.add_assoc] at hy1
              exact ⟨hy1, by simp [World.frozen?, hcl]⟩
            obtain ⟨w1, hR, e1, e2, e3, e4⟩ := hd r.a.block (r.a.off + o') c' i j zs w hcell (by omega) hnc.2 (by omega) (by omega) cs
            have hH1 := h.congr (w' := w1) e1 e2 e3 e4
            have hE1 := Ext.congr (w := w) (w' := w1) ρ L0 H.length e1
            have hus : VRelL ρ ((zs.take i ++ zs.drop j ++ List.replicate (j - i) 0).map AV.i) ((zs.take i ++ zs.drop j ++ List.replicate (j - i) 0).map (Value.int .i64)) := by
              refine VRelL.of_get (by simp) fun q u hu => ?_
              rw [List.getElem?_map] at hu ⊢
              obtain ⟨z, hz1, rfl⟩ := Option.map_eq_some_iff.1 hu
              exact ⟨_, by rw [hz1]; rfl, by simp [VRel]⟩
            have hone : ∀ y ∈ (zs.take i ++ zs.drop j ++ List.replicate (j - i) 0).map (Value.int .i64), y.oneCell' = true := by
              intro y hy
              obtain ⟨z, _, rfl⟩ := List.mem_map.1 hy
              rfl
            obtain ⟨hH2, hE2, _⟩ := hH1.store (n := H.length) hb hL hk (o := o') (us := (zs.take i ++ zs.drop j ++ List.replicate (j - i) 0).map AV.i) (by simp; omega) hus hone
            have ea2 : args = #[.slice (some ⟨r.a.block, r.a.off + o', none⟩) zs.length c', .int .i64 i, .int .i64 j] := by
              cases args
              simp only [add_spot hs] at ea
              rw [ea, hzl]
            rw [ea2]
            refine ⟨ρ, _, _, hR, ?_, hH2, hE1.trans hE2 (Nat.le_refl _)⟩
            simp only [VRel]
            refine ⟨r, o', c', hb, by rw [add_spot hs, hzl], by omega, hcc, fun _ => rfl, hroom⟩
          · cases hx
        · cases hx
      · cases hx
    · cases hx
  · cases hx
theorem callF_sim (hE : EOk C I E) (hS : Sim C I rec) {lo f : Nat} {vs : List AV} {v : AV} {H' : Heap} (hx : callF E rec lo f vs H = some (v, H')) (h : HRel C I ρ L0 w0 H w) {args : Array Value} (ha : VRelL ρ vs args.toList) (hlo : L0 ≤ lo) :
    Enters' C.P f ∧ ∀ cs, CallTo C I ρ L0 w0 H w f args cs v H' := by
  unfold callF at hx
  have hI : I w := hE.stable _ _ h.inv h.below
  split at hx
  · rename_i g hk
    obtain ⟨u, hu, e⟩ := Option.bind_eq_some_iff.1 hx
    split at e
    · rename_i hp
      cases e
      simp only [Bool.and_eq_true] at hp
      obtain ⟨h1, h2⟩ := hE.prim f g (by rw [← hE.kd]; exact hk)
      refine ⟨h1, fun cs => ?_⟩
      obtain ⟨x, w', hr, hv, hb⟩ := h2 vs v args w hu (VRelL.pure _ _ hp.2 ha) hI cs
      exact ⟨ρ, x, w', hr, VRel.pure _ _ hp.1 hv, h.later hb, Ext.later ρ L0 _ hb⟩
    · cases e
  · obtain ⟨af, haf, e⟩ := Option.bind_eq_some_iff.1 hx
    have hF := hE.fn f af haf
    exact ⟨hF.enters, fun cs => runF_sim hS e hF h ha hlo cs⟩
  · obtain ⟨af, haf, e⟩ := Option.bind_eq_some_iff.1 hx
    have hF := hE.fn f af haf
    refine ⟨hF.enters, fun cs => ?_⟩
    obtain ⟨⟨u, H1⟩, hr, e2⟩ := Option.map_eq_some_iff.1 e
    simp only [Prod.mk.injEq] at e2
    obtain ⟨rfl, e2⟩ := e2
    obtain ⟨ρ1, x, w1, h1, h2, h3, h4⟩ := runF_sim hS hr hF (h.start hE.stable) ha (Nat.le_refl _) cs
    split at e2
    · rename_i hp
      subst e2
      exact ⟨ρ, x, w1, h1, VRel.pure _ _ hp h2, h.later h3.below, Ext.later ρ L0 _ h3.below⟩
    · subst e2
      obtain ⟨h5, h6⟩ := HRel.back h h3 h4
      have hs := seal_spec H H1
      exact ⟨ρ1, x, w1, h1, h2, h5.fade hs.1 hs.2, h6⟩
  · split at hx
    · rename_i hpa
      obtain ⟨af, haf, e⟩ := Option.bind_eq_some_iff.1 hx
      have hF := hE.fn f af haf
      refine ⟨hF.enters, fun cs => ?_⟩
      obtain ⟨⟨u, H1⟩, hr, e2⟩ := Option.bind_eq_some_iff.1 e
      simp only at e2
      split at e2
      · rename_i hp
        cases e2
        obtain ⟨ρ1, x, w1, h1, h2, h3, h4⟩ := runF_sim hS hr hF (HRel.empty C I hI) (VRelL.pure _ _ hpa ha) (Nat.le_refl _) cs
        exact ⟨ρ, x, w1, h1, VRel.pure _ _ hp h2, h.later h3.below, Ext.later ρ L0 _ h3.below⟩
      · cases e2
    · cases hx
  · rename_i hk
    obtain ⟨h1, h2⟩ := hE.del f (by rw [← hE.kd]; exact hk)
    exact ⟨h1, fun cs => delV_sim h2 hx h ha hlo cs⟩

/-! ### A round -/
theorem setPs_rel {nt : Nat} : ∀ {ps : List Nat} {vs : List AV} {xs : List Value} {a : Fr} {tmps : Array Value}, (∀ p ∈ ps, p < nt) → VRelL ρ vs xs → FrRel ρ nt a tmps →
    FrRel ρ nt (setPs a ps vs) ((ps.zip xs).foldl (fun t (q : Nat × Value) => t.setIfInBounds q.1 q.2) tmps)
  | [], _, _, _, _, _, _, hf => by simpa [setPs] using hf
  | p :: ps, [], _, _, _, _, hv, hf => by simp only [VRelL] at hv; subst hv; simpa [setPs] using hf
  | p :: ps, v :: vs, _, a, tmps, hp, hv, hf => by
    simp only [VRelL] at hv
    obtain ⟨x, xs, rfl, hx, hxs⟩ := hv
    simp only [setPs, List.zip_cons_cons, List.foldl_cons]
    exact setPs_rel (fun q hq => hp q (by simp [hq])) hxs (hf.put (hp p (by simp)) hx)
theorem zip_foldl (ps : Array Nat) (args : Array Value) (tmps : Array Value) : (ps.zip args).foldl (fun tmps (t, a) => tmps.setIfInBounds t a) tmps = (ps.toList.zip args.toList).foldl (fun t (q : Nat × Value) => t.setIfInBounds q.1 q.2) tmps := by
  rw [← Array.foldl_toList, Array.toList_zip]

def mjmp : Option Jmp → Option Code
  | none => none
  | some .ret => some .ret
  | some (.exit i) => some (.exit i)
theorem jmpRel_mjmp (j : Option Jmp) : JmpRel j (mjmp j) := by
  cases j with
  | none => rfl
  | some j => cases j <;> rfl
theorem mjmp_isNone (j : Option Jmp) : (mjmp j).isNone = j.isNone := by
  cases j with
  | none => rfl
  | some j => cases j <;> rfl

theorem roundA_sim (hS : Sim C I rec) {lo l nt : Nat} {p : Option Jmp} {fr : Fr} {ps : List Nat} {asg body : ACode} {vs : List AV} {v : AV} {H' : Heap} (hk : H[l]? = some (.loop .ready p nt fr ps asg body)) (hx : roundA rec lo l fr ps asg body vs H = some (v, H'))
    (h : HRel C I ρ L0 w0 H w) {r : PB} (hr : ρ l = some r) {args : Array Value} (ha : VRelL ρ vs args.toList) (hlo : L0 ≤ lo) (c : Frame) (cs : List Frame) :
    ∃ ρ' x w' f tmps am bm, (Instr.yield r.a.block args).run C.P w = .ok (.round r.a.block f tmps am bm) w ∧ Steps C.P (lone (Frame.round r.a.block f tmps am bm .normal) (c :: cs) w) (lone (c.finish x) cs w') ∧
      VRel ρ' v x ∧ HRel C I ρ' L0 w0 H' w' ∧ Ext ρ L0 H.length w ρ' w' := by
  unfold roundA at hx
  split at hx
  · rename_i hc
    obtain ⟨hlen, hl⟩ := hc
    have hL : L0 ≤ l := by omega
    obtain ⟨rec0, q1, q2, q3, q4, q5, q6, q7, q8⟩ := h.blk l r _ hr hk hL
    have hargs : args.size = rec0.params.size := by
      have := ha.length
      rw [← q5] at hlen
      simp at this hlen
      omega
    split at hx
    · rename_i out a' H1 e
      have hfr := setPs_rel (ρ := ρ) (nt := nt) (ps := ps) (a := fr) (tmps := rec0.tmps) q6 ha q4
      rw [← q5] at hfr
      rw [← zip_foldl] at hfr
      let b : Frame := { (default : Frame) with fn := rec0.fn, kind := .normal, roundOf := some r.a.block }
      rw [q5] at hfr
      obtain ⟨ρ1, am1, w1, h1, h2, h3, h4, h5⟩ := hS _ _ _ _ _ _ _ _ e ρ L0 w0 w b { tmps := (rec0.params.zip args).foldl (fun tmps (t, a) => tmps.setIfInBounds t a) rec0.tmps, defers := [] } [.code rec0.assign, .beginRound, .code rec0.body] (c :: cs) nt w.heap.size
        ⟨_, _, rfl, q7, _, _, rfl, trivial, _, _, rfl, q8, rfl⟩ ⟨r, hr, rfl⟩ hfr h hlo (Nat.le_refl _) h.below.size (Marks.nil ..)
      split at hx
      · rename_i p' nt1 fr' ps' asg' body' hk1
        cases hx
        have hr1 := h3.le l r hr
        obtain ⟨rec1, t1, t2, t3, t4, t5, t6, t7, t8⟩ := h2.blk l r _ hr1 hk1 hL
        have hown := h2.own l r hr1 hL
        obtain ⟨w2, hw2⟩ : ∃ w2, w2 = w1.putObj r.a.block (.loop { rec1 with state := if (mjmp out.jmp).isNone then .ready else .done, pending := mjmp out.jmp }) := ⟨_, rfl⟩
        have hend := run_endRound (P := C.P) (mjmp out.jmp) t1
        rw [← hw2] at hend
        have hother : ∀ pb, pb ≠ r.a.block → pb < w1.heap.size → w2.heap[pb]? = w1.heap[pb]? := fun pb hp _ => by rw [hw2]; exact World.putObj_heap_other hp
        have hsz : w2.heap.size = w1.heap.size := by rw [hw2]; simp
        have hbel : Below w0.heap.size w0 w2 := h2.below.trans (by rw [hw2]; exact ⟨rfl, rfl, rfl, by simp, fun k hk => World.putObj_heap_other (by omega)⟩)
        refine ⟨ρ1, .bool (mjmp out.jmp).isNone, w2, rec0.fn, _, rec0.assign, rec0.body, run_yield q1 hargs, ?_, by rw [mjmp_isNone]; simp [VRel], ?_, ?_⟩
        · cases out with
          | done => exact h5.trans (.one (stepR_round_end rfl rfl hend))
          | ret => obtain ⟨k1, h5⟩ := h5; exact h5.trans (.one (stepR_round_ret rfl rfl hend))
          | exit id => obtain ⟨k1, h6, h5⟩ := h5; exact h5.trans (.one (stepR_round_exit rfl rfl h6 hend))
        · refine h2.turn hr1 hL hk1 trivial _ hbel hsz hother fun _ => ?_
          refine ⟨{ rec1 with state := if (mjmp out.jmp).isNone then .ready else .done, pending := mjmp out.jmp }, by rw [hw2]; exact World.putObj_heap_same hown.2.1, ?_, jmpRel_mjmp _, t4, t5, t6, t7, t8⟩
          rw [mjmp_isNone]
          split <;> rfl
        · exact h3.trans (Ext.turn (n := H.length) hr1 hL hsz hother) (Nat.le_refl _)
      · cases hx
    · cases hx
  · cases hx
end
end Go.AM

namespace Go.AM
open Go Go.RowKit
section
variable {C : Cfg} {I : World → Prop} {E : Tab} {rec : Rec} {ρ : Mp} {L0 lo nt : Nat} {w0 w : World} {H : Heap} {a : Fr} {am : Act}

theorem prep_call {op : Op} {f : Nat} {args : List AX} (h : prepOp C nt op = some (.call f args)) : ∃ c, op = .call c ∧ c.callee = .value (.func f) ∧ prepXs nt c.args.toList = some args := by
  cases op <;> simp only [prepOp] at h
  case call c =>
    obtain ⟨as, has, h⟩ := Option.bind_eq_some_iff.1 h
    refine ⟨c, rfl, ?_⟩
    cases hc : c.callee with
    | value x =>
      rw [hc] at h
      cases x <;> simp at h
      obtain ⟨rfl, rfl⟩ := h
      exact ⟨rfl, has⟩
    | builtin b =>
      rw [hc] at h
      cases b <;> simp only at h
      all_goals
        repeat' (split at h)
        all_goals (simp [Option.bind_eq_some_iff] at h)
      all_goals
        obtain ⟨_, _, _, _, _, _, h⟩ := h
        repeat' (split at h)
        all_goals simp at h
    | _ => rw [hc] at h; simp at h
  all_goals
    repeat' (split at h)
    all_goals (simp [Option.bind_eq_some_iff] at h)
theorem prep_callv {op : Op} {y : AX} {args : List AX} (h : prepOp C nt op = some (.callv y args)) : ∃ c x, op = .call c ∧ c.callee = .value x ∧ prepX nt x = some y ∧ prepXs nt c.args.toList = some args := by
  cases op <;> simp only [prepOp] at h
  case call c =>
    obtain ⟨as, has, h⟩ := Option.bind_eq_some_iff.1 h
    cases hc : c.callee with
    | value x =>
      rw [hc] at h
      cases x <;> simp at h
      all_goals
        obtain ⟨_, hy, rfl, rfl⟩ := h
        exact ⟨c, _, rfl, hc, hy, has⟩
    | builtin b =>
      rw [hc] at h
      cases b <;> simp only at h
      all_goals
        repeat' (split at h)
        all_goals (simp [Option.bind_eq_some_iff] at h)
      all_goals
        obtain ⟨_, _, _, _, _, _, h⟩ := h
        repeat' (split at h)
        all_goals simp at h
    | _ => rw [hc] at h; simp at h
  all_goals
    repeat' (split at h)
    all_goals (simp [Option.bind_eq_some_iff] at h)

/-- a value is called: where the machine goes -/
theorem run_callv {P : Program} {c : Call} {x : Operand} (hc : c.callee = .value x) (o : Oper) (ho : o.op = .call c) {fn : Fn} {us caps : Array Value} (hx : am.eval x = .func fn us caps) (w : World) :
    (execOp am.eval o).run P w = (invoke (.fn fn caps) (us ++ c.args.map am.eval)).run P w := by
  simp only [execOp, ho, resolve, hc, hx, Deferred.ofValue, Sem.run_bind, Sem.run_pure, Result.andThen_ok]

/-- **one operation** -/
theorem op_sim (hE : EOk C I E) (hS : Sim C I rec) {om : Oper} {oa : AOp} (hp : prepOp C nt om.op = some oa) {v : AV} {H' : Heap} (hx : opF E rec lo oa a H = some (v, H')) (h : HRel C I ρ L0 w0 H w) (hf : FrRel ρ nt a am.tmps) (hlo : L0 ≤ lo)
    {ops : Array Oper} {i : Nat} {rest : List Nat} (ho : ops[i]? = some om) (hw : Region.wanted om (yielded ops am.tmps) = true) (b : Frame) (km : List Item) (cs : List Frame) :
    ∃ ρ' x w', Steps C.P (lone (b.atR am (.inRegion ops (i :: rest) :: km)) cs w) (lone (b.atR (am.put om.dst x) (.inRegion ops rest :: km)) cs w') ∧ VRel ρ' v x ∧ HRel C I ρ' L0 w0 H' w' ∧ Ext ρ L0 H.length w ρ' w' := by
  have hd : ∀ c, om.op ≠ .defer c := fun c e => by rw [e] at hp; simp [prepOp] at hp
  have goCall : ∀ {f : Nat} {vs : List AV} {args : Array Value}, callF E rec lo f vs H = some (v, H') → VRelL ρ vs args.toList → (execOp am.eval om).run C.P w = (callFunc f args).run C.P w →
      ∃ ρ' x w', Steps C.P (lone (b.atR am (.inRegion ops (i :: rest) :: km)) cs w) (lone (b.atR (am.put om.dst x) (.inRegion ops rest :: km)) cs w') ∧ VRel ρ' v x ∧ HRel C I ρ' L0 w0 H' w' ∧ Ext ρ L0 H.length w ρ' w' := fun {f vs args} hcf hv hrun => by
    obtain ⟨hen, hcs⟩ := callF_sim hE hS hcf h hv hlo
    obtain ⟨ρ', x, w', h1, h2, h3, h4⟩ := hcs (b.atR am (.inRegion ops (i :: rest) :: km) :: cs)
    exact ⟨ρ', x, w', stepR_called ho hw hd (by rw [hrun]; exact hen args w) h1, h2, h3, h4⟩
  unfold opF at hx
  split at hx
  · rename_i f args
    obtain ⟨c, hop, hcal, hargs⟩ := prep_call hp
    have hr := run_callv (am := am) (P := C.P) (fn := .func f) (us := #[]) (caps := #[]) hcal om hop (by rfl) w
    refine goCall (args := c.args.map am.eval) hx ?_ (by rw [hr]; simp [invoke])
    simpa using evalXs hf hargs
  · rename_i x args
    obtain ⟨c, y, hop, hcal, hy, hargs⟩ := prep_callv hp
    have hyv := evalX hy hf
    have hav := evalXs hf hargs
    unfold callV at hx
    split at hx
    · rename_i f us caps e
      rw [e] at hyv
      simp only [VRel] at hyv
      obtain ⟨um, cm, hye, hum, hcm⟩ := hyv
      have hr := run_callv (am := am) (P := C.P) hcal om hop hye w
      refine goCall (args := um ++ c.args.map am.eval ++ cm) hx ?_ (by rw [hr]; simp [invoke])
      have := (hum.append hav).append hcm
      simpa using this
    · rename_i l e
      rw [e] at hyv
      simp only [VRel] at hyv
      obtain ⟨r, hr, hye⟩ := hyv
      have hrun := run_callv (am := am) (P := C.P) hcal om hop hye w
      split at hx
      · rename_i p nt' fr ps asg body hk
        obtain ⟨ρ', x, w', f, tmps, am', bm, h1, h2, h3, h4, h5⟩ := roundA_sim hS hk hx h hr (args := c.args.map am.eval) (by simpa using hav) hlo (b.atR am (.inRegion ops (i :: rest) :: km)) cs
        refine ⟨ρ', x, w', .head (stepR_roundOf ho hw hd (by rw [hrun]; simpa [invoke] using h1)) ?_, h3, h4, h5⟩
        rw [Frame.finish_atR, ho] at h2
        exact h2
      · cases hx
    · cases hx
  · obtain ⟨ρ', nx, x, w', h1, h2, h3, h4, h5⟩ := simOp h hf hlo hE.eq hE.key hp hx om rfl
    exact ⟨ρ', x, w', .one (stepR_value ho hw hd h1 h2), h3, h4, h5⟩

/-! ### The operations of a region -/
def OpsAt (C : Cfg) (nt : Nat) (ops : Array Oper) : List Nat → List AOper → Prop
  | [], l => l = []
  | i :: idx, l => ∃ om o l', l = o :: l' ∧ ops[i]? = some om ∧ prepOper C nt ops om = some o ∧ OpsAt C nt ops idx l'

theorem prepOper_spec {ops : Array Oper} {om : Oper} {o : AOper} (h : prepOper C nt ops om = some o) : prepOp C nt om.op = some o.op ∧ om.dst = o.dst ∧ (∀ d, o.dst = some d → d < nt) ∧
    (match om.guard with
     | none => o.guard = none
     | some (j, want) => ∃ s, (ops[j]?).bind (·.dst) = some s ∧ s < nt ∧ o.guard = some (s, want)) := by
  unfold prepOper at h
  obtain ⟨op, hop, h⟩ := Option.bind_eq_some_iff.1 h
  split at h
  · rename_i d hd
    split at h
    · rename_i hlt
      split at h
      · rename_i hg
        cases h
        exact ⟨hop, hd, fun d' e => by cases e; exact hlt, by rw [hg]⟩
      · rename_i j want hg
        obtain ⟨s, hs, h⟩ := Option.bind_eq_some_iff.1 h
        split at h
        · rename_i hsl
          cases h
          exact ⟨hop, hd, fun d' e => by cases e; exact hlt, by rw [hg]; exact ⟨s, hs, hsl, rfl⟩⟩
        · cases h
    · cases h
  · rename_i hd
    split at h
    · rename_i hg
      cases h
      exact ⟨hop, hd, (fun d' e => by cases e), by rw [hg]⟩
    · rename_i j want hg
      obtain ⟨s, hs, h⟩ := Option.bind_eq_some_iff.1 h
      split at h
      · rename_i hsl
        cases h
        exact ⟨hop, hd, (fun d' e => by cases e), by rw [hg]; exact ⟨s, hs, hsl, rfl⟩⟩
      · cases h

/-- the guard, as the machine reads it -/
theorem wanted_spec {ops : Array Oper} {om : Oper} {o : AOper} (h : prepOper C nt ops om = some o) (hf : FrRel ρ nt a am.tmps) {t : Bool} (hw : wantedA a o.guard = some t) : Region.wanted om (yielded ops am.tmps) = t := by
  obtain ⟨_, _, _, hg⟩ := prepOper_spec h
  unfold Region.wanted
  split at hg
  · rename_i e
    rw [hg] at hw
    simp only [wantedA] at hw
    cases hw
    rw [e]
  · rename_i j want e
    obtain ⟨s, hs, hlt, hg⟩ := hg
    rw [hg] at hw
    rw [e]
    simp only [wantedA] at hw
    have hv := hf.val s hlt
    have hsz := hf.size
    have hget : am.tmps[s]? = some (am.tmps.getD s undef) := by
      rw [Array.getD_eq_getD_getElem?, Array.getElem?_eq_getElem (show s < am.tmps.size by rw [hsz]; exact hlt)]; rfl
    have hy : yielded ops am.tmps j = (match am.tmps.getD s undef with | .bool x => some x | _ => none) := by
      unfold yielded
      rw [hs, Option.bind_some, hget]
      cases am.tmps.getD s undef <;> rfl
    simp only [hy]
    split at hw
    · rename_i x ex
      cases hw
      rw [ex] at hv
      rw [hv.bool]
      cases x <;> cases want <;> rfl
    · rename_i ex
      cases hw
      rw [ex] at hv
      simp only [VRel] at hv
      obtain ⟨cs, hce, _⟩ := hv
      rw [hce]
      rfl
    · cases hw

theorem FrRel.put' (f : FrRel ρ nt a am.tmps) {dst : Option Nat} (hd : ∀ d, dst = some d → d < nt) {v : AV} {x : Value} (hv : VRel ρ v x) : FrRel ρ nt (a.put dst v) (am.put dst x).tmps := by
  cases dst with
  | none => exact f
  | some d => exact f.put (hd d rfl) hv
theorem put_defers (am : Act) (dst : Option Nat) (x : Value) : (am.put dst x).defers = am.defers := by cases dst <;> rfl

/-- one operation, its guard looked at -/
theorem oper_sim (hE : EOk C I E) (hS : Sim C I rec) (hR : LenR rec) {om : Oper} {o : AOper} {ops : Array Oper} {i : Nat} {rest : List Nat} (ho : ops[i]? = some om) (hp : prepOper C nt ops om = some o) {v : AV} {H' : Heap}
    (hx : (match wantedA a o.guard with
      | some true => opF E rec lo o.op a H
      | some false => some (.no, H)
      | none => none) = some (v, H')) (h : HRel C I ρ L0 w0 H w) (hf : FrRel ρ nt a am.tmps) (hlo : L0 ≤ lo) (b : Frame) (km : List Item) (cs : List Frame) :
    ∃ ρ' x w', Steps C.P (lone (b.atR am (.inRegion ops (i :: rest) :: km)) cs w) (lone (b.atR (am.put o.dst x) (.inRegion ops rest :: km)) cs w') ∧ VRel ρ' v x ∧ HRel C I ρ' L0 w0 H' w' ∧ Ext ρ L0 H.length w ρ' w' ∧ H.length ≤ H'.length := by
  obtain ⟨hpo, hdst, hdn, _⟩ := prepOper_spec hp
  split at hx
  · rename_i hw
    obtain ⟨ρ', x, w', h1, h2, h3, h4⟩ := op_sim hE hS hpo hx h hf hlo ho (wanted_spec hp hf hw) b km cs (rest := rest)
    rw [hdst] at h1
    exact ⟨ρ', x, w', h1, h2, h3, h4, opF_len hR hx⟩
  · rename_i hw
    cases hx
    refine ⟨ρ, undef, w, .one ?_, by simp only [VRel, undef]; exact ⟨#[], rfl, by simp [VRelL]⟩, h, Ext.refl .., Nat.le_refl _⟩
    have := stepR_op_skip (P := C.P) (b := b) (a := am) (k := km) (cs := cs) (w := w) (ops := ops) (i := i) (rest := rest) (by rw [ho]; simp [wanted_spec hp hf hw])
    rw [this, ho]
    simp [hdst]
  · cases hx

theorem ops_sim (hE : EOk C I E) (hS : Sim C I rec) (hR : LenR rec) {ops : Array Oper} (hlo : L0 ≤ lo) (b : Frame) (km : List Item) (cs : List Frame) : ∀ {l : List AOper} {idx : List Nat} {ρ : Mp} {w : World} {H : Heap} {a : Fr} {am : Act} {a' : Fr} {H' : Heap},
    OpsAt C nt ops idx l → runOps E rec lo l a H = some (a', H') → HRel C I ρ L0 w0 H w → FrRel ρ nt a am.tmps →
    ∃ ρ' am' w', Steps C.P (lone (b.atR am (.inRegion ops idx :: km)) cs w) (lone (b.atR am' (.inRegion ops [] :: km)) cs w') ∧ FrRel ρ' nt a' am'.tmps ∧ HRel C I ρ' L0 w0 H' w' ∧ Ext ρ L0 H.length w ρ' w' ∧ am'.defers = am.defers := by
  intro l
  induction l with
  | nil =>
    intro idx ρ w H a am a' H' hl hx h hf
    simp only [runOps] at hx
    cases hx
    cases idx with
    | nil => exact ⟨ρ, am, w, .refl .., hf, h, Ext.refl .., rfl⟩
    | cons i idx => simp only [OpsAt] at hl; obtain ⟨_, _, _, e, _⟩ := hl; cases e
  | cons o l ih =>
    intro idx ρ w H a am a' H' hl hx h hf
    cases idx with
    | nil => simp only [OpsAt] at hl; cases hl
    | cons i idx =>
      simp only [OpsAt] at hl
      obtain ⟨om, o', l', e, ho, hp, hl⟩ := hl
      cases e
      obtain ⟨_, _, hdn, _⟩ := prepOper_spec hp
      have key : ∀ {v : AV} {H1 : Heap}, (match wantedA a o.guard with
          | some true => opF E rec lo o.op a H
          | some false => some (.no, H)
          | none => none) = some (v, H1) → runOps E rec lo l (a.put o.dst v) H1 = some (a', H') → ∃ ρ' am' w', Steps C.P (lone (b.atR am (.inRegion ops (i :: idx) :: km)) cs w) (lone (b.atR am' (.inRegion ops [] :: km)) cs w') ∧ FrRel ρ' nt a' am'.tmps ∧ HRel C I ρ' L0 w0 H' w' ∧ Ext ρ L0 H.length w ρ' w' ∧ am'.defers = am.defers := fun {v H1} h1 h2 => by
        obtain ⟨ρ1, x, w1, s1, hv, hH1, hE1, hle⟩ := oper_sim hE hS hR ho hp h1 h hf hlo b km cs (rest := idx)
        obtain ⟨ρ2, am2, w2, s2, hf2, hH2, hE2, hd2⟩ := ih hl h2 hH1 ((hf.mono hE1.le).put' hdn hv)
        exact ⟨ρ2, am2, w2, s1.trans s2, hf2, hH2, hE1.trans hE2 hle, hd2.trans (put_defers ..)⟩
      simp only [runOps] at hx
      split at hx
      · rename_i hw
        obtain ⟨⟨v, H1⟩, h1, h2⟩ := Option.bind_eq_some_iff.1 hx
        exact key (by rw [hw]; exact h1) h2
      · rename_i hw
        exact key (v := .no) (H1 := H) (by rw [hw]) hx
      · cases hx

theorem opsAt_range {ops : Array Oper} : ∀ {os : List Oper} {l : List AOper} {k : Nat}, prepOpers C nt ops os = some l → (∀ j, os[j]? = ops[k + j]?) → OpsAt C nt ops (List.range' k os.length) l
  | [], _, _, h, _ => by simp [prepOpers] at h; subst h; simp [OpsAt]
  | o :: os, l, k, h, hg => by
    simp only [prepOpers] at h
    obtain ⟨x, hx, h⟩ := Option.bind_eq_some_iff.1 h
    obtain ⟨xs, hxs, rfl⟩ := Option.map_eq_some_iff.1 h
    have h0 := hg 0
    simp only [List.length_cons, List.range'_succ, OpsAt]
    refine ⟨o, x, xs, rfl, by simpa using h0.symm, hx, opsAt_range hxs fun j => ?_⟩
    have := hg (j + 1)
    simp only [List.getElem?_cons_succ] at this
    rw [this]; congr 1; omega
theorem opsAt_all {ops : Array Oper} {l : List AOper} (h : prepOpers C nt ops ops.toList = some l) : OpsAt C nt ops (List.range ops.size) l := by
  have := opsAt_range (k := 0) h (fun j => by simp)
  rw [List.range_eq_range']
  simpa using this
end
end Go.AM

namespace Go.AM
open Go Go.RowKit

def stepV (E : Tab) (rec : Rec) (lo : Nat) (o : AOper) (a : Fr) (H : Heap) : Option (AV × Heap) :=
  match wantedA a o.guard with
  | some true => opF E rec lo o.op a H
  | some false => some (.no, H)
  | none => none

/-! ### The order's masks -/
theorem upOf_bit {acc : List Nat} {i : Nat} : ∀ {es : List Nat} {m : Nat}, (es.foldl (fun m e => m ||| 2 ^ e ||| acc.getD e 0) m).testBit i = true → m.testBit i = true ∨ ∃ e ∈ es, e = i ∨ (acc.getD e 0).testBit i = true
  | [], _, h => .inl h
  | e :: es, m, h => by
    simp only [List.foldl_cons] at h
    rcases upOf_bit h with h | ⟨e', he, h⟩
    · simp only [Nat.testBit_or, Bool.or_eq_true, Nat.testBit_two_pow, decide_eq_true_eq] at h
      rcases h with (h | h) | h
      · exact .inl h
      · exact .inr ⟨e, by simp, .inl h⟩
      · exact .inr ⟨e, by simp, .inr h⟩
    · exact .inr ⟨e', by simp [he], h⟩
theorem maskOf_bit' {t : Nat} : ∀ {l : List Nat} {m : Nat}, (m.testBit t = true ∨ t ∈ l) → (l.foldl (fun m t => m ||| 2 ^ t) m).testBit t = true
  | [], _, h => by simpa using h
  | x :: l, m, h => by
    simp only [List.foldl_cons]
    refine maskOf_bit' ?_
    rcases h with h | h
    · left; simp [Nat.testBit_or, h]
    · rcases List.mem_cons.1 h with rfl | h
      · left; simp [Nat.testBit_or]
      · exact .inr h
theorem maskOf_bit {l : List Nat} {t : Nat} (h : t ∈ l) : (maskOf l).testBit t = true := maskOf_bit' (.inr h)

theorem ups_spec : ∀ (os : List Oper) (acc : List Nat), ∃ rest, ups acc os = acc ++ rest ∧ rest.length = os.length ∧
    ∀ (j : Nat) (o : Oper), os[j]? = some o → rest[j]? = some (upOf (acc ++ rest.take j) (edges o))
  | [], acc => ⟨[], by simp [ups], rfl, fun j o h => by simp at h⟩
  | o :: os, acc => by
    obtain ⟨rest, h1, h2, h3⟩ := ups_spec os (acc ++ [upOf acc (edges o)])
    refine ⟨upOf acc (edges o) :: rest, by simp [ups, h1], by simp [h2], fun j o' h => ?_⟩
    cases j with
    | zero => simp at h; subst h; simp
    | succ j =>
      simp at h
      have := h3 j o' h
      simpa using this
theorem edgesOk_spec : ∀ {os : List Oper} {k : Nat}, edgesOk k os = true → ∀ (j : Nat) (o : Oper), os[j]? = some o → ∀ e ∈ edges o, e < k + j
  | [], _, _, j, o, h => by simp at h
  | o :: os, k, hk, j, o', h => by
    simp only [edgesOk, Bool.and_eq_true] at hk
    cases j with
    | zero => simp at h; subst h; intro e he; simpa using List.all_eq_true.1 hk.1 e he
    | succ j => simp at h; intro e he; have := edgesOk_spec hk.2 j o' h e he; omega

/-- i stands ahead of j in every order -/
def Ahead (ops : List Oper) (j i : Nat) : Prop := ((ups [] ops).getD j 0).testBit i = true
theorem ahead_spec {ops : List Oper} (he : edgesOk 0 ops = true) {j i : Nat} {o : Oper} (ho : ops[j]? = some o) (h : Ahead ops j i) : ∃ e ∈ edges o, e = i ∨ Ahead ops e i := by
  obtain ⟨rest, h1, h2, h3⟩ := ups_spec ops []
  simp only [List.nil_append] at h1 h3
  unfold Ahead at h
  rw [h1] at h
  have hj := h3 j o ho
  rw [List.getD_eq_getElem?_getD, hj] at h
  simp only [Option.getD_some, upOf] at h
  rcases upOf_bit h with h | ⟨e, hem, h⟩
  · simp at h
  · refine ⟨e, hem, h.imp id fun h => ?_⟩
    have hlt := edgesOk_spec he j o ho e hem
    unfold Ahead
    rw [h1]
    rw [List.getD_eq_getElem?_getD] at h ⊢
    rw [List.getElem?_take, if_pos (by omega)] at h
    exact h

theorem infos_spec {kd : Nat → Kd} : ∀ {us : List Nat} {xs : List AOper}, us.length = xs.length → ∀ (j : Nat) (x : AOper), xs[j]? = some x → (infos kd us xs)[j]? = some ⟨x.dst, maskOf x.reads, x.op.cl kd, us.getD j 0⟩
  | [], [], _, j, x, h => by simp at h
  | [], _ :: _, h, _, _, _ => by simp at h
  | _ :: _, [], h, _, _, _ => by simp at h
  | u :: us, y :: ys, hl, j, x, h => by
    cases j with
    | zero => simp at h; subst h; simp [infos]
    | succ j => simp at h; simp only [infos, List.getElem?_cons_succ, List.getD_cons_succ]; exact infos_spec (by simpa using hl) j x h
theorem pairsOk_spec {ck : List (Nat × Nat)} {j : Nat} {y : OI} : ∀ {xs : List OI} {k : Nat}, pairsOk ck j y k xs = true → ∀ (i : Nat) (x : OI), xs[i]? = some x → pairOk ck (k + i) j x y = true
  | [], _, _, i, x, h => by simp at h
  | z :: zs, k, hk, i, x, h => by
    simp only [pairsOk, Bool.and_eq_true] at hk
    cases i with
    | zero => simp at h; subst h; simpa using hk.1
    | succ i => simp at h; have := pairsOk_spec hk.2 i x h; rwa [show k + 1 + i = k + (i + 1) by omega] at this
theorem allOk_spec {ck : List (Nat × Nat)} : ∀ {ys past : List OI} {k : Nat}, k = past.length → allOk ck past k ys = true → ∀ (i j : Nat) (x y : OI), i < j → past.length ≤ j → (past ++ ys)[i]? = some x → (past ++ ys)[j]? = some y → pairOk ck i j x y = true
  | [], past, k, _, _, i, j, x, y, _, hj, _, h2 => by
    have := (List.getElem?_eq_some_iff.1 h2).1
    simp at this; omega
  | z :: zs, past, k, hk, h, i, j, x, y, hij, hj, h1, h2 => by
    simp only [allOk, Bool.and_eq_true] at h
    by_cases hjk : j = past.length
    · subst hjk
      rw [List.getElem?_append_right (Nat.le_refl _)] at h2
      simp at h2; subst h2
      rw [List.getElem?_append_left hij] at h1
      have := pairsOk_spec h.1 i x h1
      rw [hk] at this
      simpa using this
    · refine allOk_spec (past := past ++ [z]) (k := k + 1) (by simp [hk]) h.2 i j x y hij (by simp; omega) ?_ ?_
      · simpa using h1
      · simpa using h2

/-- what two operations, i ahead of j, are to each other -/
theorem pair_spec {kd : Nat → Kd} {ops : List Oper} {l : List AOper} {ck : List (Nat × Nat)} (h : drawOk kd ops l ck = true) (hl : l.length = ops.length) {i j : Nat} {x y : AOper} (hij : i < j) (hx : l[i]? = some x) (hy : l[j]? = some y) :
    (∀ d d', x.dst = some d → y.dst = some d' → d ≠ d') ∧
    (Ahead ops j i ∨ ((∀ d, x.dst = some d → d ∉ y.reads) ∧ (∀ d, y.dst = some d → d ∉ x.reads) ∧ memOk ck i j (x.op.cl kd) (y.op.cl kd) = true)) := by
  unfold drawOk at h
  rw [Bool.and_eq_true] at h
  obtain ⟨rest, h1, h2, _⟩ := ups_spec ops []
  simp only [List.nil_append] at h1
  have hlen : (ups [] ops).length = l.length := by rw [h1, h2, hl]
  have := allOk_spec (past := []) rfl h.2 i j _ _ hij (by simp) (by simpa using infos_spec (kd := kd) hlen i x hx) (by simpa using infos_spec (kd := kd) hlen j y hy)
  simp only [pairOk, Bool.and_eq_true, Bool.or_eq_true] at this
  refine ⟨fun d d' e e' => ?_, this.2.imp id fun q => ⟨fun d e hm => ?_, fun d e hm => ?_, q.2⟩⟩
  · have h3 := this.1
    rw [e, e'] at h3
    simpa [apart] using h3
  · have h3 := q.1.1
    rw [e] at h3
    simp [offMask, maskOf_bit hm] at h3
  · have h3 := q.1.2
    rw [e] at h3
    simp [offMask, maskOf_bit hm] at h3

/-! ### What an operation reads -/
theorem ev_congr {a a' : Fr} {x : AX} (h : ∀ t ∈ x.reads, a t = a' t) : ev a x = ev a' x := by
  cases x with
  | t n => exact h n (by simp [AX.reads])
  | c v => rfl
theorem evs_congr {a a' : Fr} {xs : List AX} (h : ∀ t ∈ xs.flatMap AX.reads, a t = a' t) : xs.map (ev a) = xs.map (ev a') :=
  List.map_congr_left fun x hx => ev_congr fun t ht => h t (List.mem_flatMap.2 ⟨x, hx, ht⟩)
theorem bound_congr {a a' : Fr} {x : Option AX} (h : ∀ t ∈ readsO x, a t = a' t) (d m : Nat) : boundA a x d m = boundA a' x d m := by
  cases x with
  | none => rfl
  | some x => simp only [boundA, ev_congr (a := a) (a' := a') (x := x) h]
theorem opF_congr {E : Tab} {rec : Rec} {lo : Nat} {a a' : Fr} {H : Heap} {op : AOp} (h : ∀ t ∈ op.reads, a t = a' t) : opF E rec lo op a H = opF E rec lo op a' H := by
  cases op
  case build z ps =>
    have : (ps.map fun q => (q.1, q.2.1, ev a q.2.2)) = ps.map fun q => (q.1, q.2.1, ev a' q.2.2) := List.map_congr_left fun q hq => by
      rw [ev_congr (a := a) (a' := a') fun t ht => h t (by simp only [AOp.reads, List.mem_flatMap]; exact ⟨q, hq, ht⟩)]
    simp only [opF, opA, this]
  case bslice z n es ps =>
    have : (ps.map fun q => (q.1 * es, es, ev a q.2)) = ps.map fun q => (q.1 * es, es, ev a' q.2) := List.map_congr_left fun q hq => by
      rw [ev_congr (a := a) (a' := a') fun t ht => h t (by simp only [AOp.reads, List.mem_flatMap]; exact ⟨q, hq, ht⟩)]
    simp only [opF, opA, this]
  case alloc | lenA | bad => rfl
  case mkmap n => rfl
  case mn xs | mx xs => simp only [opF, opA, evs_congr (a := a) (a' := a') h]
  case mkfn f us xs =>
    simp only [AOp.reads, List.mem_append] at h
    simp only [opF, opA, evs_congr (a := a) (a' := a') (xs := us) fun t ht => h t (.inl ht), evs_congr (a := a) (a' := a') (xs := xs) fun t ht => h t (.inr ht)]
  case call f xs => simp only [opF, evs_congr (a := a) (a' := a') h]
  case callv x xs =>
    simp only [AOp.reads, List.mem_append] at h
    simp only [opF, ev_congr (a := a) (a' := a') (x := x) fun t ht => h t (.inl ht), evs_congr (a := a) (a' := a') (xs := xs) fun t ht => h t (.inr ht)]
  case slice es x l hh m =>
    simp only [AOp.reads, List.mem_append] at h
    simp only [opF, opA, ev_congr (a := a) (a' := a') (x := x) fun t ht => h t (.inl (.inl (.inl ht))), bound_congr (a := a) (a' := a') (x := l) fun t ht => h t (.inl (.inl (.inr ht))), bound_congr (a := a) (a' := a') (x := hh) fun t ht => h t (.inl (.inr ht)), bound_congr (a := a) (a' := a') (x := m) fun t ht => h t (.inr ht)]
  case slarr n es x l hh =>
    simp only [AOp.reads, List.mem_append] at h
    simp only [opF, opA, ev_congr (a := a) (a' := a') (x := x) fun t ht => h t (.inl (.inl ht)), bound_congr (a := a) (a' := a') (x := l) fun t ht => h t (.inl (.inr ht)), bound_congr (a := a) (a' := a') (x := hh) fun t ht => h t (.inr ht)]
  case pick c x y | mset n c x y =>
    simp only [AOp.reads, List.mem_append] at h
    simp only [opF, opA, ev_congr (a := a) (a' := a') (x := c) fun t ht => h t (.inl (.inl ht)), ev_congr (a := a) (a' := a') (x := x) fun t ht => h t (.inl (.inr ht)), ev_congr (a := a) (a' := a') (x := y) fun t ht => h t (.inr ht)]
  case store n x y | bin op x y | beq neg x y | seq neg x y | aeq neg n x y | iaddr es x y | iaddrA n es x y | index n es ag x y | append es b x y | appendz es b z x y | copy es x y | mlook n z ok x y =>
    simp only [AOp.reads, List.mem_append] at h
    simp only [opF, opA, ev_congr (a := a) (a' := a') (x := x) fun t ht => h t (.inl ht), ev_congr (a := a) (a' := a') (x := y) fun t ht => h t (.inr ht)]
  all_goals simp only [opF, opA, ev_congr (a := a) (a' := a') h]
theorem stepV_congr {E : Tab} {rec : Rec} {lo : Nat} {a a' : Fr} {H : Heap} {o : AOper} (h : ∀ t ∈ o.reads, a t = a' t) : stepV E rec lo o a H = stepV E rec lo o a' H := by
  obtain ⟨dst, op, guard⟩ := o
  simp only [AOper.reads, List.mem_append] at h
  have h1 : opF E rec lo op a H = opF E rec lo op a' H := opF_congr fun t ht => h t (.inl ht)
  have h2 : wantedA a guard = wantedA a' guard := by
    cases guard with
    | none => rfl
    | some q => obtain ⟨s, w⟩ := q; simp only [wantedA, h s (.inr (by simp))]
  simp only [stepV, h1, h2]

/-! ### How it stands to memory -/
theorem opF_pure {E : Tab} {rec : Rec} {lo : Nat} {kd : Nat → Kd} {a : Fr} {H H1 : Heap} {op : AOp} {v : AV} (hc : op.cl kd = .pure) (h : opF E rec lo op a H = some (v, H1)) : H1 = H ∧ ∀ (G : Heap) (lo' : Nat), opF E rec lo' op a G = some (v, G) := by
  cases op <;> simp only [AOp.cl] at hc <;> try (first | cases hc; done | (split at hc <;> cases hc; done))
  all_goals
    simp only [opF, opA] at h ⊢
    repeat' (split at h)
    all_goals first
      | (cases h; done)
      | (cases h; exact ⟨rfl, fun G lo' => by simp_all⟩)
      | (obtain ⟨u, hu, e⟩ := Option.map_eq_some_iff.1 h; cases e; exact ⟨rfl, fun G lo' => by simp_all⟩)
theorem opF_new {E : Tab} {rec : Rec} {lo : Nat} {kd : Nat → Kd} {a : Fr} {H H1 : Heap} {op : AOp} {v : AV} (hc : op.cl kd = .new) (h : opF E rec lo op a H = some (v, H1)) :
    ∃ vs, H1 = H ++ [.cells vs] ∧ ∀ (G : Heap) (lo' : Nat), G.length = H.length → opF E rec lo' op a G = some (v, G ++ [.cells vs]) := by
  cases op <;> simp only [AOp.cl] at hc <;> try (first | cases hc; done | (split at hc <;> cases hc; done))
  all_goals
    simp only [opF, opA] at h ⊢
    repeat' (split at h)
    all_goals first
      | (cases h; done)
      | (cases h; exact ⟨_, rfl, fun G lo' hl => by simp_all⟩)
      | (obtain ⟨u, hu, e⟩ := Option.map_eq_some_iff.1 h; cases e; exact ⟨_, rfl, fun G lo' hl => by simp_all⟩)
def noLoop : Blk → Prop
  | .loop .. => False
  | .map _ _ => False
  | _ => True
theorem callF_call {E : Tab} {rec : Rec} {lo : Nat} {H H1 : Heap} {f : Nat} {vs : List AV} {v : AV} (hk : E.kd f ≠ .wrt) (hk2 : E.kd f ≠ .del) (h : callF E rec lo f vs H = some (v, H1)) :
    (∃ new : List Blk, H1 = H ++ new ∧ ∀ k ∈ new, noLoop k) ∧ ∀ lo', callF E rec lo' f vs H = some (v, H1) := by
  unfold callF at h ⊢
  cases hf : E.kd f with
  | wrt => exact absurd hf hk
  | del => exact absurd hf hk2
  | prim g =>
    simp only [hf] at h ⊢
    refine ⟨?_, fun _ => h⟩
    obtain ⟨u, _, e⟩ := Option.bind_eq_some_iff.1 h
    split at e
    · cases e; exact ⟨[], by simp, fun _ hk => by cases hk⟩
    · cases e
  | ro =>
    simp only [hf] at h ⊢
    refine ⟨?_, fun _ => h⟩
    obtain ⟨u, _, e⟩ := Option.bind_eq_some_iff.1 h
    obtain ⟨r, _, e2⟩ := Option.map_eq_some_iff.1 e
    cases e2
    split
    · exact ⟨[], by simp, fun _ hk => by cases hk⟩
    · refine ⟨_, rfl, fun k hk => ?_⟩
      obtain ⟨k0, _, rfl⟩ := List.mem_map.1 hk
      cases k0 <;> trivial
  | closed =>
    simp only [hf] at h ⊢
    refine ⟨?_, fun _ => h⟩
    split at h
    · obtain ⟨u, _, e⟩ := Option.bind_eq_some_iff.1 h
      obtain ⟨r, _, e2⟩ := Option.bind_eq_some_iff.1 e
      split at e2
      · cases e2; exact ⟨[], by simp, fun _ hk => by cases hk⟩
      · cases e2
    · cases h
theorem opF_call {E : Tab} {rec : Rec} {lo : Nat} {a : Fr} {H H1 : Heap} {op : AOp} {v : AV} (hc : op.cl E.kd = .call) (h : opF E rec lo op a H = some (v, H1)) :
    (∃ new : List Blk, H1 = H ++ new ∧ ∀ k ∈ new, noLoop k) ∧ ∀ lo', opF E rec lo' op a H = some (v, H1) := by
  cases op <;> simp only [AOp.cl] at hc <;> try (cases hc; done)
  rename_i f args
  simp only [opF] at h ⊢
  exact callF_call (fun e => by rw [e] at hc; cases hc) (fun e => by rw [e] at hc; cases hc) h
end Go.AM

namespace Go.AM
open Go Go.RowKit

mutual
theorem VRel.both {ρ1 ρ2 ρ3 : Mp} (h : ∀ b r1 r2, ρ1 b = some r1 → ρ2 b = some r2 → ρ3 b = some r1) : ∀ (v : AV) (x y : Value), VRel ρ1 v x → VRel ρ2 v y → VRel ρ3 v x
  | .un, _, _, _, _ => by simp [VRel]
  | .int _ _, _, _, hv, _ => by simpa [VRel] using hv
  | .b _, _, _, hv, _ => by simpa [VRel] using hv
  | .nilp, _, _, hv, _ => by simpa [VRel] using hv
  | .nilf, _, _, hv, _ => by simpa [VRel] using hv
  | .nils, _, _, hv, _ => by simpa [VRel] using hv
  | .p b o, _, _, hv, hu => by simp only [VRel] at hv hu ⊢; obtain ⟨r, e, q⟩ := hv; obtain ⟨r2, e2, _⟩ := hu; exact ⟨r, h _ _ _ e e2, q⟩
  | .s es b o n c, _, _, hv, hu => by simp only [VRel] at hv hu ⊢; obtain ⟨r, o', c', e, q⟩ := hv; obtain ⟨r2, _, _, e2, _⟩ := hu; exact ⟨r, o', c', h _ _ _ e e2, q⟩
  | .fn f us caps, _, _, hv, hu => by
    simp only [VRel] at hv hu ⊢
    obtain ⟨ds, cs, e, p, q⟩ := hv; obtain ⟨ds2, cs2, _, p2, q2⟩ := hu
    exact ⟨ds, cs, e, VRelL.both h us _ _ p p2, VRelL.both h caps _ _ q q2⟩
  | .yl l, _, _, hv, hu => by simp only [VRel] at hv hu ⊢; obtain ⟨r, e, q⟩ := hv; obtain ⟨r2, e2, _⟩ := hu; exact ⟨r, h _ _ _ e e2, q⟩
  | .m l, _, _, hv, hu => by simp only [VRel] at hv hu ⊢; obtain ⟨r, e, q⟩ := hv; obtain ⟨r2, e2, _⟩ := hu; exact ⟨r, h _ _ _ e e2, q⟩
  | .ag vs, _, _, hv, hu => by simp only [VRel] at hv hu ⊢; obtain ⟨cs, e, q⟩ := hv; obtain ⟨cs2, _, q2⟩ := hu; exact ⟨cs, e, VRelL.both h vs _ _ q q2⟩
  | .tp vs, _, _, hv, hu => by simp only [VRel] at hv hu ⊢; obtain ⟨cs, e, q⟩ := hv; obtain ⟨cs2, _, q2⟩ := hu; exact ⟨cs, e, VRelL.both h vs _ _ q q2⟩
theorem VRelL.both {ρ1 ρ2 ρ3 : Mp} (h : ∀ b r1 r2, ρ1 b = some r1 → ρ2 b = some r2 → ρ3 b = some r1) : ∀ (vs : List AV) (xs ys : List Value), VRelL ρ1 vs xs → VRelL ρ2 vs ys → VRelL ρ3 vs xs
  | [], _, _, hv, _ => by simpa [VRelL] using hv
  | v :: vs, _, _, hv, hu => by
    simp only [VRelL] at hv hu ⊢
    obtain ⟨x, xs, e, p, q⟩ := hv; obtain ⟨y, ys, _, p2, q2⟩ := hu
    exact ⟨x, xs, e, VRel.both h v _ _ p p2, VRelL.both h vs _ _ q q2⟩
end

/-! ### The run in the text's order -/
structure Tr (E : Tab) (rec : Rec) (lo : Nat) (l : List AOper) (a : Fr) (H : Heap) (A : Nat → Fr) (Hs : Nat → Heap) (V : Nat → AV) : Prop where
  a0 : A 0 = a
  h0 : Hs 0 = H
  step : ∀ j o, l[j]? = some o → stepV E rec lo o (A j) (Hs j) = some (V j, Hs (j + 1)) ∧ A (j + 1) = (A j).put o.dst (V j)

theorem runTr_spec {E : Tab} {rec : Rec} {lo : Nat} : ∀ {l : List AOper} {a : Fr} {H : Heap} {tr : List (Fr × Heap)}, runTr E rec lo l a H = some tr → tr.length = l.length + 1 ∧ tr[0]? = some (a, H) ∧
    ∀ j o, l[j]? = some o → ∃ s v H1, tr[j]? = some s ∧ stepV E rec lo o s.1 s.2 = some (v, H1) ∧ tr[j + 1]? = some (s.1.put o.dst v, H1)
  | [], a, H, tr, h => by cases h; exact ⟨rfl, rfl, fun j o h => by simp at h⟩
  | o :: os, a, H, tr, h => by
    have key : ∀ {v : AV} {H1 : Heap}, stepV E rec lo o a H = some (v, H1) → (runTr E rec lo os (a.put o.dst v) H1).map ((a, H) :: ·) = some tr → tr.length = (o :: os).length + 1 ∧ tr[0]? = some (a, H) ∧
        ∀ j o', (o :: os)[j]? = some o' → ∃ s v H1, tr[j]? = some s ∧ stepV E rec lo o' s.1 s.2 = some (v, H1) ∧ tr[j + 1]? = some (s.1.put o'.dst v, H1) := fun {v H1} h1 h2 => by
      obtain ⟨t, ht, rfl⟩ := Option.map_eq_some_iff.1 h2
      obtain ⟨q1, q2, q3⟩ := runTr_spec ht
      refine ⟨by simp [q1], rfl, fun j o' ho => ?_⟩
      cases j with
      | zero => simp at ho; subst ho; exact ⟨(a, H), v, H1, rfl, h1, by simpa using q2⟩
      | succ j => simp at ho; simpa using q3 j o' ho
    unfold runTr at h
    split at h
    · rename_i hw
      obtain ⟨⟨v, H1⟩, hy, e⟩ := Option.bind_eq_some_iff.1 h
      exact key (v := v) (H1 := H1) (by simp only [stepV, hw]; exact hy) e
    · rename_i hw
      exact key (v := .no) (H1 := H) (by simp only [stepV, hw]) h
    · cases h
theorem tr_of {E : Tab} {rec : Rec} {lo : Nat} {l : List AOper} {a : Fr} {H : Heap} {tr : List (Fr × Heap)} (h : runTr E rec lo l a H = some tr) :
    ∃ A Hs V, Tr E rec lo l a H A Hs V ∧ ∀ j, j ≤ l.length → tr[j]? = some (A j, Hs j) := by
  obtain ⟨h1, h2, h3⟩ := runTr_spec h
  have hget : ∀ j, j ≤ l.length → tr[j]? = some ((tr.getD j (a, H)).1, (tr.getD j (a, H)).2) := fun j hj => by
    rw [List.getD_eq_getElem?_getD, List.getElem?_eq_getElem (by omega)]; rfl
  have hz : tr.getD 0 (a, H) = (a, H) := by rw [List.getD_eq_getElem?_getD, h2]; rfl
  refine ⟨fun j => (tr.getD j (a, H)).1, fun j => (tr.getD j (a, H)).2, fun j => match l[j]? with
    | some o => ((stepV E rec lo o (tr.getD j (a, H)).1 (tr.getD j (a, H)).2).map (·.1)).getD .un
    | none => .un, ⟨by simp only [hz], by simp only [hz], fun j o ho => ?_⟩, hget⟩
  have hj := (List.getElem?_eq_some_iff.1 ho).1
  obtain ⟨s, v, H1, q1, q2, q3⟩ := h3 j o ho
  have e0 := hget j (by omega)
  rw [q1] at e0
  have e1 := hget (j + 1) (by omega)
  rw [q3] at e1
  simp only [Option.some.injEq] at e0 e1
  rw [e0] at q2 e1
  simp only at q2 e1
  have ea := congrArg Prod.fst e1
  have eh := congrArg Prod.snd e1
  simp only at ea eh
  simp only [ho, q2, Option.map_some, Option.getD_some]
  exact ⟨by rw [eh], ea.symm⟩

section
variable {C : Cfg} {I : World → Prop} {E : Tab} {rec : Rec} {ρ : Mp} {L0 lo nt : Nat} {w0 wS w : World} {H : Heap} {a : Fr} {l : List AOper} {ops : Array Oper} {A : Nat → Fr} {Hs : Nat → Heap} {V : Nat → AV}

theorem stepV_len (hR : LenR rec) {o : AOper} {v : AV} {H1 : Heap} (h : stepV E rec lo o a H = some (v, H1)) : H.length ≤ H1.length := by
  unfold stepV at h
  split at h
  · exact opF_len hR h
  · cases h; exact Nat.le_refl _
  · cases h
theorem Tr.len (T : Tr E rec lo l a H A Hs V) (hR : LenR rec) {j k : Nat} (hjk : j ≤ k) (hk : k ≤ l.length) : (Hs j).length ≤ (Hs k).length := by
  induction hjk with
  | refl => exact Nat.le_refl _
  | @step m hm ih =>
    have := T.step m l[m] (by simp)
    exact Nat.le_trans (ih (by omega)) (stepV_len hR this.1)

/-- the run in the text's order, in the machine: what blocks the values speak of -/
structure Seqs (C : Cfg) (I : World → Prop) (L0 : Nat) (w0 : World) (nt n : Nat) (A : Nat → Fr) (Hs : Nat → Heap) (V : Nat → AV) (ρ : Mp) (ρs : Nat → Mp) : Prop where
  zero : ρs 0 = ρ
  fr : ∀ k, k ≤ n → ∃ ts : Array Value, FrRel (ρs k) nt (A k) ts
  hp : ∀ k, k ≤ n → ∃ w, HRel C I (ρs k) L0 w0 (Hs k) w
  val : ∀ k, k < n → ∃ x, VRel (ρs (k + 1)) (V k) x
  le : ∀ k, k < n → Mp.le (ρs k) (ρs (k + 1))
  back : ∀ k, k < n → ∀ b r, ρs (k + 1) b = some r → b < (Hs k).length → ρs k b = some r

theorem seqs_of (hE : EOk C I E) (hS : Sim C I rec) (hR : LenR rec) (T : Tr E rec lo l a H A Hs V) (hlo : L0 ≤ lo) (hp : OpsAt C nt ops (List.range l.length) l) (h : HRel C I ρ L0 w0 H wS) {am : Act} (hf : FrRel ρ nt a am.tmps) :
    ∃ ρs, Seqs C I L0 w0 nt l.length A Hs V ρ ρs := by
  have getOp : ∀ (l' : List AOper) (k m : Nat), OpsAt C nt ops (List.range' k m) l' → ∀ j o, l'[j]? = some o → ∃ om, ops[k + j]? = some om ∧ prepOper C nt ops om = some o := by
    intro l'
    induction l' with
    | nil => intro k m _ j o ho; simp at ho
    | cons x xs ih =>
      intro k m hq j o ho
      cases m with
      | zero => simp [OpsAt] at hq
      | succ m =>
        simp only [List.range'_succ, OpsAt] at hq
        obtain ⟨om, o', l'', e, h1, h2, h3⟩ := hq
        cases e
        cases j with
        | zero => simp at ho; subst ho; exact ⟨om, h1, h2⟩
        | succ j => simp at ho; obtain ⟨om', h4, h5⟩ := ih (k + 1) m h3 j o ho; exact ⟨om', by rw [show k + (j + 1) = k + 1 + j by omega]; exact h4, h5⟩
  have key : ∀ m, m ≤ l.length → ∃ (ρs : Nat → Mp) (ams : Act) (w : World), Seqs C I L0 w0 nt m A Hs V ρ ρs ∧ FrRel (ρs m) nt (A m) ams.tmps ∧ HRel C I (ρs m) L0 w0 (Hs m) w := by
    intro m
    induction m with
    | zero =>
      intro _
      refine ⟨fun _ => ρ, am, wS, ⟨rfl, fun k hk => ?_, fun k hk => ?_, fun k hk => by omega, fun k hk => by omega, fun k hk => by omega⟩, by rw [T.a0]; exact hf, by rw [T.h0]; exact h⟩
      · have : k = 0 := by omega
        subst this; exact ⟨am.tmps, by rw [T.a0]; exact hf⟩
      · have : k = 0 := by omega
        subst this; exact ⟨wS, by rw [T.h0]; exact h⟩
    | succ m ih =>
      intro hm
      obtain ⟨ρs, ams, w, S, hf1, hH1⟩ := ih (by omega)
      obtain ⟨hst, hA⟩ := T.step m l[m] (by simp)
      obtain ⟨om, ho, hpo⟩ := getOp l 0 l.length (by rw [← List.range_eq_range']; exact hp) m l[m] (by simp)
      rw [Nat.zero_add] at ho
      obtain ⟨ρ', x, w', _, hv, hH, hEx, hle⟩ := oper_sim hE hS hR ho hpo (by exact hst) hH1 hf1 hlo (default : Frame) [] [] (rest := [])
      obtain ⟨_, _, hdn, _⟩ := prepOper_spec hpo
      obtain ⟨ρn, e1, e2⟩ : ∃ ρn : Nat → Mp, (∀ k, k ≤ m → ρn k = ρs k) ∧ ρn (m + 1) = ρ' := ⟨fun k => if k = m + 1 then ρ' else ρs k, fun k hk => if_neg (by omega), if_pos rfl⟩
      have hfr : FrRel ρ' nt (A (m + 1)) (ams.put l[m].dst x).tmps := by rw [hA]; exact (hf1.mono hEx.le).put' hdn hv
      refine ⟨ρn, ams.put l[m].dst x, w', ⟨by rw [e1 0 (by omega)]; exact S.zero, fun k hk => ?_, fun k hk => ?_, fun k hk => ?_, fun k hk => ?_, fun k hk b r => ?_⟩, by rw [e2]; exact hfr, by rw [e2]; exact hH⟩
      · by_cases e : k = m + 1
        · subst e; rw [e2]; exact ⟨_, hfr⟩
        · rw [e1 k (by omega)]; exact S.fr k (by omega)
      · by_cases e : k = m + 1
        · subst e; rw [e2]; exact ⟨_, hH⟩
        · rw [e1 k (by omega)]; exact S.hp k (by omega)
      · by_cases e : k = m
        · subst e; rw [e2]; exact ⟨x, hv⟩
        · rw [e1 (k + 1) (by omega)]; exact S.val k (by omega)
      · by_cases e : k = m
        · subst e; rw [e2, e1 k (Nat.le_refl _)]; exact hEx.le
        · rw [e1 (k + 1) (by omega), e1 k (by omega)]; exact S.le k (by omega)
      · by_cases e : k = m
        · subst e; rw [e2, e1 k (Nat.le_refl _)]
          intro hb hlt
          cases e0 : ρs k b with
          | none => have := (hEx.fresh b r hb e0).1; omega
          | some r0 => have := hEx.le b r0 e0; rw [hb] at this; cases this; rfl
        · rw [e1 (k + 1) (by omega), e1 k (by omega)]; exact S.back k (by omega) b r
  obtain ⟨ρs, _, _, S, _⟩ := key l.length (Nat.le_refl _)
  exact ⟨ρs, S⟩

variable {ρs : Nat → Mp} {n : Nat}
theorem Seqs.le' (S : Seqs C I L0 w0 nt n A Hs V ρ ρs) {j k : Nat} (hjk : j ≤ k) (hk : k ≤ n) : Mp.le (ρs j) (ρs k) := by
  induction hjk with
  | refl => exact Mp.le_refl _
  | @step m hm ih => exact Mp.le_trans (ih (by omega)) (S.le m (by omega))
theorem Seqs.dom (S : Seqs C I L0 w0 nt n A Hs V ρ ρs) {k b : Nat} {r : PB} (hk : k ≤ n) (h : ρs k b = some r) : b < (Hs k).length := by
  obtain ⟨w, hw⟩ := S.hp k hk
  exact hw.dom b r h
theorem Seqs.back' (S : Seqs C I L0 w0 nt n A Hs V ρ ρs) (hlen : ∀ j k, j ≤ k → k ≤ n → (Hs j).length ≤ (Hs k).length) {j k b : Nat} {r : PB} (hjk : j ≤ k) (hk : k ≤ n) (h : ρs k b = some r) (hb : b < (Hs j).length) : ρs j b = some r := by
  induction hjk generalizing r with
  | refl => exact h
  | @step m hm ih => exact ih (by omega) (S.back m (by omega) b r h (Nat.lt_of_lt_of_le hb (hlen j m hm (by omega))))

/-! ### Which state of the heap a block is in -/
def own (Hs : Nat → Heap) (b : Nat) : Nat → Nat
  | 0 => 0
  | k + 1 => if b < (Hs k).length then own Hs b k else k + 1
theorem own_spec {b : Nat} : ∀ {n : Nat}, (∀ j k, j ≤ k → k ≤ n → (Hs j).length ≤ (Hs k).length) → b < (Hs n).length → own Hs b n ≤ n ∧ b < (Hs (own Hs b n)).length ∧ ∀ k, k < own Hs b n → (Hs k).length ≤ b
  | 0, _, h => ⟨Nat.le_refl _, h, fun k hk => by simp [own] at hk⟩
  | n + 1, hm, h => by
    simp only [own]
    split
    · rename_i hb
      obtain ⟨h1, h2, h3⟩ := own_spec (n := n) (fun j k hj hk => hm j k hj (by omega)) hb
      exact ⟨by omega, h2, h3⟩
    · rename_i hb
      exact ⟨Nat.le_refl _, h, fun k hk => Nat.le_trans (hm k n (by omega) (by omega)) (by omega)⟩
def HD (Hs : Nat → Heap) (n c : Nat) : Heap := (List.range (Hs n).length).map fun b => ((Hs (max (own Hs b n) c))[b]?).getD .dead
theorem HD_len (n c : Nat) : (HD Hs n c).length = (Hs n).length := by simp [HD]
theorem HD_get (hm : ∀ j k, j ≤ k → k ≤ n → (Hs j).length ≤ (Hs k).length) {c : Nat} (hc : c ≤ n) {b : Nat} (hb : b < (Hs n).length) : (HD Hs n c)[b]? = (Hs (max (own Hs b n) c))[b]? := by
  obtain ⟨h1, h2, _⟩ := own_spec hm hb
  have hlt : b < (Hs (max (own Hs b n) c)).length := Nat.lt_of_lt_of_le h2 (hm _ _ (Nat.le_max_left ..) (by omega))
  simp only [HD, List.getElem?_map, List.getElem?_range hb, Option.map_some]
  rw [List.getElem?_eq_getElem hlt]
  rfl
theorem own_le (hm : ∀ j k, j ≤ k → k ≤ n → (Hs j).length ≤ (Hs k).length) {b j : Nat} (hj : j ≤ n) (hb : b < (Hs j).length) : own Hs b n ≤ j := by
  obtain ⟨h1, h2, h3⟩ := own_spec hm (Nat.lt_of_lt_of_le hb (hm j n hj (Nat.le_refl _)))
  rcases Nat.lt_or_ge j (own Hs b n) with h | h
  · have := h3 j h; omega
  · exact h
theorem own_gt (hm : ∀ j k, j ≤ k → k ≤ n → (Hs j).length ≤ (Hs k).length) {b j : Nat} (hj : j ≤ n) (hb : b < (Hs n).length) (hge : (Hs j).length ≤ b) : j < own Hs b n := by
  obtain ⟨h1, h2, h3⟩ := own_spec hm hb
  rcases Nat.lt_or_ge j (own Hs b n) with h | h
  · exact h
  · have := hm (own Hs b n) j h hj; omega
end
end Go.AM

namespace Go.AM
open Go Go.RowKit

def ldX (n : Option Nat) (H : Heap) (b o : Nat) : Option (List AV) :=
  match n with
  | none => (ld H b o).map fun v => [v]
  | some n => ldn H b o n
theorem ldX_congr {n : Option Nat} {H H' : Heap} {b o : Nat} (h : H'[b]? = H[b]?) : ldX n H' b o = ldX n H b o := by
  cases n <;> simp only [ldX, ld, ldn, h]
theorem sameO_eq {x y : Option AV} (h : sameO x y = true) : x = y := by
  cases x <;> cases y <;> simp [sameO] at h
  · rfl
  · rw [AV.eq_of_same _ _ h]
theorem sameLO_eq {x y : Option (List AV)} (h : sameLO x y = true) : x = y := by
  cases x <;> cases y <;> simp [sameLO] at h
  · rfl
  · rw [AV.eq_of_sameL _ _ h]

section
variable {C : Cfg} {I : World → Prop} {E : Tab} {rec : Rec} {ρ : Mp} {L0 lo nt : Nat} {w0 wS w : World} {H : Heap} {a : Fr} {l : List AOper} {ops : Array Oper} {A : Nat → Fr} {Hs : Nat → Heap} {V : Nat → AV} {ρs : Nat → Mp} {ck : List (Nat × Nat)}

structure Ctx (C : Cfg) (I : World → Prop) (E : Tab) (rec : Rec) (ρ : Mp) (L0 lo nt : Nat) (w0 wS : World) (H : Heap) (a : Fr) (l : List AOper) (ops : Array Oper) (A : Nat → Fr) (Hs : Nat → Heap) (V : Nat → AV) (ρs : Nat → Mp) (ck : List (Nat × Nat)) : Prop where
  hE : EOk C I E
  hS : Sim C I rec
  hR : LenR rec
  T : Tr E rec lo l a H A Hs V
  hlo : L0 ≤ lo
  hp : ∀ (j : Nat) (o : AOper), l[j]? = some o → ∃ om, ops[j]? = some om ∧ prepOper C nt ops om = some o
  S : Seqs C I L0 w0 nt l.length A Hs V ρ ρs
  start : HRel C I ρ L0 w0 H wS
  pair : ∀ (i j : Nat) (x y : AOper), i < j → l[i]? = some x → l[j]? = some y → (∀ d d', x.dst = some d → y.dst = some d' → d ≠ d') ∧
    (Ahead ops.toList j i ∨ ((∀ d, x.dst = some d → d ∉ y.reads) ∧ (∀ d, y.dst = some d → d ∉ x.reads) ∧ memOk ck i j (x.op.cl C.kd) (y.op.cl C.kd) = true))
  chk : ∀ (j i : Nat), (j, i) ∈ ck → ∀ (o : AOper) (n : Option Nat) (x : AX), l[j]? = some o → o.op = .load n x → ∀ b off, ev (A j) x = .p b off → b < (Hs i).length → ldX n (Hs i) b off = ldX n (Hs (i + 1)) b off

variable (K : Ctx C I E rec ρ L0 lo nt w0 wS H a l ops A Hs V ρs ck)
include K
theorem Ctx.len : ∀ j k, j ≤ k → k ≤ l.length → (Hs j).length ≤ (Hs k).length := fun _ _ h1 h2 => K.T.len K.hR h1 h2
theorem Ctx.h0 : Hs 0 = H := K.T.h0
omit K in
theorem stepV_new {o : AOper} {v : AV} {H1 : Heap} (hc : o.op.cl E.kd ≠ .write) (h : stepV E rec lo o a H = some (v, H1)) : ∃ new : List Blk, H1 = H ++ new ∧ ∀ k ∈ new, noLoop k := by
  unfold stepV at h
  split at h
  · cases hk : o.op.cl E.kd with
    | pure => obtain ⟨rfl, _⟩ := opF_pure hk h; exact ⟨[], by simp, fun _ q => by cases q⟩
    | new => obtain ⟨vs, rfl, _⟩ := opF_new hk h; exact ⟨_, rfl, fun k q => by simp at q; subst q; trivial⟩
    | load =>
      refine ⟨[], ?_, fun _ q => by cases q⟩
      have : ∃ n x, o.op = .load n x := by cases ho : o.op <;> rw [ho] at hk <;> simp [AOp.cl] at hk <;> first | exact ⟨_, _, rfl⟩ | (split at hk <;> cases hk)
      obtain ⟨n, x, e⟩ := this
      rw [e] at h
      simp only [opF, opA] at h
      split at h
      · obtain ⟨_, _, e2⟩ := Option.map_eq_some_iff.1 h; cases e2; simp
      · obtain ⟨_, _, e2⟩ := Option.map_eq_some_iff.1 h; cases e2; simp
      · cases h
    | call => exact (opF_call hk h).1
    | write => exact absurd hk hc
  · cases h; exact ⟨[], by simp, fun _ q => by cases q⟩
  · cases h
theorem Ctx.still {j k : Nat} (hjk : j ≤ k) (hk : k ≤ l.length) (hW : ∀ i o, j ≤ i → i < k → l[i]? = some o → o.op.cl C.kd ≠ .write) {b : Nat} (hb : b < (Hs j).length) : (Hs k)[b]? = (Hs j)[b]? := by
  induction hjk with
  | refl => rfl
  | @step m hm ih =>
    have hst := (K.T.step m l[m] (by simp)).1
    obtain ⟨new, e, _⟩ := stepV_new (by rw [K.hE.kd]; exact hW m l[m] hm (by omega) (by simp)) hst
    rw [e, List.getElem?_append_left (Nat.lt_of_lt_of_le hb (K.len j m hm (by omega)))]
    exact ih (by omega) fun i o h1 h2 => hW i o h1 (by omega)

/-- the state where D is done -/
structure DS (C : Cfg) (I : World → Prop) (ρ : Mp) (L0 nt : Nat) (w0 wS : World) (H : Heap) (a : Fr) (l : List AOper) (ops : Array Oper) (Hs : Nat → Heap) (V : Nat → AV) (ρs : Nat → Mp) (D : Nat → Prop) (c : Nat) (ρD : Mp) (aD : Fr) (am : Act) (w : World) : Prop where
  lt : ∀ j, D j → j < l.length
  down : ∀ j, D j → ∀ i, Ahead ops.toList j i → D i
  cle : c ≤ l.length
  cW : ∀ (j : Nat) (o : AOper), D j → l[j]? = some o → o.op.cl C.kd = .write → j < c
  cD : c ≠ 0 → D (c - 1) ∧ ∃ o : AOper, l[c - 1]? = some o ∧ o.op.cl C.kd = .write
  frV : ∀ (j : Nat) (o : AOper) (d : Nat), D j → l[j]? = some o → o.dst = some d → aD d = V j
  frO : ∀ t, (∀ (j : Nat) (o : AOper), D j → l[j]? = some o → o.dst ≠ some t) → aD t = a t
  fr : FrRel ρD nt aD am.tmps
  hp : HRel C I ρD L0 w0 (HD Hs l.length c) w
  ext : Ext ρ L0 H.length wS ρD w
  dom : ∀ b r, ρD b = some r → (∃ r', ρs l.length b = some r') ∧ (b < H.length ∨ ∃ j, D j ∧ (Hs j).length ≤ b ∧ b < (Hs (j + 1)).length)
  uns : ∀ (j : Nat) (o : AOper), D j → l[j]? = some o → o.op.cl C.kd = .new → c ≤ j → (Hs j).length < (Hs (j + 1)).length → ∀ r, ρD (Hs j).length = some r → ∀ b' r', b' ≠ (Hs j).length → ρD b' = some r' → L0 ≤ b' → r'.a.block ≠ r.a.block

variable {D : Nat → Prop} {c : Nat} {ρD : Mp} {aD : Fr} {am : Act}

theorem Ctx.aval (j : Nat) (hj : j ≤ l.length) (t : Nat) : (∃ i o, i < j ∧ l[i]? = some o ∧ o.dst = some t ∧ A j t = V i) ∨ ((∀ i o, i < j → l[i]? = some o → o.dst ≠ some t) ∧ A j t = a t) := by
  induction j with
  | zero => right; exact ⟨fun i o h => by omega, by rw [K.T.a0]⟩
  | succ j ih =>
    have hst := (K.T.step j l[j] (by simp)).2
    by_cases hd : l[j].dst = some t
    · left
      refine ⟨j, l[j], by omega, by simp, hd, ?_⟩
      rw [hst, hd]; simp [Fr.put, Fr.upd]
    · have hA : A (j + 1) t = A j t := by
        rw [hst]
        cases e : l[j].dst with
        | none => rfl
        | some d => rw [e] at hd; simp only [Fr.put, Fr.upd]; rw [if_neg (fun e' => hd (by rw [e']))]
      rcases ih (by omega) with ⟨i, o, h1, h2, h3, h4⟩ | ⟨h1, h2⟩
      · exact .inl ⟨i, o, by omega, h2, h3, by rw [hA]; exact h4⟩
      · right
        refine ⟨fun i o hi ho => ?_, by rw [hA]; exact h2⟩
        by_cases e : i = j
        · subst e
          rw [List.getElem?_eq_getElem (by omega)] at ho
          cases ho; exact hd
        · exact h1 i o (by omega) ho

variable (Q : DS C I ρ L0 nt w0 wS H a l ops Hs V ρs D c ρD aD am w) {j : Nat} {o : AOper} (ho : l[j]? = some o) (hj : ¬ D j) (hup : ∀ i, Ahead ops.toList j i → D i)
include Q ho hj hup
theorem Ctx.reads : ∀ t ∈ o.reads, A j t = aD t := by
  intro t ht
  have hjl := (List.getElem?_eq_some_iff.1 ho).1
  rcases K.aval j (by omega) t with ⟨i, x, h1, h2, h3, h4⟩ | ⟨h1, h2⟩
  · rcases (K.pair i j x o h1 h2 ho).2 with h | ⟨h, _⟩
    · rw [h4, Q.frV i x t (hup i h) h2 h3]
    · exact absurd ht (h t h3)
  · rw [h2, Q.frO t]
    intro i x hi hx hd
    rcases Nat.lt_trichotomy i j with e | e | e
    · exact h1 i x e hx hd
    · subst e; exact hj hi
    · rcases (K.pair j i o x e ho hx).2 with h | ⟨_, h, _⟩
      · exact hj (Q.down i hi j h)
      · exact h t hd ht

omit K Q ho hj hup in
def Mp.cut (ρ : Mp) (m : Nat) : Mp := fun b => if b < m then ρ b else none
omit K Q ho hj hup in
theorem Mp.cut_some {ρ : Mp} {m b : Nat} {r : PB} (h : ρ.cut m b = some r) : b < m ∧ ρ b = some r := by
  unfold Mp.cut at h
  split at h
  · exact ⟨by assumption, h⟩
  · cases h
omit Q hj hup in
theorem Ctx.cutBoth : ∀ b r1 r2, ρD b = some r1 → ρs j b = some r2 → ρD.cut (Hs j).length b = some r1 := fun b r1 r2 h1 h2 => by
  have hjl := (List.getElem?_eq_some_iff.1 ho).1
  have := K.S.dom (k := j) (by omega) h2
  simp [Mp.cut, this, h1]

/-- the frame, at the places that the operation reads -/
theorem Ctx.view : ∃ a' : Fr, (∀ t ∈ o.reads, a' t = A j t) ∧ FrRel (ρD.cut (Hs j).length) nt a' am.tmps := by
  have hjl := (List.getElem?_eq_some_iff.1 ho).1
  have hr := K.reads Q ho hj hup
  refine ⟨fun t => if t ∈ o.reads then A j t else .un, fun t ht => if_pos ht, Q.fr.size, fun t ht => ?_⟩
  split
  · rename_i hm
    obtain ⟨ts, hts⟩ := K.S.fr j (by omega)
    have h1 := Q.fr.val t ht
    rw [← hr t hm] at h1
    exact VRel.both (K.cutBoth ho) _ _ _ h1 (hts.val t ht)
  · simp [VRel]

omit K Q ho hj hup in
theorem cells_both {ρ1 ρ2 ρ3 : Mp} {w2 : World} {a1 a2 : Addr} {vs : List AV} (h : ∀ b r1 r2, ρ1 b = some r1 → ρ2 b = some r2 → ρ3 b = some r1) (h1 : CellsRel ρ1 w a1 vs) (h2 : CellsRel ρ2 w2 a2 vs) : CellsRel ρ3 w a1 vs := fun i v e => by
  obtain ⟨x, q1, q2, q3⟩ := h1 i v e
  obtain ⟨y, _, q5, _⟩ := h2 i v e
  exact ⟨x, q1, VRel.both h _ _ _ q2 q5, q3⟩
omit K Q ho hj hup in
theorem HRel.ofView {ρj : Mp} {G : Heap} (hI : I w) (hd : ∀ b r, ρj b = some r → b < G.length) (hv : ∀ b r k, ρj b = some r → G[b]? = some k → BRel C ρj False w.heap.size w r k) : HRel C I ρj G.length w G w := by
  refine ⟨Below.refl _ w, hI, Nat.le_refl _, hd, fun b r e hL => ?_, fun b b' r r' k k' e _ hL => ?_, fun b r k e hk => ?_⟩
  · have := hd b r e; omega
  · have := hd b r e; omega
  · have : (G.length ≤ b) = False := by have := hd b r e; simp; omega
    rw [this]; exact hv b r k e hk

omit K ho hj in
/-- the writing operations that are done are those ahead -/
theorem DS.wBefore (hq : ∀ (i : Nat) (x : AOper), i < j → l[i]? = some x → x.op.cl C.kd = .write → Ahead ops.toList j i) : ∀ (i : Nat) (x : AOper), c ≤ i → i < j → l[i]? = some x → x.op.cl C.kd ≠ .write := fun i x h1 h2 hx hw => by
  have := Q.cW i x (hup i (hq i x h2 hx hw)) hx hw
  omega
omit K ho hup in
theorem DS.cBefore (hq : ∀ (i : Nat) (x : AOper), j < i → l[i]? = some x → x.op.cl C.kd = .write → Ahead ops.toList i j) : c ≤ j := by
  rcases Nat.lt_or_ge j c with h | h
  · obtain ⟨h1, x, hx, hw⟩ := Q.cD (by omega)
    by_cases e : c - 1 = j
    · rw [e] at h1; exact absurd h1 hj
    · exact absurd (Q.down _ h1 j (hq (c - 1) x (by omega) hx hw)) hj
  · exact h
end
end Go.AM

namespace Go.AM
open Go Go.RowKit

theorem ldX_spec {n : Option Nat} {H : Heap} {b o : Nat} {us : List AV} (h : ldX n H b o = some us) : ∃ vs, H[b]? = some (.cells vs) ∧ o + us.length ≤ vs.length ∧ ∀ i, i < us.length → vs[o + i]? = us[i]? := by
  cases n with
  | none =>
    simp only [ldX] at h
    obtain ⟨v, hv, rfl⟩ := Option.map_eq_some_iff.1 h
    obtain ⟨vs, h1, h2⟩ := ld_spec hv
    have := (List.getElem?_eq_some_iff.1 h2).1
    refine ⟨vs, h1, by simp; omega, fun i hi => ?_⟩
    have : i = 0 := by simpa using hi
    subst this
    simpa using h2
  | some n =>
    simp only [ldX] at h
    obtain ⟨vs, h1, h2, rfl⟩ := ldn_spec h
    refine ⟨vs, h1, by simp; omega, fun i hi => ?_⟩
    simp at hi
    rw [List.getElem?_take, if_pos (by omega), List.getElem?_drop]

section
variable {C : Cfg} {I : World → Prop} {E : Tab} {rec : Rec} {ρ : Mp} {L0 lo nt : Nat} {w0 wS w : World} {H : Heap} {a : Fr} {l : List AOper} {ops : Array Oper} {A : Nat → Fr} {Hs : Nat → Heap} {V : Nat → AV} {ρs : Nat → Mp} {ck : List (Nat × Nat)}
  {D : Nat → Prop} {c : Nat} {ρD : Mp} {aD : Fr} {am : Act}

theorem Ctx.loadSame (K : Ctx C I E rec ρ L0 lo nt w0 wS H a l ops A Hs V ρs ck) (Q : DS C I ρ L0 nt w0 wS H a l ops Hs V ρs D c ρD aD am w) {j : Nat} {o : AOper} (ho : l[j]? = some o) (hj : ¬ D j) (hup : ∀ i, Ahead ops.toList j i → D i)
    {n : Option Nat} {x : AX} (hop : o.op = .load n x) {b off : Nat} (hx : ev (A j) x = .p b off) (hb : b < (Hs j).length) : ldX n (HD Hs l.length c) b off = ldX n (Hs j) b off := by
  have hjl := (List.getElem?_eq_some_iff.1 ho).1
  have hbl : b < (Hs l.length).length := Nat.lt_of_lt_of_le hb (K.len j l.length (by omega) (Nat.le_refl _))
  have hcl : o.op.cl C.kd = .load := by rw [hop]; rfl
  rw [ldX_congr (HD_get K.len Q.cle hbl)]
  have hown := own_le K.len (j := j) (by omega) hb
  obtain ⟨hs1, hs2, _⟩ := own_spec K.len hbl
  have chain : ∀ k k', k ≤ k' → k' ≤ l.length → b < (Hs k).length → (∀ (i : Nat) (y : AOper), k ≤ i → i < k' → l[i]? = some y → y.op.cl C.kd = .write → (j, i) ∈ ck) → ldX n (Hs k) b off = ldX n (Hs k') b off := by
    intro k k' hkk hk' hbk
    induction hkk with
    | refl => intro _; rfl
    | @step m hm ih =>
      intro hck
      rw [ih (by omega) fun i y h1 h2 => hck i y h1 (by omega)]
      have hbm : b < (Hs m).length := Nat.lt_of_lt_of_le hbk (K.len k m hm (by omega))
      by_cases hw : l[m].op.cl C.kd = .write
      · exact K.chk j m (hck m l[m] hm (by omega) (by simp) hw) o n x ho hop b off hx hbm
      · refine (ldX_congr (K.still (j := m) (k := m + 1) (by omega) hk' (fun i y h1 h2 hy => ?_) hbm)).symm
        have : i = m := by omega
        subst this
        rw [List.getElem?_eq_getElem (by omega)] at hy
        cases hy; exact hw
  rcases Nat.lt_or_ge j (max (own Hs b l.length) c) with hk | hk
  · have hc : max (own Hs b l.length) c = c := by omega
    rw [hc] at hk ⊢
    refine (chain j c (by omega) Q.cle hb fun i y h1 h2 hy hw => ?_).symm
    obtain ⟨hD1, z, hz, hzw⟩ := Q.cD (by omega)
    have hDi : D i := by
      by_cases e : i = c - 1
      · rw [e]; exact hD1
      · rcases (K.pair i (c - 1) y z (by omega) hy hz).2 with h | ⟨_, _, h⟩
        · exact Q.down _ hD1 i h
        · rw [hw, hzw] at h; simp [memOk] at h
    have hne : i ≠ j := fun e => hj (e ▸ hDi)
    rcases (K.pair j i o y (by omega) ho hy).2 with h | ⟨_, _, h⟩
    · exact absurd (Q.down i hDi j h) hj
    · rw [hcl, hw] at h
      simpa [memOk] using h
  · refine chain _ j hk (by omega) (Nat.lt_of_lt_of_le hs2 (K.len _ _ (Nat.le_max_left ..) (by omega))) fun i y h1 h2 hy hw => ?_
    rcases (K.pair i j y o h2 hy ho).2 with h | ⟨_, _, h⟩
    · have := Q.cW i y (hup i h) hy hw; omega
    · rw [hcl, hw] at h
      simpa [memOk] using h

theorem Ctx.viewHeap (K : Ctx C I E rec ρ L0 lo nt w0 wS H a l ops A Hs V ρs ck) (Q : DS C I ρ L0 nt w0 wS H a l ops Hs V ρs D c ρD aD am w) {j : Nat} {o : AOper} (ho : l[j]? = some o) (hj : ¬ D j) (hup : ∀ i, Ahead ops.toList j i → D i)
    (hn : o.op.cl C.kd ≠ .write) : ∃ (G : Heap) (new : List Blk), G.length = (Hs j).length ∧ stepV E rec (Hs j).length o (A j) G = some (V j, G ++ new) ∧ Hs (j + 1) = Hs j ++ new ∧ (∀ k ∈ new, noLoop k) ∧ (new ≠ [] → c ≤ j) ∧ (o.op.cl C.kd = .new → new.length ≤ 1) ∧
      ∀ b r k, ρD.cut (Hs j).length b = some r → G[b]? = some k → BRel C (ρD.cut (Hs j).length) False w.heap.size w r k := by
  have hjl := (List.getElem?_eq_some_iff.1 ho).1
  have hst := (K.T.step j o ho).1
  have hkd := K.hE.kd
  have dead : ∀ b r k, ρD.cut (Hs j).length b = some r → (List.replicate (Hs j).length Blk.dead)[b]? = some k → BRel C (ρD.cut (Hs j).length) False w.heap.size w r k := fun b r k _ hk => by
    rw [List.getElem?_replicate] at hk
    split at hk
    · cases hk; trivial
    · cases hk
  have block : ∀ b r, ρD.cut (Hs j).length b = some r → L0 ≤ b → r.a.block < w.heap.size := fun b r hb hL => (Q.hp.own b r (Mp.cut_some hb).2 hL).2.1
  unfold stepV at hst
  split at hst
  · rename_i hw
    have go : ∀ {G : Heap} {H1 : Heap}, opF E rec (Hs j).length o.op (A j) G = some (V j, H1) → stepV E rec (Hs j).length o (A j) G = some (V j, H1) := fun h => by simp only [stepV, hw]; exact h
    cases hk : o.op.cl C.kd with
    | pure =>
      obtain ⟨h1, h2⟩ := opF_pure hk hst
      exact ⟨List.replicate (Hs j).length .dead, [], by simp, go (by rw [List.append_nil]; exact h2 _ _), by simp [h1], (fun _ q => by cases q), (fun q => absurd rfl q), (fun q => by simp), dead⟩
    | new =>
      obtain ⟨vs, h1, h2⟩ := opF_new hk hst
      refine ⟨List.replicate (Hs j).length .dead, [.cells vs], by simp, go (h2 _ _ (by simp)), h1, fun k q => by simp at q; subst q; trivial, fun _ => ?_, fun _ => by simp, dead⟩
      refine Q.cBefore hj fun i x hi hx hw' => ?_
      rcases (K.pair j i o x hi ho hx).2 with h | ⟨_, _, h⟩
      · exact h
      · rw [hk, hw'] at h; simp [memOk] at h
    | call =>
      obtain ⟨⟨new, h1, h3⟩, h2⟩ := opF_call (by rw [hkd]; exact hk) hst
      have hbefore := Q.wBefore hup (j := j) fun i x hi hx hw' => by
        rcases (K.pair i j x o hi hx ho).2 with h | ⟨_, _, h⟩
        · exact h
        · rw [hk, hw'] at h; simp [memOk] at h
      have hc : c ≤ j := Q.cBefore hj fun i x hi hx hw' => by
        rcases (K.pair j i o x hi ho hx).2 with h | ⟨_, _, h⟩
        · exact h
        · rw [hk, hw'] at h; simp [memOk] at h
      refine ⟨Hs j, new, rfl, go (by rw [h1] at h2; exact h2 _), h1, h3, fun _ => hc, (fun q => by cases q), fun b r k hb hkb => ?_⟩
      obtain ⟨hbl, hbD⟩ := Mp.cut_some hb
      have hbl' : b < (Hs l.length).length := Nat.lt_of_lt_of_le hbl (K.len j l.length (by omega) (Nat.le_refl _))
      have hown := own_le K.len (j := j) (by omega) hbl
      obtain ⟨hs1, hs2, _⟩ := own_spec K.len hbl'
      have hget : (HD Hs l.length c)[b]? = some k := by
        rw [HD_get K.len Q.cle hbl', ← hkb]
        refine (K.still (j := max (own Hs b l.length) c) (k := j) (by omega) (by omega) (fun i x h1 h2 hx => hbefore i x (by omega) h2 hx) ?_).symm
        exact Nat.lt_of_lt_of_le hs2 (K.len _ _ (Nat.le_max_left ..) (by omega))
      have hB := Q.hp.blk b r k hbD hget
      obtain ⟨⟨r', hr'⟩, _⟩ := Q.dom b r hbD
      obtain ⟨wj, hwj⟩ := K.S.hp j (by omega)
      have hB2 := hwj.blk b r' k (K.S.back' K.len (by omega) (Nat.le_refl _) hr' hbl) hkb
      cases k with
      | dead => trivial
      | loop => exact fun q => q.elim
      | map => exact fun q => q.elim
      | cells vs =>
        refine ⟨cells_both (K.cutBoth ho) hB.1 hB2.1, fun q => q.elim, fun _ hne => ?_⟩
        by_cases hL : L0 ≤ b
        · exact block b r hb hL
        · exact Nat.lt_of_lt_of_le (hB.2.2 hL hne) Q.hp.below.size
    | load =>
      have : ∃ n x, o.op = .load n x := by cases ho' : o.op <;> rw [ho'] at hk <;> simp [AOp.cl] at hk <;> first | exact ⟨_, _, rfl⟩ | (split at hk <;> cases hk)
      obtain ⟨n, x, e⟩ := this
      have : ∃ b off us, ev (A j) x = .p b off ∧ ldX n (Hs j) b off = some us ∧ Hs (j + 1) = Hs j ∧ (n = none → us = [V j]) ∧ (∀ m, n = some m → V j = .ag us ∧ us.length = m) := by
        rw [e] at hst
        simp only [opF, opA] at hst
        split at hst
        · rename_i b off hx
          obtain ⟨v, hv, e2⟩ := Option.map_eq_some_iff.1 hst
          simp only [Prod.mk.injEq] at e2
          obtain ⟨rfl, e2⟩ := e2
          exact ⟨b, off, [V j], hx, by simp [ldX, hv], e2.symm, fun _ => rfl, fun m q => by cases q⟩
        · rename_i b off m hx
          obtain ⟨us, hv, e2⟩ := Option.map_eq_some_iff.1 hst
          simp only [Prod.mk.injEq] at e2
          obtain ⟨e3, e2⟩ := e2
          refine ⟨b, off, us, hx, by simp [ldX, hv], e2.symm, (fun q => by cases q), fun m' q => ?_⟩
          cases q
          obtain ⟨vs, _, q2, rfl⟩ := ldn_spec hv
          exact ⟨e3.symm, by simp; omega⟩
        · cases hst
      obtain ⟨b, off, us, hx, hus, hH, hn1, hn2⟩ := this
      obtain ⟨vsJ, hJ1, hJ2, hJ3⟩ := ldX_spec hus
      have hbl : b < (Hs j).length := (List.getElem?_eq_some_iff.1 hJ1).1
      have hsame := K.loadSame Q ho hj hup e hx hbl
      rw [hus] at hsame
      obtain ⟨vsD, hD1, hD2, hD3⟩ := ldX_spec hsame
      have hGb : ((List.replicate (Hs j).length Blk.dead).set b (.cells (List.replicate off .un ++ us)))[b]? = some (.cells (List.replicate off .un ++ us)) := by
        rw [List.getElem?_set_self (by simpa using hbl)]
      refine ⟨(List.replicate (Hs j).length .dead).set b (.cells (List.replicate off .un ++ us)), [], by simp, go ?_, by simp [hH], (fun _ q => by cases q), (fun q => absurd rfl q), (fun q => by simp), fun b' r k hb hkb => ?_⟩
      · rw [e, List.append_nil]
        simp only [opF, opA, hx]
        cases n with
        | none =>
          have := hn1 rfl
          subst this
          simp [ld, hGb]
        | some m =>
          obtain ⟨h1, h2⟩ := hn2 m rfl
          subst h2
          simp [ldn, hGb, h1]
      · by_cases eb : b' = b
        · subst eb
          rw [hGb] at hkb
          cases hkb
          obtain ⟨_, hbD⟩ := Mp.cut_some hb
          have hB := Q.hp.blk b' r _ hbD hD1
          obtain ⟨⟨r', hr'⟩, _⟩ := Q.dom b' r hbD
          obtain ⟨wj, hwj⟩ := K.S.hp j (by omega)
          have hB2 := hwj.blk b' r' _ (K.S.back' K.len (by omega) (Nat.le_refl _) hr' hbl) hJ1
          refine ⟨fun i v hv => ?_, fun q => q.elim, fun _ hne => ?_⟩
          · have hilt := (List.getElem?_eq_some_iff.1 hv).1
            simp at hilt
            by_cases hio : i < off
            · rw [List.getElem?_append_left (by simpa using hio), List.getElem?_replicate, if_pos hio] at hv
              cases hv
              obtain ⟨y, q1, _, q3⟩ := hB.1 i vsD[i] (by rw [List.getElem?_eq_getElem (by omega)])
              exact ⟨y, q1, by simp [VRel], q3⟩
            · rw [List.getElem?_append_right (by simp; omega)] at hv
              simp at hv
              have hi2 : i - off < us.length := by omega
              have e1 := hD3 (i - off) hi2
              have e2 := hJ3 (i - off) hi2
              rw [show off + (i - off) = i by omega, hv] at e1 e2
              obtain ⟨y, q1, q2, q3⟩ := hB.1 i v e1
              obtain ⟨z, _, q5, _⟩ := hB2.1 i v e2
              exact ⟨y, q1, VRel.both (K.cutBoth ho) _ _ _ q2 q5, q3⟩
          · by_cases hL : L0 ≤ b'
            · exact block b' r hb hL
            · refine Nat.lt_of_lt_of_le (hB.2.2 hL fun q => hne ?_) Q.hp.below.size
              subst q
              simp at hD2
              obtain ⟨h1, h2⟩ := hD2
              simp [h1, h2]
        · rw [List.getElem?_set_ne (Ne.symm eb)] at hkb
          exact dead b' r k hb hkb
    | write => exact absurd hk hn
  · rename_i hw
    simp only [Option.some.injEq, Prod.mk.injEq] at hst
    exact ⟨List.replicate (Hs j).length .dead, [], by simp, by simp [stepV, hw, hst.1], by simp [hst.2], (fun _ q => by cases q), (fun q => absurd rfl q), (fun q => by simp), dead⟩
  · cases hst
end
end Go.AM

namespace Go.AM
open Go Go.RowKit

theorem fr_both {ρ1 ρ2 ρ3 : Mp} {nt : Nat} {fr : Fr} {t1 t2 : Array Value} (h : ∀ b r1 r2, ρ1 b = some r1 → ρ2 b = some r2 → ρ3 b = some r1) (h1 : FrRel ρ1 nt fr t1) (h2 : FrRel ρ2 nt fr t2) : FrRel ρ3 nt fr t1 :=
  ⟨h1.size, fun t ht => VRel.both h _ _ _ (h1.val t ht) (h2.val t ht)⟩
theorem brel_both {C : Cfg} {ρ1 ρ2 ρ3 : Mp} {own own2 : Prop} {B0 B2 : Nat} {w w2 : World} {r r2 : PB} {k : Blk} (h : ∀ b r1 r2, ρ1 b = some r1 → ρ2 b = some r2 → ρ3 b = some r1) (ho : own → own2)
    (h1 : BRel C ρ1 own B0 w r k) (h2 : BRel C ρ2 own2 B2 w2 r2 k) : BRel C ρ3 own B0 w r k := by
  cases k with
  | dead => trivial
  | cells vs => exact ⟨cells_both h h1.1 h2.1, h1.2⟩
  | loop st pend nt fr ps asg body =>
    intro hq
    obtain ⟨rec, q1, q2, q3, q4, q5⟩ := h1 hq
    obtain ⟨rec2, _, _, _, p4, _⟩ := h2 (ho hq)
    exact ⟨rec, q1, q2, q3, fr_both h q4 p4, q5⟩
  | map n es =>
    intro hq
    obtain ⟨ks, c, q1, ⟨q2, q3⟩, q4⟩ := h1 hq
    obtain ⟨ks2, c2, _, ⟨_, p3⟩, _⟩ := h2 (ho hq)
    exact ⟨ks, c, q1, ⟨q2, VRelL.both h _ _ _ q3 p3⟩, q4⟩

section
variable {C : Cfg} {I : World → Prop} {E : Tab} {rec : Rec} {ρ : Mp} {L0 lo nt : Nat} {w0 wS w : World} {H : Heap} {a : Fr} {l : List AOper} {ops : Array Oper} {A : Nat → Fr} {Hs : Nat → Heap} {V : Nat → AV} {ρs : Nat → Mp} {ck : List (Nat × Nat)}
  {D : Nat → Prop} {c : Nat} {ρD : Mp} {aD : Fr} {am : Act}

/-- the blocks' places, with those of one operation -/
def overlay (Hs : Nat → Heap) (n j : Nat) (ρs : Nat → Mp) (ρD ρ1 : Mp) : Mp := fun b =>
  if (Hs j).length ≤ b ∧ b < (Hs (j + 1)).length then (if (ρs n b).isSome then ρ1 b else none) else ρD b
theorem overlay_in {n j b : Nat} {ρ1 : Mp} {r : PB} (h1 : (Hs j).length ≤ b) (h2 : b < (Hs (j + 1)).length) : overlay Hs n j ρs ρD ρ1 b = some r ↔ ρ1 b = some r ∧ ∃ r', ρs n b = some r' := by
  unfold overlay
  rw [if_pos ⟨h1, h2⟩]
  cases e : ρs n b <;> simp
theorem overlay_out {n j b : Nat} {ρ1 : Mp} (h : b < (Hs j).length ∨ (Hs (j + 1)).length ≤ b) : overlay Hs n j ρs ρD ρ1 b = ρD b := by
  unfold overlay
  rw [if_neg (by omega)]

theorem DS.frame (Q : DS C I ρ L0 nt w0 wS H a l ops Hs V ρs D c ρD aD am w) (K : Ctx C I E rec ρ L0 lo nt w0 wS H a l ops A Hs V ρs ck) {j : Nat} {o : AOper} (ho : l[j]? = some o) (hj : ¬ D j) :
    (∀ (i : Nat) (y : AOper) (d : Nat), D i ∨ i = j → l[i]? = some y → y.dst = some d → (aD.put o.dst (V j)) d = V i) ∧ (∀ t, (∀ (i : Nat) (y : AOper), D i ∨ i = j → l[i]? = some y → y.dst ≠ some t) → (aD.put o.dst (V j)) t = a t) := by
  constructor
  · intro i y d hi hy hd
    by_cases e : i = j
    · subst e
      rw [ho] at hy; cases hy
      rw [hd]; simp [Fr.put, Fr.upd]
    · have hDi : D i := hi.resolve_right e
      have hne : o.dst ≠ some d := fun q => by
        rcases Nat.lt_or_ge i j with h | h
        · exact (K.pair i j y o h hy ho).1 d d hd q rfl
        · exact (K.pair j i o y (by omega) ho hy).1 d d q hd rfl
      have : (aD.put o.dst (V j)) d = aD d := by
        cases e2 : o.dst with
        | none => rfl
        | some d' => rw [e2] at hne; simp only [Fr.put, Fr.upd]; rw [if_neg (fun q => hne (by rw [q]))]
      rw [this]; exact Q.frV i y d hDi hy hd
  · intro t ht
    have hne : o.dst ≠ some t := ht j o (.inr rfl) ho
    have : (aD.put o.dst (V j)) t = aD t := by
      cases e2 : o.dst with
      | none => rfl
      | some d' => rw [e2] at hne; simp only [Fr.put, Fr.upd]; rw [if_neg (fun q => hne (by rw [q]))]
    rw [this]; exact Q.frO t fun i y hi => ht i y (.inl hi)

theorem DS.range (Q : DS C I ρ L0 nt w0 wS H a l ops Hs V ρs D c ρD aD am w) (K : Ctx C I E rec ρ L0 lo nt w0 wS H a l ops A Hs V ρs ck) {j : Nat} (hjl : j < l.length) (hj : ¬ D j) {b : Nat} {r : PB} (h : ρD b = some r) : b < (Hs j).length ∨ ((Hs (j + 1)).length ≤ b ∧ ∃ i, j < i ∧ D i ∧ (Hs i).length ≤ b ∧ b < (Hs (i + 1)).length) := by
  rcases (Q.dom b r h).2 with h1 | ⟨i, hi, h1, h2⟩
  · left; have := K.len 0 j (by omega) (by omega); rw [K.h0] at this; omega
  · have hil := Q.lt i hi
    rcases Nat.lt_trichotomy i j with e | e | e
    · left; have := K.len (i + 1) j (by omega) (by omega); omega
    · subst e; exact absurd hi hj
    · right; have := K.len (j + 1) i (by omega) (by omega); exact ⟨by omega, i, e, hi, h1, h2⟩

theorem DS.overlay_le (Q : DS C I ρ L0 nt w0 wS H a l ops Hs V ρs D c ρD aD am w) (K : Ctx C I E rec ρ L0 lo nt w0 wS H a l ops A Hs V ρs ck) {j : Nat} (hjl : j < l.length) (hj : ¬ D j) (ρ1 : Mp) : Mp.le ρD (overlay Hs l.length j ρs ρD ρ1) := fun b r h => by
  rw [overlay_out ((Q.range K hjl hj h).imp id (·.1))]; exact h

theorem Ctx.overlayBoth (K : Ctx C I E rec ρ L0 lo nt w0 wS H a l ops A Hs V ρs ck) {j : Nat} (hjl : j < l.length) {ρ1 : Mp} {L n : Nat} {w1 w2 : World} (hE1 : Ext (ρD.cut (Hs j).length) L n w1 ρ1 w2) (hn : n = (Hs j).length) :
    ∀ b r1 r2, ρ1 b = some r1 → ρs (j + 1) b = some r2 → overlay Hs l.length j ρs ρD ρ1 b = some r1 := fun b r1 r2 h1 h2 => by
  have hb := K.S.dom (k := j + 1) (by omega) h2
  by_cases hlt : b < (Hs j).length
  · rw [overlay_out (.inl hlt)]
    cases e : ρD.cut (Hs j).length b with
    | none => have := (hE1.fresh b r1 h1 e).1; omega
    | some r0 =>
      have := hE1.le b r0 e
      rw [h1] at this; cases this
      exact (Mp.cut_some e).2
  · rw [overlay_in (by omega) hb]
    exact ⟨h1, r2, K.S.le' (j := j + 1) (k := l.length) (by omega) (Nat.le_refl _) b r2 h2⟩

theorem Ctx.readStep (K : Ctx C I E rec ρ L0 lo nt w0 wS H a l ops A Hs V ρs ck) (Q : DS C I ρ L0 nt w0 wS H a l ops Hs V ρs D c ρD aD am w) {j : Nat} {o : AOper} (ho : l[j]? = some o) (hj : ¬ D j) (hup : ∀ i, Ahead ops.toList j i → D i)
    (hn : o.op.cl C.kd ≠ .write) (b : Frame) (km : List Item) (cs : List Frame) (rest : List Nat) :
    ∃ c' ρ' aD' am' w', Steps C.P (lone (b.atR am (.inRegion ops (j :: rest) :: km)) cs w) (lone (b.atR am' (.inRegion ops rest :: km)) cs w') ∧ am'.defers = am.defers ∧ DS C I ρ L0 nt w0 wS H a l ops Hs V ρs (fun i => D i ∨ i = j) c' ρ' aD' am' w' := by
  have hjl := (List.getElem?_eq_some_iff.1 ho).1
  obtain ⟨G, new, hGl, hGst, hnew, _, hcj, hn1, hGv⟩ := K.viewHeap Q ho hj hup hn
  obtain ⟨a', ha', hfr⟩ := K.view Q ho hj hup
  obtain ⟨om, hom, hpo⟩ := K.hp j o ho
  obtain ⟨_, _, hdn, _⟩ := prepOper_spec hpo
  have hI : I w := K.hE.stable _ _ Q.hp.inv Q.hp.below
  have hG : HRel C I (ρD.cut (Hs j).length) G.length w G w := HRel.ofView hI (fun b r e => by rw [hGl]; exact (Mp.cut_some e).1) hGv
  obtain ⟨ρ1, x, w', s, hv, hH1, hE1, _⟩ := oper_sim (lo := (Hs j).length) K.hE K.hS K.hR hom hpo (a := a') (H := G) (v := V j) (H' := G ++ new) (by
    show stepV E rec (Hs j).length o a' G = _
    rw [stepV_congr ha']; exact hGst) hG hfr (by rw [hGl]; exact Nat.le_refl _) b km cs (rest := rest)
  have hBw : Below w.heap.size w w' := hH1.below
  have hle := Q.overlay_le K hjl hj ρ1
  have hboth := K.overlayBoth hjl hE1 hGl
  have hl := Q.hp.later hBw
  have hlen : (Hs (j + 1)).length = (Hs j).length + new.length := by rw [hnew]; simp
  have hH0 : H.length ≤ (Hs j).length := by have := K.len 0 j (by omega) (by omega); rwa [K.h0] at this
  have hjn := K.len (j + 1) l.length (by omega) (Nat.le_refl _)
  have hL0 : L0 ≤ H.length := K.start.lt
  have hcase : ∀ b r, overlay Hs l.length j ρs ρD ρ1 b = some r → ρD b = some r ∨ ((Hs j).length ≤ b ∧ b < (Hs (j + 1)).length ∧ ρ1 b = some r ∧ ∃ r', ρs l.length b = some r') := fun b r h => by
    by_cases hr : (Hs j).length ≤ b ∧ b < (Hs (j + 1)).length
    · right; exact ⟨hr.1, hr.2, (overlay_in hr.1 hr.2).1 h⟩
    · left; rwa [overlay_out (by omega)] at h
  have hown1 : ∀ b r, (Hs j).length ≤ b → ρ1 b = some r → w.heap.size ≤ r.a.block ∧ r.a.block < w'.heap.size ∧ r.a.spot = none := fun b r h e => hH1.own b r e (by omega)
  have hcont : ∀ b, (Hs j).length ≤ b → b < (Hs (j + 1)).length → (HD Hs l.length c)[b]? = (Hs (j + 1))[b]? ∧ (G ++ new)[b]? = (Hs (j + 1))[b]? := fun b h1 h2 => by
    have hcle : c ≤ j := hcj fun e => by rw [e] at hlen; simp at hlen; omega
    have hbn : b < (Hs l.length).length := by omega
    refine ⟨?_, by rw [hnew, List.getElem?_append_right (by omega), List.getElem?_append_right h1, hGl]⟩
    have e1 := own_gt K.len (j := j) (by omega) hbn h1
    have e2 := own_le K.len (j := j + 1) (by omega) h2
    rw [HD_get K.len Q.cle hbn, show max (own Hs b l.length) c = j + 1 by omega]
  have holdlt : ∀ b r, ρD b = some r → L0 ≤ b → r.a.block < w.heap.size := fun b r e h => (Q.hp.own b r e h).2.1
  obtain ⟨hfV, hfO⟩ := Q.frame K ho hj
  refine ⟨c, overlay Hs l.length j ρs ρD ρ1, aD.put o.dst (V j), am.put o.dst x, w', s, put_defers .., ?_⟩
  refine ⟨?_, ?_, Q.cle, ?_, ?_, hfV, hfO, (Q.fr.mono hle).put' hdn ?_, ?_, ?_, ?_, ?_⟩
  · rintro i (hi | rfl)
    · exact Q.lt i hi
    · exact hjl
  · rintro i (hi | rfl) q hq
    · exact .inl (Q.down i hi q hq)
    · exact .inl (hup q hq)
  · rintro i y (hi | rfl) hy hw
    · exact Q.cW i y hi hy hw
    · rw [ho] at hy; cases hy; exact absurd hw hn
  · intro h; obtain ⟨q1, q2⟩ := Q.cD h; exact ⟨.inl q1, q2⟩
  · obtain ⟨y, hy⟩ := K.S.val j hjl
    exact VRel.both hboth _ _ _ hv hy
  · -- the heap
    refine ⟨hl.below, hl.inv, hl.lt, fun b r e => ?_, fun b r e hL => ?_, ?_, ?_⟩
    · rw [HD_len]
      rcases hcase b r e with h | ⟨_, h, _⟩
      · have := Q.hp.dom b r h; rwa [HD_len] at this
      · omega
    · rcases hcase b r e with h | ⟨h1, _, h3, _⟩
      · exact hl.own b r h hL
      · have := hown1 b r h1 h3
        have := Q.hp.below.size
        exact ⟨by omega, by omega, by simp_all⟩
    · intro b b' r r' k k' e e' hL hL' hk hk' hl1 hl2 hbl
      rcases hcase b r e with h | ⟨h1, h2, h3, _⟩ <;> rcases hcase b' r' e' with h' | ⟨h1', h2', h3', _⟩
      · exact hl.apart b b' r r' k k' h h' hL hL' hk hk' hl1 hl2 hbl
      · have := holdlt b r h hL; have := (hown1 b' r' h1' h3').1; omega
      · have := holdlt b' r' h' hL'; have := (hown1 b r h1 h3).1; omega
      · obtain ⟨q1, q2⟩ := hcont b h1 h2
        obtain ⟨q1', q2'⟩ := hcont b' h1' h2'
        exact hH1.apart b b' r r' k k' h3 h3' (by omega) (by omega) (by rw [q2, ← q1]; exact hk) (by rw [q2', ← q1']; exact hk') hl1 hl2 hbl
    · intro b r k e hk
      rcases hcase b r e with h | ⟨h1, h2, h3, r', h4⟩
      · exact (hl.blk b r k h hk).mono hle rfl
      · obtain ⟨q1, q2⟩ := hcont b h1 h2
        rw [q1] at hk
        have hB := hH1.blk b r k h3 (by rw [q2]; exact hk)
        obtain ⟨wj, hwj⟩ := K.S.hp (j + 1) (by omega)
        have hB2 := hwj.blk b r' k (K.S.back' K.len (by omega) (Nat.le_refl _) h4 h2) hk
        have e1 : (G.length ≤ b) = True := by simp; omega
        have e2 : (L0 ≤ b) = True := by simp; omega
        rw [e1] at hB; rw [e2] at hB2 ⊢
        have := brel_both hboth id hB hB2
        cases k with
        | dead => trivial
        | loop => exact this
        | map => exact this
        | cells vs => exact ⟨this.1, this.2.1, fun q => absurd trivial q⟩
  · -- what was there
    refine ⟨Mp.le_trans Q.ext.le hle, fun b r e e0 => ?_, Nat.le_trans Q.ext.size hBw.size, fun pb hp hno => (hBw.block pb (Nat.lt_of_lt_of_le hp Q.ext.size)).trans (Q.ext.keep pb hp hno)⟩
    rcases hcase b r e with h | ⟨h1, _, h3, _⟩
    · exact Q.ext.fresh b r h e0
    · have := (hown1 b r h1 h3).1
      have := Q.ext.size
      exact ⟨by omega, .inl (by omega)⟩
  · intro b r e
    rcases hcase b r e with h | ⟨h1, h2, h3, h4⟩
    · obtain ⟨q1, q2⟩ := Q.dom b r h
      exact ⟨q1, q2.imp id fun ⟨i, hi, q⟩ => ⟨i, .inl hi, q⟩⟩
    · exact ⟨h4, .inr ⟨j, .inr rfl, h1, h2⟩⟩
  · intro i y hi hy hw hc hlt r hr b' r' hne hr' hL
    rcases hi with hi | rfl
    · -- an earlier one
      have hold : ρD (Hs i).length = some r := by
        rcases hcase _ _ hr with h | ⟨h1, h2, _, _⟩
        · exact h
        · exfalso
          rcases Nat.lt_trichotomy i j with e | e | e
          · have := K.len (i + 1) j (by omega) (by omega); omega
          · subst e; exact hj hi
          · have := K.len (j + 1) i (by omega) (by have := Q.lt i hi; omega); omega
      rcases hcase b' r' hr' with h | ⟨h1, _, h3, _⟩
      · exact Q.uns i y hi hy hw hc hlt r hold b' r' hne h hL
      · have := (hown1 b' r' h1 h3).1
        have := holdlt _ _ hold (by have := K.len 0 i (by omega) (by have := Q.lt i hi; omega); rw [K.h0] at this; omega)
        omega
    · rw [ho] at hy; cases hy
      have hone := hn1 hw
      rcases hcase _ _ hr with h | ⟨h1, h2, h3, _⟩
      · rcases Q.range K hjl hj h with q | ⟨q, _⟩ <;> omega
      · have hb := (hown1 _ r h1 h3).1
        rcases hcase b' r' hr' with h' | ⟨h1', h2', _, _⟩
        · have := holdlt b' r' h' hL; omega
        · omega
end
end Go.AM

namespace Go.AM
open Go Go.RowKit
section
variable {C : Cfg} {I : World → Prop} {E : Tab} {rec : Rec} {ρ : Mp} {L0 lo nt : Nat} {w0 wS w : World} {H : Heap} {a : Fr} {l : List AOper} {ops : Array Oper} {A : Nat → Fr} {Hs : Nat → Heap} {V : Nat → AV} {ρs : Nat → Mp} {ck : List (Nat × Nat)}
  {D : Nat → Prop} {c : Nat} {ρD : Mp} {aD : Fr} {am : Act}

theorem Ctx.writeStep (K : Ctx C I E rec ρ L0 lo nt w0 wS H a l ops A Hs V ρs ck) (Q : DS C I ρ L0 nt w0 wS H a l ops Hs V ρs D c ρD aD am w) {j : Nat} {o : AOper} (ho : l[j]? = some o) (hj : ¬ D j) (hup : ∀ i, Ahead ops.toList j i → D i)
    (hn : o.op.cl C.kd = .write) (b : Frame) (km : List Item) (cs : List Frame) (rest : List Nat) :
    ∃ c' ρ' aD' am' w', Steps C.P (lone (b.atR am (.inRegion ops (j :: rest) :: km)) cs w) (lone (b.atR am' (.inRegion ops rest :: km)) cs w') ∧ am'.defers = am.defers ∧ DS C I ρ L0 nt w0 wS H a l ops Hs V ρs (fun i => D i ∨ i = j) c' ρ' aD' am' w' := by
  have hjl := (List.getElem?_eq_some_iff.1 ho).1
  have hbefore := Q.wBefore hup (j := j) fun i x hi hx hw' => by
    rcases (K.pair i j x o hi hx ho).2 with h | ⟨_, _, h⟩
    · exact h
    · rw [hn, hw'] at h; simp [memOk] at h
  have hc : c ≤ j := Q.cBefore hj fun i x hi hx hw' => by
    rcases (K.pair j i o x hi ho hx).2 with h | ⟨_, _, h⟩
    · exact h
    · rw [hn, hw'] at h; simp [memOk] at h
  have hH0 : H.length ≤ (Hs j).length := by have := K.len 0 j (by omega) (by omega); rwa [K.h0] at this
  have hjj := K.len j (j + 1) (by omega) (by omega)
  have hjn := K.len (j + 1) l.length (by omega) (Nat.le_refl _)
  have hL0 : L0 ≤ H.length := K.start.lt
  obtain ⟨a', ha', hfr⟩ := K.view Q ho hj hup
  obtain ⟨om, hom, hpo⟩ := K.hp j o ho
  obtain ⟨_, _, hdn, _⟩ := prepOper_spec hpo
  -- the heap ahead of it
  have hget : ∀ b, b < (Hs j).length → (HD Hs l.length c)[b]? = (Hs j)[b]? := fun b hb => by
    have hbn : b < (Hs l.length).length := by omega
    have hown := own_le K.len (j := j) (by omega) hb
    obtain ⟨hs1, hs2, _⟩ := own_spec K.len hbn
    rw [HD_get K.len Q.cle hbn]
    refine (K.still (j := max (own Hs b l.length) c) (k := j) (by omega) (by omega) (fun i x h1 h2 hx => hbefore i x (by omega) h2 hx) ?_).symm
    exact Nat.lt_of_lt_of_le hs2 (K.len _ _ (Nat.le_max_left ..) (by omega))
  have hG : HRel C I (ρD.cut (Hs j).length) L0 w0 (Hs j) w := by
    refine ⟨Q.hp.below, Q.hp.inv, by omega, fun b r e => (Mp.cut_some e).1, fun b r e hL => Q.hp.own b r (Mp.cut_some e).2 hL, ?_, ?_⟩
    · intro b b' r r' k k' e e' hL hL' hk hk' hl1 hl2 hbl
      obtain ⟨q1, q2⟩ := Mp.cut_some e
      obtain ⟨q1', q2'⟩ := Mp.cut_some e'
      exact Q.hp.apart b b' r r' k k' q2 q2' hL hL' (by rw [hget b q1]; exact hk) (by rw [hget b' q1']; exact hk') hl1 hl2 hbl
    · intro b r k e hk
      obtain ⟨q1, q2⟩ := Mp.cut_some e
      have hB := Q.hp.blk b r k q2 (by rw [hget b q1]; exact hk)
      obtain ⟨⟨r', hr'⟩, _⟩ := Q.dom b r q2
      obtain ⟨wj, hwj⟩ := K.S.hp j (by omega)
      have hB2 := hwj.blk b r' k (K.S.back' K.len (by omega) (Nat.le_refl _) hr' q1) hk
      exact brel_both (K.cutBoth ho) id hB hB2
  have hst := (K.T.step j o ho).1
  obtain ⟨ρ1, x, w', s, hv, hH1, hE1, _⟩ := oper_sim K.hE K.hS K.hR hom hpo (a := a') (H := Hs j) (v := V j) (H' := Hs (j + 1)) (lo := lo) (by
    show stepV E rec lo o a' (Hs j) = _
    rw [stepV_congr ha']; exact hst) hG hfr K.hlo b km cs (rest := rest)
  have hle := Q.overlay_le K hjl hj ρ1
  have hboth := K.overlayBoth hjl hE1 rfl
  have hcase : ∀ b r, overlay Hs l.length j ρs ρD ρ1 b = some r → (b < (Hs (j + 1)).length ∧ ρ1 b = some r ∧ ∃ r', ρs l.length b = some r') ∨ ((Hs (j + 1)).length ≤ b ∧ ρD b = some r) := fun b r h => by
    by_cases h1 : (Hs (j + 1)).length ≤ b
    · right; rw [overlay_out (.inr h1)] at h; exact ⟨h1, h⟩
    · left
      by_cases h2 : (Hs j).length ≤ b
      · obtain ⟨q1, q2⟩ := (overlay_in h2 (by omega)).1 h
        exact ⟨by omega, q1, q2⟩
      · rw [overlay_out (.inl (by omega))] at h
        refine ⟨by omega, hE1.le b r ?_, (Q.dom b r h).1⟩
        simp [Mp.cut, h, show b < (Hs j).length by omega]
  have holdlt : ∀ b r, ρD b = some r → L0 ≤ b → r.a.block < w.heap.size := fun b r e h => (Q.hp.own b r e h).2.1
  -- blocks of later operations are nobody else's
  have later : ∀ b r, (Hs (j + 1)).length ≤ b → ρD b = some r → ∀ b' r', b' ≠ b → ρD b' = some r' → L0 ≤ b' → r'.a.block ≠ r.a.block := fun b r hb hr => by
    rcases Q.range K hjl hj hr with h | ⟨_, i, hij, hi, h1, h2⟩
    · omega
    · have hil := Q.lt i hi
      have hy : l[i]? = some l[i] := by simp
      have hsti := (K.T.step i l[i] hy).1
      rcases (K.pair j i o l[i] hij ho hy).2 with h | ⟨_, _, h⟩
      · exact absurd (Q.down i hi j h) hj
      · rw [hn] at h
        have hlt : (Hs i).length < (Hs (i + 1)).length := by omega
        have hcl : l[i].op.cl C.kd = .new ∧ (Hs (i + 1)).length = (Hs i).length + 1 := by
          unfold stepV at hsti
          split at hsti
          · cases hk : l[i].op.cl C.kd with
            | pure => obtain ⟨e, _⟩ := opF_pure hk hsti; rw [e] at hlt; omega
            | new => obtain ⟨vs, e, _⟩ := opF_new hk hsti; exact ⟨rfl, by rw [e]; simp⟩
            | load =>
              have : ∃ n x, l[i].op = .load n x := by cases ho' : l[i].op <;> rw [ho'] at hk <;> simp [AOp.cl] at hk <;> first | exact ⟨_, _, rfl⟩ | (split at hk <;> cases hk)
              obtain ⟨n, x, e⟩ := this
              rw [e] at hsti
              simp only [opF, opA] at hsti
              split at hsti
              · obtain ⟨_, _, e2⟩ := Option.map_eq_some_iff.1 hsti; simp only [Prod.mk.injEq] at e2; rw [← e2.2] at hlt; omega
              · obtain ⟨_, _, e2⟩ := Option.map_eq_some_iff.1 hsti; simp only [Prod.mk.injEq] at e2; rw [← e2.2] at hlt; omega
              · cases hsti
            | call => rw [hk] at h; simp [memOk] at h
            | write => rw [hk] at h; simp [memOk] at h
          · simp only [Option.some.injEq, Prod.mk.injEq] at hsti; rw [← hsti.2] at hlt; omega
          · cases hsti
        have hbi : b = (Hs i).length := by omega
        subst hbi
        exact Q.uns i l[i] hi hy hcl.1 (by omega) hlt r hr
  -- the new places share no block with those of later operations
  have apart1 : ∀ b r b' r', b < (Hs (j + 1)).length → ρ1 b = some r → L0 ≤ b → (Hs (j + 1)).length ≤ b' → ρD b' = some r' → r.a.block ≠ r'.a.block := fun b r b' r' hb h1 hL hb' h2 => by
    have hlt' := holdlt b' r' h2 (by omega)
    cases e : ρD.cut (Hs j).length b with
    | some r0 =>
      have := hE1.le b r0 e
      rw [h1] at this; cases this
      exact later b' r' hb' h2 b r (by omega) (Mp.cut_some e).2 hL
    | none =>
      obtain ⟨_, h⟩ := hE1.fresh b r h1 e
      rcases h with h | ⟨b0, r0, hL0', e1, e2⟩
      · omega
      · rw [← e2]
        exact later b' r' hb' h2 b0 r0 (by have := (Mp.cut_some e1).1; omega) (Mp.cut_some e1).2 hL0'
  have hkeep : ∀ b r, (Hs (j + 1)).length ≤ b → ρD b = some r → w'.heap[r.a.block]? = w.heap[r.a.block]? := fun b r hb hr =>
    hE1.keep _ (holdlt b r hr (by omega)) fun b0 r0 e hL => later b r hb hr b0 r0 (by have := (Mp.cut_some e).1; omega) (Mp.cut_some e).2 hL
  -- the heap behind it
  have hget1 : ∀ b, b < (Hs (j + 1)).length → (HD Hs l.length (j + 1))[b]? = (Hs (j + 1))[b]? := fun b hb => by
    have := own_le K.len (j := j + 1) (by omega) hb
    rw [HD_get K.len (by omega) (by omega), show max (own Hs b l.length) (j + 1) = j + 1 by omega]
  have hget2 : ∀ b, (Hs (j + 1)).length ≤ b → b < (Hs l.length).length → (HD Hs l.length (j + 1))[b]? = (HD Hs l.length c)[b]? := fun b hb hbn => by
    have := own_gt K.len (j := j + 1) (by omega) hbn hb
    rw [HD_get K.len (by omega) hbn, HD_get K.len Q.cle hbn, show max (own Hs b l.length) (j + 1) = own Hs b l.length by omega, show max (own Hs b l.length) c = own Hs b l.length by omega]
  have hDn : ∀ b r, ρD b = some r → b < (Hs l.length).length := fun b r e => by have := Q.hp.dom b r e; rwa [HD_len] at this
  obtain ⟨hfV, hfO⟩ := Q.frame K ho hj
  refine ⟨j + 1, overlay Hs l.length j ρs ρD ρ1, aD.put o.dst (V j), am.put o.dst x, w', s, put_defers .., ?_⟩
  refine ⟨?_, ?_, by omega, ?_, ?_, hfV, hfO, (Q.fr.mono hle).put' hdn ?_, ?_, ?_, ?_, ?_⟩
  · rintro i (hi | rfl)
    · exact Q.lt i hi
    · exact hjl
  · rintro i (hi | rfl) q hq
    · exact .inl (Q.down i hi q hq)
    · exact .inl (hup q hq)
  · rintro i y (hi | rfl) hy hw
    · have := Q.cW i y hi hy hw; omega
    · omega
  · intro _; exact ⟨.inr (by omega), o, by simpa using ho, hn⟩
  · obtain ⟨y, hy⟩ := K.S.val j hjl
    exact VRel.both hboth _ _ _ hv hy
  · refine ⟨hH1.below, hH1.inv, by rw [HD_len]; omega, fun b r e => ?_, fun b r e hL => ?_, ?_, ?_⟩
    · rw [HD_len]
      rcases hcase b r e with ⟨h, _⟩ | ⟨_, h⟩
      · omega
      · exact hDn b r h
    · rcases hcase b r e with ⟨_, h, _⟩ | ⟨_, h⟩
      · exact hH1.own b r h hL
      · have := Q.hp.own b r h hL
        have := hE1.size
        exact ⟨by omega, by omega, by simp_all⟩
    · intro b b' r r' k k' e e' hL hL' hk hk' hl1 hl2 hbl
      rcases hcase b r e with ⟨h1, h2, _⟩ | ⟨h1, h2⟩ <;> rcases hcase b' r' e' with ⟨h1', h2', _⟩ | ⟨h1', h2'⟩
      · rw [hget1 b h1] at hk; rw [hget1 b' h1'] at hk'
        exact hH1.apart b b' r r' k k' h2 h2' hL hL' hk hk' hl1 hl2 hbl
      · exact absurd hbl (apart1 b r b' r' h1 h2 hL h1' h2')
      · exact absurd hbl.symm (apart1 b' r' b r h1' h2' hL' h1 h2)
      · rcases Nat.lt_trichotomy b b' with q | q | q
        · exact absurd hbl (later b' r' h1' h2' b r (by omega) h2 hL)
        · exact q
        · exact absurd hbl (later b' r' h1' h2' b r (by omega) h2 hL)
    · intro b r k e hk
      rcases hcase b r e with ⟨h1, h2, r', h3⟩ | ⟨h1, h2⟩
      · rw [hget1 b h1] at hk
        have hB := hH1.blk b r k h2 hk
        obtain ⟨wj, hwj⟩ := K.S.hp (j + 1) (by omega)
        exact brel_both hboth id hB (hwj.blk b r' k (K.S.back' K.len (by omega) (Nat.le_refl _) h3 h1) hk)
      · rw [hget2 b h1 (hDn b r h2)] at hk
        exact (Q.hp.blk b r k h2 hk).mono hle (hkeep b r h1 h2)
  · refine ⟨Mp.le_trans Q.ext.le hle, fun b r e e0 => ?_, Nat.le_trans Q.ext.size hE1.size, fun pb hp hno => ?_⟩
    · rcases hcase b r e with ⟨h1, h2, h3⟩ | ⟨h1, h2⟩
      · cases ec : ρD.cut (Hs j).length b with
        | some r0 =>
          have := hE1.le b r0 ec
          rw [h2] at this; cases this
          exact Q.ext.fresh b r (Mp.cut_some ec).2 e0
        | none =>
          obtain ⟨q1, q2⟩ := hE1.fresh b r h2 ec
          refine ⟨by omega, ?_⟩
          rcases q2 with q2 | ⟨b0, r0, hL0', e1, e2⟩
          · left; have := Q.ext.size; omega
          · obtain ⟨_, e3⟩ := Mp.cut_some e1
            cases e4 : ρ b0 with
            | some r4 =>
              have := Q.ext.le b0 r4 e4
              rw [e3] at this; cases this
              exact .inr ⟨b0, r0, hL0', e4, e2⟩
            | none => have := (Q.ext.fresh b0 r0 e3 e4).2; rwa [e2] at this
      · exact Q.ext.fresh b r h2 e0
    · rw [hE1.keep pb (Nat.lt_of_lt_of_le hp Q.ext.size) ?_, Q.ext.keep pb hp hno]
      intro b0 r0 e1 hL'
      obtain ⟨_, e3⟩ := Mp.cut_some e1
      cases e4 : ρ b0 with
      | some r4 =>
        have := Q.ext.le b0 r4 e4
        rw [e3] at this; cases this
        exact hno b0 r0 e4 hL'
      | none =>
        rcases (Q.ext.fresh b0 r0 e3 e4).2 with q | ⟨b5, r5, q1, q2, q3⟩
        · omega
        · rw [← q3]; exact hno b5 r5 q2 q1
  · intro b r e
    rcases hcase b r e with ⟨h1, h2, h3⟩ | ⟨h1, h2⟩
    · refine ⟨h3, ?_⟩
      by_cases h4 : (Hs j).length ≤ b
      · exact .inr ⟨j, .inr rfl, h4, h1⟩
      · rw [overlay_out (.inl (by omega))] at e
        exact (Q.dom b r e).2.imp id fun ⟨i, hi, q⟩ => ⟨i, .inl hi, q⟩
    · obtain ⟨q1, q2⟩ := Q.dom b r h2
      exact ⟨q1, q2.imp id fun ⟨i, hi, q⟩ => ⟨i, .inl hi, q⟩⟩
  · intro i y hi hy hw hc' hlt r hr b' r' hne hr' hL
    rcases hi with hi | rfl
    · have hil := Q.lt i hi
      have hge : (Hs (j + 1)).length ≤ (Hs i).length := K.len (j + 1) i (by omega) (by omega)
      have hold : ρD (Hs i).length = some r := by
        rcases hcase _ _ hr with ⟨h, _⟩ | ⟨_, h⟩
        · omega
        · exact h
      rcases hcase b' r' hr' with ⟨h1, h2, _⟩ | ⟨_, h2⟩
      · exact apart1 b' r' _ r h1 h2 hL hge hold
      · exact Q.uns i y hi hy hw (by omega) hlt r hold b' r' hne h2 hL
    · rw [ho] at hy; cases hy; rw [hn] at hw; cases hw
end
end Go.AM

namespace Go.AM
open Go Go.RowKit

theorem filter_lt {α : Type} {p q : α → Bool} {x : α} (hpq : ∀ y, q y = true → p y = true) (hp : p x = true) (hq : q x = false) : ∀ {l : List α}, x ∈ l → (l.filter q).length < (l.filter p).length
  | [], h => by cases h
  | y :: l, h => by
    have hle : ∀ l : List α, (l.filter q).length ≤ (l.filter p).length := fun l => by
      induction l with
      | nil => simp
      | cons z l ih =>
        simp only [List.filter_cons]
        cases e : q z with
        | true => rw [hpq z e]; simp; omega
        | false => cases p z <;> simp <;> omega
    simp only [List.filter_cons]
    rcases List.mem_cons.1 h with rfl | h
    · have := hle l
      rw [hp, hq]; simp; omega
    · have := filter_lt hpq hp hq h
      cases e : q y with
      | true => rw [hpq y e]; simp; omega
      | false => cases p y <;> simp <;> omega

section
variable {C : Cfg} {I : World → Prop} {E : Tab} {rec : Rec} {ρ : Mp} {L0 lo nt : Nat} {w0 wS w : World} {H : Heap} {a : Fr} {l : List AOper} {ops : Array Oper} {A : Nat → Fr} {Hs : Nat → Heap} {V : Nat → AV} {ρs : Nat → Mp} {ck : List (Nat × Nat)}

theorem Ctx.begin (K : Ctx C I E rec ρ L0 lo nt w0 wS H a l ops A Hs V ρs ck) {am : Act} (hf : FrRel ρ nt a am.tmps) : DS C I ρ L0 nt w0 wS H a l ops Hs V ρs (fun _ => False) 0 ρ a am wS := by
  have h := K.start
  have hlen := K.len 0 l.length (by omega) (Nat.le_refl _)
  rw [K.h0] at hlen
  have hget : ∀ b, b < H.length → (HD Hs l.length 0)[b]? = H[b]? := fun b hb => by
    have := own_le K.len (j := 0) (by omega) (by rw [K.h0]; exact hb)
    rw [HD_get K.len (by omega) (by omega), show max (own Hs b l.length) 0 = 0 by omega, K.h0]
  have hget' : ∀ b r k, ρ b = some r → (HD Hs l.length 0)[b]? = some k → H[b]? = some k := fun b r k e hk => by rwa [hget b (h.dom b r e)] at hk
  refine ⟨fun _ q => q.elim, fun _ q => q.elim, by omega, fun _ _ q => q.elim, fun q => absurd rfl q, fun _ _ _ q => q.elim, fun _ _ => rfl, hf, ?_, Ext.refl .., fun b r e => ⟨?_, .inl (h.dom b r e)⟩, fun _ _ q => q.elim⟩
  · exact ⟨h.below, h.inv, by rw [HD_len]; have := h.lt; omega, fun b r e => by rw [HD_len]; have := h.dom b r e; omega, h.own,
      fun b b' r r' k k' e e' hL hL' hk hk' => h.apart b b' r r' k k' e e' hL hL' (hget' b r k e hk) (hget' b' r' k' e' hk'), fun b r k e hk => h.blk b r k e (hget' b r k e hk)⟩
  · exact ⟨r, K.S.le' (j := 0) (by omega) (Nat.le_refl _) b r (by rw [K.S.zero]; exact e)⟩

theorem DS.final {D : Nat → Prop} {c : Nat} {ρD : Mp} {aD : Fr} {am : Act} (Q : DS C I ρ L0 nt w0 wS H a l ops Hs V ρs D c ρD aD am w) (K : Ctx C I E rec ρ L0 lo nt w0 wS H a l ops A Hs V ρs ck) (hall : ∀ i, i < l.length → D i) :
    FrRel ρD nt (A l.length) am.tmps ∧ HRel C I ρD L0 w0 (Hs l.length) w ∧ Ext ρ L0 H.length wS ρD w := by
  have h1 : aD = A l.length := funext fun t => by
    rcases K.aval l.length (Nat.le_refl _) t with ⟨i, o, q1, q2, q3, q4⟩ | ⟨q1, q2⟩
    · rw [q4]; exact Q.frV i o t (hall i q1) q2 q3
    · rw [q2]; exact Q.frO t fun i o hi ho => q1 i o (Q.lt i hi) ho
  have h2 : HD Hs l.length c = Hs l.length := by
    refine List.ext_getElem? fun b => ?_
    by_cases hb : b < (Hs l.length).length
    · obtain ⟨hs1, hs2, _⟩ := own_spec K.len hb
      have hcle := Q.cle
      rw [HD_get K.len Q.cle hb]
      refine (K.still (j := max (own Hs b l.length) c) (k := l.length) (by omega) (Nat.le_refl _) (fun i x q1 q2 hx hw => ?_) ?_).symm
      · have := Q.cW i x (hall i q2) hx hw; omega
      · exact Nat.lt_of_lt_of_le hs2 (K.len _ _ (Nat.le_max_left ..) (by omega))
    · rw [List.getElem?_eq_none (by rw [HD_len]; omega), List.getElem?_eq_none (by omega)]
  have h3 := Q.fr
  have h4 := Q.hp
  rw [h1] at h3
  rw [h2] at h4
  exact ⟨h3, h4, Q.ext⟩

/-- what is listed -/
def Dn (ops : Array Oper) (listed : Array Bool) (i : Nat) : Prop := i < ops.size ∧ listed.getD i false = true

theorem Ctx.go (K : Ctx C I E rec ρ L0 lo nt w0 wS H a l ops A Hs V ρs ck) (hsz : l.length = ops.size) (he : edgesOk 0 ops.toList = true) (b : Frame) (km : List Item) (cs : List Frame) (d0 : List Deferred) :
    ∀ (fuel t : Nat) (listed : Array Bool) (D : Nat → Prop) (c : Nat) (ρD : Mp) (aD : Fr) (am : Act) (w : World), listed.size = ops.size → (∀ i, D i ↔ Dn ops listed i) → ((List.range ops.size).filter fun i => !listed.getD i true).length ≤ fuel → am.defers = d0 →
      DS C I ρ L0 nt w0 wS H a l ops Hs V ρs D c ρD aD am w →
      ∃ ρ' am' w', Steps C.P (lone (b.atR am (.inRegion ops (Region.linearise.go .any ops fuel t listed []) :: km)) cs w) (lone (b.atR am' (.inRegion ops [] :: km)) cs w') ∧ am'.defers = d0 ∧
        FrRel ρ' nt (A l.length) am'.tmps ∧ HRel C I ρ' L0 w0 (Hs l.length) w' ∧ Ext ρ L0 H.length wS ρ' w' := by
  intro fuel
  have isOn : ∀ (listed : Array Bool) (i : Nat), listed.size = ops.size → i < ops.size → (listed.getD i false = true ↔ ¬ listed.getD i true = false) := fun listed i h1 h2 => by
    have hlt : i < listed.size := by omega
    simp [Array.getD, hlt]
  have done : ∀ (listed : Array Bool) (D : Nat → Prop) (c : Nat) (ρD : Mp) (aD : Fr) (am : Act) (w : World), listed.size = ops.size → (∀ i, D i ↔ Dn ops listed i) → (∀ i, i < ops.size → ¬ listed.getD i true = false) → am.defers = d0 →
      DS C I ρ L0 nt w0 wS H a l ops Hs V ρs D c ρD aD am w → ∃ ρ' am' w', Steps C.P (lone (b.atR am (.inRegion ops [] :: km)) cs w) (lone (b.atR am' (.inRegion ops [] :: km)) cs w') ∧ am'.defers = d0 ∧
        FrRel ρ' nt (A l.length) am'.tmps ∧ HRel C I ρ' L0 w0 (Hs l.length) w' ∧ Ext ρ L0 H.length wS ρ' w' := fun listed D c ρD aD am w hl hD hall hd Q => by
    obtain ⟨h1, h2, h3⟩ := Q.final K fun i hi => (hD i).2 ⟨by omega, (isOn listed i hl (by omega)).2 (hall i (by omega))⟩
    exact ⟨ρD, am, w, .refl .., hd, h1, h2, h3⟩
  induction fuel with
  | zero =>
    intro t listed D c ρD aD am w hl hD hc hd Q
    refine done listed D c ρD aD am w hl hD (fun i hi q => ?_) hd Q
    have : i ∈ (List.range ops.size).filter fun i => !listed.getD i true := by simp only [List.mem_filter, List.mem_range, q]; exact ⟨hi, rfl⟩
    have hnil : (List.range ops.size).filter (fun i => !listed.getD i true) = [] := List.length_eq_zero_iff.1 (by omega)
    rw [hnil] at this
    cases this
  | succ fuel ih =>
    intro t listed D c ρD aD am w hl hD hc hd Q
    simp only [Region.linearise.go]
    change ∃ ρ' am' w', Steps C.P (lone (b.atR am (.inRegion ops (match (Region.ready .any ops listed)[t % (Region.ready .any ops listed).length]? with
      | some i => Region.linearise.go .any ops fuel (t / (Region.ready .any ops listed).length) (listed.setIfInBounds i true) [i]
      | none => [].reverse) :: km)) cs w) _ ∧ _
    cases hi : (Region.ready .any ops listed)[t % (Region.ready .any ops listed).length]? with
    | none =>
      have hnil : Region.ready .any ops listed = [] := by
        cases hr : Region.ready .any ops listed with
        | nil => rfl
        | cons x xs =>
          rw [hr] at hi
          have hlt : t % (x :: xs).length < (x :: xs).length := Nat.mod_lt _ (by simp)
          rw [List.getElem?_eq_getElem hlt] at hi
          cases hi
      refine done listed D c ρD aD am w hl hD ?_ hd Q
      intro i
      induction i using Nat.strongRecOn with
      | ind i ihi =>
        intro hi' q
        have : i ∈ Region.ready .any ops listed := by
          simp only [Region.ready, List.mem_filter, List.mem_range, q, Bool.not_false, Bool.true_and]
          refine ⟨hi', ?_⟩
          rw [Array.getElem?_eq_getElem hi', Option.map_some, Option.getD_some, Array.all_eq_true']
          intro e hem
          cases hb : Region.binds .any e with
          | false => rfl
          | true =>
            have hmem : e.on ∈ edges ops[i] := by
              simp only [edges, List.mem_map, List.mem_filter]
              exact ⟨e, ⟨by simpa using hem, hb⟩, rfl⟩
            have hlt := edgesOk_spec he i ops[i] (by simp [hi']) e.on hmem
            have := ihi e.on (by omega) (by omega)
            simp [(isOn listed e.on hl (by omega)).2 this]
        rw [hnil] at this
        cases this
    | some j =>
      simp only []
      rw [linearise_go_acc, List.reverse_singleton, List.singleton_append]
      have hj := List.mem_of_getElem? hi
      simp only [Region.ready, List.mem_filter, List.mem_range, Bool.and_eq_true, Bool.not_eq_true'] at hj
      obtain ⟨hjs, hj1, hj2⟩ := hj
      rw [Array.getElem?_eq_getElem hjs, Option.map_some, Option.getD_some, Array.all_eq_true'] at hj2
      have hjo : l[j]? = some (l[j]'(by omega)) := by simp
      have hjD : ¬ D j := fun q => (isOn listed j hl hjs).1 ((hD j).1 q).2 hj1
      have hedge : ∀ e ∈ edges ops[j], D e := fun e hem => by
        have hlt := edgesOk_spec he j ops[j] (by simp [hjs]) e hem
        simp only [edges, List.mem_map, List.mem_filter] at hem
        obtain ⟨e', ⟨q1, q2⟩, rfl⟩ := hem
        have := hj2 e' (by simpa using q1)
        rw [q2] at this
        exact (hD e'.on).2 ⟨by omega, by simpa using this⟩
      have hup : ∀ i, Ahead ops.toList j i → D i := fun i hah => by
        obtain ⟨e, hem, h⟩ := ahead_spec he (o := ops[j]) (by simp [hjs]) hah
        rcases h with rfl | h
        · exact hedge e hem
        · exact Q.down e (hedge e hem) i h
      have step : ∃ c' ρ' aD' am' w', Steps C.P (lone (b.atR am (.inRegion ops (j :: Region.linearise.go .any ops fuel (t / (Region.ready .any ops listed).length) (listed.setIfInBounds j true) []) :: km)) cs w) (lone (b.atR am' (.inRegion ops (Region.linearise.go .any ops fuel (t / (Region.ready .any ops listed).length) (listed.setIfInBounds j true) []) :: km)) cs w') ∧ am'.defers = am.defers ∧ DS C I ρ L0 nt w0 wS H a l ops Hs V ρs (fun i => D i ∨ i = j) c' ρ' aD' am' w' := by
        by_cases hw : l[j].op.cl C.kd = .write
        · exact K.writeStep Q hjo hjD hup hw b km cs _
        · exact K.readStep Q hjo hjD hup hw b km cs _
      obtain ⟨c', ρ', aD', am', w', s, hdf, Q'⟩ := step
      have hlj : j < listed.size := by omega
      have hset : ∀ i (x : Bool), (listed.setIfInBounds j true).getD i x = if i = j then true else listed.getD i x := fun i x => by
        simp only [Array.getD_eq_getD_getElem?, Array.getElem?_setIfInBounds]
        by_cases e : j = i
        · subst e; simp [hlj]
        · rw [if_neg e, if_neg (Ne.symm e)]
      obtain ⟨ρ2, am2, w2, s2, hd2, hrest⟩ := ih (t / (Region.ready .any ops listed).length) (listed.setIfInBounds j true) (fun i => D i ∨ i = j) c' ρ' aD' am' w' (by simpa using hl) (fun i => by
          unfold Dn
          rw [hset, hD i]
          unfold Dn
          by_cases e : i = j
          · subst e; simp [hjs]
          · simp [e]) (by
          have := filter_lt (p := fun i => !listed.getD i true) (q := fun i => !(listed.setIfInBounds j true).getD i true) (x := j) (l := List.range ops.size) (fun y hy => by
              simp only [hset] at hy ⊢
              split at hy
              · simp at hy
              · exact hy) (by simp only [hj1]; rfl) (by simp only [hset]; simp) (by simpa using hjs)
          omega) (hdf.trans hd) Q'
      exact ⟨ρ2, am2, w2, s.trans s2, hd2, hrest⟩

/-- **a region whose order is drawn** -/
theorem draw_sim (hE : EOk C I E) (hS : Sim C I rec) (hR : LenR rec) (hlo : L0 ≤ lo) {id : Nat} (hp : prepOpers C nt ops ops.toList = some l) (hok : drawOk C.kd ops.toList l ck = true) {a' : Fr} {H' : Heap} (hx : runD E rec lo ck l a H = some (a', H'))
    (h : HRel C I ρ L0 w0 H w) {am : Act} (hf : FrRel ρ nt a am.tmps) (b : Frame) (km : List Item) (cs : List Frame) :
    ∃ ρ' am' w', Steps C.P (lone (b.atR am (.code (.region id ops true) :: km)) cs w) (lone (b.atR am' km) cs w') ∧ FrRel ρ' nt a' am'.tmps ∧ HRel C I ρ' L0 w0 H' w' ∧ Ext ρ L0 H.length w ρ' w' ∧ am'.defers = am.defers := by
  unfold runD at hx
  obtain ⟨tr, htr, hx⟩ := Option.bind_eq_some_iff.1 hx
  split at hx
  · rename_i hck
    have hlen : ∀ {os : List Oper} {l : List AOper}, prepOpers C nt ops os = some l → l.length = os.length := fun {os} => by
      induction os with
      | nil => intro l h; simp [prepOpers] at h; subst h; rfl
      | cons o os ih =>
        intro l h
        simp only [prepOpers] at h
        obtain ⟨x, _, h⟩ := Option.bind_eq_some_iff.1 h
        obtain ⟨xs, hxs, rfl⟩ := Option.map_eq_some_iff.1 h
        simp [ih hxs]
    have hl := hlen hp
    have hsz : l.length = ops.size := by simpa using hl
    obtain ⟨A, Hs, V, T, hget⟩ := tr_of htr
    have hw1 : HRel C I ρ L0 w0 H { w with drawn := w.drawn + 1 } := h.congr rfl rfl rfl rfl
    have hat := opsAt_all hp
    rw [← hsz] at hat
    obtain ⟨ρs, S⟩ := seqs_of hE hS hR T hlo hat hw1 hf
    have getOp : ∀ (l' : List AOper) (k m : Nat), OpsAt C nt ops (List.range' k m) l' → ∀ (j : Nat) (o : AOper), l'[j]? = some o → ∃ om, ops[k + j]? = some om ∧ prepOper C nt ops om = some o := by
      intro l'
      induction l' with
      | nil => intro k m _ j o ho; simp at ho
      | cons x xs ih =>
        intro k m hq j o ho
        cases m with
        | zero => simp [OpsAt] at hq
        | succ m =>
          simp only [List.range'_succ, OpsAt] at hq
          obtain ⟨om, o', l'', e, h1, h2, h3⟩ := hq
          cases e
          cases j with
          | zero => simp at ho; subst ho; exact ⟨om, h1, h2⟩
          | succ j => simp at ho; obtain ⟨om', h4, h5⟩ := ih (k + 1) m h3 j o ho; exact ⟨om', by rw [show k + (j + 1) = k + 1 + j by omega]; exact h4, h5⟩
    have K : Ctx C I E rec ρ L0 lo nt w0 { w with drawn := w.drawn + 1 } H a l ops A Hs V ρs ck := by
      refine ⟨hE, hS, hR, T, hlo, fun j o ho => ?_, S, hw1, fun i j x y hij hx hy => pair_spec hok hl hij hx hy, fun j i hm o n x ho hop bb off hx hb => ?_⟩
      · obtain ⟨om, q1, q2⟩ := getOp l 0 l.length (by rw [← List.range_eq_range']; exact hat) j o ho
        exact ⟨om, by simpa using q1, q2⟩
      · have hjl := (List.getElem?_eq_some_iff.1 ho).1
        have hc := List.all_eq_true.1 hck (j, i) hm
        obtain ⟨dst, op, g⟩ := o
        simp only at hop
        subst hop
        simp only [chk1, ho] at hc
        rw [hget j (by omega)] at hc
        cases e1 : tr[i]? with
        | none => rw [e1] at hc; simp at hc
        | some s1 => cases e2 : tr[i + 1]? with
          | none => rw [e1, e2] at hc; simp at hc
          | some s2 =>
            have htl := (runTr_spec htr).1
            have hi2 := (List.getElem?_eq_some_iff.1 e2).1
            rw [hget i (by omega)] at e1
            rw [hget (i + 1) (by omega)] at e2
            cases e1; cases e2
            rw [hget i (by omega), hget (i + 1) (by omega)] at hc
            simp only [hx, Bool.or_eq_true, decide_eq_true_eq] at hc
            rcases hc with hc | hc
            · omega
            · cases n with
              | none => simp only [ldX]; rw [sameO_eq hc]
              | some n => simp only [ldX]; exact sameLO_eq hc
    have heq : a' = A l.length ∧ H' = Hs l.length := by
      rw [hget l.length (Nat.le_refl _)] at hx
      cases hx; exact ⟨rfl, rfl⟩
    obtain ⟨rfl, rfl⟩ := heq
    have he : edgesOk 0 ops.toList = true := by unfold drawOk at hok; rw [Bool.and_eq_true] at hok; exact hok.1
    obtain ⟨ρ', am', w', s, hd, q1, q2, q3⟩ := K.go hsz he b km cs am.defers ops.size (w.tape w.drawn (.order b.fn id)) (Array.replicate ops.size false) (fun _ => False) 0 ρ a am _ (by simp)
      (fun i => ⟨fun q => q.elim, fun q => by
        have h2 := q.2
        rw [Array.getD_eq_getD_getElem?, Array.getElem?_replicate, if_pos q.1] at h2
        cases h2⟩) (by
        refine Nat.le_trans (List.length_filter_le _ _) (by simp)) rfl (K.begin hf)
    refine ⟨ρ', am', w', .head stepR_region_draw ?_, q1, q2, ⟨q3.le, q3.fresh, q3.size, q3.keep⟩, hd⟩
    rw [hE.mixed]
    simp only [Region.schedule, Bool.true_or, if_true, Region.linearise]
    exact s.trans (.one stepR_region_end)
  · cases hx
end
end Go.AM

namespace Go.AM
open Go Go.RowKit
section
variable {C : Cfg} {I : World → Prop} {E : Tab} {ρ : Mp} {L0 lo nt : Nat} {w0 w : World} {H : Heap}

theorem prepC_cases {cm : Code} {c : ACode} (h : prepC C nt cm = some c) :
    (c = .skip ∧ (cm = .skip ∨ ∃ l, cm = .label l)) ∨ (c = .ret ∧ cm = .ret) ∨ (∃ id, c = .exit id ∧ cm = .exit id) ∨
    (∃ id ops l, c = .reg none l ∧ cm = .region id ops false ∧ prepOpers C nt ops ops.toList = some l) ∨
    (∃ id ops l ck, c = .reg (some ck) l ∧ cm = .region id ops true ∧ prepOpers C nt ops ops.toList = some l ∧ drawOk C.kd ops.toList l ck = true) ∨
    (∃ x y x' y', c = .seq x y ∧ cm = .seq x' y' ∧ prepC C nt x' = some x ∧ prepC C nt y' = some y) ∨
    (∃ e x y e' x' y', c = .cond e x y ∧ cm = .cond e' x' y' ∧ prepX nt e' = some e ∧ prepC C nt x' = some x ∧ prepC C nt y' = some y) ∨
    (∃ id x x', c = .block id x ∧ cm = .block id x' ∧ prepC C nt x' = some x) ∨
    (∃ x x', c = .loop x ∧ cm = .loop x' ∧ prepC C nt x' = some x) ∨
    (∃ x ps asg body x' ps' asg' body', c = .rangeF nt x ps asg body ∧ cm = .rangeFunc x' ps' asg' body' ∧ ps = ps'.toList ∧ (∀ p ∈ ps, p < nt) ∧ prepX nt x' = some x ∧ prepC C nt asg' = some asg ∧ prepC C nt body' = some body) ∨
    (∃ x x', c = .seq x .skip ∧ cm = .scope x' ∧ prepC C nt x' = some x) := by
  cases cm <;> simp only [prepC] at h <;> try (cases h; done)
  case skip => cases h; exact .inl ⟨rfl, .inl rfl⟩
  case label l => cases h; exact .inl ⟨rfl, .inr ⟨l, rfl⟩⟩
  case ret => cases h; exact .inr (.inl ⟨rfl, rfl⟩)
  case exit id => cases h; exact .inr (.inr (.inl ⟨id, rfl, rfl⟩))
  case region id ops draw =>
    obtain ⟨l, hl, h⟩ := Option.bind_eq_some_iff.1 h
    split at h
    · rename_i hd
      split at h
      · rename_i hok
        cases h
        subst hd
        exact .inr (.inr (.inr (.inr (.inl ⟨id, ops, l, _, rfl, rfl, hl, hok⟩))))
      · cases h
    · rename_i hd
      cases h
      have : draw = false := by simpa using hd
      subst this
      exact .inr (.inr (.inr (.inl ⟨id, ops, l, rfl, rfl, hl⟩)))
  case seq x y =>
    obtain ⟨x', hx, h⟩ := Option.bind_eq_some_iff.1 h
    obtain ⟨y', hy, rfl⟩ := Option.map_eq_some_iff.1 h
    exact .inr (.inr (.inr (.inr (.inr (.inl ⟨x', y', x, y, rfl, rfl, hx, hy⟩)))))
  case cond e x y =>
    obtain ⟨e', he, h⟩ := Option.bind_eq_some_iff.1 h
    obtain ⟨x', hx, h⟩ := Option.bind_eq_some_iff.1 h
    obtain ⟨y', hy, rfl⟩ := Option.map_eq_some_iff.1 h
    exact .inr (.inr (.inr (.inr (.inr (.inr (.inl ⟨e', x', y', e, x, y, rfl, rfl, he, hx, hy⟩))))))
  case block id x =>
    obtain ⟨x', hx, rfl⟩ := Option.map_eq_some_iff.1 h
    exact .inr (.inr (.inr (.inr (.inr (.inr (.inr (.inl ⟨id, x', x, rfl, rfl, hx⟩)))))))
  case scope x =>
    obtain ⟨x', hx, rfl⟩ := Option.map_eq_some_iff.1 h
    exact .inr (.inr (.inr (.inr (.inr (.inr (.inr (.inr (.inr (.inr ⟨x', x, rfl, rfl, hx⟩)))))))))
  case loop x =>
    obtain ⟨x', hx, rfl⟩ := Option.map_eq_some_iff.1 h
    exact .inr (.inr (.inr (.inr (.inr (.inr (.inr (.inr (.inl ⟨x', x, rfl, rfl, hx⟩))))))))
  case rangeFunc f ps asg body =>
    split at h
    · rename_i hps
      obtain ⟨x', hx, h⟩ := Option.bind_eq_some_iff.1 h
      obtain ⟨y', hy, h⟩ := Option.bind_eq_some_iff.1 h
      obtain ⟨z', hz, rfl⟩ := Option.map_eq_some_iff.1 h
      exact .inr (.inr (.inr (.inr (.inr (.inr (.inr (.inr (.inr (.inl ⟨x', ps.toList, y', z', f, ps, asg, body, rfl, rfl, rfl, fun p hp => by simpa using List.all_eq_true.1 hps p hp, hx, hy, hz⟩)))))))))
    · cases h

/-- what is to be shown of a state -/
def To (C : Cfg) (I : World → Prop) (ρ : Mp) (L0 : Nat) (w0 : World) (H : Heap) (w : World) (nt base : Nat) (b : Frame) (am : Act) (km : List Item) (cs : List Frame) (out : Out) (a' : Fr) (H' : Heap) : Prop :=
  ∃ ρ' am' w', FrRel ρ' nt a' am'.tmps ∧ HRel C I ρ' L0 w0 H' w' ∧ Ext ρ L0 H.length w ρ' w' ∧ Marks ρ' L0 base w' am'.defers ∧ Ends C.P b am km cs w am' w' out

theorem sim_range (hE : EOk C I E) {n : Nat} (hS : Sim C I (R E n)) {rd : Option Nat} {x : AX} {ps : List Nat} {asg body : ACode} {k : List AI} {a : Fr} {out : Out} {a' : Fr} {H' : Heap} (hx : stepR E (R E n) lo rd (.code (.rangeF nt x ps asg body) :: k) a H = some (out, a', H'))
    {b : Frame} {am : Act} {xm : Operand} {psm : Array Tmp} {asgm bodym : Code} {km : List Item} {cs : List Frame} {base : Nat} (hps : ps = psm.toList) (hpl : ∀ p ∈ ps, p < nt) (hpx : prepX nt xm = some x) (hpa : prepC C nt asgm = some asg) (hpb : prepC C nt bodym = some body)
    (hk : ItemsRel C nt k km) (hrd : RdRel ρ rd b.roundOf) (hf : FrRel ρ nt a am.tmps) (h : HRel C I ρ L0 w0 H w) (hlo : L0 ≤ lo) (hbase : base ≤ w.heap.size) (hbase0 : w0.heap.size ≤ base) (hM : Marks ρ L0 base w am.defers) :
    To C I ρ L0 w0 H w nt base b am (.code (.rangeFunc xm psm asgm bodym) :: km) cs out a' H' := by
  simp only [stepR] at hx
  split at hx
  · rename_i hmay
    split at hx
    · rename_i g us caps ex
      obtain ⟨⟨v, H1⟩, hcall, hx⟩ := Option.bind_eq_some_iff.1 hx
      -- the loop's record is laid
      have lay : ∃ (lb : Nat) (mark : List Deferred) (W : World) (ρ1 : Mp), (Instr.enterLoop b.fn am.tmps psm asgm bodym b.roundOf).run C.P w = .ok (lb, mark) W ∧ ρ1 H.length = some ⟨⟨lb, 0, none⟩, none⟩ ∧
          HRel C I ρ1 L0 w0 (H ++ [.loop .ready none nt a ps asg body]) W ∧ Ext ρ L0 H.length w ρ1 W ∧ Marks ρ1 L0 base W (mark ++ am.defers) := by
        have push : ∀ (wA : World) (rec : Loop), HRel C I ρ L0 w0 H wA → rec.state = .ready → rec.pending = none → rec.tmps = am.tmps → rec.params = psm → rec.assign = asgm → rec.body = bodym →
            HRel C I (ρ.add H.length ⟨⟨wA.heap.size, 0, none⟩, none⟩) L0 w0 (H ++ [.loop .ready none nt a ps asg body]) (wA.alloc (.loop rec)) ∧ Ext ρ L0 H.length wA (ρ.add H.length ⟨⟨wA.heap.size, 0, none⟩, none⟩) (wA.alloc (.loop rec)) := fun wA rec hA e1 e2 e3 e4 e5 e6 => by
          refine HRel.push hA (.loop rec) (.loop .ready none nt a ps asg body) none 0 fun _ => ⟨rec, World.alloc_heap_new wA _, e1, e2, ?_, by rw [e4, hps], hpl, by rw [e5]; exact hpa, by rw [e6]; exact hpb⟩
          rw [e3]
          exact hf.mono (Mp.le_add ρ _ (hA.none_of_ge (Nat.le_refl _)))
        cases rd with
        | none =>
          simp only [RdRel] at hrd
          obtain ⟨hA, hEA⟩ := HRel.alloc (n := H.length) h (.deferred (some []))
          obtain ⟨hB, hEB⟩ := push (w.alloc (.deferred (some []))) { state := .ready, pending := none, fn := b.fn, tmps := am.tmps, params := psm, assign := asgm, body := bodym, defers := w.heap.size } hA rfl rfl rfl rfl rfl rfl
          have hEx := hEA.trans hEB (Nat.le_refl _)
          refine ⟨w.heap.size + 1, [markOf w.heap.size], _, _, by rw [hrd]; exact run_enterLoop_outer .., by rw [Mp.add_same]; simp, hB, hEx, ?_⟩
          obtain ⟨Ds, q1, q2, q3⟩ := hM
          refine ⟨w.heap.size :: Ds, by simp [q1], List.nodup_cons.2 ⟨fun hm => ?_, q2⟩, fun D hD => ?_⟩
          · have := (q3 _ hm).lt; omega
          · rcases List.mem_cons.1 hD with rfl | hD
            · refine ⟨hbase, (Below.heap_alloc _ _ _ (by simp)).trans (World.alloc_heap_new w _), fun bb r e hL hq => ?_⟩
              by_cases e0 : bb = H.length
              · subst e0; rw [Mp.add_same] at e; cases e; simp at hq
              · rw [Mp.add_ne ρ _ e0] at e
                have := (h.own bb r e hL).2.1; omega
            · exact (q3 D hD).ext hEx
        | some l0 =>
          obtain ⟨r0, hr0, hro⟩ := hrd
          simp only [mayLoop, Bool.and_eq_true, decide_eq_true_eq] at hmay
          obtain ⟨hl0, hm⟩ := hmay
          split at hm
          · rename_i st pd nt0 fr0 ps0 as0 bo0 hk0
            obtain ⟨rec0, p1, _⟩ := h.blk l0 r0 _ hr0 hk0 (by omega)
            obtain ⟨hB, hEB⟩ := push w { state := .ready, pending := none, fn := b.fn, tmps := am.tmps, params := psm, assign := asgm, body := bodym, defers := rec0.defers } h rfl rfl rfl rfl rfl rfl
            exact ⟨w.heap.size, [], _, _, by rw [hro]; exact run_enterLoop_inner p1 .., by rw [Mp.add_same], hB, hEB, hM.ext hEB⟩
          · cases hm
      obtain ⟨lb, mark, W, ρ1, henter, hρ1, hH1, hE1, hM1⟩ := lay
      -- the function is called with yield
      have hxv := evalX hpx hf
      rw [ex] at hxv
      simp only [VRel] at hxv
      obtain ⟨um, cm, hxe, hus, hcm⟩ := hxv
      have hyl : VRel ρ1 (.yl H.length) (.func (.yield lb) #[] #[]) := by simp only [VRel]; exact ⟨_, hρ1, rfl⟩
      have hargs : VRelL ρ1 (us ++ .yl H.length :: caps) (um ++ #[Value.func (.yield lb) #[] #[]] ++ cm).toList := by
        have h1 := (hus.mono hE1.le).append (VRelL.append (vs := [.yl H.length]) (xs := [.func (.yield lb) #[] #[]]) (by simp only [VRelL]; exact ⟨_, _, rfl, hyl, rfl⟩) (hcm.mono hE1.le))
        simpa using h1
      obtain ⟨hen, hcs⟩ := callF_sim hE hS hcall hH1 hargs hlo
      have hres : (resolve am.eval (rangeCall xm lb) 0).run C.P W = .ok { target := .fn (.func g) cm, args := um ++ #[.func (.yield lb) #[] #[]] } W := by
        simp only [resolve, hxe, Deferred.ofValue, Sem.run_pure]
        simp [Act.eval]
      have hinv : (invoke (.fn (.func g) cm) (um ++ #[.func (.yield lb) #[] #[]])).run C.P W = .ok (.enter g (um ++ #[.func (.yield lb) #[] #[]] ++ cm)) W := by
        simp only [invoke]; exact hen _ W
      have s1 := stepR_rangeFunc (P := C.P) (b := b) (a := am) (k := km) (cs := cs) henter hres hinv
      obtain ⟨ρ2, xv, w3, ⟨fr, s2, _, hleave⟩, _, hH2, hE2⟩ := hcs (b.atR { am with defers := mark ++ am.defers } (.inRangeFunc lb :: km) :: cs)
      have s3 := step_leave_returned (c := b.atR { am with defers := mark ++ am.defers } (.inRangeFunc lb :: km)) (cs := cs) hleave
      rw [finish_atR_inRangeFunc] at s3
      have hr2 := hE2.le H.length _ hρ1
      have hL : L0 ≤ H.length := h.lt
      have hlen1 := callF_len (R_len E n) hcall
      simp at hlen1
      have hM2 := hM1.ext hE2
      -- the loop ends
      have fin : ∀ {st : LSt} {pd : Option Jmp} {nt1 : Nat} {fr1 : Fr} {ps1 : List Nat} {as1 bo1 : ACode} {k1 : List AI} {jm : Option Code}, H1[H.length]? = some (.loop st pd nt1 fr1 ps1 as1 bo1) → (st = .busy → False) → JmpRel pd jm →
          R E n lo rd k1 a (H1.set H.length .dead) = some (out, a', H') → ItemsRel C nt k1 ((jm.map Item.code).toList ++ km) → To C I ρ L0 w0 H w nt base b am (.code (.rangeFunc xm psm asgm bodym) :: km) cs out a' H' := fun {st pd nt1 fr1 ps1 as1 bo1 k1 jm} hkk hst hj hrec hit => by
        obtain ⟨rec1, p1, p2, p3, _⟩ := hH2.blk H.length _ _ hr2 hkk hL
        have hpend : rec1.pending = jm := by
          cases pd with
          | none => simp only [JmpRel] at p3 hj; rw [p3, hj]
          | some j => cases j <;> simp only [JmpRel] at p3 hj <;> rw [p3, hj]
        have hnb : rec1.state ≠ .busy := by
          cases st with
          | ready => simp only [StRel] at p2; rw [p2]; simp
          | busy => exact absurd rfl hst
          | done => simp only [StRel] at p2; rw [p2]; simp
        have hend := run_endLoop (P := C.P) p1 hnb
        obtain ⟨w4, hw4⟩ : ∃ w4, w4 = w3.putObj lb (.loop { rec1 with state := .exhausted }) := ⟨_, rfl⟩
        have hend' : (Instr.endLoop lb).run C.P w3 = .ok jm w4 := by rw [hw4, ← hpend]; exact hend
        have hother : ∀ pb, pb ≠ lb → pb < w3.heap.size → w4.heap[pb]? = w3.heap[pb]? := fun pb hp _ => by rw [hw4]; exact World.putObj_heap_other hp
        have hsz : w4.heap.size = w3.heap.size := by rw [hw4]; simp
        have hown := hH2.own H.length _ hr2 hL
        have hbel : Below w0.heap.size w0 w4 := hH2.below.trans (by rw [hw4]; exact ⟨rfl, rfl, rfl, by simp, fun q hq => World.putObj_heap_other (by have := hown.1; simp only at this; omega)⟩)
        have hH4 := hH2.turn hr2 hL hkk trivial .dead hbel hsz hother trivial
        have hE4 : Ext ρ2 L0 H.length w3 ρ2 w4 := Ext.turn hr2 hL hsz hother
        have hEall := (hE1.trans hE2 (by simp)).trans hE4 (Nat.le_refl _)
        obtain ⟨ρ5, am5, w5, q1, q2, q3, q4, q5⟩ := hS lo rd k1 a (H1.set H.length .dead) out a' H' hrec ρ2 L0 w0 w4 b { am with defers := mark ++ am.defers } ((jm.map Item.code).toList ++ km) cs nt base hit
          (hrd.mono hEall.le) (hf.mono hEall.le) hH4 hlo (Nat.le_trans hbase hEall.size) hbase0 (hM2.ext hE4)
        have steps := Steps.head s1 (s2.trans (.head s3 (.one (stepR_endRangeFunc hend'))))
        exact ⟨ρ5, am5, w5, q1, q2, hEall.trans q3 (by simp; omega), q4, q5.of_steps steps⟩
      split at hx
      · cases hx
      · rename_i st nt1 fr1 ps1 as1 bo1 hnb hkk
        exact fin (jm := none) hkk hnb rfl hx hk
      · rename_i st j nt1 fr1 ps1 as1 bo1 hnb hkk
        have hst : st = .busy → False := hnb
        cases j with
        | ret => exact fin (jm := some .ret) hkk hst rfl hx ⟨_, _, rfl, rfl, hk⟩
        | exit id => exact fin (jm := some (.exit id)) hkk hst rfl hx ⟨_, _, rfl, rfl, hk⟩
      · cases hx
    · cases hx
  · cases hx

theorem sim (hE : EOk C I E) : ∀ n, Sim C I (R E n)
  | 0 => fun lo rd k a H out a' H' h => by cases h
  | n + 1 => by
    have hS := sim hE n
    have hR := R_len E n
    intro lo rd k a H out a' H' hx ρ L0 w0 w b am km cs nt base hk hrd hf h hlo hbase hbase0 hM
    have go : ∀ {k1 : List AI} {a1 : Fr} {H1 : Heap} {am1 : Act} {km1 : List Item} {w1 : World} {ρ1 : Mp}, R E n lo rd k1 a1 H1 = some (out, a', H') → Steps C.P (lone (b.atR am km) cs w) (lone (b.atR am1 km1) cs w1) → ItemsRel C nt k1 km1 → FrRel ρ1 nt a1 am1.tmps → HRel C I ρ1 L0 w0 H1 w1 → Ext ρ L0 H.length w ρ1 w1 → H.length ≤ H1.length → Marks ρ1 L0 base w1 am1.defers →
        ∃ ρ' am' w', FrRel ρ' nt a' am'.tmps ∧ HRel C I ρ' L0 w0 H' w' ∧ Ext ρ L0 H.length w ρ' w' ∧ Marks ρ' L0 base w' am'.defers ∧ Ends C.P b am km cs w am' w' out := fun {k1 a1 H1 am1 km1 w1 ρ1} hrec hs hit hf1 hH1 hE1 hle hM1 => by
      obtain ⟨ρ2, am2, w2, q1, q2, q3, q4, q5⟩ := hS lo rd k1 a1 H1 out a' H' hrec ρ1 L0 w0 w1 b am1 km1 cs nt base hit (hrd.mono hE1.le) hf1 hH1 hlo (Nat.le_trans hbase hE1.size) hbase0 hM1
      exact ⟨ρ2, am2, w2, q1, q2, hE1.trans q3 hle, q4, q5.of_steps hs⟩
    have go0 : ∀ {k1 : List AI} {km1 : List Item}, R E n lo rd k1 a H = some (out, a', H') → step C.P (lone (b.atR am km) cs w) = .next (lone (b.atR am km1) cs w) → ItemsRel C nt k1 km1 →
        ∃ ρ' am' w', FrRel ρ' nt a' am'.tmps ∧ HRel C I ρ' L0 w0 H' w' ∧ Ext ρ L0 H.length w ρ' w' ∧ Marks ρ' L0 base w' am'.defers ∧ Ends C.P b am km cs w am' w' out := fun hrec hs hit =>
      go hrec (.one hs) hit hf h (Ext.refl ..) (Nat.le_refl _) hM
    have stop : ∀ {o : Out}, out = o → a' = a → H' = H → Ends C.P b am km cs w am w o → ∃ ρ' am' w', FrRel ρ' nt a' am'.tmps ∧ HRel C I ρ' L0 w0 H' w' ∧ Ext ρ L0 H.length w ρ' w' ∧ Marks ρ' L0 base w' am'.defers ∧ Ends C.P b am km cs w am' w' out := fun e1 e2 e3 he => by
      subst e1 e2 e3
      exact ⟨ρ, am, w, hf, h, Ext.refl .., hM, he⟩
    change stepR E (R E n) lo rd k a H = some (out, a', H') at hx
    match k, hk with
    | [], hk =>
      simp only [ItemsRel] at hk
      subst hk
      simp only [stepR] at hx
      cases hx
      exact stop rfl rfl rfl (.refl ..)
    | .blk id :: k, hk =>
      obtain ⟨im, km', rfl, h1, h2⟩ := hk
      cases im <;> simp only [ItemRel] at h1
      simp only [stepR] at hx
      exact go0 hx stepR_inBlock h2
    | .lp c :: k, hk =>
      obtain ⟨im, km', rfl, h1, h2⟩ := hk
      cases im <;> simp only [ItemRel] at h1
      simp only [stepR] at hx
      exact go0 hx stepR_inLoop ⟨_, _, rfl, h1, _, _, rfl, h1, h2⟩
    | .begin :: k, hk =>
      obtain ⟨im, km', rfl, h1, h2⟩ := hk
      cases im <;> simp only [ItemRel] at h1
      simp only [stepR] at hx
      split at hx
      · rename_i l
        split at hx
        · rename_i p nt1 fr ps asg body hkl
          split at hx
          · rename_i hle
            obtain ⟨r, hr, hro⟩ := hrd
            have hL : L0 ≤ l := by omega
            obtain ⟨rec1, p1, p2, p3⟩ := h.blk l r _ hr hkl hL
            have hbr := run_beginRound (P := C.P) p1 (by simpa [StRel] using p2)
            obtain ⟨w4, hw4⟩ : ∃ w4, w4 = w.putObj r.a.block (.loop { rec1 with state := .busy }) := ⟨_, rfl⟩
            have hbr' : (Instr.beginRound r.a.block).run C.P w = .ok () w4 := by rw [hw4]; exact hbr
            have hother : ∀ pb, pb ≠ r.a.block → pb < w.heap.size → w4.heap[pb]? = w.heap[pb]? := fun pb hp _ => by rw [hw4]; exact World.putObj_heap_other hp
            have hsz : w4.heap.size = w.heap.size := by rw [hw4]; simp
            have hown := h.own l r hr hL
            have hbel : Below w0.heap.size w0 w4 := h.below.trans (by rw [hw4]; exact ⟨rfl, rfl, rfl, by simp, fun q hq => World.putObj_heap_other (by have := hown.1; omega)⟩)
            have hH4 := h.turn hr hL hkl trivial (.loop .busy p nt1 fr ps asg body) hbel hsz hother fun _ => ⟨{ rec1 with state := .busy }, by rw [hw4]; exact World.putObj_heap_same hown.2.1, rfl, p3⟩
            have hE4 : Ext ρ L0 H.length w ρ w4 := Ext.turn hr hL hsz hother
            exact go hx (.one (stepR_beginRound hro hbr')) h2 hf hH4 hE4 (by simp) (hM.ext hE4)
          · cases hx
        · cases hx
      · cases hx
    | .code c :: k, hk =>
      obtain ⟨im, km', rfl, h1, h2⟩ := hk
      cases im <;> simp only [ItemRel] at h1
      case inScope cm =>
        subst h1
        simp only [stepR] at hx
        exact go0 hx (step_lone_go (by simp [stepG, stepG.exec, Frame.atR])) h2
      rename_i cm
      rcases prepC_cases h1 with ⟨rfl, hc⟩ | ⟨rfl, rfl⟩ | ⟨id, rfl, rfl⟩ | ⟨id, ops, l, rfl, rfl, hl⟩ | ⟨id, ops, l, ck, rfl, rfl, hl, hok⟩ | ⟨x, y, x', y', rfl, rfl, hpx, hpy⟩ | ⟨e, x, y, e', x', y', rfl, rfl, hpe, hpx, hpy⟩ | ⟨id, x, x', rfl, rfl, hpx⟩ | ⟨x, x', rfl, rfl, hpx⟩ | ⟨x, ps, asg, body, x', ps', asg', body', rfl, rfl, hps, hpl, hpx, hpa, hpb⟩ | ⟨x, x', rfl, rfl, hpx⟩
      · simp only [stepR] at hx
        rcases hc with rfl | ⟨l, rfl⟩
        · exact go0 hx stepR_skip h2
        · exact go0 hx stepR_label h2
      · simp only [stepR] at hx
        cases hx
        exact stop rfl rfl rfl ⟨km', .refl ..⟩
      · simp only [stepR] at hx
        split at hx
        · rename_i k' he
          obtain ⟨km2, q1, q2⟩ := exit_some h2 he
          exact go0 hx (stepR_exit q1) q2
        · rename_i he
          cases hx
          exact stop rfl rfl rfl ⟨km', exit_none h2 he, .refl ..⟩
      · simp only [stepR] at hx
        obtain ⟨⟨a1, H1⟩, hops, hx⟩ := Option.bind_eq_some_iff.1 hx
        obtain ⟨ρ1, am1, w1, s, q1, q2, q3, q4⟩ := ops_sim hE hS hR hlo b km' cs (opsAt_all hl) hops h hf
        exact go hx (.head stepR_region (s.trans (.one stepR_region_end))) h2 q1 q2 q3 (runOps_len hR hops) (by rw [q4]; exact hM.ext q3)
      · simp only [stepR] at hx
        obtain ⟨⟨a1, H1⟩, hops, hx⟩ := Option.bind_eq_some_iff.1 hx
        obtain ⟨ρ1, am1, w1, s, q1, q2, q3, q4⟩ := draw_sim hE hS hR hlo (id := id) hl hok hops h hf b km' cs
        exact go hx s h2 q1 q2 q3 (runD_len hR hops) (by rw [q4]; exact hM.ext q3)
      · simp only [stepR] at hx
        exact go0 hx stepR_seq ⟨_, _, rfl, hpx, _, _, rfl, hpy, h2⟩
      · simp only [stepR] at hx
        have hev := evalX hpe hf
        split at hx
        · rename_i he
          rw [he] at hev
          exact go0 hx (stepR_cond (t := true) hev.bool) ⟨_, _, rfl, hpx, h2⟩
        · rename_i he
          rw [he] at hev
          exact go0 hx (stepR_cond (t := false) hev.bool) ⟨_, _, rfl, hpy, h2⟩
        · cases hx
      · simp only [stepR] at hx
        exact go0 hx stepR_block ⟨_, _, rfl, hpx, _, _, rfl, rfl, h2⟩
      · simp only [stepR] at hx
        exact go0 hx stepR_loop ⟨_, _, rfl, hpx, _, _, rfl, hpx, h2⟩
      · exact sim_range hE hS hx hps hpl hpx hpa hpb h2 hrd hf h hlo hbase hbase0 hM
      · simp only [stepR] at hx
        exact go0 (km1 := .code x' :: .inScope x' :: km') hx (step_lone_go (by simp [stepG, stepG.exec, Frame.atR])) ⟨_, _, rfl, hpx, _, _, rfl, rfl, h2⟩

/-- **a function's call** -/
theorem calls_of {rec : Rec} (hE : EOk C I E) {n : Nat} (hrec : rec = R E n) {lo f : Nat} {vs : List AV} {v : AV} {H' : Heap} (hx : callF E rec lo f vs H = some (v, H')) (h : HRel C I ρ L0 w0 H w) {args : Array Value} (ha : VRelL ρ vs args.toList) (hlo : L0 ≤ lo) :
    Calls C.P f args w fun e w' => ∃ ρ' x, e = .returned x ∧ VRel ρ' v x ∧ HRel C I ρ' L0 w0 H' w' ∧ Ext ρ L0 H.length w ρ' w' := by
  subst hrec
  intro cs
  obtain ⟨ρ', x, w', ⟨fr, s, hfn, hl⟩, h1, h2, h3⟩ := (callF_sim hE (sim hE n) hx h ha hlo).2 cs
  exact ⟨.returned x, w', fr, ⟨ρ', x, rfl, h1, h2, h3⟩, s, hfn, hl⟩
end
end Go.AM

namespace Go.AM
open Go

def wrapQ (k : IntKind) (n : Int) : Int :=
  match k with
  | .i64 => match n with
    | .ofNat m => if m < 2 ^ 63 then .ofNat m else IntKind.i64.wrap (.ofNat m)
    | .negSucc m => if m < 2 ^ 63 then .negSucc m else IntKind.i64.wrap (.negSucc m)
  | k => k.wrap n
theorem wrapQ_eq (k : IntKind) (n : Int) : wrapQ k n = k.wrap n := by
  unfold wrapQ
  split
  · split
    · rename_i m
      by_cases h : m < 2 ^ 63
      · rw [if_pos h, IntKind.wrap_i64]
        simp only [Int.ofNat_eq_natCast]
        omega
      · rw [if_neg h]
    · rename_i m
      by_cases h : m < 2 ^ 63
      · rw [if_pos h, IntKind.wrap_i64, Int.negSucc_eq m]
        omega
      · rw [if_neg h]
  · rfl
def ltQ : Int → Int → Bool
  | .ofNat a, .ofNat b => Nat.ble (a + 1) b
  | .negSucc _, .ofNat _ => true
  | .ofNat _, .negSucc _ => false
  | .negSucc a, .negSucc b => Nat.ble (b + 1) a
theorem ltQ_eq (m n : Int) : ltQ m n = decide (m < n) := by
  cases m <;> cases n <;> simp only [ltQ]
  · rename_i a b
    rw [Bool.eq_iff_iff, Nat.ble_eq, decide_eq_true_eq]
    simp only [Int.ofNat_eq_natCast]; omega
  · rename_i a b
    rw [eq_comm, decide_eq_false_iff_not]
    simp only [Int.ofNat_eq_natCast]; omega
  · rename_i a b
    rw [eq_comm, decide_eq_true_eq]
    simp only [Int.ofNat_eq_natCast]; omega
  · rename_i a b
    rw [Bool.eq_iff_iff, Nat.ble_eq, decide_eq_true_eq]
    omega
def eqQ : Int → Int → Bool
  | .ofNat a, .ofNat b => Nat.beq a b
  | .negSucc a, .negSucc b => Nat.beq a b
  | _, _ => false
theorem eqQ_eq (m n : Int) : eqQ m n = (m == n) := by
  cases m <;> cases n <;> simp only [eqQ]
  · rename_i a b
    rw [Bool.eq_iff_iff, Nat.beq_eq, beq_iff_eq]
    simp only [Int.ofNat_eq_natCast]; omega
  · rw [eq_comm, beq_eq_false_iff_ne]; simp
  · rw [eq_comm, beq_eq_false_iff_ne]; simp
  · rename_i a b
    rw [Bool.eq_iff_iff, Nat.beq_eq, beq_iff_eq]
    omega
def i64s (x y : AV) (f : Int → Int → AV) (other : Unit → Option AV) : Option AV :=
  match x with
  | .int k m => match k with
    | .i64 => match y with
      | .int k' n => match k' with
        | .i64 => some (f m n)
        | _ => other ()
      | _ => other ()
    | _ => other ()
  | _ => other ()
theorem i64s_eq {x y : AV} {f : Int → Int → AV} {r : Option AV} (h : ∀ m n, x = .i m → y = .i n → r = some (f m n)) : i64s x y f (fun _ => r) = r := by
  unfold i64s
  split
  · split
    · split
      · split
        · exact (h _ _ rfl rfl).symm
        · rfl
      · rfl
    · rfl
  · rfl
def binQ (op : BinOp) (x y : AV) : Option AV :=
  match op with
  | .add => i64s x y (fun m n => .i (wrapQ .i64 (m + n))) fun _ => binA .add x y
  | .sub => i64s x y (fun m n => .i (wrapQ .i64 (m - n))) fun _ => binA .sub x y
  | .mul => i64s x y (fun m n => .i (wrapQ .i64 (m * n))) fun _ => binA .mul x y
  | .lss => i64s x y (fun m n => .b (ltQ m n)) fun _ => binA .lss x y
  | .gtr => i64s x y (fun m n => .b (ltQ n m)) fun _ => binA .gtr x y
  | .leq => i64s x y (fun m n => .b (!ltQ n m)) fun _ => binA .leq x y
  | .geq => i64s x y (fun m n => .b (!ltQ m n)) fun _ => binA .geq x y
  | .eql => i64s x y (fun m n => .b (eqQ m n)) fun _ => binA .eql x y
  | .neq => i64s x y (fun m n => .b (!eqQ m n)) fun _ => binA .neq x y
  | op => binA op x y
theorem binQ_eq (op : BinOp) (x y : AV) : binQ op x y = binA op x y := by
  cases op <;> simp only [binQ] <;> refine i64s_eq fun m n hx hy => ?_
  all_goals
    subst hx hy
    simp only [binA, if_true, wrapQ_eq, ltQ_eq, eqQ_eq]
  all_goals first
    | rfl
    | (rw [← decide_not, decide_eq_decide.2 (by omega : m ≤ n ↔ ¬ n < m)]; done)
    | (rw [← decide_not, decide_eq_decide.2 (by omega : m ≥ n ↔ ¬ m < n)]; done)

def x_mv (x : AX) (_lo : Nat) (a : Fr) (H : Heap) : Option (AV × Heap) := some (ev a x, H)
def x_pick (c : AX) (x : AX) (y : AX) (_lo : Nat) (a : Fr) (H : Heap) : Option (AV × Heap) :=
  match ev a c with
    | .b true => some (ev a x, H)
    | .b false => some (ev a y, H)
    | _ => none
def x_alloc (z : List AV) (_lo : Nat) (_a : Fr) (H : Heap) : Option (AV × Heap) := some (.p H.length 0, H ++ [.cells z])
def x_box (x : AX) (_lo : Nat) (a : Fr) (H : Heap) : Option (AV × Heap) := if (ev a x).cells.all AV.one then some (.p H.length 0, H ++ [.cells (ev a x).cells]) else none
def x_build (z : List AV) (parts : List (Nat × Nat × AX)) (_lo : Nat) (a : Fr) (H : Heap) : Option (AV × Heap) := (fillA z (parts.map fun q => (q.1, q.2.1, ev a q.2.2))).map fun cs => (.ag cs, H)
def x_bslice (z : List AV) (len : Nat) (es : Nat) (parts : List (Nat × AX)) (_lo : Nat) (a : Fr) (H : Heap) : Option (AV × Heap) :=    (fillA (reps len z) (parts.map fun q => (q.1 * es, es, ev a q.2))).map fun cs => (.s es H.length 0 len (some len), H ++ [.cells cs])
def x_load (n : Option Nat) (x : AX) (_lo : Nat) (a : Fr) (H : Heap) : Option (AV × Heap) :=
  match ev a x with
    | .p b o => (match n with
      | none => (ld H b o).map fun v => (v, H)
      | some n => (ldn H b o n).map fun vs => (.ag vs, H))
    | _ => none
def x_store (n : Nat) (p : AX) (x : AX) (lo : Nat) (a : Fr) (H : Heap) : Option (AV × Heap) :=
  match ev a p with
    | .p b o => if (ev a x).cells.length = n ∧ (ev a x).cells.all AV.one then (st lo H b o (ev a x).cells).map fun H' => (.no, H') else none
    | _ => none
def x_bin (op : BinOp) (x : AX) (y : AX) (_lo : Nat) (a : Fr) (H : Heap) : Option (AV × Heap) := (binQ op (ev a x) (ev a y)).map fun v => (v, H)
def x_beq (neg : Bool) (x : AX) (y : AX) (_lo : Nat) (a : Fr) (H : Heap) : Option (AV × Heap) :=
  match ev a x, ev a y with
    | .b p, .b q => some (.b ((p == q) != neg), H)
    | _, _ => none
def x_seq (neg : Bool) (x : AX) (y : AX) (_lo : Nat) (a : Fr) (H : Heap) : Option (AV × Heap) :=
  match ev a x, ev a y with
    | .nils, .nils => some (.b (!neg), H)
    | .nils, .s _ _ _ _ _ => some (.b neg, H)
    | .s _ _ _ _ _, .nils => some (.b neg, H)
    | _, _ => none
def x_aeq (neg : Bool) (n : Nat) (x : AX) (y : AX) (_lo : Nat) (a : Fr) (H : Heap) : Option (AV × Heap) :=
  match ev a x, ev a y with
    | .ag xs, .ag ys => if xs.length = n ∧ ys.length = n then (eqInts xs ys).map fun r => (.b (r != neg), H) else none
    | _, _ => none
def x_un (op : UnOp) (x : AX) (_lo : Nat) (a : Fr) (H : Heap) : Option (AV × Heap) := (unA op (ev a x)).map fun v => (v, H)
def x_conv (k : IntKind) (x : AX) (_lo : Nat) (a : Fr) (H : Heap) : Option (AV × Heap) :=
  match ev a x with
    | .int _ n => some (.int k (wrapQ k n), H)
    | _ => none
def x_mkfn (f : Nat) (us : List AX) (caps : List AX) (_lo : Nat) (a : Fr) (H : Heap) : Option (AV × Heap) := some (.fn f (us.map (ev a)) (caps.map (ev a)), H)
def x_mkslice (es : Nat) (bytes : Nat) (z : List AV) (l : AX) (_lo : Nat) (a : Fr) (H : Heap) : Option (AV × Heap) :=
  match ev a l with
    | .int .i64 n => if 0 ≤ n ∧ n.toNat * bytes ≤ mostBytes ∧ n ≤ 2 ^ 40 ∧ z.length = es then some (.s es H.length 0 n.toNat (some n.toNat), H ++ [.cells (reps n.toNat z)]) else none
    | _ => none
def x_slice (es : Nat) (x : AX) (l : Option AX) (h : Option AX) (m : Option AX) (_lo : Nat) (a : Fr) (H : Heap) : Option (AV × Heap) :=
  match lenA (ev a x) with
    | some n =>
      match boundA a m n n with
      | some mx => match boundA a h n mx with
        | some hi => match boundA a l 0 hi with
          | some lo' => (sliceA es (ev a x) lo' hi (if m.isSome then some mx else none)).map fun v => (v, H)
          | none => none
        | none => none
      | none => none
    | none => none
def x_slarr (n : Nat) (es : Nat) (x : AX) (l : Option AX) (h : Option AX) (lo : Nat) (a : Fr) (H : Heap) : Option (AV × Heap) :=
  match ev a x with
    | .p b o => match boundA a h n n with
      | some hi => match boundA a l 0 hi with
        | some lo' => match H[b]? with
          | some (.cells cs) => if es = 1 ∧ lo ≤ b ∧ o + n ≤ cs.length ∧ n ≤ 1048576 then some (.s 1 b (o + lo') (hi - lo') (some (n - lo')), H) else none
          | _ => none
        | none => none
      | none => none
    | _ => none
def x_faddr (off : Nat) (x : AX) (_lo : Nat) (a : Fr) (H : Heap) : Option (AV × Heap) :=
  match ev a x with
    | .p b o => some (.p b (o + off), H)
    | _ => none
def x_field (off : Nat) (n : Option Nat) (x : AX) (_lo : Nat) (a : Fr) (H : Heap) : Option (AV × Heap) :=
  match ev a x, n with
    | .ag vs, none => (vs[off]?).map fun v => (v, H)
    | .ag vs, some n => if off + n ≤ vs.length then some (.ag ((vs.drop off).take n), H) else none
    | _, _ => none
def x_iaddr (es : Nat) (x : AX) (i : AX) (_lo : Nat) (a : Fr) (H : Heap) : Option (AV × Heap) :=
  match ev a x with
    | .s es' b o n _ => (match ev a i with
      | .int _ i => if 0 ≤ i ∧ i < n ∧ es' = es then some (.p b (o + i.toNat * es), H) else none
      | _ => none)
    | _ => none
def x_iaddrA (n : Nat) (es : Nat) (x : AX) (i : AX) (_lo : Nat) (a : Fr) (H : Heap) : Option (AV × Heap) :=
  match ev a x, ev a i with
    | .p b o, .int _ i => if 0 ≤ i ∧ i < n then some (.p b (o + i.toNat * es), H) else none
    | _, _ => none
def x_index (n : Nat) (es : Nat) (ag : Bool) (x : AX) (i : AX) (_lo : Nat) (a : Fr) (H : Heap) : Option (AV × Heap) :=
  match ev a x, ev a i with
    | .ag vs, .int _ i => if 0 ≤ i ∧ i < n then
        (if ag then (if i.toNat * es + es ≤ vs.length then some (.ag ((vs.drop (i.toNat * es)).take es), H) else none)
         else (vs[i.toNat * es]?).map fun v => (v, H)) else none
    | _, _ => none
def x_len (x : AX) (_lo : Nat) (a : Fr) (H : Heap) : Option (AV × Heap) := (lenA (ev a x)).map fun (n : Nat) => (AV.i (n : Int), H)
def x_lenA (n : Nat) (_lo : Nat) (_a : Fr) (H : Heap) : Option (AV × Heap) := some (.i n, H)
def x_cap (x : AX) (_lo : Nat) (a : Fr) (H : Heap) : Option (AV × Heap) :=
  match ev a x with
    | .nils => some (.i 0, H)
    | .s _ _ _ _ (some c) => some (.i c, H)
    | _ => none
def x_mn (xs : List AX) (_lo : Nat) (a : Fr) (H : Heap) : Option (AV × Heap) :=
  match xs.map (ev a) with
    | .int k x :: r => (foldMin k x r).map fun n => (.int k n, H)
    | _ => none
def x_mx (xs : List AX) (_lo : Nat) (a : Fr) (H : Heap) : Option (AV × Heap) :=
  match xs.map (ev a) with
    | .int k x :: r => (foldMax k x r).map fun n => (.int k n, H)
    | _ => none
def x_append (es : Nat) (bytes : Nat) (s : AX) (x : AX) (lo : Nat) (a : Fr) (H : Heap) : Option (AV × Heap) :=
  match lenA (ev a x) with
    | some m => match cellsOf es m (ev a x) H with
      | some xs => appendA lo es bytes (ev a s) xs m H
      | none => none
    | none => none
def x_appendz (es : Nat) (bytes : Nat) (z : List AV) (s : AX) (n : AX) (lo : Nat) (a : Fr) (H : Heap) : Option (AV × Heap) :=
  match ev a n with
    | .int .i64 n => if 0 ≤ n ∧ n ≤ 2 ^ 40 ∧ n.toNat * bytes ≤ mostBytes ∧ z.length = es then appendA lo es bytes (ev a s) (reps n.toNat z) n.toNat H else none
    | _ => none
def x_copy (es : Nat) (d : AX) (s : AX) (lo : Nat) (a : Fr) (H : Heap) : Option (AV × Heap) :=
  match ev a d, lenA (ev a s) with
    | .s es' b o n _, some m => if es' ≠ es then none else match cellsOf es (min m n) (ev a s) H with
      | some xs => if xs = [] then some (.i (min m n : Nat), H) else if xs.all AV.one then (st lo H b o xs).map fun H' => (.i (min m n : Nat), H') else none
      | none => none
    | .nils, some _ => some (.i 0, H)
    | _, _ => none
def x_clr (es : Nat) (z : List AV) (x : AX) (lo : Nat) (a : Fr) (H : Heap) : Option (AV × Heap) :=
  match ev a x with
    | .s es' b o n _ => if es' ≠ es then none else if n = 0 then some (.tp [], H) else (st lo H b o (reps n z)).map fun H' => (.tp [], H')
    | .nils => some (.tp [], H)
    | _ => none
def x_extr (x : AX) (i : Nat) (_lo : Nat) (a : Fr) (H : Heap) : Option (AV × Heap) :=
  match ev a x with
    | .tp vs => (vs[i]?).map fun v => (v, H)
    | _ => none
def x_nilchk (x : AX) (_lo : Nat) (a : Fr) (H : Heap) : Option (AV × Heap) :=
  match ev a x with
    | .p b o => some (.p b o, H)
    | .fn f u c => some (.fn f u c, H)
    | .yl l => some (.yl l, H)
    | _ => none
def x_mkmap (n : Nat) (_lo : Nat) (_a : Fr) (H : Heap) : Option (AV × Heap) := some (.m H.length, H ++ [.map n []])
def x_mlook (n : Nat) (z : AV) (ok : Bool) (x : AX) (i : AX) (lo : Nat) (a : Fr) (H : Heap) : Option (AV × Heap) :=
  match ev a x, ev a i with
    | .m b, .ag vs => (mapLook lo n z ok b vs H).map fun v => (v, H)
    | _, _ => none
def x_mset (n : Nat) (x : AX) (i : AX) (y : AX) (lo : Nat) (a : Fr) (H : Heap) : Option (AV × Heap) :=
  match ev a x, ev a i with
    | .m b, .ag vs => (mapSet lo n b vs (ev a y) H).map fun H' => (.no, H')
    | _, _ => none

noncomputable def opQ (o : AOp) : Nat → Fr → Heap → Option (AV × Heap) :=
  @AOp.rec (fun _ => Nat → Fr → Heap → Option (AV × Heap)) x_mv x_pick x_alloc x_box x_build x_bslice x_load x_store x_bin x_beq x_seq x_aeq x_un x_conv x_mkfn x_mkslice x_slice x_slarr x_faddr x_field x_iaddr x_iaddrA x_index x_len x_lenA x_cap x_mn x_mx x_append x_appendz x_copy x_clr (fun _ _ _ _ _ => none) (fun _ _ _ _ _ => none) x_extr x_nilchk x_mkmap x_mlook x_mset (fun _ _ _ => none) o
theorem opQ_eq (lo : Nat) (o : AOp) (a : Fr) (H : Heap) : opQ o lo a H = opA lo o a H := by
  cases o
  case bin op x y => simp only [opQ, x_bin, opA, binQ_eq]
  case conv k x =>
    simp only [opQ, x_conv, opA, wrapQ_eq]
    cases ev a x <;> rfl
  case iaddr es x i =>
    simp only [opQ, x_iaddr, opA]
    cases ev a x <;> cases ev a i <;> rfl
  case load n x =>
    simp only [opQ, x_load, opA]
    cases ev a x <;> cases n <;> rfl
  all_goals rfl

section
variable (E : Tab) (rec : Rec) (lo : Nat)
noncomputable def opFQ (o : AOp) (a : Fr) (H : Heap) : Option (AV × Heap) :=
  @AOp.casesOn (fun _ => Tab → Rec → Nat → Fr → Heap → Option (AV × Heap)) o (fun u0 _ _ lo a H => x_mv u0 lo a H) (fun u0 u1 u2 _ _ lo a H => x_pick u0 u1 u2 lo a H) (fun u0 _ _ lo a H => x_alloc u0 lo a H) (fun u0 _ _ lo a H => x_box u0 lo a H) (fun u0 u1 _ _ lo a H => x_build u0 u1 lo a H) (fun u0 u1 u2 u3 _ _ lo a H => x_bslice u0 u1 u2 u3 lo a H) (fun u0 u1 _ _ lo a H => x_load u0 u1 lo a H) (fun u0 u1 u2 _ _ lo a H => x_store u0 u1 u2 lo a H) (fun u0 u1 u2 _ _ lo a H => x_bin u0 u1 u2 lo a H) (fun u0 u1 u2 _ _ lo a H => x_beq u0 u1 u2 lo a H) (fun u0 u1 u2 _ _ lo a H => x_seq u0 u1 u2 lo a H) (fun u0 u1 u2 u3 _ _ lo a H => x_aeq u0 u1 u2 u3 lo a H) (fun u0 u1 _ _ lo a H => x_un u0 u1 lo a H) (fun u0 u1 _ _ lo a H => x_conv u0 u1 lo a H) (fun u0 u1 u2 _ _ lo a H => x_mkfn u0 u1 u2 lo a H) (fun u0 u1 u2 u3 _ _ lo a H => x_mkslice u0 u1 u2 u3 lo a H) (fun u0 u1 u2 u3 u4 _ _ lo a H => x_slice u0 u1 u2 u3 u4 lo a H) (fun u0 u1 u2 u3 u4 _ _ lo a H => x_slarr u0 u1 u2 u3 u4 lo a H) (fun u0 u1 _ _ lo a H => x_faddr u0 u1 lo a H) (fun u0 u1 u2 _ _ lo a H => x_field u0 u1 u2 lo a H) (fun u0 u1 u2 _ _ lo a H => x_iaddr u0 u1 u2 lo a H) (fun u0 u1 u2 u3 _ _ lo a H => x_iaddrA u0 u1 u2 u3 lo a H) (fun u0 u1 u2 u3 u4 _ _ lo a H => x_index u0 u1 u2 u3 u4 lo a H) (fun u0 _ _ lo a H => x_len u0 lo a H) (fun u0 _ _ lo a H => x_lenA u0 lo a H) (fun u0 _ _ lo a H => x_cap u0 lo a H) (fun u0 _ _ lo a H => x_mn u0 lo a H) (fun u0 _ _ lo a H => x_mx u0 lo a H) (fun u0 u1 u2 u3 _ _ lo a H => x_append u0 u1 u2 u3 lo a H) (fun u0 u1 u2 u3 u4 _ _ lo a H => x_appendz u0 u1 u2 u3 u4 lo a H) (fun u0 u1 u2 _ _ lo a H => x_copy u0 u1 u2 lo a H) (fun u0 u1 u2 _ _ lo a H => x_clr u0 u1 u2 lo a H) (fun f args E rec lo a H => callF E rec lo f (args.map (ev a)) H) (fun x args E rec lo a H => callV E rec lo (ev a x) (args.map (ev a)) H) (fun u0 u1 _ _ lo a H => x_extr u0 u1 lo a H) (fun u0 _ _ lo a H => x_nilchk u0 lo a H) (fun u0 _ _ lo a H => x_mkmap u0 lo a H) (fun u0 u1 u2 u3 u4 _ _ lo a H => x_mlook u0 u1 u2 u3 u4 lo a H) (fun u0 u1 u2 u3 _ _ lo a H => x_mset u0 u1 u2 u3 lo a H) (fun _ _ _ _ _ => none) E rec lo a H

theorem opFQ_eq (o : AOp) (a : Fr) (H : Heap) : opFQ E rec lo o a H = opF E rec lo o a H := by
  have h := opQ_eq lo o a H
  cases o <;> first | rfl | exact h
noncomputable def runOpsQ (l : List AOper) : Fr → Heap → Option (Fr × Heap) :=
  @List.rec AOper (fun _ => Fr → Heap → Option (Fr × Heap)) (fun a H => some (a, H))
    (fun o _ ih a H => @Option.rec (Nat × Bool) (fun _ => Option (Fr × Heap))
      (@Option.rec (AV × Heap) (fun _ => Option (Fr × Heap)) none (fun r => ih (a.put o.dst r.1) r.2) (opFQ E rec lo o.op a H))
      (fun g => match wantedA a (some g) with
        | some true => @Option.rec (AV × Heap) (fun _ => Option (Fr × Heap)) none (fun r => ih (a.put o.dst r.1) r.2) (opFQ E rec lo o.op a H)
        | some false => ih (a.put o.dst .no) H
        | none => none) o.guard) l
theorem runOpsQ_cons (o : AOper) (os : List AOper) (a : Fr) (H : Heap) : runOpsQ E rec lo (o :: os) a H =
    @Option.rec (Nat × Bool) (fun _ => Option (Fr × Heap))
      (@Option.rec (AV × Heap) (fun _ => Option (Fr × Heap)) none (fun r => runOpsQ E rec lo os (a.put o.dst r.1) r.2) (opFQ E rec lo o.op a H))
      (fun g => match wantedA a (some g) with
        | some true => @Option.rec (AV × Heap) (fun _ => Option (Fr × Heap)) none (fun r => runOpsQ E rec lo os (a.put o.dst r.1) r.2) (opFQ E rec lo o.op a H)
        | some false => runOpsQ E rec lo os (a.put o.dst .no) H
        | none => none) o.guard := rfl
theorem runOpsQ_eq : ∀ (l : List AOper) (a : Fr) (H : Heap), runOpsQ E rec lo l a H = runOps E rec lo l a H
  | [], _, _ => rfl
  | o :: os, a, H => by
    rw [runOpsQ_cons]
    simp only [runOps, opFQ_eq]
    obtain ⟨dst, op, guard⟩ := o
    cases guard with
    | none =>
      simp only [wantedA]
      cases opF E rec lo op a H with
      | none => rfl
      | some r => exact runOpsQ_eq os _ _
    | some g =>
      simp only
      cases wantedA a (some g) with
      | none => rfl
      | some t => cases t with
        | false => exact runOpsQ_eq os _ _
        | true =>
          simp only
          cases opF E rec lo op a H with
          | none => rfl
          | some r => exact runOpsQ_eq os _ _
theorem runTr_ops : ∀ (l : List AOper) (a : Fr) (H : Heap), (runTr E rec lo l a H).bind (fun tr => tr[l.length]?) = runOps E rec lo l a H
  | [], _, _ => rfl
  | o :: os, a, H => by
    simp only [runTr, runOps]
    cases wantedA a o.guard with
    | none => rfl
    | some t => cases t with
      | false =>
        rw [← runTr_ops os]
        simp only [Option.bind_map]
        cases runTr E rec lo os (a.put o.dst .no) H <;> rfl
      | true =>
        simp only
        cases opF E rec lo o.op a H with
        | none => rfl
        | some r =>
          simp only [Option.bind_some]
          rw [← runTr_ops os]
          simp only [Option.bind_map]
          cases runTr E rec lo os (a.put o.dst r.1) r.2 <;> rfl
noncomputable def runDQ (ck : List (Nat × Nat)) (l : List AOper) (a : Fr) (H : Heap) : Option (Fr × Heap) :=
  match ck with
  | [] => runOpsQ E rec lo l a H
  | ck => runD E rec lo ck l a H
theorem runDQ_eq (ck : List (Nat × Nat)) (l : List AOper) (a : Fr) (H : Heap) : runDQ E rec lo ck l a H = runD E rec lo ck l a H := by
  unfold runDQ
  split
  · rw [runOpsQ_eq, ← runTr_ops]; rfl
  · rfl
noncomputable def stepQ (rd : Option Nat) (k : List AI) (a : Fr) (H : Heap) : Option Res :=
  match k with
  | [] => some (.done, a, H)
  | i :: k => match i with
    | .blk _ => rec lo rd k a H
    | .lp c => rec lo rd (.code c :: .lp c :: k) a H
    | .begin => stepR E rec lo rd (.begin :: k) a H
    | .code c => match c with
      | .seq x y => rec lo rd (.code x :: .code y :: k) a H
      | .reg d l => match d with
        | none => match runOpsQ E rec lo l a H with
          | some r => rec lo rd k r.1 r.2
          | none => none
        | some ck => match runDQ E rec lo ck l a H with
          | some r => rec lo rd k r.1 r.2
          | none => none
      | .cond c x y => match ev a c with
        | .b t => rec lo rd (.code (bif t then x else y) :: k) a H
        | _ => none
      | .block id c => rec lo rd (.code c :: .blk id :: k) a H
      | .loop c => rec lo rd (.code c :: .lp c :: k) a H
      | .skip => rec lo rd k a H
      | .ret => some (.ret, a, H)
      | c => stepR E rec lo rd (.code c :: k) a H
theorem stepQ_eq (rd : Option Nat) (k : List AI) (a : Fr) (H : Heap) : stepQ E rec lo rd k a H = stepR E rec lo rd k a H := by
  cases k with
  | nil => rfl
  | cons i k => cases i with
    | blk _ => rfl
    | lp c => rfl
    | begin => rfl
    | code c => cases c with
      | reg d l => cases d with
        | none =>
          simp only [stepQ, stepR, runOpsQ_eq]
          cases runOps E rec lo l a H <;> rfl
        | some ck =>
          simp only [stepQ, stepR, runDQ_eq]
          cases runD E rec lo ck l a H <;> rfl
      | cond c x y =>
        simp only [stepQ, stepR]
        cases ev a c <;> try rfl
        rename_i t
        cases t <;> rfl
      | _ => rfl
end
noncomputable def RQ (E : Tab) (n : Nat) : Rec := @Nat.rec (fun _ => Rec) (fun _ _ _ _ _ => none) (fun _ rec => stepQ E rec) n
theorem RQ_eq (E : Tab) : ∀ n, RQ E n = R E n
  | 0 => rfl
  | n + 1 => by
    show stepQ E (RQ E n) = stepR E (R E n)
    rw [RQ_eq E n]
    funext lo rd k a H
    exact stepQ_eq ..
end Go.AM

namespace Go.AM
open Go

/-- the items come to an end, with what Q says -/
def Wp (E : Tab) (lo : Nat) (rd : Option Nat) (k : List AI) (a : Fr) (H : Heap) (Q : Out → Fr → Heap → Prop) : Prop :=
  ∃ n o a' H', R E n lo rd k a H = some (o, a', H') ∧ Q o a' H'
def WpF (E : Tab) (lo f : Nat) (vs : List AV) (H : Heap) (Q : AV → Heap → Prop) : Prop :=
  ∃ n v H', callF E (R E n) lo f vs H = some (v, H') ∧ Q v H'
def WpV (E : Tab) (lo : Nat) (fv : AV) (vs : List AV) (H : Heap) (Q : AV → Heap → Prop) : Prop :=
  ∃ n v H', callV E (R E n) lo fv vs H = some (v, H') ∧ Q v H'
def WpOp (E : Tab) (lo : Nat) (o : AOp) (a : Fr) (H : Heap) (Q : AV → Heap → Prop) : Prop :=
  match o with
  | .call f args => WpF E lo f (args.map (ev a)) H Q
  | .callv x args => WpV E lo (ev a x) (args.map (ev a)) H Q
  | o => ∃ v H', opA lo o a H = some (v, H') ∧ Q v H'
def WpOps (E : Tab) (lo : Nat) : List AOper → Fr → Heap → (Fr → Heap → Prop) → Prop
  | [], a, H, Q => Q a H
  | o :: os, a, H, Q =>
    match wantedA a o.guard with
    | some true => WpOp E lo o.op a H fun v H' => WpOps E lo os (a.put o.dst v) H' Q
    | some false => WpOps E lo os (a.put o.dst .no) H Q
    | none => False
/-- the same, with the states on the way -/
def WpTr (E : Tab) (lo : Nat) : List AOper → Fr → Heap → List (Fr × Heap) → (List (Fr × Heap) → Fr → Heap → Prop) → Prop
  | [], a, H, tr, Q => Q (tr ++ [(a, H)]) a H
  | o :: os, a, H, tr, Q =>
    match wantedA a o.guard with
    | some true => WpOp E lo o.op a H fun v H' => WpTr E lo os (a.put o.dst v) H' (tr ++ [(a, H)]) Q
    | some false => WpTr E lo os (a.put o.dst .no) H (tr ++ [(a, H)]) Q
    | none => False

section
variable {E : Tab} {lo : Nat} {rd : Option Nat} {k : List AI} {a : Fr} {H : Heap} {Q Q' : Out → Fr → Heap → Prop}

theorem Wp.mono (h : Wp E lo rd k a H Q) (hq : ∀ o a H, Q o a H → Q' o a H) : Wp E lo rd k a H Q' := by
  obtain ⟨n, o, a', H', h1, h2⟩ := h
  exact ⟨n, o, a', H', h1, hq _ _ _ h2⟩
theorem WpF.mono {f : Nat} {vs : List AV} {P P' : AV → Heap → Prop} (h : WpF E lo f vs H P) (hq : ∀ v H, P v H → P' v H) : WpF E lo f vs H P' := by
  obtain ⟨n, v, H', h1, h2⟩ := h
  exact ⟨n, v, H', h1, hq _ _ h2⟩
theorem WpOp.mono {o : AOp} {P P' : AV → Heap → Prop} (h : WpOp E lo o a H P) (hq : ∀ v H, P v H → P' v H) : WpOp E lo o a H P' := by
  unfold WpOp at h ⊢
  split at h
  · exact h.mono hq
  · obtain ⟨n, v, H', h1, h2⟩ := h; exact ⟨n, v, H', h1, hq _ _ h2⟩
  · obtain ⟨v, H', h1, h2⟩ := h; exact ⟨v, H', h1, hq _ _ h2⟩
theorem WpOp.run {o : AOp} {P : AV → Heap → Prop} (h : WpOp E lo o a H P) : ∃ n v H', opF E (R E n) lo o a H = some (v, H') ∧ P v H' := by
  unfold WpOp at h
  split at h
  · exact h
  · exact h
  · rename_i h1 h2
    obtain ⟨v, H', h3, h4⟩ := h
    refine ⟨0, v, H', ?_, h4⟩
    rw [← h3]
    unfold opF
    split
    · exact absurd rfl (h1 _ _)
    · exact absurd rfl (h2 _ _)
    · rfl
theorem WpOps.run : ∀ {l : List AOper} {a : Fr} {H : Heap} {P : Fr → Heap → Prop}, WpOps E lo l a H P → ∃ n a' H', runOps E (R E n) lo l a H = some (a', H') ∧ P a' H'
  | [], a, H, P, h => ⟨0, a, H, rfl, h⟩
  | o :: os, a, H, P, h => by
    unfold WpOps at h
    split at h
    · rename_i hw
      obtain ⟨n, v, H1, h1, h2⟩ := h.run
      obtain ⟨m, a', H', h3, h4⟩ := WpOps.run h2
      refine ⟨max n m, a', H', ?_, h4⟩
      simp only [runOps, hw, opF_mono (R_le E (Nat.le_max_left n m)) h1, Option.bind_some]
      exact runOps_mono (R_le E (Nat.le_max_right n m)) h3
    · rename_i hw
      obtain ⟨m, a', H', h3, h4⟩ := WpOps.run h
      exact ⟨m, a', H', by simp only [runOps, hw]; exact h3, h4⟩
    · exact h.elim
theorem WpTr.run : ∀ {l : List AOper} {a : Fr} {H : Heap} {tr : List (Fr × Heap)} {P : List (Fr × Heap) → Fr → Heap → Prop}, WpTr E lo l a H tr P → ∃ n t a' H', runTr E (R E n) lo l a H = some t ∧ t[l.length]? = some (a', H') ∧ P (tr ++ t) a' H'
  | [], a, H, tr, P, h => ⟨0, [(a, H)], a, H, rfl, rfl, h⟩
  | o :: os, a, H, tr, P, h => by
    unfold WpTr at h
    split at h
    · rename_i hw
      obtain ⟨n, v, H1, h1, h2⟩ := h.run
      obtain ⟨m, t, a', H', h3, h4, h5⟩ := WpTr.run h2
      refine ⟨max n m, (a, H) :: t, a', H', ?_, by simpa using h4, by simpa using h5⟩
      simp only [runTr, hw, opF_mono (R_le E (Nat.le_max_left n m)) h1, Option.bind_some]
      rw [runTr_mono (R_le E (Nat.le_max_right n m)) h3]
      rfl
    · rename_i hw
      obtain ⟨m, t, a', H', h3, h4, h5⟩ := WpTr.run h
      refine ⟨m, (a, H) :: t, a', H', by simp only [runTr, hw, h3, Option.map_some], by simpa using h4, by simpa using h5⟩
    · exact h.elim

theorem Wp.step (h : ∃ n o a' H', stepR E (R E n) lo rd k a H = some (o, a', H') ∧ Q o a' H') : Wp E lo rd k a H Q := by
  obtain ⟨n, o, a', H', h1, h2⟩ := h
  exact ⟨n + 1, o, a', H', h1, h2⟩
theorem Wp.nil (h : Q .done a H) : Wp E lo rd [] a H Q := Wp.step ⟨0, _, _, _, rfl, h⟩
theorem Wp.blk {id : Nat} (h : Wp E lo rd k a H Q) : Wp E lo rd (.blk id :: k) a H Q := Wp.step h
theorem Wp.lp {c : ACode} (h : Wp E lo rd (.code c :: .lp c :: k) a H Q) : Wp E lo rd (.lp c :: k) a H Q := Wp.step h
theorem Wp.skip (h : Wp E lo rd k a H Q) : Wp E lo rd (.code .skip :: k) a H Q := Wp.step h
theorem Wp.ret (h : Q .ret a H) : Wp E lo rd (.code .ret :: k) a H Q := Wp.step ⟨0, _, _, _, rfl, h⟩
theorem Wp.seq {x y : ACode} (h : Wp E lo rd (.code x :: .code y :: k) a H Q) : Wp E lo rd (.code (.seq x y) :: k) a H Q := Wp.step h
theorem Wp.block {id : Nat} {c : ACode} (h : Wp E lo rd (.code c :: .blk id :: k) a H Q) : Wp E lo rd (.code (.block id c) :: k) a H Q := Wp.step h
theorem Wp.loop {c : ACode} (h : Wp E lo rd (.code c :: .lp c :: k) a H Q) : Wp E lo rd (.code (.loop c) :: k) a H Q := Wp.step h
theorem Wp.cond {x : AX} {c d : ACode} {t : Bool} (hx : ev a x = .b t) (h : Wp E lo rd (.code (if t then c else d) :: k) a H Q) : Wp E lo rd (.code (.cond x c d) :: k) a H Q := by
  refine Wp.step ?_
  cases t <;> simp only [stepR, hx]
  · exact h
  · exact h
theorem Wp.exit {id : Nat} {k' : List AI} (hk : exitA id k = some k') (h : Wp E lo rd k' a H Q) : Wp E lo rd (.code (.exit id) :: k) a H Q := by
  refine Wp.step ?_
  simp only [stepR, hk]; exact h
theorem Wp.exitOut {id : Nat} (hk : exitA id k = none) (h : Q (.exit id) a H) : Wp E lo rd (.code (.exit id) :: k) a H Q := by
  refine Wp.step ⟨0, _, _, _, ?_, h⟩
  simp only [stepR, hk]
theorem Wp.reg {l : List AOper} (h : WpOps E lo l a H fun a' H' => Wp E lo rd k a' H' Q) : Wp E lo rd (.code (.reg none l) :: k) a H Q := by
  obtain ⟨n, a', H', h1, m, o, a2, H2, h2, h3⟩ := h.run
  refine Wp.step ⟨max n m, o, a2, H2, ?_, h3⟩
  simp only [stepR, runOps_mono (R_le E (Nat.le_max_left n m)) h1, Option.bind_some]
  exact R_le E (Nat.le_max_right n m) _ _ _ _ _ _ h2
theorem Wp.regD {l : List AOper} (h : WpOps E lo l a H fun a' H' => Wp E lo rd k a' H' Q) : Wp E lo rd (.code (.reg (some []) l) :: k) a H Q := by
  obtain ⟨n, a', H', h1, m, o, a2, H2, h2, h3⟩ := h.run
  refine Wp.step ⟨max n m, o, a2, H2, ?_, h3⟩
  have h4 : runD E (R E (max n m)) lo [] l a H = some (a', H') := by
    have := runTr_ops E (R E (max n m)) lo l a H
    rw [runOps_mono (R_le E (Nat.le_max_left n m)) h1] at this
    unfold runD
    simpa using this
  simp only [stepR, h4, Option.bind_some]
  exact R_le E (Nat.le_max_right n m) _ _ _ _ _ _ h2
theorem Wp.regC {ck : List (Nat × Nat)} {l : List AOper} (h : WpTr E lo l a H [] fun tr a' H' => ck.all (chk1 l tr) = true ∧ Wp E lo rd k a' H' Q) : Wp E lo rd (.code (.reg (some ck) l) :: k) a H Q := by
  obtain ⟨n, t, a', H', h1, h5, h6, m, o, a2, H2, h2, h3⟩ := h.run
  refine Wp.step ⟨max n m, o, a2, H2, ?_, h3⟩
  have h4 : runD E (R E (max n m)) lo ck l a H = some (a', H') := by
    unfold runD
    rw [runTr_mono (R_le E (Nat.le_max_left n m)) h1, Option.bind_some]
    simp only [List.nil_append] at h6
    rw [if_pos h6]; exact h5
  simp only [stepR, h4, Option.bind_some]
  exact R_le E (Nat.le_max_right n m) _ _ _ _ _ _ h2

/-- a loop: what holds at its head, and what grows less -/
theorem Wp.while {c : ACode} (J : Fr → Heap → Prop) (μ : Fr → Heap → Nat)
    (h : ∀ a H, J a H → (∀ a' H', J a' H' → μ a' H' < μ a H → Wp E lo rd (.lp c :: k) a' H' Q) → Wp E lo rd (.code c :: .lp c :: k) a H Q) (h0 : J a H) : Wp E lo rd (.lp c :: k) a H Q := by
  have key : ∀ (m : Nat) (a : Fr) (H : Heap), μ a H = m → J a H → Wp E lo rd (.lp c :: k) a H Q := by
    intro m
    induction m using Nat.strongRecOn with
    | ind m ih =>
      intro a H hm hJ
      refine Wp.lp (h a H hJ fun a' H' hJ' hlt => ih (μ a' H') (by omega) a' H' rfl hJ')
  exact key _ a H rfl h0

/-! ### Calls -/
theorem WpF.of_wrt {f : Nat} {af : AFunc} {vs : List AV} {P : AV → Heap → Prop} (hk : E.kd f = .wrt) (hf : E.fn f = some af) (hn : vs.length = af.nargs)
    (h : Wp E lo none [.code af.body] (initFr vs) H fun o a' H' => (o = .done ∨ o = .ret) ∧ ∃ v, resA af.res a' H' = some v ∧ P v H') : WpF E lo f vs H P := by
  obtain ⟨n, o, a', H', h1, ho, v, h2, h3⟩ := h
  refine ⟨n, v, H', ?_, h3⟩
  unfold callF
  simp only [hk, hf, Option.bind_some, runF, if_pos hn, h1]
  rcases ho with rfl | rfl <;> simp [h2]
theorem WpF.of_ro {f : Nat} {af : AFunc} {vs : List AV} {P : AV → Heap → Prop} (hk : E.kd f = .ro) (hf : E.fn f = some af) (hn : vs.length = af.nargs)
    (h : Wp E H.length none [.code af.body] (initFr vs) H fun o a' H' => (o = .done ∨ o = .ret) ∧ ∃ v, resA af.res a' H' = some v ∧ P v (if v.pure then H else H ++ (H'.drop H.length).map Blk.shut)) : WpF E lo f vs H P := by
  obtain ⟨n, o, a', H', h1, ho, v, h2, h3⟩ := h
  refine ⟨n, v, _, ?_, h3⟩
  unfold callF
  simp only [hk, hf, Option.bind_some, runF, if_pos hn, h1]
  rcases ho with rfl | rfl <;> simp [h2]
/-- a call that writes to nothing older does so wherever it is called from -/
theorem WpF.any {f : Nat} {vs : List AV} {P : AV → Heap → Prop} {lo' : Nat} (hk : E.kd f = .ro) (h : WpF E lo f vs H P) : WpF E lo' f vs H P := by
  obtain ⟨n, v, H', h1, h2⟩ := h
  exact ⟨n, v, H', (callF_call (by rw [hk]; simp) (by rw [hk]; simp) h1).2 lo', h2⟩
theorem WpV.fn {f : Nat} {us caps vs : List AV} {P : AV → Heap → Prop} (h : WpF E lo f (us ++ vs ++ caps) H P) : WpV E lo (.fn f us caps) vs H P := h

theorem Wp.call_run {n f : Nat} {vs : List AV} {v : AV} {H' : Heap} {P : AV → Heap → Prop} (h : callF E (RQ E n) lo f vs H = some (v, H')) (hp : P v H') : WpF E lo f vs H P := by
  rw [RQ_eq] at h
  exact ⟨n, v, H', h, hp⟩
end
end Go.AM
