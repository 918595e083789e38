/- The simulation's parts: what a call, a round, a region do in the machine. Conditions: 'PrimOk' (the contracts of the functions taken as they are), 'EqOk', 'Stable'. -/
import Derived.Test.YtflekaacffdakaaAmM
import Derived.RangeFuncIn
namespace Go.AM
open Go Go.RowKit

def FnOk (C : Cfg) (f : Nat) (af : AFunc) : Prop := ∃ fn, C.P.funcs[f]? = some fn ∧ prepF C fn = some af
def Enters' (P : Program) (f : Nat) : Prop := ∀ args w, (callFunc f args).run P w = .ok (.enter f args) w

/-- one call, among callers cs, comes back with x -/
def Rets (P : Program) (f : Nat) (args : Array Value) (cs : List Frame) (w : World) (x : Value) (w' : World) : Prop :=
  ∃ fr, Steps P (lone (Frame.enter P f args .normal) cs w) (lone fr cs w') ∧ fr.fn = f ∧ fr.leaving P w' (.returned x)

def PrimOk (C : Cfg) (I : World → Prop) : Prop := ∀ f g, C.kd f = .prim g → Enters' C.P f ∧
  ∀ (vs : List AV) (v : AV) (args : Array Value) (w : World), g vs = some v → VRelL (fun _ => none) vs args.toList → I w → ∀ cs, ∃ x w', Rets C.P f args cs w x w' ∧ VRel (fun _ => none) v x ∧ Below w.heap.size w w'

structure EOk (C : Cfg) (I : World → Prop) (E : Tab) : Prop where
  kd : E.kd = C.kd
  fn : ∀ f af, E.fn f = some af → FnOk C f af
  prim : PrimOk C I
  stable : Stable I
  eq : EqOk C
  mixed : C.P.follows .mixedOrders = true

theorem FnOk.enters {C : Cfg} {f : Nat} {af : AFunc} (h : FnOk C f af) : Enters' C.P f := by
  obtain ⟨fn, hf, hp⟩ := h
  unfold prepF at hp
  split at hp
  · cases hp
  · rename_i c hb
    split at hp
    · rename_i hc
      intro args w
      have h1 : fn.name ≠ "runtime.NumGoroutine" := hc.2
      simp [callFunc, hf, h1, hb, mark]
    · cases hp

/-! ### Items -/
def ItemRel (C : Cfg) (nt : Nat) : AI → Item → Prop
  | .code c, .code cm => prepC C nt cm = some c
  | .blk id, .inBlock id' => id' = id
  | .lp c, .inLoop cm => prepC C nt cm = some c
  | .begin, .beginRound => True
  | _, _ => False
def ItemsRel (C : Cfg) (nt : Nat) : List AI → List Item → Prop
  | [], km => km = []
  | i :: k, km => ∃ im km', km = im :: km' ∧ ItemRel C nt i im ∧ ItemsRel C nt k km'

theorem exit_some {C : Cfg} {nt id : Nat} : ∀ {k k' : List AI} {km : List Item}, ItemsRel C nt k km → exitA id k = some k' → ∃ km', exitTo id km = some km' ∧ ItemsRel C nt k' km'
  | [], _, _, _, h => by simp [exitA] at h
  | i :: k, k', _, hr, h => by
    obtain ⟨im, km', rfl, h1, h2⟩ := hr
    cases i with
    | blk j =>
      cases im <;> simp only [ItemRel] at h1
      subst h1
      simp only [exitA] at h
      simp only [exitTo]
      split at h
      · rename_i e; cases h; subst e; exact ⟨km', by simp, h2⟩
      · rename_i e; rw [if_neg (by simpa using e)]; exact exit_some h2 h
    | code c => cases im <;> simp only [ItemRel] at h1; simp only [exitA] at h; simp only [exitTo]; exact exit_some h2 h
    | lp c => cases im <;> simp only [ItemRel] at h1; simp only [exitA] at h; simp only [exitTo]; exact exit_some h2 h
    | begin => cases im <;> simp only [ItemRel] at h1; simp only [exitA] at h; simp only [exitTo]; exact exit_some h2 h
theorem exit_none {C : Cfg} {nt id : Nat} : ∀ {k : List AI} {km : List Item}, ItemsRel C nt k km → exitA id k = none → exitTo id km = none
  | [], _, hr, _ => by simp only [ItemsRel] at hr; subst hr; rfl
  | i :: k, _, hr, h => by
    obtain ⟨im, km', rfl, h1, h2⟩ := hr
    cases i with
    | blk j =>
      cases im <;> simp only [ItemRel] at h1
      subst h1
      simp only [exitA] at h
      simp only [exitTo]
      split at h
      · cases h
      · rename_i e; rw [if_neg (by simpa using e)]; exact exit_none h2 h
    | code c => cases im <;> simp only [ItemRel] at h1; simp only [exitA] at h; simp only [exitTo]; exact exit_none h2 h
    | lp c => cases im <;> simp only [ItemRel] at h1; simp only [exitA] at h; simp only [exitTo]; exact exit_none h2 h
    | begin => cases im <;> simp only [ItemRel] at h1; simp only [exitA] at h; simp only [exitTo]; exact exit_none h2 h

/-- the round that a frame runs -/
def RdRel (ρ : Mp) : Option Nat → Option Nat → Prop
  | none, ro => ro = none
  | some l, ro => ∃ r, ρ l = some r ∧ ro = some r.a.block
theorem RdRel.mono {ρ ρ' : Mp} {rd ro : Option Nat} (h : RdRel ρ rd ro) (hle : Mp.le ρ ρ') : RdRel ρ' rd ro := by
  cases rd with
  | none => exact h
  | some l => obtain ⟨r, e, q⟩ := h; exact ⟨r, hle _ _ e, q⟩

def Ends (P : Program) (b : Frame) (am : Act) (km : List Item) (cs : List Frame) (w : World) (am' : Act) (w' : World) : Out → Prop
  | .done => Steps P (lone (b.atR am km) cs w) (lone (b.atR am' []) cs w')
  | .ret => ∃ k1, Steps P (lone (b.atR am km) cs w) (lone (b.atR am' (.code .ret :: k1)) cs w')
  | .exit id => ∃ k1, exitTo id k1 = none ∧ Steps P (lone (b.atR am km) cs w) (lone (b.atR am' (.code (.exit id) :: k1)) cs w')
theorem Ends.of_steps {P : Program} {b : Frame} {am am1 am' : Act} {km km1 : List Item} {cs : List Frame} {w w1 w' : World} {o : Out} (h : Steps P (lone (b.atR am km) cs w) (lone (b.atR am1 km1) cs w1)) (h' : Ends P b am1 km1 cs w1 am' w' o) : Ends P b am km cs w am' w' o := by
  cases o with
  | done => exact h.trans h'
  | ret => obtain ⟨k1, h1⟩ := h'; exact ⟨k1, h.trans h1⟩
  | exit id => obtain ⟨k1, h0, h1⟩ := h'; exact ⟨k1, h0, h.trans h1⟩

/-- **what is to be shown of an evaluator** -/
def Sim (C : Cfg) (I : World → Prop) (rec : Rec) : Prop :=
  ∀ lo rd k a H out a' H', rec lo rd k a H = some (out, a', H') →
  ∀ (ρ : Mp) (L0 : Nat) (w0 w : World) (b : Frame) (am : Act) (km : List Item) (cs : List Frame) (nt base : Nat),
    ItemsRel C nt k km → RdRel ρ rd b.roundOf → FrRel ρ nt a am.tmps → HRel C I ρ L0 w0 H w → L0 ≤ lo → base ≤ w.heap.size → w0.heap.size ≤ base → Marks ρ L0 base w am.defers →
    ∃ ρ' am' w', FrRel ρ' nt a' am'.tmps ∧ HRel C I ρ' L0 w0 H' w' ∧ Ext ρ L0 H.length w ρ' w' ∧ Marks ρ' L0 base w' am'.defers ∧ Ends C.P b am km cs w am' w' out

/-! ### Steps -/
section
variable {P : Program} {b : Frame} {a : Act} {k : List Item} {cs : List Frame} {w w' : World} {ops : Array Oper} {i : Nat} {rest : List Nat} {o : Oper}
theorem stepR_value (ho : ops[i]? = some o) (hw : Region.wanted o (yielded ops a.tmps) = true) (hd : ∀ c, o.op ≠ .defer c) {nx : Next} {x : Value} (hr : (execOp a.eval o).run P w = .ok nx w') (hn : nx = .value x ∨ (nx = .skip ∧ x = undef)) :
    step P (lone (b.atR a (.inRegion ops (i :: rest) :: k)) cs w) = .next (lone (b.atR (a.put o.dst x) (.inRegion ops rest :: k)) cs w') := by
  have hg := stepGR_op (P := P) (b := b) (k := k) (cs := cs) (w := w) (rest := rest) ho hw
  rw [Oper.semAt_eq _ _ _ hd] at hg
  have hfin : ∀ v, (b.atR a (.inRegion ops (i :: rest) :: k)).finish v = b.atR (a.put o.dst v) (.inRegion ops rest :: k) := by
    intro v; rw [Frame.finish_atR, ho]; rfl
  refine step_lone_go ?_
  rw [hg, ← hfin]
  rcases hn with rfl | ⟨rfl, rfl⟩ <;> simp [stepG.apply, hr]
theorem stepR_enter (ho : ops[i]? = some o) (hw : Region.wanted o (yielded ops a.tmps) = true) (hd : ∀ c, o.op ≠ .defer c) {f : Nat} {args : Array Value} (hr : (execOp a.eval o).run P w = .ok (.enter f args) w') :
    step P (lone (b.atR a (.inRegion ops (i :: rest) :: k)) cs w) = .next (lone (Frame.enter P f args .normal) (b.atR a (.inRegion ops (i :: rest) :: k) :: cs) w') := by
  have hg := stepGR_op (P := P) (b := b) (k := k) (cs := cs) (w := w) (rest := rest) ho hw
  rw [Oper.semAt_eq _ _ _ hd] at hg
  exact step_lone_go (by rw [hg]; simp [stepG.apply, hr, Frame.atR])
theorem stepR_roundOf (ho : ops[i]? = some o) (hw : Region.wanted o (yielded ops a.tmps) = true) (hd : ∀ c, o.op ≠ .defer c) {l f : Nat} {tmps : Array Value} {asg body : Code} (hr : (execOp a.eval o).run P w = .ok (.round l f tmps asg body) w') :
    step P (lone (b.atR a (.inRegion ops (i :: rest) :: k)) cs w) = .next (lone (Frame.round l f tmps asg body .normal) (b.atR a (.inRegion ops (i :: rest) :: k) :: cs) w') := by
  have hg := stepGR_op (P := P) (b := b) (k := k) (cs := cs) (w := w) (rest := rest) ho hw
  rw [Oper.semAt_eq _ _ _ hd] at hg
  exact step_lone_go (by rw [hg]; simp [stepG.apply, hr])
theorem stepR_called (ho : ops[i]? = some o) (hw : Region.wanted o (yielded ops a.tmps) = true) (hd : ∀ c, o.op ≠ .defer c) {f : Nat} {args : Array Value} {x : Value} {w1 : World} (hr : (execOp a.eval o).run P w = .ok (.enter f args) w1)
    (hc : Rets P f args (b.atR a (.inRegion ops (i :: rest) :: k) :: cs) w1 x w') : Steps P (lone (b.atR a (.inRegion ops (i :: rest) :: k)) cs w) (lone (b.atR (a.put o.dst x) (.inRegion ops rest :: k)) cs w') := by
  obtain ⟨fr, hs, _, hl⟩ := hc
  refine .head (stepR_enter ho hw hd hr) (hs.trans (.one ?_))
  rw [step_leave_returned hl, Frame.finish_atR, ho]; rfl
end
end Go.AM
