/- The simulation's parts: one operation, whatever it is; the operations of a region one after the other. Conditions as at 'EOk'. -/
import Derived.Test.YtflekaacffdakaaAmP
namespace Go.AM
open Go Go.RowKit
section
variable {C : Cfg} {I : World → Prop} {E : Tab} {rec : Rec} {ρ : Mp} {L0 lo nt : Nat} {w0 w : World} {H : Heap} {a : Fr} {am : Act}

theorem prep_call {op : Op} {f : Nat} {args : List AX} (h : prepOp C nt op = some (.call f args)) : ∃ c, op = .call c ∧ c.callee = .value (.func f) ∧ prepXs nt c.args.toList = some args := by
  cases op <;> simp only [prepOp] at h
  case call c =>
    obtain ⟨as, has, h⟩ := Option.bind_eq_some_iff.1 h
    refine ⟨c, rfl, ?_⟩
    cases hc : c.callee with
    | value x =>
      rw [hc] at h
      cases x <;> simp at h
      obtain ⟨rfl, rfl⟩ := h
      exact ⟨rfl, has⟩
    | builtin b =>
      rw [hc] at h
      cases b <;> simp only at h
      all_goals
        repeat' (split at h)
        all_goals (simp [Option.bind_eq_some_iff] at h)
      all_goals
        obtain ⟨_, _, _, _, _, _, h⟩ := h
        repeat' (split at h)
        all_goals simp at h
    | _ => rw [hc] at h; simp at h
  all_goals
    repeat' (split at h)
    all_goals (simp [Option.bind_eq_some_iff] at h)
theorem prep_callv {op : Op} {y : AX} {args : List AX} (h : prepOp C nt op = some (.callv y args)) : ∃ c x, op = .call c ∧ c.callee = .value x ∧ prepX nt x = some y ∧ prepXs nt c.args.toList = some args := by
  cases op <;> simp only [prepOp] at h
  case call c =>
    obtain ⟨as, has, h⟩ := Option.bind_eq_some_iff.1 h
    cases hc : c.callee with
    | value x =>
      rw [hc] at h
      cases x <;> simp at h
      all_goals
        obtain ⟨_, hy, rfl, rfl⟩ := h
        exact ⟨c, _, rfl, hc, hy, has⟩
    | builtin b =>
      rw [hc] at h
      cases b <;> simp only at h
      all_goals
        repeat' (split at h)
        all_goals (simp [Option.bind_eq_some_iff] at h)
      all_goals
        obtain ⟨_, _, _, _, _, _, h⟩ := h
        repeat' (split at h)
        all_goals simp at h
    | _ => rw [hc] at h; simp at h
  all_goals
    repeat' (split at h)
    all_goals (simp [Option.bind_eq_some_iff] at h)

/-- a value is called: where the machine goes -/
theorem run_callv {P : Program} {c : Call} {x : Operand} (hc : c.callee = .value x) (o : Oper) (ho : o.op = .call c) {fn : Fn} {us caps : Array Value} (hx : am.eval x = .func fn us caps) (w : World) :
    (execOp am.eval o).run P w = (invoke (.fn fn caps) (us ++ c.args.map am.eval)).run P w := by
  simp only [execOp, ho, resolve, hc, hx, Deferred.ofValue, Sem.run_bind, Sem.run_pure, Result.andThen_ok]

/-- **one operation** -/
theorem op_sim (hE : EOk C I E) (hS : Sim C I rec) {om : Oper} {oa : AOp} (hp : prepOp C nt om.op = some oa) {v : AV} {H' : Heap} (hx : opF E rec lo oa a H = some (v, H')) (h : HRel C I ρ L0 w0 H w) (hf : FrRel ρ nt a am.tmps) (hlo : L0 ≤ lo)
    {ops : Array Oper} {i : Nat} {rest : List Nat} (ho : ops[i]? = some om) (hw : Region.wanted om (yielded ops am.tmps) = true) (b : Frame) (km : List Item) (cs : List Frame) :
    ∃ ρ' x w', Steps C.P (lone (b.atR am (.inRegion ops (i :: rest) :: km)) cs w) (lone (b.atR (am.put om.dst x) (.inRegion ops rest :: km)) cs w') ∧ VRel ρ' v x ∧ HRel C I ρ' L0 w0 H' w' ∧ Ext ρ L0 H.length w ρ' w' := by
  have hd : ∀ c, om.op ≠ .defer c := fun c e => by rw [e] at hp; simp [prepOp] at hp
  have goCall : ∀ {f : Nat} {vs : List AV} {args : Array Value}, callF E rec lo f vs H = some (v, H') → VRelL ρ vs args.toList → (execOp am.eval om).run C.P w = (callFunc f args).run C.P w →
      ∃ ρ' x w', Steps C.P (lone (b.atR am (.inRegion ops (i :: rest) :: km)) cs w) (lone (b.atR (am.put om.dst x) (.inRegion ops rest :: km)) cs w') ∧ VRel ρ' v x ∧ HRel C I ρ' L0 w0 H' w' ∧ Ext ρ L0 H.length w ρ' w' := fun {f vs args} hcf hv hrun => by
    obtain ⟨hen, hcs⟩ := callF_sim hE hS hcf h hv hlo
    obtain ⟨ρ', x, w', h1, h2, h3, h4⟩ := hcs (b.atR am (.inRegion ops (i :: rest) :: km) :: cs)
    exact ⟨ρ', x, w', stepR_called ho hw hd (by rw [hrun]; exact hen args w) h1, h2, h3, h4⟩
  unfold opF at hx
  split at hx
  · rename_i f args
    obtain ⟨c, hop, hcal, hargs⟩ := prep_call hp
    have hr := run_callv (am := am) (P := C.P) (fn := .func f) (us := #[]) (caps := #[]) hcal om hop (by rfl) w
    refine goCall (args := c.args.map am.eval) hx ?_ (by rw [hr]; simp [invoke])
    simpa using evalXs hf hargs
  · rename_i x args
    obtain ⟨c, y, hop, hcal, hy, hargs⟩ := prep_callv hp
    have hyv := evalX hy hf
    have hav := evalXs hf hargs
    unfold callV at hx
    split at hx
    · rename_i f us caps e
      rw [e] at hyv
      simp only [VRel] at hyv
      obtain ⟨um, cm, hye, hum, hcm⟩ := hyv
      have hr := run_callv (am := am) (P := C.P) hcal om hop hye w
      refine goCall (args := um ++ c.args.map am.eval ++ cm) hx ?_ (by rw [hr]; simp [invoke])
      have := (hum.append hav).append hcm
      simpa using this
    · rename_i l e
      rw [e] at hyv
      simp only [VRel] at hyv
      obtain ⟨r, hr, hye⟩ := hyv
      have hrun := run_callv (am := am) (P := C.P) hcal om hop hye w
      split at hx
      · rename_i p nt' fr ps asg body hk
        obtain ⟨ρ', x, w', f, tmps, am', bm, h1, h2, h3, h4, h5⟩ := roundA_sim hS hk hx h hr (args := c.args.map am.eval) (by simpa using hav) hlo (b.atR am (.inRegion ops (i :: rest) :: km)) cs
        refine ⟨ρ', x, w', .head (stepR_roundOf ho hw hd (by rw [hrun]; simpa [invoke] using h1)) ?_, h3, h4, h5⟩
        rw [Frame.finish_atR, ho] at h2
        exact h2
      · cases hx
    · cases hx
  · obtain ⟨ρ', nx, x, w', h1, h2, h3, h4, h5⟩ := simOp h hf hlo hE.eq hp hx om rfl
    exact ⟨ρ', x, w', .one (stepR_value ho hw hd h1 h2), h3, h4, h5⟩

/-! ### The operations of a region -/
def OpsAt (C : Cfg) (nt : Nat) (ops : Array Oper) : List Nat → List AOper → Prop
  | [], l => l = []
  | i :: idx, l => ∃ om o l', l = o :: l' ∧ ops[i]? = some om ∧ prepOper C nt ops om = some o ∧ OpsAt C nt ops idx l'

theorem prepOper_spec {ops : Array Oper} {om : Oper} {o : AOper} (h : prepOper C nt ops om = some o) : prepOp C nt om.op = some o.op ∧ om.dst = o.dst ∧ (∀ d, o.dst = some d → d < nt) ∧
    (match om.guard with
     | none => o.guard = none
     | some (j, want) => ∃ s, (ops[j]?).bind (·.dst) = some s ∧ s < nt ∧ o.guard = some (s, want)) := by
  unfold prepOper at h
  obtain ⟨op, hop, h⟩ := Option.bind_eq_some_iff.1 h
  split at h
  · rename_i d hd
    split at h
    · rename_i hlt
      split at h
      · rename_i hg
        cases h
        exact ⟨hop, hd, fun d' e => by cases e; exact hlt, by rw [hg]⟩
      · rename_i j want hg
        obtain ⟨s, hs, h⟩ := Option.bind_eq_some_iff.1 h
        split at h
        · rename_i hsl
          cases h
          exact ⟨hop, hd, fun d' e => by cases e; exact hlt, by rw [hg]; exact ⟨s, hs, hsl, rfl⟩⟩
        · cases h
    · cases h
  · rename_i hd
    split at h
    · rename_i hg
      cases h
      exact ⟨hop, hd, (fun d' e => by cases e), by rw [hg]⟩
    · rename_i j want hg
      obtain ⟨s, hs, h⟩ := Option.bind_eq_some_iff.1 h
      split at h
      · rename_i hsl
        cases h
        exact ⟨hop, hd, (fun d' e => by cases e), by rw [hg]; exact ⟨s, hs, hsl, rfl⟩⟩
      · cases h

/-- the guard, as the machine reads it -/
theorem wanted_spec {ops : Array Oper} {om : Oper} {o : AOper} (h : prepOper C nt ops om = some o) (hf : FrRel ρ nt a am.tmps) {t : Bool} (hw : wantedA a o.guard = some t) : Region.wanted om (yielded ops am.tmps) = t := by
  obtain ⟨_, _, _, hg⟩ := prepOper_spec h
  unfold Region.wanted
  split at hg
  · rename_i e
    rw [hg] at hw
    simp only [wantedA] at hw
    cases hw
    rw [e]
  · rename_i j want e
    obtain ⟨s, hs, hlt, hg⟩ := hg
    rw [hg] at hw
    rw [e]
    simp only [wantedA] at hw
    have hv := hf.val s hlt
    have hsz := hf.size
    have hget : am.tmps[s]? = some (am.tmps.getD s undef) := by
      rw [Array.getD_eq_getD_getElem?, Array.getElem?_eq_getElem (show s < am.tmps.size by rw [hsz]; exact hlt)]; rfl
    have hy : yielded ops am.tmps j = (match am.tmps.getD s undef with | .bool x => some x | _ => none) := by
      unfold yielded
      rw [hs, Option.bind_some, hget]
      cases am.tmps.getD s undef <;> rfl
    simp only [hy]
    split at hw
    · rename_i x ex
      cases hw
      rw [ex] at hv
      rw [hv.bool]
      cases x <;> cases want <;> rfl
    · rename_i ex
      cases hw
      rw [ex] at hv
      simp only [VRel] at hv
      obtain ⟨cs, hce, _⟩ := hv
      rw [hce]
      rfl
    · cases hw

theorem FrRel.put' (f : FrRel ρ nt a am.tmps) {dst : Option Nat} (hd : ∀ d, dst = some d → d < nt) {v : AV} {x : Value} (hv : VRel ρ v x) : FrRel ρ nt (a.put dst v) (am.put dst x).tmps := by
  cases dst with
  | none => exact f
  | some d => exact f.put (hd d rfl) hv
theorem put_defers (am : Act) (dst : Option Nat) (x : Value) : (am.put dst x).defers = am.defers := by cases dst <;> rfl

/-- one operation, its guard looked at -/
theorem oper_sim (hE : EOk C I E) (hS : Sim C I rec) (hR : LenR rec) {om : Oper} {o : AOper} {ops : Array Oper} {i : Nat} {rest : List Nat} (ho : ops[i]? = some om) (hp : prepOper C nt ops om = some o) {v : AV} {H' : Heap}
    (hx : (match wantedA a o.guard with
      | some true => opF E rec lo o.op a H
      | some false => some (.no, H)
      | none => none) = some (v, H')) (h : HRel C I ρ L0 w0 H w) (hf : FrRel ρ nt a am.tmps) (hlo : L0 ≤ lo) (b : Frame) (km : List Item) (cs : List Frame) :
    ∃ ρ' x w', Steps C.P (lone (b.atR am (.inRegion ops (i :: rest) :: km)) cs w) (lone (b.atR (am.put o.dst x) (.inRegion ops rest :: km)) cs w') ∧ VRel ρ' v x ∧ HRel C I ρ' L0 w0 H' w' ∧ Ext ρ L0 H.length w ρ' w' ∧ H.length ≤ H'.length := by
  obtain ⟨hpo, hdst, hdn, _⟩ := prepOper_spec hp
  split at hx
  · rename_i hw
    obtain ⟨ρ', x, w', h1, h2, h3, h4⟩ := op_sim hE hS hpo hx h hf hlo ho (wanted_spec hp hf hw) b km cs (rest := rest)
    rw [hdst] at h1
    exact ⟨ρ', x, w', h1, h2, h3, h4, opF_len hR hx⟩
  · rename_i hw
    cases hx
    refine ⟨ρ, undef, w, .one ?_, by simp only [VRel, undef]; exact ⟨#[], rfl, by simp [VRelL]⟩, h, Ext.refl .., Nat.le_refl _⟩
    have := stepR_op_skip (P := C.P) (b := b) (a := am) (k := km) (cs := cs) (w := w) (ops := ops) (i := i) (rest := rest) (by rw [ho]; simp [wanted_spec hp hf hw])
    rw [this, ho]
    simp [hdst]
  · cases hx

theorem ops_sim (hE : EOk C I E) (hS : Sim C I rec) (hR : LenR rec) {ops : Array Oper} (hlo : L0 ≤ lo) (b : Frame) (km : List Item) (cs : List Frame) : ∀ {l : List AOper} {idx : List Nat} {ρ : Mp} {w : World} {H : Heap} {a : Fr} {am : Act} {a' : Fr} {H' : Heap},
    OpsAt C nt ops idx l → runOps E rec lo l a H = some (a', H') → HRel C I ρ L0 w0 H w → FrRel ρ nt a am.tmps →
    ∃ ρ' am' w', Steps C.P (lone (b.atR am (.inRegion ops idx :: km)) cs w) (lone (b.atR am' (.inRegion ops [] :: km)) cs w') ∧ FrRel ρ' nt a' am'.tmps ∧ HRel C I ρ' L0 w0 H' w' ∧ Ext ρ L0 H.length w ρ' w' ∧ am'.defers = am.defers := by
  intro l
  induction l with
  | nil =>
    intro idx ρ w H a am a' H' hl hx h hf
    simp only [runOps] at hx
    cases hx
    cases idx with
    | nil => exact ⟨ρ, am, w, .refl .., hf, h, Ext.refl .., rfl⟩
    | cons i idx => simp only [OpsAt] at hl; obtain ⟨_, _, _, e, _⟩ := hl; cases e
  | cons o l ih =>
    intro idx ρ w H a am a' H' hl hx h hf
    cases idx with
    | nil => simp only [OpsAt] at hl; cases hl
    | cons i idx =>
      simp only [OpsAt] at hl
      obtain ⟨om, o', l', e, ho, hp, hl⟩ := hl
      cases e
      obtain ⟨_, _, hdn, _⟩ := prepOper_spec hp
      have key : ∀ {v : AV} {H1 : Heap}, (match wantedA a o.guard with
          | some true => opF E rec lo o.op a H
          | some false => some (.no, H)
          | none => none) = some (v, H1) → runOps E rec lo l (a.put o.dst v) H1 = some (a', H') → ∃ ρ' am' w', Steps C.P (lone (b.atR am (.inRegion ops (i :: idx) :: km)) cs w) (lone (b.atR am' (.inRegion ops [] :: km)) cs w') ∧ FrRel ρ' nt a' am'.tmps ∧ HRel C I ρ' L0 w0 H' w' ∧ Ext ρ L0 H.length w ρ' w' ∧ am'.defers = am.defers := fun {v H1} h1 h2 => by
        obtain ⟨ρ1, x, w1, s1, hv, hH1, hE1, hle⟩ := oper_sim hE hS hR ho hp h1 h hf hlo b km cs (rest := idx)
        obtain ⟨ρ2, am2, w2, s2, hf2, hH2, hE2, hd2⟩ := ih hl h2 hH1 ((hf.mono hE1.le).put' hdn hv)
        exact ⟨ρ2, am2, w2, s1.trans s2, hf2, hH2, hE1.trans hE2 hle, hd2.trans (put_defers ..)⟩
      simp only [runOps] at hx
      split at hx
      · rename_i hw
        obtain ⟨⟨v, H1⟩, h1, h2⟩ := Option.bind_eq_some_iff.1 hx
        exact key (by rw [hw]; exact h1) h2
      · rename_i hw
        exact key (v := .no) (H1 := H) (by rw [hw]) hx
      · cases hx

theorem opsAt_range {ops : Array Oper} : ∀ {os : List Oper} {l : List AOper} {k : Nat}, prepOpers C nt ops os = some l → (∀ j, os[j]? = ops[k + j]?) → OpsAt C nt ops (List.range' k os.length) l
  | [], _, _, h, _ => by simp [prepOpers] at h; subst h; simp [OpsAt]
  | o :: os, l, k, h, hg => by
    simp only [prepOpers] at h
    obtain ⟨x, hx, h⟩ := Option.bind_eq_some_iff.1 h
    obtain ⟨xs, hxs, rfl⟩ := Option.map_eq_some_iff.1 h
    have h0 := hg 0
    simp only [List.length_cons, List.range'_succ, OpsAt]
    refine ⟨o, x, xs, rfl, by simpa using h0.symm, hx, opsAt_range hxs fun j => ?_⟩
    have := hg (j + 1)
    simp only [List.getElem?_cons_succ] at this
    rw [this]; congr 1; omega
theorem opsAt_all {ops : Array Oper} {l : List AOper} (h : prepOpers C nt ops ops.toList = some l) : OpsAt C nt ops (List.range ops.size) l := by
  have := opsAt_range (k := 0) h (fun j => by simp)
  rw [List.range_eq_range']
  simpa using this
end
end Go.AM
