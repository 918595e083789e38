/- The simulation's parts: calls, rounds, operations, regions. Conditions as at 'EOk'. -/
import Derived.Test.YtflekaacffdakaaAmO
namespace Go.AM
open Go Go.RowKit
section
variable {C : Cfg} {I : World → Prop} {E : Tab} {rec : Rec} {ρ : Mp} {L0 : Nat} {w0 w : World} {H : Heap}

/-- what a call, among callers cs, comes to -/
def CallTo (C : Cfg) (I : World → Prop) (ρ : Mp) (L0 : Nat) (w0 : World) (H : Heap) (w : World) (f : Nat) (args : Array Value) (cs : List Frame) (v : AV) (H' : Heap) : Prop :=
  ∃ ρ' x w', Rets C.P f args cs w x w' ∧ VRel ρ' v x ∧ HRel C I ρ' L0 w0 H' w' ∧ Ext ρ L0 H.length w ρ' w'

theorem runF_sim (hS : Sim C I rec) {lo f : Nat} {af : AFunc} {vs : List AV} {v : AV} {H' : Heap} (hx : runF rec lo af vs H = some (v, H')) (hF : FnOk C f af) (h : HRel C I ρ L0 w0 H w) {args : Array Value} (ha : VRelL ρ vs args.toList) (hlo : L0 ≤ lo) (cs : List Frame) :
    CallTo C I ρ L0 w0 H w f args cs v H' := by
  obtain ⟨fn, hf, hp⟩ := hF
  unfold prepF at hp
  split at hp
  · cases hp
  · rename_i cb hbody
    split at hp
    · rename_i hc
      obtain ⟨hc1, hc2⟩ := hc
      obtain ⟨rs, hrs, hp2⟩ := Option.bind_eq_some_iff.1 hp
      obtain ⟨ac, hac, rfl⟩ := Option.map_eq_some_iff.1 hp2
      clear hp hp2
      unfold runF at hx
      split at hx
      · rename_i hn
        simp only at hn
        have hargs : args.size = vs.length := by have := ha.length; simpa using this
        let b : Frame := { (default : Frame) with fn := f, kind := .normal }
        have hb0 : Frame.enter C.P f args .normal = b.atR { tmps := args ++ Array.replicate (fn.ntmps - args.size) undef, defers := [] } [.code cb] := by
          simp [Frame.enter, Frame.atR, b, hf, hbody]
          rfl
        have hfr := initFr_rel (ρ := ρ) (nt := fn.ntmps) ha (by omega)
        have sim := fun out a' => hS lo none [.code ac] (initFr vs) H out a'
        have fin : ∀ (a' : Fr) (H1 : Heap) (ρ1 : Mp) (am1 : Act) (w1 : World) (todo : List Item), (resA rs a' H1).map (fun v => (v, H1)) = some (v, H') → FrRel ρ1 fn.ntmps a' am1.tmps → HRel C I ρ1 L0 w0 H1 w1 → Ext ρ L0 H.length w ρ1 w1 → Marks ρ1 L0 w.heap.size w1 am1.defers →
            Steps C.P (lone (Frame.enter C.P f args .normal) cs w) (lone { b.atR am1 todo with mode := .returning } cs w1) → CallTo C I ρ L0 w0 H w f args cs v H' := fun a' H1 ρ1 am1 w1 todo hr hfr1 hH1 hE1 hM1 hst => by
          obtain ⟨u, hu, e⟩ := Option.map_eq_some_iff.1 hr
          cases e
          obtain ⟨Ds, hD1, hD2, hD3⟩ := hM1
          obtain ⟨w2, s2, hH2, hsz, hkeep⟩ := take_marks (fr := { b.atR am1 todo with mode := .returning }) (cs := cs) rfl h.below.size Ds w1 hH1 hD1 hD2 hD3
          obtain ⟨x, hx1, hx2⟩ := res_spec hH2 hfr1 hrs hu
          refine ⟨ρ1, x, w2, ⟨_, hst.trans s2, rfl, rfl, rfl, rfl, fn, hf, hx1⟩, hx2, hH2, hE1.le, hE1.fresh, by rw [hsz]; exact hE1.size, fun pb hp hno => (hkeep pb hp).trans (hE1.keep pb hp hno)⟩
        split at hx
        · rename_i a' H1 e
          obtain ⟨ρ1, am1, w1, h1, h2, h3, h4, h5⟩ := sim _ _ _ e ρ L0 w0 w b { tmps := args ++ Array.replicate (fn.ntmps - args.size) undef, defers := [] } [.code cb] cs fn.ntmps w.heap.size ⟨_, [], rfl, hac, rfl⟩ rfl hfr h hlo (Nat.le_refl _) h.below.size (Marks.nil ..)
          exact fin a' H1 ρ1 am1 w1 [] hx h1 h2 h3 h4 (by rw [hb0]; exact h5.trans (.one (stepR_end rfl)))
        · rename_i a' H1 e
          obtain ⟨ρ1, am1, w1, h1, h2, h3, h4, k1, h5⟩ := sim _ _ _ e ρ L0 w0 w b { tmps := args ++ Array.replicate (fn.ntmps - args.size) undef, defers := [] } [.code cb] cs fn.ntmps w.heap.size ⟨_, [], rfl, hac, rfl⟩ rfl hfr h hlo (Nat.le_refl _) h.below.size (Marks.nil ..)
          exact fin a' H1 ρ1 am1 w1 _ hx h1 h2 h3 h4 (by rw [hb0]; exact h5.trans (.one (stepR_ret rfl)))
        · cases hx
      · cases hx
    · cases hp

theorem callF_sim (hE : EOk C I E) (hS : Sim C I rec) {lo f : Nat} {vs : List AV} {v : AV} {H' : Heap} (hx : callF E rec lo f vs H = some (v, H')) (h : HRel C I ρ L0 w0 H w) {args : Array Value} (ha : VRelL ρ vs args.toList) (hlo : L0 ≤ lo) :
    Enters' C.P f ∧ ∀ cs, CallTo C I ρ L0 w0 H w f args cs v H' := by
  unfold callF at hx
  have hI : I w := hE.stable _ _ h.inv h.below
  split at hx
  · rename_i g hk
    obtain ⟨u, hu, e⟩ := Option.bind_eq_some_iff.1 hx
    split at e
    · rename_i hp
      cases e
      simp only [Bool.and_eq_true] at hp
      obtain ⟨h1, h2⟩ := hE.prim f g (by rw [← hE.kd]; exact hk)
      refine ⟨h1, fun cs => ?_⟩
      obtain ⟨x, w', hr, hv, hb⟩ := h2 vs v args w hu (VRelL.pure _ _ hp.2 ha) hI cs
      exact ⟨ρ, x, w', hr, VRel.pure _ _ hp.1 hv, h.later hb, Ext.later ρ L0 _ hb⟩
    · cases e
  · obtain ⟨af, haf, e⟩ := Option.bind_eq_some_iff.1 hx
    have hF := hE.fn f af haf
    exact ⟨hF.enters, fun cs => runF_sim hS e hF h ha hlo cs⟩
  · obtain ⟨af, haf, e⟩ := Option.bind_eq_some_iff.1 hx
    have hF := hE.fn f af haf
    refine ⟨hF.enters, fun cs => ?_⟩
    obtain ⟨⟨u, H1⟩, hr, e2⟩ := Option.map_eq_some_iff.1 e
    simp only [Prod.mk.injEq] at e2
    obtain ⟨rfl, e2⟩ := e2
    obtain ⟨ρ1, x, w1, h1, h2, h3, h4⟩ := runF_sim hS hr hF (h.start hE.stable) ha (Nat.le_refl _) cs
    split at e2
    · rename_i hp
      subst e2
      exact ⟨ρ, x, w1, h1, VRel.pure _ _ hp h2, h.later h3.below, Ext.later ρ L0 _ h3.below⟩
    · subst e2
      obtain ⟨h5, h6⟩ := HRel.back h h3 h4
      have hs := seal_spec H H1
      exact ⟨ρ1, x, w1, h1, h2, h5.fade hs.1 hs.2, h6⟩
  · split at hx
    · rename_i hpa
      obtain ⟨af, haf, e⟩ := Option.bind_eq_some_iff.1 hx
      have hF := hE.fn f af haf
      refine ⟨hF.enters, fun cs => ?_⟩
      obtain ⟨⟨u, H1⟩, hr, e2⟩ := Option.bind_eq_some_iff.1 e
      simp only at e2
      split at e2
      · rename_i hp
        cases e2
        obtain ⟨ρ1, x, w1, h1, h2, h3, h4⟩ := runF_sim hS hr hF (HRel.empty C I hI) (VRelL.pure _ _ hpa ha) (Nat.le_refl _) cs
        exact ⟨ρ, x, w1, h1, VRel.pure _ _ hp h2, h.later h3.below, Ext.later ρ L0 _ h3.below⟩
      · cases e2
    · cases hx

/-! ### A round -/
theorem setPs_rel {nt : Nat} : ∀ {ps : List Nat} {vs : List AV} {xs : List Value} {a : Fr} {tmps : Array Value}, (∀ p ∈ ps, p < nt) → VRelL ρ vs xs → FrRel ρ nt a tmps →
    FrRel ρ nt (setPs a ps vs) ((ps.zip xs).foldl (fun t (q : Nat × Value) => t.setIfInBounds q.1 q.2) tmps)
  | [], _, _, _, _, _, _, hf => by simpa [setPs] using hf
  | p :: ps, [], _, _, _, _, hv, hf => by simp only [VRelL] at hv; subst hv; simpa [setPs] using hf
  | p :: ps, v :: vs, _, a, tmps, hp, hv, hf => by
    simp only [VRelL] at hv
    obtain ⟨x, xs, rfl, hx, hxs⟩ := hv
    simp only [setPs, List.zip_cons_cons, List.foldl_cons]
    exact setPs_rel (fun q hq => hp q (by simp [hq])) hxs (hf.put (hp p (by simp)) hx)
theorem zip_foldl (ps : Array Nat) (args : Array Value) (tmps : Array Value) : (ps.zip args).foldl (fun tmps (t, a) => tmps.setIfInBounds t a) tmps = (ps.toList.zip args.toList).foldl (fun t (q : Nat × Value) => t.setIfInBounds q.1 q.2) tmps := by
  rw [← Array.foldl_toList, Array.toList_zip]

def mjmp : Option Jmp → Option Code
  | none => none
  | some .ret => some .ret
  | some (.exit i) => some (.exit i)
theorem jmpRel_mjmp (j : Option Jmp) : JmpRel j (mjmp j) := by
  cases j with
  | none => rfl
  | some j => cases j <;> rfl
theorem mjmp_isNone (j : Option Jmp) : (mjmp j).isNone = j.isNone := by
  cases j with
  | none => rfl
  | some j => cases j <;> rfl

theorem roundA_sim (hS : Sim C I rec) {lo l nt : Nat} {p : Option Jmp} {fr : Fr} {ps : List Nat} {asg body : ACode} {vs : List AV} {v : AV} {H' : Heap} (hk : H[l]? = some (.loop .ready p nt fr ps asg body)) (hx : roundA rec lo l fr ps asg body vs H = some (v, H'))
    (h : HRel C I ρ L0 w0 H w) {r : PB} (hr : ρ l = some r) {args : Array Value} (ha : VRelL ρ vs args.toList) (hlo : L0 ≤ lo) (c : Frame) (cs : List Frame) :
    ∃ ρ' x w' f tmps am bm, (Instr.yield r.a.block args).run C.P w = .ok (.round r.a.block f tmps am bm) w ∧ Steps C.P (lone (Frame.round r.a.block f tmps am bm .normal) (c :: cs) w) (lone (c.finish x) cs w') ∧
      VRel ρ' v x ∧ HRel C I ρ' L0 w0 H' w' ∧ Ext ρ L0 H.length w ρ' w' := by
  unfold roundA at hx
  split at hx
  · rename_i hc
    obtain ⟨hlen, hl⟩ := hc
    have hL : L0 ≤ l := by omega
    obtain ⟨rec0, q1, q2, q3, q4, q5, q6, q7, q8⟩ := h.blk l r _ hr hk hL
    have hargs : args.size = rec0.params.size := by
      have := ha.length
      rw [← q5] at hlen
      simp at this hlen
      omega
    split at hx
    · rename_i out a' H1 e
      have hfr := setPs_rel (ρ := ρ) (nt := nt) (ps := ps) (a := fr) (tmps := rec0.tmps) q6 ha q4
      rw [← q5] at hfr
      rw [← zip_foldl] at hfr
      let b : Frame := { (default : Frame) with fn := rec0.fn, kind := .normal, roundOf := some r.a.block }
      rw [q5] at hfr
      obtain ⟨ρ1, am1, w1, h1, h2, h3, h4, h5⟩ := hS _ _ _ _ _ _ _ _ e ρ L0 w0 w b { tmps := (rec0.params.zip args).foldl (fun tmps (t, a) => tmps.setIfInBounds t a) rec0.tmps, defers := [] } [.code rec0.assign, .beginRound, .code rec0.body] (c :: cs) nt w.heap.size
        ⟨_, _, rfl, q7, _, _, rfl, trivial, _, _, rfl, q8, rfl⟩ ⟨r, hr, rfl⟩ hfr h hlo (Nat.le_refl _) h.below.size (Marks.nil ..)
      split at hx
      · rename_i p' nt1 fr' ps' asg' body' hk1
        cases hx
        have hr1 := h3.le l r hr
        obtain ⟨rec1, t1, t2, t3, t4, t5, t6, t7, t8⟩ := h2.blk l r _ hr1 hk1 hL
        have hown := h2.own l r hr1 hL
        obtain ⟨w2, hw2⟩ : ∃ w2, w2 = w1.putObj r.a.block (.loop { rec1 with state := if (mjmp out.jmp).isNone then .ready else .done, pending := mjmp out.jmp }) := ⟨_, rfl⟩
        have hend := run_endRound (P := C.P) (mjmp out.jmp) t1
        rw [← hw2] at hend
        have hother : ∀ pb, pb ≠ r.a.block → pb < w1.heap.size → w2.heap[pb]? = w1.heap[pb]? := fun pb hp _ => by rw [hw2]; exact World.putObj_heap_other hp
        have hsz : w2.heap.size = w1.heap.size := by rw [hw2]; simp
        have hbel : Below w0.heap.size w0 w2 := h2.below.trans (by rw [hw2]; exact ⟨rfl, rfl, rfl, by simp, fun k hk => World.putObj_heap_other (by omega)⟩)
        refine ⟨ρ1, .bool (mjmp out.jmp).isNone, w2, rec0.fn, _, rec0.assign, rec0.body, run_yield q1 hargs, ?_, by rw [mjmp_isNone]; simp [VRel], ?_, ?_⟩
        · cases out with
          | done => exact h5.trans (.one (stepR_round_end rfl rfl hend))
          | ret => obtain ⟨k1, h5⟩ := h5; exact h5.trans (.one (stepR_round_ret rfl rfl hend))
          | exit id => obtain ⟨k1, h6, h5⟩ := h5; exact h5.trans (.one (stepR_round_exit rfl rfl h6 hend))
        · refine h2.turn hr1 hL hk1 trivial _ hbel hsz hother fun _ => ?_
          refine ⟨{ rec1 with state := if (mjmp out.jmp).isNone then .ready else .done, pending := mjmp out.jmp }, by rw [hw2]; exact World.putObj_heap_same hown.2.1, ?_, jmpRel_mjmp _, t4, t5, t6, t7, t8⟩
          rw [mjmp_isNone]
          split <;> rfl
        · exact h3.trans (Ext.turn (n := H.length) hr1 hL hsz hother) (Nat.le_refl _)
      · cases hx
    · cases hx
  · cases hx
end
end Go.AM
