/- **The simulation**: what the abstract machine's evaluator says, the machine does. Conditions as at 'EOk'. -/
import Derived.Test.YtflekaacffdakaaAmX
namespace Go.AM
open Go Go.RowKit
section
variable {C : Cfg} {I : World → Prop} {E : Tab} {ρ : Mp} {L0 lo nt : Nat} {w0 w : World} {H : Heap}

theorem prepC_cases {cm : Code} {c : ACode} (h : prepC C nt cm = some c) :
    (c = .skip ∧ (cm = .skip ∨ ∃ l, cm = .label l)) ∨ (c = .ret ∧ cm = .ret) ∨ (∃ id, c = .exit id ∧ cm = .exit id) ∨
    (∃ id ops l, c = .reg none l ∧ cm = .region id ops false ∧ prepOpers C nt ops ops.toList = some l) ∨
    (∃ id ops l ck, c = .reg (some ck) l ∧ cm = .region id ops true ∧ prepOpers C nt ops ops.toList = some l ∧ drawOk C.kd ops.toList l ck = true) ∨
    (∃ x y x' y', c = .seq x y ∧ cm = .seq x' y' ∧ prepC C nt x' = some x ∧ prepC C nt y' = some y) ∨
    (∃ e x y e' x' y', c = .cond e x y ∧ cm = .cond e' x' y' ∧ prepX nt e' = some e ∧ prepC C nt x' = some x ∧ prepC C nt y' = some y) ∨
    (∃ id x x', c = .block id x ∧ cm = .block id x' ∧ prepC C nt x' = some x) ∨
    (∃ x x', c = .loop x ∧ cm = .loop x' ∧ prepC C nt x' = some x) ∨
    (∃ x ps asg body x' ps' asg' body', c = .rangeF nt x ps asg body ∧ cm = .rangeFunc x' ps' asg' body' ∧ ps = ps'.toList ∧ (∀ p ∈ ps, p < nt) ∧ prepX nt x' = some x ∧ prepC C nt asg' = some asg ∧ prepC C nt body' = some body) := by
  cases cm <;> simp only [prepC] at h <;> try (cases h; done)
  case skip => cases h; exact .inl ⟨rfl, .inl rfl⟩
  case label l => cases h; exact .inl ⟨rfl, .inr ⟨l, rfl⟩⟩
  case ret => cases h; exact .inr (.inl ⟨rfl, rfl⟩)
  case exit id => cases h; exact .inr (.inr (.inl ⟨id, rfl, rfl⟩))
  case region id ops draw =>
    obtain ⟨l, hl, h⟩ := Option.bind_eq_some_iff.1 h
    split at h
    · rename_i hd
      split at h
      · rename_i hok
        cases h
        subst hd
        exact .inr (.inr (.inr (.inr (.inl ⟨id, ops, l, _, rfl, rfl, hl, hok⟩))))
      · cases h
    · rename_i hd
      cases h
      have : draw = false := by simpa using hd
      subst this
      exact .inr (.inr (.inr (.inl ⟨id, ops, l, rfl, rfl, hl⟩)))
  case seq x y =>
    obtain ⟨x', hx, h⟩ := Option.bind_eq_some_iff.1 h
    obtain ⟨y', hy, rfl⟩ := Option.map_eq_some_iff.1 h
    exact .inr (.inr (.inr (.inr (.inr (.inl ⟨x', y', x, y, rfl, rfl, hx, hy⟩)))))
  case cond e x y =>
    obtain ⟨e', he, h⟩ := Option.bind_eq_some_iff.1 h
    obtain ⟨x', hx, h⟩ := Option.bind_eq_some_iff.1 h
    obtain ⟨y', hy, rfl⟩ := Option.map_eq_some_iff.1 h
    exact .inr (.inr (.inr (.inr (.inr (.inr (.inl ⟨e', x', y', e, x, y, rfl, rfl, he, hx, hy⟩))))))
  case block id x =>
    obtain ⟨x', hx, rfl⟩ := Option.map_eq_some_iff.1 h
    exact .inr (.inr (.inr (.inr (.inr (.inr (.inr (.inl ⟨id, x', x, rfl, rfl, hx⟩)))))))
  case loop x =>
    obtain ⟨x', hx, rfl⟩ := Option.map_eq_some_iff.1 h
    exact .inr (.inr (.inr (.inr (.inr (.inr (.inr (.inr (.inl ⟨x', x, rfl, rfl, hx⟩))))))))
  case rangeFunc f ps asg body =>
    split at h
    · rename_i hps
      obtain ⟨x', hx, h⟩ := Option.bind_eq_some_iff.1 h
      obtain ⟨y', hy, h⟩ := Option.bind_eq_some_iff.1 h
      obtain ⟨z', hz, rfl⟩ := Option.map_eq_some_iff.1 h
      exact .inr (.inr (.inr (.inr (.inr (.inr (.inr (.inr (.inr ⟨x', ps.toList, y', z', f, ps, asg, body, rfl, rfl, rfl, fun p hp => by simpa using List.all_eq_true.1 hps p hp, hx, hy, hz⟩))))))))
    · cases h

/-- what is to be shown of a state -/
def To (C : Cfg) (I : World → Prop) (ρ : Mp) (L0 : Nat) (w0 : World) (H : Heap) (w : World) (nt base : Nat) (b : Frame) (am : Act) (km : List Item) (cs : List Frame) (out : Out) (a' : Fr) (H' : Heap) : Prop :=
  ∃ ρ' am' w', FrRel ρ' nt a' am'.tmps ∧ HRel C I ρ' L0 w0 H' w' ∧ Ext ρ L0 H.length w ρ' w' ∧ Marks ρ' L0 base w' am'.defers ∧ Ends C.P b am km cs w am' w' out

theorem sim_range (hE : EOk C I E) {n : Nat} (hS : Sim C I (R E n)) {rd : Option Nat} {x : AX} {ps : List Nat} {asg body : ACode} {k : List AI} {a : Fr} {out : Out} {a' : Fr} {H' : Heap} (hx : stepR E (R E n) lo rd (.code (.rangeF nt x ps asg body) :: k) a H = some (out, a', H'))
    {b : Frame} {am : Act} {xm : Operand} {psm : Array Tmp} {asgm bodym : Code} {km : List Item} {cs : List Frame} {base : Nat} (hps : ps = psm.toList) (hpl : ∀ p ∈ ps, p < nt) (hpx : prepX nt xm = some x) (hpa : prepC C nt asgm = some asg) (hpb : prepC C nt bodym = some body)
    (hk : ItemsRel C nt k km) (hrd : RdRel ρ rd b.roundOf) (hf : FrRel ρ nt a am.tmps) (h : HRel C I ρ L0 w0 H w) (hlo : L0 ≤ lo) (hbase : base ≤ w.heap.size) (hbase0 : w0.heap.size ≤ base) (hM : Marks ρ L0 base w am.defers) :
    To C I ρ L0 w0 H w nt base b am (.code (.rangeFunc xm psm asgm bodym) :: km) cs out a' H' := by
  simp only [stepR] at hx
  split at hx
  · rename_i hmay
    split at hx
    · rename_i g us caps ex
      obtain ⟨⟨v, H1⟩, hcall, hx⟩ := Option.bind_eq_some_iff.1 hx
      -- the loop's record is laid
      have lay : ∃ (lb : Nat) (mark : List Deferred) (W : World) (ρ1 : Mp), (Instr.enterLoop b.fn am.tmps psm asgm bodym b.roundOf).run C.P w = .ok (lb, mark) W ∧ ρ1 H.length = some ⟨⟨lb, 0, none⟩, none⟩ ∧
          HRel C I ρ1 L0 w0 (H ++ [.loop .ready none nt a ps asg body]) W ∧ Ext ρ L0 H.length w ρ1 W ∧ Marks ρ1 L0 base W (mark ++ am.defers) := by
        have push : ∀ (wA : World) (rec : Loop), HRel C I ρ L0 w0 H wA → rec.state = .ready → rec.pending = none → rec.tmps = am.tmps → rec.params = psm → rec.assign = asgm → rec.body = bodym →
            HRel C I (ρ.add H.length ⟨⟨wA.heap.size, 0, none⟩, none⟩) L0 w0 (H ++ [.loop .ready none nt a ps asg body]) (wA.alloc (.loop rec)) ∧ Ext ρ L0 H.length wA (ρ.add H.length ⟨⟨wA.heap.size, 0, none⟩, none⟩) (wA.alloc (.loop rec)) := fun wA rec hA e1 e2 e3 e4 e5 e6 => by
          refine HRel.push hA (.loop rec) (.loop .ready none nt a ps asg body) none 0 fun _ => ⟨rec, World.alloc_heap_new wA _, e1, e2, ?_, by rw [e4, hps], hpl, by rw [e5]; exact hpa, by rw [e6]; exact hpb⟩
          rw [e3]
          exact hf.mono (Mp.le_add ρ _ (hA.none_of_ge (Nat.le_refl _)))
        cases rd with
        | none =>
          simp only [RdRel] at hrd
          obtain ⟨hA, hEA⟩ := HRel.alloc (n := H.length) h (.deferred (some []))
          obtain ⟨hB, hEB⟩ := push (w.alloc (.deferred (some []))) { state := .ready, pending := none, fn := b.fn, tmps := am.tmps, params := psm, assign := asgm, body := bodym, defers := w.heap.size } hA rfl rfl rfl rfl rfl rfl
          have hEx := hEA.trans hEB (Nat.le_refl _)
          refine ⟨w.heap.size + 1, [markOf w.heap.size], _, _, by rw [hrd]; exact run_enterLoop_outer .., by rw [Mp.add_same]; simp, hB, hEx, ?_⟩
          obtain ⟨Ds, q1, q2, q3⟩ := hM
          refine ⟨w.heap.size :: Ds, by simp [q1], List.nodup_cons.2 ⟨fun hm => ?_, q2⟩, fun D hD => ?_⟩
          · have := (q3 _ hm).lt; omega
          · rcases List.mem_cons.1 hD with rfl | hD
            · refine ⟨hbase, (Below.heap_alloc _ _ _ (by simp)).trans (World.alloc_heap_new w _), fun bb r e hL hq => ?_⟩
              by_cases e0 : bb = H.length
              · subst e0; rw [Mp.add_same] at e; cases e; simp at hq
              · rw [Mp.add_ne ρ _ e0] at e
                have := (h.own bb r e hL).2.1; omega
            · exact (q3 D hD).ext hEx
        | some l0 =>
          obtain ⟨r0, hr0, hro⟩ := hrd
          simp only [mayLoop, Bool.and_eq_true, decide_eq_true_eq] at hmay
          obtain ⟨hl0, hm⟩ := hmay
          split at hm
          · rename_i st pd nt0 fr0 ps0 as0 bo0 hk0
            obtain ⟨rec0, p1, _⟩ := h.blk l0 r0 _ hr0 hk0 (by omega)
            obtain ⟨hB, hEB⟩ := push w { state := .ready, pending := none, fn := b.fn, tmps := am.tmps, params := psm, assign := asgm, body := bodym, defers := rec0.defers } h rfl rfl rfl rfl rfl rfl
            exact ⟨w.heap.size, [], _, _, by rw [hro]; exact run_enterLoop_inner p1 .., by rw [Mp.add_same], hB, hEB, hM.ext hEB⟩
          · cases hm
      obtain ⟨lb, mark, W, ρ1, henter, hρ1, hH1, hE1, hM1⟩ := lay
      -- the function is called with yield
      have hxv := evalX hpx hf
      rw [ex] at hxv
      simp only [VRel] at hxv
      obtain ⟨um, cm, hxe, hus, hcm⟩ := hxv
      have hyl : VRel ρ1 (.yl H.length) (.func (.yield lb) #[] #[]) := by simp only [VRel]; exact ⟨_, hρ1, rfl⟩
      have hargs : VRelL ρ1 (us ++ .yl H.length :: caps) (um ++ #[Value.func (.yield lb) #[] #[]] ++ cm).toList := by
        have h1 := (hus.mono hE1.le).append (VRelL.append (vs := [.yl H.length]) (xs := [.func (.yield lb) #[] #[]]) (by simp only [VRelL]; exact ⟨_, _, rfl, hyl, rfl⟩) (hcm.mono hE1.le))
        simpa using h1
      obtain ⟨hen, hcs⟩ := callF_sim hE hS hcall hH1 hargs hlo
      have hres : (resolve am.eval (rangeCall xm lb) 0).run C.P W = .ok { target := .fn (.func g) cm, args := um ++ #[.func (.yield lb) #[] #[]] } W := by
        simp only [resolve, hxe, Deferred.ofValue, Sem.run_pure]
        simp [Act.eval]
      have hinv : (invoke (.fn (.func g) cm) (um ++ #[.func (.yield lb) #[] #[]])).run C.P W = .ok (.enter g (um ++ #[.func (.yield lb) #[] #[]] ++ cm)) W := by
        simp only [invoke]; exact hen _ W
      have s1 := stepR_rangeFunc (P := C.P) (b := b) (a := am) (k := km) (cs := cs) henter hres hinv
      obtain ⟨ρ2, xv, w3, ⟨fr, s2, _, hleave⟩, _, hH2, hE2⟩ := hcs (b.atR { am with defers := mark ++ am.defers } (.inRangeFunc lb :: km) :: cs)
      have s3 := step_leave_returned (c := b.atR { am with defers := mark ++ am.defers } (.inRangeFunc lb :: km)) (cs := cs) hleave
      rw [finish_atR_inRangeFunc] at s3
      have hr2 := hE2.le H.length _ hρ1
      have hL : L0 ≤ H.length := h.lt
      have hlen1 := callF_len (R_len E n) hcall
      simp at hlen1
      have hM2 := hM1.ext hE2
      -- the loop ends
      have fin : ∀ {st : LSt} {pd : Option Jmp} {nt1 : Nat} {fr1 : Fr} {ps1 : List Nat} {as1 bo1 : ACode} {k1 : List AI} {jm : Option Code}, H1[H.length]? = some (.loop st pd nt1 fr1 ps1 as1 bo1) → (st = .busy → False) → JmpRel pd jm →
          R E n lo rd k1 a (H1.set H.length .dead) = some (out, a', H') → ItemsRel C nt k1 ((jm.map Item.code).toList ++ km) → To C I ρ L0 w0 H w nt base b am (.code (.rangeFunc xm psm asgm bodym) :: km) cs out a' H' := fun {st pd nt1 fr1 ps1 as1 bo1 k1 jm} hkk hst hj hrec hit => by
        obtain ⟨rec1, p1, p2, p3, _⟩ := hH2.blk H.length _ _ hr2 hkk hL
        have hpend : rec1.pending = jm := by
          cases pd with
          | none => simp only [JmpRel] at p3 hj; rw [p3, hj]
          | some j => cases j <;> simp only [JmpRel] at p3 hj <;> rw [p3, hj]
        have hnb : rec1.state ≠ .busy := by
          cases st with
          | ready => simp only [StRel] at p2; rw [p2]; simp
          | busy => exact absurd rfl hst
          | done => simp only [StRel] at p2; rw [p2]; simp
        have hend := run_endLoop (P := C.P) p1 hnb
        obtain ⟨w4, hw4⟩ : ∃ w4, w4 = w3.putObj lb (.loop { rec1 with state := .exhausted }) := ⟨_, rfl⟩
        have hend' : (Instr.endLoop lb).run C.P w3 = .ok jm w4 := by rw [hw4, ← hpend]; exact hend
        have hother : ∀ pb, pb ≠ lb → pb < w3.heap.size → w4.heap[pb]? = w3.heap[pb]? := fun pb hp _ => by rw [hw4]; exact World.putObj_heap_other hp
        have hsz : w4.heap.size = w3.heap.size := by rw [hw4]; simp
        have hown := hH2.own H.length _ hr2 hL
        have hbel : Below w0.heap.size w0 w4 := hH2.below.trans (by rw [hw4]; exact ⟨rfl, rfl, rfl, by simp, fun q hq => World.putObj_heap_other (by have := hown.1; simp only at this; omega)⟩)
        have hH4 := hH2.turn hr2 hL hkk trivial .dead hbel hsz hother trivial
        have hE4 : Ext ρ2 L0 H.length w3 ρ2 w4 := Ext.turn hr2 hL hsz hother
        have hEall := (hE1.trans hE2 (by simp)).trans hE4 (Nat.le_refl _)
        obtain ⟨ρ5, am5, w5, q1, q2, q3, q4, q5⟩ := hS lo rd k1 a (H1.set H.length .dead) out a' H' hrec ρ2 L0 w0 w4 b { am with defers := mark ++ am.defers } ((jm.map Item.code).toList ++ km) cs nt base hit
          (hrd.mono hEall.le) (hf.mono hEall.le) hH4 hlo (Nat.le_trans hbase hEall.size) hbase0 (hM2.ext hE4)
        have steps := Steps.head s1 (s2.trans (.head s3 (.one (stepR_endRangeFunc hend'))))
        exact ⟨ρ5, am5, w5, q1, q2, hEall.trans q3 (by simp; omega), q4, q5.of_steps steps⟩
      split at hx
      · cases hx
      · rename_i st nt1 fr1 ps1 as1 bo1 hnb hkk
        exact fin (jm := none) hkk hnb rfl hx hk
      · rename_i st j nt1 fr1 ps1 as1 bo1 hnb hkk
        have hst : st = .busy → False := hnb
        cases j with
        | ret => exact fin (jm := some .ret) hkk hst rfl hx ⟨_, _, rfl, rfl, hk⟩
        | exit id => exact fin (jm := some (.exit id)) hkk hst rfl hx ⟨_, _, rfl, rfl, hk⟩
      · cases hx
    · cases hx
  · cases hx

theorem sim (hE : EOk C I E) : ∀ n, Sim C I (R E n)
  | 0 => fun lo rd k a H out a' H' h => by cases h
  | n + 1 => by
    have hS := sim hE n
    have hR := R_len E n
    intro lo rd k a H out a' H' hx ρ L0 w0 w b am km cs nt base hk hrd hf h hlo hbase hbase0 hM
    have go : ∀ {k1 : List AI} {a1 : Fr} {H1 : Heap} {am1 : Act} {km1 : List Item} {w1 : World} {ρ1 : Mp}, R E n lo rd k1 a1 H1 = some (out, a', H') → Steps C.P (lone (b.atR am km) cs w) (lone (b.atR am1 km1) cs w1) → ItemsRel C nt k1 km1 → FrRel ρ1 nt a1 am1.tmps → HRel C I ρ1 L0 w0 H1 w1 → Ext ρ L0 H.length w ρ1 w1 → H.length ≤ H1.length → Marks ρ1 L0 base w1 am1.defers →
        ∃ ρ' am' w', FrRel ρ' nt a' am'.tmps ∧ HRel C I ρ' L0 w0 H' w' ∧ Ext ρ L0 H.length w ρ' w' ∧ Marks ρ' L0 base w' am'.defers ∧ Ends C.P b am km cs w am' w' out := fun {k1 a1 H1 am1 km1 w1 ρ1} hrec hs hit hf1 hH1 hE1 hle hM1 => by
      obtain ⟨ρ2, am2, w2, q1, q2, q3, q4, q5⟩ := hS lo rd k1 a1 H1 out a' H' hrec ρ1 L0 w0 w1 b am1 km1 cs nt base hit (hrd.mono hE1.le) hf1 hH1 hlo (Nat.le_trans hbase hE1.size) hbase0 hM1
      exact ⟨ρ2, am2, w2, q1, q2, hE1.trans q3 hle, q4, q5.of_steps hs⟩
    have go0 : ∀ {k1 : List AI} {km1 : List Item}, R E n lo rd k1 a H = some (out, a', H') → step C.P (lone (b.atR am km) cs w) = .next (lone (b.atR am km1) cs w) → ItemsRel C nt k1 km1 →
        ∃ ρ' am' w', FrRel ρ' nt a' am'.tmps ∧ HRel C I ρ' L0 w0 H' w' ∧ Ext ρ L0 H.length w ρ' w' ∧ Marks ρ' L0 base w' am'.defers ∧ Ends C.P b am km cs w am' w' out := fun hrec hs hit =>
      go hrec (.one hs) hit hf h (Ext.refl ..) (Nat.le_refl _) hM
    have stop : ∀ {o : Out}, out = o → a' = a → H' = H → Ends C.P b am km cs w am w o → ∃ ρ' am' w', FrRel ρ' nt a' am'.tmps ∧ HRel C I ρ' L0 w0 H' w' ∧ Ext ρ L0 H.length w ρ' w' ∧ Marks ρ' L0 base w' am'.defers ∧ Ends C.P b am km cs w am' w' out := fun e1 e2 e3 he => by
      subst e1 e2 e3
      exact ⟨ρ, am, w, hf, h, Ext.refl .., hM, he⟩
    change stepR E (R E n) lo rd k a H = some (out, a', H') at hx
    match k, hk with
    | [], hk =>
      simp only [ItemsRel] at hk
      subst hk
      simp only [stepR] at hx
      cases hx
      exact stop rfl rfl rfl (.refl ..)
    | .blk id :: k, hk =>
      obtain ⟨im, km', rfl, h1, h2⟩ := hk
      cases im <;> simp only [ItemRel] at h1
      simp only [stepR] at hx
      exact go0 hx stepR_inBlock h2
    | .lp c :: k, hk =>
      obtain ⟨im, km', rfl, h1, h2⟩ := hk
      cases im <;> simp only [ItemRel] at h1
      simp only [stepR] at hx
      exact go0 hx stepR_inLoop ⟨_, _, rfl, h1, _, _, rfl, h1, h2⟩
    | .begin :: k, hk =>
      obtain ⟨im, km', rfl, h1, h2⟩ := hk
      cases im <;> simp only [ItemRel] at h1
      simp only [stepR] at hx
      split at hx
      · rename_i l
        split at hx
        · rename_i p nt1 fr ps asg body hkl
          split at hx
          · rename_i hle
            obtain ⟨r, hr, hro⟩ := hrd
            have hL : L0 ≤ l := by omega
            obtain ⟨rec1, p1, p2, p3⟩ := h.blk l r _ hr hkl hL
            have hbr := run_beginRound (P := C.P) p1 (by simpa [StRel] using p2)
            obtain ⟨w4, hw4⟩ : ∃ w4, w4 = w.putObj r.a.block (.loop { rec1 with state := .busy }) := ⟨_, rfl⟩
            have hbr' : (Instr.beginRound r.a.block).run C.P w = .ok () w4 := by rw [hw4]; exact hbr
            have hother : ∀ pb, pb ≠ r.a.block → pb < w.heap.size → w4.heap[pb]? = w.heap[pb]? := fun pb hp _ => by rw [hw4]; exact World.putObj_heap_other hp
            have hsz : w4.heap.size = w.heap.size := by rw [hw4]; simp
            have hown := h.own l r hr hL
            have hbel : Below w0.heap.size w0 w4 := h.below.trans (by rw [hw4]; exact ⟨rfl, rfl, rfl, by simp, fun q hq => World.putObj_heap_other (by have := hown.1; omega)⟩)
            have hH4 := h.turn hr hL hkl trivial (.loop .busy p nt1 fr ps asg body) hbel hsz hother fun _ => ⟨{ rec1 with state := .busy }, by rw [hw4]; exact World.putObj_heap_same hown.2.1, rfl, p3⟩
            have hE4 : Ext ρ L0 H.length w ρ w4 := Ext.turn hr hL hsz hother
            exact go hx (.one (stepR_beginRound hro hbr')) h2 hf hH4 hE4 (by simp) (hM.ext hE4)
          · cases hx
        · cases hx
      · cases hx
    | .code c :: k, hk =>
      obtain ⟨im, km', rfl, h1, h2⟩ := hk
      cases im <;> simp only [ItemRel] at h1
      rename_i cm
      rcases prepC_cases h1 with ⟨rfl, hc⟩ | ⟨rfl, rfl⟩ | ⟨id, rfl, rfl⟩ | ⟨id, ops, l, rfl, rfl, hl⟩ | ⟨id, ops, l, ck, rfl, rfl, hl, hok⟩ | ⟨x, y, x', y', rfl, rfl, hpx, hpy⟩ | ⟨e, x, y, e', x', y', rfl, rfl, hpe, hpx, hpy⟩ | ⟨id, x, x', rfl, rfl, hpx⟩ | ⟨x, x', rfl, rfl, hpx⟩ | ⟨x, ps, asg, body, x', ps', asg', body', rfl, rfl, hps, hpl, hpx, hpa, hpb⟩
      · simp only [stepR] at hx
        rcases hc with rfl | ⟨l, rfl⟩
        · exact go0 hx stepR_skip h2
        · exact go0 hx stepR_label h2
      · simp only [stepR] at hx
        cases hx
        exact stop rfl rfl rfl ⟨km', .refl ..⟩
      · simp only [stepR] at hx
        split at hx
        · rename_i k' he
          obtain ⟨km2, q1, q2⟩ := exit_some h2 he
          exact go0 hx (stepR_exit q1) q2
        · rename_i he
          cases hx
          exact stop rfl rfl rfl ⟨km', exit_none h2 he, .refl ..⟩
      · simp only [stepR] at hx
        obtain ⟨⟨a1, H1⟩, hops, hx⟩ := Option.bind_eq_some_iff.1 hx
        obtain ⟨ρ1, am1, w1, s, q1, q2, q3, q4⟩ := ops_sim hE hS hR hlo b km' cs (opsAt_all hl) hops h hf
        exact go hx (.head stepR_region (s.trans (.one stepR_region_end))) h2 q1 q2 q3 (runOps_len hR hops) (by rw [q4]; exact hM.ext q3)
      · simp only [stepR] at hx
        obtain ⟨⟨a1, H1⟩, hops, hx⟩ := Option.bind_eq_some_iff.1 hx
        obtain ⟨ρ1, am1, w1, s, q1, q2, q3, q4⟩ := draw_sim hE hS hR hlo (id := id) hl hok hops h hf b km' cs
        exact go hx s h2 q1 q2 q3 (runD_len hR hops) (by rw [q4]; exact hM.ext q3)
      · simp only [stepR] at hx
        exact go0 hx stepR_seq ⟨_, _, rfl, hpx, _, _, rfl, hpy, h2⟩
      · simp only [stepR] at hx
        have hev := evalX hpe hf
        split at hx
        · rename_i he
          rw [he] at hev
          exact go0 hx (stepR_cond (t := true) hev.bool) ⟨_, _, rfl, hpx, h2⟩
        · rename_i he
          rw [he] at hev
          exact go0 hx (stepR_cond (t := false) hev.bool) ⟨_, _, rfl, hpy, h2⟩
        · cases hx
      · simp only [stepR] at hx
        exact go0 hx stepR_block ⟨_, _, rfl, hpx, _, _, rfl, rfl, h2⟩
      · simp only [stepR] at hx
        exact go0 hx stepR_loop ⟨_, _, rfl, hpx, _, _, rfl, hpx, h2⟩
      · exact sim_range hE hS hx hps hpl hpx hpa hpb h2 hrd hf h hlo hbase hbase0 hM

/-- **a function's call** -/
theorem calls_of {rec : Rec} (hE : EOk C I E) {n : Nat} (hrec : rec = R E n) {lo f : Nat} {vs : List AV} {v : AV} {H' : Heap} (hx : callF E rec lo f vs H = some (v, H')) (h : HRel C I ρ L0 w0 H w) {args : Array Value} (ha : VRelL ρ vs args.toList) (hlo : L0 ≤ lo) :
    Calls C.P f args w fun e w' => ∃ ρ' x, e = .returned x ∧ VRel ρ' v x ∧ HRel C I ρ' L0 w0 H' w' ∧ Ext ρ L0 H.length w ρ' w' := by
  subst hrec
  intro cs
  obtain ⟨ρ', x, w', ⟨fr, s, hfn, hl⟩, h1, h2, h3⟩ := (callF_sim hE (sim hE n) hx h ha hlo).2 cs
  exact ⟨.returned x, w', fr, ⟨ρ', x, rfl, h1, h2, h3⟩, s, hfn, hl⟩
end
end Go.AM
