/- Operations whose order is drawn: the whole region. Conditions as at 'EOk'. -/
import Derived.Test.YtflekaacffdakaaAmW
namespace Go.AM
open Go Go.RowKit

theorem filter_lt {α : Type} {p q : α → Bool} {x : α} (hpq : ∀ y, q y = true → p y = true) (hp : p x = true) (hq : q x = false) : ∀ {l : List α}, x ∈ l → (l.filter q).length < (l.filter p).length
  | [], h => by cases h
  | y :: l, h => by
    have hle : ∀ l : List α, (l.filter q).length ≤ (l.filter p).length := fun l => by
      induction l with
      | nil => simp
      | cons z l ih =>
        simp only [List.filter_cons]
        cases e : q z with
        | true => rw [hpq z e]; simp; omega
        | false => cases p z <;> simp <;> omega
    simp only [List.filter_cons]
    rcases List.mem_cons.1 h with rfl | h
    · have := hle l
      rw [hp, hq]; simp; omega
    · have := filter_lt hpq hp hq h
      cases e : q y with
      | true => rw [hpq y e]; simp; omega
      | false => cases p y <;> simp <;> omega

section
variable {C : Cfg} {I : World → Prop} {E : Tab} {rec : Rec} {ρ : Mp} {L0 lo nt : Nat} {w0 wS w : World} {H : Heap} {a : Fr} {l : List AOper} {ops : Array Oper} {A : Nat → Fr} {Hs : Nat → Heap} {V : Nat → AV} {ρs : Nat → Mp} {ck : List (Nat × Nat)}

theorem Ctx.begin (K : Ctx C I E rec ρ L0 lo nt w0 wS H a l ops A Hs V ρs ck) {am : Act} (hf : FrRel ρ nt a am.tmps) : DS C I ρ L0 nt w0 wS H a l ops Hs V ρs (fun _ => False) 0 ρ a am wS := by
  have h := K.start
  have hlen := K.len 0 l.length (by omega) (Nat.le_refl _)
  rw [K.h0] at hlen
  have hget : ∀ b, b < H.length → (HD Hs l.length 0)[b]? = H[b]? := fun b hb => by
    have := own_le K.len (j := 0) (by omega) (by rw [K.h0]; exact hb)
    rw [HD_get K.len (by omega) (by omega), show max (own Hs b l.length) 0 = 0 by omega, K.h0]
  have hget' : ∀ b r k, ρ b = some r → (HD Hs l.length 0)[b]? = some k → H[b]? = some k := fun b r k e hk => by rwa [hget b (h.dom b r e)] at hk
  refine ⟨fun _ q => q.elim, fun _ q => q.elim, by omega, fun _ _ q => q.elim, fun q => absurd rfl q, fun _ _ _ q => q.elim, fun _ _ => rfl, hf, ?_, Ext.refl .., fun b r e => ⟨?_, .inl (h.dom b r e)⟩, fun _ _ q => q.elim⟩
  · exact ⟨h.below, h.inv, by rw [HD_len]; have := h.lt; omega, fun b r e => by rw [HD_len]; have := h.dom b r e; omega, h.own,
      fun b b' r r' k k' e e' hL hL' hk hk' => h.apart b b' r r' k k' e e' hL hL' (hget' b r k e hk) (hget' b' r' k' e' hk'), fun b r k e hk => h.blk b r k e (hget' b r k e hk)⟩
  · exact ⟨r, K.S.le' (j := 0) (by omega) (Nat.le_refl _) b r (by rw [K.S.zero]; exact e)⟩

theorem DS.final {D : Nat → Prop} {c : Nat} {ρD : Mp} {aD : Fr} {am : Act} (Q : DS C I ρ L0 nt w0 wS H a l ops Hs V ρs D c ρD aD am w) (K : Ctx C I E rec ρ L0 lo nt w0 wS H a l ops A Hs V ρs ck) (hall : ∀ i, i < l.length → D i) :
    FrRel ρD nt (A l.length) am.tmps ∧ HRel C I ρD L0 w0 (Hs l.length) w ∧ Ext ρ L0 H.length wS ρD w := by
  have h1 : aD = A l.length := funext fun t => by
    rcases K.aval l.length (Nat.le_refl _) t with ⟨i, o, q1, q2, q3, q4⟩ | ⟨q1, q2⟩
    · rw [q4]; exact Q.frV i o t (hall i q1) q2 q3
    · rw [q2]; exact Q.frO t fun i o hi ho => q1 i o (Q.lt i hi) ho
  have h2 : HD Hs l.length c = Hs l.length := by
    refine List.ext_getElem? fun b => ?_
    by_cases hb : b < (Hs l.length).length
    · obtain ⟨hs1, hs2, _⟩ := own_spec K.len hb
      have hcle := Q.cle
      rw [HD_get K.len Q.cle hb]
      refine (K.still (j := max (own Hs b l.length) c) (k := l.length) (by omega) (Nat.le_refl _) (fun i x q1 q2 hx hw => ?_) ?_).symm
      · have := Q.cW i x (hall i q2) hx hw; omega
      · exact Nat.lt_of_lt_of_le hs2 (K.len _ _ (Nat.le_max_left ..) (by omega))
    · rw [List.getElem?_eq_none (by rw [HD_len]; omega), List.getElem?_eq_none (by omega)]
  have h3 := Q.fr
  have h4 := Q.hp
  rw [h1] at h3
  rw [h2] at h4
  exact ⟨h3, h4, Q.ext⟩

/-- what is listed -/
def Dn (ops : Array Oper) (listed : Array Bool) (i : Nat) : Prop := i < ops.size ∧ listed.getD i false = true

theorem Ctx.go (K : Ctx C I E rec ρ L0 lo nt w0 wS H a l ops A Hs V ρs ck) (hsz : l.length = ops.size) (he : edgesOk 0 ops.toList = true) (b : Frame) (km : List Item) (cs : List Frame) (d0 : List Deferred) :
    ∀ (fuel t : Nat) (listed : Array Bool) (D : Nat → Prop) (c : Nat) (ρD : Mp) (aD : Fr) (am : Act) (w : World), listed.size = ops.size → (∀ i, D i ↔ Dn ops listed i) → ((List.range ops.size).filter fun i => !listed.getD i true).length ≤ fuel → am.defers = d0 →
      DS C I ρ L0 nt w0 wS H a l ops Hs V ρs D c ρD aD am w →
      ∃ ρ' am' w', Steps C.P (lone (b.atR am (.inRegion ops (Region.linearise.go .any ops fuel t listed []) :: km)) cs w) (lone (b.atR am' (.inRegion ops [] :: km)) cs w') ∧ am'.defers = d0 ∧
        FrRel ρ' nt (A l.length) am'.tmps ∧ HRel C I ρ' L0 w0 (Hs l.length) w' ∧ Ext ρ L0 H.length wS ρ' w' := by
  intro fuel
  have isOn : ∀ (listed : Array Bool) (i : Nat), listed.size = ops.size → i < ops.size → (listed.getD i false = true ↔ ¬ listed.getD i true = false) := fun listed i h1 h2 => by
    have hlt : i < listed.size := by omega
    simp [Array.getD, hlt]
  have done : ∀ (listed : Array Bool) (D : Nat → Prop) (c : Nat) (ρD : Mp) (aD : Fr) (am : Act) (w : World), listed.size = ops.size → (∀ i, D i ↔ Dn ops listed i) → (∀ i, i < ops.size → ¬ listed.getD i true = false) → am.defers = d0 →
      DS C I ρ L0 nt w0 wS H a l ops Hs V ρs D c ρD aD am w → ∃ ρ' am' w', Steps C.P (lone (b.atR am (.inRegion ops [] :: km)) cs w) (lone (b.atR am' (.inRegion ops [] :: km)) cs w') ∧ am'.defers = d0 ∧
        FrRel ρ' nt (A l.length) am'.tmps ∧ HRel C I ρ' L0 w0 (Hs l.length) w' ∧ Ext ρ L0 H.length wS ρ' w' := fun listed D c ρD aD am w hl hD hall hd Q => by
    obtain ⟨h1, h2, h3⟩ := Q.final K fun i hi => (hD i).2 ⟨by omega, (isOn listed i hl (by omega)).2 (hall i (by omega))⟩
    exact ⟨ρD, am, w, .refl .., hd, h1, h2, h3⟩
  induction fuel with
  | zero =>
    intro t listed D c ρD aD am w hl hD hc hd Q
    refine done listed D c ρD aD am w hl hD (fun i hi q => ?_) hd Q
    have : i ∈ (List.range ops.size).filter fun i => !listed.getD i true := by simp only [List.mem_filter, List.mem_range, q]; exact ⟨hi, rfl⟩
    have hnil : (List.range ops.size).filter (fun i => !listed.getD i true) = [] := List.length_eq_zero_iff.1 (by omega)
    rw [hnil] at this
    cases this
  | succ fuel ih =>
    intro t listed D c ρD aD am w hl hD hc hd Q
    simp only [Region.linearise.go]
    change ∃ ρ' am' w', Steps C.P (lone (b.atR am (.inRegion ops (match (Region.ready .any ops listed)[t % (Region.ready .any ops listed).length]? with
      | some i => Region.linearise.go .any ops fuel (t / (Region.ready .any ops listed).length) (listed.setIfInBounds i true) [i]
      | none => [].reverse) :: km)) cs w) _ ∧ _
    cases hi : (Region.ready .any ops listed)[t % (Region.ready .any ops listed).length]? with
    | none =>
      have hnil : Region.ready .any ops listed = [] := by
        cases hr : Region.ready .any ops listed with
        | nil => rfl
        | cons x xs =>
          rw [hr] at hi
          have hlt : t % (x :: xs).length < (x :: xs).length := Nat.mod_lt _ (by simp)
          rw [List.getElem?_eq_getElem hlt] at hi
          cases hi
      refine done listed D c ρD aD am w hl hD ?_ hd Q
      intro i
      induction i using Nat.strongRecOn with
      | ind i ihi =>
        intro hi' q
        have : i ∈ Region.ready .any ops listed := by
          simp only [Region.ready, List.mem_filter, List.mem_range, q, Bool.not_false, Bool.true_and]
          refine ⟨hi', ?_⟩
          rw [Array.getElem?_eq_getElem hi', Option.map_some, Option.getD_some, Array.all_eq_true']
          intro e hem
          cases hb : Region.binds .any e with
          | false => rfl
          | true =>
            have hmem : e.on ∈ edges ops[i] := by
              simp only [edges, List.mem_map, List.mem_filter]
              exact ⟨e, ⟨by simpa using hem, hb⟩, rfl⟩
            have hlt := edgesOk_spec he i ops[i] (by simp [hi']) e.on hmem
            have := ihi e.on (by omega) (by omega)
            simp [(isOn listed e.on hl (by omega)).2 this]
        rw [hnil] at this
        cases this
    | some j =>
      simp only []
      rw [linearise_go_acc, List.reverse_singleton, List.singleton_append]
      have hj := List.mem_of_getElem? hi
      simp only [Region.ready, List.mem_filter, List.mem_range, Bool.and_eq_true, Bool.not_eq_true'] at hj
      obtain ⟨hjs, hj1, hj2⟩ := hj
      rw [Array.getElem?_eq_getElem hjs, Option.map_some, Option.getD_some, Array.all_eq_true'] at hj2
      have hjo : l[j]? = some (l[j]'(by omega)) := by simp
      have hjD : ¬ D j := fun q => (isOn listed j hl hjs).1 ((hD j).1 q).2 hj1
      have hedge : ∀ e ∈ edges ops[j], D e := fun e hem => by
        have hlt := edgesOk_spec he j ops[j] (by simp [hjs]) e hem
        simp only [edges, List.mem_map, List.mem_filter] at hem
        obtain ⟨e', ⟨q1, q2⟩, rfl⟩ := hem
        have := hj2 e' (by simpa using q1)
        rw [q2] at this
        exact (hD e'.on).2 ⟨by omega, by simpa using this⟩
      have hup : ∀ i, Ahead ops.toList j i → D i := fun i hah => by
        obtain ⟨e, hem, h⟩ := ahead_spec he (o := ops[j]) (by simp [hjs]) hah
        rcases h with rfl | h
        · exact hedge e hem
        · exact Q.down e (hedge e hem) i h
      have step : ∃ c' ρ' aD' am' w', Steps C.P (lone (b.atR am (.inRegion ops (j :: Region.linearise.go .any ops fuel (t / (Region.ready .any ops listed).length) (listed.setIfInBounds j true) []) :: km)) cs w) (lone (b.atR am' (.inRegion ops (Region.linearise.go .any ops fuel (t / (Region.ready .any ops listed).length) (listed.setIfInBounds j true) []) :: km)) cs w') ∧ am'.defers = am.defers ∧ DS C I ρ L0 nt w0 wS H a l ops Hs V ρs (fun i => D i ∨ i = j) c' ρ' aD' am' w' := by
        by_cases hw : l[j].op.cl C.kd = .write
        · exact K.writeStep Q hjo hjD hup hw b km cs _
        · exact K.readStep Q hjo hjD hup hw b km cs _
      obtain ⟨c', ρ', aD', am', w', s, hdf, Q'⟩ := step
      have hlj : j < listed.size := by omega
      have hset : ∀ i (x : Bool), (listed.setIfInBounds j true).getD i x = if i = j then true else listed.getD i x := fun i x => by
        simp only [Array.getD_eq_getD_getElem?, Array.getElem?_setIfInBounds]
        by_cases e : j = i
        · subst e; simp [hlj]
        · rw [if_neg e, if_neg (Ne.symm e)]
      obtain ⟨ρ2, am2, w2, s2, hd2, hrest⟩ := ih (t / (Region.ready .any ops listed).length) (listed.setIfInBounds j true) (fun i => D i ∨ i = j) c' ρ' aD' am' w' (by simpa using hl) (fun i => by
          unfold Dn
          rw [hset, hD i]
          unfold Dn
          by_cases e : i = j
          · subst e; simp [hjs]
          · simp [e]) (by
          have := filter_lt (p := fun i => !listed.getD i true) (q := fun i => !(listed.setIfInBounds j true).getD i true) (x := j) (l := List.range ops.size) (fun y hy => by
              simp only [hset] at hy ⊢
              split at hy
              · simp at hy
              · exact hy) (by simp only [hj1]; rfl) (by simp only [hset]; simp) (by simpa using hjs)
          omega) (hdf.trans hd) Q'
      exact ⟨ρ2, am2, w2, s.trans s2, hd2, hrest⟩

/-- **a region whose order is drawn** -/
theorem draw_sim (hE : EOk C I E) (hS : Sim C I rec) (hR : LenR rec) (hlo : L0 ≤ lo) {id : Nat} (hp : prepOpers C nt ops ops.toList = some l) (hok : drawOk C.kd ops.toList l ck = true) {a' : Fr} {H' : Heap} (hx : runD E rec lo ck l a H = some (a', H'))
    (h : HRel C I ρ L0 w0 H w) {am : Act} (hf : FrRel ρ nt a am.tmps) (b : Frame) (km : List Item) (cs : List Frame) :
    ∃ ρ' am' w', Steps C.P (lone (b.atR am (.code (.region id ops true) :: km)) cs w) (lone (b.atR am' km) cs w') ∧ FrRel ρ' nt a' am'.tmps ∧ HRel C I ρ' L0 w0 H' w' ∧ Ext ρ L0 H.length w ρ' w' ∧ am'.defers = am.defers := by
  unfold runD at hx
  obtain ⟨tr, htr, hx⟩ := Option.bind_eq_some_iff.1 hx
  split at hx
  · rename_i hck
    have hlen : ∀ {os : List Oper} {l : List AOper}, prepOpers C nt ops os = some l → l.length = os.length := fun {os} => by
      induction os with
      | nil => intro l h; simp [prepOpers] at h; subst h; rfl
      | cons o os ih =>
        intro l h
        simp only [prepOpers] at h
        obtain ⟨x, _, h⟩ := Option.bind_eq_some_iff.1 h
        obtain ⟨xs, hxs, rfl⟩ := Option.map_eq_some_iff.1 h
        simp [ih hxs]
    have hl := hlen hp
    have hsz : l.length = ops.size := by simpa using hl
    obtain ⟨A, Hs, V, T, hget⟩ := tr_of htr
    have hw1 : HRel C I ρ L0 w0 H { w with drawn := w.drawn + 1 } := h.congr rfl rfl rfl rfl
    have hat := opsAt_all hp
    rw [← hsz] at hat
    obtain ⟨ρs, S⟩ := seqs_of hE hS hR T hlo hat hw1 hf
    have getOp : ∀ (l' : List AOper) (k m : Nat), OpsAt C nt ops (List.range' k m) l' → ∀ (j : Nat) (o : AOper), l'[j]? = some o → ∃ om, ops[k + j]? = some om ∧ prepOper C nt ops om = some o := by
      intro l'
      induction l' with
      | nil => intro k m _ j o ho; simp at ho
      | cons x xs ih =>
        intro k m hq j o ho
        cases m with
        | zero => simp [OpsAt] at hq
        | succ m =>
          simp only [List.range'_succ, OpsAt] at hq
          obtain ⟨om, o', l'', e, h1, h2, h3⟩ := hq
          cases e
          cases j with
          | zero => simp at ho; subst ho; exact ⟨om, h1, h2⟩
          | succ j => simp at ho; obtain ⟨om', h4, h5⟩ := ih (k + 1) m h3 j o ho; exact ⟨om', by rw [show k + (j + 1) = k + 1 + j by omega]; exact h4, h5⟩
    have K : Ctx C I E rec ρ L0 lo nt w0 { w with drawn := w.drawn + 1 } H a l ops A Hs V ρs ck := by
      refine ⟨hE, hS, hR, T, hlo, fun j o ho => ?_, S, hw1, fun i j x y hij hx hy => pair_spec hok hl hij hx hy, fun j i hm o n x ho hop bb off hx hb => ?_⟩
      · obtain ⟨om, q1, q2⟩ := getOp l 0 l.length (by rw [← List.range_eq_range']; exact hat) j o ho
        exact ⟨om, by simpa using q1, q2⟩
      · have hjl := (List.getElem?_eq_some_iff.1 ho).1
        have hc := List.all_eq_true.1 hck (j, i) hm
        obtain ⟨dst, op, g⟩ := o
        simp only at hop
        subst hop
        simp only [chk1, ho] at hc
        rw [hget j (by omega)] at hc
        cases e1 : tr[i]? with
        | none => rw [e1] at hc; simp at hc
        | some s1 => cases e2 : tr[i + 1]? with
          | none => rw [e1, e2] at hc; simp at hc
          | some s2 =>
            have htl := (runTr_spec htr).1
            have hi2 := (List.getElem?_eq_some_iff.1 e2).1
            rw [hget i (by omega)] at e1
            rw [hget (i + 1) (by omega)] at e2
            cases e1; cases e2
            rw [hget i (by omega), hget (i + 1) (by omega)] at hc
            simp only [hx, Bool.or_eq_true, decide_eq_true_eq] at hc
            rcases hc with hc | hc
            · omega
            · cases n with
              | none => simp only [ldX]; rw [sameO_eq hc]
              | some n => simp only [ldX]; exact sameLO_eq hc
    have heq : a' = A l.length ∧ H' = Hs l.length := by
      rw [hget l.length (Nat.le_refl _)] at hx
      cases hx; exact ⟨rfl, rfl⟩
    obtain ⟨rfl, rfl⟩ := heq
    have he : edgesOk 0 ops.toList = true := by unfold drawOk at hok; rw [Bool.and_eq_true] at hok; exact hok.1
    obtain ⟨ρ', am', w', s, hd, q1, q2, q3⟩ := K.go hsz he b km cs am.defers ops.size (w.tape w.drawn (.order b.fn id)) (Array.replicate ops.size false) (fun _ => False) 0 ρ a am _ (by simp)
      (fun i => ⟨fun q => q.elim, fun q => by
        have h2 := q.2
        rw [Array.getD_eq_getD_getElem?, Array.getElem?_replicate, if_pos q.1] at h2
        cases h2⟩) (by
        refine Nat.le_trans (List.length_filter_le _ _) (by simp)) rfl (K.begin hf)
    refine ⟨ρ', am', w', .head stepR_region_draw ?_, q1, q2, ⟨q3.le, q3.fresh, q3.size, q3.keep⟩, hd⟩
    rw [hE.mixed]
    simp only [Region.schedule, Bool.true_or, if_true, Region.linearise]
    exact s.trans (.one stepR_region_end)
  · cases hx
end
end Go.AM
