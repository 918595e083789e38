/- 'simOp': whatever operation without a call: the machine does what the abstract machine does. Condition: EqOk, on the comparison of aggregates. -/
import Derived.Test.YtflekaacffdakaaAmH
import Derived.Laws.Slices
namespace Go.AM
open Go Go.RowKit

def ints (xs : List Int) : Array Value := (xs.map (Value.int .i64)).toArray
/-- '==' and '!=' of aggregates of whole numbers, at the types that eqT names -/
def EqOk (C : Cfg) : Prop := ∀ t n, C.eqT t = some n → ∀ (xs ys : List Int), xs.length = n → ys.length = n → ∀ (neg : Bool) (xo yo : Operand) (w : World),
  (do eqGuard (if neg then .neq else .eql) t xo yo (.agg (ints xs)) (.agg (ints ys)); binOp (if neg then .neq else .eql) t (.agg (ints xs)) (.agg (ints ys)) : Sem Value).run C.P w = .ok (.bool ((xs == ys) != neg)) w

section
variable {C : Cfg} {I : World → Prop} {ρ : Mp} {L0 : Nat} {w0 w : World} {H : Heap} {nt lo : Nat} {a : Fr} {am : Act}

theorem eqInts_spec : ∀ {xs ys : List AV} {r : Bool}, eqInts xs ys = some r → ∃ ms ns : List Int, xs = ms.map (AV.int .i64) ∧ ys = ns.map (AV.int .i64) ∧ r = (ms == ns) ∧ ms.length = ns.length
  | [], [], _, h => by simp [eqInts] at h; subst h; exact ⟨[], [], rfl, rfl, rfl, rfl⟩
  | [], _ :: _, _, h => by simp [eqInts] at h
  | x :: xs, [], _, h => by unfold eqInts at h; split at h <;> simp_all
  | x :: xs, y :: ys, _, h => by
    unfold eqInts at h
    split at h
    · simp_all
    · rename_i m xs' n ys' e1 e2
      cases e1; cases e2
      simp only [Option.map_eq_some_iff] at h
      obtain ⟨r, hr, rfl⟩ := h
      obtain ⟨ms, ns, rfl, rfl, rfl, hl⟩ := eqInts_spec hr
      exact ⟨m :: ms, n :: ns, rfl, rfl, by simp, by simp [hl]⟩
    · cases h
theorem intsRel : ∀ {ms : List Int} {xs : List Value}, VRelL ρ (ms.map (AV.int .i64)) xs → xs = ms.map (Value.int .i64)
  | [], _, h => by simpa [VRelL] using h
  | m :: ms, _, h => by
    simp only [List.map_cons, VRelL, VRel] at h
    obtain ⟨x, xs, rfl, rfl, hr⟩ := h
    rw [intsRel hr]; rfl

theorem bound_spec {x : Option AX} {xo : Option Operand} (hp : prepO nt xo = some x) (hf : FrRel ρ nt a am.tmps) {dflt most m : Nat} (h : boundA a x dflt most = some m) :
    (x = none ∧ xo = none ∧ m = dflt ∧ dflt ≤ most) ∨ ∃ (y : Operand) (k : IntKind) (i : Int), xo = some y ∧ am.eval y = .int k i ∧ 0 ≤ i ∧ i ≤ (most : Int) ∧ m = i.toNat ∧ x.isSome = true := by
  cases xo with
  | none =>
    simp [prepO] at hp; subst hp
    simp only [boundA] at h
    split at h
    · cases h; exact .inl ⟨rfl, rfl, rfl, by assumption⟩
    · cases h
  | some y =>
    simp only [prepO, Option.map_eq_some_iff] at hp
    obtain ⟨ax, hax, rfl⟩ := hp
    have hv := evalX hax hf
    simp only [boundA] at h
    split at h
    · rename_i k i e
      split at h
      · rename_i hc
        cases h
        rw [e] at hv
        simp only [VRel] at hv
        exact .inr ⟨y, k, i, rfl, hv, hc.1, hc.2, rfl, rfl⟩
      · cases h
    · cases h
theorem run_sliceBound' {P : Program} {w : World} {k : IntKind} {i : Int} {y : Nat} {code : BoundsCode} (h0 : 0 ≤ i) (h1 : i ≤ (y : Int)) : (Instr.sliceBound (.int k i) y code).run P w = .ok i.toNat w := by
  simp [Instr.sliceBound, asIntOf, h0, h1]

/-- the bounds of a cut, as the machine finds them -/
theorem sliceBounds_spec (hf : FrRel ρ nt a am.tmps) {len cap : Nat} {lo' hi' mx' : Option Operand} {lx hx mx : Option AX} (hpl : prepO nt lo' = some lx) (hph : prepO nt hi' = some hx) (hpm : prepO nt mx' = some mx)
    {m h l : Nat} (isS : Bool) {mostm mosth : Nat} (hm : boundA a mx mostm mostm = some m) (hmc : mx'.isSome = true → m ≤ cap) (hh : boundA a hx len mosth = some h) (hhc : h ≤ if mx'.isSome then m else cap) (hl : boundA a lx 0 h = some l) (hmh : mx'.isSome = true → hi'.isSome = true) :
    (Instr.sliceBounds isS len cap (lo'.map am.eval) (hi'.map am.eval) (mx'.map am.eval)).run C.P w = .ok (l, h, if mx'.isSome then m else cap) w := by
  unfold Instr.sliceBounds
  rcases bound_spec hpm hf hm with ⟨_, rfl, _, _⟩ | ⟨ym, km, im, rfl, em, hm0, _, hmm, _⟩ <;> rcases bound_spec hph hf hh with ⟨_, rfl, rfl, _⟩ | ⟨yh, kh, ih, rfl, eh, hh0, _, hhh, _⟩ <;>
    rcases bound_spec hpl hf hl with ⟨_, rfl, rfl, _⟩ | ⟨yl, kl, il, rfl, el, hl0, hl1, hll, _⟩
  · simp
  · subst hll; simp [el, run_sliceBound' hl0 hl1]
  · subst hhh
    have : ih ≤ (cap : Int) := by simp at hhc; omega
    simp [eh, run_sliceBound' hh0 this]
  · subst hhh hll
    have : ih ≤ (cap : Int) := by simp at hhc; omega
    simp [eh, run_sliceBound' hh0 this, el, run_sliceBound' hl0 hl1]
  · simp at hmh
  · simp at hmh
  · subst hmm hhh
    have h1 : im ≤ (cap : Int) := by have := hmc rfl; omega
    have h2 : ih ≤ (im.toNat : Int) := by simp at hhc; omega
    simp [em, run_sliceBound' hm0 h1, eh, run_sliceBound' hh0 h2]
  · subst hmm hhh hll
    have h1 : im ≤ (cap : Int) := by have := hmc rfl; omega
    have h2 : ih ≤ (im.toNat : Int) := by simp at hhc; omega
    simp [em, run_sliceBound' hm0 h1, eh, run_sliceBound' hh0 h2, el, run_sliceBound' hl0 hl1]

theorem slice_spec (hf : FrRel ρ nt a am.tmps) {t e : TypeId} {es : Nat} (hu : C.P.underlying t = some (.slice e)) (hes : sizeA C.P e = some es) {xo : Operand} {lo' hi' mx' : Option Operand} {x : AX} {lx hx mx : Option AX}
    (hpx : prepX nt xo = some x) (hpl : prepO nt lo' = some lx) (hph : prepO nt hi' = some hx) (hpm : prepO nt mx' = some mx) (hmh : ¬ ((mx.isSome && hx.isNone) = true)) {v : AV} {H' : Heap} (hv : opA lo (.slice es x lx hx mx) a H = some (v, H')) :
    ∃ vm, (Instr.sliceAt t (am.eval xo) (lo'.map am.eval) (hi'.map am.eval) (mx'.map am.eval)).run C.P w = .ok vm w ∧ VRel ρ v vm ∧ H' = H := by
  have isS : ∀ {y : Option Operand} {z : Option AX}, prepO nt y = some z → y.isSome = z.isSome := fun {y z} e => by
    cases y with
    | none => simp [prepO] at e; subst e; rfl
    | some y => simp only [prepO, Option.map_eq_some_iff] at e; obtain ⟨_, _, rfl⟩ := e; rfl
  have hx0 := evalX hpx hf
  have hmh' : mx'.isSome = true → hi'.isSome = true := fun e => by
    rw [isS hpm] at e
    rw [isS hph]
    cases hx with
    | none => simp [e] at hmh
    | some _ => rfl
  simp only [opA] at hv
  split at hv
  · rename_i n hn
    split at hv
    · rename_i m hm
      split at hv
      · rename_i h hh
        split at hv
        · rename_i l hl
          simp only [Option.map_eq_some_iff] at hv
          obtain ⟨v', hv', e'⟩ := hv
          cases e'
          cases hxv : ev a x <;> rw [hxv] at hv' hx0 hn <;> simp only [sliceA] at hv' <;> try (cases hv'; done)
          case nils =>
            simp only [VRel] at hx0
            have hc : l + h + (if mx.isSome = true then some m else none).getD 0 = 0 := by
              by_cases hc : l + h + (if mx.isSome = true then some m else none).getD 0 = 0
              · exact hc
              · rw [if_neg hc] at hv'; cases hv'
            rw [if_pos hc] at hv'
            cases hv'
            have hn0 : n = 0 := by simp [lenA] at hn; exact hn.symm
            subst hn0
            obtain rfl : l = 0 := by omega
            obtain rfl : h = 0 := by omega
            refine ⟨.slice none 0 0, ?_, by simp [VRel], rfl⟩
            have hm0 : mx'.isSome = true → m ≤ 0 := fun e => by
              rw [isS hpm] at e
              rw [if_pos e] at hc
              simp at hc
              omega
            have := sliceBounds_spec (C := C) (w := w) hf hpl hph hpm true (len := 0) (cap := 0) hm hm0 hh (by simp) hl hmh'
            simp only [Instr.sliceAt, hx0, Sem.run_bind, run_underlying hu, Result.andThen_ok, Instr.slice, this, run_sizeOf' hes, Sem.run_pure]
            by_cases hms : mx'.isSome = true
            · have := hm0 hms; simp [hms]; omega
            · simp [hms]
          case s es' b o n' c =>
            simp only [VRel] at hx0
            obtain ⟨r, o', c', hb, hxe, hnc, hck, ho, hroom⟩ := hx0
            have hn0 : n' = n := by simp [lenA] at hn; exact hn
            subst hn0
            split at hv'
            · cases hv'
            · rename_i hes'
              have hes' : es' = es := by simpa using hes'
              subst hes'
              cases hms : mx'.isSome with
              | true =>
                have hms' := isS hpm
                rw [hms] at hms'
                rw [if_pos hms'.symm] at hv'
                simp only at hv'
                split at hv'
                · rename_i hc
                  obtain ⟨hc1, hc2, hc3⟩ := hc
                  cases hv'
                  have hmc : m ≤ c' := by omega
                  have := sliceBounds_spec (C := C) (w := w) hf hpl hph hpm true (len := n') (cap := c') hm (fun _ => hmc) hh (by rw [hms]; simpa using hc2) hl hmh'
                  refine ⟨.slice (if m = l then some (r.a.add o') else (some (r.a.add o')).map (·.add (l * es'))) (h - l) (m - l), ?_, ?_, rfl⟩
                  · simp only [Instr.sliceAt, hxe, Sem.run_bind, run_underlying hu, Result.andThen_ok, Instr.slice, this, run_sizeOf' hes, Sem.run_pure, hms, if_true]
                  · simp only [VRel]
                    by_cases hml : m = l
                    · refine ⟨r, o', m - l, hb, by simp [hml], by omega, fun k e => by cases e; rfl, fun hne => by omega, fun q hq => ?_⟩
                      have := hroom q hq
                      have h0 : m - l = 0 := by omega
                      rw [h0]; omega
                    · refine ⟨r, o' + l * es', m - l, hb, by simp [hml, Addr.add_add], by omega, fun k e => by cases e; rfl, fun hne => by rw [if_neg hml]; congr 1; exact ho (by omega), fun q hq => ?_⟩
                      have := hroom q hq
                      have h1 : (l + (m - l)) * es' ≤ c' * es' := Nat.mul_le_mul_right _ (by omega)
                      rw [Nat.add_mul] at h1
                      omega
                · cases hv'
              | false =>
                have hms' := isS hpm
                rw [hms] at hms'
                rw [if_neg (by rw [← hms']; simp)] at hv'
                simp only at hv'
                split at hv'
                · rename_i hc
                  obtain ⟨hc1, hc3⟩ := hc
                  cases hv'
                  have hhc : h ≤ c' := by omega
                  have := sliceBounds_spec (C := C) (w := w) hf hpl hph hpm true (len := n') (cap := c') hm (fun e => by rw [hms] at e; cases e) hh (by rw [hms]; simpa using hhc) hl hmh'
                  refine ⟨.slice (if c' = l then some (r.a.add o') else (some (r.a.add o')).map (·.add (l * es'))) (h - l) (c' - l), ?_, ?_, rfl⟩
                  · simp only [Instr.sliceAt, hxe, Sem.run_bind, run_underlying hu, Result.andThen_ok, Instr.slice, this, run_sizeOf' hes, Sem.run_pure, hms, Bool.false_eq_true, if_false]
                  · simp only [VRel]
                    have hcap : ∀ k, c.map (· - l) = some k → c' - l = k := fun k e => by
                      simp only [Option.map_eq_some_iff] at e
                      obtain ⟨k', hk', rfl⟩ := e
                      rw [hck k' hk']
                    by_cases hml : c' = l
                    · refine ⟨r, o', c' - l, hb, by simp [hml], by omega, hcap, fun hne => by omega, fun q hq => ?_⟩
                      have := hroom q hq
                      have h0 : c' - l = 0 := by omega
                      rw [h0]; omega
                    · refine ⟨r, o' + l * es', c' - l, hb, by simp [hml, Addr.add_add], by omega, hcap, fun hne => by congr 1; exact ho (by omega), fun q hq => ?_⟩
                      have := hroom q hq
                      have h1 : (l + (c' - l)) * es' ≤ c' * es' := Nat.mul_le_mul_right _ (by omega)
                      rw [Nat.add_mul] at h1
                      omega
                · cases hv'
        · cases hv
      · cases hv
    · cases hv
  · cases hv
end
end Go.AM
