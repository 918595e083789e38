/- The law CountsLed: for every input it returns true, and its arguments read as they did. No condition. -/
import Derived.Test.YtflekaacffdakaaRows
import Derived.Test.YtflekaacffdakaaPt1
import Derived.Test.YtflekaacffdakaaBo
import Derived.WalkKit
import Derived.ProofKit
import Derived.OpenShut
import Derived.ShutString
import Derived.ChangeOld
import Derived.Below
import Derived.SizedLaws
import Derived.Carry
namespace Go.Proofs.Ytflekaacffdakaa.countsLed
open Go.ChangeShapes Go.WideShapes Go.ChangeAt Go.RowKit Go.AM
open Go.ChangeMaps (open_string shut_string)
set_option linter.unusedVariables false
set_option linter.unusedSimpArgs false
theorem own : ownKnob Try.prog.godebug = none := by kernel_rfl
theorem laidOut : laidOutB Try.prog = true := by kernel_rfl
set_option maxRecDepth 100000 in
theorem lifted (os : Os) (started : os.Started) (H : Type) (enc : TypeId × Value → H) :
    ReturnsInHanded {} Try.checked os 18 .any (Rows.countsLedSpec.pre6 enc Try.prog Try.f18 Rows.countsLedRow.domain false) (Rows.countsLedSpec.post enc Try.prog Try.f18 false true false false) := by
  refine returnsInHanded_of_change_sized (C := Try.checked) own started (by kernel_rfl) Try.func18
    (ChangeSpec.witness6 (enc := enc) (C := Try.checked) false ⟨#[], #[.slice none 0 0, .int .i64 0, .int .i64 0, .int .i64 0, .int .i64 0, .int .i64 0, .int .i64 0], []⟩ 8 (by kernel_rfl) (by kernel_rfl) (by kernel_rfl) (by kernel_rfl)) ?_
  intro W base args ds gs before hval0 hW hcnd hsz0 _
  have hsz : (DataW.weightsEach Try.prog (Try.f18.params.toList ++ Rows.countsLedSpec.plain.varTypes Try.prog) (ds ++ gs)).all (· ≤ reachBytes) = true := hsz0
  have hval : ∀ (j : Nat) t v, Try.f18.params[j]? = some t → args[j]? = some v → Value.okWide Try.prog W .any base t v := hval0
  have hW' := hW
  obtain ⟨p, q, hA0, hV, rfl, hfz, hnd⟩ := hW
  have hA : DataW.TrodAll enc Try.prog W 0 (fun _ => true) true Try.f18.params.toList args.toList ds p := hA0
  rw [Try.params18] at hA hval hsz
  obtain ⟨v0, vs0, d0, ds0, p0, q0, hargs, rfl, rfl, h0, r0⟩ := trodAll_cons hA
  obtain ⟨v1, vs1, d1, ds1, p1, q1, rfl, rfl, rfl, h1, r1⟩ := trodAll_cons r0
  obtain ⟨v2, vs2, d2, ds2, p2, q2, rfl, rfl, rfl, h2, r2⟩ := trodAll_cons r1
  obtain ⟨v3, vs3, d3, ds3, p3, q3, rfl, rfl, rfl, h3, r3⟩ := trodAll_cons r2
  obtain ⟨v4, vs4, d4, ds4, p4, q4, rfl, rfl, rfl, h4, r4⟩ := trodAll_cons r3
  obtain ⟨v5, vs5, d5, ds5, p5, q5, rfl, rfl, rfl, h5, r5⟩ := trodAll_cons r4
  obtain ⟨v6, vs6, d6, ds6, p6, q6, rfl, rfl, rfl, h6, r6⟩ := trodAll_cons r5
  obtain ⟨rfl, rfl, rfl⟩ := trodAll_nil r6
  obtain rfl : args = #[v0, v1, v2, v3, v4, v5, v6] := by cases args; simp_all
  obtain ⟨rfl, rfl⟩ := trodVars_none hV
  have F0 := FRel.nil C W
  obtain ⟨b0, len0, cap0, rfl⟩ := okWide_slice Try.underlying22 (hval 0 22 v0 rfl rfl)
  have k0 := h0
  have lt0 : ∀ x ∈ p0, x.block < W.heap.size := by obtain ⟨m, hm⟩ := k0; exact DataW.trod_lt m _ _ _ hm
  obtain ⟨fuel0, hf0⟩ := h0
  obtain ⟨N0, ρ0, av0, x0, F1, le0, rel0, rep0, len0d⟩ := opn_sliceL (C := C) (enc := enc) (α := (List Int)) Try.underlying22 (by kernel_rfl) (opn_slice Try.underlying23 (by kernel_rfl) (opn_int Try.underlying3)) fuel0 _ _ W _ ([] : Heap) hf0 F0
  have sz0 : x0.length * 24 ≤ 140737488351232 := by
    rcases len0d with ⟨_, hx⟩ | ⟨es, sp, hd, hl⟩
    · simp [hx]
    · have hd' : d0 = .slice es sp := hd
      subst hd'
      have z := sized_slice hsz (j := 0) (t := 22) rfl rfl Try.underlying22
      have hb : Try.prog.bytesOf 23 = 24 := by kernel_rfl
      rw [hb, Nat.add_mul] at z
      have hr : reachBytes = 140737488351232 := by decide
      rw [hl]; omega
  obtain ⟨u0, rfl, sl0⟩ := rep0
  obtain ⟨a1, rfl, rfl, rfl, w1⟩ := open_int Try.underlying3 (hval 1 3 v1 rfl rfl) h1
  obtain ⟨a2, rfl, rfl, rfl, w2⟩ := open_int Try.underlying3 (hval 2 3 v2 rfl rfl) h2
  obtain ⟨a3, rfl, rfl, rfl, w3⟩ := open_int Try.underlying3 (hval 3 3 v3 rfl rfl) h3
  obtain ⟨a4, rfl, rfl, rfl, w4⟩ := open_int Try.underlying3 (hval 4 3 v4 rfl rfl) h4
  obtain ⟨a5, rfl, rfl, rfl, w5⟩ := open_int Try.underlying3 (hval 5 3 v5 rfl rfl) h5
  obtain ⟨a6, rfl, rfl, rfl, w6⟩ := open_int Try.underlying3 (hval 6 3 v6 rfl rfl) h6
  clear hA0 hval0 hsz0 hsz
  have hw := Walk.CountsLed (([] : Heap) ++ N0) u0 x0 ((Sl.low sl0).weak fun _ h => h.2) sz0 a1 a2 a3 a4 a5 a6
  have hc := walk_law eOk hw F1 (args := #[.slice b0 len0 cap0, .int .i64 a1, .int .i64 a2, .int .i64 a3, .int .i64 a4, .int .i64 a5, .int .i64 a6]) (by
    have y0 : VRel ρ0 (u0) (.slice b0 len0 cap0) := (by have z := rel0; simpa [Value.cells, VRelL, VRel] using z)
    have y1 : VRel ρ0 (.i a1) (.int .i64 a1) := (by simp [VRel])
    have y2 : VRel ρ0 (.i a2) (.int .i64 a2) := (by simp [VRel])
    have y3 : VRel ρ0 (.i a3) (.int .i64 a3) := (by simp [VRel])
    have y4 : VRel ρ0 (.i a4) (.int .i64 a4) := (by simp [VRel])
    have y5 : VRel ρ0 (.i a5) (.int .i64 a5) := (by simp [VRel])
    have y6 : VRel ρ0 (.i a6) (.int .i64 a6) := (by simp [VRel])
    simp only [VRelL]
    exact ⟨_, _, rfl, y0, ⟨_, _, rfl, y1, ⟨_, _, rfl, y2, ⟨_, _, rfl, y3, ⟨_, _, rfl, y4, ⟨_, _, rfl, y5, ⟨_, _, rfl, y6, (by simp [VRelL])⟩⟩⟩⟩⟩⟩⟩)
  refine hc.mono fun e W' ⟨he, bel⟩ => ?_
  subst he
  exact ⟨_, rfl, _, _, _, [], _, [], hW', trodAll_mk1 (shut_bool Try.underlying4 _), (trodAll_cons_mk (Below.trod laidOut (by kernel_rfl) (of_decide_eq_true (by kernel_rfl)) k0 bel lt0) (trodAll_cons_mk (shut_int Try.underlying3 w1) (trodAll_cons_mk (shut_int Try.underlying3 w2) (trodAll_cons_mk (shut_int Try.underlying3 w3) (trodAll_cons_mk (shut_int Try.underlying3 w4) (trodAll_cons_mk (shut_int Try.underlying3 w5) (trodAll_cons_mk (shut_int Try.underlying3 w6) trodAll_mk0))))))), rfl, bel.frame _, fun h => by cases h⟩
theorem over : Rows.countsLedRow.holds Try.pinned (OpenSpec.ofChange Rows.countsLedSpec) :=
  OpenClaim.holds_of_wide 18 Try.f18 rfl rfl rfl rfl rfl rfl rfl ⟨rfl, rfl, rfl, rfl, rfl⟩ rfl rfl rfl rfl rfl (by kernel_rfl) Try.func18 (by kernel_rfl)
    (of_decide_eq_true (by kernel_rfl)) (by unfold Func.isWrapper; first | (rw [if_pos (by decide +kernel)]; kernel_rfl) | (rw [if_neg (by decide +kernel)]; exact ⟨rfl, rfl⟩))
    (fun os started H enc _ => lifted os started H enc)
theorem proved : Rows.CountsLedSaid := over
#print axioms proved
end Go.Proofs.Ytflekaacffdakaa.countsLed
namespace Go.Proofs.Ytflekaacffdakaa
/-- The row, under a short name, for the claim. -/
theorem countsLed_holds : Rows.CountsLedSaid := countsLed.proved
end Go.Proofs.Ytflekaacffdakaa
