/- The law ArraysAdds: for every input it returns true, and its arguments read as they did. No condition. -/
import Derived.Test.YtalaadcbpjnglaaRows
import Derived.Test.YtalaadcbpjnglaaPt0
import Derived.Test.YtalaadcbpjnglaaBo
import Derived.WalkKit
import Derived.ProofKit
import Derived.OpenShut
import Derived.ShutString
import Derived.ChangeOld
import Derived.Below
import Derived.SizedLaws
import Derived.Carry
namespace Go.Proofs.Ytalaadcbpjnglaa.arraysAdds
open Go.ChangeShapes Go.WideShapes Go.ChangeAt Go.RowKit Go.AM
open Go.ChangeMaps (open_string shut_string)
set_option linter.unusedVariables false
set_option linter.unusedSimpArgs false
theorem own : ownKnob Try.prog.godebug = none := by kernel_rfl
theorem laidOut : laidOutB Try.prog = true := by kernel_rfl
set_option maxRecDepth 100000 in
theorem lifted (os : Os) (started : os.Started) (H : Type) (enc : TypeId × Value → H) :
    ReturnsInHanded {} Try.checked os 9 .any (Rows.arraysAddsSpec.pre6 enc Try.prog Try.f9 Rows.arraysAddsRow.domain false) (Rows.arraysAddsSpec.post enc Try.prog Try.f9 false true false false) := by
  refine returnsInHanded_of_change_sized (C := Try.checked) own started (by kernel_rfl) Try.func9
    (ChangeSpec.witness6 (enc := enc) (C := Try.checked) false ⟨#[], #[.agg #[.int .i64 0, .slice none 0 0], .int .i64 0], []⟩ 8 (by kernel_rfl) (by kernel_rfl) (by kernel_rfl) (by kernel_rfl)) ?_
  intro W base args ds gs before hval0 hW hcnd hsz0 _
  have hsz : (DataW.weightsEach Try.prog (Try.f9.params.toList ++ Rows.arraysAddsSpec.plain.varTypes Try.prog) (ds ++ gs)).all (· ≤ reachBytes) = true := hsz0
  have hval : ∀ (j : Nat) t v, Try.f9.params[j]? = some t → args[j]? = some v → Value.okWide Try.prog W .any base t v := hval0
  have hW' := hW
  obtain ⟨p, q, hA0, hV, rfl, hfz, hnd⟩ := hW
  have hA : DataW.TrodAll enc Try.prog W 0 (fun _ => true) true Try.f9.params.toList args.toList ds p := hA0
  rw [Try.params9] at hA hval hsz
  obtain ⟨v0, vs0, d0, ds0, p0, q0, hargs, rfl, rfl, h0, r0⟩ := trodAll_cons hA
  obtain ⟨v1, vs1, d1, ds1, p1, q1, rfl, rfl, rfl, h1, r1⟩ := trodAll_cons r0
  obtain ⟨rfl, rfl, rfl⟩ := trodAll_nil r1
  obtain rfl : args = #[v0, v1] := by cases args; simp_all
  obtain ⟨rfl, rfl⟩ := trodVars_none hV
  have F0 := FRel.nil C W
  obtain ⟨cs0, rfl, hz0⟩ := okWide_struct Try.underlying31 (hval 0 31 v0 rfl rfl)
  have k0 := h0
  have lt0 : ∀ x ∈ p0, x.block < W.heap.size := by obtain ⟨m, hm⟩ := k0; exact DataW.trod_lt m _ _ _ hm
  obtain ⟨fuel0, hf0⟩ := h0
  obtain ⟨N0, ρ0, av0, x0, F1, le0, rel0, rep0⟩ := ((opn_struct2 Try.underlying31 rfl (by kernel_rfl) (by kernel_rfl) (opn_int Try.underlying3) (opn_slice Try.underlying22 (by kernel_rfl) (opn_slice Try.underlying41 (by kernel_rfl) (opn_int Try.underlying3)))) : Opn C enc Try.prog 31 (Int × (List (List Int)))) fuel0 _ _ W _ ([] : Heap) hf0 F0
  obtain ⟨a1, rfl, rfl, rfl, w1⟩ := open_int Try.underlying3 (hval 1 3 v1 rfl rfl) h1
  clear hA0 hval0 hsz0 hsz
  have hw := Walk.ArraysAdds (([] : Heap) ++ N0) av0 x0 (Rep.mono (Rep.low rep0) (Kp.refl _ _) fun _ h => h.2) a1
  have hc := walk_law eOk hw F1 (args := #[.agg cs0, .int .i64 a1]) (by
    have y0 : VRel ρ0 (.ag av0) (.agg cs0) := (by have z := rel0; simpa [Value.cells, VRelL, VRel] using z)
    have y1 : VRel ρ0 (.i a1) (.int .i64 a1) := (by simp [VRel])
    simp only [VRelL]
    exact ⟨_, _, rfl, y0, ⟨_, _, rfl, y1, (by simp [VRelL])⟩⟩)
  refine hc.mono fun e W' ⟨he, bel⟩ => ?_
  subst he
  exact ⟨_, rfl, _, _, _, [], _, [], hW', trodAll_mk1 (shut_bool Try.underlying4 _), (trodAll_cons_mk (Below.trod laidOut (by kernel_rfl) (of_decide_eq_true (by kernel_rfl)) k0 bel lt0) (trodAll_cons_mk (shut_int Try.underlying3 w1) trodAll_mk0)), rfl, bel.frame _, fun h => by cases h⟩
theorem over : Rows.arraysAddsRow.holds Try.pinned (OpenSpec.ofChange Rows.arraysAddsSpec) :=
  OpenClaim.holds_of_wide 9 Try.f9 rfl rfl rfl rfl rfl rfl rfl ⟨rfl, rfl, rfl, rfl, rfl⟩ rfl rfl rfl rfl rfl (by kernel_rfl) Try.func9 (by kernel_rfl)
    (of_decide_eq_true (by kernel_rfl)) (by unfold Func.isWrapper; first | (rw [if_pos (by decide +kernel)]; kernel_rfl) | (rw [if_neg (by decide +kernel)]; exact ⟨rfl, rfl⟩))
    (fun os started H enc _ => lifted os started H enc)
theorem proved : Rows.ArraysAddsSaid := over
#print axioms proved
end Go.Proofs.Ytalaadcbpjnglaa.arraysAdds
namespace Go.Proofs.Ytalaadcbpjnglaa
/-- The row, under a short name, for the claim. -/
theorem arraysAdds_holds : Rows.ArraysAddsSaid := arraysAdds.proved
end Go.Proofs.Ytalaadcbpjnglaa
