/- The law ArraysChanges: for every input it returns true, and its arguments read as they did. No condition. -/
import Derived.Test.YtalaadcbpjnglaaRows
import Derived.Test.YtalaadcbpjnglaaPt0
import Derived.Test.YtalaadcbpjnglaaBo
import Derived.WalkKit
import Derived.ProofKit
import Derived.OpenShut
import Derived.ShutString
import Derived.ChangeOld
import Derived.Below
import Derived.SizedLaws
import Derived.Carry
namespace Go.Proofs.Ytalaadcbpjnglaa.arraysChanges
open Go.ChangeShapes Go.WideShapes Go.ChangeAt Go.RowKit Go.AM
open Go.ChangeMaps (open_string shut_string)
set_option linter.unusedVariables false
set_option linter.unusedSimpArgs false
theorem own : ownKnob Try.prog.godebug = none := by kernel_rfl
theorem laidOut : laidOutB Try.prog = true := by kernel_rfl
set_option maxRecDepth 100000 in
theorem lifted (os : Os) (started : os.Started) (H : Type) (enc : TypeId × Value → H) :
    ReturnsInHanded {} Try.checked os 5 .any (Rows.arraysChangesSpec.pre6 enc Try.prog Try.f5 Rows.arraysChangesRow.domain false) (Rows.arraysChangesSpec.post enc Try.prog Try.f5 false true false false) := by
  refine returnsInHanded_of_change_sized (C := Try.checked) own started (by kernel_rfl) Try.func5
    (ChangeSpec.witness6 (enc := enc) (C := Try.checked) false ⟨#[], #[.agg #[.int .i64 0, .slice none 0 0], .agg #[.int .i64 0, .slice none 0 0], .int .i64 0, .slice none 0 0], []⟩ 8 (by kernel_rfl) (by kernel_rfl) (by kernel_rfl) (by kernel_rfl)) ?_
  intro W base args ds gs before hval0 hW hcnd hsz0 _
  have hsz : (DataW.weightsEach Try.prog (Try.f5.params.toList ++ Rows.arraysChangesSpec.plain.varTypes Try.prog) (ds ++ gs)).all (· ≤ reachBytes) = true := hsz0
  have hval : ∀ (j : Nat) t v, Try.f5.params[j]? = some t → args[j]? = some v → Value.okWide Try.prog W .any base t v := hval0
  have hW' := hW
  obtain ⟨p, q, hA0, hV, rfl, hfz, hnd⟩ := hW
  have hA : DataW.TrodAll enc Try.prog W 0 (fun _ => true) true Try.f5.params.toList args.toList ds p := hA0
  rw [Try.params5] at hA hval hsz
  obtain ⟨v0, vs0, d0, ds0, p0, q0, hargs, rfl, rfl, h0, r0⟩ := trodAll_cons hA
  obtain ⟨v1, vs1, d1, ds1, p1, q1, rfl, rfl, rfl, h1, r1⟩ := trodAll_cons r0
  obtain ⟨v2, vs2, d2, ds2, p2, q2, rfl, rfl, rfl, h2, r2⟩ := trodAll_cons r1
  obtain ⟨v3, vs3, d3, ds3, p3, q3, rfl, rfl, rfl, h3, r3⟩ := trodAll_cons r2
  obtain ⟨rfl, rfl, rfl⟩ := trodAll_nil r3
  obtain rfl : args = #[v0, v1, v2, v3] := by cases args; simp_all
  obtain ⟨rfl, rfl⟩ := trodVars_none hV
  have F0 := FRel.nil C W
  obtain ⟨cs0, rfl, hz0⟩ := okWide_struct Try.underlying31 (hval 0 31 v0 rfl rfl)
  have k0 := h0
  have lt0 : ∀ x ∈ p0, x.block < W.heap.size := by obtain ⟨m, hm⟩ := k0; exact DataW.trod_lt m _ _ _ hm
  obtain ⟨fuel0, hf0⟩ := h0
  obtain ⟨N0, ρ0, av0, x0, F1, le0, rel0, rep0⟩ := ((opn_struct2 Try.underlying31 rfl (by kernel_rfl) (by kernel_rfl) (opn_int Try.underlying3) (opn_slice Try.underlying22 (by kernel_rfl) (opn_slice Try.underlying41 (by kernel_rfl) (opn_int Try.underlying3)))) : Opn C enc Try.prog 31 (Int × (List (List Int)))) fuel0 _ _ W _ ([] : Heap) hf0 F0
  obtain ⟨cs1, rfl, hz1⟩ := okWide_struct Try.underlying31 (hval 1 31 v1 rfl rfl)
  have k1 := h1
  have lt1 : ∀ x ∈ p1, x.block < W.heap.size := by obtain ⟨m, hm⟩ := k1; exact DataW.trod_lt m _ _ _ hm
  obtain ⟨fuel1, hf1⟩ := h1
  obtain ⟨N1, ρ1, av1, x1, F2, le1, rel1, rep1⟩ := ((opn_struct2 Try.underlying31 rfl (by kernel_rfl) (by kernel_rfl) (opn_int Try.underlying3) (opn_slice Try.underlying22 (by kernel_rfl) (opn_slice Try.underlying41 (by kernel_rfl) (opn_int Try.underlying3)))) : Opn C enc Try.prog 31 (Int × (List (List Int)))) fuel1 _ _ W _ (([] : Heap) ++ N0) hf1 F1
  obtain ⟨a2, rfl, rfl, rfl, w2⟩ := open_int Try.underlying3 (hval 2 3 v2 rfl rfl) h2
  obtain ⟨b3, len3, cap3, rfl⟩ := okWide_slice Try.underlying41 (hval 3 41 v3 rfl rfl)
  have k3 := h3
  have lt3 : ∀ x ∈ p3, x.block < W.heap.size := by obtain ⟨m, hm⟩ := k3; exact DataW.trod_lt m _ _ _ hm
  obtain ⟨fuel3, hf3⟩ := h3
  obtain ⟨N3, ρ3, av3, x3, F3, le3, rel3, rep3, len3d⟩ := opn_sliceL (C := C) (enc := enc) (α := Int) Try.underlying41 (by kernel_rfl) (opn_int Try.underlying3) fuel3 _ _ W _ ((([] : Heap) ++ N0) ++ N1) hf3 F2
  have sz3 : x3.length * 8 ≤ 140737488351232 := by
    rcases len3d with ⟨_, hx⟩ | ⟨es, sp, hd, hl⟩
    · simp [hx]
    · have hd' : d3 = .slice es sp := hd
      subst hd'
      have z := sized_slice hsz (j := 3) (t := 41) rfl rfl Try.underlying41
      have hb : Try.prog.bytesOf 3 = 8 := by kernel_rfl
      rw [hb, Nat.add_mul] at z
      have hr : reachBytes = 140737488351232 := by decide
      rw [hl]; omega
  obtain ⟨u3, rfl, sl3⟩ := rep3
  clear hA0 hval0 hsz0 hsz
  have hw := Walk.ArraysChanges (((([] : Heap) ++ N0) ++ N1) ++ N3) av0 x0 (Rep.mono (Rep.low (Rep.mono (Rep.mono rep0 (Kp.app _ _ N1) fun _ h => h) (Kp.app _ _ N3) fun _ h => h)) (Kp.refl _ _) fun _ h => h.2) av1 x1 (Rep.mono (Rep.low (Rep.mono rep1 (Kp.app _ _ N3) fun _ h => h)) (Kp.refl _ _) fun _ h => h.2) a2 u3 x3 ((Sl.low sl3).weak fun _ h => h.2) sz3
  have hc := walk_law eOk hw F3 (args := #[.agg cs0, .agg cs1, .int .i64 a2, .slice b3 len3 cap3]) (by
    have y0 : VRel ρ3 (.ag av0) (.agg cs0) := (by have z := (VRelL.mono (Mp.le_trans le1 le3) _ _ rel0); simpa [Value.cells, VRelL, VRel] using z)
    have y1 : VRel ρ3 (.ag av1) (.agg cs1) := (by have z := (VRelL.mono le3 _ _ rel1); simpa [Value.cells, VRelL, VRel] using z)
    have y2 : VRel ρ3 (.i a2) (.int .i64 a2) := (by simp [VRel])
    have y3 : VRel ρ3 (u3) (.slice b3 len3 cap3) := (by have z := rel3; simpa [Value.cells, VRelL, VRel] using z)
    simp only [VRelL]
    exact ⟨_, _, rfl, y0, ⟨_, _, rfl, y1, ⟨_, _, rfl, y2, ⟨_, _, rfl, y3, (by simp [VRelL])⟩⟩⟩⟩)
  refine hc.mono fun e W' ⟨he, bel⟩ => ?_
  subst he
  exact ⟨_, rfl, _, _, _, [], _, [], hW', trodAll_mk1 (shut_bool Try.underlying4 _), (trodAll_cons_mk (Below.trod laidOut (by kernel_rfl) (of_decide_eq_true (by kernel_rfl)) k0 bel lt0) (trodAll_cons_mk (Below.trod laidOut (by kernel_rfl) (of_decide_eq_true (by kernel_rfl)) k1 bel lt1) (trodAll_cons_mk (shut_int Try.underlying3 w2) (trodAll_cons_mk (Below.trod laidOut (by kernel_rfl) (of_decide_eq_true (by kernel_rfl)) k3 bel lt3) trodAll_mk0)))), rfl, bel.frame _, fun h => by cases h⟩
theorem over : Rows.arraysChangesRow.holds Try.pinned (OpenSpec.ofChange Rows.arraysChangesSpec) :=
  OpenClaim.holds_of_wide 5 Try.f5 rfl rfl rfl rfl rfl rfl rfl ⟨rfl, rfl, rfl, rfl, rfl⟩ rfl rfl rfl rfl rfl (by kernel_rfl) Try.func5 (by kernel_rfl)
    (of_decide_eq_true (by kernel_rfl)) (by unfold Func.isWrapper; first | (rw [if_pos (by decide +kernel)]; kernel_rfl) | (rw [if_neg (by decide +kernel)]; exact ⟨rfl, rfl⟩))
    (fun os started H enc _ => lifted os started H enc)
theorem proved : Rows.ArraysChangesSaid := over
#print axioms proved
end Go.Proofs.Ytalaadcbpjnglaa.arraysChanges
namespace Go.Proofs.Ytalaadcbpjnglaa
/-- The row, under a short name, for the claim. -/
theorem arraysChanges_holds : Rows.ArraysChangesSaid := arraysChanges.proved
end Go.Proofs.Ytalaadcbpjnglaa
