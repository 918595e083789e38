/- The law TopBirkhoff: for every input it returns true, and its arguments read as they did. No condition. -/
import Derived.Test.YtmmbakggmlfffaaRows
import Derived.Test.YtmmbakggmlfffaaPt1
import Derived.Test.YtmmbakggmlfffaaBo
import Derived.WalkKit
import Derived.ProofKit
import Derived.OpenShut
import Derived.ShutString
import Derived.ChangeOld
import Derived.Below
import Derived.SizedLaws
import Derived.Carry
namespace Go.Proofs.Ytmmbakggmlfffaa.topBirkhoff
open Go.ChangeShapes Go.WideShapes Go.ChangeAt Go.RowKit Go.AM
open Go.ChangeMaps (open_string shut_string)
set_option linter.unusedVariables false
set_option linter.unusedSimpArgs false
theorem own : ownKnob Try.prog.godebug = none := by kernel_rfl
theorem laidOut : laidOutB Try.prog = true := by kernel_rfl
set_option maxRecDepth 100000 in
theorem lifted (os : Os) (started : os.Started) (H : Type) (enc : TypeId × Value → H) :
    ReturnsInHanded {} Try.checked os 3 .any (Rows.topBirkhoffSpec.pre6 enc Try.prog Try.f3 Rows.topBirkhoffRow.domain false) (Rows.topBirkhoffSpec.post enc Try.prog Try.f3 false true false false) := by
  refine returnsInHanded_of_change_sized (C := Try.checked) own started (by kernel_rfl) Try.func3
    (ChangeSpec.witness6 (enc := enc) (C := Try.checked) false ⟨#[], #[.slice none 0 0], []⟩ 8 (by kernel_rfl) (by kernel_rfl) (by kernel_rfl) (by kernel_rfl)) ?_
  intro W base args ds gs before hval0 hW hcnd hsz0 _
  have hsz : (DataW.weightsEach Try.prog (Try.f3.params.toList ++ Rows.topBirkhoffSpec.plain.varTypes Try.prog) (ds ++ gs)).all (· ≤ reachBytes) = true := hsz0
  have hval : ∀ (j : Nat) t v, Try.f3.params[j]? = some t → args[j]? = some v → Value.okWide Try.prog W .any base t v := hval0
  have hW' := hW
  obtain ⟨p, q, hA0, hV, rfl, hfz, hnd⟩ := hW
  have hA : DataW.TrodAll enc Try.prog W 0 (fun _ => true) true Try.f3.params.toList args.toList ds p := hA0
  rw [Try.params3] at hA hval hsz
  obtain ⟨v0, vs0, d0, ds0, p0, q0, hargs, rfl, rfl, h0, r0⟩ := trodAll_cons hA
  obtain ⟨rfl, rfl, rfl⟩ := trodAll_nil r0
  obtain rfl : args = #[v0] := by cases args; simp_all
  obtain ⟨rfl, rfl⟩ := trodVars_none hV
  have F0 := FRel.nil C W
  obtain ⟨b0, len0, cap0, rfl⟩ := okWide_slice Try.underlying22 (hval 0 22 v0 rfl rfl)
  have k0 := h0
  have lt0 : ∀ x ∈ p0, x.block < W.heap.size := by obtain ⟨m, hm⟩ := k0; exact DataW.trod_lt m _ _ _ hm
  obtain ⟨fuel0, hf0⟩ := h0
  obtain ⟨N0, ρ0, av0, x0, F1, le0, rel0, rep0, len0d⟩ := opn_sliceL (C := C) (enc := enc) (α := (List Int)) Try.underlying22 (by kernel_rfl) (opn_slice Try.underlying23 (by kernel_rfl) (opn_int Try.underlying3)) fuel0 _ _ W _ ([] : Heap) hf0 F0
  have sz0 : x0.length * 24 ≤ 140737488351232 := by
    rcases len0d with ⟨_, hx⟩ | ⟨es, sp, hd, hl⟩
    · simp [hx]
    · have hd' : d0 = .slice es sp := hd
      subst hd'
      have z := sized_slice hsz (j := 0) (t := 22) rfl rfl Try.underlying22
      have hb : Try.prog.bytesOf 23 = 24 := by kernel_rfl
      rw [hb, Nat.add_mul] at z
      have hr : reachBytes = 140737488351232 := by decide
      rw [hl]; omega
  obtain ⟨u0, rfl, sl0⟩ := rep0
  clear hA0 hval0 hsz0 hsz
  have hw := Walk.TopBirkhoff (([] : Heap) ++ N0) u0 x0 ((Sl.low sl0).weak fun _ h => h.2) sz0
  have hc := walk_law eOk hw F1 (args := #[.slice b0 len0 cap0]) (by
    have y0 : VRel ρ0 (u0) (.slice b0 len0 cap0) := (by have z := rel0; simpa [Value.cells, VRelL, VRel] using z)
    simp only [VRelL]
    exact ⟨_, _, rfl, y0, (by simp [VRelL])⟩)
  refine hc.mono fun e W' ⟨he, bel⟩ => ?_
  subst he
  exact ⟨_, rfl, _, _, _, [], _, [], hW', trodAll_mk1 (shut_bool Try.underlying4 _), (trodAll_cons_mk (Below.trod laidOut (by kernel_rfl) (of_decide_eq_true (by kernel_rfl)) k0 bel lt0) trodAll_mk0), rfl, bel.frame _, fun h => by cases h⟩
theorem over : Rows.topBirkhoffRow.holds Try.pinned (OpenSpec.ofChange Rows.topBirkhoffSpec) :=
  OpenClaim.holds_of_wide 3 Try.f3 rfl rfl rfl rfl rfl rfl rfl ⟨rfl, rfl, rfl, rfl, rfl⟩ rfl rfl rfl rfl rfl (by kernel_rfl) Try.func3 (by kernel_rfl)
    (of_decide_eq_true (by kernel_rfl)) (by unfold Func.isWrapper; first | (rw [if_pos (by decide +kernel)]; kernel_rfl) | (rw [if_neg (by decide +kernel)]; exact ⟨rfl, rfl⟩))
    (fun os started H enc _ => lifted os started H enc)
theorem proved : Rows.TopBirkhoffSaid := over
#print axioms proved
end Go.Proofs.Ytmmbakggmlfffaa.topBirkhoff
namespace Go.Proofs.Ytmmbakggmlfffaa
/-- The row, under a short name, for the claim. -/
theorem topBirkhoff_holds : Rows.TopBirkhoffSaid := topBirkhoff.proved
end Go.Proofs.Ytmmbakggmlfffaa
