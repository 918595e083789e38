/- The law SquaresTurned: for every input it returns true, and its arguments read as they did. No condition. -/
import Derived.Test.YtjjndoigkhabdaaDoorRows
import Derived.Test.YtjjndoigkhabdaaDoorCards
import Derived.Test.YtjjndoigkhabdaaDoorTie
import Derived.Test.YtjjndoigkhabdaaDoorPt1
import Derived.Test.YtjjndoigkhabdaaDoorBo
import Derived.WalkKit
import Derived.ProofKit
import Derived.OpenShut
import Derived.ShutString
import Derived.ChangeOld
import Derived.Below
import Derived.SizedLaws
import Derived.Carry
import Derived.LaidMore
import Derived.Stop.Joined
import Derived.SevenTiedAt
namespace Go.Proofs.YtjjndoigkhabdaaDoor.squaresTurned
open Go.ChangeShapes Go.WideShapes Go.ChangeAt Go.RowKit Go.AM
open Go.ChangeMaps (open_string shut_string)
set_option linter.unusedVariables false
set_option linter.unusedSimpArgs false
theorem own : ownKnob Tryd.prog.godebug = none := by kernel_rfl
theorem laidOut : laidOutB Tryd.prog = true := by kernel_rfl
set_option maxRecDepth 100000 in
theorem lifted (os : Os) (started : os.Started) (H : Type) (enc : TypeId × Value → H) :
    ReturnsInHanded {} Tryd.checked os 16 .any (fun w args => (Rows.squaresTurnedSpec.pre enc Tryd.prog Tryd.f16 [] false w args ∧ laidMetH Tryd.prog laid2 w) ∧ sizedMet enc Tryd.prog Tryd.f16 (OpenSpec.ofChange Rows.squaresTurnedSpec) false w args) (Rows.squaresTurnedSpec.post enc Tryd.prog Tryd.f16 false true false false) := by
  refine returnsInHanded_of_change_and (C := Tryd.checked) (X := fun w _ => laidMetH Tryd.prog laid2 w) (fun _ _ _ hh h => h.of_heap hh) own started (by kernel_rfl) Tryd.func16
    (ChangeSpec.witness_shaped (enc := enc) (C := Tryd.checked) (os := os) (X := fun w _ => laidMetH Tryd.prog laid2 w) false (World.doorLaid Tryd.prog 400 os) #[.agg #[.slice none 0 0, .slice none 0 0]] 8 rfl (World.shaped_of_RefB (by kernel_rfl) (by kernel_rfl)) (by kernel_rfl) (by kernel_rfl) (by kernel_rfl) (door_met os _)) ?_
  intro W base args ds gs before hval0 hW hcnd hsz0 hL _
  have hsz : (DataW.weightsEach Tryd.prog (Tryd.f16.params.toList ++ Rows.squaresTurnedSpec.plain.varTypes Tryd.prog) (ds ++ gs)).all (· ≤ reachBytes) = true := hsz0
  have hval : ∀ (j : Nat) t v, Tryd.f16.params[j]? = some t → args[j]? = some v → Value.okWide Tryd.prog W .any base t v := hval0
  have hW' := hW
  obtain ⟨p, q, hA0, hV, rfl, hfz, hnd⟩ := hW
  have hA : DataW.TrodAll enc Tryd.prog W 0 (fun _ => true) true Tryd.f16.params.toList args.toList ds p := hA0
  rw [Tryd.params16] at hA hval hsz
  obtain ⟨v0, vs0, d0, ds0, p0, q0, hargs, rfl, rfl, h0, r0⟩ := trodAll_cons hA
  obtain ⟨rfl, rfl, rfl⟩ := trodAll_nil r0
  obtain rfl : args = #[v0] := by cases args; simp_all
  obtain ⟨rfl, rfl⟩ := trodVars_none hV
  have F0 := FRel.nil C W
  obtain ⟨cs0, rfl, hz0⟩ := okWide_struct Tryd.underlying44 (hval 0 44 v0 rfl rfl)
  have k0 := h0
  have lt0 : ∀ x ∈ p0, x.block < W.heap.size := by obtain ⟨m, hm⟩ := k0; exact DataW.trod_lt m _ _ _ hm
  obtain ⟨fuel0, hf0⟩ := h0
  obtain ⟨N0, ρ0, av0, x0, F1, le0, rel0, rep0⟩ := ((opn_struct2 Tryd.underlying44 rfl (by kernel_rfl) (by kernel_rfl) (opn_slice Tryd.underlying38 (by kernel_rfl) (opn_slice Tryd.underlying22 (by kernel_rfl) (opn_int Tryd.underlying3))) (opn_slice Tryd.underlying38 (by kernel_rfl) (opn_slice Tryd.underlying22 (by kernel_rfl) (opn_int Tryd.underlying3)))) : Opn C enc Tryd.prog 44 ((List (List Int)) × (List (List Int)))) fuel0 _ _ W _ ([] : Heap) hf0 F0
  clear hA0 hval0 hsz0 hsz
  have hw := Walk.SquaresTurned (([] : Heap) ++ N0) av0 x0 (Rep.mono (Rep.low rep0) (Kp.refl _ _) fun _ h => h.2)
  have hc := walk_lawI hw F1 (tzI_of_laid hL) (args := #[.agg cs0]) (by
    have y0 : VRel ρ0 (.ag av0) (.agg cs0) := (by have z := rel0; simpa [Value.cells, VRelL, VRel] using z)
    simp only [VRelL]
    exact ⟨_, _, rfl, y0, (by simp [VRelL])⟩)
  refine hc.mono fun e W' ⟨he, bel⟩ => ?_
  subst he
  exact ⟨_, rfl, _, _, _, [], _, [], hW', trodAll_mk1 (shut_bool Tryd.underlying4 _), (trodAll_cons_mk (Below.trod laidOut (by kernel_rfl) (of_decide_eq_true (by kernel_rfl)) k0 bel lt0) trodAll_mk0), rfl, bel.frame _, fun h => by cases h⟩
theorem over : Rows.squaresTurnedRow.holds Tryd.pinned (OpenSpec.ofChange Rows.squaresTurnedSpec) :=
  OpenClaim.holds_of_wide 16 Tryd.f16 rfl rfl rfl rfl rfl rfl rfl ⟨rfl, rfl, rfl, rfl, rfl⟩ rfl rfl rfl rfl rfl (by kernel_rfl) Tryd.func16 (by kernel_rfl)
    (of_decide_eq_true (by kernel_rfl)) (by unfold Func.isWrapper; first | (rw [if_pos (by decide +kernel)]; kernel_rfl) | (rw [if_neg (by decide +kernel)]; exact ⟨rfl, rfl⟩))
    (fun os started H enc _ => lifted os started H enc)
theorem proved : Rows.SquaresTurnedSaid := over
#print axioms proved
end Go.Proofs.YtjjndoigkhabdaaDoor.squaresTurned
namespace Go.Proofs.YtjjndoigkhabdaaDoor
/-- The tied card: the row over the library's tables, tied to the program's text. -/
theorem squaresTurned_holds : Rows.SquaresTurnedCardSaid :=
  Claim7.holds_tied_plain_at .later [] [.data, .data] true (true, "71a58341570105bb2a9844eacc0bd7dee58fdb13059c256f233653c8ee82a1fb") false
    squaresTurned.proved (fun _ h => by cases h) (by kernel_rfl) (fun _ h => by cases h) squaresTurned_row_tie rfl ⟨rfl, rfl⟩ (by kernel_rfl) rfl
    (fun f fn hf hfn => by
      obtain rfl : f = 16 := Option.some.inj ((show Tryd.prog.funcNamed "congou/congoulaw07.SquaresTurned" = some 16 by kernel_rfl).symm.trans hf) |>.symm
      obtain rfl : fn = Tryd.f16 := (Option.some.inj (Tryd.func16.symm.trans hfn)).symm
      exact ⟨by kernel_rfl, fun j t ht => by
        rw [Tryd.params16] at ht
        have hm : t ∈ [44] := by simpa using Array.mem_of_getElem? ht
        have hall : ([44].all fun u => !Tryd.prog.wantsStandIn u) = true := by kernel_rfl
        exact (show Tryd.prog.wantsStandIn t = false by simpa using List.all_eq_true.1 hall t hm)⟩)
    (by kernel_rfl)
end Go.Proofs.YtjjndoigkhabdaaDoor
