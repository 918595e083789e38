/- The law CountsPaths: for every input it returns true, and its arguments read as they did. No condition. -/
import Derived.Test.YtflekaacffdakaaRows
import Derived.Test.YtflekaacffdakaaPt1
import Derived.Test.YtflekaacffdakaaBo
import Derived.WalkKit
import Derived.ProofKit
import Derived.OpenShut
import Derived.ShutString
import Derived.ChangeOld
import Derived.Below
import Derived.SizedLaws
import Derived.Carry
namespace Go.Proofs.Ytflekaacffdakaa.countsPaths
open Go.ChangeShapes Go.WideShapes Go.ChangeAt Go.RowKit Go.AM
open Go.ChangeMaps (open_string shut_string)
set_option linter.unusedVariables false
set_option linter.unusedSimpArgs false
theorem own : ownKnob Try.prog.godebug = none := by kernel_rfl
theorem laidOut : laidOutB Try.prog = true := by kernel_rfl
set_option maxRecDepth 100000 in
theorem lifted (os : Os) (started : os.Started) (H : Type) (enc : TypeId × Value → H) :
    ReturnsInHanded {} Try.checked os 17 .any (Rows.countsPathsSpec.pre6 enc Try.prog Try.f17 Rows.countsPathsRow.domain false) (Rows.countsPathsSpec.post enc Try.prog Try.f17 false true false false) := by
  refine returnsInHanded_of_change_sized (C := Try.checked) own started (by kernel_rfl) Try.func17
    (ChangeSpec.witness6 (enc := enc) (C := Try.checked) false ⟨#[], #[.slice none 0 0, .slice none 0 0, .slice none 0 0], []⟩ 8 (by kernel_rfl) (by kernel_rfl) (by kernel_rfl) (by kernel_rfl)) ?_
  intro W base args ds gs before hval0 hW hcnd hsz0 _
  have hsz : (DataW.weightsEach Try.prog (Try.f17.params.toList ++ Rows.countsPathsSpec.plain.varTypes Try.prog) (ds ++ gs)).all (· ≤ reachBytes) = true := hsz0
  have hval : ∀ (j : Nat) t v, Try.f17.params[j]? = some t → args[j]? = some v → Value.okWide Try.prog W .any base t v := hval0
  have hW' := hW
  obtain ⟨p, q, hA0, hV, rfl, hfz, hnd⟩ := hW
  have hA : DataW.TrodAll enc Try.prog W 0 (fun _ => true) true Try.f17.params.toList args.toList ds p := hA0
  rw [Try.params17] at hA hval hsz
  obtain ⟨v0, vs0, d0, ds0, p0, q0, hargs, rfl, rfl, h0, r0⟩ := trodAll_cons hA
  obtain ⟨v1, vs1, d1, ds1, p1, q1, rfl, rfl, rfl, h1, r1⟩ := trodAll_cons r0
  obtain ⟨v2, vs2, d2, ds2, p2, q2, rfl, rfl, rfl, h2, r2⟩ := trodAll_cons r1
  obtain ⟨rfl, rfl, rfl⟩ := trodAll_nil r2
  obtain rfl : args = #[v0, v1, v2] := by cases args; simp_all
  obtain ⟨rfl, rfl⟩ := trodVars_none hV
  have F0 := FRel.nil C W
  obtain ⟨b0, len0, cap0, rfl⟩ := okWide_slice Try.underlying22 (hval 0 22 v0 rfl rfl)
  have k0 := h0
  have lt0 : ∀ x ∈ p0, x.block < W.heap.size := by obtain ⟨m, hm⟩ := k0; exact DataW.trod_lt m _ _ _ hm
  obtain ⟨fuel0, hf0⟩ := h0
  obtain ⟨N0, ρ0, av0, x0, F1, le0, rel0, rep0, len0d⟩ := opn_sliceL (C := C) (enc := enc) (α := (List Int)) Try.underlying22 (by kernel_rfl) (opn_slice Try.underlying23 (by kernel_rfl) (opn_int Try.underlying3)) fuel0 _ _ W _ ([] : Heap) hf0 F0
  have sz0 : x0.length * 24 ≤ 140737488351232 := by
    rcases len0d with ⟨_, hx⟩ | ⟨es, sp, hd, hl⟩
    · simp [hx]
    · have hd' : d0 = .slice es sp := hd
      subst hd'
      have z := sized_slice hsz (j := 0) (t := 22) rfl rfl Try.underlying22
      have hb : Try.prog.bytesOf 23 = 24 := by kernel_rfl
      rw [hb, Nat.add_mul] at z
      have hr : reachBytes = 140737488351232 := by decide
      rw [hl]; omega
  obtain ⟨u0, rfl, sl0⟩ := rep0
  obtain ⟨b1, len1, cap1, rfl⟩ := okWide_slice Try.underlying22 (hval 1 22 v1 rfl rfl)
  have k1 := h1
  have lt1 : ∀ x ∈ p1, x.block < W.heap.size := by obtain ⟨m, hm⟩ := k1; exact DataW.trod_lt m _ _ _ hm
  obtain ⟨fuel1, hf1⟩ := h1
  obtain ⟨N1, ρ1, av1, x1, F2, le1, rel1, rep1, len1d⟩ := opn_sliceL (C := C) (enc := enc) (α := (List Int)) Try.underlying22 (by kernel_rfl) (opn_slice Try.underlying23 (by kernel_rfl) (opn_int Try.underlying3)) fuel1 _ _ W _ (([] : Heap) ++ N0) hf1 F1
  have sz1 : x1.length * 24 ≤ 140737488351232 := by
    rcases len1d with ⟨_, hx⟩ | ⟨es, sp, hd, hl⟩
    · simp [hx]
    · have hd' : d1 = .slice es sp := hd
      subst hd'
      have z := sized_slice hsz (j := 1) (t := 22) rfl rfl Try.underlying22
      have hb : Try.prog.bytesOf 23 = 24 := by kernel_rfl
      rw [hb, Nat.add_mul] at z
      have hr : reachBytes = 140737488351232 := by decide
      rw [hl]; omega
  obtain ⟨u1, rfl, sl1⟩ := rep1
  obtain ⟨b2, len2, cap2, rfl⟩ := okWide_slice Try.underlying48 (hval 2 48 v2 rfl rfl)
  have k2 := h2
  have lt2 : ∀ x ∈ p2, x.block < W.heap.size := by obtain ⟨m, hm⟩ := k2; exact DataW.trod_lt m _ _ _ hm
  obtain ⟨fuel2, hf2⟩ := h2
  obtain ⟨N2, ρ2, av2, x2, F3, le2, rel2, rep2, len2d⟩ := opn_sliceL (C := C) (enc := enc) (α := (List (List Int))) Try.underlying48 (by kernel_rfl) (opn_slice Try.underlying22 (by kernel_rfl) (opn_slice Try.underlying23 (by kernel_rfl) (opn_int Try.underlying3))) fuel2 _ _ W _ ((([] : Heap) ++ N0) ++ N1) hf2 F2
  have sz2 : x2.length * 24 ≤ 140737488351232 := by
    rcases len2d with ⟨_, hx⟩ | ⟨es, sp, hd, hl⟩
    · simp [hx]
    · have hd' : d2 = .slice es sp := hd
      subst hd'
      have z := sized_slice hsz (j := 2) (t := 48) rfl rfl Try.underlying48
      have hb : Try.prog.bytesOf 22 = 24 := by kernel_rfl
      rw [hb, Nat.add_mul] at z
      have hr : reachBytes = 140737488351232 := by decide
      rw [hl]; omega
  obtain ⟨u2, rfl, sl2⟩ := rep2
  clear hA0 hval0 hsz0 hsz
  have hw := Walk.CountsPaths (((([] : Heap) ++ N0) ++ N1) ++ N2) u0 x0 ((Sl.low (Sl.app (Sl.app sl0 N1) N2)).weak fun _ h => h.2) sz0 u1 x1 ((Sl.low (Sl.app sl1 N2)).weak fun _ h => h.2) sz1 u2 x2 ((Sl.low sl2).weak fun _ h => h.2) sz2
  have hc := walk_law eOk hw F3 (args := #[.slice b0 len0 cap0, .slice b1 len1 cap1, .slice b2 len2 cap2]) (by
    have y0 : VRel ρ2 (u0) (.slice b0 len0 cap0) := (by have z := (VRelL.mono (Mp.le_trans le1 le2) _ _ rel0); simpa [Value.cells, VRelL, VRel] using z)
    have y1 : VRel ρ2 (u1) (.slice b1 len1 cap1) := (by have z := (VRelL.mono le2 _ _ rel1); simpa [Value.cells, VRelL, VRel] using z)
    have y2 : VRel ρ2 (u2) (.slice b2 len2 cap2) := (by have z := rel2; simpa [Value.cells, VRelL, VRel] using z)
    simp only [VRelL]
    exact ⟨_, _, rfl, y0, ⟨_, _, rfl, y1, ⟨_, _, rfl, y2, (by simp [VRelL])⟩⟩⟩)
  refine hc.mono fun e W' ⟨he, bel⟩ => ?_
  subst he
  exact ⟨_, rfl, _, _, _, [], _, [], hW', trodAll_mk1 (shut_bool Try.underlying4 _), (trodAll_cons_mk (Below.trod laidOut (by kernel_rfl) (of_decide_eq_true (by kernel_rfl)) k0 bel lt0) (trodAll_cons_mk (Below.trod laidOut (by kernel_rfl) (of_decide_eq_true (by kernel_rfl)) k1 bel lt1) (trodAll_cons_mk (Below.trod laidOut (by kernel_rfl) (of_decide_eq_true (by kernel_rfl)) k2 bel lt2) trodAll_mk0))), rfl, bel.frame _, fun h => by cases h⟩
theorem over : Rows.countsPathsRow.holds Try.pinned (OpenSpec.ofChange Rows.countsPathsSpec) :=
  OpenClaim.holds_of_wide 17 Try.f17 rfl rfl rfl rfl rfl rfl rfl ⟨rfl, rfl, rfl, rfl, rfl⟩ rfl rfl rfl rfl rfl (by kernel_rfl) Try.func17 (by kernel_rfl)
    (of_decide_eq_true (by kernel_rfl)) (by unfold Func.isWrapper; first | (rw [if_pos (by decide +kernel)]; kernel_rfl) | (rw [if_neg (by decide +kernel)]; exact ⟨rfl, rfl⟩))
    (fun os started H enc _ => lifted os started H enc)
theorem proved : Rows.CountsPathsSaid := over
#print axioms proved
end Go.Proofs.Ytflekaacffdakaa.countsPaths
namespace Go.Proofs.Ytflekaacffdakaa
/-- The row, under a short name, for the claim. -/
theorem countsPaths_holds : Rows.CountsPathsSaid := countsPaths.proved
end Go.Proofs.Ytflekaacffdakaa
