/- append, make, copy and the cutting of slices: the machine does what the abstract machine does. No condition. -/
import Derived.Test.YtflekaacffdakaaAmG
import Derived.Deep.Upon
namespace Go.AM
open Go Go.RowKit

/-- What the second argument of an append yields: m elements, the cells 'news'. -/
structure AppSrc (P : Program) (t tx e : TypeId) (i : TypeInfo) (x : Value) (m : Nat) (news : List Value) (w : World) : Prop where
  len : news.length = m * i.size
  one : ∀ u ∈ news, u.oneCell' = true
  nothing : m = 0 → ∀ ty base sLen sCap, sLen ≤ sCap → (Builtin.append_ #[t, tx] ty #[.slice base sLen sCap, x]).run P w = .ok (.slice base sLen sCap) w
  room : 0 < m → ∀ ty b off sLen sCap, sLen + m ≤ sCap → (∀ j, j < news.length → (w.cell? ⟨b, off + sLen * i.size + j, none⟩).isSome = true) → (∀ j, j < news.length → w.frozen? ⟨b, off + sLen * i.size + j, none⟩ = false) →
    (Builtin.append_ #[t, tx] ty #[.slice (some ⟨b, off, none⟩) sLen sCap, x]).run P w = .ok (.slice (some ⟨b, off, none⟩) (sLen + m) sCap) (w.setCells b (off + sLen * i.size) news)
  grow : ∀ ty base sLen sCap (olds : List Value), (Builtin.firstCells i.size sLen (.slice base sLen sCap)).run P w.drew = .ok olds.toArray w.drew → sCap < sLen + m → (sLen + m) * i.bytes ≤ 140737488355328 → sLen + m ≤ 9223372036854775807 →
    ∃ cap' zs, sLen + m ≤ cap' ∧ olds.length + news.length + zs.size = (olds.length + news.length) + (cap' - (sLen + m)) * i.size ∧
      (Builtin.append_ #[t, tx] ty #[.slice base sLen sCap, x]).run P w = .ok (.slice (some ⟨w.heap.size, 0, none⟩) (sLen + m) cap') (w.drew.alloc (.cells ((olds ++ news).toArray ++ zs) e))

section
variable {P : Program} {w : World}
theorem appSrc_slice {t tx e : TypeId} {i : TypeInfo} {z : Value} (ht : P.underlying t = some (.slice e)) (hi : P.info? e = some i) (hz : i.zero = some z) (hzs : z.cells.size = i.size)
    {x : Value} {m : Nat} {news : List Value} (hs : Src P i.size tx x m news w) : AppSrc P t tx e i x m news w := by
  refine ⟨hs.newsLen, hs.one, fun h0 ty base sLen sCap hle => ?_, fun _ ty b off sLen sCap hr hc hf => run_append_room_src w t tx ty e i ht hi b off sLen sCap x m news hs hr hc hf, fun ty base sLen sCap olds hold hg hb h63 => ?_⟩
  · subst h0
    have : news = [] := List.eq_nil_of_length_eq_zero (by rw [hs.newsLen]; simp)
    subst this
    exact run_append_nothing w t tx ty e i ht hi base sLen sCap hle x hs
  · refine ⟨grownCap w (sLen + m) sCap e, Builtin.zeroCells z.cells (grownCap w (sLen + m) sCap e - (sLen + m)), grownCap_ge w _ _ e, ?_, run_append_grow_src w t tx ty e i z ht hi hz base sLen sCap olds hold x m news hs hg (by omega) (growslice_fits hg hb)⟩
    rw [size_zeroCells, hzs]

theorem appSrc_zeros {t tx e : TypeId} {i : TypeInfo} {z : Value} {k : IntKind} (ht : P.underlying t = some (.slice e)) (hi : P.info? e = some i) (hz : i.zero = some z) (hzs : z.cells.size = i.size) (htx : P.underlying tx = some (.int k))
    (h1 : ∀ u ∈ z.cells.toList, u.oneCell' = true) {kx : IntKind} {m : Nat} (hm : m ≤ 1099511627776) (hmb : m * i.bytes ≤ 140737488355328) : AppSrc P t tx e i (.int kx m) m (Builtin.zeroCells z.cells m).toList w := by
  have hw : IntKind.i64.wrap (m : Int) = m := by rw [IntKind.wrap_i64]; omega
  have hneg : ¬ ((m : Int) < 0) := by omega
  have hbig : ¬ (281474976710656 < (m : Int) * (i.bytes : Int)) := by rw [← Int.natCast_mul]; omega
  have hone : ∀ u ∈ (Builtin.zeroCells z.cells m).toList, u.oneCell' = true := by
    intro u hu
    simp only [Builtin.zeroCells, Array.toList_map, List.mem_map] at hu
    obtain ⟨j, hj, rfl⟩ := hu
    simp at hj
    have hlt : j % z.cells.size < z.cells.size := Nat.mod_lt _ (Nat.pos_of_ne_zero fun h0 => by rw [h0] at hj; simp at hj)
    have : z.cells[j % z.cells.size]! = z.cells[j % z.cells.size] := by simp [hlt]
    rw [this]
    exact h1 _ (Array.mem_toList_iff.2 (Array.getElem_mem hlt))
  have hl : (Builtin.zeroCells z.cells m).toList.length = m * i.size := by rw [Array.length_toList, size_zeroCells, hzs]
  obtain ⟨news, hnews⟩ : ∃ news, news = (Builtin.zeroCells z.cells m).toList := ⟨_, rfl⟩
  rw [← hnews] at hone hl ⊢
  have hna : Builtin.zeroCells z.cells m = news.toArray := by rw [hnews]
  refine ⟨hl, hone, fun h0 ty base sLen sCap hle => ?_, fun hpos ty b off sLen sCap hr hc hf => ?_, fun ty base sLen sCap olds hold hg hb h63 => ?_⟩
  · subst h0
    have h00 : IntKind.i64.wrap 0 = 0 := by simpa using hw
    cases base <;> simp [Builtin.append_, run_underlying ht, run_underlying htx, sizeOf, typeInfo, hi, asInt, asIntOf, h00, hle, storeCells]
  · have hst := run_storeCells_cells (P := P) b (off + sLen * i.size) news 0 w (by simpa using hc) (by simpa using hf) hone
    simp only [Nat.add_zero] at hst
    by_cases hms : m * i.size = 0
    · have hnil : news = [] := List.eq_nil_of_length_eq_zero (by rw [hl, hms])
      subst hnil
      simp [Builtin.append_, run_underlying ht, run_underlying htx, sizeOf, typeInfo, hi, asInt, asIntOf, hw, hneg, hbig, hr, hms, storeCells, World.setCells]
    · simp [Builtin.append_, run_underlying ht, run_underlying htx, sizeOf, typeInfo, zeroValue, hi, hz, asInt, asIntOf, hw, hneg, hbig, hr, hms, hna, Addr.add_lit, hst]
  · have hn : ¬ (sLen + m ≤ sCap) := by omega
    have h63' : ¬ (9223372036854775807 < ((sLen : Int) + (m : Int))) := by omega
    have hfit := growslice_fits hg hb
    have h48' : ¬ (281474976710656 < Builtin.nextslicecap (sLen + m) sCap * i.bytes) := by omega
    refine ⟨grownCap w (sLen + m) sCap e, Builtin.zeroCells z.cells (grownCap w (sLen + m) sCap e - (sLen + m)), grownCap_ge w _ _ e, by rw [size_zeroCells, hzs], ?_⟩
    by_cases hms : m * i.size = 0
    · have hnil : news = [] := List.eq_nil_of_length_eq_zero (by rw [hl, hms])
      subst hnil
      simp [Builtin.append_, run_underlying ht, run_underlying htx, sizeOf, typeInfo, zeroValue, hi, hz, asInt, asIntOf, hw, hneg, hbig, hn, hms, h63', h48', Question.forced, hold, newRow, grownCap]
    · simp [Builtin.append_, run_underlying ht, run_underlying htx, sizeOf, typeInfo, zeroValue, hi, hz, asInt, asIntOf, hw, hneg, hbig, hn, hms, h63', h48', Question.forced, hold, newRow, grownCap, hna]
      congr 2
      apply Array.ext'
      simp [List.append_assoc]
end

section
variable {C : Cfg} {I : World → Prop} {ρ : Mp} {L0 lo : Nat} {w0 w : World} {H : Heap}

theorem mostBytes_val : mostBytes = 1099511627776 := rfl

theorem VRelL.toArr {vs : List AV} {xs : List Value} (hr : VRelL ρ vs xs) (h1 : ∀ x ∈ xs, x.oneCell' = true) (zs : Array Value) : ∀ (i : Nat) (v : AV), vs[i]? = some v → ∃ x, (xs.toArray ++ zs)[i]? = some x ∧ VRel ρ v x ∧ x.oneCell' = true := fun i v hv => by
  obtain ⟨x, hx, hrx⟩ := hr.get hv
  have hlt := (List.getElem?_eq_some_iff.1 hx).1
  refine ⟨x, ?_, hrx, h1 _ (List.mem_of_getElem? hx)⟩
  rw [Array.getElem?_append_left (by simpa using hlt)]
  simpa using hx

theorem append_spec (h : HRel C I ρ L0 w0 H w) (hlo : L0 ≤ lo) {t tx e ty : TypeId} {i : TypeInfo} {es by' : Nat} (hes : i.size = es) (hby : i.bytes = by') (hb0 : by' ≠ 0) {sv : AV} {sm : Value} (hs : VRel ρ sv sm) {xm : Value} {m : Nat} {us : List AV} {news : List Value}
    (hsrc : AppSrc C.P t tx e i xm m news w) (hu : VRelL ρ us news) {v : AV} {H' : Heap} (hx : appendA lo es by' sv us m H = some (v, H')) :
    ∃ ρ' vm w', (Builtin.append_ #[t, tx] ty #[sm, xm]).run C.P w = .ok vm w' ∧ VRel ρ' v vm ∧ HRel C I ρ' L0 w0 H' w' ∧ Ext ρ L0 H.length w ρ' w' := by
  have hnl : news.length = m * es := by rw [hsrc.len, hes]
  have hul : us.length = m * es := by rw [← hnl, hu.length]
  have small : ∀ q, q * by' ≤ mostBytes → q ≤ 1099511627776 := fun q hq => Nat.le_trans (Nat.le_mul_of_pos_right _ (Nat.pos_of_ne_zero hb0)) hq
  cases sv <;> simp only [appendA] at hx <;> try (cases hx; done)
  case nils =>
    simp only [VRel] at hs
    subst hs
    split at hx
    · rename_i h0
      cases hx
      exact ⟨ρ, _, w, hsrc.nothing h0 ty none 0 0 (Nat.le_refl _), by simp [VRel], h, Ext.refl ..⟩
    · rename_i h0
      split at hx
      · rename_i hb
        cases hx
        have hq := small _ hb
        rw [mostBytes_val] at hb
        obtain ⟨cap', zs, hc, hzs, hrun⟩ := hsrc.grow ty none 0 0 [] (run_firstCells_none w.drew i.size 0 0 0) (by omega) (by rw [hby, Nat.zero_add]; omega) (by omega)
        simp only [List.nil_append, Nat.zero_add, List.length_nil] at hrun hc hzs
        obtain ⟨ρ', e1, hH, hE⟩ := newCells (h.drew) (vs := us) (cs := news.toArray ++ zs) e (by simp; omega) (hu.toArr hsrc.one zs)
        refine ⟨ρ', _, _, hrun, ?_, hH, ?_⟩
        · simp only [VRel]
          refine ⟨_, 0, cap', e1, rfl, hc, (fun k e => by cases e), fun _ => rfl, fun m' hm' => ?_⟩
          simp at hm'
          have : cap' = m + (cap' - m) := by omega
          have h2 : cap' * es = m * es + (cap' - m) * es := by rw [← Nat.add_mul, ← this]
          rw [hes] at hzs
          omega
        · exact ⟨hE.le, hE.fresh, hE.size, hE.keep⟩
      · cases hx
  case s es' b o n c =>
    simp only [VRel] at hs
    obtain ⟨r, o', c', hb, rfl, hnc, hck, ho, hroom⟩ := hs
    split at hx
    · cases hx
    · rename_i hes'
      have hes' : es' = es := by simpa using hes'
      subst hes'
      split at hx
      · rename_i h0
        cases hx
        refine ⟨ρ, _, w, hsrc.nothing h0 ty _ n c' hnc, ?_, h, Ext.refl ..⟩
        simp only [VRel]; exact ⟨r, o', c', hb, rfl, hnc, hck, ho, hroom⟩
      · rename_i h0
        split at hx
        · rename_i cs hk
          split at hx
          · rename_i hc
            obtain ⟨hfit, hbig⟩ := hc
            have hq := small _ hbig
            rw [mostBytes_val] at hbig
            -- what the slice holds
            have hold : ∃ olds : List Value, olds.length = n * es' ∧ VRelL ρ ((cs.drop o).take (n * es')) olds ∧ (∀ x ∈ olds, x.oneCell' = true) ∧ ∀ w2 : World, w2.heap = w.heap → (Builtin.firstCells i.size n (.slice (some (r.a.add o')) n c')).run C.P w2 = .ok olds.toArray w2 := by
              rcases Nat.eq_zero_or_pos n with hn | hn
              · subst hn
                refine ⟨[], by simp, by simp [VRelL], by simp, fun w2 _ => ?_⟩
                simp [Builtin.firstCells, loadCells, loadCellsFrom]
              · have ho' := ho (by omega)
                subst ho'
                obtain ⟨olds, h1, _, h3, h4, h5⟩ := cellsOfRel h hb (o := o') (n := n * es') (us := (cs.drop o').take (n * es')) (by simp [ldn, hk, hfit])
                refine ⟨olds, h1, h3, h4, fun w2 hw2 => ?_⟩
                refine run_firstCells_some w2 i.size n (r.a.add o') n c' olds (by rw [h1, hes]) fun j u hu' => ?_
                have := h5 j u hu'
                simpa [World.cell?, hw2] using this
            obtain ⟨olds, hol, hor, ho1, hof⟩ := hold
            have hone : ∀ x ∈ olds ++ news, x.oneCell' = true := fun x hx' => by
              rcases List.mem_append.1 hx' with hx' | hx'
              · exact ho1 x hx'
              · exact hsrc.one x hx'
            have hnr : VRelL ρ ((cs.drop o).take (n * es') ++ us) (olds ++ news) := hor.append hu
            -- a new row
            have grown : c' < n + m → ∀ {Hk : Heap}, Hk.length = H.length → HRel C I ρ L0 w0 Hk w → ∃ ρ' vm w', (Builtin.append_ #[t, tx] ty #[.slice (some (r.a.add o')) n c', xm]).run C.P w = .ok vm w' ∧ VRel ρ' (.s es' H.length 0 (n + m) none) vm ∧
                HRel C I ρ' L0 w0 (Hk ++ [.cells ((cs.drop o).take (n * es') ++ us)]) w' ∧ Ext ρ L0 H.length w ρ' w' := by
              intro hg Hk hlk hHk
              obtain ⟨cap', zs, hcp, hzs, hrun⟩ := hsrc.grow ty (some (r.a.add o')) n c' olds (hof w.drew rfl) hg (by rw [hby]; omega) (by omega)
              obtain ⟨ρ', e1, hH, hE⟩ := newCells (hHk.drew) (vs := (cs.drop o).take (n * es') ++ us) (cs := (olds ++ news).toArray ++ zs) e (by have := hnr.length; simp at this ⊢; omega) (hnr.toArr hone zs)
              rw [hlk] at e1 hE
              refine ⟨ρ', _, _, hrun, ?_, hH, ⟨hE.le, hE.fresh, hE.size, hE.keep⟩⟩
              simp only [VRel]
              refine ⟨_, 0, cap', e1, rfl, hcp, (fun k e => by cases e), fun _ => rfl, fun m' hm' => ?_⟩
              simp at hm'
              have : cap' = (n + m) + (cap' - (n + m)) := by omega
              have h2 : cap' * es' = (n + m) * es' + (cap' - (n + m)) * es' := by rw [← Nat.add_mul, ← this]
              have h3 : (n + m) * es' = n * es' + m * es' := Nat.add_mul ..
              rw [hes] at hzs
              omega
            split at hx
            · rename_i hcn
              cases hx
              have := hck n hcn
              exact grown (by omega) rfl h
            · split at hx
              · rename_i hle
                cases hx
                by_cases hg : c' < n + m
                · exact grown hg (by simp) (h.kill b)
                · -- there is room: the cells behind are written
                  have hL : L0 ≤ b := Nat.le_trans hlo hle
                  obtain ⟨hB1, hB2, _⟩ := h.blk b r _ hb hk
                  obtain ⟨mc, tc, rm, hmc, hrm, hvl, hrs⟩ := hB2 hL
                  obtain ⟨hw1, hw2, hsp⟩ := h.own b r hb hL
                  have hr1 := hroom rm hrm
                  have hcells : (n + m) * es' ≤ c' * es' := Nat.mul_le_mul_right _ (by omega)
                  have h3 : (n + m) * es' = n * es' + m * es' := Nat.add_mul ..
                  have hrun := hsrc.room (Nat.pos_of_ne_zero h0) ty r.a.block (r.a.off + o') n c' (by omega) (fun j hj => by rw [cell_of_row w _ _ mc tc (0, 0) hmc]; simp; rw [hes]; omega) (fun j _ => by simp [World.frozen?, hmc])
                  rw [hes] at hrun
                  have hadd : r.a.add o' = ⟨r.a.block, r.a.off + o', none⟩ := add_spot hsp o'
                  rw [← hadd] at hrun
                  obtain ⟨w', hw'⟩ : ∃ w', w.setCells r.a.block (r.a.off + o' + n * es') news = w' := ⟨_, rfl⟩
                  rw [hw'] at hrun
                  have hsz : w'.heap.size = w.heap.size := by rw [← hw']; exact setCells_size ..
                  have hoth : ∀ pb, pb ≠ r.a.block → w'.heap[pb]? = w.heap[pb]? := fun pb hp => by rw [← hw']; exact setCells_other _ _ _ _ hp
                  have hin : w'.heap[r.a.block]? = some (.cells (setMany mc (r.a.off + o' + n * es') news) tc (0, 0)) := by rw [← hw']; exact setCells_heap _ _ _ _ hmc
                  have hbel : Below w0.heap.size w0 w' := by rw [← hw']; exact setCells_below hw1 _ _ _ h.below
                  have hnew : ρ H.length = none := h.none_of_ge (Nat.le_refl _)
                  obtain ⟨q, hq'⟩ : ∃ q : PB, q = ⟨⟨r.a.block, r.a.off + o', none⟩, some (rm - o')⟩ := ⟨_, rfl⟩
                  have hle' := Mp.le_add ρ q hnew
                  have hbH : b < H.length := h.dom b r hb
                  have getL : ∀ (xs : List Value) (cs2 : Array Value) (o2 j : Nat), j < o2 → (setMany cs2 o2 xs)[j]? = cs2[j]? := by
                    intro xs
                    induction xs with
                    | nil => intro cs2 o2 j _; rfl
                    | cons x xs ih => intro cs2 o2 j hj; rw [setMany, ih _ _ _ (by omega), Array.getElem?_setIfInBounds_ne (by omega)]
                  have getR : ∀ (xs : List Value) (cs2 : Array Value) (o2 j : Nat), j < xs.length → o2 + j < cs2.size → (setMany cs2 o2 xs)[o2 + j]? = xs[j]? := by
                    intro xs
                    induction xs with
                    | nil => intro cs2 o2 j hj; simp at hj
                    | cons x xs ih =>
                      intro cs2 o2 j hj hs2
                      rw [setMany]
                      cases j with
                      | zero => rw [Nat.add_zero, getL _ _ _ _ (by omega)]; simp [show o2 < cs2.size by omega]
                      | succ j =>
                        have := ih (cs2.setIfInBounds o2 x) (o2 + 1) j (by simpa using hj) (by simp; omega)
                        rw [show o2 + (j + 1) = o2 + 1 + j by omega, this]
                        simp
                  refine ⟨ρ.add H.length q, _, w', hrun, ?_, ⟨hbel, h.inv, ?_, ?_, ?_, ?_, ?_⟩, hle', ?_, by omega, fun pb hp hno => hoth pb (fun e => hno b r hb hL e.symm)⟩
                  · simp only [VRel]
                    refine ⟨q, 0, c', Mp.add_same .., ?_, by omega, (fun k e => by cases e), fun _ => rfl, fun m' hm' => ?_⟩
                    · subst hq'; rw [hadd]; rfl
                    · subst hq'; simp at hm'; omega
                  · have := h.lt; simp; omega
                  · intro b2 r2 e2
                    by_cases hb2 : b2 = H.length
                    · subst hb2; simp
                    · rw [Mp.add_ne ρ _ hb2] at e2; have := h.dom b2 r2 e2; simp; omega
                  · intro b2 r2 e2 hL2
                    by_cases hb2 : b2 = H.length
                    · subst hb2; rw [Mp.add_same] at e2; cases e2; subst hq'; exact ⟨hw1, by rw [hsz]; exact hw2, rfl⟩
                    · rw [Mp.add_ne ρ _ hb2] at e2; rw [hsz]; exact h.own b2 r2 e2 hL2
                  · -- apart
                    have key : ∀ (b2 : Nat) (r2 : PB) (k2 : Blk), ρ b2 = some r2 → L0 ≤ b2 → (H.set b .dead ++ [Blk.cells ((cs.drop o).take (n * es') ++ us)])[b2]? = some k2 → k2.live → b2 ≠ H.length → r2.a.block ≠ r.a.block ∧ H[b2]? = some k2 := by
                      intro b2 r2 k2 e2 hL2 hk2 hl2 hne
                      have hb2 := h.dom b2 r2 e2
                      rw [List.getElem?_append_left (by simpa using hb2), List.getElem?_set] at hk2
                      split at hk2
                      · cases hk2; exact hl2.elim
                      · rename_i hne2
                        exact ⟨fun e3 => hne2 (h.apart b2 b r2 r k2 _ e2 hb hL2 hL hk2 hk hl2 trivial e3).symm, hk2⟩
                    intro b1 b2 r1 r2 k1 k2 e1 e2 hL1 hL2 hk1 hk2 hl1 hl2 hbk
                    by_cases hb1 : b1 = H.length <;> by_cases hb2 : b2 = H.length
                    · rw [hb1, hb2]
                    · subst hb1
                      rw [Mp.add_same] at e1; cases e1
                      rw [Mp.add_ne ρ _ hb2] at e2
                      subst hq'
                      exact absurd hbk.symm (key b2 r2 k2 e2 hL2 hk2 hl2 hb2).1
                    · subst hb2
                      rw [Mp.add_same] at e2; cases e2
                      rw [Mp.add_ne ρ _ hb1] at e1
                      subst hq'
                      exact absurd hbk (key b1 r1 k1 e1 hL1 hk1 hl1 hb1).1
                    · rw [Mp.add_ne ρ _ hb1] at e1
                      rw [Mp.add_ne ρ _ hb2] at e2
                      exact h.apart b1 b2 r1 r2 k1 k2 e1 e2 hL1 hL2 (key b1 r1 k1 e1 hL1 hk1 hl1 hb1).2 (key b2 r2 k2 e2 hL2 hk2 hl2 hb2).2 hl1 hl2 hbk
                  · intro b1 r1 k1 e1 hk1
                    by_cases hb1 : b1 = H.length
                    · subst hb1
                      rw [Mp.add_same] at e1; cases e1
                      rw [List.getElem?_append_right (by simp)] at hk1
                      simp at hk1
                      subst hk1
                      have hT : (L0 ≤ H.length) = True := by simp [h.lt]
                      rw [hT]
                      have hqb : q.a.block = r.a.block := by subst hq'; rfl
                      have hqs : q.a.spot = none := by subst hq'; rfl
                      have hqo : q.a.off = r.a.off + o' := by subst hq'; rfl
                      have hqr : q.room = some (rm - o') := by subst hq'; rfl
                      refine ⟨(cellsRel_arr (w := w') hqs (by rw [hqb]; exact hin)).2 ?_, fun _ => ⟨_, tc, rm - o', by rw [hqb]; exact hin, hqr, ?_, ?_⟩, fun e => absurd trivial e⟩
                      · intro j v hv
                        rw [hqo]
                        by_cases hj : j < n * es'
                        · rw [List.getElem?_append_left (by have := hor.length; omega)] at hv
                          rw [getL _ _ _ _ (by omega)]
                          rw [List.getElem?_take, if_pos hj, List.getElem?_drop] at hv
                          have hn : n ≠ 0 := fun e => by subst e; simp at hj
                          have ho' := ho hn
                          subst ho'
                          obtain ⟨x, hx', hr', h1'⟩ := (cellsRel_arr hsp hmc).1 hB1 _ _ hv
                          exact ⟨x, by rw [← hx']; congr 1; omega, hr'.mono hle' _ _, h1'⟩
                        · have hlen := hor.length
                          rw [List.getElem?_append_right (by omega)] at hv
                          obtain ⟨x, hx', hr'⟩ := hu.get hv
                          have hxl := (List.getElem?_eq_some_iff.1 hx').1
                          refine ⟨x, ?_, hr'.mono hle' _ _, hsrc.one _ (List.mem_of_getElem? hx')⟩
                          have := getR news mc (r.a.off + o' + n * es') (j - n * es') (by omega) (by omega)
                          rw [show r.a.off + o' + j = r.a.off + o' + n * es' + (j - n * es') by omega, this, ← hx']
                          congr 1
                          omega
                      · have := hnr.length; simp at this ⊢; omega
                      · rw [setMany_size, hqo]; omega
                    · rw [Mp.add_ne ρ _ hb1] at e1
                      have hb1' := h.dom b1 r1 e1
                      rw [List.getElem?_append_left (by simpa using hb1'), List.getElem?_set] at hk1
                      split at hk1
                      · cases hk1; trivial
                      · rename_i hne
                        exact BRel.away h hb hL hk trivial e1 hk1 (Ne.symm hne) hle' (fun pb hp _ => hoth pb hp)
                  · intro b1 r1 e1 e0
                    by_cases hb1 : b1 = H.length
                    · subst hb1; rw [Mp.add_same] at e1; cases e1; exact ⟨Nat.le_refl _, .inr ⟨b, r, hL, hb, by subst hq'; rfl⟩⟩
                    · rw [Mp.add_ne ρ _ hb1, e0] at e1; cases e1
              · cases hx
          · cases hx
        · cases hx
end
end Go.AM
