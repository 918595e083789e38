/- Memory of a call's own: blocks at the heap's end, slices that grow. No condition. -/
import Derived.Test.YtflekaacffdakaaBoD
set_option linter.unusedSimpArgs false
set_option linter.unusedVariables false
namespace Go.AM
open Go

/-! ### Results -/
def packV : Option (List AV) → Option AV
  | some [v] => some v
  | some vs => some (.tp vs)
  | none => none
theorem zx106 {rs : List RVar} {a : Fr} {H : Heap} : resA rs a H = packV (resVars a H rs) := by
  unfold resA packV; rfl
theorem zx107 : packV (some []) = some (.tp []) := (rfl)
theorem zx108 {v : AV} : packV (some [v]) = some v := (rfl)
theorem zx109 {v u : AV} {vs : List AV} : packV (some (v :: u :: vs)) = some (.tp (v :: u :: vs)) := (rfl)
theorem zx110 {a : Fr} {H : Heap} : resVars a H [] = some [] := (rfl)
theorem zx111 {a : Fr} {H : Heap} {t : Nat} {rs : List RVar} : resVars a H (.t t :: rs) = (resVars a H rs).map (a t :: ·) := (rfl)
theorem zx112 {a : Fr} {H : Heap} {t : Nat} {k : Option Nat} {rs : List RVar} : resVars a H (.c t k :: rs) = (ldA H k (a t)).bind fun v => (resVars a H rs).map (v :: ·) := by
  simp only [resVars, resVar, ldA]
  cases a t <;> first | rfl | (cases k <;> rfl)

/-! ### Loads and stores at the heap's end -/
section
variable {A B H : Heap} {b o n : Nat} {cs vs : List AV}
theorem ldA_p {k : Option Nat} : ldA H k (.p b o) = match k with | none => ld H b o | some n => (ldn H b o n).map .ag := by cases k <;> rfl
theorem zx113 : ldA H none (.p b o) = ld H b o := (rfl)
theorem zx114 : ldA H (some n) (.p b o) = (ldn H b o n).map .ag := (rfl)
theorem zx115 (h : b < A.length) : ld (A ++ B) b o = ld A b o := by simp only [ld, List.getElem?_append_left h]
theorem zx116 (h : A.length ≤ b) : ld (A ++ B) b o = ld B (b - A.length) o := by simp only [ld, List.getElem?_append_right h]
theorem zx117 : ld (.cells cs :: B) 0 o = cs[o]? := (rfl)
theorem zx118 {x : Blk} : ld (x :: B) (n + 1) o = ld B n o := (rfl)
theorem zx119 (h : b < A.length) : ldn (A ++ B) b o n = ldn A b o n := by simp only [ldn, List.getElem?_append_left h]
theorem zx120 (h : A.length ≤ b) : ldn (A ++ B) b o n = ldn B (b - A.length) o n := by simp only [ldn, List.getElem?_append_right h]
theorem zx121 : ldn (.cells cs :: B) 0 o n = if o + n ≤ cs.length then some ((cs.drop o).take n) else none := (rfl)
theorem zx122 {m : Nat} {x : Blk} : ldn (x :: B) (m + 1) o n = ldn B m o n := (rfl)
theorem ld_of (h : H[b]? = some (.cells cs)) : ld H b o = cs[o]? := by simp only [ld, h]
theorem ldn_of (h : H[b]? = some (.cells cs)) : ldn H b o n = if o + n ≤ cs.length then some ((cs.drop o).take n) else none := by simp only [ldn, h]
theorem zx123 {lo : Nat} {x : AV} : stA lo H n (.p b o) x = if x.cells.length = n ∧ x.cells.all AV.one then st lo H b o x.cells else none := (rfl)
theorem zx124 {lo : Nat} (h : b < A.length) : st lo (A ++ B) b o vs = (st lo A b o vs).map (· ++ B) := by
  simp only [st, List.getElem?_append_left h]
  split
  · cases hA : A[b]? with
    | none => rfl
    | some k =>
      cases k with
      | cells cs =>
        simp only []
        split
        · simp [List.set_append_left _ _ h]
        · rfl
      | dead => rfl
      | loop _ _ _ _ _ _ _ => rfl
  · rfl
theorem zx125 {lo : Nat} (h : A.length ≤ b) (hl : lo ≤ b) : st lo (A ++ B) b o vs = (st 0 B (b - A.length) o vs).map (A ++ ·) := by
  simp only [st, List.getElem?_append_right h, if_pos hl, if_pos (Nat.zero_le _)]
  cases hB : B[b - A.length]? with
  | none => rfl
  | some k =>
    cases k with
    | cells cs =>
      simp only []
      split
      · simp [List.set_append_right _ _ h]
      · rfl
    | dead => rfl
    | loop _ _ _ _ _ _ _ => rfl
theorem zx126 : st 0 (.cells cs :: B) 0 o vs = if o + vs.length ≤ cs.length then some (.cells (wr cs o vs) :: B) else none := by simp [st]
theorem zx127 {x : Blk} {lo : Nat} : st 0 (x :: B) (n + 1) o vs = (st 0 B n o vs).map (x :: ·) := by
  simp only [st, Nat.zero_le, if_true, List.getElem?_cons_succ]
  cases hB : B[n]? with
  | none => rfl
  | some k =>
    cases k with
    | cells cs => simp only []; split <;> rfl
    | dead => rfl
    | loop _ _ _ _ _ _ _ => rfl
theorem zx128 : wr cs o [] = cs := (rfl)
theorem zx129 {v : AV} : wr cs o (v :: vs) = wr (cs.set o v) (o + 1) vs := (rfl)
end
theorem st_of {lo b o : Nat} {H : Heap} {cs vs : List AV} (h : H[b]? = some (.cells cs)) (hl : lo ≤ b) (ho : o + vs.length ≤ cs.length) : st lo H b o vs = some (H.set b (.cells (wr cs o vs))) := by
  simp only [st, if_pos hl, h, if_pos ho]
theorem get_set {b : Nat} {H : Heap} {k k' : Blk} (h : H[b]? = some k') : (H.set b k)[b]? = some k := by
  rw [List.getElem?_set_self (List.getElem?_eq_some_iff.1 h).1]
theorem Kp.set (b : Nat) (H : Heap) (k : Blk) : Kp (fun b' => b' ≠ b) H (H.set b k) := ⟨by simp, fun b' k' hne hk => by rw [List.getElem?_set_ne (Ne.symm hne)]; exact hk⟩
theorem Kp.get {p : Nat → Prop} {b : Nat} {H H' : Heap} {cs : List AV} (h : Kp p H H') (hb : p b) (hk : H[b]? = some (.cells cs)) : H'[b]? = some (.cells cs) := h.2 b cs hb hk
theorem get_last {H : Heap} {k : Blk} : (H ++ [k])[H.length]? = some k := by simp
theorem zx130 {k : IntKind} {n : Int} : (AV.int k n).cells = [.int k n] := (rfl)
theorem zx131 {x : Bool} : (AV.b x).cells = [.b x] := (rfl)
theorem zx132 : AV.nils.cells = [.nils] := (rfl)
theorem zx133 {vs : List AV} : (AV.ag vs).cells = vs := (rfl)
theorem zx134 {b o : Nat} : (AV.p b o).cells = [.p b o] := (rfl)
theorem zx135 {e b o n : Nat} {c : Option Nat} : (AV.s e b o n c).cells = [.s e b o n c] := (rfl)
theorem zx136 {f : Nat} {us vs : List AV} : (AV.fn f us vs).cells = [.fn f us vs] := (rfl)
theorem zx137 {l : Nat} : (AV.yl l).cells = [.yl l] := (rfl)
theorem zx140 {k : IntKind} {n : Int} : (AV.int k n).one = true := (rfl)
theorem zx141 {x : Bool} : (AV.b x).one = true := (rfl)
theorem zx142 : AV.nils.one = true := (rfl)
theorem zx143 {b o : Nat} : (AV.p b o).one = true := (rfl)
theorem zx144 {e b o n : Nat} {c : Option Nat} : (AV.s e b o n c).one = true := (rfl)
theorem zx145 {f : Nat} {us vs : List AV} : (AV.fn f us vs).one = true := (rfl)
theorem zx146 {l : Nat} : (AV.yl l).one = true := (rfl)
theorem zx147 : AV.nilf.one = true := (rfl)
theorem zx148 : AV.nilp.one = true := (rfl)
theorem zx138 : AV.nilf.cells = [.nilf] := (rfl)
theorem zx139 : AV.nilp.cells = [.nilp] := (rfl)
theorem zx149 {x : AV} : boxV x = if x.cells.all AV.one = true then some x.cells else none := (rfl)
theorem zx152 {cs : List AV} : fillA cs [] = some cs := (rfl)
theorem zx153 {cs : List AV} {off size : Nat} {v : AV} {r : List (Nat × Nat × AV)} : fillA cs ((off, size, v) :: r) = if v.cells.length = size ∧ off + size ≤ cs.length ∧ v.cells.all AV.one = true then fillA (wr cs off v.cells) r else none := (rfl)
theorem zx154 {z : List AV} : reps 0 z = [] := (rfl)
theorem reps_s {n : Nat} {z : List AV} : reps (n + 1) z = z ++ reps n z := (rfl)
theorem zx155 {z : List AV} : reps 1 z = z := by simp [reps]
theorem zx156 {z : List AV} : reps 2 z = z ++ z := by simp [reps]
theorem zx157 {z : List AV} : reps 3 z = z ++ (z ++ z) := by simp [reps]
theorem zx158 {z : List AV} : reps 4 z = z ++ (z ++ (z ++ z)) := by simp [reps]
/-! ### A slice that grows -/
def AV.blk : AV → Option Nat
  | .s _ q _ _ _ => some q
  | _ => none
/-- a slice of the call's own: its block is from L on; its elements lie in other blocks, of which p holds -/
def Acc {α : Type} [Rep α] (L : Nat) (p : Nat → Prop) (H : Heap) (v : AV) (xs : List α) : Prop :=
  (v = .nils ∧ xs = []) ∨ ∃ b o c k, v = .s (Rep.sz α) b o xs.length c ∧ L ≤ b ∧ H[b]? = some (.cells k) ∧ o + xs.length * Rep.sz α ≤ k.length ∧ xs.length ≤ 9223372036854775807 ∧
    ∀ (i : Nat) (h : i < xs.length), Rep.rep (fun b' => p b' ∧ b' ≠ b) H ((k.drop (o + i * Rep.sz α)).take (Rep.sz α)) xs[i]
section
variable {α : Type} [Rep α] {L : Nat} {p q : Nat → Prop} {H H' : Heap} {v : AV} {xs : List α}
theorem Acc.nil : Acc L p H .nils ([] : List α) := .inl ⟨rfl, rfl⟩
theorem Acc.mono (h : Acc L p H v xs) (hk : Kp (fun b => L ≤ b ∨ p b) H H') (hq : ∀ b, p b → q b) : Acc L q H' v xs := by
  rcases h with h | ⟨b, o, c, k, e, hb, hk1, h1, h2, h3⟩
  · exact .inl h
  · exact .inr ⟨b, o, c, k, e, hb, hk.2 b k (.inl hb) hk1, h1, h2, fun i hi => Rep.mono (h3 i hi) (hk.weak fun b h => .inr h.1) fun b h => ⟨hq b h.1, h.2⟩⟩
theorem Acc.app (h : Acc L p H v xs) (N : Heap) : Acc L p (H ++ N) v xs := h.mono (Kp.app _ _ _) fun _ h => h
theorem Acc.blk_lt (h : Acc L p H v xs) {b : Nat} (e : v.blk = some b) : L ≤ b ∧ b < H.length := by
  rcases h with ⟨rfl, _⟩ | ⟨b', o, c, k, rfl, hb, hk, _⟩
  · cases e
  · cases e; exact ⟨hb, (List.getElem?_eq_some_iff.1 hk).1⟩
theorem Acc.sl (h : Acc L p H v xs) : Sl (fun b => p b ∨ L ≤ b) H v xs := by
  rcases h with h | ⟨b, o, c, k, e, hb, hk1, h1, h2, h3⟩
  · exact .inl h
  · exact .inr ⟨b, o, c, k, e, .inr hb, hk1, h1, h2, fun i hi => Rep.mono (h3 i hi) (Kp.refl _ _) fun _ h => .inl h.1⟩
theorem Acc.cellsV (h : Acc L p H v xs) : v.cells = [v] ∧ v.one = true := h.sl.cellsV
/-- one element more: 'cs' its cells; behind it all blocks but the slice's old one are kept -/
theorem Acc.push1 {lo bytes : Nat} {cs : List AV} {x : α} {Q : AV × Heap → Prop} (h : Acc L p H v xs) (hlo : lo ≤ L) (hL : L ≤ H.length) (hx : Rep.rep q H cs x) (hq : ∀ b, q b → p b ∧ v.blk ≠ some b)
    (hb : (xs.length + 1) * bytes ≤ 1099511627776) (hb0 : 0 < bytes)
    (go : ∀ v' H', Acc L p H' v' (xs ++ [x]) → Kp (fun b => v.blk ≠ some b) H H' → H.length < H'.length → v'.blk = some (H'.length - 1) → Q (v', H')) :
    @optP _ (appendV lo (Rep.sz α) bytes v (.s (Rep.sz α) H.length 0 1 (some 1)) (H ++ [.cells cs])) ⟨Q⟩ := by
  have hlen : cs.length = Rep.sz α := Rep.len hx
  have hc : cellsOf (Rep.sz α) 1 (.s (Rep.sz α) H.length 0 1 (some 1)) (H ++ [.cells cs]) = some cs := by
    simp [cellsOf, ldn, hlen]
    rw [← hlen]; exact List.take_length
  have hxl : xs.length ≤ 9223372036854775806 := by
    have : xs.length + 1 ≤ (xs.length + 1) * bytes := Nat.le_mul_of_pos_right _ hb0
    omega
  have hmb : mostBytes = 1099511627776 := by decide
  simp only [appendV, Go.AM.lenA, hc, optP]
  rcases h with ⟨rfl, rfl⟩ | ⟨b, o, c, k, rfl, hbl, hk, h1, h2, h3⟩
  · simp only [appendA]
    rw [if_neg (by omega), if_pos (by rw [hmb]; simpa using hb)]
    refine ⟨_, rfl, ?_⟩
    refine go _ _ (.inr ⟨_, 0, none, cs, rfl, by simp; omega, ?_, by simp [hlen], by simp, ?_⟩) ?_ (by simp) (by simp [AV.blk])
    · rw [List.getElem?_append_right (Nat.le_refl _), Nat.sub_self]; rfl
    · intro i hi
      simp at hi
      subst hi
      simp only [Nat.zero_mul, Nat.add_zero, List.drop_zero]
      rw [← hlen, List.take_length]
      have h4 := Rep.low hx
      refine Rep.mono h4 (((Kp.app _ _ _).app' _).weak fun _ h => h) fun b hb => ⟨(hq b hb.1).1, ?_⟩
      have := hb.2; simp; omega
    · exact (Kp.app _ _ _).app' _
  · have hbH : b < H.length := (List.getElem?_eq_some_iff.1 hk).1
    simp only [appendA, ne_eq, not_true_eq_false, if_false, Nat.succ_ne_zero]
    rw [List.getElem?_append_left hbH, hk]
    simp only []
    rw [if_pos ⟨h1, by rw [hmb]; exact hb⟩]
    have hkt : ((k.drop o).take (xs.length * Rep.sz α)).length = xs.length * Rep.sz α := by rw [List.length_take, List.length_drop]; omega
    have fin : ∀ H2 : Heap, H2.length = H.length + 1 → Kp (fun b' => b' ≠ b) H H2 → Q (.s (Rep.sz α) H2.length 0 (xs.length + 1) none, H2 ++ [.cells ((k.drop o).take (xs.length * Rep.sz α) ++ cs)]) := by
      intro H2 hl2 hkp
      refine go _ _ (.inr ⟨H2.length, 0, none, (k.drop o).take (xs.length * Rep.sz α) ++ cs, by simp, by omega, ?_, ?_, by simp; omega, ?_⟩) ?_ (by simp; omega) (by simp [AV.blk])
      · rw [List.getElem?_append_right (Nat.le_refl _), Nat.sub_self]; rfl
      · simp [hkt, hlen, Nat.succ_mul]
      · intro i hi
        rw [Nat.zero_add]
        by_cases hi' : i < xs.length
        · rw [List.getElem_append_left hi']
          have hle : i * Rep.sz α + Rep.sz α ≤ xs.length * Rep.sz α := by rw [← Nat.succ_mul]; exact Nat.mul_le_mul_right _ (by omega)
          have e1 : (((k.drop o).take (xs.length * Rep.sz α) ++ cs).drop (i * Rep.sz α)).take (Rep.sz α) = (k.drop (o + i * Rep.sz α)).take (Rep.sz α) := by
            rw [List.drop_append_of_le_length (by omega), List.take_append_of_le_length (by rw [List.length_drop]; omega), List.drop_take, List.drop_drop, List.take_take]
            congr 1
            omega
          rw [e1]
          refine Rep.mono (Rep.low (h3 i hi')) (((hkp.trans (Kp.app (fun _ => True) _ _) fun _ _ => trivial)).weak fun b' h => h.1.2) fun b' h => ⟨h.1.1, ?_⟩
          have := h.2; omega
        · have : i = xs.length := by simp at hi; omega
          subst this
          have e1 : (xs ++ [x])[xs.length]'hi = x := by simp
          rw [e1, List.drop_append_of_le_length (by omega)]
          have e2 : ((k.drop o).take (xs.length * Rep.sz α)).drop (xs.length * Rep.sz α) = [] := by rw [List.drop_eq_nil_iff]; omega
          rw [e2, List.nil_append, ← hlen, List.take_length]
          refine Rep.mono (Rep.low hx) (((hkp.trans (Kp.app (fun _ => True) _ _) fun _ _ => trivial)).weak fun b' h => fun e => (hq b' h.1).2 (by simp [AV.blk, e])) fun b' h => ⟨(hq b' h.1).1, ?_⟩
          have := h.2; omega
      · exact (hkp.trans (Kp.app (fun _ => True) _ _) fun _ _ => trivial).weak fun b' h e => h (by simp [AV.blk, e])
    by_cases hcap : c = some xs.length
    · rw [if_pos hcap]
      refine ⟨_, rfl, ?_⟩
      exact fin _ (by simp) ((Kp.app _ _ _).weak fun _ h => h)
    · rw [if_neg hcap, if_pos (by omega)]
      refine ⟨_, rfl, ?_⟩
      have := fin ((H ++ [Blk.cells cs]).set b Blk.dead) (by simp) ⟨by simp, fun b' k' hne hk' => by
        rw [List.getElem?_set_ne (Ne.symm hne)]
        rw [List.getElem?_append_left (List.getElem?_eq_some_iff.1 hk').1]; exact hk'⟩
      simpa using this
end

section
variable {p q : Nat → Prop} {L lo : Nat} {H H' H0 : Heap} {v : AV}
theorem Acc.pushI {n : Nat} {xs : List Int} {x : Int} {Q : AV × Heap → Prop} (h : Acc L p H v xs) (hlo : lo ≤ L) (hL : L ≤ H.length) (hb : (xs.length + 1) * 8 ≤ 1099511627776)
    (go : ∀ v' H', Acc L p H' v' (xs ++ [x]) → Kp (fun b => v.blk ≠ some b) H H' → H.length < H'.length → v'.blk = some (H'.length - 1) → Q (v', H')) (hn : n = H.length := by first | rfl | simp) :
    @optP _ (appendV lo 1 8 v (.s 1 n 0 1 (some 1)) (H ++ [.cells [.i x]])) ⟨Q⟩ := by
  subst hn
  exact Acc.push1 (q := fun _ => False) (cs := [.i x]) h hlo hL rfl (fun _ h => h.elim) hb (by omega) go
theorem Acc.pushL {n : Nat} {β : Type} [Rep β] {xs : List (List β)} {x : List β} {y : AV} {Q : AV × Heap → Prop} (h : Acc L p H v xs) (hlo : lo ≤ L) (hL : L ≤ H.length) (hy : Sl q H y x) (hq : ∀ b, q b → p b ∧ v.blk ≠ some b) (hb : (xs.length + 1) * 24 ≤ 1099511627776)
    (go : ∀ v' H', Acc L p H' v' (xs ++ [x]) → Kp (fun b => v.blk ≠ some b) H H' → H.length < H'.length → v'.blk = some (H'.length - 1) → Q (v', H')) (hn : n = H.length := by first | rfl | simp) :
    @optP _ (appendV lo 1 24 v (.s 1 n 0 1 (some 1)) (H ++ [.cells [y]])) ⟨Q⟩ := by
  subst hn
  exact Acc.push1 (q := q) (cs := [y]) h hlo hL ⟨y, rfl, hy⟩ hq hb (by omega) go
theorem Acc.push2 {n : Nat} {xs : List (Int × Int)} {x y : Int} {Q : AV × Heap → Prop} (h : Acc L p H v xs) (hlo : lo ≤ L) (hL : L ≤ H.length) (hb : (xs.length + 1) * 16 ≤ 1099511627776)
    (go : ∀ v' H', Acc L p H' v' (xs ++ [(x, y)]) → Kp (fun b => v.blk ≠ some b) H H' → H.length < H'.length → v'.blk = some (H'.length - 1) → Q (v', H')) (hn : n = H.length := by first | rfl | simp) :
    @optP _ (appendV lo 2 16 v (.s 2 n 0 1 (some 1)) (H ++ [.cells [.i x, .i y]])) ⟨Q⟩ := by
  subst hn
  exact Acc.push1 (q := fun _ => False) (cs := [.i x, .i y]) (x := (x, y)) h hlo hL ⟨[.i x], [.i y], rfl, rfl, rfl⟩ (fun _ h => h.elim) hb (by omega) go
/-- all the blocks that were there stay -/
abbrev Gr (H H' : Heap) : Prop := Kp (fun b => b < H.length) H H'
theorem Gr.refl (H : Heap) : Gr H H := Kp.refl _ _
theorem Gr.all (h : Gr H H') : Kp (fun _ => True) H H' := ⟨h.1, fun b k _ hk => h.2 b k (List.getElem?_eq_some_iff.1 hk).1 hk⟩
theorem Gr.of (h : Kp p H H') (hp : ∀ b, b < H.length → p b) : Gr H H' := h.weak hp
theorem Gr.trans {H2 : Heap} (h : Gr H H') (h' : Gr H' H2) : Gr H H2 := Kp.trans h h' fun b hb => Nat.lt_of_lt_of_le hb h.1
theorem Gr.trans' {H2 : Heap} (h : Gr H H') (h' : Kp p H' H2) (hp : ∀ b, b < H.length → p b) : Gr H H2 := Kp.trans h h' hp
theorem Gr.app (h : Gr H H') (N : Heap) : Gr H (H' ++ N) := Kp.app' h N
theorem Gr.push {α : Type} [Rep α] {xs : List α} (h : Gr H0 H) (ha : Acc L p H v xs) (hL : H0.length ≤ L) (hk : Kp (fun b => v.blk ≠ some b) H H') : Gr H0 H' :=
  Kp.trans h hk fun b hb e => by have := (ha.blk_lt e).1; omega
theorem Gr.set (h : Gr H0 H) {b : Nat} (hb : H0.length ≤ b) (k : Blk) : Gr H0 (H.set b k) :=
  Kp.trans h (Kp.set b H k) fun b' hb' e => by omega
theorem Gr.get (h : Gr H H') {b : Nat} {cs : List AV} (hk : H[b]? = some (.cells cs)) : H'[b]? = some (.cells cs) := h.all.2 b cs trivial hk
theorem Sl.gr {α : Type} [Rep α] {xs : List α} (h : Sl p H v xs) (hg : Gr H H') : Sl p H' v xs := h.mono hg.all.weakT fun _ h => h
theorem Acc.gr {α : Type} [Rep α] {xs : List α} (h : Acc L p H v xs) (hg : Gr H H') : Acc L p H' v xs := h.mono hg.all.weakT fun _ h => h
end

/-! ### Regions that draw their order, with loads to be looked at -/
section
variable {E : Tab} {lo : Nat} {rd : Option Nat} {k : List AI} {a : Fr} {H : Heap}
def chkP (ck : List (Nat × Nat)) (l : List AOper) (tr : List (Fr × Heap)) [p : St] : Prop := ck.all (chk1 l tr) = true ∧ p.p
theorem chkI {ck : List (Nat × Nat)} {l : List AOper} {tr : List (Fr × Heap)} {p : Prop} (h : ck.all (chk1 l tr) = true) (hp : p) : @chkP ck l tr ⟨p⟩ := ⟨h, hp⟩
theorem zx163 {c : Nat × Nat} {cs : List (Nat × Nat)} {l : List AOper} {Q : Out → Fr → Heap → Prop} : Wp E lo rd (.code (.reg (some (c :: cs)) l) :: k) a H Q = @lpP ⟨Wp E lo rd (.code (.reg (some (c :: cs)) l) :: k) a H Q⟩ := (rfl)
class TrC where
  tr : List (Fr × Heap)
def WpT (E : Tab) (lo : Nat) (l : List AOper) (a : Fr) (H : Heap) [tr : TrC] (Q : List (Fr × Heap) → Fr → Heap → Prop) : Prop := WpTr E lo l a H tr.tr Q
theorem wpC {ck : List (Nat × Nat)} {l : List AOper} {Q : Out → Fr → Heap → Prop} (h : @WpT E lo l a H ⟨[]⟩ fun tr a' H' => @chkP ck l tr ⟨Wp E lo rd k a' H' Q⟩) : Wp E lo rd (.code (.reg (some ck) l) :: k) a H Q := Wp.regC h
theorem zx165 {tr : List (Fr × Heap)} {Q : List (Fr × Heap) → Fr → Heap → Prop} : @WpT E lo [] a H ⟨tr⟩ Q = Q (tr ++ [(a, H)]) a H := (rfl)
theorem zx166 {d : Nat} {op : AOp} {os : List AOper} {tr : List (Fr × Heap)} {Q : List (Fr × Heap) → Fr → Heap → Prop} : @WpT E lo (⟨some d, op, none⟩ :: os) a H ⟨tr⟩ Q = WpOp E lo op a H fun v H' => @WpT E lo os (a.upd d v) H' ⟨tr ++ [(a, H)]⟩ Q := (rfl)
theorem zx167 {op : AOp} {os : List AOper} {tr : List (Fr × Heap)} {Q : List (Fr × Heap) → Fr → Heap → Prop} : @WpT E lo (⟨none, op, none⟩ :: os) a H ⟨tr⟩ Q = WpOp E lo op a H fun _ H' => @WpT E lo os a H' ⟨tr ++ [(a, H)]⟩ Q := (rfl)
end
end Go.AM
