/- Operations whose order is drawn: what their abstract forms say of which may change places. No condition. -/
import Derived.Test.YtflekaacffdakaaAmQ
namespace Go.AM
open Go Go.RowKit

def stepV (E : Tab) (rec : Rec) (lo : Nat) (o : AOper) (a : Fr) (H : Heap) : Option (AV × Heap) :=
  match wantedA a o.guard with
  | some true => opF E rec lo o.op a H
  | some false => some (.no, H)
  | none => none

/-! ### The order's masks -/
theorem upOf_bit {acc : List Nat} {i : Nat} : ∀ {es : List Nat} {m : Nat}, (es.foldl (fun m e => m ||| 2 ^ e ||| acc.getD e 0) m).testBit i = true → m.testBit i = true ∨ ∃ e ∈ es, e = i ∨ (acc.getD e 0).testBit i = true
  | [], _, h => .inl h
  | e :: es, m, h => by
    simp only [List.foldl_cons] at h
    rcases upOf_bit h with h | ⟨e', he, h⟩
    · simp only [Nat.testBit_or, Bool.or_eq_true, Nat.testBit_two_pow, decide_eq_true_eq] at h
      rcases h with (h | h) | h
      · exact .inl h
      · exact .inr ⟨e, by simp, .inl h⟩
      · exact .inr ⟨e, by simp, .inr h⟩
    · exact .inr ⟨e', by simp [he], h⟩
theorem maskOf_bit' {t : Nat} : ∀ {l : List Nat} {m : Nat}, (m.testBit t = true ∨ t ∈ l) → (l.foldl (fun m t => m ||| 2 ^ t) m).testBit t = true
  | [], _, h => by simpa using h
  | x :: l, m, h => by
    simp only [List.foldl_cons]
    refine maskOf_bit' ?_
    rcases h with h | h
    · left; simp [Nat.testBit_or, h]
    · rcases List.mem_cons.1 h with rfl | h
      · left; simp [Nat.testBit_or]
      · exact .inr h
theorem maskOf_bit {l : List Nat} {t : Nat} (h : t ∈ l) : (maskOf l).testBit t = true := maskOf_bit' (.inr h)

theorem ups_spec : ∀ (os : List Oper) (acc : List Nat), ∃ rest, ups acc os = acc ++ rest ∧ rest.length = os.length ∧
    ∀ (j : Nat) (o : Oper), os[j]? = some o → rest[j]? = some (upOf (acc ++ rest.take j) (edges o))
  | [], acc => ⟨[], by simp [ups], rfl, fun j o h => by simp at h⟩
  | o :: os, acc => by
    obtain ⟨rest, h1, h2, h3⟩ := ups_spec os (acc ++ [upOf acc (edges o)])
    refine ⟨upOf acc (edges o) :: rest, by simp [ups, h1], by simp [h2], fun j o' h => ?_⟩
    cases j with
    | zero => simp at h; subst h; simp
    | succ j =>
      simp at h
      have := h3 j o' h
      simpa using this
theorem edgesOk_spec : ∀ {os : List Oper} {k : Nat}, edgesOk k os = true → ∀ (j : Nat) (o : Oper), os[j]? = some o → ∀ e ∈ edges o, e < k + j
  | [], _, _, j, o, h => by simp at h
  | o :: os, k, hk, j, o', h => by
    simp only [edgesOk, Bool.and_eq_true] at hk
    cases j with
    | zero => simp at h; subst h; intro e he; simpa using List.all_eq_true.1 hk.1 e he
    | succ j => simp at h; intro e he; have := edgesOk_spec hk.2 j o' h e he; omega

/-- i stands ahead of j in every order -/
def Ahead (ops : List Oper) (j i : Nat) : Prop := ((ups [] ops).getD j 0).testBit i = true
theorem ahead_spec {ops : List Oper} (he : edgesOk 0 ops = true) {j i : Nat} {o : Oper} (ho : ops[j]? = some o) (h : Ahead ops j i) : ∃ e ∈ edges o, e = i ∨ Ahead ops e i := by
  obtain ⟨rest, h1, h2, h3⟩ := ups_spec ops []
  simp only [List.nil_append] at h1 h3
  unfold Ahead at h
  rw [h1] at h
  have hj := h3 j o ho
  rw [List.getD_eq_getElem?_getD, hj] at h
  simp only [Option.getD_some, upOf] at h
  rcases upOf_bit h with h | ⟨e, hem, h⟩
  · simp at h
  · refine ⟨e, hem, h.imp id fun h => ?_⟩
    have hlt := edgesOk_spec he j o ho e hem
    unfold Ahead
    rw [h1]
    rw [List.getD_eq_getElem?_getD] at h ⊢
    rw [List.getElem?_take, if_pos (by omega)] at h
    exact h

theorem infos_spec {kd : Nat → Kd} : ∀ {us : List Nat} {xs : List AOper}, us.length = xs.length → ∀ (j : Nat) (x : AOper), xs[j]? = some x → (infos kd us xs)[j]? = some ⟨x.dst, maskOf x.reads, x.op.cl kd, us.getD j 0⟩
  | [], [], _, j, x, h => by simp at h
  | [], _ :: _, h, _, _, _ => by simp at h
  | _ :: _, [], h, _, _, _ => by simp at h
  | u :: us, y :: ys, hl, j, x, h => by
    cases j with
    | zero => simp at h; subst h; simp [infos]
    | succ j => simp at h; simp only [infos, List.getElem?_cons_succ, List.getD_cons_succ]; exact infos_spec (by simpa using hl) j x h
theorem pairsOk_spec {ck : List (Nat × Nat)} {j : Nat} {y : OI} : ∀ {xs : List OI} {k : Nat}, pairsOk ck j y k xs = true → ∀ (i : Nat) (x : OI), xs[i]? = some x → pairOk ck (k + i) j x y = true
  | [], _, _, i, x, h => by simp at h
  | z :: zs, k, hk, i, x, h => by
    simp only [pairsOk, Bool.and_eq_true] at hk
    cases i with
    | zero => simp at h; subst h; simpa using hk.1
    | succ i => simp at h; have := pairsOk_spec hk.2 i x h; rwa [show k + 1 + i = k + (i + 1) by omega] at this
theorem allOk_spec {ck : List (Nat × Nat)} : ∀ {ys past : List OI} {k : Nat}, k = past.length → allOk ck past k ys = true → ∀ (i j : Nat) (x y : OI), i < j → past.length ≤ j → (past ++ ys)[i]? = some x → (past ++ ys)[j]? = some y → pairOk ck i j x y = true
  | [], past, k, _, _, i, j, x, y, _, hj, _, h2 => by
    have := (List.getElem?_eq_some_iff.1 h2).1
    simp at this; omega
  | z :: zs, past, k, hk, h, i, j, x, y, hij, hj, h1, h2 => by
    simp only [allOk, Bool.and_eq_true] at h
    by_cases hjk : j = past.length
    · subst hjk
      rw [List.getElem?_append_right (Nat.le_refl _)] at h2
      simp at h2; subst h2
      rw [List.getElem?_append_left hij] at h1
      have := pairsOk_spec h.1 i x h1
      rw [hk] at this
      simpa using this
    · refine allOk_spec (past := past ++ [z]) (k := k + 1) (by simp [hk]) h.2 i j x y hij (by simp; omega) ?_ ?_
      · simpa using h1
      · simpa using h2

/-- what two operations, i ahead of j, are to each other -/
theorem pair_spec {kd : Nat → Kd} {ops : List Oper} {l : List AOper} {ck : List (Nat × Nat)} (h : drawOk kd ops l ck = true) (hl : l.length = ops.length) {i j : Nat} {x y : AOper} (hij : i < j) (hx : l[i]? = some x) (hy : l[j]? = some y) :
    (∀ d d', x.dst = some d → y.dst = some d' → d ≠ d') ∧
    (Ahead ops j i ∨ ((∀ d, x.dst = some d → d ∉ y.reads) ∧ (∀ d, y.dst = some d → d ∉ x.reads) ∧ memOk ck i j (x.op.cl kd) (y.op.cl kd) = true)) := by
  unfold drawOk at h
  rw [Bool.and_eq_true] at h
  obtain ⟨rest, h1, h2, _⟩ := ups_spec ops []
  simp only [List.nil_append] at h1
  have hlen : (ups [] ops).length = l.length := by rw [h1, h2, hl]
  have := allOk_spec (past := []) rfl h.2 i j _ _ hij (by simp) (by simpa using infos_spec (kd := kd) hlen i x hx) (by simpa using infos_spec (kd := kd) hlen j y hy)
  simp only [pairOk, Bool.and_eq_true, Bool.or_eq_true] at this
  refine ⟨fun d d' e e' => ?_, this.2.imp id fun q => ⟨fun d e hm => ?_, fun d e hm => ?_, q.2⟩⟩
  · have h3 := this.1
    rw [e, e'] at h3
    simpa [apart] using h3
  · have h3 := q.1.1
    rw [e] at h3
    simp [offMask, maskOf_bit hm] at h3
  · have h3 := q.1.2
    rw [e] at h3
    simp [offMask, maskOf_bit hm] at h3

/-! ### What an operation reads -/
theorem ev_congr {a a' : Fr} {x : AX} (h : ∀ t ∈ x.reads, a t = a' t) : ev a x = ev a' x := by
  cases x with
  | t n => exact h n (by simp [AX.reads])
  | c v => rfl
theorem evs_congr {a a' : Fr} {xs : List AX} (h : ∀ t ∈ xs.flatMap AX.reads, a t = a' t) : xs.map (ev a) = xs.map (ev a') :=
  List.map_congr_left fun x hx => ev_congr fun t ht => h t (List.mem_flatMap.2 ⟨x, hx, ht⟩)
theorem bound_congr {a a' : Fr} {x : Option AX} (h : ∀ t ∈ readsO x, a t = a' t) (d m : Nat) : boundA a x d m = boundA a' x d m := by
  cases x with
  | none => rfl
  | some x => simp only [boundA, ev_congr (a := a) (a' := a') (x := x) h]
theorem opF_congr {E : Tab} {rec : Rec} {lo : Nat} {a a' : Fr} {H : Heap} {op : AOp} (h : ∀ t ∈ op.reads, a t = a' t) : opF E rec lo op a H = opF E rec lo op a' H := by
  cases op
  case build z ps =>
    have : (ps.map fun q => (q.1, q.2.1, ev a q.2.2)) = ps.map fun q => (q.1, q.2.1, ev a' q.2.2) := List.map_congr_left fun q hq => by
      rw [ev_congr (a := a) (a' := a') fun t ht => h t (by simp only [AOp.reads, List.mem_flatMap]; exact ⟨q, hq, ht⟩)]
    simp only [opF, opA, this]
  case bslice z n es ps =>
    have : (ps.map fun q => (q.1 * es, es, ev a q.2)) = ps.map fun q => (q.1 * es, es, ev a' q.2) := List.map_congr_left fun q hq => by
      rw [ev_congr (a := a) (a' := a') fun t ht => h t (by simp only [AOp.reads, List.mem_flatMap]; exact ⟨q, hq, ht⟩)]
    simp only [opF, opA, this]
  case alloc | lenA | bad => rfl
  case mn xs | mx xs => simp only [opF, opA, evs_congr (a := a) (a' := a') h]
  case mkfn f us xs =>
    simp only [AOp.reads, List.mem_append] at h
    simp only [opF, opA, evs_congr (a := a) (a' := a') (xs := us) fun t ht => h t (.inl ht), evs_congr (a := a) (a' := a') (xs := xs) fun t ht => h t (.inr ht)]
  case call f xs => simp only [opF, evs_congr (a := a) (a' := a') h]
  case callv x xs =>
    simp only [AOp.reads, List.mem_append] at h
    simp only [opF, ev_congr (a := a) (a' := a') (x := x) fun t ht => h t (.inl ht), evs_congr (a := a) (a' := a') (xs := xs) fun t ht => h t (.inr ht)]
  case slice es x l hh m =>
    simp only [AOp.reads, List.mem_append] at h
    simp only [opF, opA, ev_congr (a := a) (a' := a') (x := x) fun t ht => h t (.inl (.inl (.inl ht))), bound_congr (a := a) (a' := a') (x := l) fun t ht => h t (.inl (.inl (.inr ht))), bound_congr (a := a) (a' := a') (x := hh) fun t ht => h t (.inl (.inr ht)), bound_congr (a := a) (a' := a') (x := m) fun t ht => h t (.inr ht)]
  case slarr n es x l hh =>
    simp only [AOp.reads, List.mem_append] at h
    simp only [opF, opA, ev_congr (a := a) (a' := a') (x := x) fun t ht => h t (.inl (.inl ht)), bound_congr (a := a) (a' := a') (x := l) fun t ht => h t (.inl (.inr ht)), bound_congr (a := a) (a' := a') (x := hh) fun t ht => h t (.inr ht)]
  case pick c x y =>
    simp only [AOp.reads, List.mem_append] at h
    simp only [opF, opA, ev_congr (a := a) (a' := a') (x := c) fun t ht => h t (.inl (.inl ht)), ev_congr (a := a) (a' := a') (x := x) fun t ht => h t (.inl (.inr ht)), ev_congr (a := a) (a' := a') (x := y) fun t ht => h t (.inr ht)]
  case store n x y | bin op x y | beq neg x y | seq neg x y | aeq neg n x y | iaddr es x y | iaddrA n es x y | index n es ag x y | append es b x y | appendz es b z x y | copy es x y =>
    simp only [AOp.reads, List.mem_append] at h
    simp only [opF, opA, ev_congr (a := a) (a' := a') (x := x) fun t ht => h t (.inl ht), ev_congr (a := a) (a' := a') (x := y) fun t ht => h t (.inr ht)]
  all_goals simp only [opF, opA, ev_congr (a := a) (a' := a') h]
theorem stepV_congr {E : Tab} {rec : Rec} {lo : Nat} {a a' : Fr} {H : Heap} {o : AOper} (h : ∀ t ∈ o.reads, a t = a' t) : stepV E rec lo o a H = stepV E rec lo o a' H := by
  obtain ⟨dst, op, guard⟩ := o
  simp only [AOper.reads, List.mem_append] at h
  have h1 : opF E rec lo op a H = opF E rec lo op a' H := opF_congr fun t ht => h t (.inl ht)
  have h2 : wantedA a guard = wantedA a' guard := by
    cases guard with
    | none => rfl
    | some q => obtain ⟨s, w⟩ := q; simp only [wantedA, h s (.inr (by simp))]
  simp only [stepV, h1, h2]

/-! ### How it stands to memory -/
theorem opF_pure {E : Tab} {rec : Rec} {lo : Nat} {kd : Nat → Kd} {a : Fr} {H H1 : Heap} {op : AOp} {v : AV} (hc : op.cl kd = .pure) (h : opF E rec lo op a H = some (v, H1)) : H1 = H ∧ ∀ (G : Heap) (lo' : Nat), opF E rec lo' op a G = some (v, G) := by
  cases op <;> simp only [AOp.cl] at hc <;> try (first | cases hc; done | (split at hc <;> cases hc; done))
  all_goals
    simp only [opF, opA] at h ⊢
    repeat' (split at h)
    all_goals first
      | (cases h; done)
      | (cases h; exact ⟨rfl, fun G lo' => by simp_all⟩)
      | (obtain ⟨u, hu, e⟩ := Option.map_eq_some_iff.1 h; cases e; exact ⟨rfl, fun G lo' => by simp_all⟩)
theorem opF_new {E : Tab} {rec : Rec} {lo : Nat} {kd : Nat → Kd} {a : Fr} {H H1 : Heap} {op : AOp} {v : AV} (hc : op.cl kd = .new) (h : opF E rec lo op a H = some (v, H1)) :
    ∃ vs, H1 = H ++ [.cells vs] ∧ ∀ (G : Heap) (lo' : Nat), G.length = H.length → opF E rec lo' op a G = some (v, G ++ [.cells vs]) := by
  cases op <;> simp only [AOp.cl] at hc <;> try (first | cases hc; done | (split at hc <;> cases hc; done))
  all_goals
    simp only [opF, opA] at h ⊢
    repeat' (split at h)
    all_goals first
      | (cases h; done)
      | (cases h; exact ⟨_, rfl, fun G lo' hl => by simp_all⟩)
      | (obtain ⟨u, hu, e⟩ := Option.map_eq_some_iff.1 h; cases e; exact ⟨_, rfl, fun G lo' hl => by simp_all⟩)
def noLoop : Blk → Prop
  | .loop .. => False
  | _ => True
theorem callF_call {E : Tab} {rec : Rec} {lo : Nat} {H H1 : Heap} {f : Nat} {vs : List AV} {v : AV} (hk : E.kd f ≠ .wrt) (h : callF E rec lo f vs H = some (v, H1)) :
    (∃ new : List Blk, H1 = H ++ new ∧ ∀ k ∈ new, noLoop k) ∧ ∀ lo', callF E rec lo' f vs H = some (v, H1) := by
  unfold callF at h ⊢
  cases hf : E.kd f with
  | wrt => exact absurd hf hk
  | prim g =>
    simp only [hf] at h ⊢
    refine ⟨?_, fun _ => h⟩
    obtain ⟨u, _, e⟩ := Option.bind_eq_some_iff.1 h
    split at e
    · cases e; exact ⟨[], by simp, fun _ hk => by cases hk⟩
    · cases e
  | ro =>
    simp only [hf] at h ⊢
    refine ⟨?_, fun _ => h⟩
    obtain ⟨u, _, e⟩ := Option.bind_eq_some_iff.1 h
    obtain ⟨r, _, e2⟩ := Option.map_eq_some_iff.1 e
    cases e2
    split
    · exact ⟨[], by simp, fun _ hk => by cases hk⟩
    · refine ⟨_, rfl, fun k hk => ?_⟩
      obtain ⟨k0, _, rfl⟩ := List.mem_map.1 hk
      cases k0 <;> trivial
  | closed =>
    simp only [hf] at h ⊢
    refine ⟨?_, fun _ => h⟩
    split at h
    · obtain ⟨u, _, e⟩ := Option.bind_eq_some_iff.1 h
      obtain ⟨r, _, e2⟩ := Option.bind_eq_some_iff.1 e
      split at e2
      · cases e2; exact ⟨[], by simp, fun _ hk => by cases hk⟩
      · cases e2
    · cases h
theorem opF_call {E : Tab} {rec : Rec} {lo : Nat} {a : Fr} {H H1 : Heap} {op : AOp} {v : AV} (hc : op.cl E.kd = .call) (h : opF E rec lo op a H = some (v, H1)) :
    (∃ new : List Blk, H1 = H ++ new ∧ ∀ k ∈ new, noLoop k) ∧ ∀ lo', opF E rec lo' op a H = some (v, H1) := by
  cases op <;> simp only [AOp.cl] at hc <;> try (cases hc; done)
  rename_i f args
  simp only [opF] at h ⊢
  exact callF_call (fun e => by rw [e] at hc; cases hc) h
end Go.AM
