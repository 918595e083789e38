/- What the law needs: what its functions do, and the laws on lists behind it. No condition. -/
import Derived.Test.YtalaadcbpjnglaaPi
import Derived.Test.YtalaadcbpjnglaaBo
import Derived.KernelRfl
import Derived.WalkKit
import Derived.ProofKit
import Derived.OpenShut
import Derived.ShutString
import Derived.ChangeOld
import Derived.Below
import Derived.SizedLaws
import Derived.Carry
set_option linter.unusedSimpArgs false
set_option linter.unusedVariables false
namespace Go.AM
open Go
inductive HT where
  | leaf
  | node (v : Blk) (l r : HT)
def HT.get : HT → Nat → Blk
  | .leaf, _ => .dead
  | .node v l r, n => bif Nat.beq n 0 then v else bif Nat.beq (n % 2) 1 then l.get (n / 2) else r.get (n / 2 - 1)
def HT.set : Nat → HT → Nat → Blk → HT
  | 0, t, _, _ => t
  | d + 1, .leaf, n, k => bif Nat.beq n 0 then .node k .leaf .leaf else bif Nat.beq (n % 2) 1 then .node .dead (HT.set d .leaf (n / 2) k) .leaf else .node .dead .leaf (HT.set d .leaf (n / 2 - 1) k)
  | d + 1, .node v l r, n, k => bif Nat.beq n 0 then .node k l r else bif Nat.beq (n % 2) 1 then .node v (HT.set d l (n / 2) k) r else .node v l (HT.set d r (n / 2 - 1) k)
theorem HT.get_leaf (n : Nat) : HT.get .leaf n = .dead := rfl
theorem HT.get_node (v : Blk) (l r : HT) (n : Nat) : HT.get (.node v l r) n = if n = 0 then v else if n % 2 = 1 then l.get (n / 2) else r.get (n / 2 - 1) := by
  show (bif Nat.beq n 0 then v else bif Nat.beq (n % 2) 1 then l.get (n / 2) else r.get (n / 2 - 1)) = _
  have e1 : Nat.beq n 0 = decide (n = 0) := by rw [Bool.eq_iff_iff, Nat.beq_eq, decide_eq_true_eq]
  have e2 : Nat.beq (n % 2) 1 = decide (n % 2 = 1) := by rw [Bool.eq_iff_iff, Nat.beq_eq, decide_eq_true_eq]
  rw [e1, e2]
  by_cases h1 : n = 0 <;> by_cases h2 : n % 2 = 1 <;> simp [h1, h2]
theorem HT.set_succ (d : Nat) (t : HT) (n : Nat) (k : Blk) : ∃ v l r, (∀ m, t.get m = HT.get (.node v l r) m) ∧
    HT.set (d + 1) t n k = if n = 0 then .node k l r else if n % 2 = 1 then .node v (HT.set d l (n / 2) k) r else .node v l (HT.set d r (n / 2 - 1) k) := by
  have e1 : Nat.beq n 0 = decide (n = 0) := by rw [Bool.eq_iff_iff, Nat.beq_eq, decide_eq_true_eq]
  have e2 : Nat.beq (n % 2) 1 = decide (n % 2 = 1) := by rw [Bool.eq_iff_iff, Nat.beq_eq, decide_eq_true_eq]
  cases t with
  | leaf =>
    refine ⟨.dead, .leaf, .leaf, fun m => ?_, ?_⟩
    · rw [HT.get_node]; simp [HT.get_leaf]
    · show (bif Nat.beq n 0 then _ else bif Nat.beq (n % 2) 1 then _ else _) = _
      rw [e1, e2]
      by_cases h1 : n = 0 <;> by_cases h2 : n % 2 = 1 <;> simp [h1, h2]
  | node v l r =>
    refine ⟨v, l, r, fun m => rfl, ?_⟩
    show (bif Nat.beq n 0 then _ else bif Nat.beq (n % 2) 1 then _ else _) = _
    rw [e1, e2]
    by_cases h1 : n = 0 <;> by_cases h2 : n % 2 = 1 <;> simp [h1, h2]
theorem HT.get_set : ∀ (d : Nat) (t : HT) (n : Nat) (k : Blk) (m : Nat), n + 1 < 2 ^ d → (HT.set d t n k).get m = if m = n then k else t.get m
  | 0, t, n, k, m, h => by simp at h
  | d + 1, t, n, k, m, h => by
    obtain ⟨v, l, r, h1, h2⟩ := HT.set_succ d t n k
    rw [h2, h1 m]
    have hp : 2 ^ (d + 1) = 2 * 2 ^ d := by rw [Nat.pow_succ]; omega
    by_cases e0 : n = 0
    · subst e0
      rw [if_pos rfl, HT.get_node, HT.get_node]
      by_cases e : m = 0 <;> simp [e]
    · rw [if_neg e0]
      by_cases e2 : n % 2 = 1
      · rw [if_pos e2, HT.get_node, HT.get_node, HT.get_set d l (n / 2) k (m / 2) (by omega)]
        by_cases e : m = 0
        · rw [if_pos e, if_pos e, if_neg (by omega)]
        · rw [if_neg e, if_neg e]
          by_cases e3 : m % 2 = 1
          · rw [if_pos e3, if_pos e3]
            by_cases e4 : m = n
            · rw [if_pos (by omega), if_pos e4]
            · rw [if_neg (by omega), if_neg e4]
          · rw [if_neg e3, if_neg e3, if_neg (by omega)]
      · rw [if_neg e2, HT.get_node, HT.get_node, HT.get_set d r (n / 2 - 1) k (m / 2 - 1) (by omega)]
        by_cases e : m = 0
        · rw [if_pos e, if_pos e, if_neg (by omega)]
        · rw [if_neg e, if_neg e]
          by_cases e3 : m % 2 = 1
          · rw [if_pos e3, if_pos e3, if_neg (by omega)]
          · rw [if_neg e3, if_neg e3]
            by_cases e4 : m = n
            · rw [if_pos (by omega), if_pos e4]
            · rw [if_neg (by omega), if_neg e4]
structure HS where
  n : Nat
  t : HT
def HS.abs (h : HS) : Heap := (List.range h.n).map h.t.get
def HS.at (h : HS) (b : Nat) : Option Blk := bif Nat.ble (b + 1) h.n then some (h.t.get b) else none
def HS.put (h : HS) (b : Nat) (k : Blk) : Option HS := bif Nat.ble (b + 1) h.n && Nat.ble h.n 1000000 then some ⟨h.n, h.t.set 21 b k⟩ else none
def HS.push (h : HS) (k : Blk) : Option HS := bif Nat.ble h.n 1000000 then some ⟨h.n + 1, h.t.set 21 h.n k⟩ else none
theorem HS.abs_len (h : HS) : h.abs.length = h.n := by simp [HS.abs]
theorem HS.abs_get (h : HS) (b : Nat) : h.abs[b]? = h.at b := by
  unfold HS.abs HS.at
  by_cases e : b < h.n
  · have : Nat.ble (b + 1) h.n = true := by rw [Nat.ble_eq]; omega
    simp [this, e]
  · have : Nat.ble (b + 1) h.n = false := by rw [← Bool.not_eq_true, Nat.ble_eq]; omega
    simp [this]; omega
theorem HS.abs_put {h h' : HS} {b : Nat} {k : Blk} (e : h.put b k = some h') : h'.abs = h.abs.set b k := by
  unfold HS.put at e
  cases hc : (Nat.ble (b + 1) h.n && Nat.ble h.n 1000000) with
  | false => rw [hc] at e; cases e
  | true =>
    rw [hc] at e
    cases e
    simp only [Bool.and_eq_true, Nat.ble_eq] at hc
    refine List.ext_getElem? fun i => ?_
    rw [List.getElem?_set, HS.abs_len, HS.abs_get, HS.abs_get]
    unfold HS.at
    simp only
    rw [HT.get_set 21 _ _ _ _ (by omega)]
    by_cases e1 : b = i
    · subst e1
      have : Nat.ble (b + 1) h.n = true := by rw [Nat.ble_eq]; omega
      simp [this, show b < h.n by omega]
    · simp [e1, Ne.symm e1]
theorem HS.abs_push {h h' : HS} {k : Blk} (e : h.push k = some h') : h'.abs = h.abs ++ [k] := by
  unfold HS.push at e
  cases hc : Nat.ble h.n 1000000 with
  | false => rw [hc] at e; cases e
  | true =>
    rw [hc] at e
    cases e
    rw [Nat.ble_eq] at hc
    refine List.ext_getElem? fun i => ?_
    rw [HS.abs_get]
    unfold HS.at
    simp only
    rw [HT.get_set 21 _ _ _ _ (by omega)]
    by_cases e1 : i < h.n
    · have h1 : Nat.ble (i + 1) (h.n + 1) = true := by rw [Nat.ble_eq]; omega
      have h2 : Nat.ble (i + 1) h.n = true := by rw [Nat.ble_eq]; omega
      rw [List.getElem?_append_left (by rw [HS.abs_len]; omega), HS.abs_get]
      simp [HS.at, h1, h2, show i ≠ h.n by omega]
    · by_cases e2 : i = h.n
      · subst e2
        have h1 : Nat.ble (h.n + 1) (h.n + 1) = true := by rw [Nat.ble_eq]; omega
        rw [List.getElem?_append_right (by rw [HS.abs_len]; omega), HS.abs_len]
        simp [h1]
      · have h1 : Nat.ble (i + 1) (h.n + 1) = false := by rw [← Bool.not_eq_true, Nat.ble_eq]; omega
        rw [List.getElem?_eq_none (by simp [HS.abs_len]; omega)]
        simp [h1]
end Go.AM
namespace Go.AM
open Go
def ldT (h : HS) (b o : Nat) : Option AV :=
  match h.at b with
  | some (.cells vs) => vs[o]?
  | _ => none
theorem ldT_eq (h : HS) (b o : Nat) : ldT h b o = ld h.abs b o := by
  unfold ldT ld
  rw [HS.abs_get]
  split <;> simp_all
def ldnT (h : HS) (b o n : Nat) : Option (List AV) :=
  match h.at b with
  | some (.cells vs) => if o + n ≤ vs.length then some ((vs.drop o).take n) else none
  | _ => none
theorem ldnT_eq (h : HS) (b o n : Nat) : ldnT h b o n = ldn h.abs b o n := by
  unfold ldnT ldn
  rw [HS.abs_get]
  split <;> simp_all
def stT (lo : Nat) (h : HS) (b o : Nat) (vs : List AV) : Option HS :=
  if lo ≤ b then
    match h.at b with
    | some (.cells cs) => if o + vs.length ≤ cs.length then h.put b (.cells (wr cs o vs)) else none
    | _ => none
  else none
theorem stT_ok {lo : Nat} {h h' : HS} {b o : Nat} {vs : List AV} (e : stT lo h b o vs = some h') : st lo h.abs b o vs = some h'.abs := by
  unfold stT at e
  unfold st
  rw [HS.abs_get]
  split at e
  · rename_i h1
    rw [if_pos h1]
    split at e
    · rename_i cs h2
      split at e
      · rename_i h3
        simp only [h2, if_pos h3, HS.abs_put e]
      · cases e
    · cases e
  · cases e
def cellsOfT (es m : Nat) (x : AV) (h : HS) : Option (List AV) :=
  match x with
  | .nils => if m = 0 then some [] else none
  | .s es' b o n _ => if m ≤ n ∧ es' = es then (if m = 0 then some [] else ldnT h b o (m * es)) else none
  | _ => none
theorem cellsOfT_eq (es m : Nat) (x : AV) (h : HS) : cellsOfT es m x h = cellsOf es m x h.abs := by
  unfold cellsOfT cellsOf
  cases x <;> simp only [ldnT_eq]
def appendT (lo es bytes : Nat) (sv : AV) (xs : List AV) (m : Nat) (h : HS) : Option (AV × HS) :=
  match sv with
  | .nils =>
    if m = 0 then some (.nils, h)
    else if m * bytes ≤ mostBytes then (h.push (.cells xs)).map fun h' => (.s es h.n 0 m none, h') else none
  | .s es' b o n c =>
    if es' ≠ es then none
    else if m = 0 then some (sv, h)
    else match h.at b with
      | some (.cells cs) =>
        if o + n * es ≤ cs.length ∧ (n + m) * bytes ≤ mostBytes then
          if c = some n then (h.push (.cells ((cs.drop o).take (n * es) ++ xs))).map fun h' => (.s es h.n 0 (n + m) none, h')
          else if lo ≤ b then (h.put b .dead).bind fun h1 => (h1.push (.cells ((cs.drop o).take (n * es) ++ xs))).map fun h' => (.s es h.n 0 (n + m) none, h')
          else none
        else none
      | _ => none
  | _ => none
theorem appendT_ok {lo es bytes : Nat} {sv v : AV} {xs : List AV} {m : Nat} {h h' : HS} (e : appendT lo es bytes sv xs m h = some (v, h')) : appendA lo es bytes sv xs m h.abs = some (v, h'.abs) := by
  unfold appendT at e
  unfold appendA
  rw [HS.abs_len]
  cases sv <;> simp only at e ⊢ <;> try (cases e; done)
  case nils =>
    split at e
    · rename_i h1; cases e; rw [if_pos h1]
    · rename_i h1
      rw [if_neg h1]
      split at e
      · rename_i h2
        obtain ⟨h3, h4, h5⟩ := Option.map_eq_some_iff.1 e
        cases h5
        rw [if_pos h2, HS.abs_push h4]
      · cases e
  case s es' b o n c =>
    split at e
    · cases e
    · rename_i h1
      rw [if_neg h1]
      split at e
      · rename_i h2; cases e; rw [if_pos h2]
      · rename_i h2
        rw [if_neg h2, HS.abs_get]
        split at e
        · rename_i cs hcs
          simp only [hcs]
          split at e
          · rename_i h3
            rw [if_pos h3]
            split at e
            · rename_i h4
              obtain ⟨h5, h6, h7⟩ := Option.map_eq_some_iff.1 e
              cases h7
              rw [if_pos h4, HS.abs_push h6]
            · rename_i h4
              rw [if_neg h4]
              split at e
              · rename_i h5
                obtain ⟨h6, h7, e⟩ := Option.bind_eq_some_iff.1 e
                obtain ⟨h8, h9, h10⟩ := Option.map_eq_some_iff.1 e
                cases h10
                rw [if_pos h5, HS.abs_push h9, HS.abs_put h7]
              · cases e
          · cases e
        · cases e
def pureT (r : Option (AV × Heap)) (h : HS) : Option (AV × HS) :=
  match r with
  | some (v, _) => some (v, h)
  | none => none
def t_alloc (z : List AV) (_ : Nat) (_ : Fr) (h : HS) : Option (AV × HS) := (h.push (.cells z)).map fun h' => (.p h.n 0, h')
def t_box (x : AX) (_ : Nat) (a : Fr) (h : HS) : Option (AV × HS) := if (ev a x).cells.all AV.one then (h.push (.cells (ev a x).cells)).map fun h' => (.p h.n 0, h') else none
def t_bslice (z : List AV) (len es : Nat) (parts : List (Nat × AX)) (_ : Nat) (a : Fr) (h : HS) : Option (AV × HS) :=
  (fillA (reps len z) (parts.map fun q => (q.1 * es, es, ev a q.2))).bind fun cs => (h.push (.cells cs)).map fun h' => (.s es h.n 0 len (some len), h')
def t_mkslice (es bytes : Nat) (z : List AV) (l : AX) (_ : Nat) (a : Fr) (h : HS) : Option (AV × HS) :=
  match ev a l with
  | .int .i64 n => if 0 ≤ n ∧ n.toNat * bytes ≤ mostBytes ∧ n ≤ 2 ^ 40 ∧ z.length = es then (h.push (.cells (reps n.toNat z))).map fun h' => (.s es h.n 0 n.toNat (some n.toNat), h') else none
  | _ => none
def t_load (n : Option Nat) (x : AX) (_ : Nat) (a : Fr) (h : HS) : Option (AV × HS) :=
  match ev a x with
  | .p b o => (match n with
    | none => (ldT h b o).map fun v => (v, h)
    | some n => (ldnT h b o n).map fun vs => (.ag vs, h))
  | _ => none
def t_store (n : Nat) (p x : AX) (lo : Nat) (a : Fr) (h : HS) : Option (AV × HS) :=
  match ev a p with
  | .p b o => if (ev a x).cells.length = n ∧ (ev a x).cells.all AV.one then (stT lo h b o (ev a x).cells).map fun h' => (.no, h') else none
  | _ => none
def t_append (es bytes : Nat) (s x : AX) (lo : Nat) (a : Fr) (h : HS) : Option (AV × HS) :=
  match lenA (ev a x) with
  | some m => (match cellsOfT es m (ev a x) h with
    | some xs => appendT lo es bytes (ev a s) xs m h
    | none => none)
  | none => none
def t_appendz (es bytes : Nat) (z : List AV) (s n : AX) (lo : Nat) (a : Fr) (h : HS) : Option (AV × HS) :=
  match ev a n with
  | .int .i64 n => if 0 ≤ n ∧ n ≤ 2 ^ 40 ∧ n.toNat * bytes ≤ mostBytes ∧ z.length = es then appendT lo es bytes (ev a s) (reps n.toNat z) n.toNat h else none
  | _ => none
def t_copy (es : Nat) (d s : AX) (lo : Nat) (a : Fr) (h : HS) : Option (AV × HS) :=
  match ev a d, lenA (ev a s) with
  | .s es' b o n _, some m => if es' ≠ es then none else match cellsOfT es (min m n) (ev a s) h with
    | some xs => if xs = [] then some (.i (min m n : Nat), h) else if xs.all AV.one then (stT lo h b o xs).map fun h' => (.i (min m n : Nat), h') else none
    | none => none
  | .nils, some _ => some (.i 0, h)
  | _, _ => none
def t_slarr (n es : Nat) (x : AX) (l hi : Option AX) (lo : Nat) (a : Fr) (h : HS) : Option (AV × HS) :=
  match ev a x with
  | .p b o => match boundA a hi n n with
    | some hi => match boundA a l 0 hi with
      | some lo' => match h.at b with
        | some (.cells cs) => if es = 1 ∧ lo ≤ b ∧ o + n ≤ cs.length then some (.s 1 b (o + lo') (hi - lo') (some (n - lo')), h) else none
        | _ => none
      | none => none
    | none => none
  | _ => none
noncomputable def opT (o : AOp) : Nat → Fr → HS → Option (AV × HS) :=
  @AOp.rec (fun _ => Nat → Fr → HS → Option (AV × HS)) (fun u0 lo a h => pureT (x_mv u0 lo a []) h) (fun u0 u1 u2 lo a h => pureT (x_pick u0 u1 u2 lo a []) h) t_alloc t_box (fun u0 u1 lo a h => pureT (x_build u0 u1 lo a []) h) t_bslice t_load t_store (fun u0 u1 u2 lo a h => pureT (x_bin u0 u1 u2 lo a []) h) (fun u0 u1 u2 lo a h => pureT (x_beq u0 u1 u2 lo a []) h) (fun u0 u1 u2 lo a h => pureT (x_seq u0 u1 u2 lo a []) h) (fun u0 u1 u2 u3 lo a h => pureT (x_aeq u0 u1 u2 u3 lo a []) h) (fun u0 u1 lo a h => pureT (x_un u0 u1 lo a []) h) (fun u0 u1 lo a h => pureT (x_conv u0 u1 lo a []) h) (fun u0 u1 u2 lo a h => pureT (x_mkfn u0 u1 u2 lo a []) h) t_mkslice (fun u0 u1 u2 u3 u4 lo a h => pureT (x_slice u0 u1 u2 u3 u4 lo a []) h) t_slarr (fun u0 u1 lo a h => pureT (x_faddr u0 u1 lo a []) h) (fun u0 u1 u2 lo a h => pureT (x_field u0 u1 u2 lo a []) h) (fun u0 u1 u2 lo a h => pureT (x_iaddr u0 u1 u2 lo a []) h) (fun u0 u1 u2 u3 lo a h => pureT (x_iaddrA u0 u1 u2 u3 lo a []) h) (fun u0 u1 u2 u3 u4 lo a h => pureT (x_index u0 u1 u2 u3 u4 lo a []) h) (fun u0 lo a h => pureT (x_len u0 lo a []) h) (fun u0 lo a h => pureT (x_lenA u0 lo a []) h) (fun u0 lo a h => pureT (x_cap u0 lo a []) h) (fun u0 lo a h => pureT (x_mn u0 lo a []) h) (fun u0 lo a h => pureT (x_mx u0 lo a []) h) t_append t_appendz t_copy (fun _ _ _ _ _ => none) (fun _ _ _ _ _ => none) (fun u0 u1 lo a h => pureT (x_extr u0 u1 lo a []) h) (fun u0 lo a h => pureT (x_nilchk u0 lo a []) h) (fun _ _ _ => none) o
theorem pureT_ok {lo : Nat} {o : AOp} {a : Fr} {h h' : HS} {v : AV} (hc : o.cl (fun _ => .ro) = .pure) (e : pureT (opQ o lo a []) h = some (v, h')) : opA lo o a h.abs = some (v, h'.abs) := by
  rw [opQ_eq] at e
  unfold pureT at e
  split at e
  · rename_i u H1 h1
    cases e
    have h2 : opF ⟨fun _ => none, fun _ => .ro⟩ (fun _ _ _ _ _ => none) lo o a [] = some (v, H1) := by
      cases o <;> first | exact h1 | (simp [AOp.cl] at hc)
    have h3 := (opF_pure hc h2).2 h.abs lo
    cases o <;> first | exact h3 | (simp [AOp.cl] at hc)
  · cases e
theorem opT_ok {lo : Nat} {o : AOp} {a : Fr} {h h' : HS} {v : AV} (e : opT o lo a h = some (v, h')) : opA lo o a h.abs = some (v, h'.abs) := by
  cases o
  case alloc z =>
    obtain ⟨h1, h2, h3⟩ := Option.map_eq_some_iff.1 e
    cases h3
    simp only [opA, HS.abs_len, HS.abs_push h2]
  case box x =>
    simp only [opT, t_box] at e
    split at e
    · rename_i hc
      obtain ⟨h1, h2, h3⟩ := Option.map_eq_some_iff.1 e
      cases h3
      simp only [opA, if_pos hc, HS.abs_len, HS.abs_push h2]
    · cases e
  case bslice z len es parts =>
    simp only [opT, t_bslice] at e
    obtain ⟨cs, hcs, e⟩ := Option.bind_eq_some_iff.1 e
    obtain ⟨h1, h2, h3⟩ := Option.map_eq_some_iff.1 e
    cases h3
    simp only [opA, hcs, Option.map_some, HS.abs_len, HS.abs_push h2]
  case mkslice es bytes z l =>
    simp only [opT, t_mkslice] at e
    simp only [opA]
    split at e
    · rename_i n hn
      split at e
      · rename_i hc
        obtain ⟨h1, h2, h3⟩ := Option.map_eq_some_iff.1 e
        cases h3
        simp only [hn, if_pos hc, HS.abs_len, HS.abs_push h2]
      · cases e
    · cases e
  case load n x =>
    simp only [opT, t_load] at e
    simp only [opA]
    split at e
    · rename_i b o hx
      cases n with
      | none =>
        obtain ⟨u, h2, h3⟩ := Option.map_eq_some_iff.1 e
        cases h3
        rw [ldT_eq] at h2
        simp only [hx, h2, Option.map_some]
      | some n =>
        obtain ⟨u, h2, h3⟩ := Option.map_eq_some_iff.1 e
        cases h3
        rw [ldnT_eq] at h2
        simp only [hx, h2, Option.map_some]
    · cases e
  case store n p x =>
    simp only [opT, t_store] at e
    simp only [opA]
    split at e
    · rename_i b o hx
      split at e
      · rename_i hc
        obtain ⟨u, h2, h3⟩ := Option.map_eq_some_iff.1 e
        cases h3
        simp only [hx, if_pos hc, stT_ok h2, Option.map_some]
      · cases e
    · cases e
  case append es bytes s x =>
    simp only [opT, t_append] at e
    simp only [opA]
    split at e
    · rename_i m hm
      split at e
      · rename_i xs hxs
        rw [cellsOfT_eq] at hxs
        simp only [hm, hxs]
        exact appendT_ok e
      · cases e
    · cases e
  case appendz es bytes z s n =>
    simp only [opT, t_appendz] at e
    simp only [opA]
    split at e
    · rename_i m hm
      split at e
      · rename_i hc
        simp only [hm, if_pos hc]
        exact appendT_ok e
      · cases e
    · cases e
  case copy es d s =>
    simp only [opT, t_copy] at e
    simp only [opA]
    split at e
    · rename_i es' b o n c m hd hm
      split at e
      · cases e
      · rename_i hes
        split at e
        · rename_i xs hxs
          rw [cellsOfT_eq] at hxs
          simp only [hd, hm, if_neg hes, hxs]
          split at e
          · rename_i h0; cases e; rw [if_pos h0]
          · rename_i h0
            rw [if_neg h0]
            split at e
            · rename_i h1
              obtain ⟨u, h2, h3⟩ := Option.map_eq_some_iff.1 e
              cases h3
              simp only [if_pos h1, stT_ok h2, Option.map_some]
            · cases e
        · cases e
    · rename_i m hd hm
      cases e
      simp only [hd, hm]
    · cases e
  case slarr n es x l hi =>
    simp only [opT, t_slarr] at e
    simp only [opA]
    split at e
    · rename_i b o hx
      split at e
      · rename_i hv h1
        split at e
        · rename_i lv h2
          split at e
          · rename_i cs h3
            split at e
            · rename_i hc
              cases e
              simp only [hx, h1, h2, HS.abs_get, h3, if_pos hc]
            · cases e
          · cases e
        · cases e
      · cases e
    · cases e
  case call | callv | bad => cases e
  all_goals exact pureT_ok rfl e
end Go.AM
namespace Go.AM
open Go
abbrev RecT := Nat → Option Nat → List AI → Fr → HS → Option (Out × Fr × HS)
def resVarT (a : Fr) (h : HS) : RVar → Option AV
  | .t n => some (a n)
  | .c n k => match a n with
    | .p b o => (match k with
      | none => ldT h b o
      | some m => (ldnT h b o m).map .ag)
    | _ => none
def resVarsT (a : Fr) (h : HS) : List RVar → Option (List AV)
  | [] => some []
  | r :: rs => (resVarT a h r).bind fun v => (resVarsT a h rs).map (v :: ·)
def resT (rs : List RVar) (a : Fr) (h : HS) : Option AV :=
  match resVarsT a h rs with
  | some [v] => some v
  | some vs => some (.tp vs)
  | none => none
theorem resVarT_eq (a : Fr) (h : HS) (r : RVar) : resVarT a h r = resVar a h.abs r := by
  cases r with
  | t n => rfl
  | c n k =>
    simp only [resVarT, resVar, ldT_eq, ldnT_eq]
    cases a n <;> cases k <;> rfl
theorem resVarsT_eq (a : Fr) (h : HS) : ∀ rs, resVarsT a h rs = resVars a h.abs rs
  | [] => rfl
  | r :: rs => by simp only [resVarsT, resVars, resVarT_eq, resVarsT_eq a h rs]
theorem resT_eq (rs : List RVar) (a : Fr) (h : HS) : resT rs a h = resA rs a h.abs := by
  unfold resT resA
  rw [resVarsT_eq]
  split <;> simp_all
/-- c more blocks of h' are laid behind h -/
def keepT : Nat → HS → HS → Option HS
  | 0, h, _ => some h
  | c + 1, h, h' => match h.push (h'.t.get h.n).shut with
    | some h1 => keepT c h1 h'
    | none => none
theorem HS.push_n {h h' : HS} {k : Blk} (e : h.push k = some h') : h'.n = h.n + 1 := by
  unfold HS.push at e
  cases hc : Nat.ble h.n 1000000 <;> rw [hc] at e <;> cases e
  rfl
theorem keepT_ok : ∀ (c : Nat) {h h' h2 : HS}, keepT c h h' = some h2 → h.n + c ≤ h'.n → h2.abs = h.abs ++ ((h'.abs.drop h.n).take c).map Blk.shut
  | 0, h, h', h2, e, _ => by cases e; simp
  | c + 1, h, h', h2, e, hle => by
    simp only [keepT] at e
    split at e
    · rename_i h1 hp
      have hn := HS.push_n hp
      rw [keepT_ok c e (by omega), HS.abs_push hp, hn]
      have hg : h'.abs[h.n]? = some (h'.t.get h.n) := by
        rw [HS.abs_get]
        have : Nat.ble (h.n + 1) h'.n = true := by rw [Nat.ble_eq]; omega
        simp [HS.at, this]
      have : h'.abs.drop h.n = h'.t.get h.n :: h'.abs.drop (h.n + 1) := by
        have hlt := (List.getElem?_eq_some_iff.1 hg)
        obtain ⟨hlt, hv⟩ := hlt
        rw [List.drop_eq_getElem_cons hlt, hv]
      rw [this]
      simp
    · cases e
def runFT (rec : RecT) (lo : Nat) (af : AFunc) (vs : List AV) (h : HS) : Option (AV × HS) :=
  if vs.length = af.nargs then
    match rec lo none [.code af.body] (initFr vs) h with
    | some (.done, a, h') => (resT af.res a h').map fun v => (v, h')
    | some (.ret, a, h') => (resT af.res a h').map fun v => (v, h')
    | _ => none
  else none
def callFT (E : Tab) (rec : RecT) (lo : Nat) (f : Nat) (vs : List AV) (h : HS) : Option (AV × HS) :=
  match E.kd f with
  | .prim g => (g vs).bind fun v => if v.pure && AV.pureAll vs then some (v, h) else none
  | .wrt => (E.fn f).bind fun af => runFT rec lo af vs h
  | .ro => (E.fn f).bind fun af => (runFT rec h.n af vs h).bind fun r => if r.1.pure then some (r.1, h) else if h.n ≤ r.2.n then (keepT (r.2.n - h.n) h r.2).map fun h' => (r.1, h') else none
  | .closed => if AV.pureAll vs then (E.fn f).bind fun af => (runFT rec 0 af vs ⟨0, .leaf⟩).bind fun r => if r.1.pure then some (r.1, h) else none else none
def roundT (rec : RecT) (lo l : Nat) (fr : Fr) (ps : List Nat) (asg body : ACode) (vs : List AV) (h : HS) : Option (AV × HS) :=
  if vs.length = ps.length ∧ lo ≤ l then
    match rec lo (some l) [.code asg, .begin, .code body] (setPs fr ps vs) h with
    | some (out, _, h') => match h'.at l with
      | some (.loop .busy _ nt' fr' ps' asg' body') =>
        (h'.put l (.loop (if out.jmp.isNone then .ready else .done) out.jmp nt' fr' ps' asg' body')).map fun h2 => (.b out.jmp.isNone, h2)
      | _ => none
    | none => none
  else none
def callVT (E : Tab) (rec : RecT) (lo : Nat) (fv : AV) (vs : List AV) (h : HS) : Option (AV × HS) :=
  match fv with
  | .fn f us caps => callFT E rec lo f (us ++ vs ++ caps) h
  | .yl l => match h.at l with
    | some (.loop .ready _ _ fr ps asg body) => roundT rec lo l fr ps asg body vs h
    | _ => none
  | _ => none
def SimT (rec : Rec) (recT : RecT) : Prop := ∀ lo rd k a h o a' h', recT lo rd k a h = some (o, a', h') → rec lo rd k a h.abs = some (o, a', h'.abs)
section
variable {E : Tab} {rec : Rec} {recT : RecT} {lo : Nat}
theorem runFT_ok (hS : SimT rec recT) {af : AFunc} {vs : List AV} {h h' : HS} {v : AV} (e : runFT recT lo af vs h = some (v, h')) : runF rec lo af vs h.abs = some (v, h'.abs) := by
  unfold runFT at e
  unfold runF
  split at e
  · rename_i hn
    rw [if_pos hn]
    split at e
    · rename_i a1 h1 hr
      rw [hS _ _ _ _ _ _ _ _ hr]
      rw [resT_eq] at e
      obtain ⟨u, hu, e⟩ := Option.map_eq_some_iff.1 e
      cases e
      simp only [hu, Option.map_some]
    · rename_i a1 h1 hr
      rw [hS _ _ _ _ _ _ _ _ hr]
      rw [resT_eq] at e
      obtain ⟨u, hu, e⟩ := Option.map_eq_some_iff.1 e
      cases e
      simp only [hu, Option.map_some]
    · cases e
  · cases e
theorem callFT_ok (hS : SimT rec recT) {f : Nat} {vs : List AV} {h h' : HS} {v : AV} (e : callFT E recT lo f vs h = some (v, h')) : callF E rec lo f vs h.abs = some (v, h'.abs) := by
  unfold callFT at e
  unfold callF
  cases hk : E.kd f with
  | prim g =>
    rw [hk] at e
    simp only at e ⊢
    obtain ⟨u, hu, e⟩ := Option.bind_eq_some_iff.1 e
    simp only [hu, Option.bind_some]
    split at e
    · rename_i hc; cases e; rw [if_pos hc]
    · cases e
  | wrt =>
    rw [hk] at e
    simp only at e ⊢
    obtain ⟨af, haf, e⟩ := Option.bind_eq_some_iff.1 e
    simp only [haf, Option.bind_some]
    exact runFT_ok hS e
  | ro =>
    rw [hk] at e
    simp only at e ⊢
    obtain ⟨af, haf, e⟩ := Option.bind_eq_some_iff.1 e
    obtain ⟨⟨u, h1⟩, hr, e⟩ := Option.bind_eq_some_iff.1 e
    simp only [haf, Option.bind_some, HS.abs_len]
    rw [runFT_ok hS hr]
    simp only [Option.map_some]
    simp only at e
    split at e
    · rename_i hp; cases e; rw [if_pos hp]
    · rename_i hp
      rw [if_neg hp]
      split at e
      · rename_i hle
        obtain ⟨h2, hk2, e⟩ := Option.map_eq_some_iff.1 e
        cases e
        rw [keepT_ok _ hk2 (by omega)]
        have : (h1.abs.drop h.n).take (h1.n - h.n) = h1.abs.drop h.n := List.take_of_length_le (by simp [HS.abs_len])
        rw [this]
      · cases e
  | closed =>
    rw [hk] at e
    simp only at e ⊢
    split at e
    · rename_i hp
      rw [if_pos hp]
      obtain ⟨af, haf, e⟩ := Option.bind_eq_some_iff.1 e
      obtain ⟨⟨u, h1⟩, hr, e⟩ := Option.bind_eq_some_iff.1 e
      simp only [haf, Option.bind_some]
      have := runFT_ok hS hr
      have e0 : HS.abs ⟨0, .leaf⟩ = [] := rfl
      rw [e0] at this
      rw [this]
      simp only at e
      split at e
      · rename_i hq; cases e; simp only [Option.bind_some, if_pos hq]
      · cases e
    · cases e
theorem roundT_ok (hS : SimT rec recT) {l : Nat} {fr : Fr} {ps : List Nat} {asg body : ACode} {vs : List AV} {h h' : HS} {v : AV} (e : roundT recT lo l fr ps asg body vs h = some (v, h')) : roundA rec lo l fr ps asg body vs h.abs = some (v, h'.abs) := by
  unfold roundT at e
  unfold roundA
  split at e
  · rename_i hc
    rw [if_pos hc]
    split at e
    · rename_i out a1 h1 hr
      rw [hS _ _ _ _ _ _ _ _ hr]
      simp only [HS.abs_get]
      split at e
      · rename_i p nt' fr' ps' asg' body' hb
        obtain ⟨h2, hp, e⟩ := Option.map_eq_some_iff.1 e
        cases e
        simp only [hb, HS.abs_put hp]
      · cases e
    · cases e
  · cases e
theorem callVT_ok (hS : SimT rec recT) {fv : AV} {vs : List AV} {h h' : HS} {v : AV} (e : callVT E recT lo fv vs h = some (v, h')) : callV E rec lo fv vs h.abs = some (v, h'.abs) := by
  unfold callVT at e
  unfold callV
  split at e
  · exact callFT_ok hS e
  · simp only [HS.abs_get]
    split at e
    · rename_i hb
      simp only [hb]
      exact roundT_ok hS e
    · cases e
  · cases e
end
end Go.AM
namespace Go.AM
open Go
section
variable (E : Tab) (recT : RecT) (lo : Nat)
noncomputable def opFT (o : AOp) (a : Fr) (h : HS) : Option (AV × HS) :=
  match o with
  | .call f args => callFT E recT lo f (args.map (ev a)) h
  | .callv x args => callVT E recT lo (ev a x) (args.map (ev a)) h
  | o => opT o lo a h
noncomputable def runOpsT (l : List AOper) : Fr → HS → Option (Fr × HS) :=
  @List.rec AOper (fun _ => Fr → HS → Option (Fr × HS)) (fun a h => some (a, h))
    (fun o _ ih a h => @Option.rec (Nat × Bool) (fun _ => Option (Fr × HS))
      (@Option.rec (AV × HS) (fun _ => Option (Fr × HS)) none (fun r => ih (a.put o.dst r.1) r.2) (opFT E recT lo o.op a h))
      (fun g => match wantedA a (some g) with
        | some true => @Option.rec (AV × HS) (fun _ => Option (Fr × HS)) none (fun r => ih (a.put o.dst r.1) r.2) (opFT E recT lo o.op a h)
        | some false => ih (a.put o.dst .no) h
        | none => none) o.guard) l
noncomputable def runTrT (l : List AOper) : Fr → HS → Option (List (Fr × HS)) :=
  @List.rec AOper (fun _ => Fr → HS → Option (List (Fr × HS))) (fun a h => some [(a, h)])
    (fun o _ ih a h => match wantedA a o.guard with
        | some true => (match opFT E recT lo o.op a h with
          | some r => (ih (a.put o.dst r.1) r.2).map ((a, h) :: ·)
          | none => none)
        | some false => (ih (a.put o.dst .no) h).map ((a, h) :: ·)
        | none => none) l
def chk1T (l : List AOper) (tr : List (Fr × HS)) (q : Nat × Nat) : Bool :=
  match l[q.1]?, tr[q.1]?, tr[q.2]?, tr[q.2 + 1]? with
  | some ⟨_, .load n x, _⟩, some s, some s1, some s2 =>
    match ev s.1 x with
    | .p b o => decide (s1.2.n ≤ b) || (match n with
      | none => sameO (ldT s1.2 b o) (ldT s2.2 b o)
      | some n => sameLO (ldnT s1.2 b o n) (ldnT s2.2 b o n))
    | _ => true
  | _, _, _, _ => false
noncomputable def runDT (ck : List (Nat × Nat)) (l : List AOper) (a : Fr) (h : HS) : Option (Fr × HS) :=
  match ck with
  | [] => runOpsT E recT lo l a h
  | ck => (runTrT E recT lo l a h).bind fun tr => if ck.all (chk1T l tr) then tr[l.length]? else none
def mayLoopT (rd : Option Nat) (h : HS) : Bool :=
  match rd with
  | none => true
  | some l => lo ≤ l && (match h.at l with
    | some (.loop _ _ _ _ _ _ _) => true
    | _ => false)
noncomputable def rangeT (rd : Option Nat) (nt : Nat) (x : AX) (ps : List Nat) (asg body : ACode) (k : List AI) (a : Fr) (h : HS) : Option (Out × Fr × HS) :=
  if mayLoopT lo rd h then
    match ev a x with
    | .fn f us caps => (h.push (.loop .ready none nt a ps asg body)).bind fun h1 =>
      (callFT E recT lo f (us ++ .yl h.n :: caps) h1).bind fun r =>
        match r.2.at h.n with
        | some (.loop .busy _ _ _ _ _ _) => none
        | some (.loop _ none _ _ _ _ _) => (r.2.put h.n .dead).bind fun h2 => recT lo rd k a h2
        | some (.loop _ (some j) _ _ _ _ _) => (r.2.put h.n .dead).bind fun h2 => recT lo rd (.code j.code :: k) a h2
        | _ => none
    | _ => none
  else none
noncomputable def stepT (rd : Option Nat) (k : List AI) (a : Fr) (h : HS) : Option (Out × Fr × HS) :=
  match k with
  | [] => some (.done, a, h)
  | i :: k => match i with
    | .blk _ => recT lo rd k a h
    | .lp c => recT lo rd (.code c :: .lp c :: k) a h
    | .begin => (match rd with
      | some l => match h.at l with
        | some (.loop .ready p nt fr ps asg body) => if lo ≤ l then (h.put l (.loop .busy p nt fr ps asg body)).bind fun h1 => recT lo rd k a h1 else none
        | _ => none
      | none => none)
    | .code c => match c with
      | .seq x y => recT lo rd (.code x :: .code y :: k) a h
      | .reg d l => match d with
        | none => (runOpsT E recT lo l a h).bind fun r => recT lo rd k r.1 r.2
        | some ck => (runDT E recT lo ck l a h).bind fun r => recT lo rd k r.1 r.2
      | .cond c x y => match ev a c with
        | .b t => recT lo rd (.code (bif t then x else y) :: k) a h
        | _ => none
      | .block id c => recT lo rd (.code c :: .blk id :: k) a h
      | .loop c => recT lo rd (.code c :: .lp c :: k) a h
      | .skip => recT lo rd k a h
      | .ret => some (.ret, a, h)
      | .exit id => match exitA id k with
        | some k' => recT lo rd k' a h
        | none => some (.exit id, a, h)
      | .rangeF nt x ps asg body => rangeT E recT lo rd nt x ps asg body k a h
      | .bad => none
end
noncomputable def RT (E : Tab) (n : Nat) : RecT := @Nat.rec (fun _ => RecT) (fun _ _ _ _ _ => none) (fun _ recT => stepT E recT) n
section
variable {E : Tab} {rec : Rec} {recT : RecT} {lo : Nat}
theorem opFT_ok (hS : SimT rec recT) {o : AOp} {a : Fr} {h h' : HS} {v : AV} (e : opFT E recT lo o a h = some (v, h')) : opF E rec lo o a h.abs = some (v, h'.abs) := by
  unfold opFT at e
  unfold opF
  split at e
  · exact callFT_ok hS e
  · exact callVT_ok hS e
  · rename_i h1 h2
    split
    · exact absurd rfl (h1 _ _)
    · exact absurd rfl (h2 _ _)
    · exact opT_ok e
theorem runOpsT_cons (o : AOper) (os : List AOper) (a : Fr) (h : HS) : runOpsT E recT lo (o :: os) a h =
    @Option.rec (Nat × Bool) (fun _ => Option (Fr × HS))
      (@Option.rec (AV × HS) (fun _ => Option (Fr × HS)) none (fun r => runOpsT E recT lo os (a.put o.dst r.1) r.2) (opFT E recT lo o.op a h))
      (fun g => match wantedA a (some g) with
        | some true => @Option.rec (AV × HS) (fun _ => Option (Fr × HS)) none (fun r => runOpsT E recT lo os (a.put o.dst r.1) r.2) (opFT E recT lo o.op a h)
        | some false => runOpsT E recT lo os (a.put o.dst .no) h
        | none => none) o.guard := rfl
theorem runOpsT_ok (hS : SimT rec recT) : ∀ (l : List AOper) {a a' : Fr} {h h' : HS}, runOpsT E recT lo l a h = some (a', h') → runOps E rec lo l a h.abs = some (a', h'.abs)
  | [], a, a', h, h', e => by cases e; rfl
  | o :: os, a, a', h, h', e => by
    rw [runOpsT_cons] at e
    obtain ⟨dst, op, guard⟩ := o
    simp only [runOps]
    cases guard with
    | none =>
      simp only at e
      simp only [wantedA]
      cases ho : opFT E recT lo op a h with
      | none => rw [ho] at e; cases e
      | some r =>
        rw [ho] at e
        rw [opFT_ok hS ho]
        exact runOpsT_ok hS os e
    | some g =>
      simp only at e ⊢
      cases hw : wantedA a (some g) with
      | none => rw [hw] at e; cases e
      | some t => cases t with
        | false => rw [hw] at e; exact runOpsT_ok hS os e
        | true =>
          rw [hw] at e
          simp only at e ⊢
          cases ho : opFT E recT lo op a h with
          | none => rw [ho] at e; cases e
          | some r =>
            rw [ho] at e
            rw [opFT_ok hS ho]
            exact runOpsT_ok hS os e
theorem runTrT_cons (o : AOper) (os : List AOper) (a : Fr) (h : HS) : runTrT E recT lo (o :: os) a h =
    match wantedA a o.guard with
    | some true => (match opFT E recT lo o.op a h with
      | some r => (runTrT E recT lo os (a.put o.dst r.1) r.2).map ((a, h) :: ·)
      | none => none)
    | some false => (runTrT E recT lo os (a.put o.dst .no) h).map ((a, h) :: ·)
    | none => none := rfl
def absS (s : Fr × HS) : Fr × Heap := (s.1, s.2.abs)
theorem runTrT_ok (hS : SimT rec recT) : ∀ (l : List AOper) {a : Fr} {h : HS} {tr : List (Fr × HS)}, runTrT E recT lo l a h = some tr → runTr E rec lo l a h.abs = some (tr.map absS)
  | [], a, h, tr, e => by cases e; rfl
  | o :: os, a, h, tr, e => by
    rw [runTrT_cons] at e
    simp only [runTr]
    split at e
    · rename_i hw
      simp only [hw]
      split at e
      · rename_i r ho
        obtain ⟨t, ht, rfl⟩ := Option.map_eq_some_iff.1 e
        rw [opFT_ok hS ho]
        simp only [Option.bind_some, runTrT_ok hS os ht, Option.map_some, List.map_cons]
        rfl
      · cases e
    · rename_i hw
      obtain ⟨t, ht, rfl⟩ := Option.map_eq_some_iff.1 e
      simp only [hw, runTrT_ok hS os ht, Option.map_some, List.map_cons]
      rfl
    · cases e
theorem chk1T_ok {l : List AOper} {tr : List (Fr × HS)} {q : Nat × Nat} (e : chk1T l tr q = true) : chk1 l (tr.map absS) q = true := by
  unfold chk1T at e
  unfold chk1
  split at e
  · rename_i d n x g s s1 s2 e1 e2 e3 e4
    simp only [List.getElem?_map, e1, e2, e3, e4, Option.map_some, absS]
    split at e
    · rename_i b o hx
      simp only [hx, HS.abs_len]
      rw [Bool.or_eq_true] at e ⊢
      refine e.imp id fun e => ?_
      cases n with
      | none => simpa only [ldT_eq] using e
      | some n => simpa only [ldnT_eq] using e
    · rename_i hx
      split
      · rename_i b o hx2; exact absurd hx2 (hx b o)
      · rfl
  · cases e
theorem runDT_ok (hS : SimT rec recT) {ck : List (Nat × Nat)} {l : List AOper} {a a' : Fr} {h h' : HS} (e : runDT E recT lo ck l a h = some (a', h')) : runD E rec lo ck l a h.abs = some (a', h'.abs) := by
  unfold runDT at e
  split at e
  · have := runOpsT_ok hS l e
    rw [← runTr_ops] at this
    unfold runD
    simpa using this
  · obtain ⟨tr, ht, e⟩ := Option.bind_eq_some_iff.1 e
    split at e
    · rename_i hc
      unfold runD
      rw [runTrT_ok hS l ht, Option.bind_some, if_pos (List.all_eq_true.2 fun q hq => chk1T_ok (List.all_eq_true.1 hc q hq))]
      rw [List.getElem?_map, e]; rfl
    · cases e
theorem rangeT_ok (hS : SimT rec recT) {rd : Option Nat} {nt : Nat} {x : AX} {ps : List Nat} {asg body : ACode} {k : List AI} {a a' : Fr} {h h' : HS} {o : Out} (e : rangeT E recT lo rd nt x ps asg body k a h = some (o, a', h')) :
    stepR E rec lo rd (.code (.rangeF nt x ps asg body) :: k) a h.abs = some (o, a', h'.abs) := by
  unfold rangeT at e
  simp only [stepR]
  have hm : mayLoopT lo rd h = mayLoop lo rd h.abs := by
    unfold mayLoopT mayLoop
    cases rd with
    | none => rfl
    | some l => simp only [HS.abs_get]; congr 1
  rw [hm] at e
  split at e
  · rename_i h1
    rw [if_pos h1]
    split at e
    · rename_i f us caps hx
      simp only [hx]
      obtain ⟨h2, hp, e⟩ := Option.bind_eq_some_iff.1 e
      obtain ⟨⟨v, h3⟩, hc, e⟩ := Option.bind_eq_some_iff.1 e
      have hc' := callFT_ok hS hc
      rw [HS.abs_push hp] at hc'
      rw [HS.abs_len, hc', Option.bind_some]
      simp only [HS.abs_get]
      split at e
      · cases e
      · rename_i hb hat
        obtain ⟨h4, hq, e⟩ := Option.bind_eq_some_iff.1 e
        simp only at hat
        rw [← HS.abs_put hq]
        have := hS _ _ _ _ _ _ _ _ e
        simp only [hat]
        exact this
      · rename_i j _ _ _ _ _ hb hat
        obtain ⟨h4, hq, e⟩ := Option.bind_eq_some_iff.1 e
        simp only at hat
        rw [← HS.abs_put hq]
        have := hS _ _ _ _ _ _ _ _ e
        simp only [hat]
        exact this
      · cases e
    · cases e
  · cases e
theorem stepT_ok (hS : SimT rec recT) {rd : Option Nat} {k : List AI} {a a' : Fr} {h h' : HS} {o : Out} (e : stepT E recT lo rd k a h = some (o, a', h')) : stepR E rec lo rd k a h.abs = some (o, a', h'.abs) := by
  cases k with
  | nil => cases e; rfl
  | cons i k => cases i with
    | blk _ => exact hS _ _ _ _ _ _ _ _ e
    | lp c => exact hS _ _ _ _ _ _ _ _ e
    | begin =>
      simp only [stepT] at e
      simp only [stepR]
      split at e
      · simp only [HS.abs_get]
        split at e
        · rename_i hb
          simp only [hb]
          split at e
          · rename_i hle
            rw [if_pos hle]
            obtain ⟨h1, hp, e⟩ := Option.bind_eq_some_iff.1 e
            rw [← HS.abs_put hp]
            exact hS _ _ _ _ _ _ _ _ e
          · cases e
        · cases e
      · cases e
    | code c => cases c with
      | reg d l => cases d with
        | none =>
          simp only [stepT] at e
          obtain ⟨⟨a1, h1⟩, hr, e⟩ := Option.bind_eq_some_iff.1 e
          simp only [stepR, runOpsT_ok hS l hr, Option.bind_some]
          exact hS _ _ _ _ _ _ _ _ e
        | some ck =>
          simp only [stepT] at e
          obtain ⟨⟨a1, h1⟩, hr, e⟩ := Option.bind_eq_some_iff.1 e
          simp only [stepR, runDT_ok hS hr, Option.bind_some]
          exact hS _ _ _ _ _ _ _ _ e
      | cond c x y =>
        simp only [stepT] at e
        simp only [stepR]
        split at e
        · rename_i t ht
          rw [ht]
          cases t <;> exact hS _ _ _ _ _ _ _ _ e
        · cases e
      | exit id =>
        simp only [stepT] at e
        simp only [stepR]
        split at e
        · rename_i he; simp only [he]; exact hS _ _ _ _ _ _ _ _ e
        · rename_i he; simp only [he]; cases e; rfl
      | rangeF nt x ps asg body => exact rangeT_ok hS e
      | bad => cases e
      | ret => cases e; rfl
      | skip => exact hS _ _ _ _ _ _ _ _ e
      | seq x y => exact hS _ _ _ _ _ _ _ _ e
      | block id c => exact hS _ _ _ _ _ _ _ _ e
      | loop c => exact hS _ _ _ _ _ _ _ _ e
end
theorem RT_ok (E : Tab) : ∀ n, SimT (R E n) (RT E n)
  | 0 => fun _ _ _ _ _ _ _ _ e => by cases e
  | n + 1 => fun _ _ _ _ _ _ _ _ e => stepT_ok (RT_ok E n) e
end Go.AM
namespace Go.AM
open Go
/-- a run from no heap, by the tree evaluator; 't' looks at what comes of it -/
theorem Wp.kernel {E : Tab} {lo : Nat} {rd : Option Nat} {k : List AI} {a : Fr} {Q : Out → Fr → Heap → Prop} (n : Nat) (t : Out → Fr → Bool) (e : (RT E n lo rd k a ⟨0, .leaf⟩).any (fun r => t r.1 r.2.1) = true) (hq : ∀ o a' H', t o a' = true → Q o a' H') : Wp E lo rd k a [] Q := by
  cases h : RT E n lo rd k a ⟨0, .leaf⟩ with
  | none => rw [h] at e; cases e
  | some r =>
    rw [h] at e
    obtain ⟨o, a', h'⟩ := r
    exact ⟨n, o, a', h'.abs, RT_ok E n _ _ _ _ _ _ _ _ h, hq _ _ _ e⟩
/-- a function's end: one result, true -/
def endsT (i : Nat) (o : Out) (a : Fr) : Bool := match o, a i with
  | .ret, .b true => true
  | .done, .b true => true
  | _, _ => false
theorem endsT_ok {i : Nat} {o : Out} {a : Fr} {H : Heap} {P : AV → Heap → Prop} (h : endsT i o a = true) (hp : P (.b true) H) : RetQ [.t i] P o a H := by
  unfold endsT at h
  split at h
  · rename_i e; exact ⟨.b true, by rw [res_1, e], hp⟩
  · rename_i e; exact ⟨.b true, by rw [res_1, e], hp⟩
  · cases h
theorem WpF.of_closed {E : Tab} {lo f : Nat} {af : AFunc} {vs : List AV} {H : Heap} {P : AV → Heap → Prop} (hk : E.kd f = .closed) (hf : E.fn f = some af) (hn : vs.length = af.nargs) (hp : AV.pureAll vs = true)
    (h : Wp E 0 none [.code af.body] (initFr vs) [] (RetQ af.res fun v _ => v.pure = true ∧ P v H)) : WpF E lo f vs H P := by
  obtain ⟨n, o, a', H', h1, h2⟩ := h
  have key : ∀ v, resA af.res a' H' = some v → v.pure = true ∧ P v H → (o = .done ∨ o = .ret) → WpF E lo f vs H P := by
    intro v e1 e2 ho
    refine ⟨n, v, H, ?_, e2.2⟩
    unfold callF
    simp only [hk, hp, hf, if_true, Option.bind_some]
    have : runF (R E n) 0 af vs [] = some (v, H') := by
      unfold runF
      rw [if_pos hn, h1]
      rcases ho with rfl | rfl <;> simp [e1]
    rw [this]
    simp [e2.1]
  cases o with
  | exit id => exact h2.elim
  | done => obtain ⟨v, e, q⟩ := h2; exact key v e q (.inl rfl)
  | ret => obtain ⟨v, e, q⟩ := h2; exact key v e q (.inr rfl)
/-- a closed law that is true, by the kernel -/
theorem WpF.law {E : Tab} {lo f i : Nat} {af : AFunc} {vs : List AV} {H : Heap} (n : Nat) (hk : E.kd f = .closed) (hf : E.fn f = some af) (hn : vs.length = af.nargs) (hp : AV.pureAll vs = true) (hr : af.res = [.t i])
    (e : (RT E n 0 none [.code af.body] (initFr vs) ⟨0, .leaf⟩).any (fun r => endsT i r.1 r.2.1) = true) : WpF E lo f vs H fun v _ => v = .b true :=
  WpF.of_closed hk hf hn hp (Wp.kernel n (endsT i) e fun _ _ _ h => by rw [hr]; exact endsT_ok h ⟨rfl, rfl⟩)
/-! ### What a slice reads, by the kernel -/
/-- a call from no heap, run by the kernel; 't' looks at its value and its heap -/
theorem WpF.kernel {E : Tab} {lo f : Nat} {vs : List AV} {Q : AV → Heap → Prop} (n : Nat) (t : AV → HS → Bool) (e : (callFT E (RT E n) lo f vs ⟨0, .leaf⟩).any (fun r => t r.1 r.2) = true) (hq : ∀ v h, t v h = true → Q v h.abs) : WpF E lo f vs [] Q := by
  cases h : callFT E (RT E n) lo f vs ⟨0, .leaf⟩ with
  | none => rw [h] at e; cases e
  | some r =>
    rw [h] at e
    obtain ⟨v, h'⟩ := r
    exact ⟨n, v, h'.abs, callFT_ok (RT_ok E n) h, hq _ _ e⟩
end Go.AM
namespace Go.Proofs.Ytalaadcbpjnglaa
open Go Go.AM Go.Proofs
theorem least_2 {H : Heap} : WpF E H.length 4 [.i 2] H fun v _ => v = .b true := WpF.law 1000000 rfl fn4 rfl rfl rfl (by kernel_rfl)
theorem least_3 {H : Heap} : WpF E H.length 4 [.i 3] H fun v _ => v = .b true := WpF.law 1000000 rfl fn4 rfl rfl rfl (by kernel_rfl)
theorem least_4 {H : Heap} : WpF E H.length 4 [.i 4] H fun v _ => v = .b true := WpF.law 1000000 rfl fn4 rfl rfl rfl (by kernel_rfl)
theorem least_5 {H : Heap} : WpF E H.length 4 [.i 5] H fun v _ => v = .b true := WpF.law 1000000 rfl fn4 rfl rfl rfl (by kernel_rfl)
theorem least_6 {H : Heap} : WpF E H.length 4 [.i 6] H fun v _ => v = .b true := WpF.law 1000000 rfl fn4 rfl rfl rfl (by kernel_rfl)
theorem least_7 {H : Heap} : WpF E H.length 4 [.i 7] H fun v _ => v = .b true := WpF.law 1000000 rfl fn4 rfl rfl rfl (by kernel_rfl)
theorem least_8 {H : Heap} : WpF E H.length 4 [.i 8] H fun v _ => v = .b true := WpF.law 1000000 rfl fn4 rfl rfl rfl (by kernel_rfl)
theorem least_9 {H : Heap} : WpF E H.length 4 [.i 9] H fun v _ => v = .b true := WpF.law 1000000 rfl fn4 rfl rfl rfl (by kernel_rfl)
theorem least_10 {H : Heap} : WpF E H.length 4 [.i 10] H fun v _ => v = .b true := WpF.law 1000000 rfl fn4 rfl rfl rfl (by kernel_rfl)
theorem least_11 {H : Heap} : WpF E H.length 4 [.i 11] H fun v _ => v = .b true := WpF.law 1000000 rfl fn4 rfl rfl rfl (by kernel_rfl)
theorem least_12 {H : Heap} : WpF E H.length 4 [.i 12] H fun v _ => v = .b true := WpF.law 1000000 rfl fn4 rfl rfl rfl (by kernel_rfl)
theorem least_13 {H : Heap} : WpF E H.length 4 [.i 13] H fun v _ => v = .b true := WpF.law 1000000 rfl fn4 rfl rfl rfl (by kernel_rfl)
end Go.Proofs.Ytalaadcbpjnglaa
namespace Go.Proofs.Ytalaadcbpjnglaa
open Go Go.AM Go.Proofs
theorem least_14 {H : Heap} : WpF E H.length 4 [.i 14] H fun v _ => v = .b true := WpF.law 1000000 rfl fn4 rfl rfl rfl (by kernel_rfl)
theorem least_15 {H : Heap} : WpF E H.length 4 [.i 15] H fun v _ => v = .b true := WpF.law 1000000 rfl fn4 rfl rfl rfl (by kernel_rfl)
theorem least_16 {H : Heap} : WpF E H.length 4 [.i 16] H fun v _ => v = .b true := WpF.law 1000000 rfl fn4 rfl rfl rfl (by kernel_rfl)
theorem least_17 {H : Heap} : WpF E H.length 4 [.i 17] H fun v _ => v = .b true := WpF.law 1000000 rfl fn4 rfl rfl rfl (by kernel_rfl)
theorem least_18 {H : Heap} : WpF E H.length 4 [.i 18] H fun v _ => v = .b true := WpF.law 1000000 rfl fn4 rfl rfl rfl (by kernel_rfl)
theorem least_19 {H : Heap} : WpF E H.length 4 [.i 19] H fun v _ => v = .b true := WpF.law 1000000 rfl fn4 rfl rfl rfl (by kernel_rfl)
theorem least_20 {H : Heap} : WpF E H.length 4 [.i 20] H fun v _ => v = .b true := WpF.law 1000000 rfl fn4 rfl rfl rfl (by kernel_rfl)
theorem least_21 {H : Heap} : WpF E H.length 4 [.i 21] H fun v _ => v = .b true := WpF.law 1000000 rfl fn4 rfl rfl rfl (by kernel_rfl)
theorem least_22 {H : Heap} : WpF E H.length 4 [.i 22] H fun v _ => v = .b true := WpF.law 1000000 rfl fn4 rfl rfl rfl (by kernel_rfl)
theorem least_23 {H : Heap} : WpF E H.length 4 [.i 23] H fun v _ => v = .b true := WpF.law 1000000 rfl fn4 rfl rfl rfl (by kernel_rfl)
theorem least_24 {H : Heap} : WpF E H.length 4 [.i 24] H fun v _ => v = .b true := WpF.law 1000000 rfl fn4 rfl rfl rfl (by kernel_rfl)
end Go.Proofs.Ytalaadcbpjnglaa
namespace Go.Proofs.Ytalaadcbpjnglaa
open Go Go.AM Go.Proofs
theorem least_25 {H : Heap} : WpF E H.length 4 [.i 25] H fun v _ => v = .b true := WpF.law 1000000 rfl fn4 rfl rfl rfl (by kernel_rfl)
theorem least_26 {H : Heap} : WpF E H.length 4 [.i 26] H fun v _ => v = .b true := WpF.law 1000000 rfl fn4 rfl rfl rfl (by kernel_rfl)
theorem least_27 {H : Heap} : WpF E H.length 4 [.i 27] H fun v _ => v = .b true := WpF.law 1000000 rfl fn4 rfl rfl rfl (by kernel_rfl)
theorem least_28 {H : Heap} : WpF E H.length 4 [.i 28] H fun v _ => v = .b true := WpF.law 1000000 rfl fn4 rfl rfl rfl (by kernel_rfl)
theorem least_29 {H : Heap} : WpF E H.length 4 [.i 29] H fun v _ => v = .b true := WpF.law 1000000 rfl fn4 rfl rfl rfl (by kernel_rfl)
theorem least_30 {H : Heap} : WpF E H.length 4 [.i 30] H fun v _ => v = .b true := WpF.law 1000000 rfl fn4 rfl rfl rfl (by kernel_rfl)
theorem least_31 {H : Heap} : WpF E H.length 4 [.i 31] H fun v _ => v = .b true := WpF.law 1000000 rfl fn4 rfl rfl rfl (by kernel_rfl)
theorem least_32 {H : Heap} : WpF E H.length 4 [.i 32] H fun v _ => v = .b true := WpF.law 1000000 rfl fn4 rfl rfl rfl (by kernel_rfl)
theorem least_33 {H : Heap} : WpF E H.length 4 [.i 33] H fun v _ => v = .b true := WpF.law 1000000 rfl fn4 rfl rfl rfl (by kernel_rfl)
theorem least_34 {H : Heap} : WpF E H.length 4 [.i 34] H fun v _ => v = .b true := WpF.law 1000000 rfl fn4 rfl rfl rfl (by kernel_rfl)
theorem least_35 {H : Heap} : WpF E H.length 4 [.i 35] H fun v _ => v = .b true := WpF.law 1000000 rfl fn4 rfl rfl rfl (by kernel_rfl)
end Go.Proofs.Ytalaadcbpjnglaa
namespace Go.Proofs.Ytalaadcbpjnglaa
open Go Go.AM Go.Proofs
def ChR (v : Int) (r : List Int) : Prop := ∀ x ∈ r, 0 ≤ x ∧ x < v
instance (v : Int) (r : List Int) : Decidable (ChR v r) := by unfold ChR; infer_instance
def RowP (v : Int) (k : Nat) (r : List Int) : Prop := r.length = k ∧ 1 ≤ r.length ∧ r.length ≤ 8 ∧ ChR v r
instance (v : Int) (k : Nat) (r : List Int) : Decidable (RowP v k r) := by unfold RowP; infer_instance
def ArrP (v : Int) (t : List (List Int)) : Prop := 2 ≤ v ∧ v ≤ 4 ∧ 1 ≤ t.length ∧ t.length ≤ 16 ∧ ∀ r ∈ t, RowP v (gi t 0).length r
instance (v : Int) (t : List (List Int)) : Decidable (ArrP v t) := by unfold ArrP; infer_instance
/-- how many columns -/
def wd (t : List (List Int)) : Nat := (gi t 0).length
theorem ArrP.row {v : Int} {t : List (List Int)} (h : ArrP v t) {r : List Int} (hr : r ∈ t) : r.length = wd t ∧ ChR v r := ⟨(h.2.2.2.2 r hr).1, (h.2.2.2.2 r hr).2.2.2⟩
theorem ArrP.wd {v : Int} {t : List (List Int)} (h : ArrP v t) : 1 ≤ wd t ∧ wd t ≤ 8 := by
  have := h.2.2.2.2 (gi t 0) (gi_mem (by omega) (by have := h.2.2.1; omega))
  exact ⟨this.2.1, this.2.2.1⟩
end Go.Proofs.Ytalaadcbpjnglaa
namespace Go.Proofs.Ytalaadcbpjnglaa
open Go Go.AM Go.Proofs
/-- what grow reads: its variables -/
structure Vars (K : Nat → Prop) (H : Heap) (y : AV) (r : Bool) (n t : Int) (bt bY br bn bg : Nat) : Prop where
  t : H[bt]? = some (.cells [.i t]) ∧ ¬ K bt
  y : H[bY]? = some (.cells [y]) ∧ ¬ K bY
  r : H[br]? = some (.cells [.b r]) ∧ ¬ K br
  n : H[bn]? = some (.cells [.i n]) ∧ ¬ K bn
  g : H[bg]? = some (.cells [.fn 97 [] [.p bt 0, .p bY 0, .p br 0, .p bn 0, .p bg 0]]) ∧ ¬ K bg
theorem Vars.mono {K K' : Nat → Prop} {H H' : Heap} {y : AV} {r : Bool} {n t : Int} {bt bY br bn bg : Nat} (h : Vars K H y r n t bt bY br bn bg) (hk : Kx (fun b => ¬ K b) H H') (hK : ∀ b, b < H.length → K' b → K b) : Vars K' H' y r n t bt bY br bn bg :=
  ⟨⟨hk.get h.t.2 h.t.1, fun q => h.t.2 (hK _ (List.getElem?_eq_some_iff.1 h.t.1).1 q)⟩, ⟨hk.get h.y.2 h.y.1, fun q => h.y.2 (hK _ (List.getElem?_eq_some_iff.1 h.y.1).1 q)⟩, ⟨hk.get h.r.2 h.r.1, fun q => h.r.2 (hK _ (List.getElem?_eq_some_iff.1 h.r.1).1 q)⟩, ⟨hk.get h.n.2 h.n.1, fun q => h.n.2 (hK _ (List.getElem?_eq_some_iff.1 h.n.1).1 q)⟩, ⟨hk.get h.g.2 h.g.1, fun q => h.g.2 (hK _ (List.getElem?_eq_some_iff.1 h.g.1).1 q)⟩⟩
end Go.Proofs.Ytalaadcbpjnglaa
namespace Go.Proofs.Ytalaadcbpjnglaa
open Go Go.AM Go.Proofs
theorem Acc.int {L : Nat} {q : Nat → Prop} {H : Heap} {v : AV} {xs : List Int} (h : Acc L q H v xs) : Sl (fun b => L ≤ b) H v xs := by
  rcases h with h | ⟨b, o, c, k, e, hb, hk, h1, h2, h3⟩
  · exact .inl h
  · exact .inr ⟨b, o, c, k, e, hb, hk, h1, h2, h3⟩
end Go.Proofs.Ytalaadcbpjnglaa
namespace Go.Proofs.Ytalaadcbpjnglaa
open Go Go.AM Go.Proofs
def dstT (r s : List Int) (c : Nat) : Nat := (List.range c).countP fun x : Nat => !decide (gi r (x : Int) = gi s (x : Int))
/-- how far two rows are apart -/
def dst (r s : List Int) : Nat := dstT r s r.length
end Go.Proofs.Ytalaadcbpjnglaa
namespace Go.Proofs.Ytalaadcbpjnglaa
open Go Go.AM Go.Proofs
theorem _root_.Go.AM.RetP.callv {E : Tab} {f : Nat} {us caps vs : List AV} {H : Heap} {v : AV} (h : RetP E f (us ++ vs ++ caps) H v) {lo : Nat} {Q : AV → Heap → Prop} : @callvP E lo (.fn f us caps) vs H ⟨Q⟩ = Q v H := h.iff
end Go.Proofs.Ytalaadcbpjnglaa
namespace Go.Proofs.Ytalaadcbpjnglaa
open Go Go.AM Go.Proofs
theorem awake_ret {H : Heap} : RetP E 25 [] H (.b true) :=
  RetP.closed (n := 300) rfl fn25 rfl rfl (by kernel_rfl)
end Go.Proofs.Ytalaadcbpjnglaa
namespace Go.Proofs.Ytalaadcbpjnglaa
open Go Go.AM Go.Proofs
theorem nothing_ret {p : Nat → Prop} {H : Heap} {rows : AV} {v : Int} {xs : List (List Int)} (hr : Sl p H rows xs) : RetP E 23 [.ag [.i v, rows]] H (.b (decide (v = 0 ∧ xs = []))) := by
  refine RetP.ro rfl fn23 rfl rfl ?_
  unfold f23A
  repeat' (first | refine condP_split (fun _ => ?_) (fun _ => ?_) | refine guardP_split (fun _ => ?_) (fun _ => ?_) | refine guardP_splitF (fun _ => ?_) (fun _ => ?_) | (simp (disch := (first | assumption | omega | (simp only [List.length_append, List.length_cons, List.length_nil]; omega))) only [↓wD,wU,Nat.reduceBEq,zx150,zx151,zx159,zx160,zx161,zx162,Nat.reduceAdd,Nat.reduceSub,Nat.reduceMul,Nat.reduceLeDiff,Nat.reduceLT,Nat.reduceEqDiff,Int.reduceAdd,Int.reduceSub,Int.reduceMul,Int.reduceNeg,Int.reduceLT,Int.reduceLE,Int.reduceEq,Int.reduceToNat,Int.cast_ofNat_Int,↓reduceIte, *, hr.L]))
  · cases xs with
    | nil => simp_all
    | cons x r => simp_all; omega
  · simp
end Go.Proofs.Ytalaadcbpjnglaa
namespace Go.Proofs.Ytalaadcbpjnglaa
open Go Go.AM Go.Proofs
theorem least_err {H : Heap} {k : Int} (h : ¬ (2 ≤ k ∧ k ≤ 35)) : RetP E 27 [.i k] H (.tp [.i 0, .i 2]) := fun lo => by
  refine WpF.of_closed rfl fn27 rfl rfl ?_
  unfold f27A
  by_cases h2 : k < 2
  · clear h
    simp (disch := (first | assumption | omega | (simp only [List.length_append, List.length_cons, List.length_nil]; omega))) only [↓wD,wU,Nat.reduceBEq,zx150,zx151,zx159,zx160,zx161,zx162,Nat.reduceAdd,Nat.reduceSub,Nat.reduceMul,Nat.reduceLeDiff,Nat.reduceLT,Nat.reduceEqDiff,Int.reduceAdd,Int.reduceSub,Int.reduceMul,Int.reduceNeg,Int.reduceLT,Int.reduceLE,Int.reduceEq,Int.reduceToNat,Int.cast_ofNat_Int,↓reduceIte, *]
    first | rfl | exact ⟨rfl, rfl, rfl⟩ | exact ⟨rfl, rfl⟩
  · have h3 : 35 < k := by omega
    clear h
    simp (disch := (first | assumption | omega | (simp only [List.length_append, List.length_cons, List.length_nil]; omega))) only [↓wD,wU,Nat.reduceBEq,zx150,zx151,zx159,zx160,zx161,zx162,Nat.reduceAdd,Nat.reduceSub,Nat.reduceMul,Nat.reduceLeDiff,Nat.reduceLT,Nat.reduceEqDiff,Int.reduceAdd,Int.reduceSub,Int.reduceMul,Int.reduceNeg,Int.reduceLT,Int.reduceLE,Int.reduceEq,Int.reduceToNat,Int.cast_ofNat_Int,↓reduceIte, *]
    first | rfl | exact ⟨rfl, rfl, rfl⟩ | exact ⟨rfl, rfl⟩
theorem make_err {p : Nat → Prop} {H : Heap} {k : Int} (h : ¬ (2 ≤ k ∧ k ≤ 8)) : Ret E 28 [.i k] p H (T2.mk ((0, []) : Int × List (List Int)) (2 : Int)) := by
  refine Ret.ro rfl fn28 rfl ?_
  unfold f28A
  by_cases h2 : k < 2
  · clear h
    simp (disch := (first | assumption | omega | (simp only [List.length_append, List.length_cons, List.length_nil]; omega))) only [↓wD,wU,Nat.reduceBEq,zx150,zx151,zx159,zx160,zx161,zx162,Nat.reduceAdd,Nat.reduceSub,Nat.reduceMul,Nat.reduceLeDiff,Nat.reduceLT,Nat.reduceEqDiff,Int.reduceAdd,Int.reduceSub,Int.reduceMul,Int.reduceNeg,Int.reduceLT,Int.reduceLE,Int.reduceEq,Int.reduceToNat,Int.cast_ofNat_Int,↓reduceIte, *]
    exact rv_2 (rv_si Sl.nil) rv_i
  · have h3 : 8 < k := by omega
    clear h
    simp (disch := (first | assumption | omega | (simp only [List.length_append, List.length_cons, List.length_nil]; omega))) only [↓wD,wU,Nat.reduceBEq,zx150,zx151,zx159,zx160,zx161,zx162,Nat.reduceAdd,Nat.reduceSub,Nat.reduceMul,Nat.reduceLeDiff,Nat.reduceLT,Nat.reduceEqDiff,Int.reduceAdd,Int.reduceSub,Int.reduceMul,Int.reduceNeg,Int.reduceLT,Int.reduceLE,Int.reduceEq,Int.reduceToNat,Int.cast_ofNat_Int,↓reduceIte, *]
    exact rv_2 (rv_si Sl.nil) rv_i
theorem Walk.ArraysLeast (H : Heap) (k : Int) : WpF E H.length 4 [.i k] H fun v _ => v = .b true := by
  by_cases hk : 2 ≤ k ∧ k ≤ 35
  · have : k = 2 ∨ k = 3 ∨ k = 4 ∨ k = 5 ∨ k = 6 ∨ k = 7 ∨ k = 8 ∨ k = 9 ∨ k = 10 ∨ k = 11 ∨ k = 12 ∨ k = 13 ∨ k = 14 ∨ k = 15 ∨ k = 16 ∨ k = 17 ∨ k = 18 ∨ k = 19 ∨ k = 20 ∨ k = 21 ∨ k = 22 ∨ k = 23 ∨ k = 24 ∨ k = 25 ∨ k = 26 ∨ k = 27 ∨ k = 28 ∨ k = 29 ∨ k = 30 ∨ k = 31 ∨ k = 32 ∨ k = 33 ∨ k = 34 ∨ k = 35 := by omega
    rcases this with rfl | rfl | rfl | rfl | rfl | rfl | rfl | rfl | rfl | rfl | rfl | rfl | rfl | rfl | rfl | rfl | rfl | rfl | rfl | rfl | rfl | rfl | rfl | rfl | rfl | rfl | rfl | rfl | rfl | rfl | rfl | rfl | rfl | rfl
    · exact least_2
    · exact least_3
    · exact least_4
    · exact least_5
    · exact least_6
    · exact least_7
    · exact least_8
    · exact least_9
    · exact least_10
    · exact least_11
    · exact least_12
    · exact least_13
    · exact least_14
    · exact least_15
    · exact least_16
    · exact least_17
    · exact least_18
    · exact least_19
    · exact least_20
    · exact least_21
    · exact least_22
    · exact least_23
    · exact least_24
    · exact least_25
    · exact least_26
    · exact least_27
    · exact least_28
    · exact least_29
    · exact least_30
    · exact least_31
    · exact least_32
    · exact least_33
    · exact least_34
    · exact least_35
  · have hm : ¬ (2 ≤ k ∧ k ≤ 8) := by omega
    have h1 := least_err (H := []) hk
    have h2 := make_err (p := fun _ => False) (H := []) hm
    refine WpF.of_closed rfl fn4 rfl rfl ?_
    unfold f4A
    clear hm
    simp (disch := (first | assumption | omega | (simp only [List.length_append, List.length_cons, List.length_nil]; omega))) only [↓wD,wU,Nat.reduceBEq,zx150,zx151,zx159,zx160,zx161,zx162,Nat.reduceAdd,Nat.reduceSub,Nat.reduceMul,Nat.reduceLeDiff,Nat.reduceLT,Nat.reduceEqDiff,Int.reduceAdd,Int.reduceSub,Int.reduceMul,Int.reduceNeg,Int.reduceLT,Int.reduceLE,Int.reduceEq,Int.reduceToNat,Int.cast_ofNat_Int,↓reduceIte, *, h1.call]
    refine h2.toX fun w H1 x1 hw => ?_
    obtain ⟨v1, v2, rfl, hv1, hv2⟩ := rv2 hw
    obtain ⟨u, rfl, hu⟩ := rv_si_elim hv1
    obtain rfl := rvi hv2
    by_cases h2 : k < 2
    · clear hk
      simp (disch := (first | assumption | omega | (simp only [List.length_append, List.length_cons, List.length_nil]; omega))) only [↓wD,wU,Nat.reduceBEq,zx150,zx151,zx159,zx160,zx161,zx162,Nat.reduceAdd,Nat.reduceSub,Nat.reduceMul,Nat.reduceLeDiff,Nat.reduceLT,Nat.reduceEqDiff,Int.reduceAdd,Int.reduceSub,Int.reduceMul,Int.reduceNeg,Int.reduceLT,Int.reduceLE,Int.reduceEq,Int.reduceToNat,Int.cast_ofNat_Int,↓reduceIte, *, hu.cellsV, (nothing_ret (hu.app _)).call, awake_ret.call]
      first | rfl | exact ⟨rfl, rfl, rfl⟩ | exact ⟨rfl, rfl⟩
    · have h3 : 35 < k := by omega
      clear hk
      simp (disch := (first | assumption | omega | (simp only [List.length_append, List.length_cons, List.length_nil]; omega))) only [↓wD,wU,Nat.reduceBEq,zx150,zx151,zx159,zx160,zx161,zx162,Nat.reduceAdd,Nat.reduceSub,Nat.reduceMul,Nat.reduceLeDiff,Nat.reduceLT,Nat.reduceEqDiff,Int.reduceAdd,Int.reduceSub,Int.reduceMul,Int.reduceNeg,Int.reduceLT,Int.reduceLE,Int.reduceEq,Int.reduceToNat,Int.cast_ofNat_Int,↓reduceIte, *, hu.cellsV, (nothing_ret (hu.app _)).call, awake_ret.call]
      first | rfl | exact ⟨rfl, rfl, rfl⟩ | exact ⟨rfl, rfl⟩
end Go.Proofs.Ytalaadcbpjnglaa
