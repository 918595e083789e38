/- What the law needs: what its functions do, and the laws on lists behind it. No condition. -/
import Derived.Test.YtalaadcbpjnglaaPi
import Derived.Test.YtalaadcbpjnglaaBo
import Derived.KernelRfl
import Derived.WalkKit
import Derived.ProofKit
import Derived.OpenShut
import Derived.ShutString
import Derived.ChangeOld
import Derived.Below
import Derived.SizedLaws
import Derived.Carry
set_option linter.unusedSimpArgs false
set_option linter.unusedVariables false
namespace Go.AM
open Go
inductive HT where
  | leaf
  | node (v : Blk) (l r : HT)
def HT.get : HT → Nat → Blk
  | .leaf, _ => .dead
  | .node v l r, n => bif Nat.beq n 0 then v else bif Nat.beq (n % 2) 1 then l.get (n / 2) else r.get (n / 2 - 1)
def HT.set : Nat → HT → Nat → Blk → HT
  | 0, t, _, _ => t
  | d + 1, .leaf, n, k => bif Nat.beq n 0 then .node k .leaf .leaf else bif Nat.beq (n % 2) 1 then .node .dead (HT.set d .leaf (n / 2) k) .leaf else .node .dead .leaf (HT.set d .leaf (n / 2 - 1) k)
  | d + 1, .node v l r, n, k => bif Nat.beq n 0 then .node k l r else bif Nat.beq (n % 2) 1 then .node v (HT.set d l (n / 2) k) r else .node v l (HT.set d r (n / 2 - 1) k)
theorem HT.get_leaf (n : Nat) : HT.get .leaf n = .dead := rfl
theorem HT.get_node (v : Blk) (l r : HT) (n : Nat) : HT.get (.node v l r) n = if n = 0 then v else if n % 2 = 1 then l.get (n / 2) else r.get (n / 2 - 1) := by
  show (bif Nat.beq n 0 then v else bif Nat.beq (n % 2) 1 then l.get (n / 2) else r.get (n / 2 - 1)) = _
  have e1 : Nat.beq n 0 = decide (n = 0) := by rw [Bool.eq_iff_iff, Nat.beq_eq, decide_eq_true_eq]
  have e2 : Nat.beq (n % 2) 1 = decide (n % 2 = 1) := by rw [Bool.eq_iff_iff, Nat.beq_eq, decide_eq_true_eq]
  rw [e1, e2]
  by_cases h1 : n = 0 <;> by_cases h2 : n % 2 = 1 <;> simp [h1, h2]
theorem HT.set_succ (d : Nat) (t : HT) (n : Nat) (k : Blk) : ∃ v l r, (∀ m, t.get m = HT.get (.node v l r) m) ∧
    HT.set (d + 1) t n k = if n = 0 then .node k l r else if n % 2 = 1 then .node v (HT.set d l (n / 2) k) r else .node v l (HT.set d r (n / 2 - 1) k) := by
  have e1 : Nat.beq n 0 = decide (n = 0) := by rw [Bool.eq_iff_iff, Nat.beq_eq, decide_eq_true_eq]
  have e2 : Nat.beq (n % 2) 1 = decide (n % 2 = 1) := by rw [Bool.eq_iff_iff, Nat.beq_eq, decide_eq_true_eq]
  cases t with
  | leaf =>
    refine ⟨.dead, .leaf, .leaf, fun m => ?_, ?_⟩
    · rw [HT.get_node]; simp [HT.get_leaf]
    · show (bif Nat.beq n 0 then _ else bif Nat.beq (n % 2) 1 then _ else _) = _
      rw [e1, e2]
      by_cases h1 : n = 0 <;> by_cases h2 : n % 2 = 1 <;> simp [h1, h2]
  | node v l r =>
    refine ⟨v, l, r, fun m => rfl, ?_⟩
    show (bif Nat.beq n 0 then _ else bif Nat.beq (n % 2) 1 then _ else _) = _
    rw [e1, e2]
    by_cases h1 : n = 0 <;> by_cases h2 : n % 2 = 1 <;> simp [h1, h2]
theorem HT.get_set : ∀ (d : Nat) (t : HT) (n : Nat) (k : Blk) (m : Nat), n + 1 < 2 ^ d → (HT.set d t n k).get m = if m = n then k else t.get m
  | 0, t, n, k, m, h => by simp at h
  | d + 1, t, n, k, m, h => by
    obtain ⟨v, l, r, h1, h2⟩ := HT.set_succ d t n k
    rw [h2, h1 m]
    have hp : 2 ^ (d + 1) = 2 * 2 ^ d := by rw [Nat.pow_succ]; omega
    by_cases e0 : n = 0
    · subst e0
      rw [if_pos rfl, HT.get_node, HT.get_node]
      by_cases e : m = 0 <;> simp [e]
    · rw [if_neg e0]
      by_cases e2 : n % 2 = 1
      · rw [if_pos e2, HT.get_node, HT.get_node, HT.get_set d l (n / 2) k (m / 2) (by omega)]
        by_cases e : m = 0
        · rw [if_pos e, if_pos e, if_neg (by omega)]
        · rw [if_neg e, if_neg e]
          by_cases e3 : m % 2 = 1
          · rw [if_pos e3, if_pos e3]
            by_cases e4 : m = n
            · rw [if_pos (by omega), if_pos e4]
            · rw [if_neg (by omega), if_neg e4]
          · rw [if_neg e3, if_neg e3, if_neg (by omega)]
      · rw [if_neg e2, HT.get_node, HT.get_node, HT.get_set d r (n / 2 - 1) k (m / 2 - 1) (by omega)]
        by_cases e : m = 0
        · rw [if_pos e, if_pos e, if_neg (by omega)]
        · rw [if_neg e, if_neg e]
          by_cases e3 : m % 2 = 1
          · rw [if_pos e3, if_pos e3, if_neg (by omega)]
          · rw [if_neg e3, if_neg e3]
            by_cases e4 : m = n
            · rw [if_pos (by omega), if_pos e4]
            · rw [if_neg (by omega), if_neg e4]
structure HS where
  n : Nat
  t : HT
def HS.abs (h : HS) : Heap := (List.range h.n).map h.t.get
def HS.at (h : HS) (b : Nat) : Option Blk := bif Nat.ble (b + 1) h.n then some (h.t.get b) else none
def HS.put (h : HS) (b : Nat) (k : Blk) : Option HS := bif Nat.ble (b + 1) h.n && Nat.ble h.n 1000000 then some ⟨h.n, h.t.set 21 b k⟩ else none
def HS.push (h : HS) (k : Blk) : Option HS := bif Nat.ble h.n 1000000 then some ⟨h.n + 1, h.t.set 21 h.n k⟩ else none
theorem HS.abs_len (h : HS) : h.abs.length = h.n := by simp [HS.abs]
theorem HS.abs_get (h : HS) (b : Nat) : h.abs[b]? = h.at b := by
  unfold HS.abs HS.at
  by_cases e : b < h.n
  · have : Nat.ble (b + 1) h.n = true := by rw [Nat.ble_eq]; omega
    simp [this, e]
  · have : Nat.ble (b + 1) h.n = false := by rw [← Bool.not_eq_true, Nat.ble_eq]; omega
    simp [this]; omega
theorem HS.abs_put {h h' : HS} {b : Nat} {k : Blk} (e : h.put b k = some h') : h'.abs = h.abs.set b k := by
  unfold HS.put at e
  cases hc : (Nat.ble (b + 1) h.n && Nat.ble h.n 1000000) with
  | false => rw [hc] at e; cases e
  | true =>
    rw [hc] at e
    cases e
    simp only [Bool.and_eq_true, Nat.ble_eq] at hc
    refine List.ext_getElem? fun i => ?_
    rw [List.getElem?_set, HS.abs_len, HS.abs_get, HS.abs_get]
    unfold HS.at
    simp only
    rw [HT.get_set 21 _ _ _ _ (by omega)]
    by_cases e1 : b = i
    · subst e1
      have : Nat.ble (b + 1) h.n = true := by rw [Nat.ble_eq]; omega
      simp [this, show b < h.n by omega]
    · simp [e1, Ne.symm e1]
theorem HS.abs_push {h h' : HS} {k : Blk} (e : h.push k = some h') : h'.abs = h.abs ++ [k] := by
  unfold HS.push at e
  cases hc : Nat.ble h.n 1000000 with
  | false => rw [hc] at e; cases e
  | true =>
    rw [hc] at e
    cases e
    rw [Nat.ble_eq] at hc
    refine List.ext_getElem? fun i => ?_
    rw [HS.abs_get]
    unfold HS.at
    simp only
    rw [HT.get_set 21 _ _ _ _ (by omega)]
    by_cases e1 : i < h.n
    · have h1 : Nat.ble (i + 1) (h.n + 1) = true := by rw [Nat.ble_eq]; omega
      have h2 : Nat.ble (i + 1) h.n = true := by rw [Nat.ble_eq]; omega
      rw [List.getElem?_append_left (by rw [HS.abs_len]; omega), HS.abs_get]
      simp [HS.at, h1, h2, show i ≠ h.n by omega]
    · by_cases e2 : i = h.n
      · subst e2
        have h1 : Nat.ble (h.n + 1) (h.n + 1) = true := by rw [Nat.ble_eq]; omega
        rw [List.getElem?_append_right (by rw [HS.abs_len]; omega), HS.abs_len]
        simp [h1]
      · have h1 : Nat.ble (i + 1) (h.n + 1) = false := by rw [← Bool.not_eq_true, Nat.ble_eq]; omega
        rw [List.getElem?_eq_none (by simp [HS.abs_len]; omega)]
        simp [h1]
end Go.AM
namespace Go.AM
open Go
def ldT (h : HS) (b o : Nat) : Option AV :=
  match h.at b with
  | some (.cells vs) => vs[o]?
  | _ => none
theorem ldT_eq (h : HS) (b o : Nat) : ldT h b o = ld h.abs b o := by
  unfold ldT ld
  rw [HS.abs_get]
  split <;> simp_all
def ldnT (h : HS) (b o n : Nat) : Option (List AV) :=
  match h.at b with
  | some (.cells vs) => if o + n ≤ vs.length then some ((vs.drop o).take n) else none
  | _ => none
theorem ldnT_eq (h : HS) (b o n : Nat) : ldnT h b o n = ldn h.abs b o n := by
  unfold ldnT ldn
  rw [HS.abs_get]
  split <;> simp_all
def stT (lo : Nat) (h : HS) (b o : Nat) (vs : List AV) : Option HS :=
  if lo ≤ b then
    match h.at b with
    | some (.cells cs) => if o + vs.length ≤ cs.length then h.put b (.cells (wr cs o vs)) else none
    | _ => none
  else none
theorem stT_ok {lo : Nat} {h h' : HS} {b o : Nat} {vs : List AV} (e : stT lo h b o vs = some h') : st lo h.abs b o vs = some h'.abs := by
  unfold stT at e
  unfold st
  rw [HS.abs_get]
  split at e
  · rename_i h1
    rw [if_pos h1]
    split at e
    · rename_i cs h2
      split at e
      · rename_i h3
        simp only [h2, if_pos h3, HS.abs_put e]
      · cases e
    · cases e
  · cases e
def cellsOfT (es m : Nat) (x : AV) (h : HS) : Option (List AV) :=
  match x with
  | .nils => if m = 0 then some [] else none
  | .s es' b o n _ => if m ≤ n ∧ es' = es then (if m = 0 then some [] else ldnT h b o (m * es)) else none
  | _ => none
theorem cellsOfT_eq (es m : Nat) (x : AV) (h : HS) : cellsOfT es m x h = cellsOf es m x h.abs := by
  unfold cellsOfT cellsOf
  cases x <;> simp only [ldnT_eq]
def appendT (lo es bytes : Nat) (sv : AV) (xs : List AV) (m : Nat) (h : HS) : Option (AV × HS) :=
  match sv with
  | .nils =>
    if m = 0 then some (.nils, h)
    else if m * bytes ≤ mostBytes then (h.push (.cells xs)).map fun h' => (.s es h.n 0 m none, h') else none
  | .s es' b o n c =>
    if es' ≠ es then none
    else if m = 0 then some (sv, h)
    else match h.at b with
      | some (.cells cs) =>
        if o + n * es ≤ cs.length ∧ (n + m) * bytes ≤ mostBytes then
          if c = some n then (h.push (.cells ((cs.drop o).take (n * es) ++ xs))).map fun h' => (.s es h.n 0 (n + m) none, h')
          else if lo ≤ b then (h.put b .dead).bind fun h1 => (h1.push (.cells ((cs.drop o).take (n * es) ++ xs))).map fun h' => (.s es h.n 0 (n + m) none, h')
          else none
        else none
      | _ => none
  | _ => none
theorem appendT_ok {lo es bytes : Nat} {sv v : AV} {xs : List AV} {m : Nat} {h h' : HS} (e : appendT lo es bytes sv xs m h = some (v, h')) : appendA lo es bytes sv xs m h.abs = some (v, h'.abs) := by
  unfold appendT at e
  unfold appendA
  rw [HS.abs_len]
  cases sv <;> simp only at e ⊢ <;> try (cases e; done)
  case nils =>
    split at e
    · rename_i h1; cases e; rw [if_pos h1]
    · rename_i h1
      rw [if_neg h1]
      split at e
      · rename_i h2
        obtain ⟨h3, h4, h5⟩ := Option.map_eq_some_iff.1 e
        cases h5
        rw [if_pos h2, HS.abs_push h4]
      · cases e
  case s es' b o n c =>
    split at e
    · cases e
    · rename_i h1
      rw [if_neg h1]
      split at e
      · rename_i h2; cases e; rw [if_pos h2]
      · rename_i h2
        rw [if_neg h2, HS.abs_get]
        split at e
        · rename_i cs hcs
          simp only [hcs]
          split at e
          · rename_i h3
            rw [if_pos h3]
            split at e
            · rename_i h4
              obtain ⟨h5, h6, h7⟩ := Option.map_eq_some_iff.1 e
              cases h7
              rw [if_pos h4, HS.abs_push h6]
            · rename_i h4
              rw [if_neg h4]
              split at e
              · rename_i h5
                obtain ⟨h6, h7, e⟩ := Option.bind_eq_some_iff.1 e
                obtain ⟨h8, h9, h10⟩ := Option.map_eq_some_iff.1 e
                cases h10
                rw [if_pos h5, HS.abs_push h9, HS.abs_put h7]
              · cases e
          · cases e
        · cases e
def pureT (r : Option (AV × Heap)) (h : HS) : Option (AV × HS) :=
  match r with
  | some (v, _) => some (v, h)
  | none => none
def t_alloc (z : List AV) (_ : Nat) (_ : Fr) (h : HS) : Option (AV × HS) := (h.push (.cells z)).map fun h' => (.p h.n 0, h')
def t_box (x : AX) (_ : Nat) (a : Fr) (h : HS) : Option (AV × HS) := if (ev a x).cells.all AV.one then (h.push (.cells (ev a x).cells)).map fun h' => (.p h.n 0, h') else none
def t_bslice (z : List AV) (len es : Nat) (parts : List (Nat × AX)) (_ : Nat) (a : Fr) (h : HS) : Option (AV × HS) :=
  (fillA (reps len z) (parts.map fun q => (q.1 * es, es, ev a q.2))).bind fun cs => (h.push (.cells cs)).map fun h' => (.s es h.n 0 len (some len), h')
def t_mkslice (es bytes : Nat) (z : List AV) (l : AX) (_ : Nat) (a : Fr) (h : HS) : Option (AV × HS) :=
  match ev a l with
  | .int .i64 n => if 0 ≤ n ∧ n.toNat * bytes ≤ mostBytes ∧ n ≤ 2 ^ 40 ∧ z.length = es then (h.push (.cells (reps n.toNat z))).map fun h' => (.s es h.n 0 n.toNat (some n.toNat), h') else none
  | _ => none
def t_load (n : Option Nat) (x : AX) (_ : Nat) (a : Fr) (h : HS) : Option (AV × HS) :=
  match ev a x with
  | .p b o => (match n with
    | none => (ldT h b o).map fun v => (v, h)
    | some n => (ldnT h b o n).map fun vs => (.ag vs, h))
  | _ => none
def t_store (n : Nat) (p x : AX) (lo : Nat) (a : Fr) (h : HS) : Option (AV × HS) :=
  match ev a p with
  | .p b o => if (ev a x).cells.length = n ∧ (ev a x).cells.all AV.one then (stT lo h b o (ev a x).cells).map fun h' => (.no, h') else none
  | _ => none
def t_append (es bytes : Nat) (s x : AX) (lo : Nat) (a : Fr) (h : HS) : Option (AV × HS) :=
  match lenA (ev a x) with
  | some m => (match cellsOfT es m (ev a x) h with
    | some xs => appendT lo es bytes (ev a s) xs m h
    | none => none)
  | none => none
def t_appendz (es bytes : Nat) (z : List AV) (s n : AX) (lo : Nat) (a : Fr) (h : HS) : Option (AV × HS) :=
  match ev a n with
  | .int .i64 n => if 0 ≤ n ∧ n ≤ 2 ^ 40 ∧ n.toNat * bytes ≤ mostBytes ∧ z.length = es then appendT lo es bytes (ev a s) (reps n.toNat z) n.toNat h else none
  | _ => none
def t_copy (es : Nat) (d s : AX) (lo : Nat) (a : Fr) (h : HS) : Option (AV × HS) :=
  match ev a d, lenA (ev a s) with
  | .s es' b o n _, some m => if es' ≠ es then none else match cellsOfT es (min m n) (ev a s) h with
    | some xs => if xs = [] then some (.i (min m n : Nat), h) else if xs.all AV.one then (stT lo h b o xs).map fun h' => (.i (min m n : Nat), h') else none
    | none => none
  | .nils, some _ => some (.i 0, h)
  | _, _ => none
def t_slarr (n es : Nat) (x : AX) (l hi : Option AX) (lo : Nat) (a : Fr) (h : HS) : Option (AV × HS) :=
  match ev a x with
  | .p b o => match boundA a hi n n with
    | some hi => match boundA a l 0 hi with
      | some lo' => match h.at b with
        | some (.cells cs) => if es = 1 ∧ lo ≤ b ∧ o + n ≤ cs.length then some (.s 1 b (o + lo') (hi - lo') (some (n - lo')), h) else none
        | _ => none
      | none => none
    | none => none
  | _ => none
noncomputable def opT (o : AOp) : Nat → Fr → HS → Option (AV × HS) :=
  @AOp.rec (fun _ => Nat → Fr → HS → Option (AV × HS)) (fun u0 lo a h => pureT (x_mv u0 lo a []) h) (fun u0 u1 u2 lo a h => pureT (x_pick u0 u1 u2 lo a []) h) t_alloc t_box (fun u0 u1 lo a h => pureT (x_build u0 u1 lo a []) h) t_bslice t_load t_store (fun u0 u1 u2 lo a h => pureT (x_bin u0 u1 u2 lo a []) h) (fun u0 u1 u2 lo a h => pureT (x_beq u0 u1 u2 lo a []) h) (fun u0 u1 u2 lo a h => pureT (x_seq u0 u1 u2 lo a []) h) (fun u0 u1 u2 u3 lo a h => pureT (x_aeq u0 u1 u2 u3 lo a []) h) (fun u0 u1 lo a h => pureT (x_un u0 u1 lo a []) h) (fun u0 u1 lo a h => pureT (x_conv u0 u1 lo a []) h) (fun u0 u1 u2 lo a h => pureT (x_mkfn u0 u1 u2 lo a []) h) t_mkslice (fun u0 u1 u2 u3 u4 lo a h => pureT (x_slice u0 u1 u2 u3 u4 lo a []) h) t_slarr (fun u0 u1 lo a h => pureT (x_faddr u0 u1 lo a []) h) (fun u0 u1 u2 lo a h => pureT (x_field u0 u1 u2 lo a []) h) (fun u0 u1 u2 lo a h => pureT (x_iaddr u0 u1 u2 lo a []) h) (fun u0 u1 u2 u3 lo a h => pureT (x_iaddrA u0 u1 u2 u3 lo a []) h) (fun u0 u1 u2 u3 u4 lo a h => pureT (x_index u0 u1 u2 u3 u4 lo a []) h) (fun u0 lo a h => pureT (x_len u0 lo a []) h) (fun u0 lo a h => pureT (x_lenA u0 lo a []) h) (fun u0 lo a h => pureT (x_cap u0 lo a []) h) (fun u0 lo a h => pureT (x_mn u0 lo a []) h) (fun u0 lo a h => pureT (x_mx u0 lo a []) h) t_append t_appendz t_copy (fun _ _ _ _ _ => none) (fun _ _ _ _ _ => none) (fun u0 u1 lo a h => pureT (x_extr u0 u1 lo a []) h) (fun u0 lo a h => pureT (x_nilchk u0 lo a []) h) (fun _ _ _ => none) o
theorem pureT_ok {lo : Nat} {o : AOp} {a : Fr} {h h' : HS} {v : AV} (hc : o.cl (fun _ => .ro) = .pure) (e : pureT (opQ o lo a []) h = some (v, h')) : opA lo o a h.abs = some (v, h'.abs) := by
  rw [opQ_eq] at e
  unfold pureT at e
  split at e
  · rename_i u H1 h1
    cases e
    have h2 : opF ⟨fun _ => none, fun _ => .ro⟩ (fun _ _ _ _ _ => none) lo o a [] = some (v, H1) := by
      cases o <;> first | exact h1 | (simp [AOp.cl] at hc)
    have h3 := (opF_pure hc h2).2 h.abs lo
    cases o <;> first | exact h3 | (simp [AOp.cl] at hc)
  · cases e
theorem opT_ok {lo : Nat} {o : AOp} {a : Fr} {h h' : HS} {v : AV} (e : opT o lo a h = some (v, h')) : opA lo o a h.abs = some (v, h'.abs) := by
  cases o
  case alloc z =>
    obtain ⟨h1, h2, h3⟩ := Option.map_eq_some_iff.1 e
    cases h3
    simp only [opA, HS.abs_len, HS.abs_push h2]
  case box x =>
    simp only [opT, t_box] at e
    split at e
    · rename_i hc
      obtain ⟨h1, h2, h3⟩ := Option.map_eq_some_iff.1 e
      cases h3
      simp only [opA, if_pos hc, HS.abs_len, HS.abs_push h2]
    · cases e
  case bslice z len es parts =>
    simp only [opT, t_bslice] at e
    obtain ⟨cs, hcs, e⟩ := Option.bind_eq_some_iff.1 e
    obtain ⟨h1, h2, h3⟩ := Option.map_eq_some_iff.1 e
    cases h3
    simp only [opA, hcs, Option.map_some, HS.abs_len, HS.abs_push h2]
  case mkslice es bytes z l =>
    simp only [opT, t_mkslice] at e
    simp only [opA]
    split at e
    · rename_i n hn
      split at e
      · rename_i hc
        obtain ⟨h1, h2, h3⟩ := Option.map_eq_some_iff.1 e
        cases h3
        simp only [hn, if_pos hc, HS.abs_len, HS.abs_push h2]
      · cases e
    · cases e
  case load n x =>
    simp only [opT, t_load] at e
    simp only [opA]
    split at e
    · rename_i b o hx
      cases n with
      | none =>
        obtain ⟨u, h2, h3⟩ := Option.map_eq_some_iff.1 e
        cases h3
        rw [ldT_eq] at h2
        simp only [hx, h2, Option.map_some]
      | some n =>
        obtain ⟨u, h2, h3⟩ := Option.map_eq_some_iff.1 e
        cases h3
        rw [ldnT_eq] at h2
        simp only [hx, h2, Option.map_some]
    · cases e
  case store n p x =>
    simp only [opT, t_store] at e
    simp only [opA]
    split at e
    · rename_i b o hx
      split at e
      · rename_i hc
        obtain ⟨u, h2, h3⟩ := Option.map_eq_some_iff.1 e
        cases h3
        simp only [hx, if_pos hc, stT_ok h2, Option.map_some]
      · cases e
    · cases e
  case append es bytes s x =>
    simp only [opT, t_append] at e
    simp only [opA]
    split at e
    · rename_i m hm
      split at e
      · rename_i xs hxs
        rw [cellsOfT_eq] at hxs
        simp only [hm, hxs]
        exact appendT_ok e
      · cases e
    · cases e
  case appendz es bytes z s n =>
    simp only [opT, t_appendz] at e
    simp only [opA]
    split at e
    · rename_i m hm
      split at e
      · rename_i hc
        simp only [hm, if_pos hc]
        exact appendT_ok e
      · cases e
    · cases e
  case copy es d s =>
    simp only [opT, t_copy] at e
    simp only [opA]
    split at e
    · rename_i es' b o n c m hd hm
      split at e
      · cases e
      · rename_i hes
        split at e
        · rename_i xs hxs
          rw [cellsOfT_eq] at hxs
          simp only [hd, hm, if_neg hes, hxs]
          split at e
          · rename_i h0; cases e; rw [if_pos h0]
          · rename_i h0
            rw [if_neg h0]
            split at e
            · rename_i h1
              obtain ⟨u, h2, h3⟩ := Option.map_eq_some_iff.1 e
              cases h3
              simp only [if_pos h1, stT_ok h2, Option.map_some]
            · cases e
        · cases e
    · rename_i m hd hm
      cases e
      simp only [hd, hm]
    · cases e
  case slarr n es x l hi =>
    simp only [opT, t_slarr] at e
    simp only [opA]
    split at e
    · rename_i b o hx
      split at e
      · rename_i hv h1
        split at e
        · rename_i lv h2
          split at e
          · rename_i cs h3
            split at e
            · rename_i hc
              cases e
              simp only [hx, h1, h2, HS.abs_get, h3, if_pos hc]
            · cases e
          · cases e
        · cases e
      · cases e
    · cases e
  case call | callv | bad => cases e
  all_goals exact pureT_ok rfl e
end Go.AM
namespace Go.AM
open Go
abbrev RecT := Nat → Option Nat → List AI → Fr → HS → Option (Out × Fr × HS)
def resVarT (a : Fr) (h : HS) : RVar → Option AV
  | .t n => some (a n)
  | .c n k => match a n with
    | .p b o => (match k with
      | none => ldT h b o
      | some m => (ldnT h b o m).map .ag)
    | _ => none
def resVarsT (a : Fr) (h : HS) : List RVar → Option (List AV)
  | [] => some []
  | r :: rs => (resVarT a h r).bind fun v => (resVarsT a h rs).map (v :: ·)
def resT (rs : List RVar) (a : Fr) (h : HS) : Option AV :=
  match resVarsT a h rs with
  | some [v] => some v
  | some vs => some (.tp vs)
  | none => none
theorem resVarT_eq (a : Fr) (h : HS) (r : RVar) : resVarT a h r = resVar a h.abs r := by
  cases r with
  | t n => rfl
  | c n k =>
    simp only [resVarT, resVar, ldT_eq, ldnT_eq]
    cases a n <;> cases k <;> rfl
theorem resVarsT_eq (a : Fr) (h : HS) : ∀ rs, resVarsT a h rs = resVars a h.abs rs
  | [] => rfl
  | r :: rs => by simp only [resVarsT, resVars, resVarT_eq, resVarsT_eq a h rs]
theorem resT_eq (rs : List RVar) (a : Fr) (h : HS) : resT rs a h = resA rs a h.abs := by
  unfold resT resA
  rw [resVarsT_eq]
  split <;> simp_all
/-- c more blocks of h' are laid behind h -/
def keepT : Nat → HS → HS → Option HS
  | 0, h, _ => some h
  | c + 1, h, h' => match h.push (h'.t.get h.n).shut with
    | some h1 => keepT c h1 h'
    | none => none
theorem HS.push_n {h h' : HS} {k : Blk} (e : h.push k = some h') : h'.n = h.n + 1 := by
  unfold HS.push at e
  cases hc : Nat.ble h.n 1000000 <;> rw [hc] at e <;> cases e
  rfl
theorem keepT_ok : ∀ (c : Nat) {h h' h2 : HS}, keepT c h h' = some h2 → h.n + c ≤ h'.n → h2.abs = h.abs ++ ((h'.abs.drop h.n).take c).map Blk.shut
  | 0, h, h', h2, e, _ => by cases e; simp
  | c + 1, h, h', h2, e, hle => by
    simp only [keepT] at e
    split at e
    · rename_i h1 hp
      have hn := HS.push_n hp
      rw [keepT_ok c e (by omega), HS.abs_push hp, hn]
      have hg : h'.abs[h.n]? = some (h'.t.get h.n) := by
        rw [HS.abs_get]
        have : Nat.ble (h.n + 1) h'.n = true := by rw [Nat.ble_eq]; omega
        simp [HS.at, this]
      have : h'.abs.drop h.n = h'.t.get h.n :: h'.abs.drop (h.n + 1) := by
        have hlt := (List.getElem?_eq_some_iff.1 hg)
        obtain ⟨hlt, hv⟩ := hlt
        rw [List.drop_eq_getElem_cons hlt, hv]
      rw [this]
      simp
    · cases e
def runFT (rec : RecT) (lo : Nat) (af : AFunc) (vs : List AV) (h : HS) : Option (AV × HS) :=
  if vs.length = af.nargs then
    match rec lo none [.code af.body] (initFr vs) h with
    | some (.done, a, h') => (resT af.res a h').map fun v => (v, h')
    | some (.ret, a, h') => (resT af.res a h').map fun v => (v, h')
    | _ => none
  else none
def callFT (E : Tab) (rec : RecT) (lo : Nat) (f : Nat) (vs : List AV) (h : HS) : Option (AV × HS) :=
  match E.kd f with
  | .prim g => (g vs).bind fun v => if v.pure && AV.pureAll vs then some (v, h) else none
  | .wrt => (E.fn f).bind fun af => runFT rec lo af vs h
  | .ro => (E.fn f).bind fun af => (runFT rec h.n af vs h).bind fun r => if r.1.pure then some (r.1, h) else if h.n ≤ r.2.n then (keepT (r.2.n - h.n) h r.2).map fun h' => (r.1, h') else none
  | .closed => if AV.pureAll vs then (E.fn f).bind fun af => (runFT rec 0 af vs ⟨0, .leaf⟩).bind fun r => if r.1.pure then some (r.1, h) else none else none
def roundT (rec : RecT) (lo l : Nat) (fr : Fr) (ps : List Nat) (asg body : ACode) (vs : List AV) (h : HS) : Option (AV × HS) :=
  if vs.length = ps.length ∧ lo ≤ l then
    match rec lo (some l) [.code asg, .begin, .code body] (setPs fr ps vs) h with
    | some (out, _, h') => match h'.at l with
      | some (.loop .busy _ nt' fr' ps' asg' body') =>
        (h'.put l (.loop (if out.jmp.isNone then .ready else .done) out.jmp nt' fr' ps' asg' body')).map fun h2 => (.b out.jmp.isNone, h2)
      | _ => none
    | none => none
  else none
def callVT (E : Tab) (rec : RecT) (lo : Nat) (fv : AV) (vs : List AV) (h : HS) : Option (AV × HS) :=
  match fv with
  | .fn f us caps => callFT E rec lo f (us ++ vs ++ caps) h
  | .yl l => match h.at l with
    | some (.loop .ready _ _ fr ps asg body) => roundT rec lo l fr ps asg body vs h
    | _ => none
  | _ => none
def SimT (rec : Rec) (recT : RecT) : Prop := ∀ lo rd k a h o a' h', recT lo rd k a h = some (o, a', h') → rec lo rd k a h.abs = some (o, a', h'.abs)
section
variable {E : Tab} {rec : Rec} {recT : RecT} {lo : Nat}
theorem runFT_ok (hS : SimT rec recT) {af : AFunc} {vs : List AV} {h h' : HS} {v : AV} (e : runFT recT lo af vs h = some (v, h')) : runF rec lo af vs h.abs = some (v, h'.abs) := by
  unfold runFT at e
  unfold runF
  split at e
  · rename_i hn
    rw [if_pos hn]
    split at e
    · rename_i a1 h1 hr
      rw [hS _ _ _ _ _ _ _ _ hr]
      rw [resT_eq] at e
      obtain ⟨u, hu, e⟩ := Option.map_eq_some_iff.1 e
      cases e
      simp only [hu, Option.map_some]
    · rename_i a1 h1 hr
      rw [hS _ _ _ _ _ _ _ _ hr]
      rw [resT_eq] at e
      obtain ⟨u, hu, e⟩ := Option.map_eq_some_iff.1 e
      cases e
      simp only [hu, Option.map_some]
    · cases e
  · cases e
theorem callFT_ok (hS : SimT rec recT) {f : Nat} {vs : List AV} {h h' : HS} {v : AV} (e : callFT E recT lo f vs h = some (v, h')) : callF E rec lo f vs h.abs = some (v, h'.abs) := by
  unfold callFT at e
  unfold callF
  cases hk : E.kd f with
  | prim g =>
    rw [hk] at e
    simp only at e ⊢
    obtain ⟨u, hu, e⟩ := Option.bind_eq_some_iff.1 e
    simp only [hu, Option.bind_some]
    split at e
    · rename_i hc; cases e; rw [if_pos hc]
    · cases e
  | wrt =>
    rw [hk] at e
    simp only at e ⊢
    obtain ⟨af, haf, e⟩ := Option.bind_eq_some_iff.1 e
    simp only [haf, Option.bind_some]
    exact runFT_ok hS e
  | ro =>
    rw [hk] at e
    simp only at e ⊢
    obtain ⟨af, haf, e⟩ := Option.bind_eq_some_iff.1 e
    obtain ⟨⟨u, h1⟩, hr, e⟩ := Option.bind_eq_some_iff.1 e
    simp only [haf, Option.bind_some, HS.abs_len]
    rw [runFT_ok hS hr]
    simp only [Option.map_some]
    simp only at e
    split at e
    · rename_i hp; cases e; rw [if_pos hp]
    · rename_i hp
      rw [if_neg hp]
      split at e
      · rename_i hle
        obtain ⟨h2, hk2, e⟩ := Option.map_eq_some_iff.1 e
        cases e
        rw [keepT_ok _ hk2 (by omega)]
        have : (h1.abs.drop h.n).take (h1.n - h.n) = h1.abs.drop h.n := List.take_of_length_le (by simp [HS.abs_len])
        rw [this]
      · cases e
  | closed =>
    rw [hk] at e
    simp only at e ⊢
    split at e
    · rename_i hp
      rw [if_pos hp]
      obtain ⟨af, haf, e⟩ := Option.bind_eq_some_iff.1 e
      obtain ⟨⟨u, h1⟩, hr, e⟩ := Option.bind_eq_some_iff.1 e
      simp only [haf, Option.bind_some]
      have := runFT_ok hS hr
      have e0 : HS.abs ⟨0, .leaf⟩ = [] := rfl
      rw [e0] at this
      rw [this]
      simp only at e
      split at e
      · rename_i hq; cases e; simp only [Option.bind_some, if_pos hq]
      · cases e
    · cases e
theorem roundT_ok (hS : SimT rec recT) {l : Nat} {fr : Fr} {ps : List Nat} {asg body : ACode} {vs : List AV} {h h' : HS} {v : AV} (e : roundT recT lo l fr ps asg body vs h = some (v, h')) : roundA rec lo l fr ps asg body vs h.abs = some (v, h'.abs) := by
  unfold roundT at e
  unfold roundA
  split at e
  · rename_i hc
    rw [if_pos hc]
    split at e
    · rename_i out a1 h1 hr
      rw [hS _ _ _ _ _ _ _ _ hr]
      simp only [HS.abs_get]
      split at e
      · rename_i p nt' fr' ps' asg' body' hb
        obtain ⟨h2, hp, e⟩ := Option.map_eq_some_iff.1 e
        cases e
        simp only [hb, HS.abs_put hp]
      · cases e
    · cases e
  · cases e
theorem callVT_ok (hS : SimT rec recT) {fv : AV} {vs : List AV} {h h' : HS} {v : AV} (e : callVT E recT lo fv vs h = some (v, h')) : callV E rec lo fv vs h.abs = some (v, h'.abs) := by
  unfold callVT at e
  unfold callV
  split at e
  · exact callFT_ok hS e
  · simp only [HS.abs_get]
    split at e
    · rename_i hb
      simp only [hb]
      exact roundT_ok hS e
    · cases e
  · cases e
end
end Go.AM
namespace Go.AM
open Go
section
variable (E : Tab) (recT : RecT) (lo : Nat)
noncomputable def opFT (o : AOp) (a : Fr) (h : HS) : Option (AV × HS) :=
  match o with
  | .call f args => callFT E recT lo f (args.map (ev a)) h
  | .callv x args => callVT E recT lo (ev a x) (args.map (ev a)) h
  | o => opT o lo a h
noncomputable def runOpsT (l : List AOper) : Fr → HS → Option (Fr × HS) :=
  @List.rec AOper (fun _ => Fr → HS → Option (Fr × HS)) (fun a h => some (a, h))
    (fun o _ ih a h => @Option.rec (Nat × Bool) (fun _ => Option (Fr × HS))
      (@Option.rec (AV × HS) (fun _ => Option (Fr × HS)) none (fun r => ih (a.put o.dst r.1) r.2) (opFT E recT lo o.op a h))
      (fun g => match wantedA a (some g) with
        | some true => @Option.rec (AV × HS) (fun _ => Option (Fr × HS)) none (fun r => ih (a.put o.dst r.1) r.2) (opFT E recT lo o.op a h)
        | some false => ih (a.put o.dst .no) h
        | none => none) o.guard) l
noncomputable def runTrT (l : List AOper) : Fr → HS → Option (List (Fr × HS)) :=
  @List.rec AOper (fun _ => Fr → HS → Option (List (Fr × HS))) (fun a h => some [(a, h)])
    (fun o _ ih a h => match wantedA a o.guard with
        | some true => (match opFT E recT lo o.op a h with
          | some r => (ih (a.put o.dst r.1) r.2).map ((a, h) :: ·)
          | none => none)
        | some false => (ih (a.put o.dst .no) h).map ((a, h) :: ·)
        | none => none) l
def chk1T (l : List AOper) (tr : List (Fr × HS)) (q : Nat × Nat) : Bool :=
  match l[q.1]?, tr[q.1]?, tr[q.2]?, tr[q.2 + 1]? with
  | some ⟨_, .load n x, _⟩, some s, some s1, some s2 =>
    match ev s.1 x with
    | .p b o => decide (s1.2.n ≤ b) || (match n with
      | none => sameO (ldT s1.2 b o) (ldT s2.2 b o)
      | some n => sameLO (ldnT s1.2 b o n) (ldnT s2.2 b o n))
    | _ => true
  | _, _, _, _ => false
noncomputable def runDT (ck : List (Nat × Nat)) (l : List AOper) (a : Fr) (h : HS) : Option (Fr × HS) :=
  match ck with
  | [] => runOpsT E recT lo l a h
  | ck => (runTrT E recT lo l a h).bind fun tr => if ck.all (chk1T l tr) then tr[l.length]? else none
def mayLoopT (rd : Option Nat) (h : HS) : Bool :=
  match rd with
  | none => true
  | some l => lo ≤ l && (match h.at l with
    | some (.loop _ _ _ _ _ _ _) => true
    | _ => false)
noncomputable def rangeT (rd : Option Nat) (nt : Nat) (x : AX) (ps : List Nat) (asg body : ACode) (k : List AI) (a : Fr) (h : HS) : Option (Out × Fr × HS) :=
  if mayLoopT lo rd h then
    match ev a x with
    | .fn f us caps => (h.push (.loop .ready none nt a ps asg body)).bind fun h1 =>
      (callFT E recT lo f (us ++ .yl h.n :: caps) h1).bind fun r =>
        match r.2.at h.n with
        | some (.loop .busy _ _ _ _ _ _) => none
        | some (.loop _ none _ _ _ _ _) => (r.2.put h.n .dead).bind fun h2 => recT lo rd k a h2
        | some (.loop _ (some j) _ _ _ _ _) => (r.2.put h.n .dead).bind fun h2 => recT lo rd (.code j.code :: k) a h2
        | _ => none
    | _ => none
  else none
noncomputable def stepT (rd : Option Nat) (k : List AI) (a : Fr) (h : HS) : Option (Out × Fr × HS) :=
  match k with
  | [] => some (.done, a, h)
  | i :: k => match i with
    | .blk _ => recT lo rd k a h
    | .lp c => recT lo rd (.code c :: .lp c :: k) a h
    | .begin => (match rd with
      | some l => match h.at l with
        | some (.loop .ready p nt fr ps asg body) => if lo ≤ l then (h.put l (.loop .busy p nt fr ps asg body)).bind fun h1 => recT lo rd k a h1 else none
        | _ => none
      | none => none)
    | .code c => match c with
      | .seq x y => recT lo rd (.code x :: .code y :: k) a h
      | .reg d l => match d with
        | none => (runOpsT E recT lo l a h).bind fun r => recT lo rd k r.1 r.2
        | some ck => (runDT E recT lo ck l a h).bind fun r => recT lo rd k r.1 r.2
      | .cond c x y => match ev a c with
        | .b t => recT lo rd (.code (bif t then x else y) :: k) a h
        | _ => none
      | .block id c => recT lo rd (.code c :: .blk id :: k) a h
      | .loop c => recT lo rd (.code c :: .lp c :: k) a h
      | .skip => recT lo rd k a h
      | .ret => some (.ret, a, h)
      | .exit id => match exitA id k with
        | some k' => recT lo rd k' a h
        | none => some (.exit id, a, h)
      | .rangeF nt x ps asg body => rangeT E recT lo rd nt x ps asg body k a h
      | .bad => none
end
noncomputable def RT (E : Tab) (n : Nat) : RecT := @Nat.rec (fun _ => RecT) (fun _ _ _ _ _ => none) (fun _ recT => stepT E recT) n
section
variable {E : Tab} {rec : Rec} {recT : RecT} {lo : Nat}
theorem opFT_ok (hS : SimT rec recT) {o : AOp} {a : Fr} {h h' : HS} {v : AV} (e : opFT E recT lo o a h = some (v, h')) : opF E rec lo o a h.abs = some (v, h'.abs) := by
  unfold opFT at e
  unfold opF
  split at e
  · exact callFT_ok hS e
  · exact callVT_ok hS e
  · rename_i h1 h2
    split
    · exact absurd rfl (h1 _ _)
    · exact absurd rfl (h2 _ _)
    · exact opT_ok e
theorem runOpsT_cons (o : AOper) (os : List AOper) (a : Fr) (h : HS) : runOpsT E recT lo (o :: os) a h =
    @Option.rec (Nat × Bool) (fun _ => Option (Fr × HS))
      (@Option.rec (AV × HS) (fun _ => Option (Fr × HS)) none (fun r => runOpsT E recT lo os (a.put o.dst r.1) r.2) (opFT E recT lo o.op a h))
      (fun g => match wantedA a (some g) with
        | some true => @Option.rec (AV × HS) (fun _ => Option (Fr × HS)) none (fun r => runOpsT E recT lo os (a.put o.dst r.1) r.2) (opFT E recT lo o.op a h)
        | some false => runOpsT E recT lo os (a.put o.dst .no) h
        | none => none) o.guard := rfl
theorem runOpsT_ok (hS : SimT rec recT) : ∀ (l : List AOper) {a a' : Fr} {h h' : HS}, runOpsT E recT lo l a h = some (a', h') → runOps E rec lo l a h.abs = some (a', h'.abs)
  | [], a, a', h, h', e => by cases e; rfl
  | o :: os, a, a', h, h', e => by
    rw [runOpsT_cons] at e
    obtain ⟨dst, op, guard⟩ := o
    simp only [runOps]
    cases guard with
    | none =>
      simp only at e
      simp only [wantedA]
      cases ho : opFT E recT lo op a h with
      | none => rw [ho] at e; cases e
      | some r =>
        rw [ho] at e
        rw [opFT_ok hS ho]
        exact runOpsT_ok hS os e
    | some g =>
      simp only at e ⊢
      cases hw : wantedA a (some g) with
      | none => rw [hw] at e; cases e
      | some t => cases t with
        | false => rw [hw] at e; exact runOpsT_ok hS os e
        | true =>
          rw [hw] at e
          simp only at e ⊢
          cases ho : opFT E recT lo op a h with
          | none => rw [ho] at e; cases e
          | some r =>
            rw [ho] at e
            rw [opFT_ok hS ho]
            exact runOpsT_ok hS os e
theorem runTrT_cons (o : AOper) (os : List AOper) (a : Fr) (h : HS) : runTrT E recT lo (o :: os) a h =
    match wantedA a o.guard with
    | some true => (match opFT E recT lo o.op a h with
      | some r => (runTrT E recT lo os (a.put o.dst r.1) r.2).map ((a, h) :: ·)
      | none => none)
    | some false => (runTrT E recT lo os (a.put o.dst .no) h).map ((a, h) :: ·)
    | none => none := rfl
def absS (s : Fr × HS) : Fr × Heap := (s.1, s.2.abs)
theorem runTrT_ok (hS : SimT rec recT) : ∀ (l : List AOper) {a : Fr} {h : HS} {tr : List (Fr × HS)}, runTrT E recT lo l a h = some tr → runTr E rec lo l a h.abs = some (tr.map absS)
  | [], a, h, tr, e => by cases e; rfl
  | o :: os, a, h, tr, e => by
    rw [runTrT_cons] at e
    simp only [runTr]
    split at e
    · rename_i hw
      simp only [hw]
      split at e
      · rename_i r ho
        obtain ⟨t, ht, rfl⟩ := Option.map_eq_some_iff.1 e
        rw [opFT_ok hS ho]
        simp only [Option.bind_some, runTrT_ok hS os ht, Option.map_some, List.map_cons]
        rfl
      · cases e
    · rename_i hw
      obtain ⟨t, ht, rfl⟩ := Option.map_eq_some_iff.1 e
      simp only [hw, runTrT_ok hS os ht, Option.map_some, List.map_cons]
      rfl
    · cases e
theorem chk1T_ok {l : List AOper} {tr : List (Fr × HS)} {q : Nat × Nat} (e : chk1T l tr q = true) : chk1 l (tr.map absS) q = true := by
  unfold chk1T at e
  unfold chk1
  split at e
  · rename_i d n x g s s1 s2 e1 e2 e3 e4
    simp only [List.getElem?_map, e1, e2, e3, e4, Option.map_some, absS]
    split at e
    · rename_i b o hx
      simp only [hx, HS.abs_len]
      rw [Bool.or_eq_true] at e ⊢
      refine e.imp id fun e => ?_
      cases n with
      | none => simpa only [ldT_eq] using e
      | some n => simpa only [ldnT_eq] using e
    · rename_i hx
      split
      · rename_i b o hx2; exact absurd hx2 (hx b o)
      · rfl
  · cases e
theorem runDT_ok (hS : SimT rec recT) {ck : List (Nat × Nat)} {l : List AOper} {a a' : Fr} {h h' : HS} (e : runDT E recT lo ck l a h = some (a', h')) : runD E rec lo ck l a h.abs = some (a', h'.abs) := by
  unfold runDT at e
  split at e
  · have := runOpsT_ok hS l e
    rw [← runTr_ops] at this
    unfold runD
    simpa using this
  · obtain ⟨tr, ht, e⟩ := Option.bind_eq_some_iff.1 e
    split at e
    · rename_i hc
      unfold runD
      rw [runTrT_ok hS l ht, Option.bind_some, if_pos (List.all_eq_true.2 fun q hq => chk1T_ok (List.all_eq_true.1 hc q hq))]
      rw [List.getElem?_map, e]; rfl
    · cases e
theorem rangeT_ok (hS : SimT rec recT) {rd : Option Nat} {nt : Nat} {x : AX} {ps : List Nat} {asg body : ACode} {k : List AI} {a a' : Fr} {h h' : HS} {o : Out} (e : rangeT E recT lo rd nt x ps asg body k a h = some (o, a', h')) :
    stepR E rec lo rd (.code (.rangeF nt x ps asg body) :: k) a h.abs = some (o, a', h'.abs) := by
  unfold rangeT at e
  simp only [stepR]
  have hm : mayLoopT lo rd h = mayLoop lo rd h.abs := by
    unfold mayLoopT mayLoop
    cases rd with
    | none => rfl
    | some l => simp only [HS.abs_get]; congr 1
  rw [hm] at e
  split at e
  · rename_i h1
    rw [if_pos h1]
    split at e
    · rename_i f us caps hx
      simp only [hx]
      obtain ⟨h2, hp, e⟩ := Option.bind_eq_some_iff.1 e
      obtain ⟨⟨v, h3⟩, hc, e⟩ := Option.bind_eq_some_iff.1 e
      have hc' := callFT_ok hS hc
      rw [HS.abs_push hp] at hc'
      rw [HS.abs_len, hc', Option.bind_some]
      simp only [HS.abs_get]
      split at e
      · cases e
      · rename_i hb hat
        obtain ⟨h4, hq, e⟩ := Option.bind_eq_some_iff.1 e
        simp only at hat
        rw [← HS.abs_put hq]
        have := hS _ _ _ _ _ _ _ _ e
        simp only [hat]
        exact this
      · rename_i j _ _ _ _ _ hb hat
        obtain ⟨h4, hq, e⟩ := Option.bind_eq_some_iff.1 e
        simp only at hat
        rw [← HS.abs_put hq]
        have := hS _ _ _ _ _ _ _ _ e
        simp only [hat]
        exact this
      · cases e
    · cases e
  · cases e
theorem stepT_ok (hS : SimT rec recT) {rd : Option Nat} {k : List AI} {a a' : Fr} {h h' : HS} {o : Out} (e : stepT E recT lo rd k a h = some (o, a', h')) : stepR E rec lo rd k a h.abs = some (o, a', h'.abs) := by
  cases k with
  | nil => cases e; rfl
  | cons i k => cases i with
    | blk _ => exact hS _ _ _ _ _ _ _ _ e
    | lp c => exact hS _ _ _ _ _ _ _ _ e
    | begin =>
      simp only [stepT] at e
      simp only [stepR]
      split at e
      · simp only [HS.abs_get]
        split at e
        · rename_i hb
          simp only [hb]
          split at e
          · rename_i hle
            rw [if_pos hle]
            obtain ⟨h1, hp, e⟩ := Option.bind_eq_some_iff.1 e
            rw [← HS.abs_put hp]
            exact hS _ _ _ _ _ _ _ _ e
          · cases e
        · cases e
      · cases e
    | code c => cases c with
      | reg d l => cases d with
        | none =>
          simp only [stepT] at e
          obtain ⟨⟨a1, h1⟩, hr, e⟩ := Option.bind_eq_some_iff.1 e
          simp only [stepR, runOpsT_ok hS l hr, Option.bind_some]
          exact hS _ _ _ _ _ _ _ _ e
        | some ck =>
          simp only [stepT] at e
          obtain ⟨⟨a1, h1⟩, hr, e⟩ := Option.bind_eq_some_iff.1 e
          simp only [stepR, runDT_ok hS hr, Option.bind_some]
          exact hS _ _ _ _ _ _ _ _ e
      | cond c x y =>
        simp only [stepT] at e
        simp only [stepR]
        split at e
        · rename_i t ht
          rw [ht]
          cases t <;> exact hS _ _ _ _ _ _ _ _ e
        · cases e
      | exit id =>
        simp only [stepT] at e
        simp only [stepR]
        split at e
        · rename_i he; simp only [he]; exact hS _ _ _ _ _ _ _ _ e
        · rename_i he; simp only [he]; cases e; rfl
      | rangeF nt x ps asg body => exact rangeT_ok hS e
      | bad => cases e
      | ret => cases e; rfl
      | skip => exact hS _ _ _ _ _ _ _ _ e
      | seq x y => exact hS _ _ _ _ _ _ _ _ e
      | block id c => exact hS _ _ _ _ _ _ _ _ e
      | loop c => exact hS _ _ _ _ _ _ _ _ e
end
theorem RT_ok (E : Tab) : ∀ n, SimT (R E n) (RT E n)
  | 0 => fun _ _ _ _ _ _ _ _ e => by cases e
  | n + 1 => fun _ _ _ _ _ _ _ _ e => stepT_ok (RT_ok E n) e
end Go.AM
namespace Go.AM
open Go
/-- a run from no heap, by the tree evaluator; 't' looks at what comes of it -/
theorem Wp.kernel {E : Tab} {lo : Nat} {rd : Option Nat} {k : List AI} {a : Fr} {Q : Out → Fr → Heap → Prop} (n : Nat) (t : Out → Fr → Bool) (e : (RT E n lo rd k a ⟨0, .leaf⟩).any (fun r => t r.1 r.2.1) = true) (hq : ∀ o a' H', t o a' = true → Q o a' H') : Wp E lo rd k a [] Q := by
  cases h : RT E n lo rd k a ⟨0, .leaf⟩ with
  | none => rw [h] at e; cases e
  | some r =>
    rw [h] at e
    obtain ⟨o, a', h'⟩ := r
    exact ⟨n, o, a', h'.abs, RT_ok E n _ _ _ _ _ _ _ _ h, hq _ _ _ e⟩
theorem WpF.of_closed {E : Tab} {lo f : Nat} {af : AFunc} {vs : List AV} {H : Heap} {P : AV → Heap → Prop} (hk : E.kd f = .closed) (hf : E.fn f = some af) (hn : vs.length = af.nargs) (hp : AV.pureAll vs = true)
    (h : Wp E 0 none [.code af.body] (initFr vs) [] (RetQ af.res fun v _ => v.pure = true ∧ P v H)) : WpF E lo f vs H P := by
  obtain ⟨n, o, a', H', h1, h2⟩ := h
  have key : ∀ v, resA af.res a' H' = some v → v.pure = true ∧ P v H → (o = .done ∨ o = .ret) → WpF E lo f vs H P := by
    intro v e1 e2 ho
    refine ⟨n, v, H, ?_, e2.2⟩
    unfold callF
    simp only [hk, hp, hf, if_true, Option.bind_some]
    have : runF (R E n) 0 af vs [] = some (v, H') := by
      unfold runF
      rw [if_pos hn, h1]
      rcases ho with rfl | rfl <;> simp [e1]
    rw [this]
    simp [e2.1]
  cases o with
  | exit id => exact h2.elim
  | done => obtain ⟨v, e, q⟩ := h2; exact key v e q (.inl rfl)
  | ret => obtain ⟨v, e, q⟩ := h2; exact key v e q (.inr rfl)
/-- a call from no heap, run by the kernel; 't' looks at its value and its heap -/
theorem WpF.kernel {E : Tab} {lo f : Nat} {vs : List AV} {Q : AV → Heap → Prop} (n : Nat) (t : AV → HS → Bool) (e : (callFT E (RT E n) lo f vs ⟨0, .leaf⟩).any (fun r => t r.1 r.2) = true) (hq : ∀ v h, t v h = true → Q v h.abs) : WpF E lo f vs [] Q := by
  cases h : callFT E (RT E n) lo f vs ⟨0, .leaf⟩ with
  | none => rw [h] at e; cases e
  | some r =>
    rw [h] at e
    obtain ⟨v, h'⟩ := r
    exact ⟨n, v, h'.abs, callFT_ok (RT_ok E n) h, hq _ _ e⟩
end Go.AM
namespace Go.Proofs.Ytalaadcbpjnglaa
open Go Go.AM Go.Proofs
theorem own_ret {p : Nat → Prop} {H : Heap} {rows : AV} {v : Int} {xs : List (List Int)} (hr : Sl p H rows xs) : Ret E 21 [.ag [.i v, rows]] p H ((v, xs) : Int × List (List Int)) := by
  refine Ret.ro rfl fn21 rfl ?_
  unfold f21A
  repeat' (first | refine condP_split (fun _ => ?_) (fun _ => ?_) | refine guardP_split (fun _ => ?_) (fun _ => ?_) | refine guardP_splitF (fun _ => ?_) (fun _ => ?_) | (simp (disch := (first | assumption | omega | (simp only [List.length_append, List.length_cons, List.length_nil]; omega))) only [↓wD,wU,Nat.reduceBEq,zx150,zx151,zx159,zx160,zx161,zx162,Nat.reduceAdd,Nat.reduceSub,Nat.reduceMul,Nat.reduceLeDiff,Nat.reduceLT,Nat.reduceEqDiff,Int.reduceAdd,Int.reduceSub,Int.reduceMul,Int.reduceNeg,Int.reduceLT,Int.reduceLE,Int.reduceEq,Int.reduceToNat,Int.cast_ofNat_Int,↓reduceIte, *, hr.L]))
  exact rv_si (((hr.app _).app _).weak fun _ h => .inl h)
end Go.Proofs.Ytalaadcbpjnglaa
namespace Go.Proofs.Ytalaadcbpjnglaa
open Go Go.AM Go.Proofs
def linesRow (p i j : Nat) : List Int := ((List.range p).map fun m : Nat => (((i : Int) * (m : Int) + (j : Int)).tmod (p : Int))) ++ [(i : Int)]
def linesL (p : Nat) : List (List Int) := (List.range p).flatMap fun i => (List.range p).map fun j => linesRow p i j
def linesUp (p i j : Nat) : List (List Int) := ((List.range i).flatMap fun i => (List.range p).map fun j => linesRow p i j) ++ (List.range j).map fun j => linesRow p i j
theorem linesUp_len (p i j : Nat) : (linesUp p i j).length = i * p + j := by
  induction i with
  | zero => simp [linesUp]
  | succ i ih => simp [linesUp, List.range_succ, List.flatMap_append] at ih ⊢; rw [Nat.succ_mul]; omega
theorem linesUp_succ (p i j : Nat) : linesUp p i j ++ [linesRow p i j] = linesUp p i (j + 1) := by
  simp [linesUp, List.range_succ, List.map_append]
theorem linesUp_next (p i : Nat) : linesUp p i p = linesUp p (i + 1) 0 := by
  simp [linesUp, List.range_succ, List.flatMap_append]
theorem linesUp_all (p : Nat) : linesUp p p 0 = linesL p := by simp [linesUp, linesL]
theorem linesIn_succ (p i j m : Nat) : ((List.range m).map fun m : Nat => (((i : Int) * (m : Int) + (j : Int)).tmod (p : Int))) ++ [((i : Int) * (m : Int) + (j : Int)).tmod (p : Int)] = (List.range (m + 1)).map fun m : Nat => (((i : Int) * (m : Int) + (j : Int)).tmod (p : Int)) := by
  simp [List.range_succ]
theorem lines_ret {p : Nat → Prop} {H : Heap} (P : Nat) (h1 : 2 ≤ P) (h2 : P ≤ 3) : Ret E 18 [.i P] p H (T2.mk ((P, linesL P) : Int × List (List Int)) (0 : Int)) := by
  refine Ret.ro rfl fn18 rfl ?_
  unfold f18A
  repeat' (first | refine condP_split (fun _ => ?_) (fun _ => ?_) | refine guardP_split (fun _ => ?_) (fun _ => ?_) | refine guardP_splitF (fun _ => ?_) (fun _ => ?_) | (simp (disch := (first | assumption | omega | (simp only [List.length_append, List.length_cons, List.length_nil]; omega))) only [↓wD,wU,Nat.reduceBEq,zx150,zx151,zx159,zx160,zx161,zx162,Nat.reduceAdd,Nat.reduceSub,Nat.reduceMul,Nat.reduceLeDiff,Nat.reduceLT,Nat.reduceEqDiff,Int.reduceAdd,Int.reduceSub,Int.reduceMul,Int.reduceNeg,Int.reduceLT,Int.reduceLE,Int.reduceEq,Int.reduceToNat,Int.cast_ofNat_Int,↓reduceIte, *]))
  refine Wp.for P (fun i a H' => ∃ rv, a 3 = .i 0 ∧ a 0 = .i P ∧ a 2 = .p H.length 0 ∧ a 4 = .p (H.length + 1) 0 ∧ a 18 = .i P ∧ a 19 = .i i ∧
    H'[H.length]? = some (.cells [.i 0, .nils]) ∧ H'[H.length + 1]? = some (.cells [.i P, rv]) ∧ Acc (H.length + 2) (fun b => H.length + 2 ≤ b) H' rv (linesUp P i 0) ∧ H.length + 2 ≤ H'.length) ?_ ?_
  · rintro i a H1 hi ⟨rv, ae, a0, a2, a3, a10, a11, c2, c3, hacc, hl⟩ ih
    simp (disch := (first | assumption | omega | (simp only [List.length_append, List.length_cons, List.length_nil]; omega))) only [↓wD,wU,Nat.reduceBEq,zx150,zx151,zx159,zx160,zx161,zx162,Nat.reduceAdd,Nat.reduceSub,Nat.reduceMul,Nat.reduceLeDiff,Nat.reduceLT,Nat.reduceEqDiff,Int.reduceAdd,Int.reduceSub,Int.reduceMul,Int.reduceNeg,Int.reduceLT,Int.reduceLE,Int.reduceEq,Int.reduceToNat,Int.cast_ofNat_Int,↓reduceIte, *]
    refine condP_split (fun hlt => ?_) (fun hlt => ?_)
    · have hi' : i < P := by omega
      clear hlt
      simp (disch := (first | assumption | omega | (simp only [List.length_append, List.length_cons, List.length_nil]; omega))) only [↓wD,wU,Nat.reduceBEq,zx150,zx151,zx159,zx160,zx161,zx162,Nat.reduceAdd,Nat.reduceSub,Nat.reduceMul,Nat.reduceLeDiff,Nat.reduceLT,Nat.reduceEqDiff,Int.reduceAdd,Int.reduceSub,Int.reduceMul,Int.reduceNeg,Int.reduceLT,Int.reduceLE,Int.reduceEq,Int.reduceToNat,Int.cast_ofNat_Int,↓reduceIte, *]
      refine Wp.for P (fun j a H' => ∃ rv, a 3 = .i 0 ∧ a 0 = .i P ∧ a 2 = .p H.length 0 ∧ a 4 = .p (H.length + 1) 0 ∧ a 18 = .i P ∧ a 19 = .i i ∧ a 5 = .i i ∧ a 22 = .i P ∧ a 23 = .i j ∧
        H'[H.length]? = some (.cells [.i 0, .nils]) ∧ H'[H.length + 1]? = some (.cells [.i P, rv]) ∧ Acc (H.length + 2) (fun b => H.length + 2 ≤ b) H' rv (linesUp P i j) ∧ H.length + 2 ≤ H'.length) ?_ ?_
      · clear hacc c2 c3 hl ae a0 a2 a3 a10 a11 rv
        rintro j a H1 hj ⟨rv, ae, a0, a2, a3, a10, a11, a4, a14, a15, c2, c3, hacc, hl⟩ ih2
        simp (disch := (first | assumption | omega | (simp only [List.length_append, List.length_cons, List.length_nil]; omega))) only [↓wD,wU,Nat.reduceBEq,zx150,zx151,zx159,zx160,zx161,zx162,Nat.reduceAdd,Nat.reduceSub,Nat.reduceMul,Nat.reduceLeDiff,Nat.reduceLT,Nat.reduceEqDiff,Int.reduceAdd,Int.reduceSub,Int.reduceMul,Int.reduceNeg,Int.reduceLT,Int.reduceLE,Int.reduceEq,Int.reduceToNat,Int.cast_ofNat_Int,↓reduceIte, *]
        refine condP_split (fun hlt => ?_) (fun hlt => ?_)
        · have hj' : j < P := by omega
          clear hlt
          simp (disch := (first | assumption | omega | (simp only [List.length_append, List.length_cons, List.length_nil]; omega))) only [↓wD,wU,Nat.reduceBEq,zx150,zx151,zx159,zx160,zx161,zx162,Nat.reduceAdd,Nat.reduceSub,Nat.reduceMul,Nat.reduceLeDiff,Nat.reduceLT,Nat.reduceEqDiff,Int.reduceAdd,Int.reduceSub,Int.reduceMul,Int.reduceNeg,Int.reduceLT,Int.reduceLE,Int.reduceEq,Int.reduceToNat,Int.cast_ofNat_Int,↓reduceIte, *]
          refine Wp.for P (fun m a H' => ∃ u, a 3 = .i 0 ∧ a 0 = .i P ∧ a 2 = .p H.length 0 ∧ a 4 = .p (H.length + 1) 0 ∧ a 18 = .i P ∧ a 19 = .i i ∧ a 5 = .i i ∧ a 22 = .i P ∧ a 23 = .i j ∧ a 6 = .i j ∧ a 7 = u ∧ a 26 = .i P ∧ a 27 = .i m ∧
            Gr H1 H' ∧ Acc H1.length (fun b => H1.length ≤ b) H' u ((List.range m).map fun m : Nat => (((i : Int) * (m : Int) + (j : Int)).tmod (P : Int)))) ?_ ?_
          · clear ae a0 a2 a3 a10 a11 a4 a14 a15
            rintro m a H2 hm ⟨u, ae, a0, a2, a3, a10, a11, a4, a14, a15, a5, a6, a18, a19, hg, hu⟩ ih3
            simp (disch := (first | assumption | omega | (simp only [List.length_append, List.length_cons, List.length_nil]; omega))) only [↓wD,wU,Nat.reduceBEq,zx150,zx151,zx159,zx160,zx161,zx162,Nat.reduceAdd,Nat.reduceSub,Nat.reduceMul,Nat.reduceLeDiff,Nat.reduceLT,Nat.reduceEqDiff,Int.reduceAdd,Int.reduceSub,Int.reduceMul,Int.reduceNeg,Int.reduceLT,Int.reduceLE,Int.reduceEq,Int.reduceToNat,Int.cast_ofNat_Int,↓reduceIte, *]
            refine condP_split (fun hlt => ?_) (fun hlt => ?_)
            · have hm' : m < P := by omega
              clear hlt
              have hp : (0 : Int) ≤ i * m ∧ (i : Int) * m ≤ 2 * 2 := mul_small (by omega) (by omega) (by omega) (by omega) (by omega)
              simp (disch := (first | assumption | omega | (simp only [List.length_append, List.length_cons, List.length_nil]; omega))) only [↓wD,wU,Nat.reduceBEq,zx150,zx151,zx159,zx160,zx161,zx162,Nat.reduceAdd,Nat.reduceSub,Nat.reduceMul,Nat.reduceLeDiff,Nat.reduceLT,Nat.reduceEqDiff,Int.reduceAdd,Int.reduceSub,Int.reduceMul,Int.reduceNeg,Int.reduceLT,Int.reduceLE,Int.reduceEq,Int.reduceToNat,Int.cast_ofNat_Int,↓reduceIte, *]
              refine hu.pushI (by omega) hg.1 (by simp; omega) fun u' H3 hu' hk hl3 _ => ?_
              simp (disch := (first | assumption | omega | (simp only [List.length_append, List.length_cons, List.length_nil]; omega))) only [↓wD,wU,Nat.reduceBEq,zx150,zx151,zx159,zx160,zx161,zx162,Nat.reduceAdd,Nat.reduceSub,Nat.reduceMul,Nat.reduceLeDiff,Nat.reduceLT,Nat.reduceEqDiff,Int.reduceAdd,Int.reduceSub,Int.reduceMul,Int.reduceNeg,Int.reduceLT,Int.reduceLE,Int.reduceEq,Int.reduceToNat,Int.cast_ofNat_Int,↓reduceIte, *]
              refine (ih3 hm').go ⟨u', ?_⟩
              simp (disch := (first | assumption | omega | (simp only [List.length_append, List.length_cons, List.length_nil]; omega))) only [↓wD,wU,Nat.reduceBEq,zx150,zx151,zx159,zx160,zx161,zx162,Nat.reduceAdd,Nat.reduceSub,Nat.reduceMul,Nat.reduceLeDiff,Nat.reduceLT,Nat.reduceEqDiff,Int.reduceAdd,Int.reduceSub,Int.reduceMul,Int.reduceNeg,Int.reduceLT,Int.reduceLE,Int.reduceEq,Int.reduceToNat,Int.cast_ofNat_Int,↓reduceIte, *]
              exact ⟨hg.push hu (Nat.le_refl _) hk, by rw [← linesIn_succ]; exact hu'⟩
            · obtain rfl : m = P := by omega
              clear hlt ih3 hm
              have c3' := hg.get c3
              simp (disch := (first | assumption | omega | (simp only [List.length_append, List.length_cons, List.length_nil]; omega))) only [↓wD,wU,Nat.reduceBEq,zx150,zx151,zx159,zx160,zx161,zx162,Nat.reduceAdd,Nat.reduceSub,Nat.reduceMul,Nat.reduceLeDiff,Nat.reduceLT,Nat.reduceEqDiff,Int.reduceAdd,Int.reduceSub,Int.reduceMul,Int.reduceNeg,Int.reduceLT,Int.reduceLE,Int.reduceEq,Int.reduceToNat,Int.cast_ofNat_Int,↓reduceIte, *]
              refine lpI (wpC ?_)
              simp (disch := (first | assumption | omega | (simp only [List.length_append, List.length_cons, List.length_nil]; omega))) only [↓wD,wU,Nat.reduceBEq,zx150,zx151,zx159,zx160,zx161,zx162,Nat.reduceAdd,Nat.reduceSub,Nat.reduceMul,Nat.reduceLeDiff,Nat.reduceLT,Nat.reduceEqDiff,Int.reduceAdd,Int.reduceSub,Int.reduceMul,Int.reduceNeg,Int.reduceLT,Int.reduceLE,Int.reduceEq,Int.reduceToNat,Int.cast_ofNat_Int,↓reduceIte, *, ld_of c3']
              refine hu.pushI (by omega) hg.1 (by simp; omega) fun u' H3 hu' hk hl3 _ => ?_
              have hg3 := hg.push hu (Nat.le_refl _) hk
              have hacc3 := hacc.gr hg3
              simp (disch := (first | assumption | omega | (simp only [List.length_append, List.length_cons, List.length_nil]; omega))) only [↓wD,wU,Nat.reduceBEq,zx150,zx151,zx159,zx160,zx161,zx162,Nat.reduceAdd,Nat.reduceSub,Nat.reduceMul,Nat.reduceLeDiff,Nat.reduceLT,Nat.reduceEqDiff,Int.reduceAdd,Int.reduceSub,Int.reduceMul,Int.reduceNeg,Int.reduceLT,Int.reduceLE,Int.reduceEq,Int.reduceToNat,Int.cast_ofNat_Int,↓reduceIte, *, hu'.cellsV]
              have hl31 := hg3.1
              refine hacc3.pushL (by omega) (by omega) hu'.sl (fun b hb => ⟨by omega, fun e => by have := hacc.blk_lt e; omega⟩) ?_ fun rv' H4 hacc4 hk4 hl4 _ => ?_
              · rw [linesUp_len]
                have := Nat.mul_le_mul (show i ≤ 3 by omega) h2
                omega
              have hne : rv.blk ≠ some (H.length + 1) := fun e => by have := hacc.blk_lt e; omega
              have c34 := hk4.get (b := H.length + 1) hne (hg3.get c3)
              simp (disch := (first | assumption | omega | (simp only [List.length_append, List.length_cons, List.length_nil]; omega))) only [↓wD,wU,Nat.reduceBEq,zx150,zx151,zx159,zx160,zx161,zx162,Nat.reduceAdd,Nat.reduceSub,Nat.reduceMul,Nat.reduceLeDiff,Nat.reduceLT,Nat.reduceEqDiff,Int.reduceAdd,Int.reduceSub,Int.reduceMul,Int.reduceNeg,Int.reduceLT,Int.reduceLE,Int.reduceEq,Int.reduceToNat,Int.cast_ofNat_Int,↓reduceIte, *, st_of c34, hacc4.cellsV]
              refine chkI ?_ ?_
              · simp [chk1, ev, Fr.upd, ld_of (hg3.get c3), ld_of ((hg.app [Blk.cells [AV.i ↑i]]).get c3), sameO, AV.same_refl]
              · simp (disch := (first | assumption | omega | (simp only [List.length_append, List.length_cons, List.length_nil]; omega))) only [↓wD,wU,Nat.reduceBEq,zx150,zx151,zx159,zx160,zx161,zx162,Nat.reduceAdd,Nat.reduceSub,Nat.reduceMul,Nat.reduceLeDiff,Nat.reduceLT,Nat.reduceEqDiff,Int.reduceAdd,Int.reduceSub,Int.reduceMul,Int.reduceNeg,Int.reduceLT,Int.reduceLE,Int.reduceEq,Int.reduceToNat,Int.cast_ofNat_Int,↓reduceIte, *]
                refine (ih2 hj').go ⟨rv', ?_⟩
                simp (disch := (first | assumption | omega | (simp only [List.length_append, List.length_cons, List.length_nil]; omega))) only [↓wD,wU,Nat.reduceBEq,zx150,zx151,zx159,zx160,zx161,zx162,Nat.reduceAdd,Nat.reduceSub,Nat.reduceMul,Nat.reduceLeDiff,Nat.reduceLT,Nat.reduceEqDiff,Int.reduceAdd,Int.reduceSub,Int.reduceMul,Int.reduceNeg,Int.reduceLT,Int.reduceLE,Int.reduceEq,Int.reduceToNat,Int.cast_ofNat_Int,↓reduceIte, *]
                have hb : H.length < H4.length := by omega
                refine ⟨?_, get_set c34, ?_, by simp; omega⟩
                · rw [List.getElem?_set_ne (by omega)]
                  exact hk4.get (fun e => by have := hacc.blk_lt e; omega) (hg3.get c2)
                · rw [← linesUp_succ, linesRow]
                  exact hacc4.mono ((Kp.set _ _ _).weak fun b hb => by omega) fun _ h => h
          · simp (disch := (first | assumption | omega | (simp only [List.length_append, List.length_cons, List.length_nil]; omega))) only [↓wD,wU,Nat.reduceBEq,zx150,zx151,zx159,zx160,zx161,zx162,Nat.reduceAdd,Nat.reduceSub,Nat.reduceMul,Nat.reduceLeDiff,Nat.reduceLT,Nat.reduceEqDiff,Int.reduceAdd,Int.reduceSub,Int.reduceMul,Int.reduceNeg,Int.reduceLT,Int.reduceLE,Int.reduceEq,Int.reduceToNat,Int.cast_ofNat_Int,↓reduceIte, *]
            exact ⟨.nils, rfl, Gr.refl _, Acc.nil⟩
        · obtain rfl : j = P := by omega
          simp (disch := (first | assumption | omega | (simp only [List.length_append, List.length_cons, List.length_nil]; omega))) only [↓wD,wU,Nat.reduceBEq,zx150,zx151,zx159,zx160,zx161,zx162,Nat.reduceAdd,Nat.reduceSub,Nat.reduceMul,Nat.reduceLeDiff,Nat.reduceLT,Nat.reduceEqDiff,Int.reduceAdd,Int.reduceSub,Int.reduceMul,Int.reduceNeg,Int.reduceLT,Int.reduceLE,Int.reduceEq,Int.reduceToNat,Int.cast_ofNat_Int,↓reduceIte, *]
          refine (ih hi').go ⟨rv, ?_⟩
          simp (disch := (first | assumption | omega | (simp only [List.length_append, List.length_cons, List.length_nil]; omega))) only [↓wD,wU,Nat.reduceBEq,zx150,zx151,zx159,zx160,zx161,zx162,Nat.reduceAdd,Nat.reduceSub,Nat.reduceMul,Nat.reduceLeDiff,Nat.reduceLT,Nat.reduceEqDiff,Int.reduceAdd,Int.reduceSub,Int.reduceMul,Int.reduceNeg,Int.reduceLT,Int.reduceLE,Int.reduceEq,Int.reduceToNat,Int.cast_ofNat_Int,↓reduceIte, *]
          rw [← linesUp_next]; exact hacc
      · simp (disch := (first | assumption | omega | (simp only [List.length_append, List.length_cons, List.length_nil]; omega))) only [↓wD,wU,Nat.reduceBEq,zx150,zx151,zx159,zx160,zx161,zx162,Nat.reduceAdd,Nat.reduceSub,Nat.reduceMul,Nat.reduceLeDiff,Nat.reduceLT,Nat.reduceEqDiff,Int.reduceAdd,Int.reduceSub,Int.reduceMul,Int.reduceNeg,Int.reduceLT,Int.reduceLE,Int.reduceEq,Int.reduceToNat,Int.cast_ofNat_Int,↓reduceIte, *]
        refine ⟨rv, ?_⟩
        (simp (disch := (first | assumption | omega | (simp only [List.length_append, List.length_cons, List.length_nil]; omega))) only [↓wD,wU,Nat.reduceBEq,zx150,zx151,zx159,zx160,zx161,zx162,Nat.reduceAdd,Nat.reduceSub,Nat.reduceMul,Nat.reduceLeDiff,Nat.reduceLT,Nat.reduceEqDiff,Int.reduceAdd,Int.reduceSub,Int.reduceMul,Int.reduceNeg,Int.reduceLT,Int.reduceLE,Int.reduceEq,Int.reduceToNat,Int.cast_ofNat_Int,↓reduceIte, *]) <;> first | exact hacc | exact ⟨hacc, hl⟩
    · obtain rfl : i = P := by omega
      simp (disch := (first | assumption | omega | (simp only [List.length_append, List.length_cons, List.length_nil]; omega))) only [↓wD,wU,Nat.reduceBEq,zx150,zx151,zx159,zx160,zx161,zx162,Nat.reduceAdd,Nat.reduceSub,Nat.reduceMul,Nat.reduceLeDiff,Nat.reduceLT,Nat.reduceEqDiff,Int.reduceAdd,Int.reduceSub,Int.reduceMul,Int.reduceNeg,Int.reduceLT,Int.reduceLE,Int.reduceEq,Int.reduceToNat,Int.cast_ofNat_Int,↓reduceIte, *, ld_of c2, ld_of c3, ldn_of c2, ldn_of c3, st_of c2, hacc.cellsV]
      simp (disch := (first | assumption | omega | (simp only [List.length_append, List.length_cons, List.length_nil]; omega))) only [↓wD,wU,Nat.reduceBEq,zx150,zx151,zx159,zx160,zx161,zx162,Nat.reduceAdd,Nat.reduceSub,Nat.reduceMul,Nat.reduceLeDiff,Nat.reduceLT,Nat.reduceEqDiff,Int.reduceAdd,Int.reduceSub,Int.reduceMul,Int.reduceNeg,Int.reduceLT,Int.reduceLE,Int.reduceEq,Int.reduceToNat,Int.cast_ofNat_Int,↓reduceIte, *, ldn_of (get_set c2)]
      rw [← linesUp_all]
      exact rv_2 (rv_si ((hacc.mono ((Kp.set _ _ _).weak fun b hb => by omega) fun _ h => h).sl.weak fun b hb => .inr (by omega))) rv_i
  · simp (disch := (first | assumption | omega | (simp only [List.length_append, List.length_cons, List.length_nil]; omega))) only [↓wD,wU,Nat.reduceBEq,zx150,zx151,zx159,zx160,zx161,zx162,Nat.reduceAdd,Nat.reduceSub,Nat.reduceMul,Nat.reduceLeDiff,Nat.reduceLT,Nat.reduceEqDiff,Int.reduceAdd,Int.reduceSub,Int.reduceMul,Int.reduceNeg,Int.reduceLT,Int.reduceLE,Int.reduceEq,Int.reduceToNat,Int.cast_ofNat_Int,↓reduceIte, *]
    refine ⟨.nils, ?_⟩
    simp (disch := (first | assumption | omega | (simp only [List.length_append, List.length_cons, List.length_nil]; omega))) only [↓wD,wU,Nat.reduceBEq,zx150,zx151,zx159,zx160,zx161,zx162,Nat.reduceAdd,Nat.reduceSub,Nat.reduceMul,Nat.reduceLeDiff,Nat.reduceLT,Nat.reduceEqDiff,Int.reduceAdd,Int.reduceSub,Int.reduceMul,Int.reduceNeg,Int.reduceLT,Int.reduceLE,Int.reduceEq,Int.reduceToNat,Int.cast_ofNat_Int,↓reduceIte, *]
    exact Acc.nil
end Go.Proofs.Ytalaadcbpjnglaa
namespace Go.Proofs.Ytalaadcbpjnglaa
open Go Go.AM Go.Proofs
theorem clone_ret {p : Nat → Prop} {H : Heap} {v : AV} {xs : List Int} (hx : Sl p H v xs) (hs : xs.length * 8 ≤ 1099511627776) : Ret E 82 [v] (fun _ => False) H xs := by
  refine Ret.ro rfl fn82 rfl ?_
  unfold f82A
  have main : ∀ {Q : AV × Heap → Prop}, (∀ v' H', Sl (fun b => H.length ≤ b) H' v' xs → Q (v', H')) → @optP _ (appendV H.length 1 8 (.s 1 H.length 0 0 (some 0)) v (H ++ [.cells []])) ⟨Q⟩ := fun {Q} go => by
    have ha : Acc H.length (fun _ => True) (H ++ [.cells []]) (.s 1 H.length 0 0 (some 0)) ([] : List Int) := Acc.fresh0 (Nat.le_refl _)
    refine ha.extend (q := fun b => b < H.length) (Nat.le_refl _) (by simp) ((hx.low.app [.cells []]).weak fun b h => h.2) (fun b hb => ⟨trivial, ?_⟩) (by simpa using hs) (by omega) fun v' H' h' _ => go _ _ ?_
    · intro e; simp only [AV.blk, Option.some.injEq] at e; omega
    · rw [List.nil_append] at h'
      rcases h' with h' | ⟨b, o, c, k, e, hb, hk, h1, h2, h3⟩
      · exact .inl h'
      · exact .inr ⟨b, o, c, k, e, hb, hk, h1, h2, h3⟩
  rcases hx with ⟨rfl, rfl⟩ | ⟨b, o, c, k, e, hb, hk, h1, h2, h3⟩
  · simp (disch := (first | assumption | omega | (simp only [List.length_append, List.length_cons, List.length_nil]; omega))) only [↓wD,wU,Nat.reduceBEq,zx150,zx151,zx159,zx160,zx161,zx162,Nat.reduceAdd,Nat.reduceSub,Nat.reduceMul,Nat.reduceLeDiff,Nat.reduceLT,Nat.reduceEqDiff,Int.reduceAdd,Int.reduceSub,Int.reduceMul,Int.reduceNeg,Int.reduceLT,Int.reduceLE,Int.reduceEq,Int.reduceToNat,Int.cast_ofNat_Int,↓reduceIte, *]
    exact Sl.nil
  · subst e
    simp (disch := (first | assumption | omega | (simp only [List.length_append, List.length_cons, List.length_nil]; omega))) only [↓wD,wU,Nat.reduceBEq,zx150,zx151,zx159,zx160,zx161,zx162,Nat.reduceAdd,Nat.reduceSub,Nat.reduceMul,Nat.reduceLeDiff,Nat.reduceLT,Nat.reduceEqDiff,Int.reduceAdd,Int.reduceSub,Int.reduceMul,Int.reduceNeg,Int.reduceLT,Int.reduceLE,Int.reduceEq,Int.reduceToNat,Int.cast_ofNat_Int,↓reduceIte, *]
    refine main fun v' H' h' => ?_
    simp (disch := (first | assumption | omega | (simp only [List.length_append, List.length_cons, List.length_nil]; omega))) only [↓wD,wU,Nat.reduceBEq,zx150,zx151,zx159,zx160,zx161,zx162,Nat.reduceAdd,Nat.reduceSub,Nat.reduceMul,Nat.reduceLeDiff,Nat.reduceLT,Nat.reduceEqDiff,Int.reduceAdd,Int.reduceSub,Int.reduceMul,Int.reduceNeg,Int.reduceLT,Int.reduceLE,Int.reduceEq,Int.reduceToNat,Int.cast_ofNat_Int,↓reduceIte, *]
    exact h'.weak fun _ h => .inr h
end Go.Proofs.Ytalaadcbpjnglaa
namespace Go.Proofs.Ytalaadcbpjnglaa
open Go Go.AM Go.Proofs
def ChR (v : Int) (r : List Int) : Prop := ∀ x ∈ r, 0 ≤ x ∧ x < v
instance (v : Int) (r : List Int) : Decidable (ChR v r) := by unfold ChR; infer_instance
def RowP (v : Int) (k : Nat) (r : List Int) : Prop := r.length = k ∧ 1 ≤ r.length ∧ r.length ≤ 8 ∧ ChR v r
instance (v : Int) (k : Nat) (r : List Int) : Decidable (RowP v k r) := by unfold RowP; infer_instance
def ArrP (v : Int) (t : List (List Int)) : Prop := 2 ≤ v ∧ v ≤ 4 ∧ 1 ≤ t.length ∧ t.length ≤ 16 ∧ ∀ r ∈ t, RowP v (gi t 0).length r
instance (v : Int) (t : List (List Int)) : Decidable (ArrP v t) := by unfold ArrP; infer_instance
/-- how many columns -/
def wd (t : List (List Int)) : Nat := (gi t 0).length
theorem ArrP.row {v : Int} {t : List (List Int)} (h : ArrP v t) {r : List Int} (hr : r ∈ t) : r.length = wd t ∧ ChR v r := ⟨(h.2.2.2.2 r hr).1, (h.2.2.2.2 r hr).2.2.2⟩
theorem ArrP.wd {v : Int} {t : List (List Int)} (h : ArrP v t) : 1 ≤ wd t ∧ wd t ≤ 8 := by
  have := h.2.2.2.2 (gi t 0) (gi_mem (by omega) (by have := h.2.2.1; omega))
  exact ⟨this.2.1, this.2.2.1⟩
theorem foldl_min_le {xs : List Int} : ∀ {m : Int}, xs.foldl min m ≤ m ∧ ∀ x ∈ xs, xs.foldl min m ≤ x := by
  induction xs with
  | nil => simp
  | cons x xs ih =>
    intro m
    have := ih (m := min m x)
    simp only [List.foldl_cons, List.mem_cons, forall_eq_or_imp]
    exact ⟨by omega, by omega, this.2⟩
theorem foldl_max_ge {xs : List Int} : ∀ {m : Int}, m ≤ xs.foldl max m ∧ ∀ x ∈ xs, x ≤ xs.foldl max m := by
  induction xs with
  | nil => simp
  | cons x xs ih =>
    intro m
    have := ih (m := max m x)
    simp only [List.foldl_cons, List.mem_cons, forall_eq_or_imp]
    exact ⟨by omega, by omega, this.2⟩
theorem foldl_min_mem {xs : List Int} : ∀ {m : Int}, xs.foldl min m = m ∨ xs.foldl min m ∈ xs := by
  induction xs with
  | nil => simp
  | cons x xs ih =>
    intro m
    simp only [List.foldl_cons, List.mem_cons]
    rcases ih (m := min m x) with h | h
    · rw [h]; rcases Int.le_total m x with h1 | h1
      · left; omega
      · right; left; omega
    · exact .inr (.inr h)
theorem foldl_max_mem {xs : List Int} : ∀ {m : Int}, xs.foldl max m = m ∨ xs.foldl max m ∈ xs := by
  induction xs with
  | nil => simp
  | cons x xs ih =>
    intro m
    simp only [List.foldl_cons, List.mem_cons]
    rcases ih (m := max m x) with h | h
    · rw [h]; rcases Int.le_total m x with h1 | h1
      · right; left; omega
      · left; omega
    · exact .inr (.inr h)
def minL (xs : List Int) : Int := (xs.drop 1).foldl min (gi xs 0)
def maxL (xs : List Int) : Int := (xs.drop 1).foldl max (gi xs 0)
theorem minL_spec {xs : List Int} (h : 1 ≤ xs.length) : minL xs ∈ xs ∧ ∀ x ∈ xs, minL xs ≤ x := by
  cases xs with
  | nil => simp at h
  | cons x xs =>
    simp only [minL, zx181, List.drop_succ_cons, List.drop_zero]
    have h1 := foldl_min_le (xs := xs) (m := x)
    refine ⟨?_, fun y hy => ?_⟩
    · rcases foldl_min_mem (xs := xs) (m := x) with h | h
      · rw [h]; simp
      · exact List.mem_cons_of_mem _ h
    · rcases List.mem_cons.1 hy with rfl | hy
      · exact h1.1
      · exact h1.2 y hy
theorem maxL_spec {xs : List Int} (h : 1 ≤ xs.length) : maxL xs ∈ xs ∧ ∀ x ∈ xs, x ≤ maxL xs := by
  cases xs with
  | nil => simp at h
  | cons x xs =>
    simp only [maxL, zx181, List.drop_succ_cons, List.drop_zero]
    have h1 := foldl_max_ge (xs := xs) (m := x)
    refine ⟨?_, fun y hy => ?_⟩
    · rcases foldl_max_mem (xs := xs) (m := x) with h | h
      · rw [h]; simp
      · exact List.mem_cons_of_mem _ h
    · rcases List.mem_cons.1 hy with rfl | hy
      · exact h1.1
      · exact h1.2 y hy
theorem take_drop1 {xs : List Int} {i : Nat} (h1 : 1 ≤ i) (h : i < xs.length) : (xs.take (i + 1)).drop 1 = (xs.take i).drop 1 ++ [gi xs i] := by
  rw [take_gi h, List.drop_append_of_le_length (by rw [List.length_take]; omega)]
theorem minL_take {xs : List Int} {i : Nat} (h1 : 1 ≤ i) (h : i < xs.length) : minL (xs.take (i + 1)) = min (minL (xs.take i)) (gi xs i) := by
  have e : ∀ j, 1 ≤ j → gi (xs.take j) 0 = gi xs 0 := fun j hj => by cases xs with | nil => simp at h | cons x r => cases j with | zero => omega | succ j => rfl
  unfold minL
  rw [take_drop1 h1 h, List.foldl_append, e _ h1, e _ (by omega)]; rfl
theorem maxL_take {xs : List Int} {i : Nat} (h1 : 1 ≤ i) (h : i < xs.length) : maxL (xs.take (i + 1)) = max (maxL (xs.take i)) (gi xs i) := by
  have e : ∀ j, 1 ≤ j → gi (xs.take j) 0 = gi xs 0 := fun j hj => by cases xs with | nil => simp at h | cons x r => cases j with | zero => omega | succ j => rfl
  unfold maxL
  rw [take_drop1 h1 h, List.foldl_append, e _ h1, e _ (by omega)]; rfl
theorem min_ret {p : Nat → Prop} {H : Heap} {v : AV} {xs : List Int} (hx : Sl p H v xs) (h : 1 ≤ xs.length) : RetP E 98 [v] H (.i (minL xs)) := by
  refine RetP.ro rfl fn98 rfl rfl ?_
  unfold f98A
  have hb := hx.bound
  simp (disch := (first | assumption | omega | (simp only [List.length_append, List.length_cons, List.length_nil]; omega))) only [↓wD,wU,Nat.reduceBEq,zx150,zx151,zx159,zx160,zx161,zx162,Nat.reduceAdd,Nat.reduceSub,Nat.reduceMul,Nat.reduceLeDiff,Nat.reduceLT,Nat.reduceEqDiff,Int.reduceAdd,Int.reduceSub,Int.reduceMul,Int.reduceNeg,Int.reduceLT,Int.reduceLE,Int.reduceEq,Int.reduceToNat,Int.cast_ofNat_Int,↓reduceIte, *, hx.I]
  refine Wp.for (xs.length - 1) (fun i a H' => H' = H ∧ a 0 = v ∧ a 4 = .i (i + 1) ∧ a 3 = .i (minL (xs.take (i + 1)))) ?_ ?_
  · rintro i a H' hi ⟨rfl, a0, a4, a3⟩ ih
    simp (disch := (first | assumption | omega | (simp only [List.length_append, List.length_cons, List.length_nil]; omega))) only [↓wD,wU,Nat.reduceBEq,zx150,zx151,zx159,zx160,zx161,zx162,Nat.reduceAdd,Nat.reduceSub,Nat.reduceMul,Nat.reduceLeDiff,Nat.reduceLT,Nat.reduceEqDiff,Int.reduceAdd,Int.reduceSub,Int.reduceMul,Int.reduceNeg,Int.reduceLT,Int.reduceLE,Int.reduceEq,Int.reduceToNat,Int.cast_ofNat_Int,↓reduceIte, *, hx.I]
    refine condP_split (fun hlt => ?_) (fun hlt => ?_)
    · have hi' : i < xs.length - 1 := by omega
      have e := minL_take (xs := xs) (i := i + 1) (by omega) (by omega)
      simp only [Int.natCast_add, Int.natCast_one] at e
      simp (disch := (first | assumption | omega | (simp only [List.length_append, List.length_cons, List.length_nil]; omega))) only [↓wD,wU,Nat.reduceBEq,zx150,zx151,zx159,zx160,zx161,zx162,Nat.reduceAdd,Nat.reduceSub,Nat.reduceMul,Nat.reduceLeDiff,Nat.reduceLT,Nat.reduceEqDiff,Int.reduceAdd,Int.reduceSub,Int.reduceMul,Int.reduceNeg,Int.reduceLT,Int.reduceLE,Int.reduceEq,Int.reduceToNat,Int.cast_ofNat_Int,↓reduceIte, *, hx.I]
      refine (ih hi').go ⟨rfl, ?_⟩
      simp (disch := (first | assumption | omega | (simp only [List.length_append, List.length_cons, List.length_nil]; omega))) only [↓wD,wU,Nat.reduceBEq,zx150,zx151,zx159,zx160,zx161,zx162,Nat.reduceAdd,Nat.reduceSub,Nat.reduceMul,Nat.reduceLeDiff,Nat.reduceLT,Nat.reduceEqDiff,Int.reduceAdd,Int.reduceSub,Int.reduceMul,Int.reduceNeg,Int.reduceLT,Int.reduceLE,Int.reduceEq,Int.reduceToNat,Int.cast_ofNat_Int,↓reduceIte, *]
    · simp (disch := (first | assumption | omega | (simp only [List.length_append, List.length_cons, List.length_nil]; omega))) only [↓wD,wU,Nat.reduceBEq,zx150,zx151,zx159,zx160,zx161,zx162,Nat.reduceAdd,Nat.reduceSub,Nat.reduceMul,Nat.reduceLeDiff,Nat.reduceLT,Nat.reduceEqDiff,Int.reduceAdd,Int.reduceSub,Int.reduceMul,Int.reduceNeg,Int.reduceLT,Int.reduceLE,Int.reduceEq,Int.reduceToNat,Int.cast_ofNat_Int,↓reduceIte, *]
      rw [List.take_of_length_le (by omega)]
  · (simp (disch := (first | assumption | omega | (simp only [List.length_append, List.length_cons, List.length_nil]; omega))) only [↓wD,wU,Nat.reduceBEq,zx150,zx151,zx159,zx160,zx161,zx162,Nat.reduceAdd,Nat.reduceSub,Nat.reduceMul,Nat.reduceLeDiff,Nat.reduceLT,Nat.reduceEqDiff,Int.reduceAdd,Int.reduceSub,Int.reduceMul,Int.reduceNeg,Int.reduceLT,Int.reduceLE,Int.reduceEq,Int.reduceToNat,Int.cast_ofNat_Int,↓reduceIte, *]) <;> first | rfl | skip
    unfold minL
    cases xs with
    | nil => simp at h
    | cons x r => simp [zx181]
theorem max_ret {p : Nat → Prop} {H : Heap} {v : AV} {xs : List Int} (hx : Sl p H v xs) (h : 1 ≤ xs.length) : RetP E 99 [v] H (.i (maxL xs)) := by
  refine RetP.ro rfl fn99 rfl rfl ?_
  unfold f99A
  have hb := hx.bound
  simp (disch := (first | assumption | omega | (simp only [List.length_append, List.length_cons, List.length_nil]; omega))) only [↓wD,wU,Nat.reduceBEq,zx150,zx151,zx159,zx160,zx161,zx162,Nat.reduceAdd,Nat.reduceSub,Nat.reduceMul,Nat.reduceLeDiff,Nat.reduceLT,Nat.reduceEqDiff,Int.reduceAdd,Int.reduceSub,Int.reduceMul,Int.reduceNeg,Int.reduceLT,Int.reduceLE,Int.reduceEq,Int.reduceToNat,Int.cast_ofNat_Int,↓reduceIte, *, hx.I]
  refine Wp.for (xs.length - 1) (fun i a H' => H' = H ∧ a 0 = v ∧ a 4 = .i (i + 1) ∧ a 3 = .i (maxL (xs.take (i + 1)))) ?_ ?_
  · rintro i a H' hi ⟨rfl, a0, a4, a3⟩ ih
    simp (disch := (first | assumption | omega | (simp only [List.length_append, List.length_cons, List.length_nil]; omega))) only [↓wD,wU,Nat.reduceBEq,zx150,zx151,zx159,zx160,zx161,zx162,Nat.reduceAdd,Nat.reduceSub,Nat.reduceMul,Nat.reduceLeDiff,Nat.reduceLT,Nat.reduceEqDiff,Int.reduceAdd,Int.reduceSub,Int.reduceMul,Int.reduceNeg,Int.reduceLT,Int.reduceLE,Int.reduceEq,Int.reduceToNat,Int.cast_ofNat_Int,↓reduceIte, *, hx.I]
    refine condP_split (fun hlt => ?_) (fun hlt => ?_)
    · have hi' : i < xs.length - 1 := by omega
      have e := maxL_take (xs := xs) (i := i + 1) (by omega) (by omega)
      simp only [Int.natCast_add, Int.natCast_one] at e
      simp (disch := (first | assumption | omega | (simp only [List.length_append, List.length_cons, List.length_nil]; omega))) only [↓wD,wU,Nat.reduceBEq,zx150,zx151,zx159,zx160,zx161,zx162,Nat.reduceAdd,Nat.reduceSub,Nat.reduceMul,Nat.reduceLeDiff,Nat.reduceLT,Nat.reduceEqDiff,Int.reduceAdd,Int.reduceSub,Int.reduceMul,Int.reduceNeg,Int.reduceLT,Int.reduceLE,Int.reduceEq,Int.reduceToNat,Int.cast_ofNat_Int,↓reduceIte, *, hx.I]
      refine (ih hi').go ⟨rfl, ?_⟩
      simp (disch := (first | assumption | omega | (simp only [List.length_append, List.length_cons, List.length_nil]; omega))) only [↓wD,wU,Nat.reduceBEq,zx150,zx151,zx159,zx160,zx161,zx162,Nat.reduceAdd,Nat.reduceSub,Nat.reduceMul,Nat.reduceLeDiff,Nat.reduceLT,Nat.reduceEqDiff,Int.reduceAdd,Int.reduceSub,Int.reduceMul,Int.reduceNeg,Int.reduceLT,Int.reduceLE,Int.reduceEq,Int.reduceToNat,Int.cast_ofNat_Int,↓reduceIte, *]
    · simp (disch := (first | assumption | omega | (simp only [List.length_append, List.length_cons, List.length_nil]; omega))) only [↓wD,wU,Nat.reduceBEq,zx150,zx151,zx159,zx160,zx161,zx162,Nat.reduceAdd,Nat.reduceSub,Nat.reduceMul,Nat.reduceLeDiff,Nat.reduceLT,Nat.reduceEqDiff,Int.reduceAdd,Int.reduceSub,Int.reduceMul,Int.reduceNeg,Int.reduceLT,Int.reduceLE,Int.reduceEq,Int.reduceToNat,Int.cast_ofNat_Int,↓reduceIte, *]
      rw [List.take_of_length_le (by omega)]
  · (simp (disch := (first | assumption | omega | (simp only [List.length_append, List.length_cons, List.length_nil]; omega))) only [↓wD,wU,Nat.reduceBEq,zx150,zx151,zx159,zx160,zx161,zx162,Nat.reduceAdd,Nat.reduceSub,Nat.reduceMul,Nat.reduceLeDiff,Nat.reduceLT,Nat.reduceEqDiff,Int.reduceAdd,Int.reduceSub,Int.reduceMul,Int.reduceNeg,Int.reduceLT,Int.reduceLE,Int.reduceEq,Int.reduceToNat,Int.cast_ofNat_Int,↓reduceIte, *]) <;> first | rfl | skip
    unfold maxL
    cases xs with
    | nil => simp at h
    | cons x r => simp [zx181]
end Go.Proofs.Ytalaadcbpjnglaa
namespace Go.Proofs.Ytalaadcbpjnglaa
open Go Go.AM Go.Proofs
theorem chr_min {v : Int} {r : List Int} (h : 1 ≤ r.length) (h1 : 0 ≤ minL r) (h2 : maxL r < v) : ChR v r := fun x hx =>
  ⟨Int.le_trans h1 ((minL_spec h).2 x hx), Int.lt_of_le_of_lt ((maxL_spec h).2 x hx) h2⟩
theorem chr_of {v : Int} {r : List Int} (h : 1 ≤ r.length) (hc : ChR v r) : 0 ≤ minL r ∧ maxL r < v := ⟨(hc _ (minL_spec h).1).1, (hc _ (maxL_spec h).1).2⟩
theorem valid_ret {p : Nat → Prop} {H : Heap} {rows : AV} {v : Int} {t : List (List Int)} (ht : Sl p H rows t) : RetP E 74 [.ag [.i v, rows]] H (.b (decide (ArrP v t))) := by
  refine RetP.ro rfl fn74 rfl rfl ?_
  unfold f74A
  have hb := ht.bound
  by_cases h0 : 2 ≤ v ∧ v ≤ 4 ∧ 1 ≤ t.length ∧ t.length ≤ 16
  · obtain ⟨v1, v2, t1, t2⟩ := h0
    simp (disch := (first | assumption | omega | (simp only [List.length_append, List.length_cons, List.length_nil]; omega))) only [↓wD,wU,Nat.reduceBEq,zx150,zx151,zx159,zx160,zx161,zx162,Nat.reduceAdd,Nat.reduceSub,Nat.reduceMul,Nat.reduceLeDiff,Nat.reduceLT,Nat.reduceEqDiff,Int.reduceAdd,Int.reduceSub,Int.reduceMul,Int.reduceNeg,Int.reduceLT,Int.reduceLE,Int.reduceEq,Int.reduceToNat,Int.cast_ofNat_Int,↓reduceIte, *, ht.L]
    have k1 := ht.app [.cells [.i v, rows]]
    refine Wp.for t.length (fun i a H' => H' = H ++ [.cells [.i v, rows]] ∧ a 1 = .p H.length 0 ∧ a 26 = rows ∧ a 27 = .i t.length ∧ a 28 = .i i ∧ ∀ r ∈ t.take i, RowP v (gi t 0).length r) ?_ ?_
    · rintro i a H' hi ⟨rfl, a1, a26, a27, a28, hh⟩ ih
      simp (disch := (first | assumption | omega | (simp only [List.length_append, List.length_cons, List.length_nil]; omega))) only [↓wD,wU,Nat.reduceBEq,zx150,zx151,zx159,zx160,zx161,zx162,Nat.reduceAdd,Nat.reduceSub,Nat.reduceMul,Nat.reduceLeDiff,Nat.reduceLT,Nat.reduceEqDiff,Int.reduceAdd,Int.reduceSub,Int.reduceMul,Int.reduceNeg,Int.reduceLT,Int.reduceLE,Int.reduceEq,Int.reduceToNat,Int.cast_ofNat_Int,↓reduceIte, *]
      refine condP_split (fun hlt => ?_) (fun hlt => ?_)
      · have hi' : i < t.length := by omega
        have g1 := k1.get (k := (i : Int)) (by omega) (by omega)
        have g0 := k1.get (k := 0) (by omega) (by omega)
        have gb := g1.bound
        have gb0 := g0.bound
        have bad : ¬ RowP v (gi t 0).length (gi t i) → AV.b false = AV.b (decide (ArrP v t)) := fun h => avb_f fun hh => h (hh.2.2.2.2 _ (mem_gi hi'))
        by_cases q1 : 1 ≤ (gi t i).length
        · by_cases q2 : (gi t i).length ≤ 8
          · by_cases q3 : (gi t i).length = (gi t 0).length
            · by_cases q4 : 0 ≤ minL (gi t i)
              · by_cases q5 : maxL (gi t i) < v
                · have q3' : ((gi t i).length : Int) = (gi t 0).length := by omega
                  simp (disch := (first | assumption | omega | (simp only [List.length_append, List.length_cons, List.length_nil]; omega))) only [↓wD,wU,Nat.reduceBEq,zx150,zx151,zx159,zx160,zx161,zx162,Nat.reduceAdd,Nat.reduceSub,Nat.reduceMul,Nat.reduceLeDiff,Nat.reduceLT,Nat.reduceEqDiff,Int.reduceAdd,Int.reduceSub,Int.reduceMul,Int.reduceNeg,Int.reduceLT,Int.reduceLE,Int.reduceEq,Int.reduceToNat,Int.cast_ofNat_Int,↓reduceIte, *, k1.L, g1.I, g0.I, (min_ret g1 q1).call, (max_ret g1 q1).call]
                  refine (ih hi').go ⟨rfl, ?_⟩
                  simp (disch := (first | assumption | omega | (simp only [List.length_append, List.length_cons, List.length_nil]; omega))) only [↓wD,wU,Nat.reduceBEq,zx150,zx151,zx159,zx160,zx161,zx162,Nat.reduceAdd,Nat.reduceSub,Nat.reduceMul,Nat.reduceLeDiff,Nat.reduceLT,Nat.reduceEqDiff,Int.reduceAdd,Int.reduceSub,Int.reduceMul,Int.reduceNeg,Int.reduceLT,Int.reduceLE,Int.reduceEq,Int.reduceToNat,Int.cast_ofNat_Int,↓reduceIte, *]
                  exact mem_take_gi hh hi' ⟨q3, q1, q2, chr_min q1 q4 q5⟩
                · have q3' : ((gi t i).length : Int) = (gi t 0).length := by omega
                  simp (disch := (first | assumption | omega | (simp only [List.length_append, List.length_cons, List.length_nil]; omega))) only [↓wD,wU,Nat.reduceBEq,zx150,zx151,zx159,zx160,zx161,zx162,Nat.reduceAdd,Nat.reduceSub,Nat.reduceMul,Nat.reduceLeDiff,Nat.reduceLT,Nat.reduceEqDiff,Int.reduceAdd,Int.reduceSub,Int.reduceMul,Int.reduceNeg,Int.reduceLT,Int.reduceLE,Int.reduceEq,Int.reduceToNat,Int.cast_ofNat_Int,↓reduceIte, *, k1.L, g1.I, g0.I, (min_ret g1 q1).call, (max_ret g1 q1).call]
                  exact bad fun h => q5 (chr_of q1 h.2.2.2).2
              · have q3' : ((gi t i).length : Int) = (gi t 0).length := by omega
                simp (disch := (first | assumption | omega | (simp only [List.length_append, List.length_cons, List.length_nil]; omega))) only [↓wD,wU,Nat.reduceBEq,zx150,zx151,zx159,zx160,zx161,zx162,Nat.reduceAdd,Nat.reduceSub,Nat.reduceMul,Nat.reduceLeDiff,Nat.reduceLT,Nat.reduceEqDiff,Int.reduceAdd,Int.reduceSub,Int.reduceMul,Int.reduceNeg,Int.reduceLT,Int.reduceLE,Int.reduceEq,Int.reduceToNat,Int.cast_ofNat_Int,↓reduceIte, *, k1.L, g1.I, g0.I, (min_ret g1 q1).call, (max_ret g1 q1).call]
                exact bad fun h => q4 (chr_of q1 h.2.2.2).1
            · have q3' : ¬ ((gi t i).length : Int) = (gi t 0).length := by omega
              simp (disch := (first | assumption | omega | (simp only [List.length_append, List.length_cons, List.length_nil]; omega))) only [↓wD,wU,Nat.reduceBEq,zx150,zx151,zx159,zx160,zx161,zx162,Nat.reduceAdd,Nat.reduceSub,Nat.reduceMul,Nat.reduceLeDiff,Nat.reduceLT,Nat.reduceEqDiff,Int.reduceAdd,Int.reduceSub,Int.reduceMul,Int.reduceNeg,Int.reduceLT,Int.reduceLE,Int.reduceEq,Int.reduceToNat,Int.cast_ofNat_Int,↓reduceIte, *, k1.L, g1.I, g0.I]
              exact bad fun h => q3 h.1
          · simp (disch := (first | assumption | omega | (simp only [List.length_append, List.length_cons, List.length_nil]; omega))) only [↓wD,wU,Nat.reduceBEq,zx150,zx151,zx159,zx160,zx161,zx162,Nat.reduceAdd,Nat.reduceSub,Nat.reduceMul,Nat.reduceLeDiff,Nat.reduceLT,Nat.reduceEqDiff,Int.reduceAdd,Int.reduceSub,Int.reduceMul,Int.reduceNeg,Int.reduceLT,Int.reduceLE,Int.reduceEq,Int.reduceToNat,Int.cast_ofNat_Int,↓reduceIte, *, k1.L, g1.I, g0.I]
            exact bad fun h => q2 h.2.2.1
        · simp (disch := (first | assumption | omega | (simp only [List.length_append, List.length_cons, List.length_nil]; omega))) only [↓wD,wU,Nat.reduceBEq,zx150,zx151,zx159,zx160,zx161,zx162,Nat.reduceAdd,Nat.reduceSub,Nat.reduceMul,Nat.reduceLeDiff,Nat.reduceLT,Nat.reduceEqDiff,Int.reduceAdd,Int.reduceSub,Int.reduceMul,Int.reduceNeg,Int.reduceLT,Int.reduceLE,Int.reduceEq,Int.reduceToNat,Int.cast_ofNat_Int,↓reduceIte, *, k1.L, g1.I, g0.I]
          exact bad fun h => q1 h.2.1
      · simp (disch := (first | assumption | omega | (simp only [List.length_append, List.length_cons, List.length_nil]; omega))) only [↓wD,wU,Nat.reduceBEq,zx150,zx151,zx159,zx160,zx161,zx162,Nat.reduceAdd,Nat.reduceSub,Nat.reduceMul,Nat.reduceLeDiff,Nat.reduceLT,Nat.reduceEqDiff,Int.reduceAdd,Int.reduceSub,Int.reduceMul,Int.reduceNeg,Int.reduceLT,Int.reduceLE,Int.reduceEq,Int.reduceToNat,Int.cast_ofNat_Int,↓reduceIte, *]
        exact avb_t ⟨v1, v2, t1, t2, mem_take_all hh (by omega)⟩
    · (simp (disch := (first | assumption | omega | (simp only [List.length_append, List.length_cons, List.length_nil]; omega))) only [↓wD,wU,Nat.reduceBEq,zx150,zx151,zx159,zx160,zx161,zx162,Nat.reduceAdd,Nat.reduceSub,Nat.reduceMul,Nat.reduceLeDiff,Nat.reduceLT,Nat.reduceEqDiff,Int.reduceAdd,Int.reduceSub,Int.reduceMul,Int.reduceNeg,Int.reduceLT,Int.reduceLE,Int.reduceEq,Int.reduceToNat,Int.cast_ofNat_Int,↓reduceIte, *]) <;> simp
  · have bad : ¬ ArrP v t := fun h => h0 ⟨h.1, h.2.1, h.2.2.1, h.2.2.2.1⟩
    by_cases h1 : v < 2
    · clear h0
      simp (disch := (first | assumption | omega | (simp only [List.length_append, List.length_cons, List.length_nil]; omega))) only [↓wD,wU,Nat.reduceBEq,zx150,zx151,zx159,zx160,zx161,zx162,Nat.reduceAdd,Nat.reduceSub,Nat.reduceMul,Nat.reduceLeDiff,Nat.reduceLT,Nat.reduceEqDiff,Int.reduceAdd,Int.reduceSub,Int.reduceMul,Int.reduceNeg,Int.reduceLT,Int.reduceLE,Int.reduceEq,Int.reduceToNat,Int.cast_ofNat_Int,↓reduceIte, *, ht.L]
    by_cases h2 : 4 < v
    · clear h0
      simp (disch := (first | assumption | omega | (simp only [List.length_append, List.length_cons, List.length_nil]; omega))) only [↓wD,wU,Nat.reduceBEq,zx150,zx151,zx159,zx160,zx161,zx162,Nat.reduceAdd,Nat.reduceSub,Nat.reduceMul,Nat.reduceLeDiff,Nat.reduceLT,Nat.reduceEqDiff,Int.reduceAdd,Int.reduceSub,Int.reduceMul,Int.reduceNeg,Int.reduceLT,Int.reduceLE,Int.reduceEq,Int.reduceToNat,Int.cast_ofNat_Int,↓reduceIte, *, ht.L]
    by_cases h3 : t.length < 1
    · clear h0
      simp (disch := (first | assumption | omega | (simp only [List.length_append, List.length_cons, List.length_nil]; omega))) only [↓wD,wU,Nat.reduceBEq,zx150,zx151,zx159,zx160,zx161,zx162,Nat.reduceAdd,Nat.reduceSub,Nat.reduceMul,Nat.reduceLeDiff,Nat.reduceLT,Nat.reduceEqDiff,Int.reduceAdd,Int.reduceSub,Int.reduceMul,Int.reduceNeg,Int.reduceLT,Int.reduceLE,Int.reduceEq,Int.reduceToNat,Int.cast_ofNat_Int,↓reduceIte, *, ht.L]
    · have h4 : 16 < t.length := by omega
      clear h0
      simp (disch := (first | assumption | omega | (simp only [List.length_append, List.length_cons, List.length_nil]; omega))) only [↓wD,wU,Nat.reduceBEq,zx150,zx151,zx159,zx160,zx161,zx162,Nat.reduceAdd,Nat.reduceSub,Nat.reduceMul,Nat.reduceLeDiff,Nat.reduceLT,Nat.reduceEqDiff,Int.reduceAdd,Int.reduceSub,Int.reduceMul,Int.reduceNeg,Int.reduceLT,Int.reduceLE,Int.reduceEq,Int.reduceToNat,Int.cast_ofNat_Int,↓reduceIte, *, ht.L]
theorem columns_ret {p : Nat → Prop} {H : Heap} {rows : AV} {v : Int} {t : List (List Int)} (ht : Sl p H rows t) (h : 1 ≤ t.length) : RetP E 75 [.ag [.i v, rows]] H (.i (wd t)) := by
  refine RetP.ro rfl fn75 rfl rfl ?_
  unfold f75A
  have k1 := ht.app [.cells [.i v, rows]]
  have g0 := k1.get (k := 0) (by omega) (by omega)
  simp (disch := (first | assumption | omega | (simp only [List.length_append, List.length_cons, List.length_nil]; omega))) only [↓wD,wU,Nat.reduceBEq,zx150,zx151,zx159,zx160,zx161,zx162,Nat.reduceAdd,Nat.reduceSub,Nat.reduceMul,Nat.reduceLeDiff,Nat.reduceLT,Nat.reduceEqDiff,Int.reduceAdd,Int.reduceSub,Int.reduceMul,Int.reduceNeg,Int.reduceLT,Int.reduceLE,Int.reduceEq,Int.reduceToNat,Int.cast_ofNat_Int,↓reduceIte, *, k1.L, g0.I]
  rfl
theorem strong_ret {p : Nat → Prop} {H : Heap} {rows : AV} {v k m : Int} {t : List (List Int)} (ht : Sl p H rows t) : RetP E 86 [.ag [.i v, rows], .i k, .i m] H (.b (decide (ArrP v t ∧ 1 ≤ k ∧ k ≤ m ∧ k ≤ wd t))) := by
  refine RetP.ro rfl fn86 rfl rfl ?_
  unfold f86A
  have k1 := ht.app [.cells [.i v, rows]]
  by_cases h : ArrP v t
  · (repeat' (first | refine condP_split (fun _ => ?_) (fun _ => ?_) | refine guardP_split (fun _ => ?_) (fun _ => ?_) | refine guardP_splitF (fun _ => ?_) (fun _ => ?_) | (simp (disch := (first | assumption | omega | (simp only [List.length_append, List.length_cons, List.length_nil]; omega))) only [↓wD,wU,Nat.reduceBEq,zx150,zx151,zx159,zx160,zx161,zx162,Nat.reduceAdd,Nat.reduceSub,Nat.reduceMul,Nat.reduceLeDiff,Nat.reduceLT,Nat.reduceEqDiff,Int.reduceAdd,Int.reduceSub,Int.reduceMul,Int.reduceNeg,Int.reduceLT,Int.reduceLE,Int.reduceEq,Int.reduceToNat,Int.cast_ofNat_Int,↓reduceIte, *, false_and, and_false, ht.L, (valid_ret k1).call, (columns_ret k1 h.2.2.1).call]))) <;> simp_all
  · (repeat' (first | refine condP_split (fun _ => ?_) (fun _ => ?_) | refine guardP_split (fun _ => ?_) (fun _ => ?_) | refine guardP_splitF (fun _ => ?_) (fun _ => ?_) | (simp (disch := (first | assumption | omega | (simp only [List.length_append, List.length_cons, List.length_nil]; omega))) only [↓wD,wU,Nat.reduceBEq,zx150,zx151,zx159,zx160,zx161,zx162,Nat.reduceAdd,Nat.reduceSub,Nat.reduceMul,Nat.reduceLeDiff,Nat.reduceLT,Nat.reduceEqDiff,Int.reduceAdd,Int.reduceSub,Int.reduceMul,Int.reduceNeg,Int.reduceLT,Int.reduceLE,Int.reduceEq,Int.reduceToNat,Int.cast_ofNat_Int,↓reduceIte, *, false_and, and_false, ht.L, (valid_ret k1).call]))) <;> simp_all
theorem rvalid_ret {p : Nat → Prop} {H : Heap} {rows : AV} {v : Int} {t : List (List Int)} (ht : Sl p H rows t) : RetP E 38 [.ag [.i v, rows]] H (.b (decide (ArrP v t))) := by
  refine RetP.ro rfl fn38 rfl rfl ?_
  unfold f38A
  have hb := ht.bound
  by_cases h0 : 2 ≤ v ∧ v ≤ 4 ∧ 1 ≤ t.length ∧ t.length ≤ 16
  · obtain ⟨v1, v2, t1, t2⟩ := h0
    simp (disch := (first | assumption | omega | (simp only [List.length_append, List.length_cons, List.length_nil]; omega))) only [↓wD,wU,Nat.reduceBEq,zx150,zx151,zx159,zx160,zx161,zx162,Nat.reduceAdd,Nat.reduceSub,Nat.reduceMul,Nat.reduceLeDiff,Nat.reduceLT,Nat.reduceEqDiff,Int.reduceAdd,Int.reduceSub,Int.reduceMul,Int.reduceNeg,Int.reduceLT,Int.reduceLE,Int.reduceEq,Int.reduceToNat,Int.cast_ofNat_Int,↓reduceIte, *, ht.L]
    have k1 := ht.app [.cells [.i v, rows]]
    refine Wp.for t.length (fun i a H' => H' = H ++ [.cells [.i v, rows]] ∧ a 1 = .p H.length 0 ∧ a 28 = rows ∧ a 29 = .i t.length ∧ a 30 = .i i ∧ ∀ r ∈ t.take i, RowP v (gi t 0).length r) ?_ ?_
    · rintro i a H' hi ⟨rfl, a1, a28, a29, a30, hh⟩ ih
      simp (disch := (first | assumption | omega | (simp only [List.length_append, List.length_cons, List.length_nil]; omega))) only [↓wD,wU,Nat.reduceBEq,zx150,zx151,zx159,zx160,zx161,zx162,Nat.reduceAdd,Nat.reduceSub,Nat.reduceMul,Nat.reduceLeDiff,Nat.reduceLT,Nat.reduceEqDiff,Int.reduceAdd,Int.reduceSub,Int.reduceMul,Int.reduceNeg,Int.reduceLT,Int.reduceLE,Int.reduceEq,Int.reduceToNat,Int.cast_ofNat_Int,↓reduceIte, *]
      refine condP_split (fun hlt => ?_) (fun hlt => ?_)
      · have hi' : i < t.length := by omega
        have g1 := k1.get (k := (i : Int)) (by omega) (by omega)
        have g0 := k1.get (k := 0) (by omega) (by omega)
        have gb := g1.bound
        have gb0 := g0.bound
        have bad : ¬ RowP v (gi t 0).length (gi t i) → AV.b false = AV.b (decide (ArrP v t)) := fun h => avb_f fun hh => h (hh.2.2.2.2 _ (mem_gi hi'))
        by_cases q3 : (gi t i).length = (gi t 0).length
        · have q3' : ((gi t i).length : Int) = (gi t 0).length := by omega
          by_cases q1 : 1 ≤ (gi t i).length
          · by_cases q2 : (gi t i).length ≤ 8
            · simp (disch := (first | assumption | omega | (simp only [List.length_append, List.length_cons, List.length_nil]; omega))) only [↓wD,wU,Nat.reduceBEq,zx150,zx151,zx159,zx160,zx161,zx162,Nat.reduceAdd,Nat.reduceSub,Nat.reduceMul,Nat.reduceLeDiff,Nat.reduceLT,Nat.reduceEqDiff,Int.reduceAdd,Int.reduceSub,Int.reduceMul,Int.reduceNeg,Int.reduceLT,Int.reduceLE,Int.reduceEq,Int.reduceToNat,Int.cast_ofNat_Int,↓reduceIte, *, k1.L, g1.I, g0.I]
              refine Wp.for (gi t i).length (fun j a H' => H' = H ++ [.cells [.i v, rows]] ∧ a 1 = .p H.length 0 ∧ a 28 = rows ∧ a 29 = .i t.length ∧ a 30 = .i i ∧ a 52 = rows.get (H ++ [.cells [.i v, rows]]) i ∧ (∃ n : Int, a 53 = .i n ∧ n ≤ (gi t i).length ∧ (gi t i).length ≤ n) ∧ a 54 = .i j ∧ ChR v ((gi t i).take j)) ?_ ?_
              · rintro j a H' hj ⟨rfl, a1, a28, a29, a30, a52, ⟨n, a53, n1, n2⟩, a54, hh2⟩ ih2
                simp (disch := (first | assumption | omega | (simp only [List.length_append, List.length_cons, List.length_nil]; omega))) only [↓wD,wU,Nat.reduceBEq,zx150,zx151,zx159,zx160,zx161,zx162,Nat.reduceAdd,Nat.reduceSub,Nat.reduceMul,Nat.reduceLeDiff,Nat.reduceLT,Nat.reduceEqDiff,Int.reduceAdd,Int.reduceSub,Int.reduceMul,Int.reduceNeg,Int.reduceLT,Int.reduceLE,Int.reduceEq,Int.reduceToNat,Int.cast_ofNat_Int,↓reduceIte, *]
                refine condP_split (fun hlt2 => ?_) (fun hlt2 => ?_)
                · have hj' : j < (gi t i).length := by omega
                  have bad2 : ¬ (0 ≤ gi (gi t i) j ∧ gi (gi t i) j < v) → AV.b false = AV.b (decide (ArrP v t)) := fun h => bad fun hh => h (hh.2.2.2 _ (mem_gi hj'))
                  (repeat' (first | refine condP_split (fun _ => ?_) (fun _ => ?_) | refine guardP_split (fun _ => ?_) (fun _ => ?_) | refine guardP_splitF (fun _ => ?_) (fun _ => ?_) | (simp (disch := (first | assumption | omega | (simp only [List.length_append, List.length_cons, List.length_nil]; omega))) only [↓wD,wU,Nat.reduceBEq,zx150,zx151,zx159,zx160,zx161,zx162,Nat.reduceAdd,Nat.reduceSub,Nat.reduceMul,Nat.reduceLeDiff,Nat.reduceLT,Nat.reduceEqDiff,Int.reduceAdd,Int.reduceSub,Int.reduceMul,Int.reduceNeg,Int.reduceLT,Int.reduceLE,Int.reduceEq,Int.reduceToNat,Int.cast_ofNat_Int,↓reduceIte, *, g1.I]))) <;> first | exact bad2 (by omega) | skip
                  refine (ih2 hj').go ⟨rfl, ?_⟩
                  simp (disch := (first | assumption | omega | (simp only [List.length_append, List.length_cons, List.length_nil]; omega))) only [↓wD,wU,Nat.reduceBEq,zx150,zx151,zx159,zx160,zx161,zx162,Nat.reduceAdd,Nat.reduceSub,Nat.reduceMul,Nat.reduceLeDiff,Nat.reduceLT,Nat.reduceEqDiff,Int.reduceAdd,Int.reduceSub,Int.reduceMul,Int.reduceNeg,Int.reduceLT,Int.reduceLE,Int.reduceEq,Int.reduceToNat,Int.cast_ofNat_Int,↓reduceIte, *]
                  exact ⟨⟨n, rfl, by omega, by omega⟩, mem_take_gi (P := fun x => 0 ≤ x ∧ x < v) hh2 hj' (by omega)⟩
                · simp (disch := (first | assumption | omega | (simp only [List.length_append, List.length_cons, List.length_nil]; omega))) only [↓wD,wU,Nat.reduceBEq,zx150,zx151,zx159,zx160,zx161,zx162,Nat.reduceAdd,Nat.reduceSub,Nat.reduceMul,Nat.reduceLeDiff,Nat.reduceLT,Nat.reduceEqDiff,Int.reduceAdd,Int.reduceSub,Int.reduceMul,Int.reduceNeg,Int.reduceLT,Int.reduceLE,Int.reduceEq,Int.reduceToNat,Int.cast_ofNat_Int,↓reduceIte, *]
                  refine (ih hi').go ⟨rfl, ?_⟩
                  simp (disch := (first | assumption | omega | (simp only [List.length_append, List.length_cons, List.length_nil]; omega))) only [↓wD,wU,Nat.reduceBEq,zx150,zx151,zx159,zx160,zx161,zx162,Nat.reduceAdd,Nat.reduceSub,Nat.reduceMul,Nat.reduceLeDiff,Nat.reduceLT,Nat.reduceEqDiff,Int.reduceAdd,Int.reduceSub,Int.reduceMul,Int.reduceNeg,Int.reduceLT,Int.reduceLE,Int.reduceEq,Int.reduceToNat,Int.cast_ofNat_Int,↓reduceIte, *]
                  exact mem_take_gi hh hi' ⟨q3, q1, q2, mem_take_all hh2 (by omega)⟩
              · (simp (disch := (first | assumption | omega | (simp only [List.length_append, List.length_cons, List.length_nil]; omega))) only [↓wD,wU,Nat.reduceBEq,zx150,zx151,zx159,zx160,zx161,zx162,Nat.reduceAdd,Nat.reduceSub,Nat.reduceMul,Nat.reduceLeDiff,Nat.reduceLT,Nat.reduceEqDiff,Int.reduceAdd,Int.reduceSub,Int.reduceMul,Int.reduceNeg,Int.reduceLT,Int.reduceLE,Int.reduceEq,Int.reduceToNat,Int.cast_ofNat_Int,↓reduceIte, *]) <;> (first | exact ⟨⟨_, rfl, by omega, by omega⟩, by simp [ChR]⟩ | simp [ChR])
            · simp (disch := (first | assumption | omega | (simp only [List.length_append, List.length_cons, List.length_nil]; omega))) only [↓wD,wU,Nat.reduceBEq,zx150,zx151,zx159,zx160,zx161,zx162,Nat.reduceAdd,Nat.reduceSub,Nat.reduceMul,Nat.reduceLeDiff,Nat.reduceLT,Nat.reduceEqDiff,Int.reduceAdd,Int.reduceSub,Int.reduceMul,Int.reduceNeg,Int.reduceLT,Int.reduceLE,Int.reduceEq,Int.reduceToNat,Int.cast_ofNat_Int,↓reduceIte, *, k1.L, g1.I, g0.I]
              exact bad fun h => q2 h.2.2.1
          · simp (disch := (first | assumption | omega | (simp only [List.length_append, List.length_cons, List.length_nil]; omega))) only [↓wD,wU,Nat.reduceBEq,zx150,zx151,zx159,zx160,zx161,zx162,Nat.reduceAdd,Nat.reduceSub,Nat.reduceMul,Nat.reduceLeDiff,Nat.reduceLT,Nat.reduceEqDiff,Int.reduceAdd,Int.reduceSub,Int.reduceMul,Int.reduceNeg,Int.reduceLT,Int.reduceLE,Int.reduceEq,Int.reduceToNat,Int.cast_ofNat_Int,↓reduceIte, *, k1.L, g1.I, g0.I]
            exact bad fun h => q1 h.2.1
        · have q3' : ¬ ((gi t i).length : Int) = (gi t 0).length := by omega
          simp (disch := (first | assumption | omega | (simp only [List.length_append, List.length_cons, List.length_nil]; omega))) only [↓wD,wU,Nat.reduceBEq,zx150,zx151,zx159,zx160,zx161,zx162,Nat.reduceAdd,Nat.reduceSub,Nat.reduceMul,Nat.reduceLeDiff,Nat.reduceLT,Nat.reduceEqDiff,Int.reduceAdd,Int.reduceSub,Int.reduceMul,Int.reduceNeg,Int.reduceLT,Int.reduceLE,Int.reduceEq,Int.reduceToNat,Int.cast_ofNat_Int,↓reduceIte, *, k1.L, g1.I, g0.I]
          exact bad fun h => q3 h.1
      · simp (disch := (first | assumption | omega | (simp only [List.length_append, List.length_cons, List.length_nil]; omega))) only [↓wD,wU,Nat.reduceBEq,zx150,zx151,zx159,zx160,zx161,zx162,Nat.reduceAdd,Nat.reduceSub,Nat.reduceMul,Nat.reduceLeDiff,Nat.reduceLT,Nat.reduceEqDiff,Int.reduceAdd,Int.reduceSub,Int.reduceMul,Int.reduceNeg,Int.reduceLT,Int.reduceLE,Int.reduceEq,Int.reduceToNat,Int.cast_ofNat_Int,↓reduceIte, *]
        exact avb_t ⟨v1, v2, t1, t2, mem_take_all hh (by omega)⟩
    · (simp (disch := (first | assumption | omega | (simp only [List.length_append, List.length_cons, List.length_nil]; omega))) only [↓wD,wU,Nat.reduceBEq,zx150,zx151,zx159,zx160,zx161,zx162,Nat.reduceAdd,Nat.reduceSub,Nat.reduceMul,Nat.reduceLeDiff,Nat.reduceLT,Nat.reduceEqDiff,Int.reduceAdd,Int.reduceSub,Int.reduceMul,Int.reduceNeg,Int.reduceLT,Int.reduceLE,Int.reduceEq,Int.reduceToNat,Int.cast_ofNat_Int,↓reduceIte, *]) <;> simp
  · have bad : ¬ ArrP v t := fun h => h0 ⟨h.1, h.2.1, h.2.2.1, h.2.2.2.1⟩
    by_cases h1 : v < 2
    · clear h0
      simp (disch := (first | assumption | omega | (simp only [List.length_append, List.length_cons, List.length_nil]; omega))) only [↓wD,wU,Nat.reduceBEq,zx150,zx151,zx159,zx160,zx161,zx162,Nat.reduceAdd,Nat.reduceSub,Nat.reduceMul,Nat.reduceLeDiff,Nat.reduceLT,Nat.reduceEqDiff,Int.reduceAdd,Int.reduceSub,Int.reduceMul,Int.reduceNeg,Int.reduceLT,Int.reduceLE,Int.reduceEq,Int.reduceToNat,Int.cast_ofNat_Int,↓reduceIte, *, ht.L]
    by_cases h2 : 4 < v
    · clear h0
      simp (disch := (first | assumption | omega | (simp only [List.length_append, List.length_cons, List.length_nil]; omega))) only [↓wD,wU,Nat.reduceBEq,zx150,zx151,zx159,zx160,zx161,zx162,Nat.reduceAdd,Nat.reduceSub,Nat.reduceMul,Nat.reduceLeDiff,Nat.reduceLT,Nat.reduceEqDiff,Int.reduceAdd,Int.reduceSub,Int.reduceMul,Int.reduceNeg,Int.reduceLT,Int.reduceLE,Int.reduceEq,Int.reduceToNat,Int.cast_ofNat_Int,↓reduceIte, *, ht.L]
    by_cases h3 : t.length < 1
    · clear h0
      simp (disch := (first | assumption | omega | (simp only [List.length_append, List.length_cons, List.length_nil]; omega))) only [↓wD,wU,Nat.reduceBEq,zx150,zx151,zx159,zx160,zx161,zx162,Nat.reduceAdd,Nat.reduceSub,Nat.reduceMul,Nat.reduceLeDiff,Nat.reduceLT,Nat.reduceEqDiff,Int.reduceAdd,Int.reduceSub,Int.reduceMul,Int.reduceNeg,Int.reduceLT,Int.reduceLE,Int.reduceEq,Int.reduceToNat,Int.cast_ofNat_Int,↓reduceIte, *, ht.L]
    · have h4 : 16 < t.length := by omega
      clear h0
      simp (disch := (first | assumption | omega | (simp only [List.length_append, List.length_cons, List.length_nil]; omega))) only [↓wD,wU,Nat.reduceBEq,zx150,zx151,zx159,zx160,zx161,zx162,Nat.reduceAdd,Nat.reduceSub,Nat.reduceMul,Nat.reduceLeDiff,Nat.reduceLT,Nat.reduceEqDiff,Int.reduceAdd,Int.reduceSub,Int.reduceMul,Int.reduceNeg,Int.reduceLT,Int.reduceLE,Int.reduceEq,Int.reduceToNat,Int.cast_ofNat_Int,↓reduceIte, *, ht.L]
theorem width_ret {p : Nat → Prop} {H : Heap} {rows : AV} {v : Int} {t : List (List Int)} (ht : Sl p H rows t) (h : 1 ≤ t.length) : RetP E 39 [.ag [.i v, rows]] H (.i (wd t)) := by
  refine RetP.ro rfl fn39 rfl rfl ?_
  unfold f39A
  have k1 := ht.app [.cells [.i v, rows]]
  have g0 := k1.get (k := 0) (by omega) (by omega)
  simp (disch := (first | assumption | omega | (simp only [List.length_append, List.length_cons, List.length_nil]; omega))) only [↓wD,wU,Nat.reduceBEq,zx150,zx151,zx159,zx160,zx161,zx162,Nat.reduceAdd,Nat.reduceSub,Nat.reduceMul,Nat.reduceLeDiff,Nat.reduceLT,Nat.reduceEqDiff,Int.reduceAdd,Int.reduceSub,Int.reduceMul,Int.reduceNeg,Int.reduceLT,Int.reduceLE,Int.reduceEq,Int.reduceToNat,Int.cast_ofNat_Int,↓reduceIte, *, k1.L, g0.I]
  rfl
end Go.Proofs.Ytalaadcbpjnglaa
namespace Go.Proofs.Ytalaadcbpjnglaa
open Go Go.AM Go.Proofs
theorem list_ret {p : Nat → Prop} {H : Heap} {v : AV} {xs : List Int} (hx : Sl p H v xs) : Ret E 35 [v] (fun _ => False) H (xs.take 11) := by
  refine Ret.ro rfl fn35 rfl ?_
  unfold f35A
  have hb := hx.bound
  have hs : slV 1 v none (some (.i (min (xs.length : Int) 11))) none = some (v.cut 0 (min xs.length 11)) := by
    refine hx.slV_lh none _ (b := min xs.length 11) ?_ (bound_none (by omega)) (by omega) (by omega)
    rw [bound_some (by omega) (by omega)]
    congr 1
    omega
  simp (disch := (first | assumption | omega | (simp only [List.length_append, List.length_cons, List.length_nil]; omega))) only [↓wD,wU,Nat.reduceBEq,zx150,zx151,zx159,zx160,zx161,zx162,Nat.reduceAdd,Nat.reduceSub,Nat.reduceMul,Nat.reduceLeDiff,Nat.reduceLT,Nat.reduceEqDiff,Int.reduceAdd,Int.reduceSub,Int.reduceMul,Int.reduceNeg,Int.reduceLT,Int.reduceLE,Int.reduceEq,Int.reduceToNat,Int.cast_ofNat_Int,↓reduceIte, *, hx.I, hs]
  have hc := hx.cut (a := 0) (b := min xs.length 11) (by omega) (by omega)
  have e : (xs.drop 0).take (min xs.length 11 - 0) = xs.take 11 := by
    rw [List.drop_zero, Nat.sub_zero]
    by_cases hl : xs.length ≤ 11
    · rw [List.take_of_length_le (by omega), List.take_of_length_le hl]
    · congr 1; omega
  rw [e] at hc
  refine (clone_ret hc (by rw [List.length_take]; omega)).go fun u N hu => ?_
  simp (disch := (first | assumption | omega | (simp only [List.length_append, List.length_cons, List.length_nil]; omega))) only [↓wD,wU,Nat.reduceBEq,zx150,zx151,zx159,zx160,zx161,zx162,Nat.reduceAdd,Nat.reduceSub,Nat.reduceMul,Nat.reduceLeDiff,Nat.reduceLT,Nat.reduceEqDiff,Int.reduceAdd,Int.reduceSub,Int.reduceMul,Int.reduceNeg,Int.reduceLT,Int.reduceLE,Int.reduceEq,Int.reduceToNat,Int.cast_ofNat_Int,↓reduceIte]
  exact hu
def cutA (t : List (List Int)) : List (List Int) := (t.take 19).map fun r => r.take 11
theorem of_ret {p : Nat → Prop} {H : Heap} {rows : AV} {v : Int} {t : List (List Int)} (ht : Sl p H rows t) : Ret E 32 [.ag [.i v, rows]] (fun _ => False) H ((v, cutA t) : Int × List (List Int)) := by
  refine Ret.ro rfl fn32 rfl ?_
  unfold f32A
  have hb := ht.bound
  simp (disch := (first | assumption | omega | (simp only [List.length_append, List.length_cons, List.length_nil]; omega))) only [↓wD,wU,Nat.reduceBEq,zx150,zx151,zx159,zx160,zx161,zx162,Nat.reduceAdd,Nat.reduceSub,Nat.reduceMul,Nat.reduceLeDiff,Nat.reduceLT,Nat.reduceEqDiff,Int.reduceAdd,Int.reduceSub,Int.reduceMul,Int.reduceNeg,Int.reduceLT,Int.reduceLE,Int.reduceEq,Int.reduceToNat,Int.cast_ofNat_Int,↓reduceIte, *, ht.L]
  replace ht : Sl (fun b => b < H.length) H rows t := ht.low.weak fun _ h => h.2
  refine Wp.for t.length (fun i a H' => ∃ u, a 10 = rows ∧ a 11 = .i t.length ∧ a 12 = .i i ∧ a 2 = .p (H.length + 1) 0 ∧ a 3 = .p (H.length + 2) 0 ∧ Gr H H' ∧ H.length + 3 ≤ H'.length ∧
    H'[H.length + 1]? = some (.cells [.i 0, .nils]) ∧ H'[H.length + 2]? = some (.cells [.i v, u]) ∧ Acc (H.length + 3) (fun b => H.length + 3 ≤ b) H' u (((t.take i).take 19).map fun r => r.take 11)) ?_ ?_
  · rintro i a H1 hi ⟨u, a10, a11, a12, a2, a3, hg, hl, c2, c3, hu⟩ ih
    simp (disch := (first | assumption | omega | (simp only [List.length_append, List.length_cons, List.length_nil]; omega))) only [↓wD,wU,Nat.reduceBEq,zx150,zx151,zx159,zx160,zx161,zx162,Nat.reduceAdd,Nat.reduceSub,Nat.reduceMul,Nat.reduceLeDiff,Nat.reduceLT,Nat.reduceEqDiff,Int.reduceAdd,Int.reduceSub,Int.reduceMul,Int.reduceNeg,Int.reduceLT,Int.reduceLE,Int.reduceEq,Int.reduceToNat,Int.cast_ofNat_Int,↓reduceIte, *]
    refine condP_split (fun hlt => ?_) (fun hlt => ?_)
    · have hi' : i < t.length := by omega
      have ht1 := ht.gr hg
      have g := ht1.get (k := (i : Int)) (by omega) (by omega)
      simp (disch := (first | assumption | omega | (simp only [List.length_append, List.length_cons, List.length_nil]; omega))) only [↓wD,wU,Nat.reduceBEq,zx150,zx151,zx159,zx160,zx161,zx162,Nat.reduceAdd,Nat.reduceSub,Nat.reduceMul,Nat.reduceLeDiff,Nat.reduceLT,Nat.reduceEqDiff,Int.reduceAdd,Int.reduceSub,Int.reduceMul,Int.reduceNeg,Int.reduceLT,Int.reduceLE,Int.reduceEq,Int.reduceToNat,Int.cast_ofNat_Int,↓reduceIte, *, ht1.L]
      refine condP_split (fun h6 => ?_) (fun h6 => ?_)
      · simp (disch := (first | assumption | omega | (simp only [List.length_append, List.length_cons, List.length_nil]; omega))) only [↓wD,wU,Nat.reduceBEq,zx150,zx151,zx159,zx160,zx161,zx162,Nat.reduceAdd,Nat.reduceSub,Nat.reduceMul,Nat.reduceLeDiff,Nat.reduceLT,Nat.reduceEqDiff,Int.reduceAdd,Int.reduceSub,Int.reduceMul,Int.reduceNeg,Int.reduceLT,Int.reduceLE,Int.reduceEq,Int.reduceToNat,Int.cast_ofNat_Int,↓reduceIte, *, ld_of c3]
        refine (list_ret g).toF fun y H2 hg2 hy => ?_
        have hl2 := hg2.1
        simp (disch := (first | assumption | omega | (simp only [List.length_append, List.length_cons, List.length_nil]; omega))) only [↓wD,wU,Nat.reduceBEq,zx150,zx151,zx159,zx160,zx161,zx162,Nat.reduceAdd,Nat.reduceSub,Nat.reduceMul,Nat.reduceLeDiff,Nat.reduceLT,Nat.reduceEqDiff,Int.reduceAdd,Int.reduceSub,Int.reduceMul,Int.reduceNeg,Int.reduceLT,Int.reduceLE,Int.reduceEq,Int.reduceToNat,Int.cast_ofNat_Int,↓reduceIte, *, hy.cellsV]
        have hu2 := hu.gr hg2
        refine hu2.pushL (by omega) (by omega) hy (fun b hb => ⟨by omega, fun e => by have := hu.blk_lt e; omega⟩) ?_ fun u' H3 hu' hk3 hl3' _ => ?_
        · simp; omega
        · have c33 := hk3.get (b := H.length + 2) (fun e => by have := hu2.blk_lt e; omega) (hg2.get c3)
          have c23 := hk3.get (b := H.length + 1) (fun e => by have := hu2.blk_lt e; omega) (hg2.get c2)
          simp (disch := (first | assumption | omega | (simp only [List.length_append, List.length_cons, List.length_nil]; omega))) only [↓wD,wU,Nat.reduceBEq,zx150,zx151,zx159,zx160,zx161,zx162,Nat.reduceAdd,Nat.reduceSub,Nat.reduceMul,Nat.reduceLeDiff,Nat.reduceLT,Nat.reduceEqDiff,Int.reduceAdd,Int.reduceSub,Int.reduceMul,Int.reduceNeg,Int.reduceLT,Int.reduceLE,Int.reduceEq,Int.reduceToNat,Int.cast_ofNat_Int,↓reduceIte, *, st_of c33, hu'.cellsV]
          refine (ih hi').go ⟨u', ?_⟩
          simp (disch := (first | assumption | omega | (simp only [List.length_append, List.length_cons, List.length_nil]; omega))) only [↓wD,wU,Nat.reduceBEq,zx150,zx151,zx159,zx160,zx161,zx162,Nat.reduceAdd,Nat.reduceSub,Nat.reduceMul,Nat.reduceLeDiff,Nat.reduceLT,Nat.reduceEqDiff,Int.reduceAdd,Int.reduceSub,Int.reduceMul,Int.reduceNeg,Int.reduceLT,Int.reduceLE,Int.reduceEq,Int.reduceToNat,Int.cast_ofNat_Int,↓reduceIte, *]
          have e : ((t.take (i + 1)).take 19) = (t.take i).take 19 ++ [gi t i] := by
            rw [List.take_take, List.take_take, show min 19 (i + 1) = i + 1 by omega, show min 19 i = i by omega, take_gi hi']
          rw [e, List.map_append]
          refine ⟨((hg.trans hg2).push hu2 (by omega) hk3).set (by omega) _, by simp; omega, by rw [List.getElem?_set_ne (by omega)]; exact c23, get_set c33, ?_⟩
          exact hu'.mono ((Kp.set _ _ _).weak fun b hb => by omega) fun _ h => h
      · simp (disch := (first | assumption | omega | (simp only [List.length_append, List.length_cons, List.length_nil]; omega))) only [↓wD,wU,Nat.reduceBEq,zx150,zx151,zx159,zx160,zx161,zx162,Nat.reduceAdd,Nat.reduceSub,Nat.reduceMul,Nat.reduceLeDiff,Nat.reduceLT,Nat.reduceEqDiff,Int.reduceAdd,Int.reduceSub,Int.reduceMul,Int.reduceNeg,Int.reduceLT,Int.reduceLE,Int.reduceEq,Int.reduceToNat,Int.cast_ofNat_Int,↓reduceIte, *]
        refine (ih hi').go ⟨u, ?_⟩
        simp (disch := (first | assumption | omega | (simp only [List.length_append, List.length_cons, List.length_nil]; omega))) only [↓wD,wU,Nat.reduceBEq,zx150,zx151,zx159,zx160,zx161,zx162,Nat.reduceAdd,Nat.reduceSub,Nat.reduceMul,Nat.reduceLeDiff,Nat.reduceLT,Nat.reduceEqDiff,Int.reduceAdd,Int.reduceSub,Int.reduceMul,Int.reduceNeg,Int.reduceLT,Int.reduceLE,Int.reduceEq,Int.reduceToNat,Int.cast_ofNat_Int,↓reduceIte, *]
        have e : ((t.take (i + 1)).take 19) = (t.take i).take 19 := by
          rw [List.take_take, List.take_take]; congr 1; omega
        rw [e]; first | exact hu | exact ⟨hg, hu⟩ | exact ⟨hg, hl, hu⟩
    · have e : i = t.length := by omega
      subst e
      simp (disch := (first | assumption | omega | (simp only [List.length_append, List.length_cons, List.length_nil]; omega))) only [↓wD,wU,Nat.reduceBEq,zx150,zx151,zx159,zx160,zx161,zx162,Nat.reduceAdd,Nat.reduceSub,Nat.reduceMul,Nat.reduceLeDiff,Nat.reduceLT,Nat.reduceEqDiff,Int.reduceAdd,Int.reduceSub,Int.reduceMul,Int.reduceNeg,Int.reduceLT,Int.reduceLE,Int.reduceEq,Int.reduceToNat,Int.cast_ofNat_Int,↓reduceIte, *, ldn_of c3, st_of c2, hu.cellsV]
      simp (disch := (first | assumption | omega | (simp only [List.length_append, List.length_cons, List.length_nil]; omega))) only [↓wD,wU,Nat.reduceBEq,zx150,zx151,zx159,zx160,zx161,zx162,Nat.reduceAdd,Nat.reduceSub,Nat.reduceMul,Nat.reduceLeDiff,Nat.reduceLT,Nat.reduceEqDiff,Int.reduceAdd,Int.reduceSub,Int.reduceMul,Int.reduceNeg,Int.reduceLT,Int.reduceLE,Int.reduceEq,Int.reduceToNat,Int.cast_ofNat_Int,↓reduceIte, *, ldn_of (get_set c2)]
      rw [List.take_length] at hu
      exact rv_si ((hu.mono ((Kp.set _ _ _).weak fun b hb => by omega) fun _ h => h).sl.weak fun b h => .inr (by omega))
  · simp (disch := (first | assumption | omega | (simp only [List.length_append, List.length_cons, List.length_nil]; omega))) only [↓wD,wU,Nat.reduceBEq,zx150,zx151,zx159,zx160,zx161,zx162,Nat.reduceAdd,Nat.reduceSub,Nat.reduceMul,Nat.reduceLeDiff,Nat.reduceLT,Nat.reduceEqDiff,Int.reduceAdd,Int.reduceSub,Int.reduceMul,Int.reduceNeg,Int.reduceLT,Int.reduceLE,Int.reduceEq,Int.reduceToNat,Int.cast_ofNat_Int,↓reduceIte, *]
    refine ⟨.nils, ?_⟩
    simp (disch := (first | assumption | omega | (simp only [List.length_append, List.length_cons, List.length_nil]; omega))) only [↓wD,wU,Nat.reduceBEq,zx150,zx151,zx159,zx160,zx161,zx162,Nat.reduceAdd,Nat.reduceSub,Nat.reduceMul,Nat.reduceLeDiff,Nat.reduceLT,Nat.reduceEqDiff,Int.reduceAdd,Int.reduceSub,Int.reduceMul,Int.reduceNeg,Int.reduceLT,Int.reduceLE,Int.reduceEq,Int.reduceToNat,Int.cast_ofNat_Int,↓reduceIte, *]
    exact ⟨(((Gr.refl H).app _).app _).app _, Acc.nil⟩
theorem cutA_ok {v : Int} {t : List (List Int)} (h : ArrP v t) : cutA t = t := by
  unfold cutA
  rw [List.take_of_length_le (by have := h.2.2.2.1; omega)]
  conv => rhs; rw [← List.map_id t]
  apply List.map_congr_left
  intro r hr
  exact List.take_of_length_le (by have := (h.2.2.2.2 r hr).2.2.1; omega)
end Go.Proofs.Ytalaadcbpjnglaa
namespace Go.Proofs.Ytalaadcbpjnglaa
open Go Go.AM Go.Proofs
def comesL (rs cs ks : List Int) : Bool := (cs.zip ks).all fun q => gi rs q.1 == q.2
theorem zip_take_succ {α : Type} [Inhabited α] {xs ys : List α} {i : Nat} (h1 : i < xs.length) (h2 : i < ys.length) : (xs.take (i + 1)).zip (ys.take (i + 1)) = (xs.take i).zip (ys.take i) ++ [(gi xs i, gi ys i)] := by
  rw [take_gi h1, take_gi h2, List.zip_append (by simp; omega)]; rfl
theorem comesL_succ {rs cs ks : List Int} {i : Nat} (h1 : i < cs.length) (h2 : i < ks.length) : comesL rs (cs.take (i + 1)) (ks.take (i + 1)) = (comesL rs (cs.take i) (ks.take i) && (gi rs (gi cs i) == gi ks i)) := by
  simp [comesL, zip_take_succ h1 h2, List.all_append]
theorem comesL_all {rs cs ks : List Int} {i : Nat} (h1 : cs.length ≤ i) (h2 : ks.length ≤ i) : comesL rs (cs.take i) (ks.take i) = comesL rs cs ks := by
  rw [List.take_of_length_le h1, List.take_of_length_le h2]
theorem comesL_f {rs cs ks : List Int} {i : Nat} (h1 : i < cs.length) (h2 : i < ks.length) (h : ¬ gi rs (gi cs i) = gi ks i) : comesL rs cs ks = false := by
  rw [← Bool.not_eq_true]
  intro hh
  unfold comesL at hh
  rw [List.all_eq_true] at hh
  have := hh (cs[i], ks[i]) (List.mem_iff_getElem.2 ⟨i, by simp; omega, by simp⟩)
  rw [gi_nat h1, gi_nat h2] at h
  simp at this
  exact h this
theorem comes_ret {p q p' : Nat → Prop} {H : Heap} {row cols ch : AV} {rs cs ks : List Int} (hr : Sl p H row rs) (hc : Sl q H cols cs) (hk : Sl p' H ch ks) (hl : cs.length = ks.length) (hb : ∀ c ∈ cs, 0 ≤ c ∧ c < rs.length) :
    RetP E 101 [row, cols, ch] H (.b (comesL rs cs ks)) := by
  refine RetP.ro rfl fn101 rfl rfl ?_
  unfold f101A
  simp (disch := (first | assumption | omega | (simp only [List.length_append, List.length_cons, List.length_nil]; omega))) only [↓wD,wU,Nat.reduceBEq,zx150,zx151,zx159,zx160,zx161,zx162,Nat.reduceAdd,Nat.reduceSub,Nat.reduceMul,Nat.reduceLeDiff,Nat.reduceLT,Nat.reduceEqDiff,Int.reduceAdd,Int.reduceSub,Int.reduceMul,Int.reduceNeg,Int.reduceLT,Int.reduceLE,Int.reduceEq,Int.reduceToNat,Int.cast_ofNat_Int,↓reduceIte, *, hc.I]
  have hbd := hc.bound
  refine Wp.for cs.length (fun i a H' => H' = H ∧ a 0 = row ∧ a 2 = ch ∧ a 9 = cols ∧ a 10 = .i cs.length ∧ a 11 = .i i ∧ comesL rs (cs.take i) (ks.take i) = true) ?_ ?_
  · rintro i a H' hi ⟨rfl, h0, h2, h9, h10, h11, hh⟩ ih
    simp (disch := (first | assumption | omega | (simp only [List.length_append, List.length_cons, List.length_nil]; omega))) only [↓wD,wU,Nat.reduceBEq,zx150,zx151,zx159,zx160,zx161,zx162,Nat.reduceAdd,Nat.reduceSub,Nat.reduceMul,Nat.reduceLeDiff,Nat.reduceLT,Nat.reduceEqDiff,Int.reduceAdd,Int.reduceSub,Int.reduceMul,Int.reduceNeg,Int.reduceLT,Int.reduceLE,Int.reduceEq,Int.reduceToNat,Int.cast_ofNat_Int,↓reduceIte, *]
    refine condP_split (fun hlt => ?_) (fun hlt => ?_)
    · have hlt' : i < cs.length := by omega
      have hbi := hb (gi cs i) (mem_gi hlt')
      simp (disch := (first | assumption | omega | (simp only [List.length_append, List.length_cons, List.length_nil]; omega))) only [↓wD,wU,Nat.reduceBEq,zx150,zx151,zx159,zx160,zx161,zx162,Nat.reduceAdd,Nat.reduceSub,Nat.reduceMul,Nat.reduceLeDiff,Nat.reduceLT,Nat.reduceEqDiff,Int.reduceAdd,Int.reduceSub,Int.reduceMul,Int.reduceNeg,Int.reduceLT,Int.reduceLE,Int.reduceEq,Int.reduceToNat,Int.cast_ofNat_Int,↓reduceIte, *, hc.I, hr.I, hk.I]
      refine condP_split (fun hne => ?_) (fun hne => ?_)
      · simp (disch := (first | assumption | omega | (simp only [List.length_append, List.length_cons, List.length_nil]; omega))) only [↓wD,wU,Nat.reduceBEq,zx150,zx151,zx159,zx160,zx161,zx162,Nat.reduceAdd,Nat.reduceSub,Nat.reduceMul,Nat.reduceLeDiff,Nat.reduceLT,Nat.reduceEqDiff,Int.reduceAdd,Int.reduceSub,Int.reduceMul,Int.reduceNeg,Int.reduceLT,Int.reduceLE,Int.reduceEq,Int.reduceToNat,Int.cast_ofNat_Int,↓reduceIte, *]
        rw [comesL_f hlt' (by omega) hne]
      · simp (disch := (first | assumption | omega | (simp only [List.length_append, List.length_cons, List.length_nil]; omega))) only [↓wD,wU,Nat.reduceBEq,zx150,zx151,zx159,zx160,zx161,zx162,Nat.reduceAdd,Nat.reduceSub,Nat.reduceMul,Nat.reduceLeDiff,Nat.reduceLT,Nat.reduceEqDiff,Int.reduceAdd,Int.reduceSub,Int.reduceMul,Int.reduceNeg,Int.reduceLT,Int.reduceLE,Int.reduceEq,Int.reduceToNat,Int.cast_ofNat_Int,↓reduceIte, *]
        refine (ih hlt').go ⟨rfl, ?_⟩
        simp (disch := (first | assumption | omega | (simp only [List.length_append, List.length_cons, List.length_nil]; omega))) only [↓wD,wU,Nat.reduceBEq,zx150,zx151,zx159,zx160,zx161,zx162,Nat.reduceAdd,Nat.reduceSub,Nat.reduceMul,Nat.reduceLeDiff,Nat.reduceLT,Nat.reduceEqDiff,Int.reduceAdd,Int.reduceSub,Int.reduceMul,Int.reduceNeg,Int.reduceLT,Int.reduceLE,Int.reduceEq,Int.reduceToNat,Int.cast_ofNat_Int,↓reduceIte, *]
        rw [comesL_succ hlt' (by omega), hh]
        simp; omega
    · simp (disch := (first | assumption | omega | (simp only [List.length_append, List.length_cons, List.length_nil]; omega))) only [↓wD,wU,Nat.reduceBEq,zx150,zx151,zx159,zx160,zx161,zx162,Nat.reduceAdd,Nat.reduceSub,Nat.reduceMul,Nat.reduceLeDiff,Nat.reduceLT,Nat.reduceEqDiff,Int.reduceAdd,Int.reduceSub,Int.reduceMul,Int.reduceNeg,Int.reduceLT,Int.reduceLE,Int.reduceEq,Int.reduceToNat,Int.cast_ofNat_Int,↓reduceIte, *]
      rw [← comesL_all (i := i) (cs := cs) (by omega) (by omega), hh]
  · (simp (disch := (first | assumption | omega | (simp only [List.length_append, List.length_cons, List.length_nil]; omega))) only [↓wD,wU,Nat.reduceBEq,zx150,zx151,zx159,zx160,zx161,zx162,Nat.reduceAdd,Nat.reduceSub,Nat.reduceMul,Nat.reduceLeDiff,Nat.reduceLT,Nat.reduceEqDiff,Int.reduceAdd,Int.reduceSub,Int.reduceMul,Int.reduceNeg,Int.reduceLT,Int.reduceLE,Int.reduceEq,Int.reduceToNat,Int.cast_ofNat_Int,↓reduceIte, *]) <;> simp [comesL]
/-- in how many rows they come -/
def oft (t : List (List Int)) (cs ks : List Int) : Nat := t.countP fun r => comesL r cs ks
theorem oft_succ {t : List (List Int)} {cs ks : List Int} {i : Nat} (h : i < t.length) : oft (t.take (i + 1)) cs ks = oft (t.take i) cs ks + if comesL (gi t i) cs ks = true then 1 else 0 := by
  unfold oft
  rw [take_gi h, List.countP_append]
  simp [List.countP_cons]
theorem oft_le {t : List (List Int)} {cs ks : List Int} : oft t cs ks ≤ t.length := List.countP_le_length
theorem often_ret {p q p' : Nat → Prop} {H : Heap} {rows cols ch : AV} {v : Int} {t : List (List Int)} {cs ks : List Int} (ht : Sl p H rows t) (hc : Sl q H cols cs) (hk : Sl p' H ch ks) (hl : cs.length = ks.length) (hb : ∀ c ∈ cs, 0 ≤ c ∧ ∀ r ∈ t, c < r.length) :
    RetP E 104 [.ag [.i v, rows], cols, ch] H (.i (oft t cs ks)) := by
  refine RetP.ro rfl fn104 rfl rfl ?_
  unfold f104A
  have hbd := ht.bound
  simp (disch := (first | assumption | omega | (simp only [List.length_append, List.length_cons, List.length_nil]; omega))) only [↓wD,wU,Nat.reduceBEq,zx150,zx151,zx159,zx160,zx161,zx162,Nat.reduceAdd,Nat.reduceSub,Nat.reduceMul,Nat.reduceLeDiff,Nat.reduceLT,Nat.reduceEqDiff,Int.reduceAdd,Int.reduceSub,Int.reduceMul,Int.reduceNeg,Int.reduceLT,Int.reduceLE,Int.reduceEq,Int.reduceToNat,Int.cast_ofNat_Int,↓reduceIte, *, ht.L]
  have k1 := ht.app [.cells [.i v, rows]]
  have kc := hc.app [.cells [.i v, rows]]
  have kk := hk.app [.cells [.i v, rows]]
  refine Wp.for t.length (fun i a H' => H' = H ++ [.cells [.i v, rows]] ∧ a 1 = cols ∧ a 2 = ch ∧ a 11 = rows ∧ a 12 = .i t.length ∧ a 13 = .i i ∧ a 7 = .i (oft (t.take i) cs ks)) ?_ ?_
  · rintro i a H' hi ⟨rfl, a1, a2, a11, a12, a13, a7⟩ ih
    have hle := oft_le (t := t.take i) (cs := cs) (ks := ks)
    rw [List.length_take] at hle
    simp (disch := (first | assumption | omega | (simp only [List.length_append, List.length_cons, List.length_nil]; omega))) only [↓wD,wU,Nat.reduceBEq,zx150,zx151,zx159,zx160,zx161,zx162,Nat.reduceAdd,Nat.reduceSub,Nat.reduceMul,Nat.reduceLeDiff,Nat.reduceLT,Nat.reduceEqDiff,Int.reduceAdd,Int.reduceSub,Int.reduceMul,Int.reduceNeg,Int.reduceLT,Int.reduceLE,Int.reduceEq,Int.reduceToNat,Int.cast_ofNat_Int,↓reduceIte, *]
    refine condP_split (fun hlt => ?_) (fun hlt => ?_)
    · have hi' : i < t.length := by omega
      have g := k1.get (k := (i : Int)) (by omega) (by omega)
      have hs := oft_succ (cs := cs) (ks := ks) hi'
      simp (disch := (first | assumption | omega | (simp only [List.length_append, List.length_cons, List.length_nil]; omega))) only [↓wD,wU,Nat.reduceBEq,zx150,zx151,zx159,zx160,zx161,zx162,Nat.reduceAdd,Nat.reduceSub,Nat.reduceMul,Nat.reduceLeDiff,Nat.reduceLT,Nat.reduceEqDiff,Int.reduceAdd,Int.reduceSub,Int.reduceMul,Int.reduceNeg,Int.reduceLT,Int.reduceLE,Int.reduceEq,Int.reduceToNat,Int.cast_ofNat_Int,↓reduceIte, *, k1.L, (comes_ret g kc kk hl fun c hc => ⟨(hb c hc).1, by have := (hb c hc).2 _ (mem_gi hi'); omega⟩).call]
      refine condP_bool (fun hne => ?_) (fun hne => ?_)
      · rw [if_pos hne] at hs
        clear hne
        simp (disch := (first | assumption | omega | (simp only [List.length_append, List.length_cons, List.length_nil]; omega))) only [↓wD,wU,Nat.reduceBEq,zx150,zx151,zx159,zx160,zx161,zx162,Nat.reduceAdd,Nat.reduceSub,Nat.reduceMul,Nat.reduceLeDiff,Nat.reduceLT,Nat.reduceEqDiff,Int.reduceAdd,Int.reduceSub,Int.reduceMul,Int.reduceNeg,Int.reduceLT,Int.reduceLE,Int.reduceEq,Int.reduceToNat,Int.cast_ofNat_Int,↓reduceIte, *]
        refine (ih hi').go ⟨rfl, ?_⟩
        simp (disch := (first | assumption | omega | (simp only [List.length_append, List.length_cons, List.length_nil]; omega))) only [↓wD,wU,Nat.reduceBEq,zx150,zx151,zx159,zx160,zx161,zx162,Nat.reduceAdd,Nat.reduceSub,Nat.reduceMul,Nat.reduceLeDiff,Nat.reduceLT,Nat.reduceEqDiff,Int.reduceAdd,Int.reduceSub,Int.reduceMul,Int.reduceNeg,Int.reduceLT,Int.reduceLE,Int.reduceEq,Int.reduceToNat,Int.cast_ofNat_Int,↓reduceIte, *]
      · rw [if_neg (by simp [hne])] at hs
        clear hne
        simp (disch := (first | assumption | omega | (simp only [List.length_append, List.length_cons, List.length_nil]; omega))) only [↓wD,wU,Nat.reduceBEq,zx150,zx151,zx159,zx160,zx161,zx162,Nat.reduceAdd,Nat.reduceSub,Nat.reduceMul,Nat.reduceLeDiff,Nat.reduceLT,Nat.reduceEqDiff,Int.reduceAdd,Int.reduceSub,Int.reduceMul,Int.reduceNeg,Int.reduceLT,Int.reduceLE,Int.reduceEq,Int.reduceToNat,Int.cast_ofNat_Int,↓reduceIte, *]
        refine (ih hi').go ⟨rfl, ?_⟩
        simp (disch := (first | assumption | omega | (simp only [List.length_append, List.length_cons, List.length_nil]; omega))) only [↓wD,wU,Nat.reduceBEq,zx150,zx151,zx159,zx160,zx161,zx162,Nat.reduceAdd,Nat.reduceSub,Nat.reduceMul,Nat.reduceLeDiff,Nat.reduceLT,Nat.reduceEqDiff,Int.reduceAdd,Int.reduceSub,Int.reduceMul,Int.reduceNeg,Int.reduceLT,Int.reduceLE,Int.reduceEq,Int.reduceToNat,Int.cast_ofNat_Int,↓reduceIte, *]
    · simp (disch := (first | assumption | omega | (simp only [List.length_append, List.length_cons, List.length_nil]; omega))) only [↓wD,wU,Nat.reduceBEq,zx150,zx151,zx159,zx160,zx161,zx162,Nat.reduceAdd,Nat.reduceSub,Nat.reduceMul,Nat.reduceLeDiff,Nat.reduceLT,Nat.reduceEqDiff,Int.reduceAdd,Int.reduceSub,Int.reduceMul,Int.reduceNeg,Int.reduceLT,Int.reduceLE,Int.reduceEq,Int.reduceToNat,Int.cast_ofNat_Int,↓reduceIte, *]
      rw [List.take_of_length_le (by omega)]
  · (simp (disch := (first | assumption | omega | (simp only [List.length_append, List.length_cons, List.length_nil]; omega))) only [↓wD,wU,Nat.reduceBEq,zx150,zx151,zx159,zx160,zx161,zx162,Nat.reduceAdd,Nat.reduceSub,Nat.reduceMul,Nat.reduceLeDiff,Nat.reduceLT,Nat.reduceEqDiff,Int.reduceAdd,Int.reduceSub,Int.reduceMul,Int.reduceNeg,Int.reduceLT,Int.reduceLE,Int.reduceEq,Int.reduceToNat,Int.cast_ofNat_Int,↓reduceIte, *]) <;> simp [oft]
end Go.Proofs.Ytalaadcbpjnglaa
namespace Go.Proofs.Ytalaadcbpjnglaa
open Go Go.AM Go.Proofs
theorem Acc_empty {α : Type} [Rep α] {L : Nat} {p q : Nat → Prop} {H : Heap} {v : AV} (h : Sl p H v ([] : List α)) (hp : ∀ b, p b → L ≤ b) : Acc L q H v ([] : List α) := by
  rcases h with h | ⟨b, o, c, k, e, hb, hk, h1, h2, h3⟩
  · exact .inl h
  · exact .inr ⟨b, o, c, k, e, hp _ hb, hk, h1, h2, fun i hi => by simp at hi⟩
theorem grow0_ret {H : Heap} {n : Int} (h0 : 0 ≤ n) (h1 : n ≤ 1000000) : Ret E 106 [.nils, .i n] (fun _ => False) H ([] : List Int) := by
  refine Ret.ro rfl fn106 rfl ?_
  unfold f106A
  have hc : zx162 .nils = some (.i 0) := rfl
  by_cases hn : 0 < n
  · have hmb : mostBytes = 1099511627776 := by decide
    have hs : slV 1 .nils none (some (.i 0)) none = some .nils := rfl
    have ha : appendzV H.length 1 8 [.int .i64 0] .nils (.i n) H = some (.s 1 H.length 0 n.toNat none, H ++ [.cells (reps n.toNat [.int .i64 0])]) := by
      simp only [appendzV]
      rw [if_pos ⟨h0, by omega, by rw [hmb]; omega, rfl⟩]
      simp only [appendA]
      rw [if_neg (by omega), if_pos (by rw [hmb]; omega)]
    have hs2 : slV 1 (.s 1 H.length 0 n.toNat none) none (some (.i 0)) none = some (.s 1 H.length 0 0 none) := by
      simp [slV, Go.AM.lenA, boundV, sliceA, show 0 ≤ max n 0 by omega]
    simp (disch := (first | assumption | omega | (simp only [List.length_append, List.length_cons, List.length_nil]; omega))) only [↓wD,wU,Nat.reduceBEq,zx150,zx151,zx159,zx160,zx161,zx162,Nat.reduceAdd,Nat.reduceSub,Nat.reduceMul,Nat.reduceLeDiff,Nat.reduceLT,Nat.reduceEqDiff,Int.reduceAdd,Int.reduceSub,Int.reduceMul,Int.reduceNeg,Int.reduceLT,Int.reduceLE,Int.reduceEq,Int.reduceToNat,Int.cast_ofNat_Int,↓reduceIte, *, hc, hs, Int.sub_zero, ha, hs2]
    exact .inr ⟨H.length, 0, none, reps n.toNat [.int .i64 0], rfl, by simp, by simp, by simp, by simp, fun i hi => by simp at hi⟩
  · simp (disch := (first | assumption | omega | (simp only [List.length_append, List.length_cons, List.length_nil]; omega))) only [↓wD,wU,Nat.reduceBEq,zx150,zx151,zx159,zx160,zx161,zx162,Nat.reduceAdd,Nat.reduceSub,Nat.reduceMul,Nat.reduceLeDiff,Nat.reduceLT,Nat.reduceEqDiff,Int.reduceAdd,Int.reduceSub,Int.reduceMul,Int.reduceNeg,Int.reduceLT,Int.reduceLE,Int.reduceEq,Int.reduceToNat,Int.cast_ofNat_Int,↓reduceIte, *, hc]
    exact Sl.nil
def lsum (ls : List (List Int)) : Nat := (ls.map List.length).sum
theorem lsum_take {ls : List (List Int)} {i : Nat} (h : i < ls.length) : lsum (ls.take (i + 1)) = lsum (ls.take i) + (gi ls i).length := by
  unfold lsum; rw [take_gi h]; simp [List.sum_append]
theorem lsum_le {ls : List (List Int)} {i : Nat} : lsum (ls.take i) ≤ lsum ls := by
  have e : lsum ls = lsum (ls.take i) + lsum (ls.drop i) := by
    conv => lhs; rw [← List.take_append_drop i ls]
    unfold lsum; rw [List.map_append, List.sum_append]
  omega
theorem len_flatten (ls : List (List Int)) : ls.flatten.length = lsum ls := by simp [lsum, List.length_flatten]
theorem concat_ret {p : Nat → Prop} {H : Heap} {v : AV} {ls : List (List Int)} (hl : Sl p H v ls) (hs : lsum ls ≤ 1000000) : Ret E 103 [v] (fun _ => False) H ls.flatten := by
  refine Ret.ro rfl fn103 rfl ?_
  unfold f103A
  have hb := hl.bound
  simp (disch := (first | assumption | omega | (simp only [List.length_append, List.length_cons, List.length_nil]; omega))) only [↓wD,wU,Nat.reduceBEq,zx150,zx151,zx159,zx160,zx161,zx162,Nat.reduceAdd,Nat.reduceSub,Nat.reduceMul,Nat.reduceLeDiff,Nat.reduceLT,Nat.reduceEqDiff,Int.reduceAdd,Int.reduceSub,Int.reduceMul,Int.reduceNeg,Int.reduceLT,Int.reduceLE,Int.reduceEq,Int.reduceToNat,Int.cast_ofNat_Int,↓reduceIte, *, hl.L]
  refine Wp.for ls.length (fun i a H' => H' = H ∧ a 0 = v ∧ a 9 = v ∧ a 10 = .i ls.length ∧ a 11 = .i i ∧ a 3 = .i (lsum (ls.take i))) ?_ ?_
  · rintro i a H' hi ⟨rfl, a0, a9, a10, a11, a3⟩ ih
    have hle := lsum_le (ls := ls) (i := i)
    simp (disch := (first | assumption | omega | (simp only [List.length_append, List.length_cons, List.length_nil]; omega))) only [↓wD,wU,Nat.reduceBEq,zx150,zx151,zx159,zx160,zx161,zx162,Nat.reduceAdd,Nat.reduceSub,Nat.reduceMul,Nat.reduceLeDiff,Nat.reduceLT,Nat.reduceEqDiff,Int.reduceAdd,Int.reduceSub,Int.reduceMul,Int.reduceNeg,Int.reduceLT,Int.reduceLE,Int.reduceEq,Int.reduceToNat,Int.cast_ofNat_Int,↓reduceIte, *]
    refine condP_split (fun hlt => ?_) (fun hlt => ?_)
    · have hi' : i < ls.length := by omega
      have g := hl.get (k := (i : Int)) (by omega) (by omega)
      have e := lsum_take hi'
      have hle2 := lsum_le (ls := ls) (i := i + 1)
      simp (disch := (first | assumption | omega | (simp only [List.length_append, List.length_cons, List.length_nil]; omega))) only [↓wD,wU,Nat.reduceBEq,zx150,zx151,zx159,zx160,zx161,zx162,Nat.reduceAdd,Nat.reduceSub,Nat.reduceMul,Nat.reduceLeDiff,Nat.reduceLT,Nat.reduceEqDiff,Int.reduceAdd,Int.reduceSub,Int.reduceMul,Int.reduceNeg,Int.reduceLT,Int.reduceLE,Int.reduceEq,Int.reduceToNat,Int.cast_ofNat_Int,↓reduceIte, *, hl.L, g.I]
      refine (ih hi').go ⟨rfl, ?_⟩
      simp (disch := (first | assumption | omega | (simp only [List.length_append, List.length_cons, List.length_nil]; omega))) only [↓wD,wU,Nat.reduceBEq,zx150,zx151,zx159,zx160,zx161,zx162,Nat.reduceAdd,Nat.reduceSub,Nat.reduceMul,Nat.reduceLeDiff,Nat.reduceLT,Nat.reduceEqDiff,Int.reduceAdd,Int.reduceSub,Int.reduceMul,Int.reduceNeg,Int.reduceLT,Int.reduceLE,Int.reduceEq,Int.reduceToNat,Int.cast_ofNat_Int,↓reduceIte, *]
    · obtain rfl : i = ls.length := by omega
      have e : ls.take ls.length = ls := List.take_length
      rw [e] at a3
      clear hlt hi ih
      simp (disch := (first | assumption | omega | (simp only [List.length_append, List.length_cons, List.length_nil]; omega))) only [↓wD,wU,Nat.reduceBEq,zx150,zx151,zx159,zx160,zx161,zx162,Nat.reduceAdd,Nat.reduceSub,Nat.reduceMul,Nat.reduceLeDiff,Nat.reduceLT,Nat.reduceEqDiff,Int.reduceAdd,Int.reduceSub,Int.reduceMul,Int.reduceNeg,Int.reduceLT,Int.reduceLE,Int.reduceEq,Int.reduceToNat,Int.cast_ofNat_Int,↓reduceIte, *]
      refine (grow0_ret (by omega) (by omega)).toF fun u H2 hg hu => ?_
      have hl2 := (hl.low.weak fun _ h => h.2).gr hg
      simp (disch := (first | assumption | omega | (simp only [List.length_append, List.length_cons, List.length_nil]; omega))) only [↓wD,wU,Nat.reduceBEq,zx150,zx151,zx159,zx160,zx161,zx162,Nat.reduceAdd,Nat.reduceSub,Nat.reduceMul,Nat.reduceLeDiff,Nat.reduceLT,Nat.reduceEqDiff,Int.reduceAdd,Int.reduceSub,Int.reduceMul,Int.reduceNeg,Int.reduceLT,Int.reduceLE,Int.reduceEq,Int.reduceToNat,Int.cast_ofNat_Int,↓reduceIte, *, hl.L, hl2.L]
      have ha0 : Acc H'.length (fun _ => True) H2 u ([] : List Int) := Acc_empty hu fun _ h => h
      refine Wp.for ls.length (fun i a H1 => ∃ u, a 6 = u ∧ a 25 = v ∧ a 26 = .i ls.length ∧ a 27 = .i i ∧ Gr H' H1 ∧ Acc H'.length (fun _ => True) H1 u (ls.take i).flatten) ?_ ?_
      · clear ha0 hu a0 a9 a10 a11 a3
        rintro i a H1 hi ⟨u, a6, a25, a26, a27, hg1, hu⟩ ih
        simp (disch := (first | assumption | omega | (simp only [List.length_append, List.length_cons, List.length_nil]; omega))) only [↓wD,wU,Nat.reduceBEq,zx150,zx151,zx159,zx160,zx161,zx162,Nat.reduceAdd,Nat.reduceSub,Nat.reduceMul,Nat.reduceLeDiff,Nat.reduceLT,Nat.reduceEqDiff,Int.reduceAdd,Int.reduceSub,Int.reduceMul,Int.reduceNeg,Int.reduceLT,Int.reduceLE,Int.reduceEq,Int.reduceToNat,Int.cast_ofNat_Int,↓reduceIte, *]
        refine condP_split (fun hlt => ?_) (fun hlt => ?_)
        · have hi' : i < ls.length := by omega
          have hl1 := (hl.low.weak fun _ h => h.2).gr hg1
          have g := hl1.get (k := (i : Int)) (by omega) (by omega)
          simp (disch := (first | assumption | omega | (simp only [List.length_append, List.length_cons, List.length_nil]; omega))) only [↓wD,wU,Nat.reduceBEq,zx150,zx151,zx159,zx160,zx161,zx162,Nat.reduceAdd,Nat.reduceSub,Nat.reduceMul,Nat.reduceLeDiff,Nat.reduceLT,Nat.reduceEqDiff,Int.reduceAdd,Int.reduceSub,Int.reduceMul,Int.reduceNeg,Int.reduceLT,Int.reduceLE,Int.reduceEq,Int.reduceToNat,Int.cast_ofNat_Int,↓reduceIte, *, hl1.L, g.I]
          refine hu.extend (Nat.le_refl _) (by have := hg1.1; omega) g (fun b hb => ⟨trivial, fun e => by have := hu.blk_lt e; omega⟩) ?_ (by omega) fun u' H3 hu' hk => ?_
          · have e := lsum_take hi'
            have hle2 := lsum_le (ls := ls) (i := i + 1)
            rw [len_flatten, ← e]; omega
          · simp (disch := (first | assumption | omega | (simp only [List.length_append, List.length_cons, List.length_nil]; omega))) only [↓wD,wU,Nat.reduceBEq,zx150,zx151,zx159,zx160,zx161,zx162,Nat.reduceAdd,Nat.reduceSub,Nat.reduceMul,Nat.reduceLeDiff,Nat.reduceLT,Nat.reduceEqDiff,Int.reduceAdd,Int.reduceSub,Int.reduceMul,Int.reduceNeg,Int.reduceLT,Int.reduceLE,Int.reduceEq,Int.reduceToNat,Int.cast_ofNat_Int,↓reduceIte, *]
            refine (ih hi').go ⟨u', ?_⟩
            simp (disch := (first | assumption | omega | (simp only [List.length_append, List.length_cons, List.length_nil]; omega))) only [↓wD,wU,Nat.reduceBEq,zx150,zx151,zx159,zx160,zx161,zx162,Nat.reduceAdd,Nat.reduceSub,Nat.reduceMul,Nat.reduceLeDiff,Nat.reduceLT,Nat.reduceEqDiff,Int.reduceAdd,Int.reduceSub,Int.reduceMul,Int.reduceNeg,Int.reduceLT,Int.reduceLE,Int.reduceEq,Int.reduceToNat,Int.cast_ofNat_Int,↓reduceIte, *]
            refine ⟨hg1.push hu (Nat.le_refl _) hk, ?_⟩
            rw [take_gi hi', List.flatten_append]
            simpa using hu'
        · obtain rfl : i = ls.length := by omega
          simp (disch := (first | assumption | omega | (simp only [List.length_append, List.length_cons, List.length_nil]; omega))) only [↓wD,wU,Nat.reduceBEq,zx150,zx151,zx159,zx160,zx161,zx162,Nat.reduceAdd,Nat.reduceSub,Nat.reduceMul,Nat.reduceLeDiff,Nat.reduceLT,Nat.reduceEqDiff,Int.reduceAdd,Int.reduceSub,Int.reduceMul,Int.reduceNeg,Int.reduceLT,Int.reduceLE,Int.reduceEq,Int.reduceToNat,Int.cast_ofNat_Int,↓reduceIte, *]
          rw [e] at hu
          rcases hu with h | ⟨b, o, c, k, e, hb, hk, h1, h2, h3⟩
          · exact .inl h
          · exact .inr ⟨b, o, c, k, e, .inr hb, hk, h1, h2, h3⟩
      · simp (disch := (first | assumption | omega | (simp only [List.length_append, List.length_cons, List.length_nil]; omega))) only [↓wD,wU,Nat.reduceBEq,zx150,zx151,zx159,zx160,zx161,zx162,Nat.reduceAdd,Nat.reduceSub,Nat.reduceMul,Nat.reduceLeDiff,Nat.reduceLT,Nat.reduceEqDiff,Int.reduceAdd,Int.reduceSub,Int.reduceMul,Int.reduceNeg,Int.reduceLT,Int.reduceLE,Int.reduceEq,Int.reduceToNat,Int.cast_ofNat_Int,↓reduceIte, *]
        exact ⟨u, rfl, by first | exact ha0 | exact ⟨hg, ha0⟩⟩
  · (simp (disch := (first | assumption | omega | (simp only [List.length_append, List.length_cons, List.length_nil]; omega))) only [↓wD,wU,Nat.reduceBEq,zx150,zx151,zx159,zx160,zx161,zx162,Nat.reduceAdd,Nat.reduceSub,Nat.reduceMul,Nat.reduceLeDiff,Nat.reduceLT,Nat.reduceEqDiff,Int.reduceAdd,Int.reduceSub,Int.reduceMul,Int.reduceNeg,Int.reduceLT,Int.reduceLE,Int.reduceEq,Int.reduceToNat,Int.cast_ofNat_Int,↓reduceIte, *]) <;> simp [lsum]
end Go.Proofs.Ytalaadcbpjnglaa
namespace Go.Proofs.Ytalaadcbpjnglaa
open Go Go.AM Go.Proofs
def rng (x n : Int) : List Int := (List.range (n - x).toNat).map fun i : Nat => x + (i : Int)
def sufs (r : Bool) (n : Int) : Nat → Int → List (List Int)
  | 0, _ => [[]]
  | t + 1, x => (rng x n).flatMap fun y => (sufs r n t (if r = true then y + 1 else 0)).map (y :: ·)
def frm (r : Bool) (l : List Int) : Int := if r = true ∧ 0 < l.length then gi l ((l.length : Int) - 1) + 1 else 0
theorem gi_last {l : List Int} {x : Int} : gi (l ++ [x]) (((l ++ [x]).length : Int) - 1) = x := by
  have e : (((l ++ [x]).length : Int) - 1) = ((l.length : Nat) : Int) := by simp
  rw [e, gi_nat (by simp)]; simp
theorem frm_app (r : Bool) (l : List Int) (x : Int) : frm r (l ++ [x]) = if r = true then x + 1 else 0 := by
  unfold frm
  rw [gi_last]
  cases r <;> simp
theorem rng_cons {x n : Int} (h : x < n) : rng x n = x :: rng (x + 1) n := by
  unfold rng
  have e : (n - x).toNat = (n - (x + 1)).toNat + 1 := by omega
  rw [e, List.range_succ_eq_map]
  simp only [List.map_cons, List.map_map]
  congr 1
  · simp
  · apply List.map_congr_left
    intro i _
    simp; omega
theorem rng_nil {x n : Int} (h : n ≤ x) : rng x n = [] := by
  unfold rng
  have e : (n - x).toNat = 0 := by omega
  rw [e]; rfl
/-- the items behind l, from x on -/
def rest (r : Bool) (n : Int) (t : Nat) (l : List Int) (x : Int) : List (List Int) := (rng x n).flatMap fun y => (sufs r n t (frm r (l ++ [y]))).map ((l ++ [y]) ++ ·)
theorem sufs_rest (r : Bool) (n : Int) (t : Nat) (l : List Int) : (sufs r n (t + 1) (frm r l)).map (l ++ ·) = rest r n t l (frm r l) := by
  simp only [sufs, rest, List.map_flatMap, List.map_map, frm_app]
  congr 1
  funext y
  apply List.map_congr_left
  intro s _
  simp
theorem rest_cons {r : Bool} {n : Int} {t : Nat} {l : List Int} {x : Int} (h : x < n) : rest r n t l x = (sufs r n t (frm r (l ++ [x]))).map ((l ++ [x]) ++ ·) ++ rest r n t l (x + 1) := by
  unfold rest; rw [rng_cons h]; rfl
theorem rest_nil {r : Bool} {n : Int} {t : Nat} {l : List Int} {x : Int} (h : n ≤ x) : rest r n t l x = [] := by
  unfold rest; rw [rng_nil h]; rfl
/-- what grow reads: its variables -/
structure Vars (K : Nat → Prop) (H : Heap) (y : AV) (r : Bool) (n t : Int) (bt bY br bn bg : Nat) : Prop where
  t : H[bt]? = some (.cells [.i t]) ∧ ¬ K bt
  y : H[bY]? = some (.cells [y]) ∧ ¬ K bY
  r : H[br]? = some (.cells [.b r]) ∧ ¬ K br
  n : H[bn]? = some (.cells [.i n]) ∧ ¬ K bn
  g : H[bg]? = some (.cells [.fn 97 [] [.p bt 0, .p bY 0, .p br 0, .p bn 0, .p bg 0]]) ∧ ¬ K bg
theorem Vars.mono {K K' : Nat → Prop} {H H' : Heap} {y : AV} {r : Bool} {n t : Int} {bt bY br bn bg : Nat} (h : Vars K H y r n t bt bY br bn bg) (hk : Kx (fun b => ¬ K b) H H') (hK : ∀ b, b < H.length → K' b → K b) : Vars K' H' y r n t bt bY br bn bg :=
  ⟨⟨hk.get h.t.2 h.t.1, fun q => h.t.2 (hK _ (List.getElem?_eq_some_iff.1 h.t.1).1 q)⟩, ⟨hk.get h.y.2 h.y.1, fun q => h.y.2 (hK _ (List.getElem?_eq_some_iff.1 h.y.1).1 q)⟩, ⟨hk.get h.r.2 h.r.1, fun q => h.r.2 (hK _ (List.getElem?_eq_some_iff.1 h.r.1).1 q)⟩, ⟨hk.get h.n.2 h.n.1, fun q => h.n.2 (hK _ (List.getElem?_eq_some_iff.1 h.n.1).1 q)⟩, ⟨hk.get h.g.2 h.g.1, fun q => h.g.2 (hK _ (List.getElem?_eq_some_iff.1 h.g.1).1 q)⟩⟩
theorem grow_ok {lo B : Nat} {y : AV} {r : Bool} {n : Int} {t : Nat} {bt bY br bn bg : Nat} (hlo : lo ≤ B) (ht : t ≤ 1000000) (hn : n ≤ 1000000) :
    ∀ (m : Nat) (l : List Int) (v : AV) (K : Nat → Prop) (H : Heap) (Q : Bool → (Nat → Prop) → Heap → Prop), l.length + m = t → (∀ x ∈ l, 0 ≤ x ∧ x < n) → Vars K H y r n t bt bY br bn bg → Sl (fun b => B ≤ b ∧ ¬ K b) H v l → (∀ b, K b → b < H.length) → B ≤ H.length →
      Its E lo y B ArgI Q ((sufs r n m (frm r l)).map (l ++ ·)) K H →
      WpF E lo 97 [v, .p bt 0, .p bY 0, .p br 0, .p bn 0, .p bg 0] H fun u H' => ∃ ok K', u = .b ok ∧ Q ok K' H' ∧ Kx (fun b => ¬ K b ∧ v.blk ≠ some b) H H' ∧ ∀ b, K' b → b < H'.length ∧ (b < H.length → K b ∨ v.blk = some b) := by
  intro m
  induction m with
  | zero =>
    intro l v K H Q hl hb hv hs hK hB hI
    refine WpF.wrt rfl fn97 rfl ?_
    unfold f97A
    have e : (l.length : Int) = t := by omega
    simp (disch := (first | assumption | omega | (simp only [List.length_append, List.length_cons, List.length_nil]; omega))) only [↓wD,wU,Nat.reduceBEq,zx150,zx151,zx159,zx160,zx161,zx162,Nat.reduceAdd,Nat.reduceSub,Nat.reduceMul,Nat.reduceLeDiff,Nat.reduceLT,Nat.reduceEqDiff,Int.reduceAdd,Int.reduceSub,Int.reduceMul,Int.reduceNeg,Int.reduceLT,Int.reduceLE,Int.reduceEq,Int.reduceToNat,Int.cast_ofNat_Int,↓reduceIte, *, hs.I, ld_of hv.t.1, ld_of hv.y.1]
    refine callvI ((hI H (fun b => v.blk = some b) [v] (Kx.refl _ _) ⟨v, rfl, ?_⟩ ?_).mono ?_)
    · simp only [List.append_nil]; exact hs.own
    · exact fun b e => ⟨(hs.blkp e).1.1, (hs.blkp e).2, (hs.blkp e).1.2⟩
    · rintro u H2 ⟨hx, hc⟩
      rcases hc with ⟨rfl, hc⟩ | ⟨rfl, hc⟩
      · simp (disch := (first | assumption | omega | (simp only [List.length_append, List.length_cons, List.length_nil]; omega))) only [↓wD,wU,Nat.reduceBEq,zx150,zx151,zx159,zx160,zx161,zx162,Nat.reduceAdd,Nat.reduceSub,Nat.reduceMul,Nat.reduceLeDiff,Nat.reduceLT,Nat.reduceEqDiff,Int.reduceAdd,Int.reduceSub,Int.reduceMul,Int.reduceNeg,Int.reduceLT,Int.reduceLE,Int.reduceEq,Int.reduceToNat,Int.cast_ofNat_Int,↓reduceIte, *]
        refine ⟨true, _, rfl, Its.none hc, hx.weak fun b _ h q => q.elim h.1 h.2, ?_⟩
        rintro b (h | h | h)
        · exact ⟨by have := hK b h; have := hx.1; omega, fun _ => .inl h⟩
        · exact ⟨by have := (hs.blkp h).2; have := hx.1; omega, fun _ => .inr h⟩
        · exact ⟨h.2, fun q => by omega⟩
      · simp (disch := (first | assumption | omega | (simp only [List.length_append, List.length_cons, List.length_nil]; omega))) only [↓wD,wU,Nat.reduceBEq,zx150,zx151,zx159,zx160,zx161,zx162,Nat.reduceAdd,Nat.reduceSub,Nat.reduceMul,Nat.reduceLeDiff,Nat.reduceLT,Nat.reduceEqDiff,Int.reduceAdd,Int.reduceSub,Int.reduceMul,Int.reduceNeg,Int.reduceLT,Int.reduceLE,Int.reduceEq,Int.reduceToNat,Int.cast_ofNat_Int,↓reduceIte, *]
        refine ⟨false, _, rfl, hc _ (Kx.refl _ _), hx.weak fun b _ h q => q.elim h.1 h.2, ?_⟩
        rintro b (h | h | h)
        · exact ⟨by have := hK b h; have := hx.1; omega, fun _ => .inl h⟩
        · exact ⟨by have := (hs.blkp h).2; have := hx.1; omega, fun _ => .inr h⟩
        · exact ⟨h.2, fun q => by omega⟩
  | succ m ihm =>
    intro l v K H Q hl hb hv hs hK hB hI
    refine WpF.wrt rfl fn97 rfl ?_
    unfold f97A
    have e : ¬ (l.length : Int) = t := by omega
    rw [sufs_rest] at hI
    obtain ⟨x0, hx0⟩ : ∃ x0, frm r l = x0 := ⟨_, rfl⟩
    rw [hx0] at hI
    have hg : 0 ≤ x0 ∧ x0 ≤ 1000000 ∧ ((r = false ∧ x0 ≤ 0) ∨ (r = true ∧ l.length ≤ 0 ∧ x0 ≤ 0) ∨ (r = true ∧ 0 < l.length ∧ 0 ≤ gi l ((l.length : Int) - 1) ∧ gi l ((l.length : Int) - 1) < n ∧ x0 ≤ gi l ((l.length : Int) - 1) + 1 ∧ gi l ((l.length : Int) - 1) + 1 ≤ x0)) := by
      subst hx0
      cases r
      · simp [frm]
      · by_cases h0 : l.length = 0
        · simp [frm, h0]
        · have := hb _ (gi_mem (xs := l) (k := (l.length : Int) - 1) (by omega) (by omega))
          have e : frm true l = gi l ((l.length : Int) - 1) + 1 := by unfold frm; rw [if_pos ⟨rfl, by omega⟩]
          rw [e]
          exact ⟨by omega, by omega, .inr (.inr ⟨rfl, by omega, this.1, this.2, Int.le_refl _, Int.le_refl _⟩)⟩
    clear hx0
    have hln := hs.bound
    obtain ⟨f1, f2, hg⟩ := hg
    rcases hg with ⟨hr, g1⟩ | ⟨hr, g1, g2⟩ | ⟨hr, g1, g2, g3, g4, g5⟩
    all_goals simp (disch := (first | assumption | omega | (simp only [List.length_append, List.length_cons, List.length_nil]; omega))) only [↓wD,wU,Nat.reduceBEq,zx150,zx151,zx159,zx160,zx161,zx162,Nat.reduceAdd,Nat.reduceSub,Nat.reduceMul,Nat.reduceLeDiff,Nat.reduceLT,Nat.reduceEqDiff,Int.reduceAdd,Int.reduceSub,Int.reduceMul,Int.reduceNeg,Int.reduceLT,Int.reduceLE,Int.reduceEq,Int.reduceToNat,Int.cast_ofNat_Int,↓reduceIte, *, hs.I, ld_of hv.t.1, ld_of hv.y.1, ld_of hv.r.1]
    all_goals clear hr
    all_goals
      refine Wp.for (n - x0).toNat (fun i a H1 => a 0 = v ∧ a 1 = .p bt 0 ∧ a 2 = .p bY 0 ∧ a 3 = .p br 0 ∧ a 4 = .p bn 0 ∧ a 5 = .p bg 0 ∧ (∃ x, a 9 = .i x ∧ x ≤ x0 + i ∧ x0 + i ≤ x) ∧ ∃ K1, Its E lo y B ArgI Q (rest r n m l (x0 + i)) K1 H1 ∧ Kx (fun b => ¬ K b) H H1 ∧ ∀ b, K1 b → b < H1.length ∧ (b < H.length → K b)) ?_ ?_
      · rintro i a H1 hi ⟨a0, a1, a2, a3, a4, a5, ⟨x, a9, hxa, hxb⟩, K1, hI1, hx1, hK1⟩ ih
        rw [Int.le_antisymm hxb hxa] at hI1
        have hv1 := hv.mono hx1 fun b h q => (hK1 b q).2 h
        have hs1 : Sl (fun b => B ≤ b ∧ ¬ K1 b) H1 v l := (hs.low.mono (hx1.weak fun b _ h => h.1.2).kp fun b h => ⟨h.1.1, fun q => h.1.2 ((hK1 b q).2 h.2)⟩)
        simp (disch := (first | assumption | omega | (simp only [List.length_append, List.length_cons, List.length_nil]; omega))) only [↓wD,wU,Nat.reduceBEq,zx150,zx151,zx159,zx160,zx161,zx162,Nat.reduceAdd,Nat.reduceSub,Nat.reduceMul,Nat.reduceLeDiff,Nat.reduceLT,Nat.reduceEqDiff,Int.reduceAdd,Int.reduceSub,Int.reduceMul,Int.reduceNeg,Int.reduceLT,Int.reduceLE,Int.reduceEq,Int.reduceToNat,Int.cast_ofNat_Int,↓reduceIte, *, ld_of hv1.n.1]
        refine condP_split (fun hlt => ?_) (fun hlt => ?_)
        · have hi' : i < (n - x0).toNat := by omega
          obtain ⟨u, hu1, hu2⟩ := hs1.clip (by omega)
          rw [rest_cons hlt] at hI1
          have hI2 := Its.append hI1
          simp (disch := (first | assumption | omega | (simp only [List.length_append, List.length_cons, List.length_nil]; omega))) only [↓wD,wU,Nat.reduceBEq,zx150,zx151,zx159,zx160,zx161,zx162,Nat.reduceAdd,Nat.reduceSub,Nat.reduceMul,Nat.reduceLeDiff,Nat.reduceLT,Nat.reduceEqDiff,Int.reduceAdd,Int.reduceSub,Int.reduceMul,Int.reduceNeg,Int.reduceLT,Int.reduceLE,Int.reduceEq,Int.reduceToNat,Int.cast_ofNat_Int,↓reduceIte, *]
          refine lpI (wpC ?_)
          simp (disch := (first | assumption | omega | (simp only [List.length_append, List.length_cons, List.length_nil]; omega))) only [↓wD,wU,Nat.reduceBEq,zx150,zx151,zx159,zx160,zx161,zx162,Nat.reduceAdd,Nat.reduceSub,Nat.reduceMul,Nat.reduceLeDiff,Nat.reduceLT,Nat.reduceEqDiff,Int.reduceAdd,Int.reduceSub,Int.reduceMul,Int.reduceNeg,Int.reduceLT,Int.reduceLE,Int.reduceEq,Int.reduceToNat,Int.cast_ofNat_Int,↓reduceIte, *, hs1.I, ld_of hv1.g.1, hu1 _ (.inl rfl), hu2 lo H1.length _ rfl]
          have e1 : (l ++ [x]).length = l.length + 1 := by simp
          have hv2 : Vars K1 (H1 ++ [Blk.cells [AV.i x], Blk.cells (List.map AV.i (l ++ [x]))]) y r n t bt bY br bn bg := hv1.mono (Kx.app _ _ _) fun _ _ h => h
          have hs2 : Sl (fun b => B ≤ b ∧ ¬ K1 b) (H1 ++ [Blk.cells [AV.i x], Blk.cells (List.map AV.i (l ++ [x]))]) (.s 1 (H1.length + 1) 0 (l.length + 1) none) (l ++ [x]) := by
            have hh1 := hx1.1
            have := Sl.litI (p := fun b => B ≤ b ∧ ¬ K1 b) (H := H1 ++ [Blk.cells [AV.i x], Blk.cells (List.map AV.i (l ++ [x]))]) (b := H1.length + 1) (c := none) (xs := l ++ [x]) (by simp) ⟨by omega, fun q => by have := (hK1 _ q).1; omega⟩ (by rw [e1]; omega)
            rwa [e1] at this
          refine callvI (WpV.fn (us := []) (vs := [_]) ((ihm (l ++ [x]) _ K1 _ _ (by rw [e1]; omega) ?_ hv2 hs2 (fun b q => by have := (hK1 b q).1; simp; omega) (by have := hx1.1; simp; omega) (hI2.keep (Kx.app _ _ _))).mono ?_))
          · intro z hz
            rcases List.mem_append.1 hz with hz | hz
            · exact hb z hz
            · simp at hz; subst hz; omega
          · rintro u' H' ⟨ok, K', rfl, hq, hx3, hK3⟩
            simp (disch := (first | assumption | omega | (simp only [List.length_append, List.length_cons, List.length_nil]; omega))) only [↓wD,wU,Nat.reduceBEq,zx150,zx151,zx159,zx160,zx161,zx162,Nat.reduceAdd,Nat.reduceSub,Nat.reduceMul,Nat.reduceLeDiff,Nat.reduceLT,Nat.reduceEqDiff,Int.reduceAdd,Int.reduceSub,Int.reduceMul,Int.reduceNeg,Int.reduceLT,Int.reduceLE,Int.reduceEq,Int.reduceToNat,Int.cast_ofNat_Int,↓reduceIte, *]
            refine chkI ?_ ?_
            · have q1 : (H1 ++ [Blk.cells [AV.i x]])[bg]? = _ := (Kx.app (fun _ => True) _ _).get trivial hv1.g.1
              have q2 : (H1 ++ [Blk.cells [AV.i x], Blk.cells (List.map AV.i l ++ [AV.i x])])[bg]? = _ := (Kx.app (fun _ => True) _ _).get trivial hv1.g.1
              simp [chk1, ev, Fr.upd, a5, ld_of q1, ld_of q2, sameO, AV.same_refl]
            · have hx2 : Kx (fun b => ¬ K b) H H' := by
                refine (hx1.app' [Blk.cells [AV.i x], Blk.cells (List.map AV.i (l ++ [x]))]).trans hx3 fun b hb h => ⟨fun q => h ((hK1 b q).2 hb), ?_⟩
                have hh1 := hx1.1
                intro e
                simp only [AV.blk, Option.some.injEq] at e
                omega
              have hK2 : ∀ b, K' b → b < H'.length ∧ (b < H.length → K b) := fun b q => ⟨(hK3 b q).1, fun hb => by
                have hh1 := hx1.1
                rcases (hK3 b q).2 (by simp only [List.length_append]; omega) with h | h
                · exact (hK1 b h).2 hb
                · simp only [AV.blk, Option.some.injEq] at h; omega⟩
              cases ok with
              | true =>
                simp (disch := (first | assumption | omega | (simp only [List.length_append, List.length_cons, List.length_nil]; omega))) only [↓wD,wU,Nat.reduceBEq,zx150,zx151,zx159,zx160,zx161,zx162,Nat.reduceAdd,Nat.reduceSub,Nat.reduceMul,Nat.reduceLeDiff,Nat.reduceLT,Nat.reduceEqDiff,Int.reduceAdd,Int.reduceSub,Int.reduceMul,Int.reduceNeg,Int.reduceLT,Int.reduceLE,Int.reduceEq,Int.reduceToNat,Int.cast_ofNat_Int,↓reduceIte, *]
                refine (ih hi').go ?_
                simp (disch := (first | assumption | omega | (simp only [List.length_append, List.length_cons, List.length_nil]; omega))) only [↓wD,wU,Nat.reduceBEq,zx150,zx151,zx159,zx160,zx161,zx162,Nat.reduceAdd,Nat.reduceSub,Nat.reduceMul,Nat.reduceLeDiff,Nat.reduceLT,Nat.reduceEqDiff,Int.reduceAdd,Int.reduceSub,Int.reduceMul,Int.reduceNeg,Int.reduceLT,Int.reduceLE,Int.reduceEq,Int.reduceToNat,Int.cast_ofNat_Int,↓reduceIte, *]
                exact ⟨⟨x + 1, rfl, by omega, by omega⟩, K', by rw [show x0 + ((i : Int) + 1) = x + 1 by omega]; exact hq.1 rfl, hK2⟩
              | false =>
                simp (disch := (first | assumption | omega | (simp only [List.length_append, List.length_cons, List.length_nil]; omega))) only [↓wD,wU,Nat.reduceBEq,zx150,zx151,zx159,zx160,zx161,zx162,Nat.reduceAdd,Nat.reduceSub,Nat.reduceMul,Nat.reduceLeDiff,Nat.reduceLT,Nat.reduceEqDiff,Int.reduceAdd,Int.reduceSub,Int.reduceMul,Int.reduceNeg,Int.reduceLT,Int.reduceLE,Int.reduceEq,Int.reduceToNat,Int.cast_ofNat_Int,↓reduceIte, *]
                exact ⟨false, K', rfl, hq.2 rfl, hx2.weak fun _ _ h => h.1, fun b q => ⟨(hK2 b q).1, fun hb => .inl ((hK2 b q).2 hb)⟩⟩
        · simp (disch := (first | assumption | omega | (simp only [List.length_append, List.length_cons, List.length_nil]; omega))) only [↓wD,wU,Nat.reduceBEq,zx150,zx151,zx159,zx160,zx161,zx162,Nat.reduceAdd,Nat.reduceSub,Nat.reduceMul,Nat.reduceLeDiff,Nat.reduceLT,Nat.reduceEqDiff,Int.reduceAdd,Int.reduceSub,Int.reduceMul,Int.reduceNeg,Int.reduceLT,Int.reduceLE,Int.reduceEq,Int.reduceToNat,Int.cast_ofNat_Int,↓reduceIte, *]
          rw [rest_nil (by omega)] at hI1
          exact ⟨true, K1, rfl, Its.none hI1, hx1.weak fun _ _ h => h.1, fun b q => ⟨(hK1 b q).1, fun hb => .inl ((hK1 b q).2 hb)⟩⟩
      · simp (disch := (first | assumption | omega | (simp only [List.length_append, List.length_cons, List.length_nil]; omega))) only [↓wD,wU,Nat.reduceBEq,zx150,zx151,zx159,zx160,zx161,zx162,Nat.reduceAdd,Nat.reduceSub,Nat.reduceMul,Nat.reduceLeDiff,Nat.reduceLT,Nat.reduceEqDiff,Int.reduceAdd,Int.reduceSub,Int.reduceMul,Int.reduceNeg,Int.reduceLT,Int.reduceLE,Int.reduceEq,Int.reduceToNat,Int.cast_ofNat_Int,↓reduceIte, *]
        rw [show x0 + 0 = x0 by omega]
        exact ⟨⟨_, rfl, by omega, by omega⟩, K, hI, Kx.refl _ _, fun b q => ⟨hK b q, fun _ => q⟩⟩
theorem tuples_it {lo : Nat} {y : AV} {r : Bool} {n : Int} {t : Nat} {bt br bn : Nat} {K : Nat → Prop} {H : Heap} {Q : Bool → (Nat → Prop) → Heap → Prop} (hlo : lo ≤ H.length) (ht : t ≤ 1000000) (hn : n ≤ 1000000) (hy : y.cells = [y] ∧ y.one = true)
    (h1 : H[bt]? = some (.cells [.i t]) ∧ ¬ K bt) (h2 : H[br]? = some (.cells [.b r]) ∧ ¬ K br) (h3 : H[bn]? = some (.cells [.i n]) ∧ ¬ K bn) (hK : ∀ b, K b → b < H.length)
    (hI : Its E lo y H.length ArgI Q (sufs r n t 0) K H) : WpF E lo 96 [y, .p bt 0, .p br 0, .p bn 0] H fun _ H' => ∃ ok K', Q ok K' H' := by
  refine WpF.wrt rfl fn96 rfl ?_
  unfold f96A
  simp (disch := (first | assumption | omega | (simp only [List.length_append, List.length_cons, List.length_nil]; omega))) only [↓wD,wU,Nat.reduceBEq,zx150,zx151,zx159,zx160,zx161,zx162,Nat.reduceAdd,Nat.reduceSub,Nat.reduceMul,Nat.reduceLeDiff,Nat.reduceLT,Nat.reduceEqDiff,Int.reduceAdd,Int.reduceSub,Int.reduceMul,Int.reduceNeg,Int.reduceLT,Int.reduceLE,Int.reduceEq,Int.reduceToNat,Int.cast_ofNat_Int,↓reduceIte, *]
  have hx : Kx (fun _ => True) H (H ++ [Blk.cells [y]] ++ [Blk.cells [AV.fn 97 [] [AV.p bt 0, AV.p (List.length H) 0, AV.p br 0, AV.p bn 0, AV.p (List.length H + 1) 0]]]) := (Kx.app _ _ _).app' _
  have hv : Vars K _ y r n t bt H.length br bn (H.length + 1) := ⟨⟨hx.get trivial h1.1, h1.2⟩, ⟨by simp, fun q => by have := hK _ q; omega⟩, ⟨hx.get trivial h2.1, h2.2⟩, ⟨hx.get trivial h3.1, h3.2⟩, ⟨by simp, fun q => by have := hK _ q; omega⟩⟩
  refine callvI (WpV.fn (us := []) (vs := [_]) ((grow_ok hlo ht hn t [] .nils K _ Q (by simp) nofun hv Sl.nil (fun b q => by have := hK b q; simp; omega) (by simp) ?_).mono ?_))
  · have e : (sufs r n t (frm r [])).map ([] ++ ·) = sufs r n t 0 := by
      rw [show frm r [] = 0 by simp [frm]]
      simp
    rw [e]
    exact hI.keep (hx.weak fun _ _ _ => trivial)
  · rintro u H' ⟨ok, K', rfl, hq, _⟩
    simp (disch := (first | assumption | omega | (simp only [List.length_append, List.length_cons, List.length_nil]; omega))) only [↓wD,wU,Nat.reduceBEq,zx150,zx151,zx159,zx160,zx161,zx162,Nat.reduceAdd,Nat.reduceSub,Nat.reduceMul,Nat.reduceLeDiff,Nat.reduceLT,Nat.reduceEqDiff,Int.reduceAdd,Int.reduceSub,Int.reduceMul,Int.reduceNeg,Int.reduceLT,Int.reduceLE,Int.reduceEq,Int.reduceToNat,Int.cast_ofNat_Int,↓reduceIte, *]
    exact ⟨ok, K', hq⟩
/-- what tuples returns -/
structure Tup where
  r : Bool
  n : Int
  t : Int
instance : RV Tup where
  rv p H v x := ∃ bt br bn, v = .fn 96 [] [.p bt 0, .p br 0, .p bn 0] ∧ (p bt ∧ p br ∧ p bn) ∧ H[bt]? = some (.cells [.i x.t]) ∧ H[br]? = some (.cells [.b x.r]) ∧ H[bn]? = some (.cells [.i x.n])
  mono := by
    rintro p q H H' v x ⟨bt, br, bn, rfl, hp, h1, h2, h3⟩ hk hq
    exact ⟨bt, br, bn, rfl, ⟨hq _ hp.1, hq _ hp.2.1, hq _ hp.2.2⟩, hk.2 _ _ hp.1 h1, hk.2 _ _ hp.2.1 h2, hk.2 _ _ hp.2.2 h3⟩
  pure := by
    rintro p q H H' v x ⟨bt, br, bn, rfl, _⟩ hp
    simp [AV.pure, AV.pureAll] at hp
theorem tuples_ret {H : Heap} {t n : Int} {r : Bool} : Ret E 72 [.i t, .i n, .b r] (fun _ => False) H (Tup.mk r n t) := by
  refine Ret.ro rfl fn72 rfl ?_
  unfold f72A
  simp (disch := (first | assumption | omega | (simp only [List.length_append, List.length_cons, List.length_nil]; omega))) only [↓wD,wU,Nat.reduceBEq,zx150,zx151,zx159,zx160,zx161,zx162,Nat.reduceAdd,Nat.reduceSub,Nat.reduceMul,Nat.reduceLeDiff,Nat.reduceLT,Nat.reduceEqDiff,Int.reduceAdd,Int.reduceSub,Int.reduceMul,Int.reduceNeg,Int.reduceLT,Int.reduceLE,Int.reduceEq,Int.reduceToNat,Int.cast_ofNat_Int,↓reduceIte, *]
  refine ⟨_, _, _, rfl, ?_, ?_⟩
  · simp; omega
  · refine ⟨by simp, ?_, by simp⟩
    rw [List.getElem?_append_right (by simp)]
    simp
end Go.Proofs.Ytalaadcbpjnglaa
namespace Go.Proofs.Ytalaadcbpjnglaa
open Go Go.AM Go.Proofs
/-- an item of all: a place, and how often it comes -/
def ArgA (Ki : Nat → Prop) (H : Heap) (args : List AV) (x : List Int × Nat) : Prop := ∃ u, args = [u, .i x.2] ∧ Sl Ki H u x.1
def allC (v : Int) (t : List (List Int)) (k : Nat) (cs : List Int) : List (List Int × Nat) := (sufs false v k 0).map fun ks => (cs ++ ks, oft t cs ks)
def allL (v : Int) (t : List (List Int)) (k : Nat) : List (List Int × Nat) := (sufs true (wd t) k 0).flatMap (allC v t k)
theorem rng_mem {x n y : Int} (h : y ∈ rng x n) : x ≤ y ∧ y < n := by
  simp only [rng, List.mem_map, List.mem_range] at h
  obtain ⟨i, hi, rfl⟩ := h
  omega
theorem sufs_len {r : Bool} {n : Int} : ∀ {t : Nat} {x : Int} {s : List Int}, s ∈ sufs r n t x → s.length = t
  | 0, x, s, h => by simp [sufs] at h; subst h; rfl
  | t + 1, x, s, h => by
    simp only [sufs, List.mem_flatMap, List.mem_map] at h
    obtain ⟨y, _, z, hz, rfl⟩ := h
    simp [sufs_len hz]
theorem sufs_in {r : Bool} {n : Int} : ∀ {t : Nat} {x : Int} {s : List Int}, 0 ≤ x → s ∈ sufs r n t x → ∀ c ∈ s, 0 ≤ c ∧ c < n
  | 0, x, s, _, h => by simp [sufs] at h; subst h; nofun
  | t + 1, x, s, hx, h => by
    simp only [sufs, List.mem_flatMap, List.mem_map] at h
    obtain ⟨y, hy, z, hz, rfl⟩ := h
    have h1 := rng_mem hy
    intro c hc
    rcases List.mem_cons.1 hc with rfl | hc
    · omega
    · exact sufs_in (by split <;> omega) hz c hc
theorem gset {b : Nat} {H H2 : Heap} {k k' : Blk} (e : H.set b k = H2) (h : H[b]? = some k') : H2[b]? = some k := by rw [← e]; exact get_set h
theorem all_it {lo : Nat} {y rows : AV} {v : Int} {t : List (List Int)} {k bt ba : Nat} {K : Nat → Prop} {H : Heap} {Q : Bool → (Nat → Prop) → Heap → Prop} (hlo : lo ≤ H.length) (hy : y.cells = [y] ∧ y.one = true)
    (h1 : H[bt]? = some (.cells [.i k]) ∧ ¬ K bt) (h2 : H[ba]? = some (.cells [.i v, rows]) ∧ ¬ K ba) (hr : Sl (fun b => ¬ K b) H rows t) (hA : ArrP v t) (hk : k ≤ 3) (hK : ∀ b, K b → b < H.length)
    (hI : Its E lo y H.length ArgA Q (allL v t k) K H) : WpF E lo 102 [y, .p bt 0, .p ba 0] H fun _ H' => ∃ ok K', Q ok K' H' := by
  refine WpF.wrt rfl fn102 rfl ?_
  unfold f102A
  have hwd := hA.wd
  have hv1 := hA.1
  have hv2 := hA.2.1
  have x1 : Kx (fun _ => True) H (H ++ [.cells [y]]) := Kx.app _ _ _
  have hr1 := hr.app [.cells [y]]
  simp (disch := (first | assumption | omega | (simp only [List.length_append, List.length_cons, List.length_nil]; omega))) only [↓wD,wU,Nat.reduceBEq,zx150,zx151,zx159,zx160,zx161,zx162,Nat.reduceAdd,Nat.reduceSub,Nat.reduceMul,Nat.reduceLeDiff,Nat.reduceLT,Nat.reduceEqDiff,Int.reduceAdd,Int.reduceSub,Int.reduceMul,Int.reduceNeg,Int.reduceLT,Int.reduceLE,Int.reduceEq,Int.reduceToNat,Int.cast_ofNat_Int,↓reduceIte, *, ld_of (x1.get trivial h1.1), ldn_of (x1.get trivial h2.1), (columns_ret hr1 hA.2.2.1).call]
  refine (tuples_ret).toX fun w Hr hg hw => ?_
  obtain ⟨b1, b2, b3, rfl, hp, c1, c2, c3⟩ := hw
  have hp1 : H.length < b1 := by have := hp.1; simp at this; omega
  have hp2 : H.length < b2 := by have := hp.2.1; simp at this; omega
  have hp3 : H.length < b3 := by have := hp.2.2; simp at this; omega
  clear hp
  have x2 : Kx (fun _ => True) H Hr := x1.trans hg fun _ _ _ => trivial
  have d1 := x2.get trivial h1.1
  have d2 := x2.get trivial h2.1
  have d3 : Hr[H.length]? = some (.cells [y]) := hg.get trivial (by simp)
  have hHr : H.length < Hr.length := (List.getElem?_eq_some_iff.1 d3).1
  have hr2 : Sl (fun b => b < H.length ∧ ¬ K b) Hr rows t := (hr.low.weak fun b h => ⟨h.2, h.1⟩).kp x2.kp.weakT
  clear hg hr1 x1
  simp (disch := (first | assumption | omega | (simp only [List.length_append, List.length_cons, List.length_nil]; omega))) only [↓wD,wU,Nat.reduceBEq,zx150,zx151,zx159,zx160,zx161,zx162,Nat.reduceAdd,Nat.reduceSub,Nat.reduceMul,Nat.reduceLeDiff,Nat.reduceLT,Nat.reduceEqDiff,Int.reduceAdd,Int.reduceSub,Int.reduceMul,Int.reduceNeg,Int.reduceLT,Int.reduceLE,Int.reduceEq,Int.reduceToNat,Int.cast_ofNat_Int,↓reduceIte, *]
  refine Wp.range (A := ArgI) (sufs true (wd t) k 0) K (fun i K1 H1 => ∃ Kc, Its E lo y H.length ArgA Q (((sufs true (wd t) k 0).drop i).flatMap (allC v t k)) Kc H1 ∧ ∀ b, Kc b → K1 b ∧ (b < Hr.length → K b))
    (fun j K1 H1 => j = .ret ∧ ∃ Kc, (∀ b, Kc b → K1 b) ∧ ∀ H3, Kx (fun b => b < H.length ∨ Kc b) H1 H3 → Q false Kc H3) (by (simp (disch := (first | assumption | omega | (simp only [List.length_append, List.length_cons, List.length_nil]; omega))) only [↓wD,wU,Nat.reduceBEq,zx150,zx151,zx159,zx160,zx161,zx162,Nat.reduceAdd,Nat.reduceSub,Nat.reduceMul,Nat.reduceLeDiff,Nat.reduceLT,Nat.reduceEqDiff,Int.reduceAdd,Int.reduceSub,Int.reduceMul,Int.reduceNeg,Int.reduceLT,Int.reduceLE,Int.reduceEq,Int.reduceToNat,Int.cast_ofNat_Int,↓reduceIte, *]) <;> rfl) rfl (by omega) (fun b h => by have := hK b h; omega) (by rintro _ _ _ _ ⟨u, rfl, _⟩; rfl) ?_ ?_ ?_ ?_ ?_ ?_ ?_
  · intro K' H1 Q' e hx hK' hI
    rw [← e] at hI
    have hne : ∀ b, H.length < b → b < Hr.length → ¬ K' b := fun b q1 q2 h => by
      rcases (hK' b).1 h with h | h
      · have := hK b h; omega
      · omega
    exact tuples_it (t := k) (n := (wd t : Int)) (by omega) (by omega) (by omega) ⟨rfl, rfl⟩ ⟨hx.get trivial c1, hne _ hp1 (List.getElem?_eq_some_iff.1 c1).1⟩ ⟨hx.get trivial c2, hne _ hp2 (List.getElem?_eq_some_iff.1 c2).1⟩ ⟨hx.get trivial c3, hne _ hp3 (List.getElem?_eq_some_iff.1 c3).1⟩ (fun b h => by
      rcases (hK' b).1 h with h | h
      · have := hK b h; omega
      · omega) hI
  · rintro i K1 H1 H2 ⟨Kc, q1, q2⟩ hx
    exact ⟨Kc, q1.keep (hx.weak fun b _ h => h.elim (fun h => .inl (by omega)) fun h => .inr (q2 b h).1), q2⟩
  · rintro j K1 H1 H2 ⟨rfl, Kc, q0, q1⟩ hx
    exact ⟨rfl, Kc, q0, fun H3 h3 => q1 H3 ((hx.weak fun b _ h => h.elim (fun h => .inl (by omega)) fun h => .inr (q0 b h)).trans h3 fun _ _ h => h)⟩
  · exact ⟨K, hI.keep (x2.all _), fun b h => ⟨h, fun _ => h⟩⟩
  · rintro i hi K1 Ki args H1 ⟨Kc, q1, q2⟩ ⟨cu, rfl, hcu⟩ hKi hK1 hx hl hl1 _
    rw [List.drop_eq_getElem_cons hi, List.flatMap_cons] at q1
    have q1' := Its.append q1
    clear q1
    have hcl := sufs_len (List.getElem_mem hi)
    have hcb := sufs_in (Int.le_refl 0) (List.getElem_mem hi)
    obtain ⟨cs, ecs⟩ : ∃ cs, (sufs true (wd t) k 0)[i] = cs := ⟨_, rfl⟩
    rw [ecs] at hcl hcb q1' hcu
    have f1 := hx.get ⟨(List.getElem?_eq_some_iff.1 d1).1, h1.2⟩ d1
    have f2 := hx.get ⟨(List.getElem?_eq_some_iff.1 d2).1, h2.2⟩ d2
    have f3 := hx.get ⟨hHr, fun q => by have := hK _ q; omega⟩ d3
    have e1 : (H1 ++ [Blk.cells [cu]])[Hr.length]? = _ := (Kx.app (fun _ => True) _ _).get trivial hl1
    simp (disch := (first | assumption | omega | (simp only [List.length_append, List.length_cons, List.length_nil]; omega))) only [↓wD,wU,Nat.reduceBEq,zx150,zx151,zx159,zx160,zx161,zx162,Nat.reduceAdd,Nat.reduceSub,Nat.reduceMul,Nat.reduceLeDiff,Nat.reduceLT,Nat.reduceEqDiff,Int.reduceAdd,Int.reduceSub,Int.reduceMul,Int.reduceNeg,Int.reduceLT,Int.reduceLE,Int.reduceEq,Int.reduceToNat,Int.cast_ofNat_Int,↓reduceIte, *, zx189, zx190, hcu.cellsV, zx188 (lo := lo) e1 (by omega)]
    generalize eH2 : (H1 ++ [Blk.cells [cu]]).set Hr.length _ = H2
    have x12 : Kx (fun b => b ≠ Hr.length) H1 H2 := by rw [← eH2]; exact Kx.set' (Kx.app _ _ _) (fun _ h => h rfl) _
    have n12 : H2.length = H1.length + 1 := by rw [← eH2]; simp
    have gl := gset eH2 e1
    have g4 : H2[H1.length]? = some (.cells [cu]) := by rw [← eH2, List.getElem?_set_ne (by omega)]; simp
    have lt1 := (List.getElem?_eq_some_iff.1 d1).1
    have ltb := (List.getElem?_eq_some_iff.1 h1.1).1
    have lta := (List.getElem?_eq_some_iff.1 h2.1).1
    have g1 := x12.get (by omega) f1
    have g2 := x12.get (by omega) f2
    have g3 := x12.get (by omega) f3
    clear eH2 e1
    simp (disch := (first | assumption | omega | (simp only [List.length_append, List.length_cons, List.length_nil]; omega))) only [↓wD,wU,Nat.reduceBEq,zx150,zx151,zx159,zx160,zx161,zx162,Nat.reduceAdd,Nat.reduceSub,Nat.reduceMul,Nat.reduceLeDiff,Nat.reduceLT,Nat.reduceEqDiff,Int.reduceAdd,Int.reduceSub,Int.reduceMul,Int.reduceNeg,Int.reduceLT,Int.reduceLE,Int.reduceEq,Int.reduceToNat,Int.cast_ofNat_Int,↓reduceIte, *, ld_of g1, ld_of g2]
    refine (tuples_ret).toX fun w3 H3 x23 hw => ?_
    obtain ⟨k1, k2, k3, rfl, hp, m1, m2, m3⟩ := hw
    have hp1 : H1.length < k1 := by have := hp.1; simp at this; omega
    have hp2 : H1.length < k2 := by have := hp.2.1; simp at this; omega
    have hp3 : H1.length < k3 := by have := hp.2.2; simp at this; omega
    clear hp
    have x13 : Kx (fun b => b ≠ Hr.length) H1 H3 := x12.trans x23 fun _ _ _ => trivial
    have gl3 := x23.get trivial gl
    have hl3 := x23.1
    have q2' : ∀ b, Kc b → b < H1.length ∧ b ≠ Hr.length ∧ (b < Hr.length → K b) ∧ ¬ Ki b := fun b h => ⟨(hK1 b (q2 b h).1).1, (hK1 b (q2 b h).1).2, (q2 b h).2, fun q => (hKi b q).2.2 (q2 b h).1⟩
    have hcu3 : Sl (fun b => b < H1.length ∧ Ki b) H3 cu cs := (hcu.low.weak fun b h => ⟨h.2, h.1⟩).kp (x13.weak fun b _ h => by have := (hKi b h.2).1; omega).kp
    have hr3 : Sl (fun b => b < H.length ∧ ¬ K b) H3 rows t := (hr2.kp (hx.weak fun b _ h => ⟨by omega, h.2⟩).kp).kp (x13.weak fun b _ h => by omega).kp
    have s1 := x23.get trivial g1
    have s2 := x23.get trivial g2
    have s3 := x23.get trivial g3
    have s4 := x23.get trivial g4
    simp (disch := (first | assumption | omega | (simp only [List.length_append, List.length_cons, List.length_nil]; omega))) only [↓wD,wU,Nat.reduceBEq,zx150,zx151,zx159,zx160,zx161,zx162,Nat.reduceAdd,Nat.reduceSub,Nat.reduceMul,Nat.reduceLeDiff,Nat.reduceLT,Nat.reduceEqDiff,Int.reduceAdd,Int.reduceSub,Int.reduceMul,Int.reduceNeg,Int.reduceLT,Int.reduceLE,Int.reduceEq,Int.reduceToNat,Int.cast_ofNat_Int,↓reduceIte, *]
    refine Wp.range (A := ArgI) (sufs false v k 0) Kc (fun j K2 H4 => ∃ Kc', Its E lo y H.length ArgA (fun ok K' H' => (ok = true → Its E lo y H.length ArgA Q (((sufs true (wd t) k 0).drop (i + 1)).flatMap (allC v t k)) K' H') ∧ (ok = false → Q false K' H')) ((allC v t k cs).drop j) Kc' H4 ∧ ∀ b, Kc' b → K2 b ∧ b < H4.length ∧ (b < H3.length → Kc b))
      (fun j K2 H4 => j = .ret ∧ ∃ Kc', (∀ b, Kc' b → K2 b ∧ b < H4.length ∧ (b < H3.length → Kc b)) ∧ ∀ H5, Kx (fun b => b < H.length ∨ Kc' b) H4 H5 → Q false Kc' H5) (by (simp (disch := (first | assumption | omega | (simp only [List.length_append, List.length_cons, List.length_nil]; omega))) only [↓wD,wU,Nat.reduceBEq,zx150,zx151,zx159,zx160,zx161,zx162,Nat.reduceAdd,Nat.reduceSub,Nat.reduceMul,Nat.reduceLeDiff,Nat.reduceLT,Nat.reduceEqDiff,Int.reduceAdd,Int.reduceSub,Int.reduceMul,Int.reduceNeg,Int.reduceLT,Int.reduceLE,Int.reduceEq,Int.reduceToNat,Int.cast_ofNat_Int,↓reduceIte, *]) <;> rfl) (mayL gl3 (by omega)) (by omega) (fun b h => by have := (q2' b h).1; omega) (by rintro _ _ _ _ ⟨u, rfl, _⟩; rfl) ?_ ?_ ?_ ?_ ?_ ?_ ?_
    · intro K' H4 Q' e hx' hK' hI
      rw [← e] at hI
      have hne : ∀ b, H1.length < b → b < H3.length → ¬ K' b := fun b q1 q2 h => by
        rcases (hK' b).1 h with h | h
        · have := (q2' b h).1; omega
        · omega
      exact tuples_it (t := k) (n := v) (by omega) (by omega) (by omega) ⟨rfl, rfl⟩ ⟨hx'.get trivial m1, hne _ hp1 (List.getElem?_eq_some_iff.1 m1).1⟩ ⟨hx'.get trivial m2, hne _ hp2 (List.getElem?_eq_some_iff.1 m2).1⟩ ⟨hx'.get trivial m3, hne _ hp3 (List.getElem?_eq_some_iff.1 m3).1⟩ (fun b h => by
        rcases (hK' b).1 h with h | h
        · have := (q2' b h).1; omega
        · omega) hI
    · rintro j K2 H4 H5 ⟨Kc', q1, q2⟩ hx
      exact ⟨Kc', q1.keep (hx.weak fun b _ h => h.elim (fun h => .inl (by omega)) fun h => .inr (q2 b h).1), fun b h => ⟨(q2 b h).1, by have := (q2 b h).2.1; have := hx.1; omega, (q2 b h).2.2⟩⟩
    · rintro j K2 H4 H5 ⟨rfl, Kc', q0, q1⟩ hx
      exact ⟨rfl, Kc', fun b h => ⟨(q0 b h).1, by have := (q0 b h).2.1; have := hx.1; omega, (q0 b h).2.2⟩, fun H6 h6 => q1 H6 ((hx.weak fun b _ h => h.elim (fun h => .inl (by omega)) fun h => .inr (q0 b h).1).trans h6 fun _ _ h => h)⟩
    · exact ⟨Kc, by rw [List.drop_zero]; exact q1'.keep (x13.weak fun b _ h => h.elim (fun h => by omega) fun h => (q2' b h).2.1), fun b h => ⟨h, by have := (q2' b h).1; omega, fun _ => h⟩⟩
    · rintro j hj K2 Ki2 args2 H4 ⟨Kc', q3, q4⟩ ⟨ku, rfl, hku⟩ hKi2 hK2 hx4 hl4 hl41 _
      have hj' : j < (allC v t k cs).length := by unfold allC; rw [List.length_map]; exact hj
      rw [List.drop_eq_getElem_cons hj'] at q3
      have hjl := sufs_len (List.getElem_mem hj)
      have ea : (allC v t k cs)[j] = (cs ++ (sufs false v k 0)[j], oft t cs (sufs false v k 0)[j]) := by simp [allC]
      rw [ea] at q3
      clear ea
      obtain ⟨ks, eks⟩ : ∃ ks, (sufs false v k 0)[j] = ks := ⟨_, rfl⟩
      rw [eks] at q3 hku hjl
      have u2 := hx4.get ⟨(List.getElem?_eq_some_iff.1 s2).1, fun q => h2.2 ((q2' _ q).2.2.1 (by omega))⟩ s2
      have u3 := hx4.get ⟨(List.getElem?_eq_some_iff.1 s3).1, fun q => by have := hK _ ((q2' _ q).2.2.1 hHr); omega⟩ s3
      have u4 := hx4.get ⟨(List.getElem?_eq_some_iff.1 s4).1, fun q => by have := (q2' _ q).1; omega⟩ s4
      have hcu4 := hcu3.kp (hx4.weak fun b _ h => ⟨by omega, fun q => (q2' _ q).2.2.2 h.2⟩).kp
      have hr4 := hr3.kp (hx4.weak fun b _ h => ⟨by omega, fun q => h.2 ((q2' _ q).2.2.1 (by omega))⟩).kp
      simp (disch := (first | assumption | omega | (simp only [List.length_append, List.length_cons, List.length_nil]; omega))) only [↓wD,wU,Nat.reduceBEq,zx150,zx151,zx159,zx160,zx161,zx162,Nat.reduceAdd,Nat.reduceSub,Nat.reduceMul,Nat.reduceLeDiff,Nat.reduceLT,Nat.reduceEqDiff,Int.reduceAdd,Int.reduceSub,Int.reduceMul,Int.reduceNeg,Int.reduceLT,Int.reduceLE,Int.reduceEq,Int.reduceToNat,Int.cast_ofNat_Int,↓reduceIte, *, zx188 (lo := lo) hl41 (by omega)]
      generalize e5 : H4.set H3.length _ = H5
      have x45 : Kx (fun b => b ≠ H3.length) H4 H5 := by rw [← e5]; exact Kx.set _ _ _
      have n45 : H5.length ≤ H4.length ∧ H4.length ≤ H5.length := by rw [← e5]; simp
      have gl5 := gset e5 hl41
      have w2 := x45.get (by omega) u2
      have w3 := x45.get (by omega) u3
      have w4 := x45.get (by omega) u4
      have hcu5 := hcu4.kp (x45.weak fun b _ h => by omega).kp
      have hku5 : Sl (fun b => b < H4.length ∧ Ki2 b) H5 ku ks := (hku.low.weak fun b h => ⟨h.2, h.1⟩).kp (x45.weak fun b _ h => by have := (hKi2 b h.2).1; omega).kp
      have hr5 := hr4.kp (x45.weak fun b _ h => by omega).kp
      clear e5
      simp (disch := (first | assumption | omega | (simp only [List.length_append, List.length_cons, List.length_nil]; omega))) only [↓wD,wU,Nat.reduceBEq,zx150,zx151,zx159,zx160,zx161,zx162,Nat.reduceAdd,Nat.reduceSub,Nat.reduceMul,Nat.reduceLeDiff,Nat.reduceLT,Nat.reduceEqDiff,Int.reduceAdd,Int.reduceSub,Int.reduceMul,Int.reduceNeg,Int.reduceLT,Int.reduceLE,Int.reduceEq,Int.reduceToNat,Int.cast_ofNat_Int,↓reduceIte, *, ld_of w2, ld_of w3, ld_of w4, hcu.cellsV, hku.cellsV]
      have hlit : Sl (fun _ => True) (H5 ++ [Blk.cells [cu, ku]]) (.s 1 H5.length 0 2 (some 2)) [cs, ks] := by
        refine Sl.litL (us := [cu, ku]) (xs := [cs, ks]) (b := H5.length) get_last trivial (show 2 ≤ 9223372036854775807 by omega) rfl fun i h1 h2 => ?_
        match i, h1, h2 with
        | 0, _, _ => exact (hcu5.app _).weak fun _ _ => trivial
        | 1, _, _ => exact (hku5.app _).weak fun _ _ => trivial
        | n + 2, h1, _ => exact absurd h1 (by simp)
      refine (concat_ret hlit (by simp [lsum]; omega)).toFX fun u H6 x56 hu => ?_
      have x56' : Kx (fun _ => True) H5 H6 := (Kx.app _ _ _).trans x56 fun _ _ _ => trivial
      have l56 : H5.length + 1 ≤ H6.length := by have := x56.1; simpa using this
      have v2 := x56'.get trivial w2
      have v3 := x56'.get trivial w3
      have v4 := x56'.get trivial w4
      have hcu6 := hcu5.kp (x56'.all _).kp
      have hku6 := hku5.kp (x56'.all _).kp
      have hr6 := hr5.kp (x56'.all _).kp
      have hu6 : Sl (fun b => H5.length + 1 ≤ b ∧ b < H6.length) H6 u (cs ++ ks) := by
        have := hu.low
        simp only [List.flatten_cons, List.flatten_nil, List.append_nil] at this
        exact this.weak fun b h => ⟨by have := h.1; simpa using this, h.2⟩
      have hof := often_ret (v := v) hr6 hcu6 hku6 (by omega) fun c hc => ⟨(hcb c hc).1, fun r hr => by rw [(hA.row hr).1]; exact (hcb c hc).2⟩
      simp (disch := (first | assumption | omega | (simp only [List.length_append, List.length_cons, List.length_nil]; omega))) only [↓wD,wU,Nat.reduceBEq,zx150,zx151,zx159,zx160,zx161,zx162,Nat.reduceAdd,Nat.reduceSub,Nat.reduceMul,Nat.reduceLeDiff,Nat.reduceLT,Nat.reduceEqDiff,Int.reduceAdd,Int.reduceSub,Int.reduceMul,Int.reduceNeg,Int.reduceLT,Int.reduceLE,Int.reduceEq,Int.reduceToNat,Int.cast_ofNat_Int,↓reduceIte, *, ld_of v2, ldn_of v2, ld_of v3, ld_of v4, hof.call]
      have hq4 : ∀ b, Kc' b → K2 b ∧ b < H4.length ∧ (b < H3.length → Kc b) := q4
      refine callvI ((q3 H6 (fun b => H5.length + 1 ≤ b ∧ b < H6.length) [u, .i (oft t cs ks)] ?_ ⟨u, rfl, hu6⟩ ?_).mono ?_)
      · exact x45.trans (x56'.all _) (fun _ _ _ => trivial) |>.weak fun b _ h => h.elim (fun h => by omega) fun h => (hK2 b (q4 b h).1).2
      · exact fun b h => ⟨by omega, h.2, fun q => by have := (q4 b q).2.1; omega⟩
      · rintro r H7 ⟨x67, hc⟩
        have x47 : Kx (fun b => ¬ (K2 b ∨ Ki2 b) ∧ b ≠ H3.length) H4 H7 := ((x45.trans (x56'.all _) fun _ _ _ => trivial).weak fun b _ h => h.2).trans x67 fun b hb h => fun q => q.elim (fun q => h.1 (.inl (q4 b q).1)) fun q => by omega
        have gl7 := x67.get (b := H3.length) (fun q => q.elim (fun q => (hK2 _ (q4 _ q).1).2 rfl) fun q => by omega) (x56'.get trivial gl5)
        have l67 := x67.1
        have hkn : ∀ b, Kn Kc' (fun b => H5.length + 1 ≤ b ∧ b < H6.length) H6 H7 b → Kn K2 Ki2 H4 H7 b ∧ b < H7.length ∧ (b < H3.length → Kc b) := by
          rintro b (h | h | h)
          · exact ⟨.inl (q4 b h).1, by have := (q4 b h).2.1; omega, (q4 b h).2.2⟩
          · exact ⟨.inr (.inr ⟨by omega, by omega⟩), by omega, fun q => by omega⟩
          · exact ⟨.inr (.inr ⟨by omega, by omega⟩), by omega, fun q => by omega⟩
        rcases hc with ⟨rfl, hc⟩ | ⟨rfl, hc⟩
        · simp (disch := (first | assumption | omega | (simp only [List.length_append, List.length_cons, List.length_nil]; omega))) only [↓wD,wU,Nat.reduceBEq,zx150,zx151,zx159,zx160,zx161,zx162,Nat.reduceAdd,Nat.reduceSub,Nat.reduceMul,Nat.reduceLeDiff,Nat.reduceLT,Nat.reduceEqDiff,Int.reduceAdd,Int.reduceSub,Int.reduceMul,Int.reduceNeg,Int.reduceLT,Int.reduceLE,Int.reduceEq,Int.reduceToNat,Int.cast_ofNat_Int,↓reduceIte, *]
          first | exact ⟨_, hc, hkn⟩ | exact ⟨gl7, x47, _, hc, hkn⟩
        · simp (disch := (first | assumption | omega | (simp only [List.length_append, List.length_cons, List.length_nil]; omega))) only [↓wD,wU,Nat.reduceBEq,zx150,zx151,zx159,zx160,zx161,zx162,Nat.reduceAdd,Nat.reduceSub,Nat.reduceMul,Nat.reduceLeDiff,Nat.reduceLT,Nat.reduceEqDiff,Int.reduceAdd,Int.reduceSub,Int.reduceMul,Int.reduceNeg,Int.reduceLT,Int.reduceLE,Int.reduceEq,Int.reduceToNat,Int.cast_ofNat_Int,↓reduceIte, *]
          first | exact ⟨_, hkn, fun H8 h8 => (hc H8 h8).2 rfl⟩ | exact ⟨gl7, x47, rfl, _, hkn, fun H8 h8 => (hc H8 h8).2 rfl⟩ | exact ⟨rfl, _, hkn, fun H8 h8 => (hc H8 h8).2 rfl⟩
    · rintro K2 H4 ⟨Kc', q3, q4⟩ hx4 hl4
      have gl4 := hx4.get ⟨(List.getElem?_eq_some_iff.1 gl3).1, fun q => (q2' _ q).2.1 rfl⟩ gl3
      rw [List.drop_of_length_le (l := allC v t k cs) (by unfold allC; rw [List.length_map]; exact Nat.le_refl _)] at q3
      have xx : Kx (fun b => ¬ (K1 b ∨ Ki b) ∧ b ≠ Hr.length) H1 H4 := (x13.weak fun b _ h => h.2).trans hx4 fun b hb h => ⟨by omega, fun q => h.1 (.inl (q2 b q).1)⟩
      have hkn : ∀ b, Kc' b → Kn K1 Ki H1 H4 b ∧ (b < Hr.length → K b) := fun b h => by
        by_cases hb : b < H3.length
        · exact ⟨.inl (q2 b ((q4 b h).2.2 hb)).1, fun q => (q2' b ((q4 b h).2.2 hb)).2.2.1 q⟩
        · exact ⟨.inr (.inr ⟨by omega, (q4 b h).2.1⟩), fun q => by omega⟩
      have q5 := q3.none.1 rfl
      simp (disch := (first | assumption | omega | (simp only [List.length_append, List.length_cons, List.length_nil]; omega))) only [↓wD,wU,Nat.reduceBEq,zx150,zx151,zx159,zx160,zx161,zx162,Nat.reduceAdd,Nat.reduceSub,Nat.reduceMul,Nat.reduceLeDiff,Nat.reduceLT,Nat.reduceEqDiff,Int.reduceAdd,Int.reduceSub,Int.reduceMul,Int.reduceNeg,Int.reduceLT,Int.reduceLE,Int.reduceEq,Int.reduceToNat,Int.cast_ofNat_Int,↓reduceIte, *]
      first | exact ⟨_, q5, hkn⟩ | exact ⟨gl4, xx, _, q5, hkn⟩
    · rintro j K2 H4 ⟨rfl, Kc', q3, q4⟩ hx4 hl4
      have gl4 := hx4.get ⟨(List.getElem?_eq_some_iff.1 gl3).1, fun q => (q2' _ q).2.1 rfl⟩ gl3
      have xx : Kx (fun b => ¬ (K1 b ∨ Ki b) ∧ b ≠ Hr.length) H1 H4 := (x13.weak fun b _ h => h.2).trans hx4 fun b hb h => ⟨by omega, fun q => h.1 (.inl (q2 b q).1)⟩
      have hkn : ∀ b, Kc' b → Kn K1 Ki H1 H4 b := fun b h => by
        by_cases hb : b < H3.length
        · exact .inl (q2 b ((q3 b h).2.2 hb)).1
        · exact .inr (.inr ⟨by omega, (q3 b h).2.1⟩)
      change Wp E lo _ (.code .ret :: _) _ _ _
      simp (disch := (first | assumption | omega | (simp only [List.length_append, List.length_cons, List.length_nil]; omega))) only [↓wD,wU,Nat.reduceBEq,zx150,zx151,zx159,zx160,zx161,zx162,Nat.reduceAdd,Nat.reduceSub,Nat.reduceMul,Nat.reduceLeDiff,Nat.reduceLT,Nat.reduceEqDiff,Int.reduceAdd,Int.reduceSub,Int.reduceMul,Int.reduceNeg,Int.reduceLT,Int.reduceLE,Int.reduceEq,Int.reduceToNat,Int.cast_ofNat_Int,↓reduceIte, *]
      first | exact ⟨_, hkn, q4⟩ | exact ⟨gl4, xx, rfl, _, hkn, q4⟩ | exact ⟨rfl, _, hkn, q4⟩
  · rintro K1 H1 ⟨Kc, q1, _⟩ hx hl
    simp (disch := (first | assumption | omega | (simp only [List.length_append, List.length_cons, List.length_nil]; omega))) only [↓wD,wU,Nat.reduceBEq,zx150,zx151,zx159,zx160,zx161,zx162,Nat.reduceAdd,Nat.reduceSub,Nat.reduceMul,Nat.reduceLeDiff,Nat.reduceLT,Nat.reduceEqDiff,Int.reduceAdd,Int.reduceSub,Int.reduceMul,Int.reduceNeg,Int.reduceLT,Int.reduceLE,Int.reduceEq,Int.reduceToNat,Int.cast_ofNat_Int,↓reduceIte, *]
    rw [List.drop_length] at q1
    exact ⟨true, Kc, q1.none⟩
  · rintro j K1 H1 ⟨rfl, Kc, q0, q1⟩ hx hl
    change Wp E lo none (.code .ret :: _) _ _ _
    simp (disch := (first | assumption | omega | (simp only [List.length_append, List.length_cons, List.length_nil]; omega))) only [↓wD,wU,Nat.reduceBEq,zx150,zx151,zx159,zx160,zx161,zx162,Nat.reduceAdd,Nat.reduceSub,Nat.reduceMul,Nat.reduceLeDiff,Nat.reduceLT,Nat.reduceEqDiff,Int.reduceAdd,Int.reduceSub,Int.reduceMul,Int.reduceNeg,Int.reduceLT,Int.reduceLE,Int.reduceEq,Int.reduceToNat,Int.cast_ofNat_Int,↓reduceIte, *]
    exact ⟨false, Kc, q1 _ (Kx.refl _ _)⟩
end Go.Proofs.Ytalaadcbpjnglaa
namespace Go.Proofs.Ytalaadcbpjnglaa
open Go Go.AM Go.Proofs
/-- what all returns -/
structure AllR where
  v : Int
  rows : AV
  k : Int
instance : RV AllR where
  rv p H w x := ∃ bt ba, w = .fn 102 [] [.p bt 0, .p ba 0] ∧ (p bt ∧ p ba) ∧ H[bt]? = some (.cells [.i x.k]) ∧ H[ba]? = some (.cells [.i x.v, x.rows])
  mono := by
    rintro p q H H' v x ⟨bt, ba, rfl, hp, h1, h2⟩ hk hq
    exact ⟨bt, ba, rfl, ⟨hq _ hp.1, hq _ hp.2⟩, hk.2 _ _ hp.1 h1, hk.2 _ _ hp.2 h2⟩
  pure := by
    rintro p q H H' v x ⟨bt, ba, rfl, _⟩ hp
    simp [AV.pure, AV.pureAll] at hp
theorem all_ret {H : Heap} {v k : Int} {rows : AV} (hr : rows.cells = [rows] ∧ rows.one = true) : Ret E 87 [.ag [.i v, rows], .i k] (fun _ => False) H (AllR.mk v rows k) := by
  refine Ret.ro rfl fn87 rfl ?_
  unfold f87A
  simp (disch := (first | assumption | omega | (simp only [List.length_append, List.length_cons, List.length_nil]; omega))) only [↓wD,wU,Nat.reduceBEq,zx150,zx151,zx159,zx160,zx161,zx162,Nat.reduceAdd,Nat.reduceSub,Nat.reduceMul,Nat.reduceLeDiff,Nat.reduceLT,Nat.reduceEqDiff,Int.reduceAdd,Int.reduceSub,Int.reduceMul,Int.reduceNeg,Int.reduceLT,Int.reduceLE,Int.reduceEq,Int.reduceToNat,Int.cast_ofNat_Int,↓reduceIte, *]
  refine ⟨_, _, rfl, ?_, ?_⟩
  · simp
  · simp
/-- the iterator, behind a range over it -/
theorem all_range {lo : Nat} {v : Int} {rows : AV} {t : List (List Int)} {k bt ba : Nat} {H0 Hr H1 : Heap} {K0 K : Nat → Prop} {Q : Bool → (Nat → Prop) → Heap → Prop} (hlo : lo ≤ Hr.length)
    (c1 : Hr[bt]? = some (.cells [.i k])) (c2 : Hr[ba]? = some (.cells [.i v, rows])) (n1 : ¬ K0 bt) (n2 : ¬ K0 ba) (hr : Sl (fun b => b < H0.length) H0 rows t) (hg : Kx (fun _ => True) H0 Hr) (hK0 : ∀ b, K0 b → H0.length ≤ b ∧ b < Hr.length)
    (hA : ArrP v t) (hk : k ≤ 3) (e : H1.length = Hr.length + 1) (hx : Kx (fun _ => True) Hr H1) (hK : ∀ b, K b ↔ K0 b ∨ b = Hr.length) (hI : Its E lo (.yl Hr.length) (Hr.length + 1) ArgA Q (allL v t k) K H1) :
    WpF E lo 102 ([] ++ .yl Hr.length :: [.p bt 0, .p ba 0]) H1 fun _ H' => ∃ ok K', Q ok K' H' := by
  rw [← e] at hI
  have b1 := (List.getElem?_eq_some_iff.1 c1).1
  have b2 := (List.getElem?_eq_some_iff.1 c2).1
  refine all_it (by omega) ⟨rfl, rfl⟩ ⟨hx.get trivial c1, fun q => ((hK _).1 q).elim n1 (by omega)⟩ ⟨hx.get trivial c2, fun q => ((hK _).1 q).elim n2 (by omega)⟩ (((hr.kp (hg.all _).kp).kp (hx.all _).kp).weak fun b h q => ?_) hA hk (fun b q => ?_) hI
  · rcases (hK b).1 q with q | q
    · have := (hK0 b q).1; omega
    · have := hg.1; omega
  · rcases (hK b).1 q with q | q
    · have := (hK0 b q).2; omega
    · omega
theorem argA_len : ∀ (Ki : Nat → Prop) (H1 : Heap) (args : List AV) (x : List Int × Nat), ArgA Ki H1 args x → args.length = 2 := by rintro _ _ _ _ ⟨u, rfl, _⟩; rfl
end Go.Proofs.Ytalaadcbpjnglaa
namespace Go.Proofs.Ytalaadcbpjnglaa
open Go Go.AM Go.Proofs
def fstN (l : List (List Int × Nat)) : Nat := (l.head?.map Prod.snd).getD 0
def evenB (l : List (List Int × Nat)) : Bool := l.all fun x => x.2 == fstN l
def idxL (l : List (List Int × Nat)) : Int := if l.length = 0 then -1 else if evenB l = true then fstN l else 0
theorem index_ret {p : Nat → Prop} {H : Heap} {rows : AV} {v : Int} {t : List (List Int)} {k : Nat} (ht : Sl p H rows t) (hA : ArrP v t) (h2 : k ≤ 3) :
    RetP E 88 [.ag [.i v, rows], .i k] H (.i (idxL (allL v t k))) := by
  refine RetP.ro rfl fn88 rfl rfl ?_
  unfold f88A
  have hlow : Sl (fun b => b < H.length) H rows t := ht.low.weak fun _ h => h.2
  simp (disch := (first | assumption | omega | (simp only [List.length_append, List.length_cons, List.length_nil]; omega))) only [↓wD,wU,Nat.reduceBEq,zx150,zx151,zx159,zx160,zx161,zx162,Nat.reduceAdd,Nat.reduceSub,Nat.reduceMul,Nat.reduceLeDiff,Nat.reduceLT,Nat.reduceEqDiff,Int.reduceAdd,Int.reduceSub,Int.reduceMul,Int.reduceNeg,Int.reduceLT,Int.reduceLE,Int.reduceEq,Int.reduceToNat,Int.cast_ofNat_Int,↓reduceIte, *, ht.cellsV]
  refine (all_ret ht.cellsV).toX fun w Hr x1 hw => ?_
  obtain ⟨bt, ba, rfl, hp, c1, c2⟩ := hw
  have hp1 : H.length + 3 ≤ bt := by have := hp.1; simp at this; omega
  have hp2 : H.length + 3 ≤ ba := by have := hp.2; simp at this; omega
  clear hp
  have d4 : Hr[H.length + 1]? = some (.cells [.i 0]) := x1.get trivial (by simp [List.getElem?_append])
  have d5 : Hr[H.length + 2]? = some (.cells [.i (-1)]) := x1.get trivial (by simp [List.getElem?_append])
  have hx0 : Kx (fun _ => True) H Hr := (((Kx.app (fun _ => True) H _).app' _).app' _).trans x1 fun _ _ _ => trivial
  have hl := (List.getElem?_eq_some_iff.1 c1).1
  clear x1
  simp (disch := (first | assumption | omega | (simp only [List.length_append, List.length_cons, List.length_nil]; omega))) only [↓wD,wU,Nat.reduceBEq,zx150,zx151,zx159,zx160,zx161,zx162,Nat.reduceAdd,Nat.reduceSub,Nat.reduceMul,Nat.reduceLeDiff,Nat.reduceLT,Nat.reduceEqDiff,Int.reduceAdd,Int.reduceSub,Int.reduceMul,Int.reduceNeg,Int.reduceLT,Int.reduceLE,Int.reduceEq,Int.reduceToNat,Int.cast_ofNat_Int,↓reduceIte, *]
  obtain ⟨l, el⟩ : ∃ l, allL v t k = l := ⟨_, rfl⟩
  refine Wp.range (A := ArgA) l (fun b => b = H.length + 1 ∨ b = H.length + 2) (fun i K H1 => H1[H.length + 1]? = some (.cells [.i 0]) ∧ ∃ f, H1[H.length + 2]? = some (.cells [.i f]) ∧ ((i = 0 ∧ f = -1) ∨ (0 < i ∧ f = fstN l ∧ ∀ x ∈ l.take i, x.2 = fstN l)))
    (fun j K H1 => j = .ret ∧ H1[H.length + 1]? = some (.cells [.i 0]) ∧ 0 < l.length ∧ evenB l = false) (by (simp (disch := (first | assumption | omega | (simp only [List.length_append, List.length_cons, List.length_nil]; omega))) only [↓wD,wU,Nat.reduceBEq,zx150,zx151,zx159,zx160,zx161,zx162,Nat.reduceAdd,Nat.reduceSub,Nat.reduceMul,Nat.reduceLeDiff,Nat.reduceLT,Nat.reduceEqDiff,Int.reduceAdd,Int.reduceSub,Int.reduceMul,Int.reduceNeg,Int.reduceLT,Int.reduceLE,Int.reduceEq,Int.reduceToNat,Int.cast_ofNat_Int,↓reduceIte, *]) <;> rfl) rfl (by omega) (fun b h => by omega) argA_len ?_ ?_ ?_ ?_ ?_ ?_ ?_
  · exact fun K' H1 Q' e hx hK' hI => all_range (by omega) c1 c2 (by omega) (by omega) hlow hx0 (fun b h => by omega) hA h2 e hx hK' (by rw [el]; exact hI)
  · rintro i K H1 H2 ⟨q1, f, q2, q3⟩ hx
    exact ⟨hx.get (.inl (by omega)) q1, f, hx.get (.inl (by omega)) q2, q3⟩
  · exact fun j K H1 H2 h hx => ⟨h.1, hx.get (.inl (by omega)) h.2.1, h.2.2⟩
  · exact ⟨d4, -1, d5, .inl ⟨rfl, rfl⟩⟩
  · rintro i hi K Ki args H1 ⟨q4, f, q5, q6⟩ ⟨u, rfl, hu⟩ hKi hK hx hl1 hlr hKK
    have hfst : fstN l = (l[0]'(by omega)).2 := by unfold fstN; cases l with | nil => simp at hi | cons x r => rfl
    obtain ⟨n, en⟩ : ∃ n, (l[i]).2 = n := ⟨_, rfl⟩
    rw [en]
    have kc1 := (hKK (H.length + 1) (by omega)).2 (.inl rfl)
    have kc2 := (hKK (H.length + 2) (by omega)).2 (.inr rfl)
    simp (disch := (first | assumption | omega | (simp only [List.length_append, List.length_cons, List.length_nil]; omega))) only [↓wD,wU,Nat.reduceBEq,zx150,zx151,zx159,zx160,zx161,zx162,Nat.reduceAdd,Nat.reduceSub,Nat.reduceMul,Nat.reduceLeDiff,Nat.reduceLT,Nat.reduceEqDiff,Int.reduceAdd,Int.reduceSub,Int.reduceMul,Int.reduceNeg,Int.reduceLT,Int.reduceLE,Int.reduceEq,Int.reduceToNat,Int.cast_ofNat_Int,↓reduceIte, *, zx188 (lo := H.length) hlr (by omega)]
    generalize e2 : H1.set Hr.length _ = H2
    have x12 : Kx (fun b => b ≠ Hr.length) H1 H2 := by rw [← e2]; exact Kx.set _ _ _
    have l12 : H2.length ≤ H1.length ∧ H1.length ≤ H2.length := by rw [← e2]; simp
    have gl := gset e2 hlr
    have r4 := x12.get (by omega) q4
    have r5 := x12.get (by omega) q5
    clear e2
    have bad : ∀ (x : Nat), 0 < i → x = n → ¬ (x = fstN l) → 0 < l.length ∧ evenB l = false := fun x _ hx hne => ⟨by omega, by
      rw [evenB, ← Bool.not_eq_true, List.all_eq_true]
      intro hh
      have := hh _ (List.getElem_mem hi)
      simp at this; omega⟩
    rcases q6 with ⟨i0, f0⟩ | ⟨i1, f1, q7⟩
    · subst f0
      have en' : n ≤ fstN l ∧ fstN l ≤ n := by rw [hfst, ← en]; subst i0; exact ⟨Nat.le_refl _, Nat.le_refl _⟩
      clear hfst en bad
      simp (disch := (first | assumption | omega | (simp only [List.length_append, List.length_cons, List.length_nil]; omega))) only [↓wD,wU,Nat.reduceBEq,zx150,zx151,zx159,zx160,zx161,zx162,Nat.reduceAdd,Nat.reduceSub,Nat.reduceMul,Nat.reduceLeDiff,Nat.reduceLT,Nat.reduceEqDiff,Int.reduceAdd,Int.reduceSub,Int.reduceMul,Int.reduceNeg,Int.reduceLT,Int.reduceLE,Int.reduceEq,Int.reduceToNat,Int.cast_ofNat_Int,↓reduceIte, *, ld_of r5, st_of r5, ld_of (get_set r5)]
      have e : ∀ x ∈ l.take (i + 1), x.2 = fstN l := by
        subst i0
        intro x hx
        cases l with
        | nil => simp at hi
        | cons y r => simp at hx; subst hx; rfl
      refine ⟨?_, ?_, ?_, n, get_set r5, ?_⟩
      · rw [List.getElem?_set_ne (by omega)]; exact gl
      · exact (x12.weak fun b _ h => h.2).set' (fun _ h => h.1 (.inl kc2)) _
      · rw [List.getElem?_set_ne (by omega)]; exact r4
      · subst i0; first | exact e | exact .inr ⟨by omega, e⟩
    · have f2 : 0 ≤ f ∧ f ≤ fstN l ∧ fstN l ≤ f := by omega
      clear f1 hfst
      simp (disch := (first | assumption | omega | (simp only [List.length_append, List.length_cons, List.length_nil]; omega))) only [↓wD,wU,Nat.reduceBEq,zx150,zx151,zx159,zx160,zx161,zx162,Nat.reduceAdd,Nat.reduceSub,Nat.reduceMul,Nat.reduceLeDiff,Nat.reduceLT,Nat.reduceEqDiff,Int.reduceAdd,Int.reduceSub,Int.reduceMul,Int.reduceNeg,Int.reduceLT,Int.reduceLE,Int.reduceEq,Int.reduceToNat,Int.cast_ofNat_Int,↓reduceIte, *, ld_of r5]
      refine condP_split (fun h0 => ?_) (fun h0 => ?_)
      · have hb := bad n i1 rfl (by omega)
        clear en bad
        simp (disch := (first | assumption | omega | (simp only [List.length_append, List.length_cons, List.length_nil]; omega))) only [↓wD,wU,Nat.reduceBEq,zx150,zx151,zx159,zx160,zx161,zx162,Nat.reduceAdd,Nat.reduceSub,Nat.reduceMul,Nat.reduceLeDiff,Nat.reduceLT,Nat.reduceEqDiff,Int.reduceAdd,Int.reduceSub,Int.reduceMul,Int.reduceNeg,Int.reduceLT,Int.reduceLE,Int.reduceEq,Int.reduceToNat,Int.cast_ofNat_Int,↓reduceIte, h0, st_of r4]
        refine ⟨?_, ((x12.weak fun b _ h => h.2).set' (fun _ h => h.1 (.inl kc1)) _), rfl, get_set r4, hb⟩
        rw [List.getElem?_set_ne (by omega)]; exact gl
      · simp (disch := (first | assumption | omega | (simp only [List.length_append, List.length_cons, List.length_nil]; omega))) only [↓wD,wU,Nat.reduceBEq,zx150,zx151,zx159,zx160,zx161,zx162,Nat.reduceAdd,Nat.reduceSub,Nat.reduceMul,Nat.reduceLeDiff,Nat.reduceLT,Nat.reduceEqDiff,Int.reduceAdd,Int.reduceSub,Int.reduceMul,Int.reduceNeg,Int.reduceLT,Int.reduceLE,Int.reduceEq,Int.reduceToNat,Int.cast_ofNat_Int,↓reduceIte, *]
        have e : ∀ x ∈ l.take (i + 1), x.2 = fstN l := by
          rw [List.take_succ_eq_append_getElem hi]
          intro x hx
          rcases List.mem_append.1 hx with hx | hx
          · exact q7 x hx
          · simp at hx; subst hx; omega
        refine ⟨x12.weak fun b _ h => h.2, f, rfl, .inr ⟨by omega, by omega, e⟩⟩
  · rintro K H1 ⟨q4, f, q5, q6⟩ hx hl1
    simp (disch := (first | assumption | omega | (simp only [List.length_append, List.length_cons, List.length_nil]; omega))) only [↓wD,wU,Nat.reduceBEq,zx150,zx151,zx159,zx160,zx161,zx162,Nat.reduceAdd,Nat.reduceSub,Nat.reduceMul,Nat.reduceLeDiff,Nat.reduceLT,Nat.reduceEqDiff,Int.reduceAdd,Int.reduceSub,Int.reduceMul,Int.reduceNeg,Int.reduceLT,Int.reduceLE,Int.reduceEq,Int.reduceToNat,Int.cast_ofNat_Int,↓reduceIte, *, ld_of q5, st_of q4, ld_of (get_set q4)]
    rcases q6 with ⟨i0, f0⟩ | ⟨i1, f1, q7⟩
    · rw [idxL, if_pos i0, f0]
    · rw [List.take_length] at q7
      have hev : evenB l = true := by
        rw [evenB, List.all_eq_true]
        intro x hx
        simp [q7 x hx]
      rw [idxL, if_neg (by omega), if_pos hev, f1]
  · rintro j K H1 ⟨rfl, q4, q5, q6⟩ hx hl1
    change Wp E H.length none (.code .ret :: _) _ _ _
    simp (disch := (first | assumption | omega | (simp only [List.length_append, List.length_cons, List.length_nil]; omega))) only [↓wD,wU,Nat.reduceBEq,zx150,zx151,zx159,zx160,zx161,zx162,Nat.reduceAdd,Nat.reduceSub,Nat.reduceMul,Nat.reduceLeDiff,Nat.reduceLT,Nat.reduceEqDiff,Int.reduceAdd,Int.reduceSub,Int.reduceMul,Int.reduceNeg,Int.reduceLT,Int.reduceLE,Int.reduceEq,Int.reduceToNat,Int.cast_ofNat_Int,↓reduceIte, *, ld_of q4]
    rw [idxL, if_neg (by omega), q6]; rfl
theorem fair_ret {p : Nat → Prop} {H : Heap} {rows : AV} {v : Int} {t : List (List Int)} {k : Nat} (ht : Sl p H rows t) (hA : ArrP v t) (h1 : 1 ≤ k) (h2 : k ≤ 3) (h3 : k ≤ wd t) :
    RetP E 57 [.ag [.i v, rows], .i k] H (.tp [.b (decide (0 < idxL (allL v t k))), .i 0]) := by
  refine RetP.ro rfl fn57 rfl rfl ?_
  unfold f57A
  have k1 := ht.app [.cells [.i v, rows]]
  have g1 : ArrP v t ∧ 1 ≤ (k : Int) ∧ (k : Int) ≤ 3 ∧ (k : Int) ≤ wd t := ⟨hA, by omega, by omega, by omega⟩
  simp (disch := (first | assumption | omega | (simp only [List.length_append, List.length_cons, List.length_nil]; omega))) only [↓wD,wU,Nat.reduceBEq,zx150,zx151,zx159,zx160,zx161,zx162,Nat.reduceAdd,Nat.reduceSub,Nat.reduceMul,Nat.reduceLeDiff,Nat.reduceLT,Nat.reduceEqDiff,Int.reduceAdd,Int.reduceSub,Int.reduceMul,Int.reduceNeg,Int.reduceLT,Int.reduceLE,Int.reduceEq,Int.reduceToNat,Int.cast_ofNat_Int,↓reduceIte, *, ht.cellsV, (strong_ret k1).call, decide_eq_true g1, (index_ret k1 hA h2).call]
theorem indexX_ret {p : Nat → Prop} {H : Heap} {rows : AV} {v : Int} {t : List (List Int)} {k : Nat} (ht : Sl p H rows t) (hA : ArrP v t) (h1 : 1 ≤ k) (h2 : k ≤ 3) (h3 : k ≤ wd t) :
    RetP E 48 [.ag [.i v, rows], .i k] H (if idxL (allL v t k) = 0 then .tp [.i 0, .i 4] else .tp [.i (idxL (allL v t k)), .i 0]) := by
  refine RetP.ro rfl fn48 rfl (by split <;> rfl) ?_
  unfold f48A
  have k1 := ht.app [.cells [.i v, rows]]
  have g1 : ArrP v t ∧ 1 ≤ (k : Int) ∧ (k : Int) ≤ 3 ∧ (k : Int) ≤ wd t := ⟨hA, by omega, by omega, by omega⟩
  by_cases h0 : idxL (allL v t k) = 0
  · simp (disch := (first | assumption | omega | (simp only [List.length_append, List.length_cons, List.length_nil]; omega))) only [↓wD,wU,Nat.reduceBEq,zx150,zx151,zx159,zx160,zx161,zx162,Nat.reduceAdd,Nat.reduceSub,Nat.reduceMul,Nat.reduceLeDiff,Nat.reduceLT,Nat.reduceEqDiff,Int.reduceAdd,Int.reduceSub,Int.reduceMul,Int.reduceNeg,Int.reduceLT,Int.reduceLE,Int.reduceEq,Int.reduceToNat,Int.cast_ofNat_Int,↓reduceIte, *, ht.cellsV, (strong_ret k1).call, decide_eq_true g1, (index_ret k1 hA h2).call]
  · simp (disch := (first | assumption | omega | (simp only [List.length_append, List.length_cons, List.length_nil]; omega))) only [↓wD,wU,Nat.reduceBEq,zx150,zx151,zx159,zx160,zx161,zx162,Nat.reduceAdd,Nat.reduceSub,Nat.reduceMul,Nat.reduceLeDiff,Nat.reduceLT,Nat.reduceEqDiff,Int.reduceAdd,Int.reduceSub,Int.reduceMul,Int.reduceNeg,Int.reduceLT,Int.reduceLE,Int.reduceEq,Int.reduceToNat,Int.cast_ofNat_Int,↓reduceIte, *, ht.cellsV, (strong_ret k1).call, decide_eq_true g1, (index_ret k1 hA h2).call]
end Go.Proofs.Ytalaadcbpjnglaa
namespace Go.Proofs.Ytalaadcbpjnglaa
open Go Go.AM Go.Proofs
theorem Acc.int {L : Nat} {q : Nat → Prop} {H : Heap} {v : AV} {xs : List Int} (h : Acc L q H v xs) : Sl (fun b => L ≤ b) H v xs := by
  rcases h with h | ⟨b, o, c, k, e, hb, hk, h1, h2, h3⟩
  · exact .inl h
  · exact .inr ⟨b, o, c, k, e, hb, hk, h1, h2, h3⟩
end Go.Proofs.Ytalaadcbpjnglaa
namespace Go.Proofs.Ytalaadcbpjnglaa
open Go Go.AM Go.Proofs
def dstT (r s : List Int) (c : Nat) : Nat := (List.range c).countP fun x : Nat => !decide (gi r (x : Int) = gi s (x : Int))
theorem dstT_succ {r s : List Int} {c : Nat} : dstT r s (c + 1) = dstT r s c + if gi r (c : Int) = gi s (c : Int) then 0 else 1 := by
  unfold dstT
  rw [List.range_succ, List.countP_append]
  congr 1
  by_cases h : gi r (c : Int) = gi s (c : Int) <;> simp [h]
theorem dstT_le {r s : List Int} {c : Nat} : dstT r s c ≤ c := by
  unfold dstT
  exact Nat.le_trans List.countP_le_length (by simp)
/-- how far two rows are apart -/
def dst (r s : List Int) : Nat := dstT r s r.length
def dstP (t : List (List Int)) (i j : Nat) : List Int := (List.range j).map fun j : Nat => (dst (gi t (i : Int)) (gi t (j : Int)) : Int)
def dstA (t : List (List Int)) (n : Nat) : List Int := (List.range n).flatMap fun i => dstP t i i
theorem dstP_succ {t : List (List Int)} {i j : Nat} : dstP t i (j + 1) = dstP t i j ++ [(dst (gi t (i : Int)) (gi t (j : Int)) : Int)] := by
  unfold dstP; rw [List.range_succ, List.map_append]; rfl
theorem dstA_succ {t : List (List Int)} {i : Nat} : dstA t (i + 1) = dstA t i ++ dstP t i i := by
  unfold dstA; rw [List.range_succ, List.flatMap_append]; simp
def minF (m : Int) (l : List Int) : Int := l.foldl min m
theorem minF_app {m x : Int} {l : List Int} : minF m (l ++ [x]) = min (minF m l) x := by simp [minF]
theorem take_cut {α : Type} [Rep α] {p : Nat → Prop} {H : Heap} {v : AV} {xs : List α} (h : Sl p H v xs) {i : Nat} (hi : i ≤ xs.length) : Sl p H (v.cut 0 i) (xs.take i) ∧ (xs.take i).length = i ∧ slV (Rep.sz α) v none (some (.i i)) none = some (v.cut 0 i) := by
  refine ⟨by simpa using h.cut (a := 0) (b := i) (by omega) hi, by rw [List.length_take]; omega, h.slV_lh none _ ?_ (bound_none (by omega)) (by omega) hi⟩
  rw [bound_some (by omega) (by omega)]; simp
theorem gi_take {α : Type} [Inhabited α] {xs : List α} {i j : Nat} (h : j < i) (hi : i ≤ xs.length) : gi (xs.take i) (j : Int) = gi xs (j : Int) := by
  rw [gi_nat (by rw [List.length_take]; omega), gi_nat (by omega)]; simp
theorem distance_ret {p : Nat → Prop} {H : Heap} {rows : AV} {v : Int} {t : List (List Int)} (ht : Sl p H rows t) (hA : ArrP v t) (h2 : 2 ≤ t.length) :
    RetP E 47 [.ag [.i v, rows]] H (.tp [.i (minF (wd t) (dstA t t.length)), .i 0]) := by
  refine RetP.ro rfl fn47 rfl rfl ?_
  unfold f47A
  have k1 := ht.app [.cells [.i v, rows]]
  have hw := hA.wd
  have hb := hA.2.2.2.1
  have hn1 : ¬ (t.length : Int) = 1 := by omega
  simp (disch := (first | assumption | omega | (simp only [List.length_append, List.length_cons, List.length_nil]; omega))) only [↓wD,wU,Nat.reduceBEq,zx150,zx151,zx159,zx160,zx161,zx162,Nat.reduceAdd,Nat.reduceSub,Nat.reduceMul,Nat.reduceLeDiff,Nat.reduceLT,Nat.reduceEqDiff,Int.reduceAdd,Int.reduceSub,Int.reduceMul,Int.reduceNeg,Int.reduceLT,Int.reduceLE,Int.reduceEq,Int.reduceToNat,Int.cast_ofNat_Int,↓reduceIte, *, ht.L, (valid_ret k1).call, decide_eq_true hA, (columns_ret k1 (by omega)).call]
  refine Wp.for t.length (fun i a H' => H' = H ++ [.cells [.i v, rows]] ∧ a 1 = .p H.length 0 ∧ a 23 = rows ∧ a 24 = .i t.length ∧ a 25 = .i i ∧ a 4 = .i (minF (wd t) (dstA t i))) ?_ ?_
  · rintro i a H' hi ⟨rfl, a1, a23, a24, a25, a4⟩ ih
    simp (disch := (first | assumption | omega | (simp only [List.length_append, List.length_cons, List.length_nil]; omega))) only [↓wD,wU,Nat.reduceBEq,zx150,zx151,zx159,zx160,zx161,zx162,Nat.reduceAdd,Nat.reduceSub,Nat.reduceMul,Nat.reduceLeDiff,Nat.reduceLT,Nat.reduceEqDiff,Int.reduceAdd,Int.reduceSub,Int.reduceMul,Int.reduceNeg,Int.reduceLT,Int.reduceLE,Int.reduceEq,Int.reduceToNat,Int.cast_ofNat_Int,↓reduceIte, *]
    refine condP_split (fun hlt => ?_) (fun hlt => ?_)
    · have hi' : i < t.length := by omega
      have g := k1.get (k := (i : Int)) (by omega) (by omega)
      have gl := (hA.row (mem_gi hi')).1
      obtain ⟨kc, kl, hs⟩ := take_cut k1 (i := i) (by omega)
      have hs' : slV 1 rows none (some (.i i)) none = some (rows.cut 0 i) := hs
      have kcL := kc.L
      rw [kl] at kcL
      simp (disch := (first | assumption | omega | (simp only [List.length_append, List.length_cons, List.length_nil]; omega))) only [↓wD,wU,Nat.reduceBEq,zx150,zx151,zx159,zx160,zx161,zx162,Nat.reduceAdd,Nat.reduceSub,Nat.reduceMul,Nat.reduceLeDiff,Nat.reduceLT,Nat.reduceEqDiff,Int.reduceAdd,Int.reduceSub,Int.reduceMul,Int.reduceNeg,Int.reduceLT,Int.reduceLE,Int.reduceEq,Int.reduceToNat,Int.cast_ofNat_Int,↓reduceIte, *, k1.L, g.I, hs', kcL]
      refine Wp.for i (fun j a H' => H' = H ++ [.cells [.i v, rows]] ∧ a 1 = .p H.length 0 ∧ a 23 = rows ∧ a 24 = .i t.length ∧ a 25 = .i i ∧ a 6 = rows.get (H ++ [.cells [.i v, rows]]) i ∧ a 33 = rows.cut 0 i ∧ a 34 = .i i ∧ a 35 = .i j ∧ a 4 = .i (minF (wd t) (dstA t i ++ dstP t i j))) ?_ ?_
      · clear a1 a23 a24 a25 a4
        rintro j a H' hj ⟨rfl, a1, a23, a24, a25, a6, a33, a34, a35, a4⟩ ih2
        simp (disch := (first | assumption | omega | (simp only [List.length_append, List.length_cons, List.length_nil]; omega))) only [↓wD,wU,Nat.reduceBEq,zx150,zx151,zx159,zx160,zx161,zx162,Nat.reduceAdd,Nat.reduceSub,Nat.reduceMul,Nat.reduceLeDiff,Nat.reduceLT,Nat.reduceEqDiff,Int.reduceAdd,Int.reduceSub,Int.reduceMul,Int.reduceNeg,Int.reduceLT,Int.reduceLE,Int.reduceEq,Int.reduceToNat,Int.cast_ofNat_Int,↓reduceIte, *]
        refine condP_split (fun hlt2 => ?_) (fun hlt2 => ?_)
        · have hj' : j < i := by omega
          have g2 := kc.get (k := (j : Int)) (by omega) (by omega)
          rw [gi_take hj' (by omega)] at g2
          have gl2 := (hA.row (mem_gi (show j < t.length by omega))).1
          have hd : minF (wd t) (dstA t i ++ dstP t i (j + 1)) = min (minF (wd t) (dstA t i ++ dstP t i j)) (dst (gi t (i : Int)) (gi t (j : Int))) := by
            rw [dstP_succ, ← List.append_assoc, minF_app]
          simp (disch := (first | assumption | omega | (simp only [List.length_append, List.length_cons, List.length_nil]; omega))) only [↓wD,wU,Nat.reduceBEq,zx150,zx151,zx159,zx160,zx161,zx162,Nat.reduceAdd,Nat.reduceSub,Nat.reduceMul,Nat.reduceLeDiff,Nat.reduceLT,Nat.reduceEqDiff,Int.reduceAdd,Int.reduceSub,Int.reduceMul,Int.reduceNeg,Int.reduceLT,Int.reduceLE,Int.reduceEq,Int.reduceToNat,Int.cast_ofNat_Int,↓reduceIte, *, kcL, g.I]
          refine Wp.for (gi t i).length (fun c a H' => H' = H ++ [.cells [.i v, rows]] ∧ a 1 = .p H.length 0 ∧ a 23 = rows ∧ a 24 = .i t.length ∧ a 25 = .i i ∧ a 6 = rows.get (H ++ [.cells [.i v, rows]]) i ∧ a 33 = rows.cut 0 i ∧ a 34 = .i i ∧ a 35 = .i j ∧ a 4 = .i (minF (wd t) (dstA t i ++ dstP t i j)) ∧ a 8 = (rows.cut 0 i).get (H ++ [.cells [.i v, rows]]) j ∧ a 40 = .i (gi t i).length ∧ a 41 = .i c ∧ a 9 = .i (dstT (gi t i) (gi t j) c)) ?_ ?_
          · clear a1 a23 a24 a25 a6 a33 a34 a35 a4 hd
            rintro c a H' hc ⟨rfl, a1, a23, a24, a25, a6, a33, a34, a35, a4, a8, a40, a41, a9⟩ ih3
            simp (disch := (first | assumption | omega | (simp only [List.length_append, List.length_cons, List.length_nil]; omega))) only [↓wD,wU,Nat.reduceBEq,zx150,zx151,zx159,zx160,zx161,zx162,Nat.reduceAdd,Nat.reduceSub,Nat.reduceMul,Nat.reduceLeDiff,Nat.reduceLT,Nat.reduceEqDiff,Int.reduceAdd,Int.reduceSub,Int.reduceMul,Int.reduceNeg,Int.reduceLT,Int.reduceLE,Int.reduceEq,Int.reduceToNat,Int.cast_ofNat_Int,↓reduceIte, *]
            refine condP_split (fun hlt3 => ?_) (fun hlt3 => ?_)
            · have hc' : c < (gi t i).length := by omega
              have hdl := dstT_le (r := gi t i) (s := gi t j) (c := c)
              have hds := dstT_succ (r := gi t i) (s := gi t j) (c := c)
              simp (disch := (first | assumption | omega | (simp only [List.length_append, List.length_cons, List.length_nil]; omega))) only [↓wD,wU,Nat.reduceBEq,zx150,zx151,zx159,zx160,zx161,zx162,Nat.reduceAdd,Nat.reduceSub,Nat.reduceMul,Nat.reduceLeDiff,Nat.reduceLT,Nat.reduceEqDiff,Int.reduceAdd,Int.reduceSub,Int.reduceMul,Int.reduceNeg,Int.reduceLT,Int.reduceLE,Int.reduceEq,Int.reduceToNat,Int.cast_ofNat_Int,↓reduceIte, *, g.I, g2.I]
              refine condP_split (fun hne => ?_) (fun hne => ?_)
              · rw [if_neg hne] at hds
                clear hne
                simp (disch := (first | assumption | omega | (simp only [List.length_append, List.length_cons, List.length_nil]; omega))) only [↓wD,wU,Nat.reduceBEq,zx150,zx151,zx159,zx160,zx161,zx162,Nat.reduceAdd,Nat.reduceSub,Nat.reduceMul,Nat.reduceLeDiff,Nat.reduceLT,Nat.reduceEqDiff,Int.reduceAdd,Int.reduceSub,Int.reduceMul,Int.reduceNeg,Int.reduceLT,Int.reduceLE,Int.reduceEq,Int.reduceToNat,Int.cast_ofNat_Int,↓reduceIte, *]
                refine (ih3 hc').go ⟨rfl, ?_⟩
                simp (disch := (first | assumption | omega | (simp only [List.length_append, List.length_cons, List.length_nil]; omega))) only [↓wD,wU,Nat.reduceBEq,zx150,zx151,zx159,zx160,zx161,zx162,Nat.reduceAdd,Nat.reduceSub,Nat.reduceMul,Nat.reduceLeDiff,Nat.reduceLT,Nat.reduceEqDiff,Int.reduceAdd,Int.reduceSub,Int.reduceMul,Int.reduceNeg,Int.reduceLT,Int.reduceLE,Int.reduceEq,Int.reduceToNat,Int.cast_ofNat_Int,↓reduceIte, *]
              · rw [if_pos (Classical.not_not.1 hne)] at hds
                clear hne
                simp (disch := (first | assumption | omega | (simp only [List.length_append, List.length_cons, List.length_nil]; omega))) only [↓wD,wU,Nat.reduceBEq,zx150,zx151,zx159,zx160,zx161,zx162,Nat.reduceAdd,Nat.reduceSub,Nat.reduceMul,Nat.reduceLeDiff,Nat.reduceLT,Nat.reduceEqDiff,Int.reduceAdd,Int.reduceSub,Int.reduceMul,Int.reduceNeg,Int.reduceLT,Int.reduceLE,Int.reduceEq,Int.reduceToNat,Int.cast_ofNat_Int,↓reduceIte, *]
                refine (ih3 hc').go ⟨rfl, ?_⟩
                simp (disch := (first | assumption | omega | (simp only [List.length_append, List.length_cons, List.length_nil]; omega))) only [↓wD,wU,Nat.reduceBEq,zx150,zx151,zx159,zx160,zx161,zx162,Nat.reduceAdd,Nat.reduceSub,Nat.reduceMul,Nat.reduceLeDiff,Nat.reduceLT,Nat.reduceEqDiff,Int.reduceAdd,Int.reduceSub,Int.reduceMul,Int.reduceNeg,Int.reduceLT,Int.reduceLE,Int.reduceEq,Int.reduceToNat,Int.cast_ofNat_Int,↓reduceIte, *]
            · obtain rfl : c = (gi t i).length := by omega
              have hd : minF (wd t) (dstA t i ++ dstP t i (j + 1)) = min (minF (wd t) (dstA t i ++ dstP t i j)) (dstT (gi t (i : Int)) (gi t (j : Int)) (gi t (i : Int)).length) := by
                rw [dstP_succ, ← List.append_assoc, minF_app]; rfl
              simp (disch := (first | assumption | omega | (simp only [List.length_append, List.length_cons, List.length_nil]; omega))) only [↓wD,wU,Nat.reduceBEq,zx150,zx151,zx159,zx160,zx161,zx162,Nat.reduceAdd,Nat.reduceSub,Nat.reduceMul,Nat.reduceLeDiff,Nat.reduceLT,Nat.reduceEqDiff,Int.reduceAdd,Int.reduceSub,Int.reduceMul,Int.reduceNeg,Int.reduceLT,Int.reduceLE,Int.reduceEq,Int.reduceToNat,Int.cast_ofNat_Int,↓reduceIte, *]
              refine (ih2 hj').go ⟨rfl, ?_⟩
              simp (disch := (first | assumption | omega | (simp only [List.length_append, List.length_cons, List.length_nil]; omega))) only [↓wD,wU,Nat.reduceBEq,zx150,zx151,zx159,zx160,zx161,zx162,Nat.reduceAdd,Nat.reduceSub,Nat.reduceMul,Nat.reduceLeDiff,Nat.reduceLT,Nat.reduceEqDiff,Int.reduceAdd,Int.reduceSub,Int.reduceMul,Int.reduceNeg,Int.reduceLT,Int.reduceLE,Int.reduceEq,Int.reduceToNat,Int.cast_ofNat_Int,↓reduceIte, *]
          · (simp (disch := (first | assumption | omega | (simp only [List.length_append, List.length_cons, List.length_nil]; omega))) only [↓wD,wU,Nat.reduceBEq,zx150,zx151,zx159,zx160,zx161,zx162,Nat.reduceAdd,Nat.reduceSub,Nat.reduceMul,Nat.reduceLeDiff,Nat.reduceLT,Nat.reduceEqDiff,Int.reduceAdd,Int.reduceSub,Int.reduceMul,Int.reduceNeg,Int.reduceLT,Int.reduceLE,Int.reduceEq,Int.reduceToNat,Int.cast_ofNat_Int,↓reduceIte, *]) <;> simp [dstT]
        · obtain rfl : j = i := by omega
          have hd := dstA_succ (t := t) (i := j)
          simp (disch := (first | assumption | omega | (simp only [List.length_append, List.length_cons, List.length_nil]; omega))) only [↓wD,wU,Nat.reduceBEq,zx150,zx151,zx159,zx160,zx161,zx162,Nat.reduceAdd,Nat.reduceSub,Nat.reduceMul,Nat.reduceLeDiff,Nat.reduceLT,Nat.reduceEqDiff,Int.reduceAdd,Int.reduceSub,Int.reduceMul,Int.reduceNeg,Int.reduceLT,Int.reduceLE,Int.reduceEq,Int.reduceToNat,Int.cast_ofNat_Int,↓reduceIte, *]
          refine (ih hi').go ⟨rfl, ?_⟩
          simp (disch := (first | assumption | omega | (simp only [List.length_append, List.length_cons, List.length_nil]; omega))) only [↓wD,wU,Nat.reduceBEq,zx150,zx151,zx159,zx160,zx161,zx162,Nat.reduceAdd,Nat.reduceSub,Nat.reduceMul,Nat.reduceLeDiff,Nat.reduceLT,Nat.reduceEqDiff,Int.reduceAdd,Int.reduceSub,Int.reduceMul,Int.reduceNeg,Int.reduceLT,Int.reduceLE,Int.reduceEq,Int.reduceToNat,Int.cast_ofNat_Int,↓reduceIte, *]
      · (simp (disch := (first | assumption | omega | (simp only [List.length_append, List.length_cons, List.length_nil]; omega))) only [↓wD,wU,Nat.reduceBEq,zx150,zx151,zx159,zx160,zx161,zx162,Nat.reduceAdd,Nat.reduceSub,Nat.reduceMul,Nat.reduceLeDiff,Nat.reduceLT,Nat.reduceEqDiff,Int.reduceAdd,Int.reduceSub,Int.reduceMul,Int.reduceNeg,Int.reduceLT,Int.reduceLE,Int.reduceEq,Int.reduceToNat,Int.cast_ofNat_Int,↓reduceIte, *]) <;> simp [dstP]
    · obtain rfl : i = t.length := by omega
      simp (disch := (first | assumption | omega | (simp only [List.length_append, List.length_cons, List.length_nil]; omega))) only [↓wD,wU,Nat.reduceBEq,zx150,zx151,zx159,zx160,zx161,zx162,Nat.reduceAdd,Nat.reduceSub,Nat.reduceMul,Nat.reduceLeDiff,Nat.reduceLT,Nat.reduceEqDiff,Int.reduceAdd,Int.reduceSub,Int.reduceMul,Int.reduceNeg,Int.reduceLT,Int.reduceLE,Int.reduceEq,Int.reduceToNat,Int.cast_ofNat_Int,↓reduceIte, *]
  · (simp (disch := (first | assumption | omega | (simp only [List.length_append, List.length_cons, List.length_nil]; omega))) only [↓wD,wU,Nat.reduceBEq,zx150,zx151,zx159,zx160,zx161,zx162,Nat.reduceAdd,Nat.reduceSub,Nat.reduceMul,Nat.reduceLeDiff,Nat.reduceLT,Nat.reduceEqDiff,Int.reduceAdd,Int.reduceSub,Int.reduceMul,Int.reduceNeg,Int.reduceLT,Int.reduceLE,Int.reduceEq,Int.reduceToNat,Int.cast_ofNat_Int,↓reduceIte, *]) <;> simp [dstA, minF]
end Go.Proofs.Ytalaadcbpjnglaa
namespace Go.Proofs.Ytalaadcbpjnglaa
open Go Go.AM Go.Proofs
theorem _root_.Go.AM.RetP.callv {E : Tab} {f : Nat} {us caps vs : List AV} {H : Heap} {v : AV} (h : RetP E f (us ++ vs ++ caps) H v) {lo : Nat} {Q : AV → Heap → Prop} : @callvP E lo (.fn f us caps) vs H ⟨Q⟩ = Q v H := h.iff
end Go.Proofs.Ytalaadcbpjnglaa
namespace Go.Proofs.Ytalaadcbpjnglaa
open Go Go.AM Go.Proofs
theorem awake_ret {H : Heap} : RetP E 25 [] H (.b true) :=
  RetP.closed (n := 300) rfl fn25 rfl rfl (by kernel_rfl)
end Go.Proofs.Ytalaadcbpjnglaa
namespace Go.Proofs.Ytalaadcbpjnglaa
open Go Go.AM Go.Proofs
theorem u64_mod {k m : Int} (h : 0 < m) (h1 : m ≤ 100) : ∃ r : Int, 0 ≤ r ∧ r < m ∧ (IntKind.wrap .u64 k).tmod m = r ∧ IntKind.wrap .i64 r = r ∧ IntKind.wrap .i64 (2 + r) = 2 + r := by
  have h2 : 0 ≤ IntKind.wrap .u64 k := by
    have e1 : IntKind.u64.bits = 64 := rfl
    have e2 : IntKind.u64.signed = false := rfl
    simp only [IntKind.wrap, e1, e2, Bool.false_and, Bool.false_eq_true, if_false]
    exact Int.emod_nonneg _ (by decide)
  refine ⟨(IntKind.wrap .u64 k).tmod m, Int.tmod_nonneg _ h2, Int.tmod_lt_of_pos _ h, rfl, ?_⟩
  have h3 := Int.tmod_nonneg m h2
  have h4 := Int.tmod_lt_of_pos (IntKind.wrap .u64 k) h
  exact ⟨zx172 (by omega) (by omega), zx172 (by omega) (by omega)⟩
def smT (r s : List Int) (c : Nat) : Nat := (List.range c).countP fun x : Nat => decide (gi r (x : Int) = gi s (x : Int))
theorem smT_succ {r s : List Int} {c : Nat} : smT r s (c + 1) = smT r s c + if gi r (c : Int) = gi s (c : Int) then 1 else 0 := by
  unfold smT
  rw [List.range_succ, List.countP_append]
  congr 1
  by_cases h : gi r (c : Int) = gi s (c : Int) <;> simp [h]
theorem smT_le {r s : List Int} {c : Nat} : smT r s c ≤ c := by
  unfold smT
  exact Nat.le_trans List.countP_le_length (by simp)
theorem plane_walk {P : Nat} {t : List (List Int)} (hP : 2 ≤ P) (hP3 : P ≤ 3) (ht : linesL P = t) (hA : ArrP P t) (hn : t.length = P * P) (hw : wd t = P + 1) (hf : idxL (allL P t 2) = 1) (hd : minF (wd t) (dstA t t.length) = P)
    (hs1 : ∀ i : Nat, i < t.length → ∀ j : Nat, j < i → smT (gi t (i : Int)) (gi t (j : Int)) (wd t) = 1) {a : Fr} (ha : a 0 = .i P) (ha2 : a 2 = .b false) :
    Wp E 0 none [.code (match f10A.body with | .seq _ (.seq _ c) => c | c => c)] a [] (RetQ [.t 2] fun v _ => v.pure = true ∧ v = .b true) := by
  have hn16 := hA.2.2.2.1
  have hn1 := hA.2.2.1
  have hn4 : 2 ≤ t.length := by rw [hn]; have := Nat.mul_le_mul hP hP; omega
  have hPP := mul_small (m := 3) (n := 3) (show (0 : Int) ≤ P by omega) (show (P : Int) ≤ 3 by omega) (show (0 : Int) ≤ P by omega) (show (P : Int) ≤ 3 by omega) (by omega)
  have hnn : (P : Int) * P = t.length := by rw [hn, Int.natCast_mul]
  have hln := lines_ret (p := fun _ => True) (H := []) P hP hP3
  rw [ht] at hln
  clear ht hn
  unfold f10A
  dsimp only
  simp (disch := (first | assumption | omega | (simp only [List.length_append, List.length_cons, List.length_nil]; omega))) only [↓wD,wU,Nat.reduceBEq,zx150,zx151,zx159,zx160,zx161,zx162,Nat.reduceAdd,Nat.reduceSub,Nat.reduceMul,Nat.reduceLeDiff,Nat.reduceLT,Nat.reduceEqDiff,Int.reduceAdd,Int.reduceSub,Int.reduceMul,Int.reduceNeg,Int.reduceLT,Int.reduceLE,Int.reduceEq,Int.reduceToNat,Int.cast_ofNat_Int,↓reduceIte, *]
  refine hln.toX fun w H1 x1 hv => ?_
  obtain ⟨v1, v2, rfl, hv1, hv2⟩ := rv2 hv
  obtain ⟨u, rfl, hu⟩ := rv_si_elim hv1
  obtain rfl := rvi hv2
  have hu0 := hu.low.weak (q := fun b => b < H1.length) fun b h => h.2
  have c0 : (H1 ++ [.cells [.i P, u]])[H1.length]? = some (.cells [.i P, u]) := get_last
  have hst : st 0 (H1 ++ [.cells [.i 0, .nils]]) H1.length 0 [.i P, u] = some (H1 ++ [.cells [.i P, u]]) := by
    rw [st_of (cs := [.i 0, .nils]) (by simp) (by omega) (by simp)]
    simp [wr]
  have hu1 := hu0.app [.cells [.i P, u]]
  obtain ⟨H2, e2⟩ : ∃ H2, H1 ++ [.cells [.i P, u]] = H2 := ⟨_, rfl⟩
  rw [e2] at hst c0 hu1
  clear e2 hln
  have hfair : ∀ {p : Nat → Prop} {H' : Heap} {u' : AV}, Sl p H' u' t → RetP E 57 [.ag [.i P, u'], .i 2] H' (.tp [.b true, .i 0]) := fun hu' => by
    have := fair_ret (k := 2) hu' hA (by omega) (by omega) (by omega)
    rwa [hf] at this
  have hidx : ∀ {p : Nat → Prop} {H' : Heap} {u' : AV}, Sl p H' u' t → RetP E 48 [.ag [.i P, u'], .i 2] H' (.tp [.i 1, .i 0]) := fun hu' => by
    have := indexX_ret (k := 2) hu' hA (by omega) (by omega) (by omega)
    rwa [hf] at this
  have hdis : ∀ {p : Nat → Prop} {H' : Heap} {u' : AV}, Sl p H' u' t → RetP E 47 [.ag [.i P, u']] H' (.tp [.i P, .i 0]) := fun hu' => by
    have := distance_ret hu' hA hn4
    rwa [hd] at this
  clear hf hd
  simp (disch := (first | assumption | omega | (simp only [List.length_append, List.length_cons, List.length_nil]; omega))) only [↓wD,wU,Nat.reduceBEq,zx150,zx151,zx159,zx160,zx161,zx162,Nat.reduceAdd,Nat.reduceSub,Nat.reduceMul,Nat.reduceLeDiff,Nat.reduceLT,Nat.reduceEqDiff,Int.reduceAdd,Int.reduceSub,Int.reduceMul,Int.reduceNeg,Int.reduceLT,Int.reduceLE,Int.reduceEq,Int.reduceToNat,Int.cast_ofNat_Int,↓reduceIte, *, hu.cellsV, hst, ldn_of c0]
  refine (own_ret hu1).toX fun w H3 x3 hw' => ?_
  obtain ⟨u3, rfl, hu3⟩ := rv_si_elim hw'
  have c3 := x3.get trivial c0
  have hs3 := hu1.kp (x3.all _).kp
  simp (disch := (first | assumption | omega | (simp only [List.length_append, List.length_cons, List.length_nil]; omega))) only [↓wD,wU,Nat.reduceBEq,zx150,zx151,zx159,zx160,zx161,zx162,Nat.reduceAdd,Nat.reduceSub,Nat.reduceMul,Nat.reduceLeDiff,Nat.reduceLT,Nat.reduceEqDiff,Int.reduceAdd,Int.reduceSub,Int.reduceMul,Int.reduceNeg,Int.reduceLT,Int.reduceLE,Int.reduceEq,Int.reduceToNat,Int.cast_ofNat_Int,↓reduceIte, *, (rvalid_ret hu3).call, decide_eq_true hA, ld_of c3, ldn_of c3, hs3.L]
  refine (own_ret hs3).toX fun w H4 x4 hw' => ?_
  obtain ⟨u4, rfl, hu4⟩ := rv_si_elim hw'
  have c4 := x4.get trivial c3
  have hs4 := hs3.kp (x4.all _).kp
  have hwk : (wd t : Int) = P + 1 := by omega
  simp (disch := (first | assumption | omega | (simp only [List.length_append, List.length_cons, List.length_nil]; omega))) only [↓wD,wU,Nat.reduceBEq,zx150,zx151,zx159,zx160,zx161,zx162,Nat.reduceAdd,Nat.reduceSub,Nat.reduceMul,Nat.reduceLeDiff,Nat.reduceLT,Nat.reduceEqDiff,Int.reduceAdd,Int.reduceSub,Int.reduceMul,Int.reduceNeg,Int.reduceLT,Int.reduceLE,Int.reduceEq,Int.reduceToNat,Int.cast_ofNat_Int,↓reduceIte, *, (width_ret hu4 (by omega)).call, ld_of c4, ldn_of c4]
  clear hwk
  refine (own_ret hs4).toX fun w H5 x5 hw' => ?_
  obtain ⟨u5, rfl, hu5⟩ := rv_si_elim hw'
  have c5 := x5.get trivial c4
  have hs5 := hs4.kp (x5.all _).kp
  simp (disch := (first | assumption | omega | (simp only [List.length_append, List.length_cons, List.length_nil]; omega))) only [↓wD,wU,Nat.reduceBEq,zx150,zx151,zx159,zx160,zx161,zx162,Nat.reduceAdd,Nat.reduceSub,Nat.reduceMul,Nat.reduceLeDiff,Nat.reduceLT,Nat.reduceEqDiff,Int.reduceAdd,Int.reduceSub,Int.reduceMul,Int.reduceNeg,Int.reduceLT,Int.reduceLE,Int.reduceEq,Int.reduceToNat,Int.cast_ofNat_Int,↓reduceIte, *]
  refine (of_ret hu5).toX fun w H6 x6 hw' => ?_
  obtain ⟨u6, rfl, hu6⟩ := rv_si_elim hw'
  have c6 := x6.get trivial c5
  have hs6 := hs5.kp (x6.all _).kp
  rw [cutA_ok hA] at hu6
  simp (disch := (first | assumption | omega | (simp only [List.length_append, List.length_cons, List.length_nil]; omega))) only [↓wD,wU,Nat.reduceBEq,zx150,zx151,zx159,zx160,zx161,zx162,Nat.reduceAdd,Nat.reduceSub,Nat.reduceMul,Nat.reduceLeDiff,Nat.reduceLT,Nat.reduceEqDiff,Int.reduceAdd,Int.reduceSub,Int.reduceMul,Int.reduceNeg,Int.reduceLT,Int.reduceLE,Int.reduceEq,Int.reduceToNat,Int.cast_ofNat_Int,↓reduceIte, *, (hfair hu6).call, ldn_of c6]
  refine (own_ret hs6).toX fun w H7 x7 hw' => ?_
  obtain ⟨u7, rfl, hu7⟩ := rv_si_elim hw'
  have c7 := x7.get trivial c6
  have hs7 := hs6.kp (x7.all _).kp
  simp (disch := (first | assumption | omega | (simp only [List.length_append, List.length_cons, List.length_nil]; omega))) only [↓wD,wU,Nat.reduceBEq,zx150,zx151,zx159,zx160,zx161,zx162,Nat.reduceAdd,Nat.reduceSub,Nat.reduceMul,Nat.reduceLeDiff,Nat.reduceLT,Nat.reduceEqDiff,Int.reduceAdd,Int.reduceSub,Int.reduceMul,Int.reduceNeg,Int.reduceLT,Int.reduceLE,Int.reduceEq,Int.reduceToNat,Int.cast_ofNat_Int,↓reduceIte, *]
  refine (of_ret hu7).toX fun w H8 x8 hw' => ?_
  obtain ⟨u8, rfl, hu8⟩ := rv_si_elim hw'
  have c8 := x8.get trivial c7
  have hs8 := hs7.kp (x8.all _).kp
  rw [cutA_ok hA] at hu8
  simp (disch := (first | assumption | omega | (simp only [List.length_append, List.length_cons, List.length_nil]; omega))) only [↓wD,wU,Nat.reduceBEq,zx150,zx151,zx159,zx160,zx161,zx162,Nat.reduceAdd,Nat.reduceSub,Nat.reduceMul,Nat.reduceLeDiff,Nat.reduceLT,Nat.reduceEqDiff,Int.reduceAdd,Int.reduceSub,Int.reduceMul,Int.reduceNeg,Int.reduceLT,Int.reduceLE,Int.reduceEq,Int.reduceToNat,Int.cast_ofNat_Int,↓reduceIte, *, (hidx hu8).call, ldn_of c8]
  refine (own_ret hs8).toX fun w H9 x9 hw' => ?_
  obtain ⟨u9, rfl, hu9⟩ := rv_si_elim hw'
  have c9 := x9.get trivial c8
  have hs9 := hs8.kp (x9.all _).kp
  simp (disch := (first | assumption | omega | (simp only [List.length_append, List.length_cons, List.length_nil]; omega))) only [↓wD,wU,Nat.reduceBEq,zx150,zx151,zx159,zx160,zx161,zx162,Nat.reduceAdd,Nat.reduceSub,Nat.reduceMul,Nat.reduceLeDiff,Nat.reduceLT,Nat.reduceEqDiff,Int.reduceAdd,Int.reduceSub,Int.reduceMul,Int.reduceNeg,Int.reduceLT,Int.reduceLE,Int.reduceEq,Int.reduceToNat,Int.cast_ofNat_Int,↓reduceIte, *]
  refine (of_ret hu9).toX fun w Hz x10 hw' => ?_
  obtain ⟨u10, rfl, hu10⟩ := rv_si_elim hw'
  have cz := x10.get trivial c9
  have hsz := hs9.kp (x10.all _).kp
  rw [cutA_ok hA] at hu10
  simp (disch := (first | assumption | omega | (simp only [List.length_append, List.length_cons, List.length_nil]; omega))) only [↓wD,wU,Nat.reduceBEq,zx150,zx151,zx159,zx160,zx161,zx162,Nat.reduceAdd,Nat.reduceSub,Nat.reduceMul,Nat.reduceLeDiff,Nat.reduceLT,Nat.reduceEqDiff,Int.reduceAdd,Int.reduceSub,Int.reduceMul,Int.reduceNeg,Int.reduceLT,Int.reduceLE,Int.reduceEq,Int.reduceToNat,Int.cast_ofNat_Int,↓reduceIte, *, (hdis hu10).call, ld_of cz, hsz.L]
  refine Wp.for t.length (fun i a H' => H' = Hz ∧ a 0 = .i P ∧ a 3 = .p H1.length 0 ∧ a 5 = .b true ∧ a 6 = .i 0 ∧ a 7 = .i 1 ∧ a 8 = .i 0 ∧ a 9 = .i P ∧ a 10 = .i 0 ∧ a 80 = u ∧ a 81 = .i t.length ∧ a 82 = .i i) ?_ ?_
  · rintro i a H' hi ⟨rfl, a0, a3, a5, a6, a7, a8, a9, a10, a80, a81, a82⟩ ih
    simp (disch := (first | assumption | omega | (simp only [List.length_append, List.length_cons, List.length_nil]; omega))) only [↓wD,wU,Nat.reduceBEq,zx150,zx151,zx159,zx160,zx161,zx162,Nat.reduceAdd,Nat.reduceSub,Nat.reduceMul,Nat.reduceLeDiff,Nat.reduceLT,Nat.reduceEqDiff,Int.reduceAdd,Int.reduceSub,Int.reduceMul,Int.reduceNeg,Int.reduceLT,Int.reduceLE,Int.reduceEq,Int.reduceToNat,Int.cast_ofNat_Int,↓reduceIte, *]
    refine condP_split (fun hlt => ?_) (fun hlt => ?_)
    · have hi' : i < t.length := by omega
      have g := hsz.get (k := (i : Int)) (by omega) (by omega)
      have gl := (hA.row (mem_gi hi')).1
      obtain ⟨kc, kl, hs⟩ := take_cut hsz (i := i) (by omega)
      have hs' : slV 1 u none (some (.i i)) none = some (u.cut 0 i) := hs
      have kcL := kc.L
      rw [kl] at kcL
      have hs2 := hs1 i hi'
      clear hs1
      simp (disch := (first | assumption | omega | (simp only [List.length_append, List.length_cons, List.length_nil]; omega))) only [↓wD,wU,Nat.reduceBEq,zx150,zx151,zx159,zx160,zx161,zx162,Nat.reduceAdd,Nat.reduceSub,Nat.reduceMul,Nat.reduceLeDiff,Nat.reduceLT,Nat.reduceEqDiff,Int.reduceAdd,Int.reduceSub,Int.reduceMul,Int.reduceNeg,Int.reduceLT,Int.reduceLE,Int.reduceEq,Int.reduceToNat,Int.cast_ofNat_Int,↓reduceIte, *, hsz.L, g.I, hs', kcL, ld_of cz]
      refine Wp.for i (fun j a H'' => H'' = H' ∧ a 0 = .i P ∧ a 3 = .p H1.length 0 ∧ a 5 = .b true ∧ a 6 = .i 0 ∧ a 7 = .i 1 ∧ a 8 = .i 0 ∧ a 9 = .i P ∧ a 10 = .i 0 ∧ a 80 = u ∧ a 81 = .i t.length ∧ a 82 = .i i ∧ a 12 = u.get H' i ∧ a 90 = u.cut 0 i ∧ a 91 = .i i ∧ a 92 = .i j) ?_ ?_
      · clear a0 a3 a5 a6 a7 a8 a9 a10 a80 a81 a82
        rintro j a H'' hj ⟨rfl, a0, a3, a5, a6, a7, a8, a9, a10, a80, a81, a82, a12, a90, a91, a92⟩ ih2
        simp (disch := (first | assumption | omega | (simp only [List.length_append, List.length_cons, List.length_nil]; omega))) only [↓wD,wU,Nat.reduceBEq,zx150,zx151,zx159,zx160,zx161,zx162,Nat.reduceAdd,Nat.reduceSub,Nat.reduceMul,Nat.reduceLeDiff,Nat.reduceLT,Nat.reduceEqDiff,Int.reduceAdd,Int.reduceSub,Int.reduceMul,Int.reduceNeg,Int.reduceLT,Int.reduceLE,Int.reduceEq,Int.reduceToNat,Int.cast_ofNat_Int,↓reduceIte, *]
        refine condP_split (fun hlt2 => ?_) (fun hlt2 => ?_)
        · have hj' : j < i := by omega
          have g2 := kc.get (k := (j : Int)) (by omega) (by omega)
          rw [gi_take hj' (by omega)] at g2
          have gl2 := (hA.row (mem_gi (show j < t.length by omega))).1
          have hs3' := hs2 j hj'
          clear hs2
          rw [← gl] at hs3'
          simp (disch := (first | assumption | omega | (simp only [List.length_append, List.length_cons, List.length_nil]; omega))) only [↓wD,wU,Nat.reduceBEq,zx150,zx151,zx159,zx160,zx161,zx162,Nat.reduceAdd,Nat.reduceSub,Nat.reduceMul,Nat.reduceLeDiff,Nat.reduceLT,Nat.reduceEqDiff,Int.reduceAdd,Int.reduceSub,Int.reduceMul,Int.reduceNeg,Int.reduceLT,Int.reduceLE,Int.reduceEq,Int.reduceToNat,Int.cast_ofNat_Int,↓reduceIte, *, kcL, g.I]
          refine Wp.for (gi t i).length (fun c a H3 => H3 = H'' ∧ a 0 = .i P ∧ a 3 = .p H1.length 0 ∧ a 5 = .b true ∧ a 6 = .i 0 ∧ a 7 = .i 1 ∧ a 8 = .i 0 ∧ a 9 = .i P ∧ a 10 = .i 0 ∧ a 80 = u ∧ a 81 = .i t.length ∧ a 82 = .i i ∧ a 12 = u.get H'' i ∧ a 90 = u.cut 0 i ∧ a 91 = .i i ∧ a 92 = .i j ∧ a 14 = (u.cut 0 i).get H'' j ∧ a 97 = .i (gi t i).length ∧ a 98 = .i c ∧ a 15 = .i (smT (gi t i) (gi t j) c)) ?_ ?_
          · clear a0 a3 a5 a6 a7 a8 a9 a10 a80 a81 a82 a12 a90 a91 a92
            rintro c a H3' hc ⟨rfl, a0, a3, a5, a6, a7, a8, a9, a10, a80, a81, a82, a12, a90, a91, a92, a14, a97, a98, a15⟩ ih3
            simp (disch := (first | assumption | omega | (simp only [List.length_append, List.length_cons, List.length_nil]; omega))) only [↓wD,wU,Nat.reduceBEq,zx150,zx151,zx159,zx160,zx161,zx162,Nat.reduceAdd,Nat.reduceSub,Nat.reduceMul,Nat.reduceLeDiff,Nat.reduceLT,Nat.reduceEqDiff,Int.reduceAdd,Int.reduceSub,Int.reduceMul,Int.reduceNeg,Int.reduceLT,Int.reduceLE,Int.reduceEq,Int.reduceToNat,Int.cast_ofNat_Int,↓reduceIte, a0, a3, a5, a6, a7, a8, a9, a10, a80, a81, a82, a12, a90, a91, a92, a14, a97, a98, a15]
            refine condP_split (fun hlt3 => ?_) (fun hlt3 => ?_)
            · have hc' : c < (gi t i).length := by omega
              have hdl := smT_le (r := gi t i) (s := gi t j) (c := c)
              have hds := smT_succ (r := gi t i) (s := gi t j) (c := c)
              clear hs3'
              simp (disch := (first | assumption | omega | (simp only [List.length_append, List.length_cons, List.length_nil]; omega))) only [↓wD,wU,Nat.reduceBEq,zx150,zx151,zx159,zx160,zx161,zx162,Nat.reduceAdd,Nat.reduceSub,Nat.reduceMul,Nat.reduceLeDiff,Nat.reduceLT,Nat.reduceEqDiff,Int.reduceAdd,Int.reduceSub,Int.reduceMul,Int.reduceNeg,Int.reduceLT,Int.reduceLE,Int.reduceEq,Int.reduceToNat,Int.cast_ofNat_Int,↓reduceIte, *, g.I, g2.I]
              refine condP_split (fun hne => ?_) (fun hne => ?_)
              · rw [if_pos hne] at hds
                clear hne
                simp (disch := (first | assumption | omega | (simp only [List.length_append, List.length_cons, List.length_nil]; omega))) only [↓wD,wU,Nat.reduceBEq,zx150,zx151,zx159,zx160,zx161,zx162,Nat.reduceAdd,Nat.reduceSub,Nat.reduceMul,Nat.reduceLeDiff,Nat.reduceLT,Nat.reduceEqDiff,Int.reduceAdd,Int.reduceSub,Int.reduceMul,Int.reduceNeg,Int.reduceLT,Int.reduceLE,Int.reduceEq,Int.reduceToNat,Int.cast_ofNat_Int,↓reduceIte, *]
                refine (ih3 hc').go ⟨rfl, ?_⟩
                simp (disch := (first | assumption | omega | (simp only [List.length_append, List.length_cons, List.length_nil]; omega))) only [↓wD,wU,Nat.reduceBEq,zx150,zx151,zx159,zx160,zx161,zx162,Nat.reduceAdd,Nat.reduceSub,Nat.reduceMul,Nat.reduceLeDiff,Nat.reduceLT,Nat.reduceEqDiff,Int.reduceAdd,Int.reduceSub,Int.reduceMul,Int.reduceNeg,Int.reduceLT,Int.reduceLE,Int.reduceEq,Int.reduceToNat,Int.cast_ofNat_Int,↓reduceIte, *]
              · rw [if_neg hne] at hds
                clear hne
                simp (disch := (first | assumption | omega | (simp only [List.length_append, List.length_cons, List.length_nil]; omega))) only [↓wD,wU,Nat.reduceBEq,zx150,zx151,zx159,zx160,zx161,zx162,Nat.reduceAdd,Nat.reduceSub,Nat.reduceMul,Nat.reduceLeDiff,Nat.reduceLT,Nat.reduceEqDiff,Int.reduceAdd,Int.reduceSub,Int.reduceMul,Int.reduceNeg,Int.reduceLT,Int.reduceLE,Int.reduceEq,Int.reduceToNat,Int.cast_ofNat_Int,↓reduceIte, *]
                refine (ih3 hc').go ⟨rfl, ?_⟩
                simp (disch := (first | assumption | omega | (simp only [List.length_append, List.length_cons, List.length_nil]; omega))) only [↓wD,wU,Nat.reduceBEq,zx150,zx151,zx159,zx160,zx161,zx162,Nat.reduceAdd,Nat.reduceSub,Nat.reduceMul,Nat.reduceLeDiff,Nat.reduceLT,Nat.reduceEqDiff,Int.reduceAdd,Int.reduceSub,Int.reduceMul,Int.reduceNeg,Int.reduceLT,Int.reduceLE,Int.reduceEq,Int.reduceToNat,Int.cast_ofNat_Int,↓reduceIte, *]
            · obtain rfl : c = (gi t i).length := by omega
              rw [hs3'] at a15
              clear hs3'
              simp (disch := (first | assumption | omega | (simp only [List.length_append, List.length_cons, List.length_nil]; omega))) only [↓wD,wU,Nat.reduceBEq,zx150,zx151,zx159,zx160,zx161,zx162,Nat.reduceAdd,Nat.reduceSub,Nat.reduceMul,Nat.reduceLeDiff,Nat.reduceLT,Nat.reduceEqDiff,Int.reduceAdd,Int.reduceSub,Int.reduceMul,Int.reduceNeg,Int.reduceLT,Int.reduceLE,Int.reduceEq,Int.reduceToNat,Int.cast_ofNat_Int,↓reduceIte, *]
              refine (ih2 hj').go ⟨rfl, ?_⟩
              simp (disch := (first | assumption | omega | (simp only [List.length_append, List.length_cons, List.length_nil]; omega))) only [↓wD,wU,Nat.reduceBEq,zx150,zx151,zx159,zx160,zx161,zx162,Nat.reduceAdd,Nat.reduceSub,Nat.reduceMul,Nat.reduceLeDiff,Nat.reduceLT,Nat.reduceEqDiff,Int.reduceAdd,Int.reduceSub,Int.reduceMul,Int.reduceNeg,Int.reduceLT,Int.reduceLE,Int.reduceEq,Int.reduceToNat,Int.cast_ofNat_Int,↓reduceIte, *]
          · (simp (disch := (first | assumption | omega | (simp only [List.length_append, List.length_cons, List.length_nil]; omega))) only [↓wD,wU,Nat.reduceBEq,zx150,zx151,zx159,zx160,zx161,zx162,Nat.reduceAdd,Nat.reduceSub,Nat.reduceMul,Nat.reduceLeDiff,Nat.reduceLT,Nat.reduceEqDiff,Int.reduceAdd,Int.reduceSub,Int.reduceMul,Int.reduceNeg,Int.reduceLT,Int.reduceLE,Int.reduceEq,Int.reduceToNat,Int.cast_ofNat_Int,↓reduceIte, *]) <;> simp [smT]
        · obtain rfl : j = i := by omega
          clear hs2
          simp (disch := (first | assumption | omega | (simp only [List.length_append, List.length_cons, List.length_nil]; omega))) only [↓wD,wU,Nat.reduceBEq,zx150,zx151,zx159,zx160,zx161,zx162,Nat.reduceAdd,Nat.reduceSub,Nat.reduceMul,Nat.reduceLeDiff,Nat.reduceLT,Nat.reduceEqDiff,Int.reduceAdd,Int.reduceSub,Int.reduceMul,Int.reduceNeg,Int.reduceLT,Int.reduceLE,Int.reduceEq,Int.reduceToNat,Int.cast_ofNat_Int,↓reduceIte, *]
          refine (ih hi').go ⟨rfl, ?_⟩
          simp (disch := (first | assumption | omega | (simp only [List.length_append, List.length_cons, List.length_nil]; omega))) only [↓wD,wU,Nat.reduceBEq,zx150,zx151,zx159,zx160,zx161,zx162,Nat.reduceAdd,Nat.reduceSub,Nat.reduceMul,Nat.reduceLeDiff,Nat.reduceLT,Nat.reduceEqDiff,Int.reduceAdd,Int.reduceSub,Int.reduceMul,Int.reduceNeg,Int.reduceLT,Int.reduceLE,Int.reduceEq,Int.reduceToNat,Int.cast_ofNat_Int,↓reduceIte, *]
      · simp (disch := (first | assumption | omega | (simp only [List.length_append, List.length_cons, List.length_nil]; omega))) only [↓wD,wU,Nat.reduceBEq,zx150,zx151,zx159,zx160,zx161,zx162,Nat.reduceAdd,Nat.reduceSub,Nat.reduceMul,Nat.reduceLeDiff,Nat.reduceLT,Nat.reduceEqDiff,Int.reduceAdd,Int.reduceSub,Int.reduceMul,Int.reduceNeg,Int.reduceLT,Int.reduceLE,Int.reduceEq,Int.reduceToNat,Int.cast_ofNat_Int,↓reduceIte, *]
    · obtain rfl : i = t.length := by omega
      clear hs1
      simp (disch := (first | assumption | omega | (simp only [List.length_append, List.length_cons, List.length_nil]; omega))) only [↓wD,wU,Nat.reduceBEq,zx150,zx151,zx159,zx160,zx161,zx162,Nat.reduceAdd,Nat.reduceSub,Nat.reduceMul,Nat.reduceLeDiff,Nat.reduceLT,Nat.reduceEqDiff,Int.reduceAdd,Int.reduceSub,Int.reduceMul,Int.reduceNeg,Int.reduceLT,Int.reduceLE,Int.reduceEq,Int.reduceToNat,Int.cast_ofNat_Int,↓reduceIte, *, awake_ret.call]
      first | rfl | exact ⟨rfl, rfl⟩
  · clear hs1
    simp (disch := (first | assumption | omega | (simp only [List.length_append, List.length_cons, List.length_nil]; omega))) only [↓wD,wU,Nat.reduceBEq,zx150,zx151,zx159,zx160,zx161,zx162,Nat.reduceAdd,Nat.reduceSub,Nat.reduceMul,Nat.reduceLeDiff,Nat.reduceLT,Nat.reduceEqDiff,Int.reduceAdd,Int.reduceSub,Int.reduceMul,Int.reduceNeg,Int.reduceLT,Int.reduceLE,Int.reduceEq,Int.reduceToNat,Int.cast_ofNat_Int,↓reduceIte, *]
theorem Walk.ArraysPlane (H : Heap) (k : Int) : WpF E H.length 10 [.i k] H fun v _ => v = .b true := by
  refine WpF.of_closed rfl fn10 rfl rfl ?_
  have key : ∀ {a : Fr}, a 0 = .i (2 + (IntKind.wrap .u64 k).tmod 2) → a 2 = .b false → Wp E 0 none [.code (match f10A.body with | .seq _ (.seq _ c) => c | c => c)] a [] (RetQ [.t 2] fun v _ => v.pure = true ∧ v = .b true) := by
    intro a ha ha2
    obtain ⟨r, r0, r1, hr, e1, e2⟩ := u64_mod (k := k) (m := 2) (by omega) (by omega)
    rw [hr] at ha
    clear hr e1 e2
    have : r = 0 ∨ r = 1 := by omega
    rcases this with rfl | rfl
    · exact plane_walk (P := 2) (by omega) (by omega) rfl (by decide +kernel) rfl rfl (by kernel_rfl) (by kernel_rfl) (by decide +kernel) ha ha2
    · exact plane_walk (P := 3) (by omega) (by omega) rfl (by decide +kernel) rfl rfl (by kernel_rfl) (by kernel_rfl) (by decide +kernel) ha ha2
  obtain ⟨r, r0, r1, hr, e1, e2⟩ := u64_mod (k := k) (m := 2) (by omega) (by omega)
  rw [hr] at key
  unfold f10A at key ⊢
  dsimp only at key
  have hb : ∀ x, binA .rem (.int .u64 x) (.int .u64 2) = some (.int .u64 (x.tmod 2)) := fun x => zx85 (by decide)
  rw [zx4, zx14]
  simp only [zx17, zx16, zx21, zx60, zx69]
  rw [zx4, zx14]
  simp only [zx17, zx16, zx21, zx34, zx29, zx95, zx81, hb, hr, e1, e2, zx60, zx59, zx68, zx69, zx70, zx71, zx72, Nat.reduceBEq, beq_self_eq_true, zx73]
  refine key ?_ ?_
  · simp only [zx70, zx71, zx72, Nat.reduceBEq, beq_self_eq_true]
  · simp only [zx70, zx71, zx72, Nat.reduceBEq, beq_self_eq_true]
end Go.Proofs.Ytalaadcbpjnglaa
