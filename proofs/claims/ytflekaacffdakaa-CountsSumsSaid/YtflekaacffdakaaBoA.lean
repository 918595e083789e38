/- Symbolic steps of the abstract machine, as equivalences for simp. No condition. -/
import Derived.Test.YtflekaacffdakaaBoLib
set_option linter.unusedSimpArgs false
set_option linter.unusedVariables false
namespace Go.AM
open Go

/-! ### Waiting forms: only the value is looked at; what is behind it stands where simp does not look (as an instance) -/
class Ct (α : Type) where
  q : α → Prop
class Ct2 where
  q : AV → Heap → Prop
class St where
  p : Prop
def optP {α : Type} (o : Option α) [Q : Ct α] : Prop := ∃ v, o = some v ∧ Q.q v
def valP (v : AV) [Q : Ct AV] : Prop := Q.q v
def condP (v : AV) [p : St] [q : St] : Prop := match v with
  | .b true => p.p
  | .b false => q.p
  | _ => False
/-- a guard: w is wanted -/
def guardP (v : AV) (w : Bool) [p : St] [q : St] : Prop := match v with
  | .b x => if x = w then p.p else q.p
  | .tp [] => q.p
  | _ => False
def lpP [p : St] : Prop := p.p
def callP (E : Tab) (lo f : Nat) (vs : List AV) (H : Heap) [Q : Ct2] : Prop := WpF E lo f vs H Q.q
def callvP (E : Tab) (lo : Nat) (v : AV) (vs : List AV) (H : Heap) [Q : Ct2] : Prop := WpV E lo v vs H Q.q
theorem zx59 {α : Type} {v : α} {Q : α → Prop} : @optP α (some v) ⟨Q⟩ = Q v := by simp [optP]
theorem zx60 {v : AV} {Q : AV → Prop} : @valP v ⟨Q⟩ = Q v := (rfl)
theorem zx61 {p q : Prop} : @condP (.b true) ⟨p⟩ ⟨q⟩ = p := (rfl)
theorem zx62 {p q : Prop} : @condP (.b false) ⟨p⟩ ⟨q⟩ = q := (rfl)
theorem zx63 {p q : Prop} : @guardP (.b true) true ⟨p⟩ ⟨q⟩ = p := (rfl)
theorem zx64 {p q : Prop} : @guardP (.b false) false ⟨p⟩ ⟨q⟩ = p := (rfl)
theorem zx65 {p q : Prop} : @guardP (.b true) false ⟨p⟩ ⟨q⟩ = q := (rfl)
theorem zx66 {p q : Prop} : @guardP (.b false) true ⟨p⟩ ⟨q⟩ = q := (rfl)
theorem zx67 {w : Bool} {p q : Prop} : @guardP (.tp []) w ⟨p⟩ ⟨q⟩ = q := (rfl)
theorem optP_of {α : Type} {o : Option α} {v : α} {Q : α → Prop} (e : o = some v) (h : Q v) : @optP α o ⟨Q⟩ := ⟨v, e, h⟩
theorem lpI {p : Prop} (h : p) : @lpP ⟨p⟩ := h
theorem callI {E : Tab} {lo f : Nat} {vs : List AV} {H : Heap} {Q : AV → Heap → Prop} (h : WpF E lo f vs H Q) : @callP E lo f vs H ⟨Q⟩ := h
theorem callvI {E : Tab} {lo : Nat} {v : AV} {vs : List AV} {H : Heap} {Q : AV → Heap → Prop} (h : WpV E lo v vs H Q) : @callvP E lo v vs H ⟨Q⟩ := h
theorem condP_split {c : Prop} [Decidable c] {p q : Prop} (h1 : c → p) (h2 : ¬ c → q) : @condP (.b (decide c)) ⟨p⟩ ⟨q⟩ := by
  by_cases h : c
  · simpa [h, condP] using h1 h
  · simpa [h, condP] using h2 h
theorem condP_bool {t : Bool} {p q : Prop} (h1 : t = true → p) (h2 : t = false → q) : @condP (.b t) ⟨p⟩ ⟨q⟩ := by
  cases t
  · exact h2 rfl
  · exact h1 rfl
theorem guardP_split {c : Prop} [Decidable c] {p q : Prop} (h1 : c → p) (h2 : ¬ c → q) : @guardP (.b (decide c)) true ⟨p⟩ ⟨q⟩ := by
  by_cases h : c
  · simpa [h, guardP] using h1 h
  · simpa [h, guardP] using h2 h
theorem guardP_splitF {c : Prop} [Decidable c] {p q : Prop} (h1 : ¬ c → p) (h2 : c → q) : @guardP (.b (decide c)) false ⟨p⟩ ⟨q⟩ := by
  by_cases h : c
  · simpa [h, guardP] using h2 h
  · simpa [h, guardP] using h1 h
theorem guardP_bool {t : Bool} {p q : Prop} (h1 : t = true → p) (h2 : t = false → q) : @guardP (.b t) true ⟨p⟩ ⟨q⟩ := by
  cases t
  · exact h2 rfl
  · exact h1 rfl
theorem guardP_boolF {t : Bool} {p q : Prop} (h1 : t = false → p) (h2 : t = true → q) : @guardP (.b t) false ⟨p⟩ ⟨q⟩ := by
  cases t
  · exact h1 rfl
  · exact h2 rfl

/-! ### Operations -/
def ldA (H : Heap) (n : Option Nat) : AV → Option AV
  | .p b o => match n with
    | none => ld H b o
    | some n => (ldn H b o n).map .ag
  | _ => none
def stA (lo : Nat) (H : Heap) (n : Nat) (p x : AV) : Option Heap := match p with
  | .p b o => if x.cells.length = n ∧ x.cells.all AV.one then st lo H b o x.cells else none
  | _ => none
def lenV : AV → Option AV
  | .nils => some (.i 0)
  | .s _ _ _ n _ => some (.i n)
  | _ => none
def iaddrV (es : Nat) (x i : AV) : Option AV := match x, i with
  | .s es' b o n _, .int _ i => if 0 ≤ i ∧ i < n ∧ es' = es then some (.p b (o + i.toNat * es)) else none
  | _, _ => none
def iaddrAV (n es : Nat) (x i : AV) : Option AV := match x, i with
  | .p b o, .int _ i => if 0 ≤ i ∧ i < n then some (.p b (o + i.toNat * es)) else none
  | _, _ => none
def zx161 (n es : Nat) (ag : Bool) (x i : AV) : Option AV := match x, i with
  | .ag vs, .int _ i => if 0 ≤ i ∧ i < n then
        (if ag then (if i.toNat * es + es ≤ vs.length then some (.ag ((vs.drop (i.toNat * es)).take es)) else none)
         else vs[i.toNat * es]?) else none
  | _, _ => none
def zx159 (off : Nat) (n : Option Nat) (x : AV) : Option AV := match x, n with
  | .ag vs, none => vs[off]?
  | .ag vs, some n => if off + n ≤ vs.length then some (.ag ((vs.drop off).take n)) else none
  | _, _ => none
def beqV (neg : Bool) (x y : AV) : Option AV := match x, y with
  | .b p, .b q => some (.b ((p == q) != neg))
  | _, _ => none
def seqV (neg : Bool) (x y : AV) : Option AV := match x, y with
  | .nils, .nils => some (.b (!neg))
  | .nils, .s _ _ _ _ _ => some (.b neg)
  | .s _ _ _ _ _, .nils => some (.b neg)
  | _, _ => none
def aeqV (neg : Bool) (n : Nat) (x y : AV) : Option AV := match x, y with
  | .ag xs, .ag ys => if xs.length = n ∧ ys.length = n then (eqInts xs ys).map fun r => .b (r != neg) else none
  | _, _ => none
def convV (k : IntKind) : AV → Option AV
  | .int _ n => some (.int k (k.wrap n))
  | _ => none
def zx160 (off : Nat) : AV → Option AV
  | .p b o => some (.p b (o + off))
  | _ => none
def zx162 : AV → Option AV
  | .nils => some (.i 0)
  | .s _ _ _ _ (some c) => some (.i c)
  | _ => none
def extrV (i : Nat) : AV → Option AV
  | .tp vs => vs[i]?
  | _ => none
def nilchkV : AV → Option AV
  | .p b o => some (.p b o)
  | .fn f u c => some (.fn f u c)
  | .yl l => some (.yl l)
  | _ => none
def boundV (x : Option AV) (dflt most : Nat) : Option Nat :=
  match x with
  | none => if dflt ≤ most then some dflt else none
  | some (.int _ i) => if 0 ≤ i ∧ i ≤ (most : Int) then some i.toNat else none
  | _ => none
def slV (es : Nat) (x : AV) (l h m : Option AV) : Option AV := match lenA x with
  | some n =>
    match boundV m n n with
    | some mx => match boundV h n mx with
      | some hi => match boundV l 0 hi with
        | some lo' => sliceA es x lo' hi (if m.isSome then some mx else none)
        | none => none
      | none => none
    | none => none
  | none => none
def slarrV (lo : Nat) (H : Heap) (n es : Nat) (x : AV) (l h : Option AV) : Option AV := match x with
  | .p b o => match boundV h n n with
    | some hi => match boundV l 0 hi with
      | some lo' => match H[b]? with
        | some (.cells cs) => if es = 1 ∧ lo ≤ b ∧ o + n ≤ cs.length then some (.s 1 b (o + lo') (hi - lo') (some (n - lo'))) else none
        | _ => none
      | none => none
    | none => none
  | _ => none
def mnV : List AV → Option AV
  | .int k x :: r => (foldMin k x r).map fun n => .int k n
  | _ => none
def mxV : List AV → Option AV
  | .int k x :: r => (foldMax k x r).map fun n => .int k n
  | _ => none
def zx150 (z : List AV) (ps : List (Nat × Nat × AV)) : Option AV := (fillA z ps).map .ag
def zx151 (z : List AV) (len es : Nat) (ps : List (Nat × AV)) : Option (List AV) := fillA (reps len z) (ps.map fun q => (q.1 * es, es, q.2))
def mksliceV (es bytes : Nat) (z : List AV) (l : AV) : Option Nat := match l with
  | .int .i64 n => if 0 ≤ n ∧ n.toNat * bytes ≤ mostBytes ∧ n ≤ 2 ^ 40 ∧ z.length = es then some n.toNat else none
  | _ => none
def appendV (lo es bytes : Nat) (s x : AV) (H : Heap) : Option (AV × Heap) := match lenA x with
  | some m => match cellsOf es m x H with
    | some xs => appendA lo es bytes s xs m H
    | none => none
  | none => none
def appendzV (lo es bytes : Nat) (z : List AV) (s n : AV) (H : Heap) : Option (AV × Heap) := match n with
  | .int .i64 n => if 0 ≤ n ∧ n ≤ 2 ^ 40 ∧ n.toNat * bytes ≤ mostBytes ∧ z.length = es then appendA lo es bytes s (reps n.toNat z) n.toNat H else none
  | _ => none
def copyV (lo es : Nat) (d s : AV) (H : Heap) : Option (AV × Heap) := match d, lenA s with
  | .s es' b o n _, some m => if es' ≠ es then none else match cellsOf es (min m n) s H with
    | some xs => if xs = [] then some (.i (min m n : Nat), H) else if xs.all AV.one then (st lo H b o xs).map fun H' => (.i (min m n : Nat), H') else none
    | none => none
  | .nils, some _ => some (.i 0, H)
  | _, _ => none
def boxV (x : AV) : Option (List AV) := if x.cells.all AV.one then some x.cells else none
def pickV (c x y : AV) : Option AV := match c with
  | .b true => some x
  | .b false => some y
  | _ => none

section
variable {E : Tab} {lo : Nat} {a : Fr} {H : Heap} {Q : AV → Heap → Prop}
theorem wo {α : Type} {o : AOp} {x : Option α} (f : α → AV × Heap) (hc : WpOp E lo o a H Q = ∃ v H', opA lo o a H = some (v, H') ∧ Q v H') (h : opA lo o a H = x.map f) : WpOp E lo o a H Q = @optP _ x ⟨fun u => Q (f u).1 (f u).2⟩ := by
  rw [hc, h]
  apply propext
  constructor
  · rintro ⟨v, H', e, q⟩
    obtain ⟨u, hu, e2⟩ := Option.map_eq_some_iff.1 e
    refine ⟨u, hu, ?_⟩
    change Q (f u).1 (f u).2
    rw [e2]; exact q
  · rintro ⟨u, hu, q⟩
    exact ⟨_, _, by rw [hu]; rfl, q⟩
theorem wo1 {o : AOp} {r : AV × Heap} (hc : WpOp E lo o a H Q = ∃ v H', opA lo o a H = some (v, H') ∧ Q v H') (h : opA lo o a H = some r) : WpOp E lo o a H Q = Q r.1 r.2 := by
  rw [hc, h]
  apply propext
  constructor
  · rintro ⟨v, H', e, q⟩; cases e; exact q
  · intro q; exact ⟨_, _, rfl, q⟩
theorem omap_eta (x : Option (AV × Heap)) : x.map (fun r : AV × Heap => (r.1, r.2)) = x := by cases x <;> rfl
theorem zx21 {x : AX} : WpOp E lo (.mv x) a H Q = @valP (ev a x) ⟨fun v => Q v H⟩ := wo1 (r := (ev a x, H)) rfl rfl
theorem zx22 {c x y : AX} : WpOp E lo (.pick c x y) a H Q = @optP _ (pickV (ev a c) (ev a x) (ev a y)) ⟨fun v => Q v H⟩ :=
  wo (fun v => (v, H)) rfl (by simp only [opA, pickV]; cases ev a c <;> first | rfl | (rename_i b; cases b <;> rfl))
theorem zx23 {z : List AV} : WpOp E lo (.alloc z) a H Q = Q (.p H.length 0) (H ++ [.cells z]) := wo1 (r := (.p H.length 0, H ++ [.cells z])) rfl rfl
theorem zx24 {x : AX} : WpOp E lo (.box x) a H Q = @optP _ (boxV (ev a x)) ⟨fun z => Q (.p H.length 0) (H ++ [.cells z])⟩ :=
  wo (fun z => (.p H.length 0, H ++ [.cells z])) rfl (by simp only [opA, boxV]; split <;> rfl)
theorem zx25 {z : List AV} {ps : List (Nat × Nat × AX)} : WpOp E lo (.build z ps) a H Q = @optP _ (zx150 z (ps.map fun q => (q.1, q.2.1, ev a q.2.2))) ⟨fun v => Q v H⟩ :=
  wo (fun v => (v, H)) rfl (by simp only [opA, zx150, Option.map_map]; rfl)
theorem zx26 {z : List AV} {len es : Nat} {ps : List (Nat × AX)} : WpOp E lo (.bslice z len es ps) a H Q = @optP _ (zx151 z len es (ps.map fun q => (q.1, ev a q.2))) ⟨fun cs => Q (.s es H.length 0 len (some len)) (H ++ [.cells cs])⟩ :=
  wo (fun cs => (.s es H.length 0 len (some len), H ++ [.cells cs])) rfl (by simp only [opA, zx151, List.map_map, Function.comp_def])
theorem zx27 {n : Option Nat} {x : AX} : WpOp E lo (.load n x) a H Q = @optP _ (ldA H n (ev a x)) ⟨fun v => Q v H⟩ :=
  wo (fun v => (v, H)) rfl (by simp only [opA, ldA]; cases ev a x <;> cases n <;> first | rfl | (simp only [Option.map_map]; rfl))
theorem zx28 {n : Nat} {p x : AX} : WpOp E lo (.store n p x) a H Q = @optP _ (stA lo H n (ev a p) (ev a x)) ⟨fun H' => Q .no H'⟩ :=
  wo (fun H' => (.no, H')) rfl (by simp only [opA, stA]; cases ev a p <;> first | rfl | (simp only []; split <;> rfl))
theorem zx29 {op : BinOp} {x y : AX} : WpOp E lo (.bin op x y) a H Q = @optP _ (binA op (ev a x) (ev a y)) ⟨fun v => Q v H⟩ :=
  wo (fun v => (v, H)) rfl (by rfl)
theorem zx30 {neg : Bool} {x y : AX} : WpOp E lo (.beq neg x y) a H Q = @optP _ (beqV neg (ev a x) (ev a y)) ⟨fun v => Q v H⟩ :=
  wo (fun v => (v, H)) rfl (by simp only [opA, beqV]; cases ev a x <;> cases ev a y <;> rfl)
theorem zx31 {neg : Bool} {x y : AX} : WpOp E lo (.seq neg x y) a H Q = @optP _ (seqV neg (ev a x) (ev a y)) ⟨fun v => Q v H⟩ :=
  wo (fun v => (v, H)) rfl (by simp only [opA, seqV]; cases ev a x <;> cases ev a y <;> rfl)
theorem zx32 {neg : Bool} {n : Nat} {x y : AX} : WpOp E lo (.aeq neg n x y) a H Q = @optP _ (aeqV neg n (ev a x) (ev a y)) ⟨fun v => Q v H⟩ :=
  wo (fun v => (v, H)) rfl (by simp only [opA, aeqV]; cases ev a x <;> cases ev a y <;> first | rfl | (simp only []; split <;> simp [Option.map_map, Function.comp_def]))
theorem zx33 {op : UnOp} {x : AX} : WpOp E lo (.un op x) a H Q = @optP _ (unA op (ev a x)) ⟨fun v => Q v H⟩ :=
  wo (fun v => (v, H)) rfl (by rfl)
theorem zx34 {k : IntKind} {x : AX} : WpOp E lo (.conv k x) a H Q = @optP _ (convV k (ev a x)) ⟨fun v => Q v H⟩ :=
  wo (fun v => (v, H)) rfl (by simp only [opA, convV]; cases ev a x <;> rfl)
theorem zx35 {f : Nat} {us cs : List AX} : WpOp E lo (.mkfn f us cs) a H Q = Q (.fn f (us.map (ev a)) (cs.map (ev a))) H := wo1 (r := (.fn f (us.map (ev a)) (cs.map (ev a)), H)) rfl rfl
theorem zx36 {es bytes : Nat} {z : List AV} {l : AX} : WpOp E lo (.mkslice es bytes z l) a H Q = @optP _ (mksliceV es bytes z (ev a l)) ⟨fun n => Q (.s es H.length 0 n (some n)) (H ++ [.cells (reps n z)])⟩ :=
  wo (fun n => (.s es H.length 0 n (some n), H ++ [.cells (reps n z)])) rfl (by simp only [opA, mksliceV]; cases ev a l <;> first | rfl | (rename_i k n; cases k <;> first | rfl | (simp only []; split <;> rfl)))
theorem boundA_eq (x : Option AX) (d m : Nat) : boundA a x d m = boundV (x.map (ev a)) d m := by
  cases x with
  | none => rfl
  | some x => simp only [boundA, boundV, Option.map_some]; cases ev a x <;> rfl
theorem zx37 {es : Nat} {x : AX} {l h m : Option AX} : WpOp E lo (.slice es x l h m) a H Q = @optP _ (slV es (ev a x) (l.map (ev a)) (h.map (ev a)) (m.map (ev a))) ⟨fun v => Q v H⟩ := by
  refine wo (fun v => (v, H)) rfl ?_
  simp only [opA, slV, boundA_eq]
  cases lenA (ev a x) with
  | none => rfl
  | some n =>
    simp only []
    cases boundV (m.map (ev a)) n n with
    | none => rfl
    | some mx =>
      simp only []
      cases boundV (h.map (ev a)) n mx with
      | none => rfl
      | some hi =>
        simp only []
        cases boundV (l.map (ev a)) 0 hi with
        | none => rfl
        | some lo' => simp only [Option.isSome_map]
theorem zx38 {n es : Nat} {x : AX} {l h : Option AX} : WpOp E lo (.slarr n es x l h) a H Q = @optP _ (slarrV lo H n es (ev a x) (l.map (ev a)) (h.map (ev a))) ⟨fun v => Q v H⟩ := by
  refine wo (fun v => (v, H)) rfl ?_
  simp only [opA, slarrV, boundA_eq]
  cases ev a x <;> try rfl
  rename_i b o
  simp only []
  cases boundV (h.map (ev a)) n n with
  | none => rfl
  | some hi =>
    simp only []
    cases boundV (l.map (ev a)) 0 hi with
    | none => rfl
    | some lo' =>
      simp only []
      cases H[b]? with
      | none => rfl
      | some k =>
        cases k <;> try rfl
        simp only []; split <;> rfl
theorem zx39 {off : Nat} {x : AX} : WpOp E lo (.faddr off x) a H Q = @optP _ (zx160 off (ev a x)) ⟨fun v => Q v H⟩ :=
  wo (fun v => (v, H)) rfl (by simp only [opA, zx160]; cases ev a x <;> rfl)
theorem zx40 {off : Nat} {n : Option Nat} {x : AX} : WpOp E lo (.field off n x) a H Q = @optP _ (zx159 off n (ev a x)) ⟨fun v => Q v H⟩ :=
  wo (fun v => (v, H)) rfl (by simp only [opA, zx159]; cases ev a x <;> cases n <;> first | rfl | (simp only []; split <;> rfl))
theorem zx41 {es : Nat} {x i : AX} : WpOp E lo (.iaddr es x i) a H Q = @optP _ (iaddrV es (ev a x) (ev a i)) ⟨fun v => Q v H⟩ :=
  wo (fun v => (v, H)) rfl (by simp only [opA, iaddrV]; cases ev a x <;> cases ev a i <;> first | rfl | (simp only []; split <;> rfl))
theorem zx42 {n es : Nat} {x i : AX} : WpOp E lo (.iaddrA n es x i) a H Q = @optP _ (iaddrAV n es (ev a x) (ev a i)) ⟨fun v => Q v H⟩ :=
  wo (fun v => (v, H)) rfl (by simp only [opA, iaddrAV]; cases ev a x <;> cases ev a i <;> first | rfl | (simp only []; split <;> rfl))
theorem zx43 {n es : Nat} {ag : Bool} {x i : AX} : WpOp E lo (.index n es ag x i) a H Q = @optP _ (zx161 n es ag (ev a x) (ev a i)) ⟨fun v => Q v H⟩ :=
  wo (fun v => (v, H)) rfl (by simp only [opA, zx161]; cases ev a x <;> cases ev a i <;> first | rfl | (simp only []; split; (split; (split <;> rfl); rfl); rfl))
theorem zx44 {x : AX} : WpOp E lo (.len x) a H Q = @optP _ (lenV (ev a x)) ⟨fun v => Q v H⟩ :=
  wo (fun v => (v, H)) rfl (by simp only [opA, lenV]; cases ev a x <;> rfl)
theorem zx45 {n : Nat} : WpOp E lo (.lenA n) a H Q = Q (.i n) H := wo1 (r := (.i n, H)) rfl rfl
theorem zx46 {x : AX} : WpOp E lo (.cap x) a H Q = @optP _ (zx162 (ev a x)) ⟨fun v => Q v H⟩ :=
  wo (fun v => (v, H)) rfl (by simp only [opA, zx162]; cases ev a x <;> first | rfl | (rename_i c; cases c <;> rfl))
theorem zx50 {xs : List AX} : WpOp E lo (.mn xs) a H Q = @optP _ (mnV (xs.map (ev a))) ⟨fun v => Q v H⟩ :=
  wo (fun v => (v, H)) rfl (by simp only [opA, mnV]; cases xs.map (ev a) with | nil => rfl | cons v r => cases v <;> first | rfl | (simp only [Option.map_map]; rfl))
theorem zx51 {xs : List AX} : WpOp E lo (.mx xs) a H Q = @optP _ (mxV (xs.map (ev a))) ⟨fun v => Q v H⟩ :=
  wo (fun v => (v, H)) rfl (by simp only [opA, mxV]; cases xs.map (ev a) with | nil => rfl | cons v r => cases v <;> first | rfl | (simp only [Option.map_map]; rfl))
theorem zx52 {es bytes : Nat} {s x : AX} : WpOp E lo (.append es bytes s x) a H Q = @optP _ (appendV lo es bytes (ev a s) (ev a x) H) ⟨fun r => Q r.1 r.2⟩ :=
  wo (fun r : AV × Heap => (r.1, r.2)) rfl (by rw [omap_eta]; rfl)
theorem zx53 {es bytes : Nat} {z : List AV} {s n : AX} : WpOp E lo (.appendz es bytes z s n) a H Q = @optP _ (appendzV lo es bytes z (ev a s) (ev a n) H) ⟨fun r => Q r.1 r.2⟩ :=
  wo (fun r : AV × Heap => (r.1, r.2)) rfl (by rw [omap_eta]; simp only [opA, appendzV]; cases ev a n <;> first | rfl | (rename_i k n; cases k <;> rfl))
theorem zx54 {es : Nat} {d s : AX} : WpOp E lo (.copy es d s) a H Q = @optP _ (copyV lo es (ev a d) (ev a s) H) ⟨fun r => Q r.1 r.2⟩ :=
  wo (fun r : AV × Heap => (r.1, r.2)) rfl (by rw [omap_eta]; rfl)
theorem zx55 {x : AX} {i : Nat} : WpOp E lo (.extr x i) a H Q = @optP _ (extrV i (ev a x)) ⟨fun v => Q v H⟩ :=
  wo (fun v => (v, H)) rfl (by simp only [opA, extrV]; cases ev a x <;> rfl)
theorem zx56 {x : AX} : WpOp E lo (.nilchk x) a H Q = @optP _ (nilchkV (ev a x)) ⟨fun v => Q v H⟩ :=
  wo (fun v => (v, H)) rfl (by simp only [opA, nilchkV]; cases ev a x <;> rfl)
theorem zx57 {f : Nat} {xs : List AX} : WpOp E lo (.call f xs) a H Q = @callP E lo f (xs.map (ev a)) H ⟨Q⟩ := (rfl)
theorem zx58 {x : AX} {xs : List AX} : WpOp E lo (.callv x xs) a H Q = @callvP E lo (ev a x) (xs.map (ev a)) H ⟨Q⟩ := (rfl)
end

/-! ### Operations in a row -/
section
variable {E : Tab} {lo : Nat} {a : Fr} {H : Heap}
theorem zx16 {Q : Fr → Heap → Prop} : WpOps E lo [] a H Q = Q a H := (rfl)
theorem zx17 {d : Nat} {op : AOp} {os : List AOper} {Q : Fr → Heap → Prop} : WpOps E lo (⟨some d, op, none⟩ :: os) a H Q = WpOp E lo op a H fun v H' => WpOps E lo os (a.upd d v) H' Q := (rfl)
theorem zx18 {op : AOp} {os : List AOper} {Q : Fr → Heap → Prop} : WpOps E lo (⟨none, op, none⟩ :: os) a H Q = WpOp E lo op a H fun _ H' => WpOps E lo os a H' Q := (rfl)
theorem zx19 {d : Nat} {op : AOp} {s : Nat} {w : Bool} {os : List AOper} {Q : Fr → Heap → Prop} : WpOps E lo (⟨some d, op, some (s, w)⟩ :: os) a H Q = @guardP (a s) w ⟨WpOp E lo op a H fun v H' => WpOps E lo os (a.upd d v) H' Q⟩ ⟨WpOps E lo os (a.upd d .no) H Q⟩ := by
  simp only [WpOps, wantedA, guardP, Fr.put]
  split
  · rename_i h
    split at h
    · rename_i x hx; simp at h; simp [hx, h]
    · cases h
    · cases h
  · rename_i h
    split at h
    · rename_i x hx; simp at h; simp [hx, h]
    · rename_i hx; simp [hx]
    · cases h
  · rename_i h
    split at h
    · cases h
    · cases h
    · rename_i h1 h2
      split
      · rename_i x hx; exact absurd hx (h1 x)
      · rename_i hx; exact absurd hx h2
      · rfl
theorem zx20 {op : AOp} {s : Nat} {w : Bool} {os : List AOper} {Q : Fr → Heap → Prop} : WpOps E lo (⟨none, op, some (s, w)⟩ :: os) a H Q = @guardP (a s) w ⟨WpOp E lo op a H fun _ H' => WpOps E lo os a H' Q⟩ ⟨WpOps E lo os a H Q⟩ := by
  simp only [WpOps, wantedA, guardP, Fr.put]
  split
  · rename_i h
    split at h
    · rename_i x hx; simp at h; simp [hx, h]
    · cases h
    · cases h
  · rename_i h
    split at h
    · rename_i x hx; simp at h; simp [hx, h]
    · rename_i hx; simp [hx]
    · cases h
  · rename_i h
    split at h
    · cases h
    · cases h
    · rename_i h1 h2
      split
      · rename_i x hx; exact absurd hx (h1 x)
      · rename_i hx; exact absurd hx h2
      · rfl
theorem zx68 {n : Nat} : ev a (.t n) = a n := (rfl)
theorem zx69 {v : AV} : ev a (.c v) = v := (rfl)
theorem upd_at {d t : Nat} {v : AV} : a.upd d v t = if t = d then v else a t := (rfl)
theorem initFr_at {vs : List AV} {t : Nat} : initFr vs t = vs.getD t .un := (rfl)
end

/-! ### Items -/
section
variable {E : Tab} {lo : Nat} {rd : Option Nat} {k : List AI} {a : Fr} {H : Heap} {Q : Out → Fr → Heap → Prop}
theorem Wp_iff : Wp E lo rd k a H Q ↔ ∃ n o a' H', stepR E (R E n) lo rd k a H = some (o, a', H') ∧ Q o a' H' := by
  constructor
  · rintro ⟨n, o, a', H', h1, h2⟩
    cases n with
    | zero => cases h1
    | succ n => exact ⟨n, o, a', H', h1, h2⟩
  · exact Wp.step
theorem opF_wp {n : Nat} {o : AOp} {v : AV} {H' : Heap} {P : AV → Heap → Prop} (h : opF E (R E n) lo o a H = some (v, H')) (hp : P v H') : WpOp E lo o a H P := by
  cases o <;> first | exact ⟨n, v, H', h, hp⟩ | exact ⟨v, H', h, hp⟩
theorem runOps_wp {n : Nat} : ∀ {l : List AOper} {a : Fr} {H : Heap} {a' : Fr} {H' : Heap} {P : Fr → Heap → Prop}, runOps E (R E n) lo l a H = some (a', H') → P a' H' → WpOps E lo l a H P
  | [], a, H, a', H', P, h, hp => by simp only [runOps, Option.some.injEq, Prod.mk.injEq] at h; obtain ⟨rfl, rfl⟩ := h; exact hp
  | o :: os, a, H, a', H', P, h, hp => by
    simp only [runOps] at h
    simp only [WpOps]
    cases hw : wantedA a o.guard with
    | none => simp [hw] at h
    | some b =>
      cases b with
      | true =>
        simp only [hw] at h
        obtain ⟨r, h1, h2⟩ := Option.bind_eq_some_iff.1 h
        exact opF_wp h1 (runOps_wp h2 hp)
      | false =>
        simp only [hw] at h
        exact runOps_wp h hp
theorem zx0 : Wp E lo rd [] a H Q = Q .done a H := by
  apply propext
  rw [Wp_iff]
  constructor
  · rintro ⟨n, o, a', H', h1, h2⟩; simp only [stepR] at h1; cases h1; exact h2
  · exact fun h => ⟨0, _, _, _, rfl, h⟩
theorem zx1 : Wp E lo rd (.code .ret :: k) a H Q = Q .ret a H := by
  apply propext
  rw [Wp_iff]
  constructor
  · rintro ⟨n, o, a', H', h1, h2⟩; simp only [stepR] at h1; cases h1; exact h2
  · exact fun h => ⟨0, _, _, _, rfl, h⟩
theorem zx2 {id : Nat} : Wp E lo rd (.blk id :: k) a H Q = Wp E lo rd k a H Q := propext Wp_iff
theorem w_lp {c : ACode} : Wp E lo rd (.lp c :: k) a H Q = Wp E lo rd (.code c :: .lp c :: k) a H Q := propext Wp_iff
theorem zx3 : Wp E lo rd (.code .skip :: k) a H Q = Wp E lo rd k a H Q := propext Wp_iff
theorem zx4 {x y : ACode} : Wp E lo rd (.code (.seq x y) :: k) a H Q = Wp E lo rd (.code x :: .code y :: k) a H Q := propext Wp_iff
theorem zx5 {id : Nat} {c : ACode} : Wp E lo rd (.code (.block id c) :: k) a H Q = Wp E lo rd (.code c :: .blk id :: k) a H Q := propext Wp_iff
theorem zx6 {c : ACode} : Wp E lo rd (.code (.loop c) :: k) a H Q = @lpP ⟨Wp E lo rd (.lp c :: k) a H Q⟩ := (propext Wp_iff : Wp E lo rd (.code (.loop c) :: k) a H Q = Wp E lo rd (.code c :: .lp c :: k) a H Q).trans w_lp.symm
theorem zx7 {x : AX} {c d : ACode} : Wp E lo rd (.code (.cond x c d) :: k) a H Q = @condP (ev a x) ⟨Wp E lo rd (.code c :: k) a H Q⟩ ⟨Wp E lo rd (.code d :: k) a H Q⟩ := by
  apply propext
  rw [Wp_iff]
  simp only [stepR, condP]
  cases ev a x <;> try (simp; done)
  rename_i b
  cases b
  · exact Iff.rfl
  · exact Iff.rfl
def WpX (E : Tab) (lo : Nat) (rd : Option Nat) (id : Nat) : List AI → Fr → Heap → (Out → Fr → Heap → Prop) → Prop
  | [], a, H, Q => Q (.exit id) a H
  | .blk j :: k, a, H, Q => if j = id then Wp E lo rd k a H Q else WpX E lo rd id k a H Q
  | _ :: k, a, H, Q => WpX E lo rd id k a H Q
theorem wpX_eq {id : Nat} : ∀ {k : List AI}, WpX E lo rd id k a H Q ↔ Wp E lo rd (.code (.exit id) :: k) a H Q
  | [] => by
    rw [Wp_iff]
    simp only [stepR, exitA, WpX]
    constructor
    · exact fun h => ⟨0, _, _, _, rfl, h⟩
    · rintro ⟨n, o, a', H', h1, h2⟩; cases h1; exact h2
  | .blk j :: k => by
    by_cases e : j = id
    · rw [Wp_iff]; simp only [stepR, exitA, WpX, if_pos e]; exact Iff.rfl
    · have := wpX_eq (id := id) (k := k)
      rw [Wp_iff] at this ⊢; simp only [stepR, exitA, WpX, if_neg e] at this ⊢; exact this
  | .code c :: k => by
    have := wpX_eq (id := id) (k := k)
    rw [Wp_iff] at this ⊢; simp only [stepR, exitA, WpX] at this ⊢; exact this
  | .lp c :: k => by
    have := wpX_eq (id := id) (k := k)
    rw [Wp_iff] at this ⊢; simp only [stepR, exitA, WpX] at this ⊢; exact this
  | .begin :: k => by
    have := wpX_eq (id := id) (k := k)
    rw [Wp_iff] at this ⊢; simp only [stepR, exitA, WpX] at this ⊢; exact this
theorem zx8 {id : Nat} : Wp E lo rd (.code (.exit id) :: k) a H Q = WpX E lo rd id k a H Q := propext wpX_eq.symm
theorem zx9 {id : Nat} : WpX E lo rd id [] a H Q = Q (.exit id) a H := (rfl)
theorem zx10 {id j : Nat} : WpX E lo rd id (.blk j :: k) a H Q = if j = id then Wp E lo rd k a H Q else WpX E lo rd id k a H Q := (rfl)
theorem zx11 {id : Nat} {c : ACode} : WpX E lo rd id (.code c :: k) a H Q = WpX E lo rd id k a H Q := (rfl)
theorem zx12 {id : Nat} {c : ACode} : WpX E lo rd id (.lp c :: k) a H Q = WpX E lo rd id k a H Q := (rfl)
theorem zx13 {id : Nat} : WpX E lo rd id (.begin :: k) a H Q = WpX E lo rd id k a H Q := (rfl)
theorem zx14 {l : List AOper} : Wp E lo rd (.code (.reg none l) :: k) a H Q = WpOps E lo l a H fun a' H' => Wp E lo rd k a' H' Q := by
  apply propext
  constructor
  · rw [Wp_iff]
    rintro ⟨n, o, a', H', h1, h2⟩
    simp only [stepR] at h1
    obtain ⟨r, h3, h4⟩ := Option.bind_eq_some_iff.1 h1
    exact runOps_wp h3 ⟨n, o, a', H', h4, h2⟩
  · exact Wp.reg
theorem zx15 {l : List AOper} : Wp E lo rd (.code (.reg (some []) l) :: k) a H Q = WpOps E lo l a H fun a' H' => Wp E lo rd k a' H' Q := by
  apply propext
  constructor
  · rw [Wp_iff]
    rintro ⟨n, o, a', H', h1, h2⟩
    simp only [stepR] at h1
    obtain ⟨r, h3, h4⟩ := Option.bind_eq_some_iff.1 h1
    have h5 : runOps E (R E n) lo l a H = some r := by
      have := runTr_ops E (R E n) lo l a H
      unfold runD at h3
      obtain ⟨tr, h6, h7⟩ := Option.bind_eq_some_iff.1 h3
      rw [h6] at this
      rw [← this]
      simpa using h7
    exact runOps_wp h5 ⟨n, o, a', H', h4, h2⟩
  · exact Wp.regD
end
end Go.AM
