/- The abstract machine's evaluator: items, calls, rounds of a range over a function; more fuel tells the same. No condition. -/
import Derived.Test.YtflekaacffdakaaAmA
namespace Go.AM
open Go

inductive RVar where
  | t (n : Nat)
  | c (n : Nat) (k : Option Nat)

structure AFunc where
  nargs : Nat
  res : List RVar
  body : ACode

/-- How a function is called: 'wrt': it may write to what is older; 'ro': it may not; 'closed': no address goes in or out. -/
inductive Kd where
  | wrt | ro | closed
  | prim (g : List AV → Option AV)

structure Tab where
  fn : Nat → Option AFunc
  kd : Nat → Kd

inductive AI where
  | code (c : ACode)
  | blk (id : Nat)
  | lp (c : ACode)
  | begin

inductive Out where
  | done | ret
  | exit (id : Nat)

def Out.jmp : Out → Option Jmp
  | .done => none
  | .ret => some .ret
  | .exit id => some (.exit id)

abbrev Res := Out × Fr × Heap
/-- the lowest block that may be written · the loop whose round this is · what is to do -/
abbrev Rec := Nat → Option Nat → List AI → Fr → Heap → Option Res

def exitA (id : Nat) : List AI → Option (List AI)
  | [] => none
  | .blk j :: k => if j = id then some k else exitA id k
  | _ :: k => exitA id k

def initFr (vs : List AV) : Fr := fun t => vs.getD t .un
def setPs (a : Fr) : List Nat → List AV → Fr
  | p :: ps, v :: vs => setPs (a.upd p v) ps vs
  | _, _ => a

def resVar (a : Fr) (H : Heap) : RVar → Option AV
  | .t n => some (a n)
  | .c n k => match a n, k with
    | .p b o, none => ld H b o
    | .p b o, some m => (ldn H b o m).map .ag
    | _, _ => none
def resVars (a : Fr) (H : Heap) : List RVar → Option (List AV)
  | [] => some []
  | r :: rs => (resVar a H r).bind fun v => (resVars a H rs).map (v :: ·)
def resA (rs : List RVar) (a : Fr) (H : Heap) : Option AV :=
  match resVars a H rs with
  | some [v] => some v
  | some vs => some (.tp vs)
  | none => none

def runF (rec : Rec) (lo : Nat) (af : AFunc) (vs : List AV) (H : Heap) : Option (AV × Heap) :=
  if vs.length = af.nargs then
    match rec lo none [.code af.body] (initFr vs) H with
    | some (.done, a, H') => (resA af.res a H').map fun v => (v, H')
    | some (.ret, a, H') => (resA af.res a H').map fun v => (v, H')
    | _ => none
  else none

def callF (E : Tab) (rec : Rec) (lo : Nat) (f : Nat) (vs : List AV) (H : Heap) : Option (AV × Heap) :=
  match E.kd f with
  | .prim g => (g vs).bind fun v => if v.pure && AV.pureAll vs then some (v, H) else none
  | .wrt => (E.fn f).bind fun af => runF rec lo af vs H
  | .ro => (E.fn f).bind fun af => (runF rec H.length af vs H).map fun r => (r.1, if r.1.pure then H else H ++ (r.2.drop H.length).map Blk.shut)
  | .closed => if AV.pureAll vs then (E.fn f).bind fun af => (runF rec 0 af vs []).bind fun r => if r.1.pure then some (r.1, H) else none else none

def roundA (rec : Rec) (lo l : Nat) (fr : Fr) (ps : List Nat) (asg body : ACode) (vs : List AV) (H : Heap) : Option (AV × Heap) :=
  if vs.length = ps.length ∧ lo ≤ l then
    match rec lo (some l) [.code asg, .begin, .code body] (setPs fr ps vs) H with
    | some (out, _, H') => match H'[l]? with
      | some (.loop .busy _ nt' fr' ps' asg' body') =>
        some (.b out.jmp.isNone, H'.set l (.loop (if out.jmp.isNone then .ready else .done) out.jmp nt' fr' ps' asg' body'))
      | _ => none
    | none => none
  else none

def callV (E : Tab) (rec : Rec) (lo : Nat) (fv : AV) (vs : List AV) (H : Heap) : Option (AV × Heap) :=
  match fv with
  | .fn f us caps => callF E rec lo f (us ++ vs ++ caps) H
  | .yl l => match H[l]? with
    | some (.loop .ready _ _ fr ps asg body) => roundA rec lo l fr ps asg body vs H
    | _ => none
  | _ => none

def opF (E : Tab) (rec : Rec) (lo : Nat) (o : AOp) (a : Fr) (H : Heap) : Option (AV × Heap) :=
  match o with
  | .call f args => callF E rec lo f (args.map (ev a)) H
  | .callv x args => callV E rec lo (ev a x) (args.map (ev a)) H
  | o => opA lo o a H

/-- is an operation wanted? -/
def wantedA (a : Fr) : Option (Nat × Bool) → Option Bool
  | none => some true
  | some (s, w) => match a s with
    | .b x => some (x == w)
    | .tp [] => some false
    | _ => none

def runOps (E : Tab) (rec : Rec) (lo : Nat) : List AOper → Fr → Heap → Option (Fr × Heap)
  | [], a, H => some (a, H)
  | o :: os, a, H =>
    match wantedA a o.guard with
    | some true => (opF E rec lo o.op a H).bind fun r => runOps E rec lo os (a.put o.dst r.1) r.2
    | some false => runOps E rec lo os (a.put o.dst .no) H
    | none => none

/-- the states ahead of each operation, and behind the last -/
def runTr (E : Tab) (rec : Rec) (lo : Nat) : List AOper → Fr → Heap → Option (List (Fr × Heap))
  | [], a, H => some [(a, H)]
  | o :: os, a, H =>
    match wantedA a o.guard with
    | some true => (opF E rec lo o.op a H).bind fun r => (runTr E rec lo os (a.put o.dst r.1) r.2).map ((a, H) :: ·)
    | some false => (runTr E rec lo os (a.put o.dst .no) H).map ((a, H) :: ·)
    | none => none
def sameO : Option AV → Option AV → Bool
  | some v, some u => v.same u
  | none, none => true
  | _, _ => false
def sameLO : Option (List AV) → Option (List AV) → Bool
  | some v, some u => AV.sameL v u
  | none, none => true
  | _, _ => false
/-- what the load at q.1 reads is the same ahead of and behind q.2 -/
def chk1 (l : List AOper) (tr : List (Fr × Heap)) (q : Nat × Nat) : Bool :=
  match l[q.1]?, tr[q.1]?, tr[q.2]?, tr[q.2 + 1]? with
  | some ⟨_, .load n x, _⟩, some s, some s1, some s2 =>
    match ev s.1 x with
    | .p b o => decide (s1.2.length ≤ b) || (match n with
      | none => sameO (ld s1.2 b o) (ld s2.2 b o)
      | some n => sameLO (ldn s1.2 b o n) (ldn s2.2 b o n))
    | _ => true
  | _, _, _, _ => false
/-- operations whose order is drawn: ck: the loads that are not ordered against an operation that writes -/
def runD (E : Tab) (rec : Rec) (lo : Nat) (ck : List (Nat × Nat)) (l : List AOper) (a : Fr) (H : Heap) : Option (Fr × Heap) :=
  (runTr E rec lo l a H).bind fun tr => if ck.all (chk1 l tr) then tr[l.length]? else none

/-- may the loop's record be laid? -/
def mayLoop (lo : Nat) (rd : Option Nat) (H : Heap) : Bool :=
  match rd with
  | none => true
  | some l => lo ≤ l && (match H[l]? with
    | some (.loop _ _ _ _ _ _ _) => true
    | _ => false)

def stepR (E : Tab) (rec : Rec) (lo : Nat) (rd : Option Nat) (k : List AI) (a : Fr) (H : Heap) : Option Res :=
  match k with
  | [] => some (.done, a, H)
  | .blk _ :: k => rec lo rd k a H
  | .lp c :: k => rec lo rd (.code c :: .lp c :: k) a H
  | .begin :: k => match rd with
    | some l => match H[l]? with
      | some (.loop .ready p nt fr ps asg body) => if lo ≤ l then rec lo rd k a (H.set l (.loop .busy p nt fr ps asg body)) else none
      | _ => none
    | none => none
  | .code .ret :: _ => some (.ret, a, H)
  | .code .skip :: k => rec lo rd k a H
  | .code (.seq x y) :: k => rec lo rd (.code x :: .code y :: k) a H
  | .code (.cond c x y) :: k => match ev a c with
    | .b true => rec lo rd (.code x :: k) a H
    | .b false => rec lo rd (.code y :: k) a H
    | _ => none
  | .code (.block id c) :: k => rec lo rd (.code c :: .blk id :: k) a H
  | .code (.loop c) :: k => rec lo rd (.code c :: .lp c :: k) a H
  | .code (.exit id) :: k => match exitA id k with
    | some k' => rec lo rd k' a H
    | none => some (.exit id, a, H)
  | .code (.reg none l) :: k => (runOps E rec lo l a H).bind fun r => rec lo rd k r.1 r.2
  | .code (.reg (some ck) l) :: k => (runD E rec lo ck l a H).bind fun r => rec lo rd k r.1 r.2
  | .code (.rangeF nt x ps asg body) :: k =>
    if mayLoop lo rd H then
    match ev a x with
    | .fn f us caps =>
      (callF E rec lo f (us ++ .yl H.length :: caps) (H ++ [.loop .ready none nt a ps asg body])).bind fun r =>
        match r.2[H.length]? with
        | some (.loop .busy _ _ _ _ _ _) => none
        | some (.loop _ none _ _ _ _ _) => rec lo rd k a (r.2.set H.length .dead)
        | some (.loop _ (some j) _ _ _ _ _) => rec lo rd (.code j.code :: k) a (r.2.set H.length .dead)
        | _ => none
    | _ => none
    else none
  | .code .bad :: _ => none

def R (E : Tab) : Nat → Rec
  | 0 => fun _ _ _ _ _ => none
  | n + 1 => stepR E (R E n)

/-! ### More fuel tells the same -/
def LeR (r r' : Rec) : Prop := ∀ lo rd k a H x, r lo rd k a H = some x → r' lo rd k a H = some x
theorem LeR.refl (r : Rec) : LeR r r := fun _ _ _ _ _ _ h => h
section mono
variable {r r' : Rec} {E : Tab} {lo : Nat} {rd : Option Nat}

theorem runF_mono (h : LeR r r') {af : AFunc} {vs : List AV} {H : Heap} {x} (hx : runF r lo af vs H = some x) : runF r' lo af vs H = some x := by
  unfold runF at hx ⊢
  split at hx
  · rename_i hl
    rw [if_pos hl]
    split at hx
    · rename_i e; rw [h _ _ _ _ _ _ e]; exact hx
    · rename_i e; rw [h _ _ _ _ _ _ e]; exact hx
    · cases hx
  · cases hx
theorem callF_mono (h : LeR r r') {f : Nat} {vs : List AV} {H : Heap} {x} (hx : callF E r lo f vs H = some x) : callF E r' lo f vs H = some x := by
  unfold callF at hx ⊢
  cases hk : E.kd f with
  | prim g => rw [hk] at hx; exact hx
  | wrt =>
    simp only [hk] at hx ⊢
    cases hf : E.fn f with
    | none => simp [hf] at hx
    | some af => simp only [hf, Option.bind_some] at hx ⊢; exact runF_mono h hx
  | ro =>
    simp only [hk] at hx ⊢
    cases hf : E.fn f with
    | none => simp [hf] at hx
    | some af =>
      simp only [hf, Option.bind_some, Option.map_eq_some_iff] at hx ⊢
      obtain ⟨y, hy, e⟩ := hx
      exact ⟨y, runF_mono h hy, e⟩
  | closed =>
    simp only [hk] at hx ⊢
    split at hx
    · rename_i hp
      rw [if_pos hp]
      cases hf : E.fn f with
      | none => simp [hf] at hx
      | some af =>
        simp only [hf, Option.bind_some, Option.bind_eq_some_iff] at hx ⊢
        obtain ⟨y, hy, e⟩ := hx
        exact ⟨y, runF_mono h hy, e⟩
    · cases hx
theorem roundA_mono (h : LeR r r') {l : Nat} {fr : Fr} {ps : List Nat} {asg body : ACode} {vs : List AV} {H : Heap} {x} (hx : roundA r lo l fr ps asg body vs H = some x) : roundA r' lo l fr ps asg body vs H = some x := by
  unfold roundA at hx ⊢
  split at hx
  · rename_i hl
    rw [if_pos hl]
    split at hx
    · rename_i e; rw [h _ _ _ _ _ _ e]; exact hx
    · cases hx
  · cases hx
theorem callV_mono (h : LeR r r') {fv : AV} {vs : List AV} {H : Heap} {x} (hx : callV E r lo fv vs H = some x) : callV E r' lo fv vs H = some x := by
  unfold callV at hx ⊢
  split at hx
  · exact callF_mono h hx
  · split at hx
    · exact roundA_mono h hx
    · cases hx
  · cases hx
theorem opF_mono (h : LeR r r') {o : AOp} {a : Fr} {H : Heap} {x} (hx : opF E r lo o a H = some x) : opF E r' lo o a H = some x := by
  unfold opF at hx ⊢
  split at hx
  · exact callF_mono h hx
  · exact callV_mono h hx
  · exact hx
theorem runOps_mono (h : LeR r r') {l : List AOper} : ∀ {a : Fr} {H : Heap} {x}, runOps E r lo l a H = some x → runOps E r' lo l a H = some x := by
  induction l with
  | nil => exact fun hx => hx
  | cons o os ih =>
    intro a H x hx
    unfold runOps at hx ⊢
    split at hx
    · simp only [Option.bind_eq_some_iff] at hx ⊢
      obtain ⟨y, hy, e'⟩ := hx
      exact ⟨y, opF_mono h hy, ih e'⟩
    · exact ih hx
    · cases hx
theorem runTr_mono (h : LeR r r') {l : List AOper} : ∀ {a : Fr} {H : Heap} {x}, runTr E r lo l a H = some x → runTr E r' lo l a H = some x := by
  induction l with
  | nil => exact fun hx => hx
  | cons o os ih =>
    intro a H x hx
    unfold runTr at hx ⊢
    split at hx
    · simp only [Option.bind_eq_some_iff, Option.map_eq_some_iff] at hx ⊢
      obtain ⟨y, hy, z, hz, e'⟩ := hx
      exact ⟨y, opF_mono h hy, z, ih hz, e'⟩
    · simp only [Option.map_eq_some_iff] at hx ⊢
      obtain ⟨z, hz, e'⟩ := hx
      exact ⟨z, ih hz, e'⟩
    · cases hx
theorem runD_mono (h : LeR r r') {ck : List (Nat × Nat)} {l : List AOper} {a : Fr} {H : Heap} {x} (hx : runD E r lo ck l a H = some x) : runD E r' lo ck l a H = some x := by
  unfold runD at hx ⊢
  obtain ⟨y, hy, e⟩ := Option.bind_eq_some_iff.1 hx
  exact Option.bind_eq_some_iff.2 ⟨y, runTr_mono h hy, e⟩
theorem stepR_mono (h : LeR r r') {k : List AI} {a : Fr} {H : Heap} {x} (hx : stepR E r lo rd k a H = some x) : stepR E r' lo rd k a H = some x := by
  unfold stepR at hx ⊢
  split at hx
  · exact hx
  · exact h _ _ _ _ _ _ hx
  · exact h _ _ _ _ _ _ hx
  · split at hx
    · split at hx
      · split at hx
        · rename_i hl; rw [if_pos hl]; exact h _ _ _ _ _ _ hx
        · cases hx
      · cases hx
    · cases hx
  · exact hx
  · exact h _ _ _ _ _ _ hx
  · exact h _ _ _ _ _ _ hx
  · split at hx
    · exact h _ _ _ _ _ _ hx
    · exact h _ _ _ _ _ _ hx
    · cases hx
  · exact h _ _ _ _ _ _ hx
  · exact h _ _ _ _ _ _ hx
  · split at hx
    · exact h _ _ _ _ _ _ hx
    · exact hx
  · simp only [Option.bind_eq_some_iff] at hx ⊢
    obtain ⟨y, hy, e⟩ := hx
    exact ⟨y, runOps_mono h hy, h _ _ _ _ _ _ e⟩
  · simp only [Option.bind_eq_some_iff] at hx ⊢
    obtain ⟨y, hy, e⟩ := hx
    exact ⟨y, runD_mono h hy, h _ _ _ _ _ _ e⟩
  · split at hx
    · rename_i hm
      rw [if_pos hm]
      split at hx
      · simp only [Option.bind_eq_some_iff] at hx ⊢
        obtain ⟨y, hy, e⟩ := hx
        refine ⟨y, callF_mono h hy, ?_⟩
        split at e
        · cases e
        · exact h _ _ _ _ _ _ e
        · exact h _ _ _ _ _ _ e
        · cases e
      · cases hx
    · cases hx
  · cases hx
end mono
theorem R_succ (E : Tab) : ∀ n, LeR (R E n) (R E (n + 1))
  | 0 => fun _ _ _ _ _ _ h => by cases h
  | n + 1 => fun _ _ _ _ _ _ h => stepR_mono (R_succ E n) h
theorem R_le (E : Tab) {n m : Nat} (h : n ≤ m) : LeR (R E n) (R E m) := by
  induction h with
  | refl => exact LeR.refl _
  | step _ ih => exact fun lo rd k a H x hx => R_succ E _ lo rd k a H x (ih lo rd k a H x hx)

end Go.AM
