/- Rules for loops, accumulators and first frames. No condition. -/
import Derived.Test.YtflekaacffdakaaBoB
set_option linter.unusedSimpArgs false
set_option linter.unusedVariables false
namespace Go.AM
open Go

class Va where
  v : AV
def iteP (c : Bool) [v : Va] [u : Va] : AV := match c with
  | true => v.v
  | false => u.v
theorem zx71 {v u : AV} : @iteP true ⟨v⟩ ⟨u⟩ = v := (rfl)
theorem zx72 {v u : AV} : @iteP false ⟨v⟩ ⟨u⟩ = u := (rfl)
theorem zx70 {a : Fr} {d t : Nat} {v : AV} : a.upd d v t = @iteP (t == d) ⟨v⟩ ⟨a t⟩ := by
  unfold Fr.upd iteP
  by_cases h : t = d
  · simp [h]
  · rw [if_neg h, beq_eq_false_iff_ne.2 h]; rfl
theorem zx170 {c : Prop} [Decidable c] (h : c) : decide c = true := decide_eq_true h
theorem zx171 {c : Prop} [Decidable c] (h : ¬ c) : decide c = false := decide_eq_false h
theorem zx168 : lenV .nils = some (.i 0) := (rfl)
theorem zx169 {e b o n : Nat} {c : Option Nat} : lenV (.s e b o n c) = some (.i n) := (rfl)
theorem zx73 {v : AV} {vs : List AV} : initFr (v :: vs) 0 = v := (rfl)
theorem zx74 {v0 v : AV} {vs : List AV} : initFr (v0 :: v :: vs) 1 = v := (rfl)
theorem zx75 {v0 v1 v : AV} {vs : List AV} : initFr (v0 :: v1 :: v :: vs) 2 = v := (rfl)
theorem zx76 {v0 v1 v2 v : AV} {vs : List AV} : initFr (v0 :: v1 :: v2 :: v :: vs) 3 = v := (rfl)
theorem zx77 {v0 v1 v2 v3 v : AV} {vs : List AV} : initFr (v0 :: v1 :: v2 :: v3 :: v :: vs) 4 = v := (rfl)
theorem zx78 {v0 v1 v2 v3 v4 v : AV} {vs : List AV} : initFr (v0 :: v1 :: v2 :: v3 :: v4 :: v :: vs) 5 = v := (rfl)
theorem zx79 {v0 v1 v2 v3 v4 v5 v : AV} {vs : List AV} : initFr (v0 :: v1 :: v2 :: v3 :: v4 :: v5 :: v :: vs) 6 = v := (rfl)
theorem zx80 {v0 v1 v2 v3 v4 v5 v6 v : AV} {vs : List AV} : initFr (v0 :: v1 :: v2 :: v3 :: v4 :: v5 :: v6 :: v :: vs) 7 = v := (rfl)
/-- frames that agree but at m -/
def Ag (m : List Nat) (a0 a : Fr) : Prop := ∀ t, m.contains t = false → a t = a0 t
theorem Ag.refl (m : List Nat) (a : Fr) : Ag m a a := fun _ _ => rfl
theorem Ag.upd {m : List Nat} {a0 a : Fr} (h : Ag m a0 a) {d : Nat} {v : AV} (hd : m.contains d = true) : Ag m a0 (a.upd d v) := by
  intro t ht
  unfold Fr.upd
  split
  · rename_i e; subst e; rw [hd] at ht; cases ht
  · exact h t ht
class FH where
  p : Fr → Heap → Prop
/-- what is to be shown of the next round -/
def Nx (J : Fr → Heap → Prop) [P : FH] : Prop := ∀ a H, J a H → P.p a H
theorem Nx.go {J P : Fr → Heap → Prop} (h : @Nx J ⟨P⟩) {a : Fr} {H : Heap} (hj : J a H) : @lpP ⟨P a H⟩ := h a H hj
theorem zx164 {E : Tab} {lo : Nat} {rd : Option Nat} {k : List AI} {a : Fr} {H : Heap} {Q : Out → Fr → Heap → Prop} {c : ACode} : Wp E lo rd (.lp c :: k) a H Q = @lpP ⟨Wp E lo rd (.lp c :: k) a H Q⟩ := (rfl)
/-- a loop whose rounds are counted -/
theorem Wp.for {E : Tab} {lo : Nat} {rd : Option Nat} {k : List AI} {a : Fr} {H : Heap} {Q : Out → Fr → Heap → Prop} {c : ACode} (n : Nat) (J : Nat → Fr → Heap → Prop)
    (h : ∀ i a H, i ≤ n → J i a H → (i < n → @Nx (J (i + 1)) ⟨fun a' H' => Wp E lo rd (.lp c :: k) a' H' Q⟩) → Wp E lo rd (.code c :: .lp c :: k) a H Q) (h0 : J 0 a H) : @lpP ⟨Wp E lo rd (.lp c :: k) a H Q⟩ := by
  have key : ∀ (m i : Nat), n - i = m → i ≤ n → ∀ a H, J i a H → Wp E lo rd (.lp c :: k) a H Q := by
    intro m
    induction m with
    | zero =>
      intro i e hi a H hJ
      exact Wp.lp (h i a H hi hJ fun hlt => absurd hlt (by omega))
    | succ m ih =>
      intro i e hi a H hJ
      exact Wp.lp (h i a H hi hJ fun hlt a' H' hJ' => ih (i + 1) (by omega) (by omega) a' H' hJ')
  exact key n 0 (by omega) (Nat.zero_le _) a H h0
/-- a loop, with what grows less -/
theorem Wp.dec {E : Tab} {lo : Nat} {rd : Option Nat} {k : List AI} {a : Fr} {H : Heap} {Q : Out → Fr → Heap → Prop} {c : ACode} (J : Nat → Fr → Heap → Prop) (n : Nat)
    (h : ∀ i a H, J i a H → @Nx (fun a H => ∃ j, j < i ∧ J j a H) ⟨fun a' H' => Wp E lo rd (.lp c :: k) a' H' Q⟩ → Wp E lo rd (.code c :: .lp c :: k) a H Q) (h0 : J n a H) : @lpP ⟨Wp E lo rd (.lp c :: k) a H Q⟩ := by
  have key : ∀ (m : Nat) (a : Fr) (H : Heap), J m a H → Wp E lo rd (.lp c :: k) a H Q := by
    intro m
    induction m using Nat.strongRecOn with
    | ind m ih =>
      intro a H hJ
      exact Wp.lp (h m a H hJ fun a' H' ⟨j, hj, hJ'⟩ => ih j hj a' H' hJ')
  exact key n a H h0
theorem Sl.cellsV {α : Type} [Rep α] {p : Nat → Prop} {H : Heap} {v : AV} {xs : List α} (h : Sl p H v xs) : v.cells = [v] ∧ v.one = true := by
  rcases h with ⟨rfl, rfl⟩ | ⟨b, o, c, k, rfl, _⟩ <;> exact ⟨rfl, rfl⟩

section
variable {p : Nat → Prop} {H : Heap} {v : AV}
theorem Sl.I {xs : List Int} (h : Sl p H v xs) : Go.AM.lenV v = some (.i xs.length) ∧ (∀ (kk : IntKind) (k : Int), 0 ≤ k → k < xs.length → iaddrV 1 v (.int kk k) = some (v.at 1 k)) ∧ (∀ k : Int, 0 ≤ k → k < xs.length → ldA H none (v.at 1 k) = some (.i (gi xs k))) ∧ v.cells = [v] ∧ v.one = true :=
  ⟨h.lenV, fun _ _ h0 h1 => h.iaddr h0 h1, fun _ h0 h1 => h.ld_int h0 h1, h.cellsV⟩
theorem Sl.B {xs : List Bool} (h : Sl p H v xs) : Go.AM.lenV v = some (.i xs.length) ∧ (∀ (kk : IntKind) (k : Int), 0 ≤ k → k < xs.length → iaddrV 1 v (.int kk k) = some (v.at 1 k)) ∧ (∀ k : Int, 0 ≤ k → k < xs.length → ldA H none (v.at 1 k) = some (.b (gi xs k))) ∧ v.cells = [v] ∧ v.one = true :=
  ⟨h.lenV, fun _ _ h0 h1 => h.iaddr h0 h1, fun _ h0 h1 => h.ld_bool h0 h1, h.cellsV⟩
theorem Sl.L {α : Type} [Rep α] {xs : List (List α)} (h : Sl p H v xs) : Go.AM.lenV v = some (.i xs.length) ∧ (∀ (kk : IntKind) (k : Int), 0 ≤ k → k < xs.length → iaddrV 1 v (.int kk k) = some (v.at 1 k)) ∧ (∀ k : Int, 0 ≤ k → k < xs.length → ldA H none (v.at 1 k) = some (v.get H k)) ∧ v.cells = [v] ∧ v.one = true :=
  ⟨h.lenV, fun _ _ h0 h1 => h.iaddr h0 h1, fun _ h0 h1 => h.ld_list h0 h1, h.cellsV⟩
theorem Sl.T {xs : List (Int × Int)} (h : Sl p H v xs) : Go.AM.lenV v = some (.i xs.length) ∧ (∀ (kk : IntKind) (k : Int), 0 ≤ k → k < xs.length → iaddrV 2 v (.int kk k) = some (v.at 2 k)) ∧ (∀ k : Int, 0 ≤ k → k < xs.length → ldA H (some 2) (v.at 2 k) = some (.ag [.i (gi xs k).1, .i (gi xs k).2])) ∧ v.cells = [v] ∧ v.one = true :=
  ⟨h.lenV, fun _ _ h0 h1 => h.iaddr h0 h1, fun _ h0 h1 => h.ld_two h0 h1, h.cellsV⟩
end
end Go.AM
