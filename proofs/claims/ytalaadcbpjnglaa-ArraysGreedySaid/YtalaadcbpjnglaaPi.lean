/- The table of the functions that are needed. Conditions: as EOk names them. -/
import Derived.Test.YtalaadcbpjnglaaPi0
import Derived.Test.YtalaadcbpjnglaaAm2
namespace Go.Proofs.Ytalaadcbpjnglaa
open Go Go.AM Go.Proofs

def tab : List (Nat × AFunc) := [(6, f6A), (20, f20A), (21, f21A), (23, f23A), (25, f25A), (39, f39A), (43, f43A), (44, f44A), (45, f45A), (47, f47A), (56, f56A), (63, f63A), (66, f66A), (72, f72A), (73, f73A), (74, f74A), (75, f75A), (84, f84A), (85, f85A), (87, f87A), (89, f89A), (90, f90A), (96, f96A), (97, f97A), (98, f98A), (99, f99A), (101, f101A), (102, f102A), (103, f103A), (104, f104A), (106, f106A)]
def E : Tab := { fn := fun f => tab.lookup f, kd := kd }
theorem lookup_mem {β : Type} {f : Nat} {x : β} : ∀ {l : List (Nat × β)}, l.lookup f = some x → (f, x) ∈ l
  | [], h => by cases h
  | (k, y) :: l, h => by
    by_cases e : f = k
    · subst e
      simp [List.lookup] at h
      simp [h]
    · have : (f == k) = false := by simpa using e
      simp only [List.lookup, this] at h
      exact List.mem_cons_of_mem _ (lookup_mem h)
theorem fn6 : E.fn 6 = some f6A := by kernel_rfl
theorem fn20 : E.fn 20 = some f20A := by kernel_rfl
theorem fn21 : E.fn 21 = some f21A := by kernel_rfl
theorem fn23 : E.fn 23 = some f23A := by kernel_rfl
theorem fn25 : E.fn 25 = some f25A := by kernel_rfl
theorem fn39 : E.fn 39 = some f39A := by kernel_rfl
theorem fn43 : E.fn 43 = some f43A := by kernel_rfl
theorem fn44 : E.fn 44 = some f44A := by kernel_rfl
theorem fn45 : E.fn 45 = some f45A := by kernel_rfl
theorem fn47 : E.fn 47 = some f47A := by kernel_rfl
theorem fn56 : E.fn 56 = some f56A := by kernel_rfl
theorem fn63 : E.fn 63 = some f63A := by kernel_rfl
theorem fn66 : E.fn 66 = some f66A := by kernel_rfl
theorem fn72 : E.fn 72 = some f72A := by kernel_rfl
theorem fn73 : E.fn 73 = some f73A := by kernel_rfl
theorem fn74 : E.fn 74 = some f74A := by kernel_rfl
theorem fn75 : E.fn 75 = some f75A := by kernel_rfl
theorem fn84 : E.fn 84 = some f84A := by kernel_rfl
theorem fn85 : E.fn 85 = some f85A := by kernel_rfl
theorem fn87 : E.fn 87 = some f87A := by kernel_rfl
theorem fn89 : E.fn 89 = some f89A := by kernel_rfl
theorem fn90 : E.fn 90 = some f90A := by kernel_rfl
theorem fn96 : E.fn 96 = some f96A := by kernel_rfl
theorem fn97 : E.fn 97 = some f97A := by kernel_rfl
theorem fn98 : E.fn 98 = some f98A := by kernel_rfl
theorem fn99 : E.fn 99 = some f99A := by kernel_rfl
theorem fn101 : E.fn 101 = some f101A := by kernel_rfl
theorem fn102 : E.fn 102 = some f102A := by kernel_rfl
theorem fn103 : E.fn 103 = some f103A := by kernel_rfl
theorem fn104 : E.fn 104 = some f104A := by kernel_rfl
theorem fn106 : E.fn 106 = some f106A := by kernel_rfl
theorem tab_ok : ∀ p ∈ tab, FnOk C p.1 p.2 := by
  intro p hp
  simp only [tab, List.mem_cons, List.not_mem_nil, or_false] at hp
  rcases hp with rfl | rfl | rfl | rfl | rfl | rfl | rfl | rfl | rfl | rfl | rfl | rfl | rfl | rfl | rfl | rfl | rfl | rfl | rfl | rfl | rfl | rfl | rfl | rfl | rfl | rfl | rfl | rfl | rfl | rfl | rfl
  · exact ⟨_, Try.func6, f6P⟩
  · exact ⟨_, Try.func20, f20P⟩
  · exact ⟨_, Try.func21, f21P⟩
  · exact ⟨_, Try.func23, f23P⟩
  · exact ⟨_, Try.func25, f25P⟩
  · exact ⟨_, Try.func39, f39P⟩
  · exact ⟨_, Try.func43, f43P⟩
  · exact ⟨_, Try.func44, f44P⟩
  · exact ⟨_, Try.func45, f45P⟩
  · exact ⟨_, Try.func47, f47P⟩
  · exact ⟨_, Try.func56, f56P⟩
  · exact ⟨_, Try.func63, f63P⟩
  · exact ⟨_, Try.func66, f66P⟩
  · exact ⟨_, Try.func72, f72P⟩
  · exact ⟨_, Try.func73, f73P⟩
  · exact ⟨_, Try.func74, f74P⟩
  · exact ⟨_, Try.func75, f75P⟩
  · exact ⟨_, Try.func84, f84P⟩
  · exact ⟨_, Try.func85, f85P⟩
  · exact ⟨_, Try.func87, f87P⟩
  · exact ⟨_, Try.func89, f89P⟩
  · exact ⟨_, Try.func90, f90P⟩
  · exact ⟨_, Try.func96, f96P⟩
  · exact ⟨_, Try.func97, f97P⟩
  · exact ⟨_, Try.func98, f98P⟩
  · exact ⟨_, Try.func99, f99P⟩
  · exact ⟨_, Try.func101, f101P⟩
  · exact ⟨_, Try.func102, f102P⟩
  · exact ⟨_, Try.func103, f103P⟩
  · exact ⟨_, Try.func104, f104P⟩
  · exact ⟨_, Try.func106, f106P⟩
theorem mixed : C.P.follows .mixedOrders = true := by kernel_rfl
theorem eOk : EOk C (fun _ => True) E where
  kd := rfl
  fn := fun f af h => tab_ok (f, af) (lookup_mem h)
  prim := fun f g h => by
    simp only [C, kd] at h
    split at h
    · cases h
    · split at h <;> cases h
  stable := fun _ _ _ _ => trivial
  eq := fun t n h => by cases h
  mixed := mixed
end Go.Proofs.Ytalaadcbpjnglaa
