/- The table of the functions that are needed. Conditions: as EOk names them. -/
import Derived.Test.YtalaadcbpjnglaaPi0
import Derived.Test.YtalaadcbpjnglaaAm2
namespace Go.Proofs.Ytalaadcbpjnglaa
open Go Go.AM Go.Proofs

def tab : List (Nat × AFunc) := [(4, f4A), (20, f20A), (21, f21A), (23, f23A), (25, f25A), (27, f27A), (28, f28A), (29, f29A), (30, f30A), (47, f47A), (71, f71A), (72, f72A), (73, f73A), (74, f74A), (75, f75A), (95, f95A), (96, f96A), (97, f97A), (98, f98A), (99, f99A)]
def E : Tab := { fn := fun f => tab.lookup f, kd := kd }
theorem lookup_mem {β : Type} {f : Nat} {x : β} : ∀ {l : List (Nat × β)}, l.lookup f = some x → (f, x) ∈ l
  | [], h => by cases h
  | (k, y) :: l, h => by
    by_cases e : f = k
    · subst e
      simp [List.lookup] at h
      simp [h]
    · have : (f == k) = false := by simpa using e
      simp only [List.lookup, this] at h
      exact List.mem_cons_of_mem _ (lookup_mem h)
theorem fn4 : E.fn 4 = some f4A := by kernel_rfl
theorem fn20 : E.fn 20 = some f20A := by kernel_rfl
theorem fn21 : E.fn 21 = some f21A := by kernel_rfl
theorem fn23 : E.fn 23 = some f23A := by kernel_rfl
theorem fn25 : E.fn 25 = some f25A := by kernel_rfl
theorem fn27 : E.fn 27 = some f27A := by kernel_rfl
theorem fn28 : E.fn 28 = some f28A := by kernel_rfl
theorem fn29 : E.fn 29 = some f29A := by kernel_rfl
theorem fn30 : E.fn 30 = some f30A := by kernel_rfl
theorem fn47 : E.fn 47 = some f47A := by kernel_rfl
theorem fn71 : E.fn 71 = some f71A := by kernel_rfl
theorem fn72 : E.fn 72 = some f72A := by kernel_rfl
theorem fn73 : E.fn 73 = some f73A := by kernel_rfl
theorem fn74 : E.fn 74 = some f74A := by kernel_rfl
theorem fn75 : E.fn 75 = some f75A := by kernel_rfl
theorem fn95 : E.fn 95 = some f95A := by kernel_rfl
theorem fn96 : E.fn 96 = some f96A := by kernel_rfl
theorem fn97 : E.fn 97 = some f97A := by kernel_rfl
theorem fn98 : E.fn 98 = some f98A := by kernel_rfl
theorem fn99 : E.fn 99 = some f99A := by kernel_rfl
theorem tab_ok : ∀ p ∈ tab, FnOk C p.1 p.2 := by
  intro p hp
  simp only [tab, List.mem_cons, List.not_mem_nil, or_false] at hp
  rcases hp with rfl | rfl | rfl | rfl | rfl | rfl | rfl | rfl | rfl | rfl | rfl | rfl | rfl | rfl | rfl | rfl | rfl | rfl | rfl | rfl
  · exact ⟨_, Try.func4, f4P⟩
  · exact ⟨_, Try.func20, f20P⟩
  · exact ⟨_, Try.func21, f21P⟩
  · exact ⟨_, Try.func23, f23P⟩
  · exact ⟨_, Try.func25, f25P⟩
  · exact ⟨_, Try.func27, f27P⟩
  · exact ⟨_, Try.func28, f28P⟩
  · exact ⟨_, Try.func29, f29P⟩
  · exact ⟨_, Try.func30, f30P⟩
  · exact ⟨_, Try.func47, f47P⟩
  · exact ⟨_, Try.func71, f71P⟩
  · exact ⟨_, Try.func72, f72P⟩
  · exact ⟨_, Try.func73, f73P⟩
  · exact ⟨_, Try.func74, f74P⟩
  · exact ⟨_, Try.func75, f75P⟩
  · exact ⟨_, Try.func95, f95P⟩
  · exact ⟨_, Try.func96, f96P⟩
  · exact ⟨_, Try.func97, f97P⟩
  · exact ⟨_, Try.func98, f98P⟩
  · exact ⟨_, Try.func99, f99P⟩
theorem mixed : C.P.follows .mixedOrders = true := by kernel_rfl
theorem eOk : EOk C (fun _ => True) E where
  kd := rfl
  fn := fun f af h => tab_ok (f, af) (lookup_mem h)
  prim := fun f g h => by
    simp only [C, kd] at h
    split at h
    · cases h
    · split at h <;> cases h
  stable := fun _ _ _ _ => trivial
  eq := fun t n h => by cases h
  mixed := mixed
end Go.Proofs.Ytalaadcbpjnglaa
