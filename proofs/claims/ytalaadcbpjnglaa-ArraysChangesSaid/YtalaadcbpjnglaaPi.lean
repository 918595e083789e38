/- The table of the functions that are needed. Conditions: as EOk names them. -/
import Derived.Test.YtalaadcbpjnglaaPi0
import Derived.Test.YtalaadcbpjnglaaAm2
namespace Go.Proofs.Ytalaadcbpjnglaa
open Go Go.AM Go.Proofs

def tab : List (Nat × AFunc) := [(5, f5A), (20, f20A), (21, f21A), (23, f23A), (25, f25A), (31, f31A), (32, f32A), (33, f33A), (34, f34A), (35, f35A), (36, f36A), (37, f37A), (38, f38A), (39, f39A), (40, f40A), (41, f41A), (42, f42A), (47, f47A), (62, f62A), (74, f74A), (75, f75A), (76, f76A), (77, f77A), (78, f78A), (79, f79A), (81, f81A), (82, f82A), (83, f83A), (92, f92A), (98, f98A), (99, f99A), (100, f100A)]
def E : Tab := { fn := fun f => tab.lookup f, kd := kd }
theorem lookup_mem {β : Type} {f : Nat} {x : β} : ∀ {l : List (Nat × β)}, l.lookup f = some x → (f, x) ∈ l
  | [], h => by cases h
  | (k, y) :: l, h => by
    by_cases e : f = k
    · subst e
      simp [List.lookup] at h
      simp [h]
    · have : (f == k) = false := by simpa using e
      simp only [List.lookup, this] at h
      exact List.mem_cons_of_mem _ (lookup_mem h)
theorem fn5 : E.fn 5 = some f5A := by kernel_rfl
theorem fn20 : E.fn 20 = some f20A := by kernel_rfl
theorem fn21 : E.fn 21 = some f21A := by kernel_rfl
theorem fn23 : E.fn 23 = some f23A := by kernel_rfl
theorem fn25 : E.fn 25 = some f25A := by kernel_rfl
theorem fn31 : E.fn 31 = some f31A := by kernel_rfl
theorem fn32 : E.fn 32 = some f32A := by kernel_rfl
theorem fn33 : E.fn 33 = some f33A := by kernel_rfl
theorem fn34 : E.fn 34 = some f34A := by kernel_rfl
theorem fn35 : E.fn 35 = some f35A := by kernel_rfl
theorem fn36 : E.fn 36 = some f36A := by kernel_rfl
theorem fn37 : E.fn 37 = some f37A := by kernel_rfl
theorem fn38 : E.fn 38 = some f38A := by kernel_rfl
theorem fn39 : E.fn 39 = some f39A := by kernel_rfl
theorem fn40 : E.fn 40 = some f40A := by kernel_rfl
theorem fn41 : E.fn 41 = some f41A := by kernel_rfl
theorem fn42 : E.fn 42 = some f42A := by kernel_rfl
theorem fn47 : E.fn 47 = some f47A := by kernel_rfl
theorem fn62 : E.fn 62 = some f62A := by kernel_rfl
theorem fn74 : E.fn 74 = some f74A := by kernel_rfl
theorem fn75 : E.fn 75 = some f75A := by kernel_rfl
theorem fn76 : E.fn 76 = some f76A := by kernel_rfl
theorem fn77 : E.fn 77 = some f77A := by kernel_rfl
theorem fn78 : E.fn 78 = some f78A := by kernel_rfl
theorem fn79 : E.fn 79 = some f79A := by kernel_rfl
theorem fn81 : E.fn 81 = some f81A := by kernel_rfl
theorem fn82 : E.fn 82 = some f82A := by kernel_rfl
theorem fn83 : E.fn 83 = some f83A := by kernel_rfl
theorem fn92 : E.fn 92 = some f92A := by kernel_rfl
theorem fn98 : E.fn 98 = some f98A := by kernel_rfl
theorem fn99 : E.fn 99 = some f99A := by kernel_rfl
theorem fn100 : E.fn 100 = some f100A := by kernel_rfl
theorem tab_ok : ∀ p ∈ tab, FnOk C p.1 p.2 := by
  intro p hp
  simp only [tab, List.mem_cons, List.not_mem_nil, or_false] at hp
  rcases hp with rfl | rfl | rfl | rfl | rfl | rfl | rfl | rfl | rfl | rfl | rfl | rfl | rfl | rfl | rfl | rfl | rfl | rfl | rfl | rfl | rfl | rfl | rfl | rfl | rfl | rfl | rfl | rfl | rfl | rfl | rfl | rfl
  · exact ⟨_, Try.func5, f5P⟩
  · exact ⟨_, Try.func20, f20P⟩
  · exact ⟨_, Try.func21, f21P⟩
  · exact ⟨_, Try.func23, f23P⟩
  · exact ⟨_, Try.func25, f25P⟩
  · exact ⟨_, Try.func31, f31P⟩
  · exact ⟨_, Try.func32, f32P⟩
  · exact ⟨_, Try.func33, f33P⟩
  · exact ⟨_, Try.func34, f34P⟩
  · exact ⟨_, Try.func35, f35P⟩
  · exact ⟨_, Try.func36, f36P⟩
  · exact ⟨_, Try.func37, f37P⟩
  · exact ⟨_, Try.func38, f38P⟩
  · exact ⟨_, Try.func39, f39P⟩
  · exact ⟨_, Try.func40, f40P⟩
  · exact ⟨_, Try.func41, f41P⟩
  · exact ⟨_, Try.func42, f42P⟩
  · exact ⟨_, Try.func47, f47P⟩
  · exact ⟨_, Try.func62, f62P⟩
  · exact ⟨_, Try.func74, f74P⟩
  · exact ⟨_, Try.func75, f75P⟩
  · exact ⟨_, Try.func76, f76P⟩
  · exact ⟨_, Try.func77, f77P⟩
  · exact ⟨_, Try.func78, f78P⟩
  · exact ⟨_, Try.func79, f79P⟩
  · exact ⟨_, Try.func81, f81P⟩
  · exact ⟨_, Try.func82, f82P⟩
  · exact ⟨_, Try.func83, f83P⟩
  · exact ⟨_, Try.func92, f92P⟩
  · exact ⟨_, Try.func98, f98P⟩
  · exact ⟨_, Try.func99, f99P⟩
  · exact ⟨_, Try.func100, f100P⟩
theorem mixed : C.P.follows .mixedOrders = true := by kernel_rfl
end Go.Proofs.Ytalaadcbpjnglaa
