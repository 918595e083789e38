/- The table of the functions that are needed. Conditions: as EOk names them. -/
import Derived.Test.YtalaadcbpjnglaaPi0
import Derived.Test.YtalaadcbpjnglaaAm2
namespace Go.Proofs.Ytalaadcbpjnglaa
open Go Go.AM Go.Proofs

def tab : List (Nat × AFunc) := [(15, f15A), (21, f21A), (25, f25A), (32, f32A), (33, f33A), (34, f34A), (35, f35A), (36, f36A), (38, f38A), (39, f39A), (41, f41A), (46, f46A), (47, f47A), (52, f52A), (57, f57A), (62, f62A), (72, f72A), (74, f74A), (75, f75A), (77, f77A), (79, f79A), (81, f81A), (82, f82A), (86, f86A), (87, f87A), (88, f88A), (92, f92A), (96, f96A), (97, f97A), (98, f98A), (99, f99A), (101, f101A), (102, f102A), (103, f103A), (104, f104A), (106, f106A)]
def E : Tab := { fn := fun f => tab.lookup f, kd := kd }
theorem lookup_mem {β : Type} {f : Nat} {x : β} : ∀ {l : List (Nat × β)}, l.lookup f = some x → (f, x) ∈ l
  | [], h => by cases h
  | (k, y) :: l, h => by
    by_cases e : f = k
    · subst e
      simp [List.lookup] at h
      simp [h]
    · have : (f == k) = false := by simpa using e
      simp only [List.lookup, this] at h
      exact List.mem_cons_of_mem _ (lookup_mem h)
theorem fn15 : E.fn 15 = some f15A := by kernel_rfl
theorem fn21 : E.fn 21 = some f21A := by kernel_rfl
theorem fn25 : E.fn 25 = some f25A := by kernel_rfl
theorem fn32 : E.fn 32 = some f32A := by kernel_rfl
theorem fn33 : E.fn 33 = some f33A := by kernel_rfl
theorem fn34 : E.fn 34 = some f34A := by kernel_rfl
theorem fn35 : E.fn 35 = some f35A := by kernel_rfl
theorem fn36 : E.fn 36 = some f36A := by kernel_rfl
theorem fn38 : E.fn 38 = some f38A := by kernel_rfl
theorem fn39 : E.fn 39 = some f39A := by kernel_rfl
theorem fn41 : E.fn 41 = some f41A := by kernel_rfl
theorem fn46 : E.fn 46 = some f46A := by kernel_rfl
theorem fn47 : E.fn 47 = some f47A := by kernel_rfl
theorem fn52 : E.fn 52 = some f52A := by kernel_rfl
theorem fn57 : E.fn 57 = some f57A := by kernel_rfl
theorem fn62 : E.fn 62 = some f62A := by kernel_rfl
theorem fn72 : E.fn 72 = some f72A := by kernel_rfl
theorem fn74 : E.fn 74 = some f74A := by kernel_rfl
theorem fn75 : E.fn 75 = some f75A := by kernel_rfl
theorem fn77 : E.fn 77 = some f77A := by kernel_rfl
theorem fn79 : E.fn 79 = some f79A := by kernel_rfl
theorem fn81 : E.fn 81 = some f81A := by kernel_rfl
theorem fn82 : E.fn 82 = some f82A := by kernel_rfl
theorem fn86 : E.fn 86 = some f86A := by kernel_rfl
theorem fn87 : E.fn 87 = some f87A := by kernel_rfl
theorem fn88 : E.fn 88 = some f88A := by kernel_rfl
theorem fn92 : E.fn 92 = some f92A := by kernel_rfl
theorem fn96 : E.fn 96 = some f96A := by kernel_rfl
theorem fn97 : E.fn 97 = some f97A := by kernel_rfl
theorem fn98 : E.fn 98 = some f98A := by kernel_rfl
theorem fn99 : E.fn 99 = some f99A := by kernel_rfl
theorem fn101 : E.fn 101 = some f101A := by kernel_rfl
theorem fn102 : E.fn 102 = some f102A := by kernel_rfl
theorem fn103 : E.fn 103 = some f103A := by kernel_rfl
theorem fn104 : E.fn 104 = some f104A := by kernel_rfl
theorem fn106 : E.fn 106 = some f106A := by kernel_rfl
theorem tab_ok : ∀ p ∈ tab, FnOk C p.1 p.2 := by
  intro p hp
  simp only [tab, List.mem_cons, List.not_mem_nil, or_false] at hp
  rcases hp with rfl | rfl | rfl | rfl | rfl | rfl | rfl | rfl | rfl | rfl | rfl | rfl | rfl | rfl | rfl | rfl | rfl | rfl | rfl | rfl | rfl | rfl | rfl | rfl | rfl | rfl | rfl | rfl | rfl | rfl | rfl | rfl | rfl | rfl | rfl | rfl
  · exact ⟨_, Try.func15, f15P⟩
  · exact ⟨_, Try.func21, f21P⟩
  · exact ⟨_, Try.func25, f25P⟩
  · exact ⟨_, Try.func32, f32P⟩
  · exact ⟨_, Try.func33, f33P⟩
  · exact ⟨_, Try.func34, f34P⟩
  · exact ⟨_, Try.func35, f35P⟩
  · exact ⟨_, Try.func36, f36P⟩
  · exact ⟨_, Try.func38, f38P⟩
  · exact ⟨_, Try.func39, f39P⟩
  · exact ⟨_, Try.func41, f41P⟩
  · exact ⟨_, Try.func46, f46P⟩
  · exact ⟨_, Try.func47, f47P⟩
  · exact ⟨_, Try.func52, f52P⟩
  · exact ⟨_, Try.func57, f57P⟩
  · exact ⟨_, Try.func62, f62P⟩
  · exact ⟨_, Try.func72, f72P⟩
  · exact ⟨_, Try.func74, f74P⟩
  · exact ⟨_, Try.func75, f75P⟩
  · exact ⟨_, Try.func77, f77P⟩
  · exact ⟨_, Try.func79, f79P⟩
  · exact ⟨_, Try.func81, f81P⟩
  · exact ⟨_, Try.func82, f82P⟩
  · exact ⟨_, Try.func86, f86P⟩
  · exact ⟨_, Try.func87, f87P⟩
  · exact ⟨_, Try.func88, f88P⟩
  · exact ⟨_, Try.func92, f92P⟩
  · exact ⟨_, Try.func96, f96P⟩
  · exact ⟨_, Try.func97, f97P⟩
  · exact ⟨_, Try.func98, f98P⟩
  · exact ⟨_, Try.func99, f99P⟩
  · exact ⟨_, Try.func101, f101P⟩
  · exact ⟨_, Try.func102, f102P⟩
  · exact ⟨_, Try.func103, f103P⟩
  · exact ⟨_, Try.func104, f104P⟩
  · exact ⟨_, Try.func106, f106P⟩
theorem mixed : C.P.follows .mixedOrders = true := by kernel_rfl
end Go.Proofs.Ytalaadcbpjnglaa
