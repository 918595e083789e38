/- The table of the functions that are needed. Conditions: as EOk names them. -/
import Derived.Test.YtflekaacffdakaaPi0
import Derived.Test.YtflekaacffdakaaAm2
namespace Go.Proofs.Ytflekaacffdakaa
open Go Go.AM Go.Proofs

def tab : List (Nat × AFunc) := [(9, f9A), (19, f19A), (23, f23A), (25, f25A), (38, f38A), (39, f39A), (40, f40A), (41, f41A), (56, f56A), (70, f70A), (71, f71A), (77, f77A), (79, f79A), (80, f80A), (81, f81A), (84, f84A), (100, f100A), (101, f101A)]
def E : Tab := { fn := fun f => tab.lookup f, kd := kd }
theorem lookup_mem {β : Type} {f : Nat} {x : β} : ∀ {l : List (Nat × β)}, l.lookup f = some x → (f, x) ∈ l
  | [], h => by cases h
  | (k, y) :: l, h => by
    by_cases e : f = k
    · subst e
      simp [List.lookup] at h
      simp [h]
    · have : (f == k) = false := by simpa using e
      simp only [List.lookup, this] at h
      exact List.mem_cons_of_mem _ (lookup_mem h)
theorem fn9 : E.fn 9 = some f9A := by kernel_rfl
theorem fn19 : E.fn 19 = some f19A := by kernel_rfl
theorem fn23 : E.fn 23 = some f23A := by kernel_rfl
theorem fn25 : E.fn 25 = some f25A := by kernel_rfl
theorem fn38 : E.fn 38 = some f38A := by kernel_rfl
theorem fn39 : E.fn 39 = some f39A := by kernel_rfl
theorem fn40 : E.fn 40 = some f40A := by kernel_rfl
theorem fn41 : E.fn 41 = some f41A := by kernel_rfl
theorem fn56 : E.fn 56 = some f56A := by kernel_rfl
theorem fn70 : E.fn 70 = some f70A := by kernel_rfl
theorem fn71 : E.fn 71 = some f71A := by kernel_rfl
theorem fn77 : E.fn 77 = some f77A := by kernel_rfl
theorem fn79 : E.fn 79 = some f79A := by kernel_rfl
theorem fn80 : E.fn 80 = some f80A := by kernel_rfl
theorem fn81 : E.fn 81 = some f81A := by kernel_rfl
theorem fn84 : E.fn 84 = some f84A := by kernel_rfl
theorem fn100 : E.fn 100 = some f100A := by kernel_rfl
theorem fn101 : E.fn 101 = some f101A := by kernel_rfl
theorem tab_ok : ∀ p ∈ tab, FnOk C p.1 p.2 := by
  intro p hp
  simp only [tab, List.mem_cons, List.not_mem_nil, or_false] at hp
  rcases hp with rfl | rfl | rfl | rfl | rfl | rfl | rfl | rfl | rfl | rfl | rfl | rfl | rfl | rfl | rfl | rfl | rfl | rfl
  · exact ⟨_, Try.func9, f9P⟩
  · exact ⟨_, Try.func19, f19P⟩
  · exact ⟨_, Try.func23, f23P⟩
  · exact ⟨_, Try.func25, f25P⟩
  · exact ⟨_, Try.func38, f38P⟩
  · exact ⟨_, Try.func39, f39P⟩
  · exact ⟨_, Try.func40, f40P⟩
  · exact ⟨_, Try.func41, f41P⟩
  · exact ⟨_, Try.func56, f56P⟩
  · exact ⟨_, Try.func70, f70P⟩
  · exact ⟨_, Try.func71, f71P⟩
  · exact ⟨_, Try.func77, f77P⟩
  · exact ⟨_, Try.func79, f79P⟩
  · exact ⟨_, Try.func80, f80P⟩
  · exact ⟨_, Try.func81, f81P⟩
  · exact ⟨_, Try.func84, f84P⟩
  · exact ⟨_, Try.func100, f100P⟩
  · exact ⟨_, Try.func101, f101P⟩
theorem mixed : C.P.follows .mixedOrders = true := by kernel_rfl
end Go.Proofs.Ytflekaacffdakaa
