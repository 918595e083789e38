/- The table of the functions that are needed. Conditions: as EOk names them. -/
import Derived.Test.YtflekaacffdakaaPi0
import Derived.Test.YtflekaacffdakaaAm2
namespace Go.Proofs.Ytflekaacffdakaa
open Go Go.AM Go.Proofs

def tab : List (Nat × AFunc) := [(15, f15A), (19, f19A), (20, f20A), (22, f22A), (23, f23A), (24, f24A), (25, f25A), (26, f26A), (38, f38A), (39, f39A), (42, f42A), (43, f43A), (56, f56A), (57, f57A), (58, f58A), (59, f59A), (70, f70A), (71, f71A), (79, f79A), (80, f80A), (82, f82A), (83, f83A), (84, f84A), (85, f85A), (100, f100A), (101, f101A), (102, f102A)]
def E : Tab := { fn := fun f => tab.lookup f, kd := kd }
theorem lookup_mem {β : Type} {f : Nat} {x : β} : ∀ {l : List (Nat × β)}, l.lookup f = some x → (f, x) ∈ l
  | [], h => by cases h
  | (k, y) :: l, h => by
    by_cases e : f = k
    · subst e
      simp [List.lookup] at h
      simp [h]
    · have : (f == k) = false := by simpa using e
      simp only [List.lookup, this] at h
      exact List.mem_cons_of_mem _ (lookup_mem h)
theorem fn15 : E.fn 15 = some f15A := by kernel_rfl
theorem fn19 : E.fn 19 = some f19A := by kernel_rfl
theorem fn20 : E.fn 20 = some f20A := by kernel_rfl
theorem fn22 : E.fn 22 = some f22A := by kernel_rfl
theorem fn23 : E.fn 23 = some f23A := by kernel_rfl
theorem fn24 : E.fn 24 = some f24A := by kernel_rfl
theorem fn25 : E.fn 25 = some f25A := by kernel_rfl
theorem fn26 : E.fn 26 = some f26A := by kernel_rfl
theorem fn38 : E.fn 38 = some f38A := by kernel_rfl
theorem fn39 : E.fn 39 = some f39A := by kernel_rfl
theorem fn42 : E.fn 42 = some f42A := by kernel_rfl
theorem fn43 : E.fn 43 = some f43A := by kernel_rfl
theorem fn56 : E.fn 56 = some f56A := by kernel_rfl
theorem fn57 : E.fn 57 = some f57A := by kernel_rfl
theorem fn58 : E.fn 58 = some f58A := by kernel_rfl
theorem fn59 : E.fn 59 = some f59A := by kernel_rfl
theorem fn70 : E.fn 70 = some f70A := by kernel_rfl
theorem fn71 : E.fn 71 = some f71A := by kernel_rfl
theorem fn79 : E.fn 79 = some f79A := by kernel_rfl
theorem fn80 : E.fn 80 = some f80A := by kernel_rfl
theorem fn82 : E.fn 82 = some f82A := by kernel_rfl
theorem fn83 : E.fn 83 = some f83A := by kernel_rfl
theorem fn84 : E.fn 84 = some f84A := by kernel_rfl
theorem fn85 : E.fn 85 = some f85A := by kernel_rfl
theorem fn100 : E.fn 100 = some f100A := by kernel_rfl
theorem fn101 : E.fn 101 = some f101A := by kernel_rfl
theorem fn102 : E.fn 102 = some f102A := by kernel_rfl
theorem tab_ok : ∀ p ∈ tab, FnOk C p.1 p.2 := by
  intro p hp
  simp only [tab, List.mem_cons, List.not_mem_nil, or_false] at hp
  rcases hp with rfl | rfl | rfl | rfl | rfl | rfl | rfl | rfl | rfl | rfl | rfl | rfl | rfl | rfl | rfl | rfl | rfl | rfl | rfl | rfl | rfl | rfl | rfl | rfl | rfl | rfl | rfl
  · exact ⟨_, Try.func15, f15P⟩
  · exact ⟨_, Try.func19, f19P⟩
  · exact ⟨_, Try.func20, f20P⟩
  · exact ⟨_, Try.func22, f22P⟩
  · exact ⟨_, Try.func23, f23P⟩
  · exact ⟨_, Try.func24, f24P⟩
  · exact ⟨_, Try.func25, f25P⟩
  · exact ⟨_, Try.func26, f26P⟩
  · exact ⟨_, Try.func38, f38P⟩
  · exact ⟨_, Try.func39, f39P⟩
  · exact ⟨_, Try.func42, f42P⟩
  · exact ⟨_, Try.func43, f43P⟩
  · exact ⟨_, Try.func56, f56P⟩
  · exact ⟨_, Try.func57, f57P⟩
  · exact ⟨_, Try.func58, f58P⟩
  · exact ⟨_, Try.func59, f59P⟩
  · exact ⟨_, Try.func70, f70P⟩
  · exact ⟨_, Try.func71, f71P⟩
  · exact ⟨_, Try.func79, f79P⟩
  · exact ⟨_, Try.func80, f80P⟩
  · exact ⟨_, Try.func82, f82P⟩
  · exact ⟨_, Try.func83, f83P⟩
  · exact ⟨_, Try.func84, f84P⟩
  · exact ⟨_, Try.func85, f85P⟩
  · exact ⟨_, Try.func100, f100P⟩
  · exact ⟨_, Try.func101, f101P⟩
  · exact ⟨_, Try.func102, f102P⟩
theorem mixed : C.P.follows .mixedOrders = true := by kernel_rfl
end Go.Proofs.Ytflekaacffdakaa
