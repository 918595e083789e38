/- The table of the functions that are needed. Conditions: as EOk names them. -/
import Derived.Test.YtflekaacffdakaaPi0
import Derived.Test.YtflekaacffdakaaAm2
namespace Go.Proofs.Ytflekaacffdakaa
open Go Go.AM Go.Proofs

def tab : List (Nat × AFunc) := [(16, f16A), (19, f19A), (20, f20A), (21, f21A), (22, f22A), (23, f23A), (25, f25A), (26, f26A), (35, f35A), (39, f39A), (49, f49A), (50, f50A), (56, f56A), (70, f70A), (71, f71A), (73, f73A), (75, f75A), (76, f76A), (79, f79A), (80, f80A), (82, f82A), (84, f84A), (86, f86A), (87, f87A), (99, f99A), (100, f100A), (101, f101A)]
def E : Tab := { fn := fun f => tab.lookup f, kd := kd }
theorem lookup_mem {β : Type} {f : Nat} {x : β} : ∀ {l : List (Nat × β)}, l.lookup f = some x → (f, x) ∈ l
  | [], h => by cases h
  | (k, y) :: l, h => by
    by_cases e : f = k
    · subst e
      simp [List.lookup] at h
      simp [h]
    · have : (f == k) = false := by simpa using e
      simp only [List.lookup, this] at h
      exact List.mem_cons_of_mem _ (lookup_mem h)
theorem fn16 : E.fn 16 = some f16A := by kernel_rfl
theorem fn19 : E.fn 19 = some f19A := by kernel_rfl
theorem fn20 : E.fn 20 = some f20A := by kernel_rfl
theorem fn21 : E.fn 21 = some f21A := by kernel_rfl
theorem fn22 : E.fn 22 = some f22A := by kernel_rfl
theorem fn23 : E.fn 23 = some f23A := by kernel_rfl
theorem fn25 : E.fn 25 = some f25A := by kernel_rfl
theorem fn26 : E.fn 26 = some f26A := by kernel_rfl
theorem fn35 : E.fn 35 = some f35A := by kernel_rfl
theorem fn39 : E.fn 39 = some f39A := by kernel_rfl
theorem fn49 : E.fn 49 = some f49A := by kernel_rfl
theorem fn50 : E.fn 50 = some f50A := by kernel_rfl
theorem fn56 : E.fn 56 = some f56A := by kernel_rfl
theorem fn70 : E.fn 70 = some f70A := by kernel_rfl
theorem fn71 : E.fn 71 = some f71A := by kernel_rfl
theorem fn73 : E.fn 73 = some f73A := by kernel_rfl
theorem fn75 : E.fn 75 = some f75A := by kernel_rfl
theorem fn76 : E.fn 76 = some f76A := by kernel_rfl
theorem fn79 : E.fn 79 = some f79A := by kernel_rfl
theorem fn80 : E.fn 80 = some f80A := by kernel_rfl
theorem fn82 : E.fn 82 = some f82A := by kernel_rfl
theorem fn84 : E.fn 84 = some f84A := by kernel_rfl
theorem fn86 : E.fn 86 = some f86A := by kernel_rfl
theorem fn87 : E.fn 87 = some f87A := by kernel_rfl
theorem fn99 : E.fn 99 = some f99A := by kernel_rfl
theorem fn100 : E.fn 100 = some f100A := by kernel_rfl
theorem fn101 : E.fn 101 = some f101A := by kernel_rfl
theorem tab_ok : ∀ p ∈ tab, FnOk C p.1 p.2 := by
  intro p hp
  simp only [tab, List.mem_cons, List.not_mem_nil, or_false] at hp
  rcases hp with rfl | rfl | rfl | rfl | rfl | rfl | rfl | rfl | rfl | rfl | rfl | rfl | rfl | rfl | rfl | rfl | rfl | rfl | rfl | rfl | rfl | rfl | rfl | rfl | rfl | rfl | rfl
  · exact ⟨_, Try.func16, f16P⟩
  · exact ⟨_, Try.func19, f19P⟩
  · exact ⟨_, Try.func20, f20P⟩
  · exact ⟨_, Try.func21, f21P⟩
  · exact ⟨_, Try.func22, f22P⟩
  · exact ⟨_, Try.func23, f23P⟩
  · exact ⟨_, Try.func25, f25P⟩
  · exact ⟨_, Try.func26, f26P⟩
  · exact ⟨_, Try.func35, f35P⟩
  · exact ⟨_, Try.func39, f39P⟩
  · exact ⟨_, Try.func49, f49P⟩
  · exact ⟨_, Try.func50, f50P⟩
  · exact ⟨_, Try.func56, f56P⟩
  · exact ⟨_, Try.func70, f70P⟩
  · exact ⟨_, Try.func71, f71P⟩
  · exact ⟨_, Try.func73, f73P⟩
  · exact ⟨_, Try.func75, f75P⟩
  · exact ⟨_, Try.func76, f76P⟩
  · exact ⟨_, Try.func79, f79P⟩
  · exact ⟨_, Try.func80, f80P⟩
  · exact ⟨_, Try.func82, f82P⟩
  · exact ⟨_, Try.func84, f84P⟩
  · exact ⟨_, Try.func86, f86P⟩
  · exact ⟨_, Try.func87, f87P⟩
  · exact ⟨_, Try.func99, f99P⟩
  · exact ⟨_, Try.func100, f100P⟩
  · exact ⟨_, Try.func101, f101P⟩
theorem mixed : C.P.follows .mixedOrders = true := by kernel_rfl
end Go.Proofs.Ytflekaacffdakaa
