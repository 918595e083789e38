/- The table of the functions that are needed. Conditions: as EOk names them. -/
import Derived.Test.YtflekaacffdakaaPi0
import Derived.Test.YtflekaacffdakaaAm2
namespace Go.Proofs.Ytflekaacffdakaa
open Go Go.AM Go.Proofs

def tab : List (Nat × AFunc) := [(12, f12A), (19, f19A), (20, f20A), (22, f22A), (23, f23A), (25, f25A), (26, f26A), (28, f28A), (29, f29A), (31, f31A), (39, f39A), (45, f45A), (46, f46A), (47, f47A), (48, f48A), (54, f54A), (55, f55A), (56, f56A), (70, f70A), (71, f71A), (72, f72A), (73, f73A), (79, f79A), (84, f84A), (85, f85A), (99, f99A), (102, f102A)]
def E : Tab := { fn := fun f => tab.lookup f, kd := kd }
theorem lookup_mem {β : Type} {f : Nat} {x : β} : ∀ {l : List (Nat × β)}, l.lookup f = some x → (f, x) ∈ l
  | [], h => by cases h
  | (k, y) :: l, h => by
    by_cases e : f = k
    · subst e
      simp [List.lookup] at h
      simp [h]
    · have : (f == k) = false := by simpa using e
      simp only [List.lookup, this] at h
      exact List.mem_cons_of_mem _ (lookup_mem h)
theorem fn12 : E.fn 12 = some f12A := by kernel_rfl
theorem fn19 : E.fn 19 = some f19A := by kernel_rfl
theorem fn20 : E.fn 20 = some f20A := by kernel_rfl
theorem fn22 : E.fn 22 = some f22A := by kernel_rfl
theorem fn23 : E.fn 23 = some f23A := by kernel_rfl
theorem fn25 : E.fn 25 = some f25A := by kernel_rfl
theorem fn26 : E.fn 26 = some f26A := by kernel_rfl
theorem fn28 : E.fn 28 = some f28A := by kernel_rfl
theorem fn29 : E.fn 29 = some f29A := by kernel_rfl
theorem fn31 : E.fn 31 = some f31A := by kernel_rfl
theorem fn39 : E.fn 39 = some f39A := by kernel_rfl
theorem fn45 : E.fn 45 = some f45A := by kernel_rfl
theorem fn46 : E.fn 46 = some f46A := by kernel_rfl
theorem fn47 : E.fn 47 = some f47A := by kernel_rfl
theorem fn48 : E.fn 48 = some f48A := by kernel_rfl
theorem fn54 : E.fn 54 = some f54A := by kernel_rfl
theorem fn55 : E.fn 55 = some f55A := by kernel_rfl
theorem fn56 : E.fn 56 = some f56A := by kernel_rfl
theorem fn70 : E.fn 70 = some f70A := by kernel_rfl
theorem fn71 : E.fn 71 = some f71A := by kernel_rfl
theorem fn72 : E.fn 72 = some f72A := by kernel_rfl
theorem fn73 : E.fn 73 = some f73A := by kernel_rfl
theorem fn79 : E.fn 79 = some f79A := by kernel_rfl
theorem fn84 : E.fn 84 = some f84A := by kernel_rfl
theorem fn85 : E.fn 85 = some f85A := by kernel_rfl
theorem fn99 : E.fn 99 = some f99A := by kernel_rfl
theorem fn102 : E.fn 102 = some f102A := by kernel_rfl
theorem tab_ok : ∀ p ∈ tab, FnOk C p.1 p.2 := by
  intro p hp
  simp only [tab, List.mem_cons, List.not_mem_nil, or_false] at hp
  rcases hp with rfl | rfl | rfl | rfl | rfl | rfl | rfl | rfl | rfl | rfl | rfl | rfl | rfl | rfl | rfl | rfl | rfl | rfl | rfl | rfl | rfl | rfl | rfl | rfl | rfl | rfl | rfl
  · exact ⟨_, Try.func12, f12P⟩
  · exact ⟨_, Try.func19, f19P⟩
  · exact ⟨_, Try.func20, f20P⟩
  · exact ⟨_, Try.func22, f22P⟩
  · exact ⟨_, Try.func23, f23P⟩
  · exact ⟨_, Try.func25, f25P⟩
  · exact ⟨_, Try.func26, f26P⟩
  · exact ⟨_, Try.func28, f28P⟩
  · exact ⟨_, Try.func29, f29P⟩
  · exact ⟨_, Try.func31, f31P⟩
  · exact ⟨_, Try.func39, f39P⟩
  · exact ⟨_, Try.func45, f45P⟩
  · exact ⟨_, Try.func46, f46P⟩
  · exact ⟨_, Try.func47, f47P⟩
  · exact ⟨_, Try.func48, f48P⟩
  · exact ⟨_, Try.func54, f54P⟩
  · exact ⟨_, Try.func55, f55P⟩
  · exact ⟨_, Try.func56, f56P⟩
  · exact ⟨_, Try.func70, f70P⟩
  · exact ⟨_, Try.func71, f71P⟩
  · exact ⟨_, Try.func72, f72P⟩
  · exact ⟨_, Try.func73, f73P⟩
  · exact ⟨_, Try.func79, f79P⟩
  · exact ⟨_, Try.func84, f84P⟩
  · exact ⟨_, Try.func85, f85P⟩
  · exact ⟨_, Try.func99, f99P⟩
  · exact ⟨_, Try.func102, f102P⟩
theorem mixed : C.P.follows .mixedOrders = true := by kernel_rfl
end Go.Proofs.Ytflekaacffdakaa
