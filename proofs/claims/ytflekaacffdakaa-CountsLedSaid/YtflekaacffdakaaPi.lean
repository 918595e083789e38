/- The table of the functions that are needed. Conditions: as EOk names them. -/
import Derived.Test.YtflekaacffdakaaPi0
import Derived.Test.YtflekaacffdakaaAm2
namespace Go.Proofs.Ytflekaacffdakaa
open Go Go.AM Go.Proofs

def tab : List (Nat × AFunc) := [(18, f18A), (19, f19A), (20, f20A), (22, f22A), (23, f23A), (25, f25A), (26, f26A), (32, f32A), (39, f39A), (42, f42A), (56, f56A), (57, f57A), (59, f59A), (60, f60A), (61, f61A), (62, f62A), (66, f66A), (67, f67A), (68, f68A), (69, f69A), (70, f70A), (71, f71A), (74, f74A), (79, f79A), (80, f80A), (82, f82A), (84, f84A), (85, f85A), (90, f90A), (91, f91A), (92, f92A), (93, f93A), (94, f94A), (95, f95A), (98, f98A), (100, f100A), (101, f101A), (102, f102A), (103, f103A)]
def E : Tab := { fn := fun f => tab.lookup f, kd := kd }
theorem lookup_mem {β : Type} {f : Nat} {x : β} : ∀ {l : List (Nat × β)}, l.lookup f = some x → (f, x) ∈ l
  | [], h => by cases h
  | (k, y) :: l, h => by
    by_cases e : f = k
    · subst e
      simp [List.lookup] at h
      simp [h]
    · have : (f == k) = false := by simpa using e
      simp only [List.lookup, this] at h
      exact List.mem_cons_of_mem _ (lookup_mem h)
theorem fn18 : E.fn 18 = some f18A := by kernel_rfl
theorem fn19 : E.fn 19 = some f19A := by kernel_rfl
theorem fn20 : E.fn 20 = some f20A := by kernel_rfl
theorem fn22 : E.fn 22 = some f22A := by kernel_rfl
theorem fn23 : E.fn 23 = some f23A := by kernel_rfl
theorem fn25 : E.fn 25 = some f25A := by kernel_rfl
theorem fn26 : E.fn 26 = some f26A := by kernel_rfl
theorem fn32 : E.fn 32 = some f32A := by kernel_rfl
theorem fn39 : E.fn 39 = some f39A := by kernel_rfl
theorem fn42 : E.fn 42 = some f42A := by kernel_rfl
theorem fn56 : E.fn 56 = some f56A := by kernel_rfl
theorem fn57 : E.fn 57 = some f57A := by kernel_rfl
theorem fn59 : E.fn 59 = some f59A := by kernel_rfl
theorem fn60 : E.fn 60 = some f60A := by kernel_rfl
theorem fn61 : E.fn 61 = some f61A := by kernel_rfl
theorem fn62 : E.fn 62 = some f62A := by kernel_rfl
theorem fn66 : E.fn 66 = some f66A := by kernel_rfl
theorem fn67 : E.fn 67 = some f67A := by kernel_rfl
theorem fn68 : E.fn 68 = some f68A := by kernel_rfl
theorem fn69 : E.fn 69 = some f69A := by kernel_rfl
theorem fn70 : E.fn 70 = some f70A := by kernel_rfl
theorem fn71 : E.fn 71 = some f71A := by kernel_rfl
theorem fn74 : E.fn 74 = some f74A := by kernel_rfl
theorem fn79 : E.fn 79 = some f79A := by kernel_rfl
theorem fn80 : E.fn 80 = some f80A := by kernel_rfl
theorem fn82 : E.fn 82 = some f82A := by kernel_rfl
theorem fn84 : E.fn 84 = some f84A := by kernel_rfl
theorem fn85 : E.fn 85 = some f85A := by kernel_rfl
theorem fn90 : E.fn 90 = some f90A := by kernel_rfl
theorem fn91 : E.fn 91 = some f91A := by kernel_rfl
theorem fn92 : E.fn 92 = some f92A := by kernel_rfl
theorem fn93 : E.fn 93 = some f93A := by kernel_rfl
theorem fn94 : E.fn 94 = some f94A := by kernel_rfl
theorem fn95 : E.fn 95 = some f95A := by kernel_rfl
theorem fn98 : E.fn 98 = some f98A := by kernel_rfl
theorem fn100 : E.fn 100 = some f100A := by kernel_rfl
theorem fn101 : E.fn 101 = some f101A := by kernel_rfl
theorem fn102 : E.fn 102 = some f102A := by kernel_rfl
theorem fn103 : E.fn 103 = some f103A := by kernel_rfl
theorem tab_ok : ∀ p ∈ tab, FnOk C p.1 p.2 := by
  intro p hp
  simp only [tab, List.mem_cons, List.not_mem_nil, or_false] at hp
  rcases hp with rfl | rfl | rfl | rfl | rfl | rfl | rfl | rfl | rfl | rfl | rfl | rfl | rfl | rfl | rfl | rfl | rfl | rfl | rfl | rfl | rfl | rfl | rfl | rfl | rfl | rfl | rfl | rfl | rfl | rfl | rfl | rfl | rfl | rfl | rfl | rfl | rfl | rfl | rfl
  · exact ⟨_, Try.func18, f18P⟩
  · exact ⟨_, Try.func19, f19P⟩
  · exact ⟨_, Try.func20, f20P⟩
  · exact ⟨_, Try.func22, f22P⟩
  · exact ⟨_, Try.func23, f23P⟩
  · exact ⟨_, Try.func25, f25P⟩
  · exact ⟨_, Try.func26, f26P⟩
  · exact ⟨_, Try.func32, f32P⟩
  · exact ⟨_, Try.func39, f39P⟩
  · exact ⟨_, Try.func42, f42P⟩
  · exact ⟨_, Try.func56, f56P⟩
  · exact ⟨_, Try.func57, f57P⟩
  · exact ⟨_, Try.func59, f59P⟩
  · exact ⟨_, Try.func60, f60P⟩
  · exact ⟨_, Try.func61, f61P⟩
  · exact ⟨_, Try.func62, f62P⟩
  · exact ⟨_, Try.func66, f66P⟩
  · exact ⟨_, Try.func67, f67P⟩
  · exact ⟨_, Try.func68, f68P⟩
  · exact ⟨_, Try.func69, f69P⟩
  · exact ⟨_, Try.func70, f70P⟩
  · exact ⟨_, Try.func71, f71P⟩
  · exact ⟨_, Try.func74, f74P⟩
  · exact ⟨_, Try.func79, f79P⟩
  · exact ⟨_, Try.func80, f80P⟩
  · exact ⟨_, Try.func82, f82P⟩
  · exact ⟨_, Try.func84, f84P⟩
  · exact ⟨_, Try.func85, f85P⟩
  · exact ⟨_, Try.func90, f90P⟩
  · exact ⟨_, Try.func91, f91P⟩
  · exact ⟨_, Try.func92, f92P⟩
  · exact ⟨_, Try.func93, f93P⟩
  · exact ⟨_, Try.func94, f94P⟩
  · exact ⟨_, Try.func95, f95P⟩
  · exact ⟨_, Try.func98, f98P⟩
  · exact ⟨_, Try.func100, f100P⟩
  · exact ⟨_, Try.func101, f101P⟩
  · exact ⟨_, Try.func102, f102P⟩
  · exact ⟨_, Try.func103, f103P⟩
theorem mixed : C.P.follows .mixedOrders = true := by kernel_rfl
end Go.Proofs.Ytflekaacffdakaa
