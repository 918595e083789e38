/- The table of the functions that are needed. Conditions: as EOk names them. -/
import Derived.Test.YtjjndoigkhabdaaDoorPi0
import Derived.Test.YtjjndoigkhabdaaDoorAm2
namespace Go.Proofs.YtjjndoigkhabdaaDoor
open Go Go.AM Go.Proofs

def tab : List (Nat × AFunc) := [(5, f5A), (17, f17A), (19, f19A), (20, f20A), (21, f21A), (22, f22A), (24, f24A), (28, f28A), (29, f29A), (30, f30A), (31, f31A), (32, f32A), (33, f33A), (55, f55A), (56, f56A), (59, f59A), (60, f60A), (62, f62A), (63, f63A), (64, f64A), (86, f86A), (87, f87A), (89, f89A), (90, f90A), (91, f91A), (110, f110A)]
def E : Tab := { fn := fun f => tab.lookup f, kd := kd }
theorem lookup_mem {β : Type} {f : Nat} {x : β} : ∀ {l : List (Nat × β)}, l.lookup f = some x → (f, x) ∈ l
  | [], h => by cases h
  | (k, y) :: l, h => by
    by_cases e : f = k
    · subst e
      simp [List.lookup] at h
      simp [h]
    · have : (f == k) = false := by simpa using e
      simp only [List.lookup, this] at h
      exact List.mem_cons_of_mem _ (lookup_mem h)
theorem fn5 : E.fn 5 = some f5A := by kernel_rfl
theorem fn17 : E.fn 17 = some f17A := by kernel_rfl
theorem fn19 : E.fn 19 = some f19A := by kernel_rfl
theorem fn20 : E.fn 20 = some f20A := by kernel_rfl
theorem fn21 : E.fn 21 = some f21A := by kernel_rfl
theorem fn22 : E.fn 22 = some f22A := by kernel_rfl
theorem fn24 : E.fn 24 = some f24A := by kernel_rfl
theorem fn28 : E.fn 28 = some f28A := by kernel_rfl
theorem fn29 : E.fn 29 = some f29A := by kernel_rfl
theorem fn30 : E.fn 30 = some f30A := by kernel_rfl
theorem fn31 : E.fn 31 = some f31A := by kernel_rfl
theorem fn32 : E.fn 32 = some f32A := by kernel_rfl
theorem fn33 : E.fn 33 = some f33A := by kernel_rfl
theorem fn55 : E.fn 55 = some f55A := by kernel_rfl
theorem fn56 : E.fn 56 = some f56A := by kernel_rfl
theorem fn59 : E.fn 59 = some f59A := by kernel_rfl
theorem fn60 : E.fn 60 = some f60A := by kernel_rfl
theorem fn62 : E.fn 62 = some f62A := by kernel_rfl
theorem fn63 : E.fn 63 = some f63A := by kernel_rfl
theorem fn64 : E.fn 64 = some f64A := by kernel_rfl
theorem fn86 : E.fn 86 = some f86A := by kernel_rfl
theorem fn87 : E.fn 87 = some f87A := by kernel_rfl
theorem fn89 : E.fn 89 = some f89A := by kernel_rfl
theorem fn90 : E.fn 90 = some f90A := by kernel_rfl
theorem fn91 : E.fn 91 = some f91A := by kernel_rfl
theorem fn110 : E.fn 110 = some f110A := by kernel_rfl
theorem tab_ok : ∀ p ∈ tab, FnOk C p.1 p.2 := by
  intro p hp
  simp only [tab, List.mem_cons, List.not_mem_nil, or_false] at hp
  rcases hp with rfl | rfl | rfl | rfl | rfl | rfl | rfl | rfl | rfl | rfl | rfl | rfl | rfl | rfl | rfl | rfl | rfl | rfl | rfl | rfl | rfl | rfl | rfl | rfl | rfl | rfl
  · exact ⟨_, Tryd.func5, f5P⟩
  · exact ⟨_, Tryd.func17, f17P⟩
  · exact ⟨_, Tryd.func19, f19P⟩
  · exact ⟨_, Tryd.func20, f20P⟩
  · exact ⟨_, Tryd.func21, f21P⟩
  · exact ⟨_, Tryd.func22, f22P⟩
  · exact ⟨_, Tryd.func24, f24P⟩
  · exact ⟨_, Tryd.func28, f28P⟩
  · exact ⟨_, Tryd.func29, f29P⟩
  · exact ⟨_, Tryd.func30, f30P⟩
  · exact ⟨_, Tryd.func31, f31P⟩
  · exact ⟨_, Tryd.func32, f32P⟩
  · exact ⟨_, Tryd.func33, f33P⟩
  · exact ⟨_, Tryd.func55, f55P⟩
  · exact ⟨_, Tryd.func56, f56P⟩
  · exact ⟨_, Tryd.func59, f59P⟩
  · exact ⟨_, Tryd.func60, f60P⟩
  · exact ⟨_, Tryd.func62, f62P⟩
  · exact ⟨_, Tryd.func63, f63P⟩
  · exact ⟨_, Tryd.func64, f64P⟩
  · exact ⟨_, Tryd.func86, f86P⟩
  · exact ⟨_, Tryd.func87, f87P⟩
  · exact ⟨_, Tryd.func89, f89P⟩
  · exact ⟨_, Tryd.func90, f90P⟩
  · exact ⟨_, Tryd.func91, f91P⟩
  · exact ⟨_, Tryd.func110, f110P⟩
theorem mixed : C.P.follows .mixedOrders = true := by kernel_rfl
end Go.Proofs.YtjjndoigkhabdaaDoor
