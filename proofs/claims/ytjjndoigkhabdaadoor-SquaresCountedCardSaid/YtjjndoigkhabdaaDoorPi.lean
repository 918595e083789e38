/- The table of the functions that are needed. Conditions: as EOk names them. -/
import Derived.Test.YtjjndoigkhabdaaDoorPi0
import Derived.Test.YtjjndoigkhabdaaDoorAm2
namespace Go.Proofs.YtjjndoigkhabdaaDoor
open Go Go.AM Go.Proofs

def tab : List (Nat × AFunc) := [(11, f11A), (17, f17A), (19, f19A), (21, f21A), (24, f24A), (28, f28A), (30, f30A), (31, f31A), (33, f33A), (37, f37A), (40, f40A), (41, f41A), (50, f50A), (51, f51A), (55, f55A), (56, f56A), (57, f57A), (58, f58A), (60, f60A), (61, f61A), (62, f62A), (63, f63A), (67, f67A), (70, f70A), (73, f73A), (81, f81A), (86, f86A), (87, f87A), (88, f88A), (89, f89A), (90, f90A), (91, f91A), (93, f93A), (94, f94A), (95, f95A), (101, f101A), (102, f102A), (110, f110A), (111, f111A)]
def E : Tab := { fn := fun f => tab.lookup f, kd := kd }
theorem lookup_mem {β : Type} {f : Nat} {x : β} : ∀ {l : List (Nat × β)}, l.lookup f = some x → (f, x) ∈ l
  | [], h => by cases h
  | (k, y) :: l, h => by
    by_cases e : f = k
    · subst e
      simp [List.lookup] at h
      simp [h]
    · have : (f == k) = false := by simpa using e
      simp only [List.lookup, this] at h
      exact List.mem_cons_of_mem _ (lookup_mem h)
theorem fn11 : E.fn 11 = some f11A := by kernel_rfl
theorem fn17 : E.fn 17 = some f17A := by kernel_rfl
theorem fn19 : E.fn 19 = some f19A := by kernel_rfl
theorem fn21 : E.fn 21 = some f21A := by kernel_rfl
theorem fn24 : E.fn 24 = some f24A := by kernel_rfl
theorem fn28 : E.fn 28 = some f28A := by kernel_rfl
theorem fn30 : E.fn 30 = some f30A := by kernel_rfl
theorem fn31 : E.fn 31 = some f31A := by kernel_rfl
theorem fn33 : E.fn 33 = some f33A := by kernel_rfl
theorem fn37 : E.fn 37 = some f37A := by kernel_rfl
theorem fn40 : E.fn 40 = some f40A := by kernel_rfl
theorem fn41 : E.fn 41 = some f41A := by kernel_rfl
theorem fn50 : E.fn 50 = some f50A := by kernel_rfl
theorem fn51 : E.fn 51 = some f51A := by kernel_rfl
theorem fn55 : E.fn 55 = some f55A := by kernel_rfl
theorem fn56 : E.fn 56 = some f56A := by kernel_rfl
theorem fn57 : E.fn 57 = some f57A := by kernel_rfl
theorem fn58 : E.fn 58 = some f58A := by kernel_rfl
theorem fn60 : E.fn 60 = some f60A := by kernel_rfl
theorem fn61 : E.fn 61 = some f61A := by kernel_rfl
theorem fn62 : E.fn 62 = some f62A := by kernel_rfl
theorem fn63 : E.fn 63 = some f63A := by kernel_rfl
theorem fn67 : E.fn 67 = some f67A := by kernel_rfl
theorem fn70 : E.fn 70 = some f70A := by kernel_rfl
theorem fn73 : E.fn 73 = some f73A := by kernel_rfl
theorem fn81 : E.fn 81 = some f81A := by kernel_rfl
theorem fn86 : E.fn 86 = some f86A := by kernel_rfl
theorem fn87 : E.fn 87 = some f87A := by kernel_rfl
theorem fn88 : E.fn 88 = some f88A := by kernel_rfl
theorem fn89 : E.fn 89 = some f89A := by kernel_rfl
theorem fn90 : E.fn 90 = some f90A := by kernel_rfl
theorem fn91 : E.fn 91 = some f91A := by kernel_rfl
theorem fn93 : E.fn 93 = some f93A := by kernel_rfl
theorem fn94 : E.fn 94 = some f94A := by kernel_rfl
theorem fn95 : E.fn 95 = some f95A := by kernel_rfl
theorem fn101 : E.fn 101 = some f101A := by kernel_rfl
theorem fn102 : E.fn 102 = some f102A := by kernel_rfl
theorem fn110 : E.fn 110 = some f110A := by kernel_rfl
theorem fn111 : E.fn 111 = some f111A := by kernel_rfl
theorem tab_ok : ∀ p ∈ tab, FnOk C p.1 p.2 := by
  intro p hp
  simp only [tab, List.mem_cons, List.not_mem_nil, or_false] at hp
  rcases hp with rfl | rfl | rfl | rfl | rfl | rfl | rfl | rfl | rfl | rfl | rfl | rfl | rfl | rfl | rfl | rfl | rfl | rfl | rfl | rfl | rfl | rfl | rfl | rfl | rfl | rfl | rfl | rfl | rfl | rfl | rfl | rfl | rfl | rfl | rfl | rfl | rfl | rfl | rfl
  · exact ⟨_, Tryd.func11, f11P⟩
  · exact ⟨_, Tryd.func17, f17P⟩
  · exact ⟨_, Tryd.func19, f19P⟩
  · exact ⟨_, Tryd.func21, f21P⟩
  · exact ⟨_, Tryd.func24, f24P⟩
  · exact ⟨_, Tryd.func28, f28P⟩
  · exact ⟨_, Tryd.func30, f30P⟩
  · exact ⟨_, Tryd.func31, f31P⟩
  · exact ⟨_, Tryd.func33, f33P⟩
  · exact ⟨_, Tryd.func37, f37P⟩
  · exact ⟨_, Tryd.func40, f40P⟩
  · exact ⟨_, Tryd.func41, f41P⟩
  · exact ⟨_, Tryd.func50, f50P⟩
  · exact ⟨_, Tryd.func51, f51P⟩
  · exact ⟨_, Tryd.func55, f55P⟩
  · exact ⟨_, Tryd.func56, f56P⟩
  · exact ⟨_, Tryd.func57, f57P⟩
  · exact ⟨_, Tryd.func58, f58P⟩
  · exact ⟨_, Tryd.func60, f60P⟩
  · exact ⟨_, Tryd.func61, f61P⟩
  · exact ⟨_, Tryd.func62, f62P⟩
  · exact ⟨_, Tryd.func63, f63P⟩
  · exact ⟨_, Tryd.func67, f67P⟩
  · exact ⟨_, Tryd.func70, f70P⟩
  · exact ⟨_, Tryd.func73, f73P⟩
  · exact ⟨_, Tryd.func81, f81P⟩
  · exact ⟨_, Tryd.func86, f86P⟩
  · exact ⟨_, Tryd.func87, f87P⟩
  · exact ⟨_, Tryd.func88, f88P⟩
  · exact ⟨_, Tryd.func89, f89P⟩
  · exact ⟨_, Tryd.func90, f90P⟩
  · exact ⟨_, Tryd.func91, f91P⟩
  · exact ⟨_, Tryd.func93, f93P⟩
  · exact ⟨_, Tryd.func94, f94P⟩
  · exact ⟨_, Tryd.func95, f95P⟩
  · exact ⟨_, Tryd.func101, f101P⟩
  · exact ⟨_, Tryd.func102, f102P⟩
  · exact ⟨_, Tryd.func110, f110P⟩
  · exact ⟨_, Tryd.func111, f111P⟩
theorem mixed : C.P.follows .mixedOrders = true := by kernel_rfl
end Go.Proofs.YtjjndoigkhabdaaDoor
