/- The table of the functions that are needed. Conditions: as EOk names them. -/
import Derived.Test.YtjjndoigkhabdaaDoorPi0
import Derived.Test.YtjjndoigkhabdaaDoorAm2
namespace Go.Proofs.YtjjndoigkhabdaaDoor
open Go Go.AM Go.Proofs

def tab : List (Nat × AFunc) := [(10, f10A), (17, f17A), (19, f19A), (21, f21A), (22, f22A), (23, f23A), (24, f24A), (25, f25A), (30, f30A), (31, f31A), (33, f33A), (37, f37A), (38, f38A), (44, f44A), (45, f45A), (46, f46A), (47, f47A), (48, f48A), (49, f49A), (55, f55A), (56, f56A), (57, f57A), (58, f58A), (59, f59A), (60, f60A), (67, f67A), (70, f70A), (75, f75A), (76, f76A), (77, f77A), (78, f78A), (79, f79A), (80, f80A), (86, f86A), (87, f87A), (93, f93A), (94, f94A), (95, f95A), (103, f103A), (111, f111A)]
def E : Tab := { fn := fun f => tab.lookup f, kd := kd }
theorem lookup_mem {β : Type} {f : Nat} {x : β} : ∀ {l : List (Nat × β)}, l.lookup f = some x → (f, x) ∈ l
  | [], h => by cases h
  | (k, y) :: l, h => by
    by_cases e : f = k
    · subst e
      simp [List.lookup] at h
      simp [h]
    · have : (f == k) = false := by simpa using e
      simp only [List.lookup, this] at h
      exact List.mem_cons_of_mem _ (lookup_mem h)
theorem fn10 : E.fn 10 = some f10A := by kernel_rfl
theorem fn17 : E.fn 17 = some f17A := by kernel_rfl
theorem fn19 : E.fn 19 = some f19A := by kernel_rfl
theorem fn21 : E.fn 21 = some f21A := by kernel_rfl
theorem fn22 : E.fn 22 = some f22A := by kernel_rfl
theorem fn23 : E.fn 23 = some f23A := by kernel_rfl
theorem fn24 : E.fn 24 = some f24A := by kernel_rfl
theorem fn25 : E.fn 25 = some f25A := by kernel_rfl
theorem fn30 : E.fn 30 = some f30A := by kernel_rfl
theorem fn31 : E.fn 31 = some f31A := by kernel_rfl
theorem fn33 : E.fn 33 = some f33A := by kernel_rfl
theorem fn37 : E.fn 37 = some f37A := by kernel_rfl
theorem fn38 : E.fn 38 = some f38A := by kernel_rfl
theorem fn44 : E.fn 44 = some f44A := by kernel_rfl
theorem fn45 : E.fn 45 = some f45A := by kernel_rfl
theorem fn46 : E.fn 46 = some f46A := by kernel_rfl
theorem fn47 : E.fn 47 = some f47A := by kernel_rfl
theorem fn48 : E.fn 48 = some f48A := by kernel_rfl
theorem fn49 : E.fn 49 = some f49A := by kernel_rfl
theorem fn55 : E.fn 55 = some f55A := by kernel_rfl
theorem fn56 : E.fn 56 = some f56A := by kernel_rfl
theorem fn57 : E.fn 57 = some f57A := by kernel_rfl
theorem fn58 : E.fn 58 = some f58A := by kernel_rfl
theorem fn59 : E.fn 59 = some f59A := by kernel_rfl
theorem fn60 : E.fn 60 = some f60A := by kernel_rfl
theorem fn67 : E.fn 67 = some f67A := by kernel_rfl
theorem fn70 : E.fn 70 = some f70A := by kernel_rfl
theorem fn75 : E.fn 75 = some f75A := by kernel_rfl
theorem fn76 : E.fn 76 = some f76A := by kernel_rfl
theorem fn77 : E.fn 77 = some f77A := by kernel_rfl
theorem fn78 : E.fn 78 = some f78A := by kernel_rfl
theorem fn79 : E.fn 79 = some f79A := by kernel_rfl
theorem fn80 : E.fn 80 = some f80A := by kernel_rfl
theorem fn86 : E.fn 86 = some f86A := by kernel_rfl
theorem fn87 : E.fn 87 = some f87A := by kernel_rfl
theorem fn93 : E.fn 93 = some f93A := by kernel_rfl
theorem fn94 : E.fn 94 = some f94A := by kernel_rfl
theorem fn95 : E.fn 95 = some f95A := by kernel_rfl
theorem fn103 : E.fn 103 = some f103A := by kernel_rfl
theorem fn111 : E.fn 111 = some f111A := by kernel_rfl
theorem tab_ok : ∀ p ∈ tab, FnOk C p.1 p.2 := by
  intro p hp
  simp only [tab, List.mem_cons, List.not_mem_nil, or_false] at hp
  rcases hp with rfl | rfl | rfl | rfl | rfl | rfl | rfl | rfl | rfl | rfl | rfl | rfl | rfl | rfl | rfl | rfl | rfl | rfl | rfl | rfl | rfl | rfl | rfl | rfl | rfl | rfl | rfl | rfl | rfl | rfl | rfl | rfl | rfl | rfl | rfl | rfl | rfl | rfl | rfl | rfl
  · exact ⟨_, Tryd.func10, f10P⟩
  · exact ⟨_, Tryd.func17, f17P⟩
  · exact ⟨_, Tryd.func19, f19P⟩
  · exact ⟨_, Tryd.func21, f21P⟩
  · exact ⟨_, Tryd.func22, f22P⟩
  · exact ⟨_, Tryd.func23, f23P⟩
  · exact ⟨_, Tryd.func24, f24P⟩
  · exact ⟨_, Tryd.func25, f25P⟩
  · exact ⟨_, Tryd.func30, f30P⟩
  · exact ⟨_, Tryd.func31, f31P⟩
  · exact ⟨_, Tryd.func33, f33P⟩
  · exact ⟨_, Tryd.func37, f37P⟩
  · exact ⟨_, Tryd.func38, f38P⟩
  · exact ⟨_, Tryd.func44, f44P⟩
  · exact ⟨_, Tryd.func45, f45P⟩
  · exact ⟨_, Tryd.func46, f46P⟩
  · exact ⟨_, Tryd.func47, f47P⟩
  · exact ⟨_, Tryd.func48, f48P⟩
  · exact ⟨_, Tryd.func49, f49P⟩
  · exact ⟨_, Tryd.func55, f55P⟩
  · exact ⟨_, Tryd.func56, f56P⟩
  · exact ⟨_, Tryd.func57, f57P⟩
  · exact ⟨_, Tryd.func58, f58P⟩
  · exact ⟨_, Tryd.func59, f59P⟩
  · exact ⟨_, Tryd.func60, f60P⟩
  · exact ⟨_, Tryd.func67, f67P⟩
  · exact ⟨_, Tryd.func70, f70P⟩
  · exact ⟨_, Tryd.func75, f75P⟩
  · exact ⟨_, Tryd.func76, f76P⟩
  · exact ⟨_, Tryd.func77, f77P⟩
  · exact ⟨_, Tryd.func78, f78P⟩
  · exact ⟨_, Tryd.func79, f79P⟩
  · exact ⟨_, Tryd.func80, f80P⟩
  · exact ⟨_, Tryd.func86, f86P⟩
  · exact ⟨_, Tryd.func87, f87P⟩
  · exact ⟨_, Tryd.func93, f93P⟩
  · exact ⟨_, Tryd.func94, f94P⟩
  · exact ⟨_, Tryd.func95, f95P⟩
  · exact ⟨_, Tryd.func103, f103P⟩
  · exact ⟨_, Tryd.func111, f111P⟩
theorem mixed : C.P.follows .mixedOrders = true := by kernel_rfl
end Go.Proofs.YtjjndoigkhabdaaDoor
