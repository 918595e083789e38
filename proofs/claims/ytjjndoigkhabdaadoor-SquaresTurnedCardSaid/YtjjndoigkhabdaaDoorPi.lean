/- The table of the functions that are needed. Conditions: as EOk names them. -/
import Derived.Test.YtjjndoigkhabdaaDoorPi0
import Derived.Test.YtjjndoigkhabdaaDoorAm2
namespace Go.Proofs.YtjjndoigkhabdaaDoor
open Go Go.AM Go.Proofs

def tab : List (Nat × AFunc) := [(16, f16A), (17, f17A), (19, f19A), (21, f21A), (22, f22A), (23, f23A), (24, f24A), (25, f25A), (30, f30A), (31, f31A), (33, f33A), (37, f37A), (38, f38A), (41, f41A), (44, f44A), (45, f45A), (46, f46A), (53, f53A), (55, f55A), (56, f56A), (57, f57A), (58, f58A), (59, f59A), (60, f60A), (61, f61A), (67, f67A), (68, f68A), (69, f69A), (70, f70A), (73, f73A), (75, f75A), (76, f76A), (77, f77A), (78, f78A), (79, f79A), (83, f83A), (84, f84A), (86, f86A), (87, f87A), (88, f88A), (91, f91A), (93, f93A), (94, f94A), (95, f95A), (96, f96A), (97, f97A), (98, f98A), (99, f99A), (101, f101A), (102, f102A), (103, f103A), (104, f104A), (105, f105A), (111, f111A), (112, f112A), (113, f113A)]
def E : Tab := { fn := fun f => tab.lookup f, kd := kd }
theorem lookup_mem {β : Type} {f : Nat} {x : β} : ∀ {l : List (Nat × β)}, l.lookup f = some x → (f, x) ∈ l
  | [], h => by cases h
  | (k, y) :: l, h => by
    by_cases e : f = k
    · subst e
      simp [List.lookup] at h
      simp [h]
    · have : (f == k) = false := by simpa using e
      simp only [List.lookup, this] at h
      exact List.mem_cons_of_mem _ (lookup_mem h)
theorem fn16 : E.fn 16 = some f16A := by kernel_rfl
theorem fn17 : E.fn 17 = some f17A := by kernel_rfl
theorem fn19 : E.fn 19 = some f19A := by kernel_rfl
theorem fn21 : E.fn 21 = some f21A := by kernel_rfl
theorem fn22 : E.fn 22 = some f22A := by kernel_rfl
theorem fn23 : E.fn 23 = some f23A := by kernel_rfl
theorem fn24 : E.fn 24 = some f24A := by kernel_rfl
theorem fn25 : E.fn 25 = some f25A := by kernel_rfl
theorem fn30 : E.fn 30 = some f30A := by kernel_rfl
theorem fn31 : E.fn 31 = some f31A := by kernel_rfl
theorem fn33 : E.fn 33 = some f33A := by kernel_rfl
theorem fn37 : E.fn 37 = some f37A := by kernel_rfl
theorem fn38 : E.fn 38 = some f38A := by kernel_rfl
theorem fn41 : E.fn 41 = some f41A := by kernel_rfl
theorem fn44 : E.fn 44 = some f44A := by kernel_rfl
theorem fn45 : E.fn 45 = some f45A := by kernel_rfl
theorem fn46 : E.fn 46 = some f46A := by kernel_rfl
theorem fn53 : E.fn 53 = some f53A := by kernel_rfl
theorem fn55 : E.fn 55 = some f55A := by kernel_rfl
theorem fn56 : E.fn 56 = some f56A := by kernel_rfl
theorem fn57 : E.fn 57 = some f57A := by kernel_rfl
theorem fn58 : E.fn 58 = some f58A := by kernel_rfl
theorem fn59 : E.fn 59 = some f59A := by kernel_rfl
theorem fn60 : E.fn 60 = some f60A := by kernel_rfl
theorem fn61 : E.fn 61 = some f61A := by kernel_rfl
theorem fn67 : E.fn 67 = some f67A := by kernel_rfl
theorem fn68 : E.fn 68 = some f68A := by kernel_rfl
theorem fn69 : E.fn 69 = some f69A := by kernel_rfl
theorem fn70 : E.fn 70 = some f70A := by kernel_rfl
theorem fn73 : E.fn 73 = some f73A := by kernel_rfl
theorem fn75 : E.fn 75 = some f75A := by kernel_rfl
theorem fn76 : E.fn 76 = some f76A := by kernel_rfl
theorem fn77 : E.fn 77 = some f77A := by kernel_rfl
theorem fn78 : E.fn 78 = some f78A := by kernel_rfl
theorem fn79 : E.fn 79 = some f79A := by kernel_rfl
theorem fn83 : E.fn 83 = some f83A := by kernel_rfl
theorem fn84 : E.fn 84 = some f84A := by kernel_rfl
theorem fn86 : E.fn 86 = some f86A := by kernel_rfl
theorem fn87 : E.fn 87 = some f87A := by kernel_rfl
theorem fn88 : E.fn 88 = some f88A := by kernel_rfl
theorem fn91 : E.fn 91 = some f91A := by kernel_rfl
theorem fn93 : E.fn 93 = some f93A := by kernel_rfl
theorem fn94 : E.fn 94 = some f94A := by kernel_rfl
theorem fn95 : E.fn 95 = some f95A := by kernel_rfl
theorem fn96 : E.fn 96 = some f96A := by kernel_rfl
theorem fn97 : E.fn 97 = some f97A := by kernel_rfl
theorem fn98 : E.fn 98 = some f98A := by kernel_rfl
theorem fn99 : E.fn 99 = some f99A := by kernel_rfl
theorem fn101 : E.fn 101 = some f101A := by kernel_rfl
theorem fn102 : E.fn 102 = some f102A := by kernel_rfl
theorem fn103 : E.fn 103 = some f103A := by kernel_rfl
theorem fn104 : E.fn 104 = some f104A := by kernel_rfl
theorem fn105 : E.fn 105 = some f105A := by kernel_rfl
theorem fn111 : E.fn 111 = some f111A := by kernel_rfl
theorem fn112 : E.fn 112 = some f112A := by kernel_rfl
theorem fn113 : E.fn 113 = some f113A := by kernel_rfl
theorem tab_ok : ∀ p ∈ tab, FnOk C p.1 p.2 := by
  intro p hp
  simp only [tab, List.mem_cons, List.not_mem_nil, or_false] at hp
  rcases hp with rfl | rfl | rfl | rfl | rfl | rfl | rfl | rfl | rfl | rfl | rfl | rfl | rfl | rfl | rfl | rfl | rfl | rfl | rfl | rfl | rfl | rfl | rfl | rfl | rfl | rfl | rfl | rfl | rfl | rfl | rfl | rfl | rfl | rfl | rfl | rfl | rfl | rfl | rfl | rfl | rfl | rfl | rfl | rfl | rfl | rfl | rfl | rfl | rfl | rfl | rfl | rfl | rfl | rfl | rfl | rfl
  · exact ⟨_, Tryd.func16, f16P⟩
  · exact ⟨_, Tryd.func17, f17P⟩
  · exact ⟨_, Tryd.func19, f19P⟩
  · exact ⟨_, Tryd.func21, f21P⟩
  · exact ⟨_, Tryd.func22, f22P⟩
  · exact ⟨_, Tryd.func23, f23P⟩
  · exact ⟨_, Tryd.func24, f24P⟩
  · exact ⟨_, Tryd.func25, f25P⟩
  · exact ⟨_, Tryd.func30, f30P⟩
  · exact ⟨_, Tryd.func31, f31P⟩
  · exact ⟨_, Tryd.func33, f33P⟩
  · exact ⟨_, Tryd.func37, f37P⟩
  · exact ⟨_, Tryd.func38, f38P⟩
  · exact ⟨_, Tryd.func41, f41P⟩
  · exact ⟨_, Tryd.func44, f44P⟩
  · exact ⟨_, Tryd.func45, f45P⟩
  · exact ⟨_, Tryd.func46, f46P⟩
  · exact ⟨_, Tryd.func53, f53P⟩
  · exact ⟨_, Tryd.func55, f55P⟩
  · exact ⟨_, Tryd.func56, f56P⟩
  · exact ⟨_, Tryd.func57, f57P⟩
  · exact ⟨_, Tryd.func58, f58P⟩
  · exact ⟨_, Tryd.func59, f59P⟩
  · exact ⟨_, Tryd.func60, f60P⟩
  · exact ⟨_, Tryd.func61, f61P⟩
  · exact ⟨_, Tryd.func67, f67P⟩
  · exact ⟨_, Tryd.func68, f68P⟩
  · exact ⟨_, Tryd.func69, f69P⟩
  · exact ⟨_, Tryd.func70, f70P⟩
  · exact ⟨_, Tryd.func73, f73P⟩
  · exact ⟨_, Tryd.func75, f75P⟩
  · exact ⟨_, Tryd.func76, f76P⟩
  · exact ⟨_, Tryd.func77, f77P⟩
  · exact ⟨_, Tryd.func78, f78P⟩
  · exact ⟨_, Tryd.func79, f79P⟩
  · exact ⟨_, Tryd.func83, f83P⟩
  · exact ⟨_, Tryd.func84, f84P⟩
  · exact ⟨_, Tryd.func86, f86P⟩
  · exact ⟨_, Tryd.func87, f87P⟩
  · exact ⟨_, Tryd.func88, f88P⟩
  · exact ⟨_, Tryd.func91, f91P⟩
  · exact ⟨_, Tryd.func93, f93P⟩
  · exact ⟨_, Tryd.func94, f94P⟩
  · exact ⟨_, Tryd.func95, f95P⟩
  · exact ⟨_, Tryd.func96, f96P⟩
  · exact ⟨_, Tryd.func97, f97P⟩
  · exact ⟨_, Tryd.func98, f98P⟩
  · exact ⟨_, Tryd.func99, f99P⟩
  · exact ⟨_, Tryd.func101, f101P⟩
  · exact ⟨_, Tryd.func102, f102P⟩
  · exact ⟨_, Tryd.func103, f103P⟩
  · exact ⟨_, Tryd.func104, f104P⟩
  · exact ⟨_, Tryd.func105, f105P⟩
  · exact ⟨_, Tryd.func111, f111P⟩
  · exact ⟨_, Tryd.func112, f112P⟩
  · exact ⟨_, Tryd.func113, f113P⟩
theorem mixed : C.P.follows .mixedOrders = true := by kernel_rfl
end Go.Proofs.YtjjndoigkhabdaaDoor
