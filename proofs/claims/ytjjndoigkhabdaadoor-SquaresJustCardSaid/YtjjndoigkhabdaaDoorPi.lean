/- The table of the functions that are needed. Conditions: as EOk names them. -/
import Derived.Test.YtjjndoigkhabdaaDoorPi0
import Derived.Test.YtjjndoigkhabdaaDoorAm2
namespace Go.Proofs.YtjjndoigkhabdaaDoor
open Go Go.AM Go.Proofs

def tab : List (Nat × AFunc) := [(7, f7A), (17, f17A), (18, f18A), (19, f19A), (20, f20A), (21, f21A), (24, f24A), (33, f33A), (34, f34A), (35, f35A), (55, f55A), (56, f56A), (57, f57A), (58, f58A), (59, f59A), (65, f65A), (66, f66A), (86, f86A), (87, f87A), (92, f92A)]
def E : Tab := { fn := fun f => tab.lookup f, kd := kd }
theorem lookup_mem {β : Type} {f : Nat} {x : β} : ∀ {l : List (Nat × β)}, l.lookup f = some x → (f, x) ∈ l
  | [], h => by cases h
  | (k, y) :: l, h => by
    by_cases e : f = k
    · subst e
      simp [List.lookup] at h
      simp [h]
    · have : (f == k) = false := by simpa using e
      simp only [List.lookup, this] at h
      exact List.mem_cons_of_mem _ (lookup_mem h)
theorem fn7 : E.fn 7 = some f7A := by kernel_rfl
theorem fn17 : E.fn 17 = some f17A := by kernel_rfl
theorem fn18 : E.fn 18 = some f18A := by kernel_rfl
theorem fn19 : E.fn 19 = some f19A := by kernel_rfl
theorem fn20 : E.fn 20 = some f20A := by kernel_rfl
theorem fn21 : E.fn 21 = some f21A := by kernel_rfl
theorem fn24 : E.fn 24 = some f24A := by kernel_rfl
theorem fn33 : E.fn 33 = some f33A := by kernel_rfl
theorem fn34 : E.fn 34 = some f34A := by kernel_rfl
theorem fn35 : E.fn 35 = some f35A := by kernel_rfl
theorem fn55 : E.fn 55 = some f55A := by kernel_rfl
theorem fn56 : E.fn 56 = some f56A := by kernel_rfl
theorem fn57 : E.fn 57 = some f57A := by kernel_rfl
theorem fn58 : E.fn 58 = some f58A := by kernel_rfl
theorem fn59 : E.fn 59 = some f59A := by kernel_rfl
theorem fn65 : E.fn 65 = some f65A := by kernel_rfl
theorem fn66 : E.fn 66 = some f66A := by kernel_rfl
theorem fn86 : E.fn 86 = some f86A := by kernel_rfl
theorem fn87 : E.fn 87 = some f87A := by kernel_rfl
theorem fn92 : E.fn 92 = some f92A := by kernel_rfl
theorem tab_ok : ∀ p ∈ tab, FnOk C p.1 p.2 := by
  intro p hp
  simp only [tab, List.mem_cons, List.not_mem_nil, or_false] at hp
  rcases hp with rfl | rfl | rfl | rfl | rfl | rfl | rfl | rfl | rfl | rfl | rfl | rfl | rfl | rfl | rfl | rfl | rfl | rfl | rfl | rfl
  · exact ⟨_, Tryd.func7, f7P⟩
  · exact ⟨_, Tryd.func17, f17P⟩
  · exact ⟨_, Tryd.func18, f18P⟩
  · exact ⟨_, Tryd.func19, f19P⟩
  · exact ⟨_, Tryd.func20, f20P⟩
  · exact ⟨_, Tryd.func21, f21P⟩
  · exact ⟨_, Tryd.func24, f24P⟩
  · exact ⟨_, Tryd.func33, f33P⟩
  · exact ⟨_, Tryd.func34, f34P⟩
  · exact ⟨_, Tryd.func35, f35P⟩
  · exact ⟨_, Tryd.func55, f55P⟩
  · exact ⟨_, Tryd.func56, f56P⟩
  · exact ⟨_, Tryd.func57, f57P⟩
  · exact ⟨_, Tryd.func58, f58P⟩
  · exact ⟨_, Tryd.func59, f59P⟩
  · exact ⟨_, Tryd.func65, f65P⟩
  · exact ⟨_, Tryd.func66, f66P⟩
  · exact ⟨_, Tryd.func86, f86P⟩
  · exact ⟨_, Tryd.func87, f87P⟩
  · exact ⟨_, Tryd.func92, f92P⟩
theorem mixed : C.P.follows .mixedOrders = true := by kernel_rfl
end Go.Proofs.YtjjndoigkhabdaaDoor
