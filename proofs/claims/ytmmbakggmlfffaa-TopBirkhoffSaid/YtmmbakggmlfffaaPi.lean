/- The table of the functions that are needed. Conditions: as EOk names them. -/
import Derived.Test.YtmmbakggmlfffaaPi0
import Derived.Test.YtmmbakggmlfffaaAm2
namespace Go.Proofs.Ytmmbakggmlfffaa
open Go Go.AM Go.Proofs

def tab : List (Nat × AFunc) := [(3, f3A), (5, f5A), (6, f6A), (7, f7A), (8, f8A), (9, f9A), (10, f10A), (11, f11A), (12, f12A), (18, f18A), (21, f21A), (22, f22A), (23, f23A), (24, f24A), (25, f25A), (26, f26A), (27, f27A), (28, f28A), (39, f39A), (40, f40A), (41, f41A), (42, f42A), (43, f43A), (44, f44A), (52, f52A), (53, f53A), (54, f54A), (55, f55A), (60, f60A), (61, f61A)]
def E : Tab := { fn := fun f => tab.lookup f, kd := kd }
theorem lookup_mem {β : Type} {f : Nat} {x : β} : ∀ {l : List (Nat × β)}, l.lookup f = some x → (f, x) ∈ l
  | [], h => by cases h
  | (k, y) :: l, h => by
    by_cases e : f = k
    · subst e
      simp [List.lookup] at h
      simp [h]
    · have : (f == k) = false := by simpa using e
      simp only [List.lookup, this] at h
      exact List.mem_cons_of_mem _ (lookup_mem h)
theorem fn3 : E.fn 3 = some f3A := by kernel_rfl
theorem fn5 : E.fn 5 = some f5A := by kernel_rfl
theorem fn6 : E.fn 6 = some f6A := by kernel_rfl
theorem fn7 : E.fn 7 = some f7A := by kernel_rfl
theorem fn8 : E.fn 8 = some f8A := by kernel_rfl
theorem fn9 : E.fn 9 = some f9A := by kernel_rfl
theorem fn10 : E.fn 10 = some f10A := by kernel_rfl
theorem fn11 : E.fn 11 = some f11A := by kernel_rfl
theorem fn12 : E.fn 12 = some f12A := by kernel_rfl
theorem fn18 : E.fn 18 = some f18A := by kernel_rfl
theorem fn21 : E.fn 21 = some f21A := by kernel_rfl
theorem fn22 : E.fn 22 = some f22A := by kernel_rfl
theorem fn23 : E.fn 23 = some f23A := by kernel_rfl
theorem fn24 : E.fn 24 = some f24A := by kernel_rfl
theorem fn25 : E.fn 25 = some f25A := by kernel_rfl
theorem fn26 : E.fn 26 = some f26A := by kernel_rfl
theorem fn27 : E.fn 27 = some f27A := by kernel_rfl
theorem fn28 : E.fn 28 = some f28A := by kernel_rfl
theorem fn39 : E.fn 39 = some f39A := by kernel_rfl
theorem fn40 : E.fn 40 = some f40A := by kernel_rfl
theorem fn41 : E.fn 41 = some f41A := by kernel_rfl
theorem fn42 : E.fn 42 = some f42A := by kernel_rfl
theorem fn43 : E.fn 43 = some f43A := by kernel_rfl
theorem fn44 : E.fn 44 = some f44A := by kernel_rfl
theorem fn52 : E.fn 52 = some f52A := by kernel_rfl
theorem fn53 : E.fn 53 = some f53A := by kernel_rfl
theorem fn54 : E.fn 54 = some f54A := by kernel_rfl
theorem fn55 : E.fn 55 = some f55A := by kernel_rfl
theorem fn60 : E.fn 60 = some f60A := by kernel_rfl
theorem fn61 : E.fn 61 = some f61A := by kernel_rfl
theorem tab_ok : ∀ p ∈ tab, FnOk C p.1 p.2 := by
  intro p hp
  simp only [tab, List.mem_cons, List.not_mem_nil, or_false] at hp
  rcases hp with rfl | rfl | rfl | rfl | rfl | rfl | rfl | rfl | rfl | rfl | rfl | rfl | rfl | rfl | rfl | rfl | rfl | rfl | rfl | rfl | rfl | rfl | rfl | rfl | rfl | rfl | rfl | rfl | rfl | rfl
  · exact ⟨_, Try.func3, f3P⟩
  · exact ⟨_, Try.func5, f5P⟩
  · exact ⟨_, Try.func6, f6P⟩
  · exact ⟨_, Try.func7, f7P⟩
  · exact ⟨_, Try.func8, f8P⟩
  · exact ⟨_, Try.func9, f9P⟩
  · exact ⟨_, Try.func10, f10P⟩
  · exact ⟨_, Try.func11, f11P⟩
  · exact ⟨_, Try.func12, f12P⟩
  · exact ⟨_, Try.func18, f18P⟩
  · exact ⟨_, Try.func21, f21P⟩
  · exact ⟨_, Try.func22, f22P⟩
  · exact ⟨_, Try.func23, f23P⟩
  · exact ⟨_, Try.func24, f24P⟩
  · exact ⟨_, Try.func25, f25P⟩
  · exact ⟨_, Try.func26, f26P⟩
  · exact ⟨_, Try.func27, f27P⟩
  · exact ⟨_, Try.func28, f28P⟩
  · exact ⟨_, Try.func39, f39P⟩
  · exact ⟨_, Try.func40, f40P⟩
  · exact ⟨_, Try.func41, f41P⟩
  · exact ⟨_, Try.func42, f42P⟩
  · exact ⟨_, Try.func43, f43P⟩
  · exact ⟨_, Try.func44, f44P⟩
  · exact ⟨_, Try.func52, f52P⟩
  · exact ⟨_, Try.func53, f53P⟩
  · exact ⟨_, Try.func54, f54P⟩
  · exact ⟨_, Try.func55, f55P⟩
  · exact ⟨_, Try.func60, f60P⟩
  · exact ⟨_, Try.func61, f61P⟩
theorem mixed : C.P.follows .mixedOrders = true := by kernel_rfl
end Go.Proofs.Ytmmbakggmlfffaa
