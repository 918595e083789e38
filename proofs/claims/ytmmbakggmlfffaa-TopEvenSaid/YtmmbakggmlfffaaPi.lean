/- The table of the functions that are needed. Conditions: as EOk names them. -/
import Derived.Test.YtmmbakggmlfffaaPi0
import Derived.Test.YtmmbakggmlfffaaAm2
namespace Go.Proofs.Ytmmbakggmlfffaa
open Go Go.AM Go.Proofs

def tab : List (Nat × AFunc) := [(4, f4A), (13, f13A), (14, f14A), (15, f15A), (16, f16A), (17, f17A), (18, f18A), (19, f19A), (20, f20A), (21, f21A), (22, f22A), (29, f29A), (30, f30A), (31, f31A), (32, f32A), (33, f33A), (34, f34A), (35, f35A), (36, f36A), (37, f37A), (38, f38A), (39, f39A), (45, f45A), (46, f46A), (47, f47A), (48, f48A), (49, f49A), (50, f50A), (51, f51A), (56, f56A), (57, f57A), (58, f58A), (59, f59A), (62, f62A), (63, f63A), (64, f64A), (65, f65A)]
def E : Tab := { fn := fun f => tab.lookup f, kd := kd }
theorem lookup_mem {β : Type} {f : Nat} {x : β} : ∀ {l : List (Nat × β)}, l.lookup f = some x → (f, x) ∈ l
  | [], h => by cases h
  | (k, y) :: l, h => by
    by_cases e : f = k
    · subst e
      simp [List.lookup] at h
      simp [h]
    · have : (f == k) = false := by simpa using e
      simp only [List.lookup, this] at h
      exact List.mem_cons_of_mem _ (lookup_mem h)
theorem fn4 : E.fn 4 = some f4A := by kernel_rfl
theorem fn13 : E.fn 13 = some f13A := by kernel_rfl
theorem fn14 : E.fn 14 = some f14A := by kernel_rfl
theorem fn15 : E.fn 15 = some f15A := by kernel_rfl
theorem fn16 : E.fn 16 = some f16A := by kernel_rfl
theorem fn17 : E.fn 17 = some f17A := by kernel_rfl
theorem fn18 : E.fn 18 = some f18A := by kernel_rfl
theorem fn19 : E.fn 19 = some f19A := by kernel_rfl
theorem fn20 : E.fn 20 = some f20A := by kernel_rfl
theorem fn21 : E.fn 21 = some f21A := by kernel_rfl
theorem fn22 : E.fn 22 = some f22A := by kernel_rfl
theorem fn29 : E.fn 29 = some f29A := by kernel_rfl
theorem fn30 : E.fn 30 = some f30A := by kernel_rfl
theorem fn31 : E.fn 31 = some f31A := by kernel_rfl
theorem fn32 : E.fn 32 = some f32A := by kernel_rfl
theorem fn33 : E.fn 33 = some f33A := by kernel_rfl
theorem fn34 : E.fn 34 = some f34A := by kernel_rfl
theorem fn35 : E.fn 35 = some f35A := by kernel_rfl
theorem fn36 : E.fn 36 = some f36A := by kernel_rfl
theorem fn37 : E.fn 37 = some f37A := by kernel_rfl
theorem fn38 : E.fn 38 = some f38A := by kernel_rfl
theorem fn39 : E.fn 39 = some f39A := by kernel_rfl
theorem fn45 : E.fn 45 = some f45A := by kernel_rfl
theorem fn46 : E.fn 46 = some f46A := by kernel_rfl
theorem fn47 : E.fn 47 = some f47A := by kernel_rfl
theorem fn48 : E.fn 48 = some f48A := by kernel_rfl
theorem fn49 : E.fn 49 = some f49A := by kernel_rfl
theorem fn50 : E.fn 50 = some f50A := by kernel_rfl
theorem fn51 : E.fn 51 = some f51A := by kernel_rfl
theorem fn56 : E.fn 56 = some f56A := by kernel_rfl
theorem fn57 : E.fn 57 = some f57A := by kernel_rfl
theorem fn58 : E.fn 58 = some f58A := by kernel_rfl
theorem fn59 : E.fn 59 = some f59A := by kernel_rfl
theorem fn62 : E.fn 62 = some f62A := by kernel_rfl
theorem fn63 : E.fn 63 = some f63A := by kernel_rfl
theorem fn64 : E.fn 64 = some f64A := by kernel_rfl
theorem fn65 : E.fn 65 = some f65A := by kernel_rfl
theorem tab_ok : ∀ p ∈ tab, FnOk C p.1 p.2 := by
  intro p hp
  simp only [tab, List.mem_cons, List.not_mem_nil, or_false] at hp
  rcases hp with rfl | rfl | rfl | rfl | rfl | rfl | rfl | rfl | rfl | rfl | rfl | rfl | rfl | rfl | rfl | rfl | rfl | rfl | rfl | rfl | rfl | rfl | rfl | rfl | rfl | rfl | rfl | rfl | rfl | rfl | rfl | rfl | rfl | rfl | rfl | rfl | rfl
  · exact ⟨_, Try.func4, f4P⟩
  · exact ⟨_, Try.func13, f13P⟩
  · exact ⟨_, Try.func14, f14P⟩
  · exact ⟨_, Try.func15, f15P⟩
  · exact ⟨_, Try.func16, f16P⟩
  · exact ⟨_, Try.func17, f17P⟩
  · exact ⟨_, Try.func18, f18P⟩
  · exact ⟨_, Try.func19, f19P⟩
  · exact ⟨_, Try.func20, f20P⟩
  · exact ⟨_, Try.func21, f21P⟩
  · exact ⟨_, Try.func22, f22P⟩
  · exact ⟨_, Try.func29, f29P⟩
  · exact ⟨_, Try.func30, f30P⟩
  · exact ⟨_, Try.func31, f31P⟩
  · exact ⟨_, Try.func32, f32P⟩
  · exact ⟨_, Try.func33, f33P⟩
  · exact ⟨_, Try.func34, f34P⟩
  · exact ⟨_, Try.func35, f35P⟩
  · exact ⟨_, Try.func36, f36P⟩
  · exact ⟨_, Try.func37, f37P⟩
  · exact ⟨_, Try.func38, f38P⟩
  · exact ⟨_, Try.func39, f39P⟩
  · exact ⟨_, Try.func45, f45P⟩
  · exact ⟨_, Try.func46, f46P⟩
  · exact ⟨_, Try.func47, f47P⟩
  · exact ⟨_, Try.func48, f48P⟩
  · exact ⟨_, Try.func49, f49P⟩
  · exact ⟨_, Try.func50, f50P⟩
  · exact ⟨_, Try.func51, f51P⟩
  · exact ⟨_, Try.func56, f56P⟩
  · exact ⟨_, Try.func57, f57P⟩
  · exact ⟨_, Try.func58, f58P⟩
  · exact ⟨_, Try.func59, f59P⟩
  · exact ⟨_, Try.func62, f62P⟩
  · exact ⟨_, Try.func63, f63P⟩
  · exact ⟨_, Try.func64, f64P⟩
  · exact ⟨_, Try.func65, f65P⟩
theorem mixed : C.P.follows .mixedOrders = true := by kernel_rfl
end Go.Proofs.Ytmmbakggmlfffaa
