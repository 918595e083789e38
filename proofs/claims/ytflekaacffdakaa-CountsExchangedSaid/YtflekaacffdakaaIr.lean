/- The table of the functions of this seat. Conditions: as EOk names them. -/
import Derived.Test.YtflekaacffdakaaIr0
import Derived.Test.YtflekaacffdakaaIr1
import Derived.Test.YtflekaacffdakaaAm2
namespace Go.Proofs.Ytflekaacffdakaa
open Go Go.AM Go.Proofs

def tab : List (Nat × AFunc) := [(3, f3A), (4, f4A), (5, f5A), (6, f6A), (7, f7A), (8, f8A), (9, f9A), (10, f10A), (11, f11A), (12, f12A), (13, f13A), (14, f14A), (15, f15A), (16, f16A), (17, f17A), (18, f18A), (19, f19A), (20, f20A), (21, f21A), (22, f22A), (23, f23A), (24, f24A), (25, f25A), (26, f26A), (27, f27A), (28, f28A), (29, f29A), (30, f30A), (31, f31A), (32, f32A), (33, f33A), (34, f34A), (35, f35A), (36, f36A), (37, f37A), (38, f38A), (39, f39A), (40, f40A), (41, f41A), (42, f42A), (43, f43A), (44, f44A), (45, f45A), (46, f46A), (47, f47A), (48, f48A), (49, f49A), (50, f50A), (51, f51A), (52, f52A), (53, f53A), (54, f54A), (55, f55A), (56, f56A), (57, f57A), (58, f58A), (59, f59A), (61, f61A), (62, f62A), (63, f63A), (64, f64A), (65, f65A), (66, f66A), (67, f67A), (68, f68A), (69, f69A), (70, f70A), (71, f71A), (72, f72A), (73, f73A), (74, f74A), (75, f75A), (76, f76A), (77, f77A), (78, f78A), (79, f79A), (80, f80A), (81, f81A), (82, f82A), (83, f83A), (84, f84A), (85, f85A), (86, f86A), (87, f87A), (88, f88A), (89, f89A), (90, f90A), (91, f91A), (92, f92A), (93, f93A), (94, f94A), (95, f95A), (96, f96A), (97, f97A), (98, f98A), (99, f99A), (100, f100A), (101, f101A), (102, f102A), (103, f103A)]
def E : Tab := { fn := fun f => tab.lookup f, kd := kd }
theorem lookup_mem {β : Type} {f : Nat} {x : β} : ∀ {l : List (Nat × β)}, l.lookup f = some x → (f, x) ∈ l
  | [], h => by cases h
  | (k, y) :: l, h => by
    by_cases e : f = k
    · subst e
      simp [List.lookup] at h
      simp [h]
    · have : (f == k) = false := by simpa using e
      simp only [List.lookup, this] at h
      exact List.mem_cons_of_mem _ (lookup_mem h)
theorem fn3 : E.fn 3 = some f3A := by kernel_rfl
theorem fn4 : E.fn 4 = some f4A := by kernel_rfl
theorem fn5 : E.fn 5 = some f5A := by kernel_rfl
theorem fn6 : E.fn 6 = some f6A := by kernel_rfl
theorem fn7 : E.fn 7 = some f7A := by kernel_rfl
theorem fn8 : E.fn 8 = some f8A := by kernel_rfl
theorem fn9 : E.fn 9 = some f9A := by kernel_rfl
theorem fn10 : E.fn 10 = some f10A := by kernel_rfl
theorem fn11 : E.fn 11 = some f11A := by kernel_rfl
theorem fn12 : E.fn 12 = some f12A := by kernel_rfl
theorem fn13 : E.fn 13 = some f13A := by kernel_rfl
theorem fn14 : E.fn 14 = some f14A := by kernel_rfl
theorem fn15 : E.fn 15 = some f15A := by kernel_rfl
theorem fn16 : E.fn 16 = some f16A := by kernel_rfl
theorem fn17 : E.fn 17 = some f17A := by kernel_rfl
theorem fn18 : E.fn 18 = some f18A := by kernel_rfl
theorem fn19 : E.fn 19 = some f19A := by kernel_rfl
theorem fn20 : E.fn 20 = some f20A := by kernel_rfl
theorem fn21 : E.fn 21 = some f21A := by kernel_rfl
theorem fn22 : E.fn 22 = some f22A := by kernel_rfl
theorem fn23 : E.fn 23 = some f23A := by kernel_rfl
theorem fn24 : E.fn 24 = some f24A := by kernel_rfl
theorem fn25 : E.fn 25 = some f25A := by kernel_rfl
theorem fn26 : E.fn 26 = some f26A := by kernel_rfl
theorem fn27 : E.fn 27 = some f27A := by kernel_rfl
theorem fn28 : E.fn 28 = some f28A := by kernel_rfl
theorem fn29 : E.fn 29 = some f29A := by kernel_rfl
theorem fn30 : E.fn 30 = some f30A := by kernel_rfl
theorem fn31 : E.fn 31 = some f31A := by kernel_rfl
theorem fn32 : E.fn 32 = some f32A := by kernel_rfl
theorem fn33 : E.fn 33 = some f33A := by kernel_rfl
theorem fn34 : E.fn 34 = some f34A := by kernel_rfl
theorem fn35 : E.fn 35 = some f35A := by kernel_rfl
theorem fn36 : E.fn 36 = some f36A := by kernel_rfl
theorem fn37 : E.fn 37 = some f37A := by kernel_rfl
theorem fn38 : E.fn 38 = some f38A := by kernel_rfl
theorem fn39 : E.fn 39 = some f39A := by kernel_rfl
theorem fn40 : E.fn 40 = some f40A := by kernel_rfl
theorem fn41 : E.fn 41 = some f41A := by kernel_rfl
theorem fn42 : E.fn 42 = some f42A := by kernel_rfl
theorem fn43 : E.fn 43 = some f43A := by kernel_rfl
theorem fn44 : E.fn 44 = some f44A := by kernel_rfl
theorem fn45 : E.fn 45 = some f45A := by kernel_rfl
theorem fn46 : E.fn 46 = some f46A := by kernel_rfl
theorem fn47 : E.fn 47 = some f47A := by kernel_rfl
theorem fn48 : E.fn 48 = some f48A := by kernel_rfl
theorem fn49 : E.fn 49 = some f49A := by kernel_rfl
theorem fn50 : E.fn 50 = some f50A := by kernel_rfl
theorem fn51 : E.fn 51 = some f51A := by kernel_rfl
theorem fn52 : E.fn 52 = some f52A := by kernel_rfl
theorem fn53 : E.fn 53 = some f53A := by kernel_rfl
theorem fn54 : E.fn 54 = some f54A := by kernel_rfl
theorem fn55 : E.fn 55 = some f55A := by kernel_rfl
theorem fn56 : E.fn 56 = some f56A := by kernel_rfl
theorem fn57 : E.fn 57 = some f57A := by kernel_rfl
theorem fn58 : E.fn 58 = some f58A := by kernel_rfl
theorem fn59 : E.fn 59 = some f59A := by kernel_rfl
theorem fn61 : E.fn 61 = some f61A := by kernel_rfl
theorem fn62 : E.fn 62 = some f62A := by kernel_rfl
theorem fn63 : E.fn 63 = some f63A := by kernel_rfl
theorem fn64 : E.fn 64 = some f64A := by kernel_rfl
theorem fn65 : E.fn 65 = some f65A := by kernel_rfl
theorem fn66 : E.fn 66 = some f66A := by kernel_rfl
theorem fn67 : E.fn 67 = some f67A := by kernel_rfl
theorem fn68 : E.fn 68 = some f68A := by kernel_rfl
theorem fn69 : E.fn 69 = some f69A := by kernel_rfl
theorem fn70 : E.fn 70 = some f70A := by kernel_rfl
theorem fn71 : E.fn 71 = some f71A := by kernel_rfl
theorem fn72 : E.fn 72 = some f72A := by kernel_rfl
theorem fn73 : E.fn 73 = some f73A := by kernel_rfl
theorem fn74 : E.fn 74 = some f74A := by kernel_rfl
theorem fn75 : E.fn 75 = some f75A := by kernel_rfl
theorem fn76 : E.fn 76 = some f76A := by kernel_rfl
theorem fn77 : E.fn 77 = some f77A := by kernel_rfl
theorem fn78 : E.fn 78 = some f78A := by kernel_rfl
theorem fn79 : E.fn 79 = some f79A := by kernel_rfl
theorem fn80 : E.fn 80 = some f80A := by kernel_rfl
theorem fn81 : E.fn 81 = some f81A := by kernel_rfl
theorem fn82 : E.fn 82 = some f82A := by kernel_rfl
theorem fn83 : E.fn 83 = some f83A := by kernel_rfl
theorem fn84 : E.fn 84 = some f84A := by kernel_rfl
theorem fn85 : E.fn 85 = some f85A := by kernel_rfl
theorem fn86 : E.fn 86 = some f86A := by kernel_rfl
theorem fn87 : E.fn 87 = some f87A := by kernel_rfl
theorem fn88 : E.fn 88 = some f88A := by kernel_rfl
theorem fn89 : E.fn 89 = some f89A := by kernel_rfl
theorem fn90 : E.fn 90 = some f90A := by kernel_rfl
theorem fn91 : E.fn 91 = some f91A := by kernel_rfl
theorem fn92 : E.fn 92 = some f92A := by kernel_rfl
theorem fn93 : E.fn 93 = some f93A := by kernel_rfl
theorem fn94 : E.fn 94 = some f94A := by kernel_rfl
theorem fn95 : E.fn 95 = some f95A := by kernel_rfl
theorem fn96 : E.fn 96 = some f96A := by kernel_rfl
theorem fn97 : E.fn 97 = some f97A := by kernel_rfl
theorem fn98 : E.fn 98 = some f98A := by kernel_rfl
theorem fn99 : E.fn 99 = some f99A := by kernel_rfl
theorem fn100 : E.fn 100 = some f100A := by kernel_rfl
theorem fn101 : E.fn 101 = some f101A := by kernel_rfl
theorem fn102 : E.fn 102 = some f102A := by kernel_rfl
theorem fn103 : E.fn 103 = some f103A := by kernel_rfl
theorem tab_ok : ∀ p ∈ tab, FnOk C p.1 p.2 := by
  intro p hp
  simp only [tab, List.mem_cons, List.not_mem_nil, or_false] at hp
  rcases hp with rfl | rfl | rfl | rfl | rfl | rfl | rfl | rfl | rfl | rfl | rfl | rfl | rfl | rfl | rfl | rfl | rfl | rfl | rfl | rfl | rfl | rfl | rfl | rfl | rfl | rfl | rfl | rfl | rfl | rfl | rfl | rfl | rfl | rfl | rfl | rfl | rfl | rfl | rfl | rfl | rfl | rfl | rfl | rfl | rfl | rfl | rfl | rfl | rfl | rfl | rfl | rfl | rfl | rfl | rfl | rfl | rfl | rfl | rfl | rfl | rfl | rfl | rfl | rfl | rfl | rfl | rfl | rfl | rfl | rfl | rfl | rfl | rfl | rfl | rfl | rfl | rfl | rfl | rfl | rfl | rfl | rfl | rfl | rfl | rfl | rfl | rfl | rfl | rfl | rfl | rfl | rfl | rfl | rfl | rfl | rfl | rfl | rfl | rfl | rfl
  · exact ⟨_, Try.func3, f3P⟩
  · exact ⟨_, Try.func4, f4P⟩
  · exact ⟨_, Try.func5, f5P⟩
  · exact ⟨_, Try.func6, f6P⟩
  · exact ⟨_, Try.func7, f7P⟩
  · exact ⟨_, Try.func8, f8P⟩
  · exact ⟨_, Try.func9, f9P⟩
  · exact ⟨_, Try.func10, f10P⟩
  · exact ⟨_, Try.func11, f11P⟩
  · exact ⟨_, Try.func12, f12P⟩
  · exact ⟨_, Try.func13, f13P⟩
  · exact ⟨_, Try.func14, f14P⟩
  · exact ⟨_, Try.func15, f15P⟩
  · exact ⟨_, Try.func16, f16P⟩
  · exact ⟨_, Try.func17, f17P⟩
  · exact ⟨_, Try.func18, f18P⟩
  · exact ⟨_, Try.func19, f19P⟩
  · exact ⟨_, Try.func20, f20P⟩
  · exact ⟨_, Try.func21, f21P⟩
  · exact ⟨_, Try.func22, f22P⟩
  · exact ⟨_, Try.func23, f23P⟩
  · exact ⟨_, Try.func24, f24P⟩
  · exact ⟨_, Try.func25, f25P⟩
  · exact ⟨_, Try.func26, f26P⟩
  · exact ⟨_, Try.func27, f27P⟩
  · exact ⟨_, Try.func28, f28P⟩
  · exact ⟨_, Try.func29, f29P⟩
  · exact ⟨_, Try.func30, f30P⟩
  · exact ⟨_, Try.func31, f31P⟩
  · exact ⟨_, Try.func32, f32P⟩
  · exact ⟨_, Try.func33, f33P⟩
  · exact ⟨_, Try.func34, f34P⟩
  · exact ⟨_, Try.func35, f35P⟩
  · exact ⟨_, Try.func36, f36P⟩
  · exact ⟨_, Try.func37, f37P⟩
  · exact ⟨_, Try.func38, f38P⟩
  · exact ⟨_, Try.func39, f39P⟩
  · exact ⟨_, Try.func40, f40P⟩
  · exact ⟨_, Try.func41, f41P⟩
  · exact ⟨_, Try.func42, f42P⟩
  · exact ⟨_, Try.func43, f43P⟩
  · exact ⟨_, Try.func44, f44P⟩
  · exact ⟨_, Try.func45, f45P⟩
  · exact ⟨_, Try.func46, f46P⟩
  · exact ⟨_, Try.func47, f47P⟩
  · exact ⟨_, Try.func48, f48P⟩
  · exact ⟨_, Try.func49, f49P⟩
  · exact ⟨_, Try.func50, f50P⟩
  · exact ⟨_, Try.func51, f51P⟩
  · exact ⟨_, Try.func52, f52P⟩
  · exact ⟨_, Try.func53, f53P⟩
  · exact ⟨_, Try.func54, f54P⟩
  · exact ⟨_, Try.func55, f55P⟩
  · exact ⟨_, Try.func56, f56P⟩
  · exact ⟨_, Try.func57, f57P⟩
  · exact ⟨_, Try.func58, f58P⟩
  · exact ⟨_, Try.func59, f59P⟩
  · exact ⟨_, Try.func61, f61P⟩
  · exact ⟨_, Try.func62, f62P⟩
  · exact ⟨_, Try.func63, f63P⟩
  · exact ⟨_, Try.func64, f64P⟩
  · exact ⟨_, Try.func65, f65P⟩
  · exact ⟨_, Try.func66, f66P⟩
  · exact ⟨_, Try.func67, f67P⟩
  · exact ⟨_, Try.func68, f68P⟩
  · exact ⟨_, Try.func69, f69P⟩
  · exact ⟨_, Try.func70, f70P⟩
  · exact ⟨_, Try.func71, f71P⟩
  · exact ⟨_, Try.func72, f72P⟩
  · exact ⟨_, Try.func73, f73P⟩
  · exact ⟨_, Try.func74, f74P⟩
  · exact ⟨_, Try.func75, f75P⟩
  · exact ⟨_, Try.func76, f76P⟩
  · exact ⟨_, Try.func77, f77P⟩
  · exact ⟨_, Try.func78, f78P⟩
  · exact ⟨_, Try.func79, f79P⟩
  · exact ⟨_, Try.func80, f80P⟩
  · exact ⟨_, Try.func81, f81P⟩
  · exact ⟨_, Try.func82, f82P⟩
  · exact ⟨_, Try.func83, f83P⟩
  · exact ⟨_, Try.func84, f84P⟩
  · exact ⟨_, Try.func85, f85P⟩
  · exact ⟨_, Try.func86, f86P⟩
  · exact ⟨_, Try.func87, f87P⟩
  · exact ⟨_, Try.func88, f88P⟩
  · exact ⟨_, Try.func89, f89P⟩
  · exact ⟨_, Try.func90, f90P⟩
  · exact ⟨_, Try.func91, f91P⟩
  · exact ⟨_, Try.func92, f92P⟩
  · exact ⟨_, Try.func93, f93P⟩
  · exact ⟨_, Try.func94, f94P⟩
  · exact ⟨_, Try.func95, f95P⟩
  · exact ⟨_, Try.func96, f96P⟩
  · exact ⟨_, Try.func97, f97P⟩
  · exact ⟨_, Try.func98, f98P⟩
  · exact ⟨_, Try.func99, f99P⟩
  · exact ⟨_, Try.func100, f100P⟩
  · exact ⟨_, Try.func101, f101P⟩
  · exact ⟨_, Try.func102, f102P⟩
  · exact ⟨_, Try.func103, f103P⟩
theorem mixed : C.P.follows .mixedOrders = true := by kernel_rfl
end Go.Proofs.Ytflekaacffdakaa
