import Derived.Test.YtiejomgbfpffoaaDoorP1
import Derived.Test.YtiejomgbfpffoaaDoorA5
import Derived.Test.YtiejomgbfpffoaaDoorProg
import Derived.KernelRfl
namespace Go.Proofs.YtiejomgbfpffoaaDoor
open Go.Abs
theorem mixed : Tryd.prog.follows .mixedOrders = true := by kernel_rfl
@[go_sem] theorem ty3_a : tAgg Tryd.prog 3 = some false := by kernel_rfl
@[go_sem] theorem ty3_s : tSize Tryd.prog 3 = some 1 := by kernel_rfl
@[go_sem] theorem ty3_n : tInt Tryd.prog 3 = some Go.IntKind.i64 := by kernel_rfl
@[go_sem] theorem ty3_u : (Tryd.prog.underlying 3).isSome = true := by kernel_rfl
@[go_sem] theorem ty4_u : Tryd.prog.underlying 4 = some .bool := by kernel_rfl
@[go_sem] theorem ty9_a : tAgg Tryd.prog 9 = some false := by kernel_rfl
@[go_sem] theorem ty9_s : tSize Tryd.prog 9 = some 1 := by kernel_rfl
@[go_sem] theorem ty9_t : tIsStr Tryd.prog 9 = true := by kernel_rfl
@[go_sem] theorem ty22_a : tAgg Tryd.prog 22 = some false := by kernel_rfl
@[go_sem] theorem ty22_s : tSize Tryd.prog 22 = some 1 := by kernel_rfl
@[go_sem] theorem ty22_i : tIsSlice Tryd.prog 22 = true := by kernel_rfl
@[go_sem] theorem ty22_e : tElem Tryd.prog 22 = some 29 := by kernel_rfl
@[go_sem] theorem ty22_l : tSlice Tryd.prog 22 = some (29, 4, 56) := by kernel_rfl
@[go_sem] theorem ty22_u : (Tryd.prog.underlying 22).isSome = true := by kernel_rfl
@[go_sem] theorem ty29_a : tAgg Tryd.prog 29 = some true := by kernel_rfl
@[go_sem] theorem ty29_s : tSize Tryd.prog 29 = some 4 := by kernel_rfl
@[go_sem] theorem ty29_f0 : tField Tryd.prog 29 0 = some (0, 3) := by kernel_rfl
@[go_sem] theorem ty29_f1 : tField Tryd.prog 29 1 = some (1, 3) := by kernel_rfl
@[go_sem] theorem ty29_f2 : tField Tryd.prog 29 2 = some (2, 9) := by kernel_rfl
@[go_sem] theorem ty29_f3 : tField Tryd.prog 29 3 = some (3, 22) := by kernel_rfl
@[go_sem] theorem go6 : isGo Tryd.prog 6 = true := by kernel_rfl
@[go_sem] theorem go8 : isGo Tryd.prog 8 = true := by kernel_rfl
@[go_sem] theorem go9 : isGo Tryd.prog 9 = true := by kernel_rfl
@[go_sem] theorem go10 : isGo Tryd.prog 10 = true := by kernel_rfl
@[go_sem] theorem tz29 : tZero Tryd.prog 29 = some [.int .i64 0, .int .i64 0, .string ⟨#[]⟩, .slice none 0 0] := by kernel_rfl
@[go_sem] theorem go11 : isGo Tryd.prog 11 = true := by kernel_rfl
@[go_sem] theorem go12 : isGo Tryd.prog 12 = true := by kernel_rfl
@[go_sem] theorem go13 : isGo Tryd.prog 13 = true := by kernel_rfl
@[go_sem] theorem go14 : isGo Tryd.prog 14 = true := by kernel_rfl
@[go_sem] theorem go15 : isGo Tryd.prog 15 = true := by kernel_rfl
@[go_sem] theorem fr4 : Tryd.f4.results.toList = [.tmp 2] := by kernel_rfl
@[go_sem] theorem fn4 : Tryd.f4.ntmps = 66 := by kernel_rfl
@[go_sem] theorem ty39_a : tAgg Tryd.prog 39 = some false := by kernel_rfl
@[go_sem] theorem ty39_s : tSize Tryd.prog 39 = some 1 := by kernel_rfl
@[go_sem] theorem ty39_i : tIsSlice Tryd.prog 39 = true := by kernel_rfl
@[go_sem] theorem ty39_e : tElem Tryd.prog 39 = some 9 := by kernel_rfl
@[go_sem] theorem ty39_l : tSlice Tryd.prog 39 = some (9, 1, 16) := by kernel_rfl
@[go_sem] theorem ty39_u : (Tryd.prog.underlying 39).isSome = true := by kernel_rfl
@[go_sem] theorem go21 : isGo Tryd.prog 21 = true := by kernel_rfl
@[go_sem] theorem go22 : isGo Tryd.prog 22 = true := by kernel_rfl
@[go_sem] theorem fr6 : Tryd.f6.results.toList = [.tmp 2, .tmp 3] := by kernel_rfl
@[go_sem] theorem fn6 : Tryd.f6.ntmps = 28 := by kernel_rfl
@[go_sem] theorem ty45_f0 : tField Tryd.prog 45 0 = some (0, 39) := by kernel_rfl
@[go_sem] theorem ty45_f1 : tField Tryd.prog 45 1 = some (1, 3) := by kernel_rfl
@[go_sem] theorem tb45 : tBuild Tryd.prog 45 = some ([.slice none 0 0, .int .i64 0], [(0, 1), (1, 1)]) := by kernel_rfl
@[go_sem] theorem go23 : isGo Tryd.prog 23 = true := by kernel_rfl
@[go_sem] theorem go24 : isGo Tryd.prog 24 = true := by kernel_rfl
@[go_sem] theorem go25 : isGo Tryd.prog 25 = true := by kernel_rfl
@[go_sem] theorem fr8 : Tryd.f8.results.toList = [.tmp 4] := by kernel_rfl
@[go_sem] theorem fn8 : Tryd.f8.ntmps = 27 := by kernel_rfl
@[go_sem] theorem go26 : isGo Tryd.prog 26 = true := by kernel_rfl
@[go_sem] theorem fr9 : Tryd.f9.results.toList = [.tmp 4] := by kernel_rfl
@[go_sem] theorem fn9 : Tryd.f9.ntmps = 42 := by kernel_rfl
@[go_sem] theorem fr10 : Tryd.f10.results.toList = [.tmp 4] := by kernel_rfl
@[go_sem] theorem fn10 : Tryd.f10.ntmps = 50 := by kernel_rfl
@[go_sem] theorem tb29 : tBuild Tryd.prog 29 = some ([.int .i64 0, .int .i64 0, .string ⟨#[]⟩, .slice none 0 0], [(0, 1), (1, 1), (2, 1), (3, 1)]) := by kernel_rfl
@[go_sem] theorem fr11 : Tryd.f11.results.toList = [.cell 2 29, .tmp 3] := by kernel_rfl
@[go_sem] theorem fn11 : Tryd.f11.ntmps = 22 := by kernel_rfl
@[go_sem] theorem fr12 : Tryd.f12.results.toList = [.cell 2 29, .tmp 3] := by kernel_rfl
@[go_sem] theorem fn12 : Tryd.f12.ntmps = 33 := by kernel_rfl
@[go_sem] theorem fr13 : Tryd.f13.results.toList = [.tmp 4] := by kernel_rfl
@[go_sem] theorem fn13 : Tryd.f13.ntmps = 26 := by kernel_rfl
@[go_sem] theorem fr14 : Tryd.f14.results.toList = [.tmp 4] := by kernel_rfl
@[go_sem] theorem fn14 : Tryd.f14.ntmps = 10 := by kernel_rfl
@[go_sem] theorem fr15 : Tryd.f15.results.toList = [.tmp 4] := by kernel_rfl
@[go_sem] theorem fn15 : Tryd.f15.ntmps = 12 := by kernel_rfl
@[go_sem] theorem ty5_n : tInt Tryd.prog 5 = some Go.IntKind.u8 := by kernel_rfl
@[go_sem] theorem ty5_u : (Tryd.prog.underlying 5).isSome = true := by kernel_rfl
@[go_sem] theorem go30 : isGo Tryd.prog 30 = true := by kernel_rfl
@[go_sem] theorem go31 : isGo Tryd.prog 31 = true := by kernel_rfl
@[go_sem] theorem fr21 : Tryd.f21.results.toList = [.tmp 2, .tmp 3] := by kernel_rfl
@[go_sem] theorem fn21 : Tryd.f21.ntmps = 99 := by kernel_rfl
@[go_sem] theorem go32 : isGo Tryd.prog 32 = true := by kernel_rfl
@[go_sem] theorem go33 : isGo Tryd.prog 33 = true := by kernel_rfl
@[go_sem] theorem fr22 : Tryd.f22.results.toList = [.tmp 2, .tmp 3] := by kernel_rfl
@[go_sem] theorem fn22 : Tryd.f22.ntmps = 34 := by kernel_rfl
@[go_sem] theorem fr23 : Tryd.f23.results.toList = [.tmp 2, .tmp 3] := by kernel_rfl
@[go_sem] theorem fn23 : Tryd.f23.ntmps = 132 := by kernel_rfl
@[go_sem] theorem fr24 : Tryd.f24.results.toList = [.tmp 2] := by kernel_rfl
@[go_sem] theorem fn24 : Tryd.f24.ntmps = 13 := by kernel_rfl
@[go_sem] theorem go34 : isGo Tryd.prog 34 = true := by kernel_rfl
@[go_sem] theorem go35 : isGo Tryd.prog 35 = true := by kernel_rfl
@[go_sem] theorem fr25 : Tryd.f25.results.toList = [.cell 2 29, .tmp 3] := by kernel_rfl
@[go_sem] theorem fn25 : Tryd.f25.ntmps = 20 := by kernel_rfl
@[go_sem] theorem ty58_l : tSlice Tryd.prog 58 = some (5, 1, 1) := by kernel_rfl
@[go_sem] theorem ty58_b : tIsBytes Tryd.prog 58 = true := by kernel_rfl
@[go_sem] theorem fr26 : Tryd.f26.results.toList = [.tmp 2] := by kernel_rfl
@[go_sem] theorem fn26 : Tryd.f26.ntmps = 20 := by kernel_rfl
@[go_sem] theorem fr30 : Tryd.f30.results.toList = [.tmp 2] := by kernel_rfl
@[go_sem] theorem fn30 : Tryd.f30.ntmps = 21 := by kernel_rfl
@[go_sem] theorem fr31 : Tryd.f31.results.toList = [.tmp 6] := by kernel_rfl
@[go_sem] theorem fn31 : Tryd.f31.ntmps = 15 := by kernel_rfl
@[go_sem] theorem go43 : isGo Tryd.prog 43 = true := by kernel_rfl
@[go_sem] theorem go44 : isGo Tryd.prog 44 = true := by kernel_rfl
@[go_sem] theorem fr32 : Tryd.f32.results.toList = [.cell 4 29, .tmp 5, .tmp 6] := by kernel_rfl
@[go_sem] theorem fn32 : Tryd.f32.ntmps = 136 := by kernel_rfl
@[go_sem] theorem go45 : isGo Tryd.prog 45 = true := by kernel_rfl
@[go_sem] theorem go46 : isGo Tryd.prog 46 = true := by kernel_rfl
@[go_sem] theorem fr33 : Tryd.f33.results.toList = [.tmp 2] := by kernel_rfl
@[go_sem] theorem fn33 : Tryd.f33.ntmps = 10 := by kernel_rfl
@[go_sem] theorem go47 : isGo Tryd.prog 47 = true := by kernel_rfl
@[go_sem] theorem go48 : isGo Tryd.prog 48 = true := by kernel_rfl
@[go_sem] theorem go49 : isGo Tryd.prog 49 = true := by kernel_rfl
@[go_sem] theorem go50 : isGo Tryd.prog 50 = true := by kernel_rfl
@[go_sem] theorem go51 : isGo Tryd.prog 51 = true := by kernel_rfl
@[go_sem] theorem go52 : isGo Tryd.prog 52 = true := by kernel_rfl
@[go_sem] theorem go53 : isGo Tryd.prog 53 = true := by kernel_rfl
@[go_sem] theorem go54 : isGo Tryd.prog 54 = true := by kernel_rfl
@[go_sem] theorem go55 : isGo Tryd.prog 55 = true := by kernel_rfl
@[go_sem] theorem fr34 : Tryd.f34.results.toList = [.cell 2 29, .tmp 3] := by kernel_rfl
@[go_sem] theorem fn34 : Tryd.f34.ntmps = 132 := by kernel_rfl
@[go_sem] theorem go56 : isGo Tryd.prog 56 = true := by kernel_rfl
@[go_sem] theorem fr35 : Tryd.f35.results.toList = [.tmp 2] := by kernel_rfl
@[go_sem] theorem fn35 : Tryd.f35.ntmps = 6 := by kernel_rfl
@[go_sem] theorem go60 : isGo Tryd.prog 60 = true := by kernel_rfl
@[go_sem] theorem go61 : isGo Tryd.prog 61 = true := by kernel_rfl
@[go_sem] theorem go62 : isGo Tryd.prog 62 = true := by kernel_rfl
@[go_sem] theorem fr43 : Tryd.f43.results.toList = [.cell 2 29, .tmp 3] := by kernel_rfl
@[go_sem] theorem fn43 : Tryd.f43.ntmps = 39 := by kernel_rfl
@[go_sem] theorem go63 : isGo Tryd.prog 63 = true := by kernel_rfl
@[go_sem] theorem fr44 : Tryd.f44.results.toList = [.cell 4 29] := by kernel_rfl
@[go_sem] theorem fn44 : Tryd.f44.ntmps = 20 := by kernel_rfl
@[go_sem] theorem fr45 : Tryd.f45.results.toList = [.tmp 4] := by kernel_rfl
@[go_sem] theorem fn45 : Tryd.f45.ntmps = 28 := by kernel_rfl
@[go_sem] theorem fr46 : Tryd.f46.results.toList = [.tmp 2] := by kernel_rfl
@[go_sem] theorem fn46 : Tryd.f46.ntmps = 76 := by kernel_rfl
@[go_sem] theorem fr47 : Tryd.f47.results.toList = [.tmp 2] := by kernel_rfl
@[go_sem] theorem fn47 : Tryd.f47.ntmps = 23 := by kernel_rfl
@[go_sem] theorem fr48 : Tryd.f48.results.toList = [.tmp 4] := by kernel_rfl
@[go_sem] theorem fn48 : Tryd.f48.ntmps = 28 := by kernel_rfl
@[go_sem] theorem fr49 : Tryd.f49.results.toList = [.cell 2 29] := by kernel_rfl
@[go_sem] theorem fn49 : Tryd.f49.ntmps = 20 := by kernel_rfl
@[go_sem] theorem fr50 : Tryd.f50.results.toList = [.cell 4 29] := by kernel_rfl
@[go_sem] theorem fn50 : Tryd.f50.ntmps = 9 := by kernel_rfl
@[go_sem] theorem fr52 : Tryd.f52.results.toList = [.cell 2 29] := by kernel_rfl
@[go_sem] theorem fn52 : Tryd.f52.ntmps = 5 := by kernel_rfl
@[go_sem] theorem fr53 : Tryd.f53.results.toList = [.tmp 2] := by kernel_rfl
@[go_sem] theorem fn53 : Tryd.f53.ntmps = 57 := by kernel_rfl
@[go_sem] theorem fr54 : Tryd.f54.results.toList = [.cell 2 29] := by kernel_rfl
@[go_sem] theorem fn54 : Tryd.f54.ntmps = 5 := by kernel_rfl
@[go_sem] theorem fr55 : Tryd.f55.results.toList = [.cell 2 29] := by kernel_rfl
@[go_sem] theorem fn55 : Tryd.f55.ntmps = 5 := by kernel_rfl
@[go_sem] theorem fr56 : Tryd.f56.results.toList = [.tmp 4] := by kernel_rfl
@[go_sem] theorem fn56 : Tryd.f56.ntmps = 107 := by kernel_rfl
@[go_sem] theorem fr60 : Tryd.f60.results.toList = [.tmp 2] := by kernel_rfl
@[go_sem] theorem fn60 : Tryd.f60.ntmps = 44 := by kernel_rfl
@[go_sem] theorem fr61 : Tryd.f61.results.toList = [.cell 2 29] := by kernel_rfl
@[go_sem] theorem fn61 : Tryd.f61.ntmps = 5 := by kernel_rfl
@[go_sem] theorem go66 : isGo Tryd.prog 66 = true := by kernel_rfl
@[go_sem] theorem fr62 : Tryd.f62.results.toList = [.tmp 2, .tmp 3] := by kernel_rfl
@[go_sem] theorem fn62 : Tryd.f62.ntmps = 65 := by kernel_rfl
@[go_sem] theorem fr63 : Tryd.f63.results.toList = [.cell 4 29] := by kernel_rfl
@[go_sem] theorem fn63 : Tryd.f63.ntmps = 9 := by kernel_rfl
@[go_sem] theorem fr66 : Tryd.f66.results.toList = [.tmp 2] := by kernel_rfl
@[go_sem] theorem fn66 : Tryd.f66.ntmps = 44 := by kernel_rfl
end Go.Proofs.YtiejomgbfpffoaaDoor
