import Derived.Test.YtccphilpfmfagaaDoorP1
import Derived.Test.YtccphilpfmfagaaDoorA5
import Derived.Test.YtccphilpfmfagaaDoorProg
import Derived.KernelRfl
namespace Go.Proofs.YtccphilpfmfagaaDoor
open Go.Abs
theorem mixed : Tryd.prog.follows .mixedOrders = true := by kernel_rfl
@[go_sem] theorem ty3_a : tAgg Tryd.prog 3 = some false := by kernel_rfl
@[go_sem] theorem ty3_s : tSize Tryd.prog 3 = some 1 := by kernel_rfl
@[go_sem] theorem ty3_n : tInt Tryd.prog 3 = some Go.IntKind.i64 := by kernel_rfl
@[go_sem] theorem ty5_a : tAgg Tryd.prog 5 = some false := by kernel_rfl
@[go_sem] theorem ty5_s : tSize Tryd.prog 5 = some 1 := by kernel_rfl
@[go_sem] theorem ty5_u : (Tryd.prog.underlying 5).isSome = true := by kernel_rfl
@[go_sem] theorem ty9_a : tAgg Tryd.prog 9 = some false := by kernel_rfl
@[go_sem] theorem ty9_s : tSize Tryd.prog 9 = some 1 := by kernel_rfl
@[go_sem] theorem ty9_t : tIsStr Tryd.prog 9 = true := by kernel_rfl
@[go_sem] theorem ty9_i : tIsSlice Tryd.prog 9 = false := by kernel_rfl
@[go_sem] theorem ty9_u : (Tryd.prog.underlying 9).isSome = true := by kernel_rfl
@[go_sem] theorem ty22_a : tAgg Tryd.prog 22 = some false := by kernel_rfl
@[go_sem] theorem ty22_s : tSize Tryd.prog 22 = some 1 := by kernel_rfl
@[go_sem] theorem ty22_i : tIsSlice Tryd.prog 22 = true := by kernel_rfl
@[go_sem] theorem ty22_e : tElem Tryd.prog 22 = some 5 := by kernel_rfl
@[go_sem] theorem ty22_l : tSlice Tryd.prog 22 = some (5, 1, 1) := by kernel_rfl
@[go_sem] theorem ty22_b : tIsBytes Tryd.prog 22 = true := by kernel_rfl
@[go_sem] theorem ty23_a : tAgg Tryd.prog 23 = some false := by kernel_rfl
@[go_sem] theorem ty23_s : tSize Tryd.prog 23 = some 1 := by kernel_rfl
@[go_sem] theorem ty23_i : tIsSlice Tryd.prog 23 = true := by kernel_rfl
@[go_sem] theorem ty23_e : tElem Tryd.prog 23 = some 26 := by kernel_rfl
@[go_sem] theorem ty23_l : tSlice Tryd.prog 23 = some (26, 4, 56) := by kernel_rfl
@[go_sem] theorem ty23_u : (Tryd.prog.underlying 23).isSome = true := by kernel_rfl
@[go_sem] theorem ty26_a : tAgg Tryd.prog 26 = some true := by kernel_rfl
@[go_sem] theorem ty26_s : tSize Tryd.prog 26 = some 4 := by kernel_rfl
@[go_sem] theorem ty26_f0 : tField Tryd.prog 26 0 = some (0, 3) := by kernel_rfl
@[go_sem] theorem ty26_f1 : tField Tryd.prog 26 1 = some (1, 3) := by kernel_rfl
@[go_sem] theorem ty26_f2 : tField Tryd.prog 26 2 = some (2, 9) := by kernel_rfl
@[go_sem] theorem ty26_f3 : tField Tryd.prog 26 3 = some (3, 23) := by kernel_rfl
@[go_sem] theorem tz26 : tZero Tryd.prog 26 = some [.int .i64 0, .int .i64 0, .string ⟨#[]⟩, .slice none 0 0] := by kernel_rfl
@[go_sem] theorem go6 : isGo Tryd.prog 6 = true := by kernel_rfl
@[go_sem] theorem go7 : isGo Tryd.prog 7 = true := by kernel_rfl
@[go_sem] theorem go8 : isGo Tryd.prog 8 = true := by kernel_rfl
@[go_sem] theorem go9 : isGo Tryd.prog 9 = true := by kernel_rfl
@[go_sem] theorem go10 : isGo Tryd.prog 10 = true := by kernel_rfl
@[go_sem] theorem go11 : isGo Tryd.prog 11 = true := by kernel_rfl
@[go_sem] theorem go12 : isGo Tryd.prog 12 = true := by kernel_rfl
@[go_sem] theorem fr3 : Tryd.f3.results.toList = [.tmp 2] := by kernel_rfl
@[go_sem] theorem fn3 : Tryd.f3.ntmps = 65 := by kernel_rfl
@[go_sem] theorem go22 : isGo Tryd.prog 22 = true := by kernel_rfl
@[go_sem] theorem go23 : isGo Tryd.prog 23 = true := by kernel_rfl
@[go_sem] theorem fr6 : Tryd.f6.results.toList = [.tmp 8] := by kernel_rfl
@[go_sem] theorem fn6 : Tryd.f6.ntmps = 28 := by kernel_rfl
@[go_sem] theorem ty46_a : tAgg Tryd.prog 46 = some false := by kernel_rfl
@[go_sem] theorem ty46_s : tSize Tryd.prog 46 = some 1 := by kernel_rfl
@[go_sem] theorem ty46_i : tIsSlice Tryd.prog 46 = true := by kernel_rfl
@[go_sem] theorem ty46_e : tElem Tryd.prog 46 = some 9 := by kernel_rfl
@[go_sem] theorem ty46_l : tSlice Tryd.prog 46 = some (9, 1, 16) := by kernel_rfl
@[go_sem] theorem ty46_u : (Tryd.prog.underlying 46).isSome = true := by kernel_rfl
@[go_sem] theorem ty51_f0 : tField Tryd.prog 51 0 = some (0, 46) := by kernel_rfl
@[go_sem] theorem ty51_f1 : tField Tryd.prog 51 1 = some (1, 3) := by kernel_rfl
@[go_sem] theorem tb26 : tBuild Tryd.prog 26 = some ([.int .i64 0, .int .i64 0, .string ⟨#[]⟩, .slice none 0 0], [(0, 1), (1, 1), (2, 1), (3, 1)]) := by kernel_rfl
@[go_sem] theorem tb51 : tBuild Tryd.prog 51 = some ([.slice none 0 0, .int .i64 0], [(0, 1), (1, 1)]) := by kernel_rfl
@[go_sem] theorem go24 : isGo Tryd.prog 24 = true := by kernel_rfl
@[go_sem] theorem go25 : isGo Tryd.prog 25 = true := by kernel_rfl
@[go_sem] theorem go26 : isGo Tryd.prog 26 = true := by kernel_rfl
@[go_sem] theorem fr7 : Tryd.f7.results.toList = [.cell 2 26, .tmp 3] := by kernel_rfl
@[go_sem] theorem fn7 : Tryd.f7.ntmps = 33 := by kernel_rfl
@[go_sem] theorem tb57 : tBuild Tryd.prog 57 = some ([.pointer none, .slice none 0 0], [(0, 1), (1, 1)]) := by kernel_rfl
@[go_sem] theorem go27 : isGo Tryd.prog 27 = true := by kernel_rfl
@[go_sem] theorem go28 : isGo Tryd.prog 28 = true := by kernel_rfl
@[go_sem] theorem go29 : isGo Tryd.prog 29 = true := by kernel_rfl
@[go_sem] theorem fr8 : Tryd.f8.results.toList = [.tmp 2] := by kernel_rfl
@[go_sem] theorem fn8 : Tryd.f8.ntmps = 14 := by kernel_rfl
@[go_sem] theorem fr9 : Tryd.f9.results.toList = [.tmp 2, .tmp 3] := by kernel_rfl
@[go_sem] theorem fn9 : Tryd.f9.ntmps = 41 := by kernel_rfl
@[go_sem] theorem go30 : isGo Tryd.prog 30 = true := by kernel_rfl
@[go_sem] theorem go31 : isGo Tryd.prog 31 = true := by kernel_rfl
@[go_sem] theorem fr10 : Tryd.f10.results.toList = [.tmp 2] := by kernel_rfl
@[go_sem] theorem fn10 : Tryd.f10.ntmps = 29 := by kernel_rfl
@[go_sem] theorem fr11 : Tryd.f11.results.toList = [.tmp 4] := by kernel_rfl
@[go_sem] theorem fn11 : Tryd.f11.ntmps = 52 := by kernel_rfl
@[go_sem] theorem fr12 : Tryd.f12.results.toList = [.tmp 4] := by kernel_rfl
@[go_sem] theorem fn12 : Tryd.f12.ntmps = 27 := by kernel_rfl
@[go_sem] theorem go42 : isGo Tryd.prog 42 = true := by kernel_rfl
@[go_sem] theorem go43 : isGo Tryd.prog 43 = true := by kernel_rfl
@[go_sem] theorem fr22 : Tryd.f22.results.toList = [.tmp 4] := by kernel_rfl
@[go_sem] theorem fn22 : Tryd.f22.ntmps = 17 := by kernel_rfl
@[go_sem] theorem go44 : isGo Tryd.prog 44 = true := by kernel_rfl
@[go_sem] theorem go45 : isGo Tryd.prog 45 = true := by kernel_rfl
@[go_sem] theorem go46 : isGo Tryd.prog 46 = true := by kernel_rfl
@[go_sem] theorem go47 : isGo Tryd.prog 47 = true := by kernel_rfl
@[go_sem] theorem fr23 : Tryd.f23.results.toList = [.cell 6 26] := by kernel_rfl
@[go_sem] theorem fn23 : Tryd.f23.ntmps = 42 := by kernel_rfl
@[go_sem] theorem fr24 : Tryd.f24.results.toList = [.tmp 2, .tmp 3] := by kernel_rfl
@[go_sem] theorem fn24 : Tryd.f24.ntmps = 132 := by kernel_rfl
@[go_sem] theorem go48 : isGo Tryd.prog 48 = true := by kernel_rfl
@[go_sem] theorem fr25 : Tryd.f25.results.toList = [.cell 2 26, .tmp 3] := by kernel_rfl
@[go_sem] theorem fn25 : Tryd.f25.ntmps = 20 := by kernel_rfl
@[go_sem] theorem fr26 : Tryd.f26.results.toList = [.tmp 2] := by kernel_rfl
@[go_sem] theorem fn26 : Tryd.f26.ntmps = 13 := by kernel_rfl
@[go_sem] theorem go49 : isGo Tryd.prog 49 = true := by kernel_rfl
@[go_sem] theorem fr27 : Tryd.f27.results.toList = [.tmp 2] := by kernel_rfl
@[go_sem] theorem fn27 : Tryd.f27.ntmps = 6 := by kernel_rfl
@[go_sem] theorem go50 : isGo Tryd.prog 50 = true := by kernel_rfl
@[go_sem] theorem go51 : isGo Tryd.prog 51 = true := by kernel_rfl
@[go_sem] theorem fr28 : Tryd.f28.results.toList = [] := by kernel_rfl
@[go_sem] theorem fn28 : Tryd.f28.ntmps = 70 := by kernel_rfl
@[go_sem] theorem fr30 : Tryd.f30.results.toList = [.tmp 2] := by kernel_rfl
@[go_sem] theorem fn30 : Tryd.f30.ntmps = 15 := by kernel_rfl
@[go_sem] theorem fr31 : Tryd.f31.results.toList = [.tmp 4] := by kernel_rfl
@[go_sem] theorem fn31 : Tryd.f31.ntmps = 27 := by kernel_rfl
@[go_sem] theorem ty90_f0 : tField Tryd.prog 90 0 = some (0, 22) := by kernel_rfl
@[go_sem] theorem ty90_f1 : tField Tryd.prog 90 1 = some (1, 3) := by kernel_rfl
@[go_sem] theorem ty90_f2 : tField Tryd.prog 90 2 = some (2, 3) := by kernel_rfl
@[go_sem] theorem tb90 : tBuild Tryd.prog 90 = some ([.slice none 0 0, .int .i64 0, .int .i64 0], [(0, 1), (1, 1), (2, 1)]) := by kernel_rfl
@[go_sem] theorem fr42 : Tryd.f42.results.toList = [.tmp 2] := by kernel_rfl
@[go_sem] theorem fn42 : Tryd.f42.ntmps = 32 := by kernel_rfl
@[go_sem] theorem fr43 : Tryd.f43.results.toList = [.tmp 2] := by kernel_rfl
@[go_sem] theorem fn43 : Tryd.f43.ntmps = 58 := by kernel_rfl
@[go_sem] theorem fr44 : Tryd.f44.results.toList = [.tmp 4] := by kernel_rfl
@[go_sem] theorem fn44 : Tryd.f44.ntmps = 11 := by kernel_rfl
@[go_sem] theorem fr45 : Tryd.f45.results.toList = [.cell 4 26] := by kernel_rfl
@[go_sem] theorem fn45 : Tryd.f45.ntmps = 9 := by kernel_rfl
@[go_sem] theorem fr46 : Tryd.f46.results.toList = [.cell 2 26] := by kernel_rfl
@[go_sem] theorem fn46 : Tryd.f46.ntmps = 5 := by kernel_rfl
@[go_sem] theorem go63 : isGo Tryd.prog 63 = true := by kernel_rfl
@[go_sem] theorem go64 : isGo Tryd.prog 64 = true := by kernel_rfl
@[go_sem] theorem fr47 : Tryd.f47.results.toList = [.cell 2 26] := by kernel_rfl
@[go_sem] theorem fn47 : Tryd.f47.ntmps = 19 := by kernel_rfl
@[go_sem] theorem go65 : isGo Tryd.prog 65 = true := by kernel_rfl
@[go_sem] theorem go66 : isGo Tryd.prog 66 = true := by kernel_rfl
@[go_sem] theorem go67 : isGo Tryd.prog 67 = true := by kernel_rfl
@[go_sem] theorem go68 : isGo Tryd.prog 68 = true := by kernel_rfl
@[go_sem] theorem go69 : isGo Tryd.prog 69 = true := by kernel_rfl
@[go_sem] theorem go70 : isGo Tryd.prog 70 = true := by kernel_rfl
@[go_sem] theorem go71 : isGo Tryd.prog 71 = true := by kernel_rfl
@[go_sem] theorem go72 : isGo Tryd.prog 72 = true := by kernel_rfl
@[go_sem] theorem go73 : isGo Tryd.prog 73 = true := by kernel_rfl
@[go_sem] theorem fr48 : Tryd.f48.results.toList = [.cell 2 26, .tmp 3] := by kernel_rfl
@[go_sem] theorem fn48 : Tryd.f48.ntmps = 132 := by kernel_rfl
@[go_sem] theorem fr49 : Tryd.f49.results.toList = [.tmp 4] := by kernel_rfl
@[go_sem] theorem fn49 : Tryd.f49.ntmps = 107 := by kernel_rfl
@[go_sem] theorem go75 : isGo Tryd.prog 75 = true := by kernel_rfl
@[go_sem] theorem fr51 : Tryd.f51.results.toList = [.tmp 2] := by kernel_rfl
@[go_sem] theorem fn51 : Tryd.f51.ntmps = 5 := by kernel_rfl
@[go_sem] theorem fr63 : Tryd.f63.results.toList = [.cell 2 26] := by kernel_rfl
@[go_sem] theorem fn63 : Tryd.f63.ntmps = 5 := by kernel_rfl
@[go_sem] theorem fr64 : Tryd.f64.results.toList = [.cell 2 26] := by kernel_rfl
@[go_sem] theorem fn64 : Tryd.f64.ntmps = 5 := by kernel_rfl
@[go_sem] theorem fr65 : Tryd.f65.results.toList = [.tmp 2] := by kernel_rfl
@[go_sem] theorem fn65 : Tryd.f65.ntmps = 23 := by kernel_rfl
@[go_sem] theorem fr66 : Tryd.f66.results.toList = [.tmp 4] := by kernel_rfl
@[go_sem] theorem fn66 : Tryd.f66.ntmps = 28 := by kernel_rfl
@[go_sem] theorem fr67 : Tryd.f67.results.toList = [.cell 2 26] := by kernel_rfl
@[go_sem] theorem fn67 : Tryd.f67.ntmps = 20 := by kernel_rfl
@[go_sem] theorem fr68 : Tryd.f68.results.toList = [.cell 4 26] := by kernel_rfl
@[go_sem] theorem fn68 : Tryd.f68.ntmps = 9 := by kernel_rfl
@[go_sem] theorem fr70 : Tryd.f70.results.toList = [.cell 2 26] := by kernel_rfl
@[go_sem] theorem fn70 : Tryd.f70.ntmps = 5 := by kernel_rfl
@[go_sem] theorem fr71 : Tryd.f71.results.toList = [.tmp 2] := by kernel_rfl
@[go_sem] theorem fn71 : Tryd.f71.ntmps = 57 := by kernel_rfl
@[go_sem] theorem fr72 : Tryd.f72.results.toList = [.cell 2 26] := by kernel_rfl
@[go_sem] theorem fn72 : Tryd.f72.ntmps = 5 := by kernel_rfl
@[go_sem] theorem fr73 : Tryd.f73.results.toList = [.cell 2 26] := by kernel_rfl
@[go_sem] theorem fn73 : Tryd.f73.ntmps = 5 := by kernel_rfl
end Go.Proofs.YtccphilpfmfagaaDoor
