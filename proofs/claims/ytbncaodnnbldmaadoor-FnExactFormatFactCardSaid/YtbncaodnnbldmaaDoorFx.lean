import Derived.Test.YtbncaodnnbldmaaDoorP1
import Derived.Test.YtbncaodnnbldmaaDoorA5
import Derived.Test.YtbncaodnnbldmaaDoorProg
import Derived.KernelRfl
namespace Go.Proofs.YtbncaodnnbldmaaDoor
open Go.Abs
theorem mixed : Tryd.prog.follows .mixedOrders = true := by kernel_rfl
@[go_sem] theorem ty3_a : tAgg Tryd.prog 3 = some false := by kernel_rfl
@[go_sem] theorem ty3_s : tSize Tryd.prog 3 = some 1 := by kernel_rfl
@[go_sem] theorem ty3_n : tInt Tryd.prog 3 = some Go.IntKind.i64 := by kernel_rfl
@[go_sem] theorem ty3_u : (Tryd.prog.underlying 3).isSome = true := by kernel_rfl
@[go_sem] theorem ty9_a : tAgg Tryd.prog 9 = some false := by kernel_rfl
@[go_sem] theorem ty9_s : tSize Tryd.prog 9 = some 1 := by kernel_rfl
@[go_sem] theorem ty9_t : tIsStr Tryd.prog 9 = true := by kernel_rfl
@[go_sem] theorem ty9_i : tIsSlice Tryd.prog 9 = false := by kernel_rfl
@[go_sem] theorem ty9_u : (Tryd.prog.underlying 9).isSome = true := by kernel_rfl
@[go_sem] theorem ty22_a : tAgg Tryd.prog 22 = some false := by kernel_rfl
@[go_sem] theorem ty22_s : tSize Tryd.prog 22 = some 1 := by kernel_rfl
@[go_sem] theorem ty22_i : tIsSlice Tryd.prog 22 = true := by kernel_rfl
@[go_sem] theorem ty22_e : tElem Tryd.prog 22 = some 55 := by kernel_rfl
@[go_sem] theorem ty28_a : tAgg Tryd.prog 28 = some false := by kernel_rfl
@[go_sem] theorem ty28_s : tSize Tryd.prog 28 = some 1 := by kernel_rfl
@[go_sem] theorem ty28_i : tIsSlice Tryd.prog 28 = true := by kernel_rfl
@[go_sem] theorem ty28_e : tElem Tryd.prog 28 = some 60 := by kernel_rfl
@[go_sem] theorem ty28_l : tSlice Tryd.prog 28 = some (60, 4, 56) := by kernel_rfl
@[go_sem] theorem ty29_a : tAgg Tryd.prog 29 = some false := by kernel_rfl
@[go_sem] theorem ty29_s : tSize Tryd.prog 29 = some 1 := by kernel_rfl
@[go_sem] theorem ty29_i : tIsSlice Tryd.prog 29 = true := by kernel_rfl
@[go_sem] theorem ty29_e : tElem Tryd.prog 29 = some 31 := by kernel_rfl
@[go_sem] theorem ty31_a : tAgg Tryd.prog 31 = some true := by kernel_rfl
@[go_sem] theorem ty31_s : tSize Tryd.prog 31 = some 4 := by kernel_rfl
@[go_sem] theorem ty31_f0 : tField Tryd.prog 31 0 = some (0, 3) := by kernel_rfl
@[go_sem] theorem ty31_f1 : tField Tryd.prog 31 1 = some (1, 9) := by kernel_rfl
@[go_sem] theorem ty31_f2 : tField Tryd.prog 31 2 = some (2, 28) := by kernel_rfl
@[go_sem] theorem ty31_f3 : tField Tryd.prog 31 3 = some (3, 29) := by kernel_rfl
@[go_sem] theorem ty55_a : tAgg Tryd.prog 55 = some true := by kernel_rfl
@[go_sem] theorem ty55_s : tSize Tryd.prog 55 = some 4 := by kernel_rfl
@[go_sem] theorem ty55_f0 : tField Tryd.prog 55 0 = some (0, 3) := by kernel_rfl
@[go_sem] theorem ty55_f1 : tField Tryd.prog 55 1 = some (1, 3) := by kernel_rfl
@[go_sem] theorem ty55_f2 : tField Tryd.prog 55 2 = some (2, 9) := by kernel_rfl
@[go_sem] theorem ty55_f3 : tField Tryd.prog 55 3 = some (3, 22) := by kernel_rfl
@[go_sem] theorem ty60_a : tAgg Tryd.prog 60 = some true := by kernel_rfl
@[go_sem] theorem ty60_s : tSize Tryd.prog 60 = some 4 := by kernel_rfl
@[go_sem] theorem ty60_f0 : tField Tryd.prog 60 0 = some (0, 3) := by kernel_rfl
@[go_sem] theorem ty60_f1 : tField Tryd.prog 60 1 = some (1, 3) := by kernel_rfl
@[go_sem] theorem ty60_f2 : tField Tryd.prog 60 2 = some (2, 9) := by kernel_rfl
@[go_sem] theorem ty60_f3 : tField Tryd.prog 60 3 = some (3, 28) := by kernel_rfl
@[go_sem] theorem tz31 : tZero Tryd.prog 31 = some [.int .i64 0, .string ⟨#[]⟩, .slice none 0 0, .slice none 0 0] := by kernel_rfl
@[go_sem] theorem go6 : isGo Tryd.prog 6 = true := by kernel_rfl
@[go_sem] theorem ty36_a : tAgg Tryd.prog 36 = some true := by kernel_rfl
@[go_sem] theorem ty36_s : tSize Tryd.prog 36 = some 2 := by kernel_rfl
@[go_sem] theorem ty36_f0 : tField Tryd.prog 36 0 = some (0, 9) := by kernel_rfl
@[go_sem] theorem ty36_f1 : tField Tryd.prog 36 1 = some (1, 22) := by kernel_rfl
@[go_sem] theorem ty40_a : tAgg Tryd.prog 40 = some true := by kernel_rfl
@[go_sem] theorem ty40_s : tSize Tryd.prog 40 = some 2 := by kernel_rfl
@[go_sem] theorem ty40_f0 : tField Tryd.prog 40 0 = some (0, 9) := by kernel_rfl
@[go_sem] theorem ty40_f1 : tField Tryd.prog 40 1 = some (1, 28) := by kernel_rfl
@[go_sem] theorem tz40 : tZero Tryd.prog 40 = some [.string ⟨#[]⟩, .slice none 0 0] := by kernel_rfl
@[go_sem] theorem go10 : isGo Tryd.prog 10 = true := by kernel_rfl
@[go_sem] theorem go11 : isGo Tryd.prog 11 = true := by kernel_rfl
@[go_sem] theorem go12 : isGo Tryd.prog 12 = true := by kernel_rfl
@[go_sem] theorem go13 : isGo Tryd.prog 13 = true := by kernel_rfl
@[go_sem] theorem go14 : isGo Tryd.prog 14 = true := by kernel_rfl
@[go_sem] theorem fr4 : Tryd.f4.results.toList = [.tmp 2] := by kernel_rfl
@[go_sem] theorem fn4 : Tryd.f4.ntmps = 27 := by kernel_rfl
@[go_sem] theorem go15 : isGo Tryd.prog 15 = true := by kernel_rfl
@[go_sem] theorem go17 : isGo Tryd.prog 17 = true := by kernel_rfl
@[go_sem] theorem go18 : isGo Tryd.prog 18 = true := by kernel_rfl
@[go_sem] theorem fr6 : Tryd.f6.results.toList = [.tmp 2] := by kernel_rfl
@[go_sem] theorem fn6 : Tryd.f6.ntmps = 8 := by kernel_rfl
@[go_sem] theorem go19 : isGo Tryd.prog 19 = true := by kernel_rfl
@[go_sem] theorem go21 : isGo Tryd.prog 21 = true := by kernel_rfl
@[go_sem] theorem go22 : isGo Tryd.prog 22 = true := by kernel_rfl
@[go_sem] theorem go23 : isGo Tryd.prog 23 = true := by kernel_rfl
@[go_sem] theorem fr10 : Tryd.f10.results.toList = [.tmp 4] := by kernel_rfl
@[go_sem] theorem fn10 : Tryd.f10.ntmps = 19 := by kernel_rfl
@[go_sem] theorem ty51_i : tIsSlice Tryd.prog 51 = true := by kernel_rfl
@[go_sem] theorem ty51_e : tElem Tryd.prog 51 = some 3 := by kernel_rfl
@[go_sem] theorem ty51_l : tSlice Tryd.prog 51 = some (3, 1, 8) := by kernel_rfl
@[go_sem] theorem ty51_u : (Tryd.prog.underlying 51).isSome = true := by kernel_rfl
@[go_sem] theorem tb31 : tBuild Tryd.prog 31 = some ([.int .i64 0, .string ⟨#[]⟩, .slice none 0 0, .slice none 0 0], [(0, 1), (1, 1), (2, 1), (3, 1)]) := by kernel_rfl
@[go_sem] theorem go25 : isGo Tryd.prog 25 = true := by kernel_rfl
@[go_sem] theorem fr11 : Tryd.f11.results.toList = [.tmp 2] := by kernel_rfl
@[go_sem] theorem fn11 : Tryd.f11.ntmps = 15 := by kernel_rfl
@[go_sem] theorem fr12 : Tryd.f12.results.toList = [.cell 2 40] := by kernel_rfl
@[go_sem] theorem fn12 : Tryd.f12.ntmps = 12 := by kernel_rfl
@[go_sem] theorem go26 : isGo Tryd.prog 26 = true := by kernel_rfl
@[go_sem] theorem fr13 : Tryd.f13.results.toList = [.tmp 2] := by kernel_rfl
@[go_sem] theorem fn13 : Tryd.f13.ntmps = 20 := by kernel_rfl
@[go_sem] theorem fr14 : Tryd.f14.results.toList = [.tmp 4] := by kernel_rfl
@[go_sem] theorem fn14 : Tryd.f14.ntmps = 16 := by kernel_rfl
@[go_sem] theorem go27 : isGo Tryd.prog 27 = true := by kernel_rfl
@[go_sem] theorem fr15 : Tryd.f15.results.toList = [.tmp 4] := by kernel_rfl
@[go_sem] theorem fn15 : Tryd.f15.ntmps = 27 := by kernel_rfl
@[go_sem] theorem go28 : isGo Tryd.prog 28 = true := by kernel_rfl
@[go_sem] theorem go29 : isGo Tryd.prog 29 = true := by kernel_rfl
@[go_sem] theorem fr17 : Tryd.f17.results.toList = [.tmp 2] := by kernel_rfl
@[go_sem] theorem fn17 : Tryd.f17.ntmps = 10 := by kernel_rfl
@[go_sem] theorem ty57_i : tIsSlice Tryd.prog 57 = true := by kernel_rfl
@[go_sem] theorem ty57_e : tElem Tryd.prog 57 = some 9 := by kernel_rfl
@[go_sem] theorem ty57_l : tSlice Tryd.prog 57 = some (9, 1, 16) := by kernel_rfl
@[go_sem] theorem ty57_u : (Tryd.prog.underlying 57).isSome = true := by kernel_rfl
@[go_sem] theorem tz60 : tZero Tryd.prog 60 = some [.int .i64 0, .int .i64 0, .string ⟨#[]⟩, .slice none 0 0] := by kernel_rfl
@[go_sem] theorem go30 : isGo Tryd.prog 30 = true := by kernel_rfl
@[go_sem] theorem go31 : isGo Tryd.prog 31 = true := by kernel_rfl
@[go_sem] theorem go32 : isGo Tryd.prog 32 = true := by kernel_rfl
@[go_sem] theorem fr18 : Tryd.f18.results.toList = [.tmp 2] := by kernel_rfl
@[go_sem] theorem fn18 : Tryd.f18.ntmps = 53 := by kernel_rfl
@[go_sem] theorem go33 : isGo Tryd.prog 33 = true := by kernel_rfl
@[go_sem] theorem fr19 : Tryd.f19.results.toList = [.tmp 2] := by kernel_rfl
@[go_sem] theorem fn19 : Tryd.f19.ntmps = 23 := by kernel_rfl
@[go_sem] theorem go34 : isGo Tryd.prog 34 = true := by kernel_rfl
@[go_sem] theorem fr21 : Tryd.f21.results.toList = [.tmp 2] := by kernel_rfl
@[go_sem] theorem fn21 : Tryd.f21.ntmps = 6 := by kernel_rfl
@[go_sem] theorem ty64_m : tMap Tryd.prog 64 = some (false, .str []) := by kernel_rfl
@[go_sem] theorem go35 : isGo Tryd.prog 35 = true := by kernel_rfl
@[go_sem] theorem go36 : isGo Tryd.prog 36 = true := by kernel_rfl
@[go_sem] theorem fr22 : Tryd.f22.results.toList = [.tmp 2] := by kernel_rfl
@[go_sem] theorem fn22 : Tryd.f22.ntmps = 56 := by kernel_rfl
@[go_sem] theorem go37 : isGo Tryd.prog 37 = true := by kernel_rfl
@[go_sem] theorem fr23 : Tryd.f23.results.toList = [.tmp 4] := by kernel_rfl
@[go_sem] theorem fn23 : Tryd.f23.ntmps = 27 := by kernel_rfl
@[go_sem] theorem go38 : isGo Tryd.prog 38 = true := by kernel_rfl
@[go_sem] theorem fr25 : Tryd.f25.results.toList = [.tmp 2] := by kernel_rfl
@[go_sem] theorem fn25 : Tryd.f25.ntmps = 8 := by kernel_rfl
@[go_sem] theorem ty67_a : tAgg Tryd.prog 67 = some false := by kernel_rfl
@[go_sem] theorem ty67_s : tSize Tryd.prog 67 = some 1 := by kernel_rfl
@[go_sem] theorem ty67_im : tIsMap Tryd.prog 67 = true := by kernel_rfl
@[go_sem] theorem ty67_m : tMap Tryd.prog 67 = some (false, .bool false) := by kernel_rfl
@[go_sem] theorem tz67 : tZero Tryd.prog 67 = some [.map none] := by kernel_rfl
@[go_sem] theorem go39 : isGo Tryd.prog 39 = true := by kernel_rfl
@[go_sem] theorem go43 : isGo Tryd.prog 43 = true := by kernel_rfl
@[go_sem] theorem fr26 : Tryd.f26.results.toList = [.tmp 2] := by kernel_rfl
@[go_sem] theorem fn26 : Tryd.f26.ntmps = 10 := by kernel_rfl
@[go_sem] theorem fr27 : Tryd.f27.results.toList = [.tmp 4] := by kernel_rfl
@[go_sem] theorem fn27 : Tryd.f27.ntmps = 19 := by kernel_rfl
@[go_sem] theorem fr28 : Tryd.f28.results.toList = [.tmp 4] := by kernel_rfl
@[go_sem] theorem fn28 : Tryd.f28.ntmps = 28 := by kernel_rfl
@[go_sem] theorem go44 : isGo Tryd.prog 44 = true := by kernel_rfl
@[go_sem] theorem go45 : isGo Tryd.prog 45 = true := by kernel_rfl
@[go_sem] theorem go46 : isGo Tryd.prog 46 = true := by kernel_rfl
@[go_sem] theorem fr29 : Tryd.f29.results.toList = [.tmp 2] := by kernel_rfl
@[go_sem] theorem fn29 : Tryd.f29.ntmps = 106 := by kernel_rfl
@[go_sem] theorem fr30 : Tryd.f30.results.toList = [.tmp 0] := by kernel_rfl
@[go_sem] theorem fn30 : Tryd.f30.ntmps = 2 := by kernel_rfl
@[go_sem] theorem go47 : isGo Tryd.prog 47 = true := by kernel_rfl
@[go_sem] theorem fr31 : Tryd.f31.results.toList = [.tmp 2] := by kernel_rfl
@[go_sem] theorem fn31 : Tryd.f31.ntmps = 58 := by kernel_rfl
@[go_sem] theorem fr32 : Tryd.f32.results.toList = [.tmp 4] := by kernel_rfl
@[go_sem] theorem fn32 : Tryd.f32.ntmps = 25 := by kernel_rfl
@[go_sem] theorem fr33 : Tryd.f33.results.toList = [.cell 2 60] := by kernel_rfl
@[go_sem] theorem fn33 : Tryd.f33.ntmps = 18 := by kernel_rfl
@[go_sem] theorem ty77_m : tMap Tryd.prog 77 = some (false, .int .i64 0) := by kernel_rfl
@[go_sem] theorem go48 : isGo Tryd.prog 48 = true := by kernel_rfl
@[go_sem] theorem go49 : isGo Tryd.prog 49 = true := by kernel_rfl
@[go_sem] theorem fr34 : Tryd.f34.results.toList = [.tmp 4] := by kernel_rfl
@[go_sem] theorem fn34 : Tryd.f34.ntmps = 142 := by kernel_rfl
@[go_sem] theorem ty5_n : tInt Tryd.prog 5 = some Go.IntKind.u8 := by kernel_rfl
@[go_sem] theorem ty5_u : (Tryd.prog.underlying 5).isSome = true := by kernel_rfl
@[go_sem] theorem ty80_l : tSlice Tryd.prog 80 = some (5, 1, 1) := by kernel_rfl
@[go_sem] theorem ty80_b : tIsBytes Tryd.prog 80 = true := by kernel_rfl
@[go_sem] theorem tb82 : tBuild Tryd.prog 82 = some ([.pointer none, .slice none 0 0], [(0, 1), (1, 1)]) := by kernel_rfl
@[go_sem] theorem go50 : isGo Tryd.prog 50 = true := by kernel_rfl
@[go_sem] theorem go51 : isGo Tryd.prog 51 = true := by kernel_rfl
@[go_sem] theorem go52 : isGo Tryd.prog 52 = true := by kernel_rfl
@[go_sem] theorem fr35 : Tryd.f35.results.toList = [.tmp 2] := by kernel_rfl
@[go_sem] theorem fn35 : Tryd.f35.ntmps = 14 := by kernel_rfl
@[go_sem] theorem fr36 : Tryd.f36.results.toList = [.tmp 4] := by kernel_rfl
@[go_sem] theorem fn36 : Tryd.f36.ntmps = 27 := by kernel_rfl
@[go_sem] theorem fr37 : Tryd.f37.results.toList = [.tmp 4] := by kernel_rfl
@[go_sem] theorem fn37 : Tryd.f37.ntmps = 26 := by kernel_rfl
@[go_sem] theorem go53 : isGo Tryd.prog 53 = true := by kernel_rfl
@[go_sem] theorem fr38 : Tryd.f38.results.toList = [.tmp 4] := by kernel_rfl
@[go_sem] theorem fn38 : Tryd.f38.ntmps = 32 := by kernel_rfl
@[go_sem] theorem fr39 : Tryd.f39.results.toList = [] := by kernel_rfl
@[go_sem] theorem fn39 : Tryd.f39.ntmps = 20 := by kernel_rfl
@[go_sem] theorem go41 : isGo Tryd.prog 41 = true := by kernel_rfl
@[go_sem] theorem fr40 : Tryd.f40.results.toList = [] := by kernel_rfl
@[go_sem] theorem fn40 : Tryd.f40.ntmps = 16 := by kernel_rfl
@[go_sem] theorem fr41 : Tryd.f41.results.toList = [] := by kernel_rfl
@[go_sem] theorem fn41 : Tryd.f41.ntmps = 26 := by kernel_rfl
@[go_sem] theorem fr42 : Tryd.f42.results.toList = [] := by kernel_rfl
@[go_sem] theorem fn42 : Tryd.f42.ntmps = 5 := by kernel_rfl
@[go_sem] theorem go54 : isGo Tryd.prog 54 = true := by kernel_rfl
@[go_sem] theorem fr43 : Tryd.f43.results.toList = [.tmp 2] := by kernel_rfl
@[go_sem] theorem fn43 : Tryd.f43.ntmps = 19 := by kernel_rfl
@[go_sem] theorem fr44 : Tryd.f44.results.toList = [.tmp 6] := by kernel_rfl
@[go_sem] theorem fn44 : Tryd.f44.ntmps = 15 := by kernel_rfl
@[go_sem] theorem go55 : isGo Tryd.prog 55 = true := by kernel_rfl
@[go_sem] theorem fr45 : Tryd.f45.results.toList = [.tmp 2] := by kernel_rfl
@[go_sem] theorem fn45 : Tryd.f45.ntmps = 15 := by kernel_rfl
@[go_sem] theorem go56 : isGo Tryd.prog 56 = true := by kernel_rfl
@[go_sem] theorem fr46 : Tryd.f46.results.toList = [.tmp 2] := by kernel_rfl
@[go_sem] theorem fn46 : Tryd.f46.ntmps = 17 := by kernel_rfl
@[go_sem] theorem fr47 : Tryd.f47.results.toList = [.tmp 2] := by kernel_rfl
@[go_sem] theorem fn47 : Tryd.f47.ntmps = 44 := by kernel_rfl
@[go_sem] theorem fr48 : Tryd.f48.results.toList = [.tmp 2] := by kernel_rfl
@[go_sem] theorem fn48 : Tryd.f48.ntmps = 15 := by kernel_rfl
@[go_sem] theorem go57 : isGo Tryd.prog 57 = true := by kernel_rfl
@[go_sem] theorem fr49 : Tryd.f49.results.toList = [.tmp 2] := by kernel_rfl
@[go_sem] theorem fn49 : Tryd.f49.ntmps = 16 := by kernel_rfl
@[go_sem] theorem go58 : isGo Tryd.prog 58 = true := by kernel_rfl
@[go_sem] theorem fr50 : Tryd.f50.results.toList = [.tmp 2] := by kernel_rfl
@[go_sem] theorem fn50 : Tryd.f50.ntmps = 6 := by kernel_rfl
@[go_sem] theorem go59 : isGo Tryd.prog 59 = true := by kernel_rfl
@[go_sem] theorem go60 : isGo Tryd.prog 60 = true := by kernel_rfl
@[go_sem] theorem fr51 : Tryd.f51.results.toList = [] := by kernel_rfl
@[go_sem] theorem fn51 : Tryd.f51.ntmps = 70 := by kernel_rfl
@[go_sem] theorem go61 : isGo Tryd.prog 61 = true := by kernel_rfl
@[go_sem] theorem fr53 : Tryd.f53.results.toList = [.tmp 4] := by kernel_rfl
@[go_sem] theorem fn53 : Tryd.f53.ntmps = 26 := by kernel_rfl
@[go_sem] theorem go63 : isGo Tryd.prog 63 = true := by kernel_rfl
@[go_sem] theorem go64 : isGo Tryd.prog 64 = true := by kernel_rfl
@[go_sem] theorem fr55 : Tryd.f55.results.toList = [.tmp 2] := by kernel_rfl
@[go_sem] theorem fn55 : Tryd.f55.ntmps = 10 := by kernel_rfl
@[go_sem] theorem fr56 : Tryd.f56.results.toList = [.tmp 2] := by kernel_rfl
@[go_sem] theorem fn56 : Tryd.f56.ntmps = 44 := by kernel_rfl
@[go_sem] theorem fr57 : Tryd.f57.results.toList = [.tmp 2] := by kernel_rfl
@[go_sem] theorem fn57 : Tryd.f57.ntmps = 57 := by kernel_rfl
@[go_sem] theorem fr58 : Tryd.f58.results.toList = [.tmp 4] := by kernel_rfl
@[go_sem] theorem fn58 : Tryd.f58.ntmps = 107 := by kernel_rfl
@[go_sem] theorem go66 : isGo Tryd.prog 66 = true := by kernel_rfl
@[go_sem] theorem fr60 : Tryd.f60.results.toList = [.tmp 2] := by kernel_rfl
@[go_sem] theorem fn60 : Tryd.f60.ntmps = 5 := by kernel_rfl
@[go_sem] theorem fr61 : Tryd.f61.results.toList = [.tmp 4] := by kernel_rfl
@[go_sem] theorem fn61 : Tryd.f61.ntmps = 49 := by kernel_rfl
@[go_sem] theorem fr63 : Tryd.f63.results.toList = [.tmp 4] := by kernel_rfl
@[go_sem] theorem fn63 : Tryd.f63.ntmps = 28 := by kernel_rfl
@[go_sem] theorem fr64 : Tryd.f64.results.toList = [.tmp 2] := by kernel_rfl
@[go_sem] theorem fn64 : Tryd.f64.ntmps = 76 := by kernel_rfl
end Go.Proofs.YtbncaodnnbldmaaDoor
