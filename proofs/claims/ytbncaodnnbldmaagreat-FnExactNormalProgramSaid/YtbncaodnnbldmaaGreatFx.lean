import Derived.Test.YtbncaodnnbldmaaGreatP1
import Derived.Test.YtbncaodnnbldmaaGreatA5
import Derived.Test.YtbncaodnnbldmaaGreatProg
import Derived.KernelRfl
namespace Go.Proofs.YtbncaodnnbldmaaGreat
open Go.Abs
theorem mixed : Tryz.prog.follows .mixedOrders = true := by kernel_rfl
@[go_sem] theorem ty3_a : tAgg Tryz.prog 3 = some false := by kernel_rfl
@[go_sem] theorem ty3_s : tSize Tryz.prog 3 = some 1 := by kernel_rfl
@[go_sem] theorem ty3_n : tInt Tryz.prog 3 = some Go.IntKind.i64 := by kernel_rfl
@[go_sem] theorem ty3_u : (Tryz.prog.underlying 3).isSome = true := by kernel_rfl
@[go_sem] theorem ty4_a : tAgg Tryz.prog 4 = some false := by kernel_rfl
@[go_sem] theorem ty4_s : tSize Tryz.prog 4 = some 1 := by kernel_rfl
@[go_sem] theorem ty4_u : Tryz.prog.underlying 4 = some .bool := by kernel_rfl
@[go_sem] theorem ty9_a : tAgg Tryz.prog 9 = some false := by kernel_rfl
@[go_sem] theorem ty9_s : tSize Tryz.prog 9 = some 1 := by kernel_rfl
@[go_sem] theorem ty9_t : tIsStr Tryz.prog 9 = true := by kernel_rfl
@[go_sem] theorem ty22_a : tAgg Tryz.prog 22 = some false := by kernel_rfl
@[go_sem] theorem ty22_s : tSize Tryz.prog 22 = some 1 := by kernel_rfl
@[go_sem] theorem ty22_i : tIsSlice Tryz.prog 22 = true := by kernel_rfl
@[go_sem] theorem ty22_e : tElem Tryz.prog 22 = some 119 := by kernel_rfl
@[go_sem] theorem ty24_a : tAgg Tryz.prog 24 = some true := by kernel_rfl
@[go_sem] theorem ty24_s : tSize Tryz.prog 24 = some 1 := by kernel_rfl
@[go_sem] theorem ty24_f0 : tField Tryz.prog 24 0 = some (0, 22) := by kernel_rfl
@[go_sem] theorem ty26_a : tAgg Tryz.prog 26 = some false := by kernel_rfl
@[go_sem] theorem ty26_s : tSize Tryz.prog 26 = some 1 := by kernel_rfl
@[go_sem] theorem ty26_i : tIsSlice Tryz.prog 26 = true := by kernel_rfl
@[go_sem] theorem ty26_e : tElem Tryz.prog 26 = some 82 := by kernel_rfl
@[go_sem] theorem ty26_l : tSlice Tryz.prog 26 = some (82, 7, 104) := by kernel_rfl
@[go_sem] theorem ty26_t : tIsStr Tryz.prog 26 = false := by kernel_rfl
@[go_sem] theorem ty26_u : (Tryz.prog.underlying 26).isSome = true := by kernel_rfl
@[go_sem] theorem ty28_a : tAgg Tryz.prog 28 = some true := by kernel_rfl
@[go_sem] theorem ty28_s : tSize Tryz.prog 28 = some 1 := by kernel_rfl
@[go_sem] theorem ty28_f0 : tField Tryz.prog 28 0 = some (0, 26) := by kernel_rfl
@[go_sem] theorem ty35_a : tAgg Tryz.prog 35 = some false := by kernel_rfl
@[go_sem] theorem ty35_s : tSize Tryz.prog 35 = some 1 := by kernel_rfl
@[go_sem] theorem ty35_i : tIsSlice Tryz.prog 35 = true := by kernel_rfl
@[go_sem] theorem ty35_e : tElem Tryz.prog 35 = some 135 := by kernel_rfl
@[go_sem] theorem ty36_a : tAgg Tryz.prog 36 = some false := by kernel_rfl
@[go_sem] theorem ty36_s : tSize Tryz.prog 36 = some 1 := by kernel_rfl
@[go_sem] theorem ty36_i : tIsSlice Tryz.prog 36 = true := by kernel_rfl
@[go_sem] theorem ty36_e : tElem Tryz.prog 36 = some 38 := by kernel_rfl
@[go_sem] theorem ty38_a : tAgg Tryz.prog 38 = some true := by kernel_rfl
@[go_sem] theorem ty38_s : tSize Tryz.prog 38 = some 4 := by kernel_rfl
@[go_sem] theorem ty38_f0 : tField Tryz.prog 38 0 = some (0, 3) := by kernel_rfl
@[go_sem] theorem ty38_f1 : tField Tryz.prog 38 1 = some (1, 9) := by kernel_rfl
@[go_sem] theorem ty38_f2 : tField Tryz.prog 38 2 = some (2, 35) := by kernel_rfl
@[go_sem] theorem ty38_f3 : tField Tryz.prog 38 3 = some (3, 36) := by kernel_rfl
@[go_sem] theorem ty49_a : tAgg Tryz.prog 49 = some false := by kernel_rfl
@[go_sem] theorem ty49_s : tSize Tryz.prog 49 = some 1 := by kernel_rfl
@[go_sem] theorem ty49_i : tIsSlice Tryz.prog 49 = true := by kernel_rfl
@[go_sem] theorem ty49_e : tElem Tryz.prog 49 = some 140 := by kernel_rfl
@[go_sem] theorem ty49_l : tSlice Tryz.prog 49 = some (140, 4, 56) := by kernel_rfl
@[go_sem] theorem ty49_t : tIsStr Tryz.prog 49 = false := by kernel_rfl
@[go_sem] theorem ty49_u : (Tryz.prog.underlying 49).isSome = true := by kernel_rfl
@[go_sem] theorem ty50_a : tAgg Tryz.prog 50 = some false := by kernel_rfl
@[go_sem] theorem ty50_s : tSize Tryz.prog 50 = some 1 := by kernel_rfl
@[go_sem] theorem ty50_i : tIsSlice Tryz.prog 50 = true := by kernel_rfl
@[go_sem] theorem ty50_e : tElem Tryz.prog 50 = some 52 := by kernel_rfl
@[go_sem] theorem ty50_l : tSlice Tryz.prog 50 = some (52, 4, 72) := by kernel_rfl
@[go_sem] theorem ty50_t : tIsStr Tryz.prog 50 = false := by kernel_rfl
@[go_sem] theorem ty50_u : (Tryz.prog.underlying 50).isSome = true := by kernel_rfl
@[go_sem] theorem ty52_a : tAgg Tryz.prog 52 = some true := by kernel_rfl
@[go_sem] theorem ty52_s : tSize Tryz.prog 52 = some 4 := by kernel_rfl
@[go_sem] theorem ty52_f0 : tField Tryz.prog 52 0 = some (0, 3) := by kernel_rfl
@[go_sem] theorem ty52_f1 : tField Tryz.prog 52 1 = some (1, 9) := by kernel_rfl
@[go_sem] theorem ty52_f2 : tField Tryz.prog 52 2 = some (2, 49) := by kernel_rfl
@[go_sem] theorem ty52_f3 : tField Tryz.prog 52 3 = some (3, 50) := by kernel_rfl
@[go_sem] theorem ty82_a : tAgg Tryz.prog 82 = some true := by kernel_rfl
@[go_sem] theorem ty82_s : tSize Tryz.prog 82 = some 7 := by kernel_rfl
@[go_sem] theorem ty82_f0 : tField Tryz.prog 82 0 = some (0, 9) := by kernel_rfl
@[go_sem] theorem ty82_f1 : tField Tryz.prog 82 1 = some (1, 3) := by kernel_rfl
@[go_sem] theorem ty82_f2 : tField Tryz.prog 82 2 = some (2, 3) := by kernel_rfl
@[go_sem] theorem ty82_f3 : tField Tryz.prog 82 3 = some (3, 52) := by kernel_rfl
@[go_sem] theorem ty119_a : tAgg Tryz.prog 119 = some true := by kernel_rfl
@[go_sem] theorem ty119_s : tSize Tryz.prog 119 = some 7 := by kernel_rfl
@[go_sem] theorem ty119_f0 : tField Tryz.prog 119 0 = some (0, 9) := by kernel_rfl
@[go_sem] theorem ty119_f1 : tField Tryz.prog 119 1 = some (1, 3) := by kernel_rfl
@[go_sem] theorem ty119_f2 : tField Tryz.prog 119 2 = some (2, 3) := by kernel_rfl
@[go_sem] theorem ty119_f3 : tField Tryz.prog 119 3 = some (3, 38) := by kernel_rfl
@[go_sem] theorem ty135_a : tAgg Tryz.prog 135 = some true := by kernel_rfl
@[go_sem] theorem ty135_s : tSize Tryz.prog 135 = some 4 := by kernel_rfl
@[go_sem] theorem ty135_f0 : tField Tryz.prog 135 0 = some (0, 3) := by kernel_rfl
@[go_sem] theorem ty135_f1 : tField Tryz.prog 135 1 = some (1, 3) := by kernel_rfl
@[go_sem] theorem ty135_f2 : tField Tryz.prog 135 2 = some (2, 9) := by kernel_rfl
@[go_sem] theorem ty135_f3 : tField Tryz.prog 135 3 = some (3, 35) := by kernel_rfl
@[go_sem] theorem ty140_a : tAgg Tryz.prog 140 = some true := by kernel_rfl
@[go_sem] theorem ty140_s : tSize Tryz.prog 140 = some 4 := by kernel_rfl
@[go_sem] theorem ty140_f0 : tField Tryz.prog 140 0 = some (0, 3) := by kernel_rfl
@[go_sem] theorem ty140_f1 : tField Tryz.prog 140 1 = some (1, 3) := by kernel_rfl
@[go_sem] theorem ty140_f2 : tField Tryz.prog 140 2 = some (2, 9) := by kernel_rfl
@[go_sem] theorem ty140_f3 : tField Tryz.prog 140 3 = some (3, 49) := by kernel_rfl
@[go_sem] theorem tz28 : tZero Tryz.prog 28 = some [.slice none 0 0] := by kernel_rfl
@[go_sem] theorem go6 : isGo Tryz.prog 6 = true := by kernel_rfl
@[go_sem] theorem go7 : isGo Tryz.prog 7 = true := by kernel_rfl
@[go_sem] theorem go8 : isGo Tryz.prog 8 = true := by kernel_rfl
@[go_sem] theorem go9 : isGo Tryz.prog 9 = true := by kernel_rfl
@[go_sem] theorem go10 : isGo Tryz.prog 10 = true := by kernel_rfl
@[go_sem] theorem go11 : isGo Tryz.prog 11 = true := by kernel_rfl
@[go_sem] theorem go12 : isGo Tryz.prog 12 = true := by kernel_rfl
@[go_sem] theorem fr3 : Tryz.f3.results.toList = [.tmp 2] := by kernel_rfl
@[go_sem] theorem fn3 : Tryz.f3.ntmps = 96 := by kernel_rfl
@[go_sem] theorem ty46_i : tIsSlice Tryz.prog 46 = true := by kernel_rfl
@[go_sem] theorem ty46_e : tElem Tryz.prog 46 = some 3 := by kernel_rfl
@[go_sem] theorem ty46_l : tSlice Tryz.prog 46 = some (3, 1, 8) := by kernel_rfl
@[go_sem] theorem ty46_u : (Tryz.prog.underlying 46).isSome = true := by kernel_rfl
@[go_sem] theorem tz52 : tZero Tryz.prog 52 = some [.int .i64 0, .string ⟨#[]⟩, .slice none 0 0, .slice none 0 0] := by kernel_rfl
@[go_sem] theorem go13 : isGo Tryz.prog 13 = true := by kernel_rfl
@[go_sem] theorem go15 : isGo Tryz.prog 15 = true := by kernel_rfl
@[go_sem] theorem go18 : isGo Tryz.prog 18 = true := by kernel_rfl
@[go_sem] theorem go31 : isGo Tryz.prog 31 = true := by kernel_rfl
@[go_sem] theorem fr6 : Tryz.f6.results.toList = [.tmp 4] := by kernel_rfl
@[go_sem] theorem fn6 : Tryz.f6.ntmps = 12 := by kernel_rfl
@[go_sem] theorem ty83_i : tIsSlice Tryz.prog 83 = true := by kernel_rfl
@[go_sem] theorem ty83_e : tElem Tryz.prog 83 = some 50 := by kernel_rfl
@[go_sem] theorem ty83_l : tSlice Tryz.prog 83 = some (50, 1, 24) := by kernel_rfl
@[go_sem] theorem ty83_u : (Tryz.prog.underlying 83).isSome = true := by kernel_rfl
@[go_sem] theorem tz82 : tZero Tryz.prog 82 = some [.string ⟨#[]⟩, .int .i64 0, .int .i64 0, .int .i64 0, .string ⟨#[]⟩, .slice none 0 0, .slice none 0 0] := by kernel_rfl
@[go_sem] theorem tb28 : tBuild Tryz.prog 28 = some ([.slice none 0 0], [(0, 1)]) := by kernel_rfl
@[go_sem] theorem tb82 : tBuild Tryz.prog 82 = some ([.string ⟨#[]⟩, .int .i64 0, .int .i64 0, .int .i64 0, .string ⟨#[]⟩, .slice none 0 0, .slice none 0 0], [(0, 1), (1, 1), (2, 1), (3, 4)]) := by kernel_rfl
@[go_sem] theorem go32 : isGo Tryz.prog 32 = true := by kernel_rfl
@[go_sem] theorem go33 : isGo Tryz.prog 33 = true := by kernel_rfl
@[go_sem] theorem go34 : isGo Tryz.prog 34 = true := by kernel_rfl
@[go_sem] theorem fr7 : Tryz.f7.results.toList = [.cell 2 28, .tmp 3] := by kernel_rfl
@[go_sem] theorem fn7 : Tryz.f7.ntmps = 60 := by kernel_rfl
@[go_sem] theorem go35 : isGo Tryz.prog 35 = true := by kernel_rfl
@[go_sem] theorem fr8 : Tryz.f8.results.toList = [.cell 2 28] := by kernel_rfl
@[go_sem] theorem fn8 : Tryz.f8.ntmps = 9 := by kernel_rfl
@[go_sem] theorem go36 : isGo Tryz.prog 36 = true := by kernel_rfl
@[go_sem] theorem go37 : isGo Tryz.prog 37 = true := by kernel_rfl
@[go_sem] theorem go38 : isGo Tryz.prog 38 = true := by kernel_rfl
@[go_sem] theorem go39 : isGo Tryz.prog 39 = true := by kernel_rfl
@[go_sem] theorem fr9 : Tryz.f9.results.toList = [.cell 2 28, .tmp 3] := by kernel_rfl
@[go_sem] theorem fn9 : Tryz.f9.ntmps = 55 := by kernel_rfl
@[go_sem] theorem go40 : isGo Tryz.prog 40 = true := by kernel_rfl
@[go_sem] theorem fr10 : Tryz.f10.results.toList = [.tmp 4] := by kernel_rfl
@[go_sem] theorem fn10 : Tryz.f10.ntmps = 11 := by kernel_rfl
@[go_sem] theorem go41 : isGo Tryz.prog 41 = true := by kernel_rfl
@[go_sem] theorem fr11 : Tryz.f11.results.toList = [.tmp 4] := by kernel_rfl
@[go_sem] theorem fn11 : Tryz.f11.ntmps = 10 := by kernel_rfl
@[go_sem] theorem go42 : isGo Tryz.prog 42 = true := by kernel_rfl
@[go_sem] theorem fr12 : Tryz.f12.results.toList = [.tmp 4] := by kernel_rfl
@[go_sem] theorem fn12 : Tryz.f12.ntmps = 12 := by kernel_rfl
@[go_sem] theorem go43 : isGo Tryz.prog 43 = true := by kernel_rfl
@[go_sem] theorem go44 : isGo Tryz.prog 44 = true := by kernel_rfl
@[go_sem] theorem fr13 : Tryz.f13.results.toList = [.tmp 4] := by kernel_rfl
@[go_sem] theorem fn13 : Tryz.f13.ntmps = 25 := by kernel_rfl
@[go_sem] theorem go46 : isGo Tryz.prog 46 = true := by kernel_rfl
@[go_sem] theorem go49 : isGo Tryz.prog 49 = true := by kernel_rfl
@[go_sem] theorem go50 : isGo Tryz.prog 50 = true := by kernel_rfl
@[go_sem] theorem go51 : isGo Tryz.prog 51 = true := by kernel_rfl
@[go_sem] theorem fr15 : Tryz.f15.results.toList = [.cell 2 52] := by kernel_rfl
@[go_sem] theorem fn15 : Tryz.f15.ntmps = 19 := by kernel_rfl
@[go_sem] theorem go54 : isGo Tryz.prog 54 = true := by kernel_rfl
@[go_sem] theorem go57 : isGo Tryz.prog 57 = true := by kernel_rfl
@[go_sem] theorem go58 : isGo Tryz.prog 58 = true := by kernel_rfl
@[go_sem] theorem fr18 : Tryz.f18.results.toList = [.tmp 4] := by kernel_rfl
@[go_sem] theorem fn18 : Tryz.f18.ntmps = 27 := by kernel_rfl
@[go_sem] theorem go59 : isGo Tryz.prog 59 = true := by kernel_rfl
@[go_sem] theorem go60 : isGo Tryz.prog 60 = true := by kernel_rfl
@[go_sem] theorem tb52 : tBuild Tryz.prog 52 = some ([.int .i64 0, .string ⟨#[]⟩, .slice none 0 0, .slice none 0 0], [(0, 1), (1, 1), (2, 1), (3, 1)]) := by kernel_rfl
@[go_sem] theorem go74 : isGo Tryz.prog 74 = true := by kernel_rfl
@[go_sem] theorem fr31 : Tryz.f31.results.toList = [.tmp 4] := by kernel_rfl
@[go_sem] theorem fn31 : Tryz.f31.ntmps = 27 := by kernel_rfl
@[go_sem] theorem go75 : isGo Tryz.prog 75 = true := by kernel_rfl
@[go_sem] theorem go76 : isGo Tryz.prog 76 = true := by kernel_rfl
@[go_sem] theorem go77 : isGo Tryz.prog 77 = true := by kernel_rfl
@[go_sem] theorem go78 : isGo Tryz.prog 78 = true := by kernel_rfl
@[go_sem] theorem fr32 : Tryz.f32.results.toList = [.tmp 2] := by kernel_rfl
@[go_sem] theorem fn32 : Tryz.f32.ntmps = 60 := by kernel_rfl
@[go_sem] theorem go79 : isGo Tryz.prog 79 = true := by kernel_rfl
@[go_sem] theorem go80 : isGo Tryz.prog 80 = true := by kernel_rfl
@[go_sem] theorem go81 : isGo Tryz.prog 81 = true := by kernel_rfl
@[go_sem] theorem fr33 : Tryz.f33.results.toList = [.tmp 2, .tmp 3] := by kernel_rfl
@[go_sem] theorem fn33 : Tryz.f33.ntmps = 30 := by kernel_rfl
@[go_sem] theorem go82 : isGo Tryz.prog 82 = true := by kernel_rfl
@[go_sem] theorem go83 : isGo Tryz.prog 83 = true := by kernel_rfl
@[go_sem] theorem fr34 : Tryz.f34.results.toList = [.cell 2 52, .tmp 3] := by kernel_rfl
@[go_sem] theorem fn34 : Tryz.f34.ntmps = 46 := by kernel_rfl
@[go_sem] theorem go84 : isGo Tryz.prog 84 = true := by kernel_rfl
@[go_sem] theorem fr35 : Tryz.f35.results.toList = [.tmp 2] := by kernel_rfl
@[go_sem] theorem fn35 : Tryz.f35.ntmps = 23 := by kernel_rfl
@[go_sem] theorem go85 : isGo Tryz.prog 85 = true := by kernel_rfl
@[go_sem] theorem go86 : isGo Tryz.prog 86 = true := by kernel_rfl
@[go_sem] theorem go87 : isGo Tryz.prog 87 = true := by kernel_rfl
@[go_sem] theorem go88 : isGo Tryz.prog 88 = true := by kernel_rfl
@[go_sem] theorem go89 : isGo Tryz.prog 89 = true := by kernel_rfl
@[go_sem] theorem fr36 : Tryz.f36.results.toList = [.tmp 2] := by kernel_rfl
@[go_sem] theorem fn36 : Tryz.f36.ntmps = 72 := by kernel_rfl
@[go_sem] theorem fr37 : Tryz.f37.results.toList = [.cell 2 28] := by kernel_rfl
@[go_sem] theorem fn37 : Tryz.f37.ntmps = 31 := by kernel_rfl
@[go_sem] theorem go90 : isGo Tryz.prog 90 = true := by kernel_rfl
@[go_sem] theorem go91 : isGo Tryz.prog 91 = true := by kernel_rfl
@[go_sem] theorem go92 : isGo Tryz.prog 92 = true := by kernel_rfl
@[go_sem] theorem fr38 : Tryz.f38.results.toList = [.tmp 2, .tmp 3] := by kernel_rfl
@[go_sem] theorem fn38 : Tryz.f38.ntmps = 18 := by kernel_rfl
@[go_sem] theorem fr39 : Tryz.f39.results.toList = [.cell 2 52, .tmp 3] := by kernel_rfl
@[go_sem] theorem fn39 : Tryz.f39.ntmps = 62 := by kernel_rfl
@[go_sem] theorem go93 : isGo Tryz.prog 93 = true := by kernel_rfl
@[go_sem] theorem fr40 : Tryz.f40.results.toList = [.tmp 4] := by kernel_rfl
@[go_sem] theorem fn40 : Tryz.f40.ntmps = 27 := by kernel_rfl
@[go_sem] theorem go94 : isGo Tryz.prog 94 = true := by kernel_rfl
@[go_sem] theorem fr41 : Tryz.f41.results.toList = [.tmp 4] := by kernel_rfl
@[go_sem] theorem fn41 : Tryz.f41.ntmps = 68 := by kernel_rfl
@[go_sem] theorem go95 : isGo Tryz.prog 95 = true := by kernel_rfl
@[go_sem] theorem go96 : isGo Tryz.prog 96 = true := by kernel_rfl
@[go_sem] theorem fr42 : Tryz.f42.results.toList = [.tmp 4] := by kernel_rfl
@[go_sem] theorem fn42 : Tryz.f42.ntmps = 82 := by kernel_rfl
@[go_sem] theorem go97 : isGo Tryz.prog 97 = true := by kernel_rfl
@[go_sem] theorem fr43 : Tryz.f43.results.toList = [.tmp 4] := by kernel_rfl
@[go_sem] theorem fn43 : Tryz.f43.ntmps = 27 := by kernel_rfl
@[go_sem] theorem fr44 : Tryz.f44.results.toList = [.tmp 4] := by kernel_rfl
@[go_sem] theorem fn44 : Tryz.f44.ntmps = 27 := by kernel_rfl
@[go_sem] theorem fr46 : Tryz.f46.results.toList = [.tmp 6] := by kernel_rfl
@[go_sem] theorem fn46 : Tryz.f46.ntmps = 15 := by kernel_rfl
@[go_sem] theorem go100 : isGo Tryz.prog 100 = true := by kernel_rfl
@[go_sem] theorem fr49 : Tryz.f49.results.toList = [.cell 2 52] := by kernel_rfl
@[go_sem] theorem fn49 : Tryz.f49.ntmps = 30 := by kernel_rfl
@[go_sem] theorem tz140 : tZero Tryz.prog 140 = some [.int .i64 0, .int .i64 0, .string ⟨#[]⟩, .slice none 0 0] := by kernel_rfl
@[go_sem] theorem go101 : isGo Tryz.prog 101 = true := by kernel_rfl
@[go_sem] theorem fr50 : Tryz.f50.results.toList = [.tmp 2] := by kernel_rfl
@[go_sem] theorem fn50 : Tryz.f50.ntmps = 23 := by kernel_rfl
@[go_sem] theorem fr51 : Tryz.f51.results.toList = [.tmp 2] := by kernel_rfl
@[go_sem] theorem fn51 : Tryz.f51.ntmps = 23 := by kernel_rfl
@[go_sem] theorem go105 : isGo Tryz.prog 105 = true := by kernel_rfl
@[go_sem] theorem fr54 : Tryz.f54.results.toList = [.cell 2 52] := by kernel_rfl
@[go_sem] theorem fn54 : Tryz.f54.ntmps = 30 := by kernel_rfl
@[go_sem] theorem go107 : isGo Tryz.prog 107 = true := by kernel_rfl
@[go_sem] theorem fr57 : Tryz.f57.results.toList = [.tmp 4] := by kernel_rfl
@[go_sem] theorem fn57 : Tryz.f57.ntmps = 27 := by kernel_rfl
@[go_sem] theorem fr58 : Tryz.f58.results.toList = [.tmp 4] := by kernel_rfl
@[go_sem] theorem fn58 : Tryz.f58.ntmps = 27 := by kernel_rfl
@[go_sem] theorem fr59 : Tryz.f59.results.toList = [.tmp 4] := by kernel_rfl
@[go_sem] theorem fn59 : Tryz.f59.ntmps = 42 := by kernel_rfl
@[go_sem] theorem fr60 : Tryz.f60.results.toList = [.tmp 4] := by kernel_rfl
@[go_sem] theorem fn60 : Tryz.f60.ntmps = 42 := by kernel_rfl
@[go_sem] theorem fr74 : Tryz.f74.results.toList = [.tmp 4] := by kernel_rfl
@[go_sem] theorem fn74 : Tryz.f74.ntmps = 19 := by kernel_rfl
@[go_sem] theorem fr75 : Tryz.f75.results.toList = [.tmp 4] := by kernel_rfl
@[go_sem] theorem fn75 : Tryz.f75.ntmps = 21 := by kernel_rfl
@[go_sem] theorem ty154_i : tIsSlice Tryz.prog 154 = true := by kernel_rfl
@[go_sem] theorem ty154_e : tElem Tryz.prog 154 = some 9 := by kernel_rfl
@[go_sem] theorem ty154_l : tSlice Tryz.prog 154 = some (9, 1, 16) := by kernel_rfl
@[go_sem] theorem go124 : isGo Tryz.prog 124 = true := by kernel_rfl
@[go_sem] theorem fr76 : Tryz.f76.results.toList = [.tmp 2] := by kernel_rfl
@[go_sem] theorem fn76 : Tryz.f76.ntmps = 17 := by kernel_rfl
@[go_sem] theorem go125 : isGo Tryz.prog 125 = true := by kernel_rfl
@[go_sem] theorem go126 : isGo Tryz.prog 126 = true := by kernel_rfl
@[go_sem] theorem fr77 : Tryz.f77.results.toList = [.tmp 6] := by kernel_rfl
@[go_sem] theorem fn77 : Tryz.f77.ntmps = 32 := by kernel_rfl
@[go_sem] theorem go127 : isGo Tryz.prog 127 = true := by kernel_rfl
@[go_sem] theorem fr78 : Tryz.f78.results.toList = [.tmp 2] := by kernel_rfl
@[go_sem] theorem fn78 : Tryz.f78.ntmps = 8 := by kernel_rfl
@[go_sem] theorem go128 : isGo Tryz.prog 128 = true := by kernel_rfl
@[go_sem] theorem fr79 : Tryz.f79.results.toList = [.tmp 2] := by kernel_rfl
@[go_sem] theorem fn79 : Tryz.f79.ntmps = 10 := by kernel_rfl
@[go_sem] theorem fr80 : Tryz.f80.results.toList = [.tmp 2] := by kernel_rfl
@[go_sem] theorem fn80 : Tryz.f80.ntmps = 99 := by kernel_rfl
@[go_sem] theorem fr81 : Tryz.f81.results.toList = [.tmp 2] := by kernel_rfl
@[go_sem] theorem fn81 : Tryz.f81.ntmps = 20 := by kernel_rfl
@[go_sem] theorem fr82 : Tryz.f82.results.toList = [.tmp 2] := by kernel_rfl
@[go_sem] theorem fn82 : Tryz.f82.ntmps = 15 := by kernel_rfl
@[go_sem] theorem fr83 : Tryz.f83.results.toList = [.cell 6 52] := by kernel_rfl
@[go_sem] theorem fn83 : Tryz.f83.ntmps = 11 := by kernel_rfl
@[go_sem] theorem fr84 : Tryz.f84.results.toList = [.cell 2 82] := by kernel_rfl
@[go_sem] theorem fn84 : Tryz.f84.ntmps = 18 := by kernel_rfl
@[go_sem] theorem go129 : isGo Tryz.prog 129 = true := by kernel_rfl
@[go_sem] theorem fr85 : Tryz.f85.results.toList = [.tmp 2] := by kernel_rfl
@[go_sem] theorem fn85 : Tryz.f85.ntmps = 16 := by kernel_rfl
@[go_sem] theorem fr86 : Tryz.f86.results.toList = [.tmp 4] := by kernel_rfl
@[go_sem] theorem fn86 : Tryz.f86.ntmps = 21 := by kernel_rfl
@[go_sem] theorem ty157_m : tMap Tryz.prog 157 = some (false, .int .i64 0) := by kernel_rfl
@[go_sem] theorem go130 : isGo Tryz.prog 130 = true := by kernel_rfl
@[go_sem] theorem fr87 : Tryz.f87.results.toList = [.tmp 4] := by kernel_rfl
@[go_sem] theorem fn87 : Tryz.f87.ntmps = 142 := by kernel_rfl
@[go_sem] theorem go131 : isGo Tryz.prog 131 = true := by kernel_rfl
@[go_sem] theorem fr88 : Tryz.f88.results.toList = [.tmp 4] := by kernel_rfl
@[go_sem] theorem fn88 : Tryz.f88.ntmps = 18 := by kernel_rfl
@[go_sem] theorem tz4 : tZero Tryz.prog 4 = some [.bool false] := by kernel_rfl
@[go_sem] theorem go132 : isGo Tryz.prog 132 = true := by kernel_rfl
@[go_sem] theorem fr89 : Tryz.f89.results.toList = [.tmp 4] := by kernel_rfl
@[go_sem] theorem fn89 : Tryz.f89.ntmps = 10 := by kernel_rfl
@[go_sem] theorem fr90 : Tryz.f90.results.toList = [.tmp 2] := by kernel_rfl
@[go_sem] theorem fn90 : Tryz.f90.ntmps = 6 := by kernel_rfl
@[go_sem] theorem fr91 : Tryz.f91.results.toList = [.tmp 2, .tmp 3] := by kernel_rfl
@[go_sem] theorem fn91 : Tryz.f91.ntmps = 105 := by kernel_rfl
@[go_sem] theorem fr92 : Tryz.f92.results.toList = [.tmp 2] := by kernel_rfl
@[go_sem] theorem fn92 : Tryz.f92.ntmps = 35 := by kernel_rfl
@[go_sem] theorem fr93 : Tryz.f93.results.toList = [.tmp 4] := by kernel_rfl
@[go_sem] theorem fn93 : Tryz.f93.ntmps = 26 := by kernel_rfl
@[go_sem] theorem ty5_n : tInt Tryz.prog 5 = some Go.IntKind.u8 := by kernel_rfl
@[go_sem] theorem ty5_u : (Tryz.prog.underlying 5).isSome = true := by kernel_rfl
@[go_sem] theorem ty161_l : tSlice Tryz.prog 161 = some (5, 1, 1) := by kernel_rfl
@[go_sem] theorem ty161_b : tIsBytes Tryz.prog 161 = true := by kernel_rfl
@[go_sem] theorem fr94 : Tryz.f94.results.toList = [.tmp 2] := by kernel_rfl
@[go_sem] theorem fn94 : Tryz.f94.ntmps = 20 := by kernel_rfl
@[go_sem] theorem fr95 : Tryz.f95.results.toList = [.tmp 4] := by kernel_rfl
@[go_sem] theorem fn95 : Tryz.f95.ntmps = 50 := by kernel_rfl
@[go_sem] theorem fr96 : Tryz.f96.results.toList = [.tmp 4] := by kernel_rfl
@[go_sem] theorem fn96 : Tryz.f96.ntmps = 50 := by kernel_rfl
@[go_sem] theorem fr97 : Tryz.f97.results.toList = [.tmp 4] := by kernel_rfl
@[go_sem] theorem fn97 : Tryz.f97.ntmps = 19 := by kernel_rfl
@[go_sem] theorem go134 : isGo Tryz.prog 134 = true := by kernel_rfl
@[go_sem] theorem fr100 : Tryz.f100.results.toList = [.tmp 2] := by kernel_rfl
@[go_sem] theorem fn100 : Tryz.f100.ntmps = 20 := by kernel_rfl
@[go_sem] theorem fr101 : Tryz.f101.results.toList = [.cell 2 140] := by kernel_rfl
@[go_sem] theorem fn101 : Tryz.f101.ntmps = 18 := by kernel_rfl
@[go_sem] theorem go138 : isGo Tryz.prog 138 = true := by kernel_rfl
@[go_sem] theorem fr105 : Tryz.f105.results.toList = [.tmp 2] := by kernel_rfl
@[go_sem] theorem fn105 : Tryz.f105.ntmps = 20 := by kernel_rfl
@[go_sem] theorem fr107 : Tryz.f107.results.toList = [.tmp 4] := by kernel_rfl
@[go_sem] theorem fn107 : Tryz.f107.ntmps = 26 := by kernel_rfl
@[go_sem] theorem fr124 : Tryz.f124.results.toList = [.tmp 2] := by kernel_rfl
@[go_sem] theorem fn124 : Tryz.f124.ntmps = 44 := by kernel_rfl
@[go_sem] theorem fr125 : Tryz.f125.results.toList = [.tmp 4] := by kernel_rfl
@[go_sem] theorem fn125 : Tryz.f125.ntmps = 41 := by kernel_rfl
@[go_sem] theorem go154 : isGo Tryz.prog 154 = true := by kernel_rfl
@[go_sem] theorem fr126 : Tryz.f126.results.toList = [.tmp 4] := by kernel_rfl
@[go_sem] theorem fn126 : Tryz.f126.ntmps = 32 := by kernel_rfl
@[go_sem] theorem fr127 : Tryz.f127.results.toList = [.tmp 4] := by kernel_rfl
@[go_sem] theorem fn127 : Tryz.f127.ntmps = 28 := by kernel_rfl
@[go_sem] theorem go155 : isGo Tryz.prog 155 = true := by kernel_rfl
@[go_sem] theorem fr128 : Tryz.f128.results.toList = [.tmp 2] := by kernel_rfl
@[go_sem] theorem fn128 : Tryz.f128.ntmps = 106 := by kernel_rfl
@[go_sem] theorem fr129 : Tryz.f129.results.toList = [.tmp 2] := by kernel_rfl
@[go_sem] theorem fn129 : Tryz.f129.ntmps = 57 := by kernel_rfl
@[go_sem] theorem go156 : isGo Tryz.prog 156 = true := by kernel_rfl
@[go_sem] theorem fr130 : Tryz.f130.results.toList = [.tmp 2] := by kernel_rfl
@[go_sem] theorem fn130 : Tryz.f130.ntmps = 15 := by kernel_rfl
@[go_sem] theorem ty191_a : tAgg Tryz.prog 191 = some false := by kernel_rfl
@[go_sem] theorem ty191_s : tSize Tryz.prog 191 = some 1 := by kernel_rfl
@[go_sem] theorem ty191_im : tIsMap Tryz.prog 191 = true := by kernel_rfl
@[go_sem] theorem ty191_m : tMap Tryz.prog 191 = some (false, .bool false) := by kernel_rfl
@[go_sem] theorem tz191 : tZero Tryz.prog 191 = some [.map none] := by kernel_rfl
@[go_sem] theorem go160 : isGo Tryz.prog 160 = true := by kernel_rfl
@[go_sem] theorem fr131 : Tryz.f131.results.toList = [.tmp 2] := by kernel_rfl
@[go_sem] theorem fn131 : Tryz.f131.ntmps = 10 := by kernel_rfl
@[go_sem] theorem fr132 : Tryz.f132.results.toList = [] := by kernel_rfl
@[go_sem] theorem fn132 : Tryz.f132.ntmps = 20 := by kernel_rfl
@[go_sem] theorem fr133 : Tryz.f133.results.toList = [] := by kernel_rfl
@[go_sem] theorem fn133 : Tryz.f133.ntmps = 26 := by kernel_rfl
@[go_sem] theorem tb140 : tBuild Tryz.prog 140 = some ([.int .i64 0, .int .i64 0, .string ⟨#[]⟩, .slice none 0 0], [(0, 1), (1, 1), (2, 1), (3, 1)]) := by kernel_rfl
@[go_sem] theorem fr134 : Tryz.f134.results.toList = [.cell 2 140] := by kernel_rfl
@[go_sem] theorem fn134 : Tryz.f134.ntmps = 29 := by kernel_rfl
@[go_sem] theorem fr138 : Tryz.f138.results.toList = [.cell 2 140] := by kernel_rfl
@[go_sem] theorem fn138 : Tryz.f138.ntmps = 25 := by kernel_rfl
@[go_sem] theorem go165 : isGo Tryz.prog 165 = true := by kernel_rfl
@[go_sem] theorem go175 : isGo Tryz.prog 175 = true := by kernel_rfl
@[go_sem] theorem fr154 : Tryz.f154.results.toList = [.tmp 4] := by kernel_rfl
@[go_sem] theorem fn154 : Tryz.f154.ntmps = 26 := by kernel_rfl
@[go_sem] theorem fr155 : Tryz.f155.results.toList = [.tmp 2] := by kernel_rfl
@[go_sem] theorem fn155 : Tryz.f155.ntmps = 15 := by kernel_rfl
@[go_sem] theorem go176 : isGo Tryz.prog 176 = true := by kernel_rfl
@[go_sem] theorem fr156 : Tryz.f156.results.toList = [.tmp 2] := by kernel_rfl
@[go_sem] theorem fn156 : Tryz.f156.ntmps = 6 := by kernel_rfl
@[go_sem] theorem go158 : isGo Tryz.prog 158 = true := by kernel_rfl
@[go_sem] theorem fr157 : Tryz.f157.results.toList = [] := by kernel_rfl
@[go_sem] theorem fn157 : Tryz.f157.ntmps = 16 := by kernel_rfl
@[go_sem] theorem fr158 : Tryz.f158.results.toList = [] := by kernel_rfl
@[go_sem] theorem fn158 : Tryz.f158.ntmps = 26 := by kernel_rfl
@[go_sem] theorem fr159 : Tryz.f159.results.toList = [] := by kernel_rfl
@[go_sem] theorem fn159 : Tryz.f159.ntmps = 5 := by kernel_rfl
@[go_sem] theorem go177 : isGo Tryz.prog 177 = true := by kernel_rfl
@[go_sem] theorem fr160 : Tryz.f160.results.toList = [.tmp 2] := by kernel_rfl
@[go_sem] theorem fn160 : Tryz.f160.ntmps = 19 := by kernel_rfl
@[go_sem] theorem go178 : isGo Tryz.prog 178 = true := by kernel_rfl
@[go_sem] theorem go179 : isGo Tryz.prog 179 = true := by kernel_rfl
@[go_sem] theorem fr165 : Tryz.f165.results.toList = [.tmp 2] := by kernel_rfl
@[go_sem] theorem fn165 : Tryz.f165.ntmps = 10 := by kernel_rfl
@[go_sem] theorem fr175 : Tryz.f175.results.toList = [.tmp 4] := by kernel_rfl
@[go_sem] theorem fn175 : Tryz.f175.ntmps = 49 := by kernel_rfl
@[go_sem] theorem fr176 : Tryz.f176.results.toList = [.tmp 4] := by kernel_rfl
@[go_sem] theorem fn176 : Tryz.f176.ntmps = 107 := by kernel_rfl
@[go_sem] theorem fr178 : Tryz.f178.results.toList = [.tmp 4] := by kernel_rfl
@[go_sem] theorem fn178 : Tryz.f178.ntmps = 28 := by kernel_rfl
@[go_sem] theorem fr179 : Tryz.f179.results.toList = [.tmp 2] := by kernel_rfl
@[go_sem] theorem fn179 : Tryz.f179.ntmps = 76 := by kernel_rfl
end Go.Proofs.YtbncaodnnbldmaaGreat
