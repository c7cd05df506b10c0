import Derived.Test.YtbncaodnnbldmaaGreatP1
import Derived.Test.YtbncaodnnbldmaaGreatA5
import Derived.Test.YtbncaodnnbldmaaGreatProg
import Derived.KernelRfl
namespace Go.Proofs.YtbncaodnnbldmaaGreat
open Go.Abs
theorem mixed : Tryz.prog.follows .mixedOrders = true := by kernel_rfl
@[go_sem] theorem ty3_a : tAgg Tryz.prog 3 = some false := by kernel_rfl
@[go_sem] theorem ty3_s : tSize Tryz.prog 3 = some 1 := by kernel_rfl
@[go_sem] theorem ty3_n : tInt Tryz.prog 3 = some Go.IntKind.i64 := by kernel_rfl
@[go_sem] theorem ty3_u : (Tryz.prog.underlying 3).isSome = true := by kernel_rfl
@[go_sem] theorem ty4_a : tAgg Tryz.prog 4 = some false := by kernel_rfl
@[go_sem] theorem ty4_s : tSize Tryz.prog 4 = some 1 := by kernel_rfl
@[go_sem] theorem ty4_u : Tryz.prog.underlying 4 = some .bool := by kernel_rfl
@[go_sem] theorem ty9_a : tAgg Tryz.prog 9 = some false := by kernel_rfl
@[go_sem] theorem ty9_s : tSize Tryz.prog 9 = some 1 := by kernel_rfl
@[go_sem] theorem ty9_t : tIsStr Tryz.prog 9 = true := by kernel_rfl
@[go_sem] theorem ty22_a : tAgg Tryz.prog 22 = some false := by kernel_rfl
@[go_sem] theorem ty22_s : tSize Tryz.prog 22 = some 1 := by kernel_rfl
@[go_sem] theorem ty22_i : tIsSlice Tryz.prog 22 = true := by kernel_rfl
@[go_sem] theorem ty22_e : tElem Tryz.prog 22 = some 119 := by kernel_rfl
@[go_sem] theorem ty24_a : tAgg Tryz.prog 24 = some true := by kernel_rfl
@[go_sem] theorem ty24_s : tSize Tryz.prog 24 = some 1 := by kernel_rfl
@[go_sem] theorem ty24_f0 : tField Tryz.prog 24 0 = some (0, 22) := by kernel_rfl
@[go_sem] theorem ty26_a : tAgg Tryz.prog 26 = some false := by kernel_rfl
@[go_sem] theorem ty26_s : tSize Tryz.prog 26 = some 1 := by kernel_rfl
@[go_sem] theorem ty26_i : tIsSlice Tryz.prog 26 = true := by kernel_rfl
@[go_sem] theorem ty26_e : tElem Tryz.prog 26 = some 82 := by kernel_rfl
@[go_sem] theorem ty26_l : tSlice Tryz.prog 26 = some (82, 7, 104) := by kernel_rfl
@[go_sem] theorem ty28_a : tAgg Tryz.prog 28 = some true := by kernel_rfl
@[go_sem] theorem ty28_s : tSize Tryz.prog 28 = some 1 := by kernel_rfl
@[go_sem] theorem ty28_f0 : tField Tryz.prog 28 0 = some (0, 26) := by kernel_rfl
@[go_sem] theorem ty35_a : tAgg Tryz.prog 35 = some false := by kernel_rfl
@[go_sem] theorem ty35_s : tSize Tryz.prog 35 = some 1 := by kernel_rfl
@[go_sem] theorem ty35_i : tIsSlice Tryz.prog 35 = true := by kernel_rfl
@[go_sem] theorem ty35_e : tElem Tryz.prog 35 = some 135 := by kernel_rfl
@[go_sem] theorem ty36_a : tAgg Tryz.prog 36 = some false := by kernel_rfl
@[go_sem] theorem ty36_s : tSize Tryz.prog 36 = some 1 := by kernel_rfl
@[go_sem] theorem ty36_i : tIsSlice Tryz.prog 36 = true := by kernel_rfl
@[go_sem] theorem ty36_e : tElem Tryz.prog 36 = some 38 := by kernel_rfl
@[go_sem] theorem ty38_a : tAgg Tryz.prog 38 = some true := by kernel_rfl
@[go_sem] theorem ty38_s : tSize Tryz.prog 38 = some 4 := by kernel_rfl
@[go_sem] theorem ty38_f0 : tField Tryz.prog 38 0 = some (0, 3) := by kernel_rfl
@[go_sem] theorem ty38_f1 : tField Tryz.prog 38 1 = some (1, 9) := by kernel_rfl
@[go_sem] theorem ty38_f2 : tField Tryz.prog 38 2 = some (2, 35) := by kernel_rfl
@[go_sem] theorem ty38_f3 : tField Tryz.prog 38 3 = some (3, 36) := by kernel_rfl
@[go_sem] theorem ty49_a : tAgg Tryz.prog 49 = some false := by kernel_rfl
@[go_sem] theorem ty49_s : tSize Tryz.prog 49 = some 1 := by kernel_rfl
@[go_sem] theorem ty49_i : tIsSlice Tryz.prog 49 = true := by kernel_rfl
@[go_sem] theorem ty49_e : tElem Tryz.prog 49 = some 140 := by kernel_rfl
@[go_sem] theorem ty49_l : tSlice Tryz.prog 49 = some (140, 4, 56) := by kernel_rfl
@[go_sem] theorem ty49_t : tIsStr Tryz.prog 49 = false := by kernel_rfl
@[go_sem] theorem ty49_u : (Tryz.prog.underlying 49).isSome = true := by kernel_rfl
@[go_sem] theorem ty50_a : tAgg Tryz.prog 50 = some false := by kernel_rfl
@[go_sem] theorem ty50_s : tSize Tryz.prog 50 = some 1 := by kernel_rfl
@[go_sem] theorem ty50_i : tIsSlice Tryz.prog 50 = true := by kernel_rfl
@[go_sem] theorem ty50_e : tElem Tryz.prog 50 = some 52 := by kernel_rfl
@[go_sem] theorem ty50_l : tSlice Tryz.prog 50 = some (52, 4, 72) := by kernel_rfl
@[go_sem] theorem ty50_t : tIsStr Tryz.prog 50 = false := by kernel_rfl
@[go_sem] theorem ty50_u : (Tryz.prog.underlying 50).isSome = true := by kernel_rfl
@[go_sem] theorem ty52_a : tAgg Tryz.prog 52 = some true := by kernel_rfl
@[go_sem] theorem ty52_s : tSize Tryz.prog 52 = some 4 := by kernel_rfl
@[go_sem] theorem ty52_f0 : tField Tryz.prog 52 0 = some (0, 3) := by kernel_rfl
@[go_sem] theorem ty52_f1 : tField Tryz.prog 52 1 = some (1, 9) := by kernel_rfl
@[go_sem] theorem ty52_f2 : tField Tryz.prog 52 2 = some (2, 49) := by kernel_rfl
@[go_sem] theorem ty52_f3 : tField Tryz.prog 52 3 = some (3, 50) := by kernel_rfl
@[go_sem] theorem ty82_a : tAgg Tryz.prog 82 = some true := by kernel_rfl
@[go_sem] theorem ty82_s : tSize Tryz.prog 82 = some 7 := by kernel_rfl
@[go_sem] theorem ty82_f0 : tField Tryz.prog 82 0 = some (0, 9) := by kernel_rfl
@[go_sem] theorem ty82_f1 : tField Tryz.prog 82 1 = some (1, 3) := by kernel_rfl
@[go_sem] theorem ty82_f2 : tField Tryz.prog 82 2 = some (2, 3) := by kernel_rfl
@[go_sem] theorem ty82_f3 : tField Tryz.prog 82 3 = some (3, 52) := by kernel_rfl
@[go_sem] theorem ty119_a : tAgg Tryz.prog 119 = some true := by kernel_rfl
@[go_sem] theorem ty119_s : tSize Tryz.prog 119 = some 7 := by kernel_rfl
@[go_sem] theorem ty119_f0 : tField Tryz.prog 119 0 = some (0, 9) := by kernel_rfl
@[go_sem] theorem ty119_f1 : tField Tryz.prog 119 1 = some (1, 3) := by kernel_rfl
@[go_sem] theorem ty119_f2 : tField Tryz.prog 119 2 = some (2, 3) := by kernel_rfl
@[go_sem] theorem ty119_f3 : tField Tryz.prog 119 3 = some (3, 38) := by kernel_rfl
@[go_sem] theorem ty135_a : tAgg Tryz.prog 135 = some true := by kernel_rfl
@[go_sem] theorem ty135_s : tSize Tryz.prog 135 = some 4 := by kernel_rfl
@[go_sem] theorem ty135_f0 : tField Tryz.prog 135 0 = some (0, 3) := by kernel_rfl
@[go_sem] theorem ty135_f1 : tField Tryz.prog 135 1 = some (1, 3) := by kernel_rfl
@[go_sem] theorem ty135_f2 : tField Tryz.prog 135 2 = some (2, 9) := by kernel_rfl
@[go_sem] theorem ty135_f3 : tField Tryz.prog 135 3 = some (3, 35) := by kernel_rfl
@[go_sem] theorem ty140_a : tAgg Tryz.prog 140 = some true := by kernel_rfl
@[go_sem] theorem ty140_s : tSize Tryz.prog 140 = some 4 := by kernel_rfl
@[go_sem] theorem ty140_f0 : tField Tryz.prog 140 0 = some (0, 3) := by kernel_rfl
@[go_sem] theorem ty140_f1 : tField Tryz.prog 140 1 = some (1, 3) := by kernel_rfl
@[go_sem] theorem ty140_f2 : tField Tryz.prog 140 2 = some (2, 9) := by kernel_rfl
@[go_sem] theorem ty140_f3 : tField Tryz.prog 140 3 = some (3, 49) := by kernel_rfl
@[go_sem] theorem tz28 : tZero Tryz.prog 28 = some [.slice none 0 0] := by kernel_rfl
@[go_sem] theorem go6 : isGo Tryz.prog 6 = true := by kernel_rfl
@[go_sem] theorem go8 : isGo Tryz.prog 8 = true := by kernel_rfl
@[go_sem] theorem go10 : isGo Tryz.prog 10 = true := by kernel_rfl
@[go_sem] theorem go11 : isGo Tryz.prog 11 = true := by kernel_rfl
@[go_sem] theorem ty40_i : tIsSlice Tryz.prog 40 = true := by kernel_rfl
@[go_sem] theorem ty40_e : tElem Tryz.prog 40 = some 170 := by kernel_rfl
@[go_sem] theorem ty40_l : tSlice Tryz.prog 40 = some (170, 5, 64) := by kernel_rfl
@[go_sem] theorem ty40_u : (Tryz.prog.underlying 40).isSome = true := by kernel_rfl
@[go_sem] theorem ty46_a : tAgg Tryz.prog 46 = some false := by kernel_rfl
@[go_sem] theorem ty46_s : tSize Tryz.prog 46 = some 1 := by kernel_rfl
@[go_sem] theorem ty46_i : tIsSlice Tryz.prog 46 = true := by kernel_rfl
@[go_sem] theorem ty46_e : tElem Tryz.prog 46 = some 3 := by kernel_rfl
@[go_sem] theorem ty46_l : tSlice Tryz.prog 46 = some (3, 1, 8) := by kernel_rfl
@[go_sem] theorem ty46_t : tIsStr Tryz.prog 46 = false := by kernel_rfl
@[go_sem] theorem ty46_u : (Tryz.prog.underlying 46).isSome = true := by kernel_rfl
@[go_sem] theorem ty170_a : tAgg Tryz.prog 170 = some true := by kernel_rfl
@[go_sem] theorem ty170_s : tSize Tryz.prog 170 = some 5 := by kernel_rfl
@[go_sem] theorem ty170_f0 : tField Tryz.prog 170 0 = some (0, 3) := by kernel_rfl
@[go_sem] theorem ty170_f1 : tField Tryz.prog 170 1 = some (1, 140) := by kernel_rfl
@[go_sem] theorem tz52 : tZero Tryz.prog 52 = some [.int .i64 0, .string ⟨#[]⟩, .slice none 0 0, .slice none 0 0] := by kernel_rfl
@[go_sem] theorem go13 : isGo Tryz.prog 13 = true := by kernel_rfl
@[go_sem] theorem go15 : isGo Tryz.prog 15 = true := by kernel_rfl
@[go_sem] theorem go18 : isGo Tryz.prog 18 = true := by kernel_rfl
@[go_sem] theorem ty64_a : tAgg Tryz.prog 64 = some false := by kernel_rfl
@[go_sem] theorem ty64_s : tSize Tryz.prog 64 = some 1 := by kernel_rfl
@[go_sem] theorem ty64_i : tIsSlice Tryz.prog 64 = true := by kernel_rfl
@[go_sem] theorem ty64_e : tElem Tryz.prog 64 = some 66 := by kernel_rfl
@[go_sem] theorem ty66_a : tAgg Tryz.prog 66 = some true := by kernel_rfl
@[go_sem] theorem ty66_s : tSize Tryz.prog 66 = some 4 := by kernel_rfl
@[go_sem] theorem ty66_f0 : tField Tryz.prog 66 0 = some (0, 9) := by kernel_rfl
@[go_sem] theorem ty66_f1 : tField Tryz.prog 66 1 = some (1, 3) := by kernel_rfl
@[go_sem] theorem ty66_f2 : tField Tryz.prog 66 2 = some (2, 35) := by kernel_rfl
@[go_sem] theorem ty66_f3 : tField Tryz.prog 66 3 = some (3, 64) := by kernel_rfl
@[go_sem] theorem ty70_a : tAgg Tryz.prog 70 = some false := by kernel_rfl
@[go_sem] theorem ty70_s : tSize Tryz.prog 70 = some 1 := by kernel_rfl
@[go_sem] theorem ty70_i : tIsSlice Tryz.prog 70 = true := by kernel_rfl
@[go_sem] theorem ty70_e : tElem Tryz.prog 70 = some 72 := by kernel_rfl
@[go_sem] theorem ty70_l : tSlice Tryz.prog 70 = some (72, 4, 72) := by kernel_rfl
@[go_sem] theorem ty70_u : (Tryz.prog.underlying 70).isSome = true := by kernel_rfl
@[go_sem] theorem ty72_a : tAgg Tryz.prog 72 = some true := by kernel_rfl
@[go_sem] theorem ty72_s : tSize Tryz.prog 72 = some 4 := by kernel_rfl
@[go_sem] theorem ty72_f0 : tField Tryz.prog 72 0 = some (0, 9) := by kernel_rfl
@[go_sem] theorem ty72_f1 : tField Tryz.prog 72 1 = some (1, 3) := by kernel_rfl
@[go_sem] theorem ty72_f2 : tField Tryz.prog 72 2 = some (2, 49) := by kernel_rfl
@[go_sem] theorem ty72_f3 : tField Tryz.prog 72 3 = some (3, 70) := by kernel_rfl
@[go_sem] theorem tz72 : tZero Tryz.prog 72 = some [.string ⟨#[]⟩, .int .i64 0, .slice none 0 0, .slice none 0 0] := by kernel_rfl
@[go_sem] theorem go22 : isGo Tryz.prog 22 = true := by kernel_rfl
@[go_sem] theorem go23 : isGo Tryz.prog 23 = true := by kernel_rfl
@[go_sem] theorem go24 : isGo Tryz.prog 24 = true := by kernel_rfl
@[go_sem] theorem go25 : isGo Tryz.prog 25 = true := by kernel_rfl
@[go_sem] theorem go26 : isGo Tryz.prog 26 = true := by kernel_rfl
@[go_sem] theorem go27 : isGo Tryz.prog 27 = true := by kernel_rfl
@[go_sem] theorem go28 : isGo Tryz.prog 28 = true := by kernel_rfl
@[go_sem] theorem go29 : isGo Tryz.prog 29 = true := by kernel_rfl
@[go_sem] theorem go30 : isGo Tryz.prog 30 = true := by kernel_rfl
@[go_sem] theorem fr5 : Tryz.f5.results.toList = [.tmp 4] := by kernel_rfl
@[go_sem] theorem fn5 : Tryz.f5.ntmps = 119 := by kernel_rfl
@[go_sem] theorem go31 : isGo Tryz.prog 31 = true := by kernel_rfl
@[go_sem] theorem fr6 : Tryz.f6.results.toList = [.tmp 4] := by kernel_rfl
@[go_sem] theorem fn6 : Tryz.f6.ntmps = 12 := by kernel_rfl
@[go_sem] theorem ty83_i : tIsSlice Tryz.prog 83 = true := by kernel_rfl
@[go_sem] theorem ty83_e : tElem Tryz.prog 83 = some 50 := by kernel_rfl
@[go_sem] theorem ty83_l : tSlice Tryz.prog 83 = some (50, 1, 24) := by kernel_rfl
@[go_sem] theorem ty83_u : (Tryz.prog.underlying 83).isSome = true := by kernel_rfl
@[go_sem] theorem tz82 : tZero Tryz.prog 82 = some [.string ⟨#[]⟩, .int .i64 0, .int .i64 0, .int .i64 0, .string ⟨#[]⟩, .slice none 0 0, .slice none 0 0] := by kernel_rfl
@[go_sem] theorem go32 : isGo Tryz.prog 32 = true := by kernel_rfl
@[go_sem] theorem go33 : isGo Tryz.prog 33 = true := by kernel_rfl
@[go_sem] theorem go35 : isGo Tryz.prog 35 = true := by kernel_rfl
@[go_sem] theorem fr8 : Tryz.f8.results.toList = [.cell 2 28] := by kernel_rfl
@[go_sem] theorem fn8 : Tryz.f8.ntmps = 9 := by kernel_rfl
@[go_sem] theorem go36 : isGo Tryz.prog 36 = true := by kernel_rfl
@[go_sem] theorem go40 : isGo Tryz.prog 40 = true := by kernel_rfl
@[go_sem] theorem fr10 : Tryz.f10.results.toList = [.tmp 4] := by kernel_rfl
@[go_sem] theorem fn10 : Tryz.f10.ntmps = 11 := by kernel_rfl
@[go_sem] theorem go41 : isGo Tryz.prog 41 = true := by kernel_rfl
@[go_sem] theorem fr11 : Tryz.f11.results.toList = [.tmp 4] := by kernel_rfl
@[go_sem] theorem fn11 : Tryz.f11.ntmps = 10 := by kernel_rfl
@[go_sem] theorem go43 : isGo Tryz.prog 43 = true := by kernel_rfl
@[go_sem] theorem go44 : isGo Tryz.prog 44 = true := by kernel_rfl
@[go_sem] theorem fr13 : Tryz.f13.results.toList = [.tmp 4] := by kernel_rfl
@[go_sem] theorem fn13 : Tryz.f13.ntmps = 25 := by kernel_rfl
@[go_sem] theorem go46 : isGo Tryz.prog 46 = true := by kernel_rfl
@[go_sem] theorem go49 : isGo Tryz.prog 49 = true := by kernel_rfl
@[go_sem] theorem go50 : isGo Tryz.prog 50 = true := by kernel_rfl
@[go_sem] theorem go51 : isGo Tryz.prog 51 = true := by kernel_rfl
@[go_sem] theorem fr15 : Tryz.f15.results.toList = [.cell 2 52] := by kernel_rfl
@[go_sem] theorem fn15 : Tryz.f15.ntmps = 19 := by kernel_rfl
@[go_sem] theorem go57 : isGo Tryz.prog 57 = true := by kernel_rfl
@[go_sem] theorem go58 : isGo Tryz.prog 58 = true := by kernel_rfl
@[go_sem] theorem fr18 : Tryz.f18.results.toList = [.tmp 4] := by kernel_rfl
@[go_sem] theorem fn18 : Tryz.f18.ntmps = 27 := by kernel_rfl
@[go_sem] theorem go59 : isGo Tryz.prog 59 = true := by kernel_rfl
@[go_sem] theorem go60 : isGo Tryz.prog 60 = true := by kernel_rfl
@[go_sem] theorem go66 : isGo Tryz.prog 66 = true := by kernel_rfl
@[go_sem] theorem fr22 : Tryz.f22.results.toList = [.tmp 4] := by kernel_rfl
@[go_sem] theorem fn22 : Tryz.f22.ntmps = 25 := by kernel_rfl
@[go_sem] theorem tb52 : tBuild Tryz.prog 52 = some ([.int .i64 0, .string ⟨#[]⟩, .slice none 0 0, .slice none 0 0], [(0, 1), (1, 1), (2, 1), (3, 1)]) := by kernel_rfl
@[go_sem] theorem go67 : isGo Tryz.prog 67 = true := by kernel_rfl
@[go_sem] theorem go68 : isGo Tryz.prog 68 = true := by kernel_rfl
@[go_sem] theorem fr23 : Tryz.f23.results.toList = [.tmp 4, .tmp 5] := by kernel_rfl
@[go_sem] theorem fn23 : Tryz.f23.ntmps = 25 := by kernel_rfl
@[go_sem] theorem go69 : isGo Tryz.prog 69 = true := by kernel_rfl
@[go_sem] theorem fr24 : Tryz.f24.results.toList = [.cell 2 72] := by kernel_rfl
@[go_sem] theorem fn24 : Tryz.f24.ntmps = 19 := by kernel_rfl
@[go_sem] theorem go70 : isGo Tryz.prog 70 = true := by kernel_rfl
@[go_sem] theorem go71 : isGo Tryz.prog 71 = true := by kernel_rfl
@[go_sem] theorem fr25 : Tryz.f25.results.toList = [.tmp 4, .tmp 5] := by kernel_rfl
@[go_sem] theorem fn25 : Tryz.f25.ntmps = 13 := by kernel_rfl
@[go_sem] theorem fr26 : Tryz.f26.results.toList = [.tmp 4] := by kernel_rfl
@[go_sem] theorem fn26 : Tryz.f26.ntmps = 26 := by kernel_rfl
@[go_sem] theorem go72 : isGo Tryz.prog 72 = true := by kernel_rfl
@[go_sem] theorem fr27 : Tryz.f27.results.toList = [.tmp 4] := by kernel_rfl
@[go_sem] theorem fn27 : Tryz.f27.ntmps = 27 := by kernel_rfl
@[go_sem] theorem go73 : isGo Tryz.prog 73 = true := by kernel_rfl
@[go_sem] theorem fr28 : Tryz.f28.results.toList = [.tmp 4] := by kernel_rfl
@[go_sem] theorem fn28 : Tryz.f28.ntmps = 14 := by kernel_rfl
@[go_sem] theorem fr29 : Tryz.f29.results.toList = [.tmp 4] := by kernel_rfl
@[go_sem] theorem fn29 : Tryz.f29.ntmps = 19 := by kernel_rfl
@[go_sem] theorem fr30 : Tryz.f30.results.toList = [.tmp 4] := by kernel_rfl
@[go_sem] theorem fn30 : Tryz.f30.ntmps = 21 := by kernel_rfl
@[go_sem] theorem go74 : isGo Tryz.prog 74 = true := by kernel_rfl
@[go_sem] theorem fr31 : Tryz.f31.results.toList = [.tmp 4] := by kernel_rfl
@[go_sem] theorem fn31 : Tryz.f31.ntmps = 27 := by kernel_rfl
@[go_sem] theorem go75 : isGo Tryz.prog 75 = true := by kernel_rfl
@[go_sem] theorem go76 : isGo Tryz.prog 76 = true := by kernel_rfl
@[go_sem] theorem go77 : isGo Tryz.prog 77 = true := by kernel_rfl
@[go_sem] theorem go78 : isGo Tryz.prog 78 = true := by kernel_rfl
@[go_sem] theorem fr32 : Tryz.f32.results.toList = [.tmp 2] := by kernel_rfl
@[go_sem] theorem fn32 : Tryz.f32.ntmps = 60 := by kernel_rfl
@[go_sem] theorem go79 : isGo Tryz.prog 79 = true := by kernel_rfl
@[go_sem] theorem go80 : isGo Tryz.prog 80 = true := by kernel_rfl
@[go_sem] theorem go81 : isGo Tryz.prog 81 = true := by kernel_rfl
@[go_sem] theorem fr33 : Tryz.f33.results.toList = [.tmp 2, .tmp 3] := by kernel_rfl
@[go_sem] theorem fn33 : Tryz.f33.ntmps = 30 := by kernel_rfl
@[go_sem] theorem go84 : isGo Tryz.prog 84 = true := by kernel_rfl
@[go_sem] theorem fr35 : Tryz.f35.results.toList = [.tmp 2] := by kernel_rfl
@[go_sem] theorem fn35 : Tryz.f35.ntmps = 23 := by kernel_rfl
@[go_sem] theorem go85 : isGo Tryz.prog 85 = true := by kernel_rfl
@[go_sem] theorem go86 : isGo Tryz.prog 86 = true := by kernel_rfl
@[go_sem] theorem go87 : isGo Tryz.prog 87 = true := by kernel_rfl
@[go_sem] theorem go88 : isGo Tryz.prog 88 = true := by kernel_rfl
@[go_sem] theorem go89 : isGo Tryz.prog 89 = true := by kernel_rfl
@[go_sem] theorem fr36 : Tryz.f36.results.toList = [.tmp 2] := by kernel_rfl
@[go_sem] theorem fn36 : Tryz.f36.ntmps = 72 := by kernel_rfl
@[go_sem] theorem go91 : isGo Tryz.prog 91 = true := by kernel_rfl
@[go_sem] theorem go93 : isGo Tryz.prog 93 = true := by kernel_rfl
@[go_sem] theorem fr40 : Tryz.f40.results.toList = [.tmp 4] := by kernel_rfl
@[go_sem] theorem fn40 : Tryz.f40.ntmps = 27 := by kernel_rfl
@[go_sem] theorem go94 : isGo Tryz.prog 94 = true := by kernel_rfl
@[go_sem] theorem fr41 : Tryz.f41.results.toList = [.tmp 4] := by kernel_rfl
@[go_sem] theorem fn41 : Tryz.f41.ntmps = 68 := by kernel_rfl
@[go_sem] theorem go97 : isGo Tryz.prog 97 = true := by kernel_rfl
@[go_sem] theorem fr43 : Tryz.f43.results.toList = [.tmp 4] := by kernel_rfl
@[go_sem] theorem fn43 : Tryz.f43.ntmps = 27 := by kernel_rfl
@[go_sem] theorem fr44 : Tryz.f44.results.toList = [.tmp 4] := by kernel_rfl
@[go_sem] theorem fn44 : Tryz.f44.ntmps = 27 := by kernel_rfl
@[go_sem] theorem fr46 : Tryz.f46.results.toList = [.tmp 6] := by kernel_rfl
@[go_sem] theorem fn46 : Tryz.f46.ntmps = 15 := by kernel_rfl
@[go_sem] theorem go100 : isGo Tryz.prog 100 = true := by kernel_rfl
@[go_sem] theorem fr49 : Tryz.f49.results.toList = [.cell 2 52] := by kernel_rfl
@[go_sem] theorem fn49 : Tryz.f49.ntmps = 30 := by kernel_rfl
@[go_sem] theorem tz140 : tZero Tryz.prog 140 = some [.int .i64 0, .int .i64 0, .string ⟨#[]⟩, .slice none 0 0] := by kernel_rfl
@[go_sem] theorem go101 : isGo Tryz.prog 101 = true := by kernel_rfl
@[go_sem] theorem fr50 : Tryz.f50.results.toList = [.tmp 2] := by kernel_rfl
@[go_sem] theorem fn50 : Tryz.f50.ntmps = 23 := by kernel_rfl
@[go_sem] theorem fr51 : Tryz.f51.results.toList = [.tmp 2] := by kernel_rfl
@[go_sem] theorem fn51 : Tryz.f51.ntmps = 23 := by kernel_rfl
@[go_sem] theorem go107 : isGo Tryz.prog 107 = true := by kernel_rfl
@[go_sem] theorem fr57 : Tryz.f57.results.toList = [.tmp 4] := by kernel_rfl
@[go_sem] theorem fn57 : Tryz.f57.ntmps = 27 := by kernel_rfl
@[go_sem] theorem fr58 : Tryz.f58.results.toList = [.tmp 4] := by kernel_rfl
@[go_sem] theorem fn58 : Tryz.f58.ntmps = 27 := by kernel_rfl
@[go_sem] theorem fr59 : Tryz.f59.results.toList = [.tmp 4] := by kernel_rfl
@[go_sem] theorem fn59 : Tryz.f59.ntmps = 42 := by kernel_rfl
@[go_sem] theorem fr60 : Tryz.f60.results.toList = [.tmp 4] := by kernel_rfl
@[go_sem] theorem fn60 : Tryz.f60.ntmps = 42 := by kernel_rfl
@[go_sem] theorem fr66 : Tryz.f66.results.toList = [.tmp 4] := by kernel_rfl
@[go_sem] theorem fn66 : Tryz.f66.ntmps = 27 := by kernel_rfl
@[go_sem] theorem go118 : isGo Tryz.prog 118 = true := by kernel_rfl
@[go_sem] theorem go119 : isGo Tryz.prog 119 = true := by kernel_rfl
@[go_sem] theorem fr67 : Tryz.f67.results.toList = [.tmp 4] := by kernel_rfl
@[go_sem] theorem fn67 : Tryz.f67.ntmps = 17 := by kernel_rfl
@[go_sem] theorem fr68 : Tryz.f68.results.toList = [.tmp 10, .tmp 11] := by kernel_rfl
@[go_sem] theorem fn68 : Tryz.f68.ntmps = 134 := by kernel_rfl
@[go_sem] theorem fr69 : Tryz.f69.results.toList = [.tmp 2] := by kernel_rfl
@[go_sem] theorem fn69 : Tryz.f69.ntmps = 23 := by kernel_rfl
@[go_sem] theorem go120 : isGo Tryz.prog 120 = true := by kernel_rfl
@[go_sem] theorem go121 : isGo Tryz.prog 121 = true := by kernel_rfl
@[go_sem] theorem fr70 : Tryz.f70.results.toList = [.tmp 4] := by kernel_rfl
@[go_sem] theorem fn70 : Tryz.f70.ntmps = 17 := by kernel_rfl
@[go_sem] theorem tz46 : tZero Tryz.prog 46 = some [.slice none 0 0] := by kernel_rfl
@[go_sem] theorem tz70 : tZero Tryz.prog 70 = some [.slice none 0 0] := by kernel_rfl
@[go_sem] theorem go122 : isGo Tryz.prog 122 = true := by kernel_rfl
@[go_sem] theorem go123 : isGo Tryz.prog 123 = true := by kernel_rfl
@[go_sem] theorem fr71 : Tryz.f71.results.toList = [.tmp 4] := by kernel_rfl
@[go_sem] theorem fn71 : Tryz.f71.ntmps = 28 := by kernel_rfl
@[go_sem] theorem fr72 : Tryz.f72.results.toList = [.tmp 4] := by kernel_rfl
@[go_sem] theorem fn72 : Tryz.f72.ntmps = 27 := by kernel_rfl
@[go_sem] theorem fr73 : Tryz.f73.results.toList = [.tmp 4] := by kernel_rfl
@[go_sem] theorem fn73 : Tryz.f73.ntmps = 42 := by kernel_rfl
@[go_sem] theorem fr74 : Tryz.f74.results.toList = [.tmp 4] := by kernel_rfl
@[go_sem] theorem fn74 : Tryz.f74.ntmps = 19 := by kernel_rfl
@[go_sem] theorem fr75 : Tryz.f75.results.toList = [.tmp 4] := by kernel_rfl
@[go_sem] theorem fn75 : Tryz.f75.ntmps = 21 := by kernel_rfl
@[go_sem] theorem ty154_i : tIsSlice Tryz.prog 154 = true := by kernel_rfl
@[go_sem] theorem ty154_e : tElem Tryz.prog 154 = some 9 := by kernel_rfl
@[go_sem] theorem ty154_l : tSlice Tryz.prog 154 = some (9, 1, 16) := by kernel_rfl
@[go_sem] theorem go124 : isGo Tryz.prog 124 = true := by kernel_rfl
@[go_sem] theorem fr76 : Tryz.f76.results.toList = [.tmp 2] := by kernel_rfl
@[go_sem] theorem fn76 : Tryz.f76.ntmps = 17 := by kernel_rfl
@[go_sem] theorem go125 : isGo Tryz.prog 125 = true := by kernel_rfl
@[go_sem] theorem go126 : isGo Tryz.prog 126 = true := by kernel_rfl
@[go_sem] theorem fr77 : Tryz.f77.results.toList = [.tmp 6] := by kernel_rfl
@[go_sem] theorem fn77 : Tryz.f77.ntmps = 32 := by kernel_rfl
@[go_sem] theorem go127 : isGo Tryz.prog 127 = true := by kernel_rfl
@[go_sem] theorem fr78 : Tryz.f78.results.toList = [.tmp 2] := by kernel_rfl
@[go_sem] theorem fn78 : Tryz.f78.ntmps = 8 := by kernel_rfl
@[go_sem] theorem go128 : isGo Tryz.prog 128 = true := by kernel_rfl
@[go_sem] theorem fr79 : Tryz.f79.results.toList = [.tmp 2] := by kernel_rfl
@[go_sem] theorem fn79 : Tryz.f79.ntmps = 10 := by kernel_rfl
@[go_sem] theorem fr80 : Tryz.f80.results.toList = [.tmp 2] := by kernel_rfl
@[go_sem] theorem fn80 : Tryz.f80.ntmps = 99 := by kernel_rfl
@[go_sem] theorem fr81 : Tryz.f81.results.toList = [.tmp 2] := by kernel_rfl
@[go_sem] theorem fn81 : Tryz.f81.ntmps = 20 := by kernel_rfl
@[go_sem] theorem fr84 : Tryz.f84.results.toList = [.cell 2 82] := by kernel_rfl
@[go_sem] theorem fn84 : Tryz.f84.ntmps = 18 := by kernel_rfl
@[go_sem] theorem go129 : isGo Tryz.prog 129 = true := by kernel_rfl
@[go_sem] theorem fr85 : Tryz.f85.results.toList = [.tmp 2] := by kernel_rfl
@[go_sem] theorem fn85 : Tryz.f85.ntmps = 16 := by kernel_rfl
@[go_sem] theorem fr86 : Tryz.f86.results.toList = [.tmp 4] := by kernel_rfl
@[go_sem] theorem fn86 : Tryz.f86.ntmps = 21 := by kernel_rfl
@[go_sem] theorem ty157_m : tMap Tryz.prog 157 = some (false, .int .i64 0) := by kernel_rfl
@[go_sem] theorem go130 : isGo Tryz.prog 130 = true := by kernel_rfl
@[go_sem] theorem fr87 : Tryz.f87.results.toList = [.tmp 4] := by kernel_rfl
@[go_sem] theorem fn87 : Tryz.f87.ntmps = 142 := by kernel_rfl
@[go_sem] theorem go131 : isGo Tryz.prog 131 = true := by kernel_rfl
@[go_sem] theorem fr88 : Tryz.f88.results.toList = [.tmp 4] := by kernel_rfl
@[go_sem] theorem fn88 : Tryz.f88.ntmps = 18 := by kernel_rfl
@[go_sem] theorem tz4 : tZero Tryz.prog 4 = some [.bool false] := by kernel_rfl
@[go_sem] theorem go132 : isGo Tryz.prog 132 = true := by kernel_rfl
@[go_sem] theorem fr89 : Tryz.f89.results.toList = [.tmp 4] := by kernel_rfl
@[go_sem] theorem fn89 : Tryz.f89.ntmps = 10 := by kernel_rfl
@[go_sem] theorem fr91 : Tryz.f91.results.toList = [.tmp 2, .tmp 3] := by kernel_rfl
@[go_sem] theorem fn91 : Tryz.f91.ntmps = 105 := by kernel_rfl
@[go_sem] theorem fr93 : Tryz.f93.results.toList = [.tmp 4] := by kernel_rfl
@[go_sem] theorem fn93 : Tryz.f93.ntmps = 26 := by kernel_rfl
@[go_sem] theorem ty5_n : tInt Tryz.prog 5 = some Go.IntKind.u8 := by kernel_rfl
@[go_sem] theorem ty5_u : (Tryz.prog.underlying 5).isSome = true := by kernel_rfl
@[go_sem] theorem ty161_l : tSlice Tryz.prog 161 = some (5, 1, 1) := by kernel_rfl
@[go_sem] theorem ty161_b : tIsBytes Tryz.prog 161 = true := by kernel_rfl
@[go_sem] theorem fr94 : Tryz.f94.results.toList = [.tmp 2] := by kernel_rfl
@[go_sem] theorem fn94 : Tryz.f94.ntmps = 20 := by kernel_rfl
@[go_sem] theorem fr97 : Tryz.f97.results.toList = [.tmp 4] := by kernel_rfl
@[go_sem] theorem fn97 : Tryz.f97.ntmps = 19 := by kernel_rfl
@[go_sem] theorem go134 : isGo Tryz.prog 134 = true := by kernel_rfl
@[go_sem] theorem fr100 : Tryz.f100.results.toList = [.tmp 2] := by kernel_rfl
@[go_sem] theorem fn100 : Tryz.f100.ntmps = 20 := by kernel_rfl
@[go_sem] theorem fr101 : Tryz.f101.results.toList = [.cell 2 140] := by kernel_rfl
@[go_sem] theorem fn101 : Tryz.f101.ntmps = 18 := by kernel_rfl
@[go_sem] theorem go138 : isGo Tryz.prog 138 = true := by kernel_rfl
@[go_sem] theorem fr107 : Tryz.f107.results.toList = [.tmp 4] := by kernel_rfl
@[go_sem] theorem fn107 : Tryz.f107.ntmps = 26 := by kernel_rfl
@[go_sem] theorem go143 : isGo Tryz.prog 143 = true := by kernel_rfl
@[go_sem] theorem fr118 : Tryz.f118.results.toList = [.tmp 2] := by kernel_rfl
@[go_sem] theorem fn118 : Tryz.f118.ntmps = 9 := by kernel_rfl
@[go_sem] theorem ty177_a : tAgg Tryz.prog 177 = some true := by kernel_rfl
@[go_sem] theorem ty177_s : tSize Tryz.prog 177 = some 2 := by kernel_rfl
@[go_sem] theorem ty177_f0 : tField Tryz.prog 177 0 = some (0, 9) := by kernel_rfl
@[go_sem] theorem ty177_f1 : tField Tryz.prog 177 1 = some (1, 49) := by kernel_rfl
@[go_sem] theorem ty178_a : tAgg Tryz.prog 178 = some false := by kernel_rfl
@[go_sem] theorem ty178_s : tSize Tryz.prog 178 = some 1 := by kernel_rfl
@[go_sem] theorem ty178_i : tIsSlice Tryz.prog 178 = true := by kernel_rfl
@[go_sem] theorem ty178_e : tElem Tryz.prog 178 = some 177 := by kernel_rfl
@[go_sem] theorem ty178_l : tSlice Tryz.prog 178 = some (177, 2, 40) := by kernel_rfl
@[go_sem] theorem ty178_t : tIsStr Tryz.prog 178 = false := by kernel_rfl
@[go_sem] theorem ty178_u : (Tryz.prog.underlying 178).isSome = true := by kernel_rfl
@[go_sem] theorem ty180_a : tAgg Tryz.prog 180 = some true := by kernel_rfl
@[go_sem] theorem ty180_s : tSize Tryz.prog 180 = some 6 := by kernel_rfl
@[go_sem] theorem ty180_f0 : tField Tryz.prog 180 0 = some (0, 177) := by kernel_rfl
@[go_sem] theorem ty180_f2 : tField Tryz.prog 180 2 = some (3, 49) := by kernel_rfl
@[go_sem] theorem ty180_f3 : tField Tryz.prog 180 3 = some (4, 178) := by kernel_rfl
@[go_sem] theorem ty180_f4 : tField Tryz.prog 180 4 = some (5, 178) := by kernel_rfl
@[go_sem] theorem tz180 : tZero Tryz.prog 180 = some [.string ⟨#[]⟩, .slice none 0 0, .int .i64 0, .slice none 0 0, .slice none 0 0, .slice none 0 0] := by kernel_rfl
@[go_sem] theorem tb170 : tBuild Tryz.prog 170 = some ([.int .i64 0, .int .i64 0, .int .i64 0, .string ⟨#[]⟩, .slice none 0 0], [(0, 1), (1, 4)]) := by kernel_rfl
@[go_sem] theorem go144 : isGo Tryz.prog 144 = true := by kernel_rfl
@[go_sem] theorem go145 : isGo Tryz.prog 145 = true := by kernel_rfl
@[go_sem] theorem go146 : isGo Tryz.prog 146 = true := by kernel_rfl
@[go_sem] theorem go147 : isGo Tryz.prog 147 = true := by kernel_rfl
@[go_sem] theorem fr119 : Tryz.f119.results.toList = [.tmp 4] := by kernel_rfl
@[go_sem] theorem fn119 : Tryz.f119.ntmps = 139 := by kernel_rfl
@[go_sem] theorem tz3 : tZero Tryz.prog 3 = some [.int .i64 0] := by kernel_rfl
@[go_sem] theorem go148 : isGo Tryz.prog 148 = true := by kernel_rfl
@[go_sem] theorem fr120 : Tryz.f120.results.toList = [.tmp 2] := by kernel_rfl
@[go_sem] theorem fn120 : Tryz.f120.ntmps = 9 := by kernel_rfl
@[go_sem] theorem go149 : isGo Tryz.prog 149 = true := by kernel_rfl
@[go_sem] theorem go150 : isGo Tryz.prog 150 = true := by kernel_rfl
@[go_sem] theorem go151 : isGo Tryz.prog 151 = true := by kernel_rfl
@[go_sem] theorem go152 : isGo Tryz.prog 152 = true := by kernel_rfl
@[go_sem] theorem go153 : isGo Tryz.prog 153 = true := by kernel_rfl
@[go_sem] theorem fr121 : Tryz.f121.results.toList = [.tmp 4] := by kernel_rfl
@[go_sem] theorem fn121 : Tryz.f121.ntmps = 134 := by kernel_rfl
@[go_sem] theorem ty189_i : tIsSlice Tryz.prog 189 = true := by kernel_rfl
@[go_sem] theorem ty189_e : tElem Tryz.prog 189 = some 46 := by kernel_rfl
@[go_sem] theorem ty189_l : tSlice Tryz.prog 189 = some (46, 1, 24) := by kernel_rfl
@[go_sem] theorem fr122 : Tryz.f122.results.toList = [.tmp 4] := by kernel_rfl
@[go_sem] theorem fn122 : Tryz.f122.ntmps = 100 := by kernel_rfl
@[go_sem] theorem fr123 : Tryz.f123.results.toList = [.tmp 8] := by kernel_rfl
@[go_sem] theorem fn123 : Tryz.f123.ntmps = 80 := by kernel_rfl
@[go_sem] theorem fr124 : Tryz.f124.results.toList = [.tmp 2] := by kernel_rfl
@[go_sem] theorem fn124 : Tryz.f124.ntmps = 44 := by kernel_rfl
@[go_sem] theorem fr125 : Tryz.f125.results.toList = [.tmp 4] := by kernel_rfl
@[go_sem] theorem fn125 : Tryz.f125.ntmps = 41 := by kernel_rfl
@[go_sem] theorem go154 : isGo Tryz.prog 154 = true := by kernel_rfl
@[go_sem] theorem fr126 : Tryz.f126.results.toList = [.tmp 4] := by kernel_rfl
@[go_sem] theorem fn126 : Tryz.f126.ntmps = 32 := by kernel_rfl
@[go_sem] theorem fr127 : Tryz.f127.results.toList = [.tmp 4] := by kernel_rfl
@[go_sem] theorem fn127 : Tryz.f127.ntmps = 28 := by kernel_rfl
@[go_sem] theorem go155 : isGo Tryz.prog 155 = true := by kernel_rfl
@[go_sem] theorem fr128 : Tryz.f128.results.toList = [.tmp 2] := by kernel_rfl
@[go_sem] theorem fn128 : Tryz.f128.ntmps = 106 := by kernel_rfl
@[go_sem] theorem fr129 : Tryz.f129.results.toList = [.tmp 2] := by kernel_rfl
@[go_sem] theorem fn129 : Tryz.f129.ntmps = 57 := by kernel_rfl
@[go_sem] theorem go156 : isGo Tryz.prog 156 = true := by kernel_rfl
@[go_sem] theorem fr130 : Tryz.f130.results.toList = [.tmp 2] := by kernel_rfl
@[go_sem] theorem fn130 : Tryz.f130.ntmps = 15 := by kernel_rfl
@[go_sem] theorem ty191_a : tAgg Tryz.prog 191 = some false := by kernel_rfl
@[go_sem] theorem ty191_s : tSize Tryz.prog 191 = some 1 := by kernel_rfl
@[go_sem] theorem ty191_im : tIsMap Tryz.prog 191 = true := by kernel_rfl
@[go_sem] theorem ty191_m : tMap Tryz.prog 191 = some (false, .bool false) := by kernel_rfl
@[go_sem] theorem tz191 : tZero Tryz.prog 191 = some [.map none] := by kernel_rfl
@[go_sem] theorem go160 : isGo Tryz.prog 160 = true := by kernel_rfl
@[go_sem] theorem fr131 : Tryz.f131.results.toList = [.tmp 2] := by kernel_rfl
@[go_sem] theorem fn131 : Tryz.f131.ntmps = 10 := by kernel_rfl
@[go_sem] theorem fr132 : Tryz.f132.results.toList = [] := by kernel_rfl
@[go_sem] theorem fn132 : Tryz.f132.ntmps = 20 := by kernel_rfl
@[go_sem] theorem fr133 : Tryz.f133.results.toList = [] := by kernel_rfl
@[go_sem] theorem fn133 : Tryz.f133.ntmps = 26 := by kernel_rfl
@[go_sem] theorem tb140 : tBuild Tryz.prog 140 = some ([.int .i64 0, .int .i64 0, .string ⟨#[]⟩, .slice none 0 0], [(0, 1), (1, 1), (2, 1), (3, 1)]) := by kernel_rfl
@[go_sem] theorem fr134 : Tryz.f134.results.toList = [.cell 2 140] := by kernel_rfl
@[go_sem] theorem fn134 : Tryz.f134.ntmps = 29 := by kernel_rfl
@[go_sem] theorem fr138 : Tryz.f138.results.toList = [.cell 2 140] := by kernel_rfl
@[go_sem] theorem fn138 : Tryz.f138.ntmps = 25 := by kernel_rfl
@[go_sem] theorem fr143 : Tryz.f143.results.toList = [.tmp 4] := by kernel_rfl
@[go_sem] theorem fn143 : Tryz.f143.ntmps = 28 := by kernel_rfl
@[go_sem] theorem go165 : isGo Tryz.prog 165 = true := by kernel_rfl
@[go_sem] theorem fr144 : Tryz.f144.results.toList = [.tmp 2] := by kernel_rfl
@[go_sem] theorem fn144 : Tryz.f144.ntmps = 11 := by kernel_rfl
@[go_sem] theorem tz170 : tZero Tryz.prog 170 = some [.int .i64 0, .int .i64 0, .int .i64 0, .string ⟨#[]⟩, .slice none 0 0] := by kernel_rfl
@[go_sem] theorem tb177 : tBuild Tryz.prog 177 = some ([.string ⟨#[]⟩, .slice none 0 0], [(0, 1), (1, 1)]) := by kernel_rfl
@[go_sem] theorem tb180 : tBuild Tryz.prog 180 = some ([.string ⟨#[]⟩, .slice none 0 0, .int .i64 0, .slice none 0 0, .slice none 0 0, .slice none 0 0], [(0, 2), (2, 1), (3, 1), (4, 1), (5, 1)]) := by kernel_rfl
@[go_sem] theorem go166 : isGo Tryz.prog 166 = true := by kernel_rfl
@[go_sem] theorem go167 : isGo Tryz.prog 167 = true := by kernel_rfl
@[go_sem] theorem fr145 : Tryz.f145.results.toList = [.cell 8 180, .tmp 9] := by kernel_rfl
@[go_sem] theorem fn145 : Tryz.f145.ntmps = 91 := by kernel_rfl
@[go_sem] theorem go168 : isGo Tryz.prog 168 = true := by kernel_rfl
@[go_sem] theorem go169 : isGo Tryz.prog 169 = true := by kernel_rfl
@[go_sem] theorem fr146 : Tryz.f146.results.toList = [.tmp 4] := by kernel_rfl
@[go_sem] theorem fn146 : Tryz.f146.ntmps = 21 := by kernel_rfl
@[go_sem] theorem tz177 : tZero Tryz.prog 177 = some [.string ⟨#[]⟩, .slice none 0 0] := by kernel_rfl
@[go_sem] theorem fr147 : Tryz.f147.results.toList = [.cell 4 177] := by kernel_rfl
@[go_sem] theorem fn147 : Tryz.f147.ntmps = 20 := by kernel_rfl
@[go_sem] theorem fr148 : Tryz.f148.results.toList = [.tmp 4] := by kernel_rfl
@[go_sem] theorem fn148 : Tryz.f148.ntmps = 33 := by kernel_rfl
@[go_sem] theorem go170 : isGo Tryz.prog 170 = true := by kernel_rfl
@[go_sem] theorem fr149 : Tryz.f149.results.toList = [.tmp 2] := by kernel_rfl
@[go_sem] theorem fn149 : Tryz.f149.ntmps = 9 := by kernel_rfl
@[go_sem] theorem go171 : isGo Tryz.prog 171 = true := by kernel_rfl
@[go_sem] theorem fr150 : Tryz.f150.results.toList = [.tmp 4] := by kernel_rfl
@[go_sem] theorem fn150 : Tryz.f150.ntmps = 20 := by kernel_rfl
@[go_sem] theorem fr151 : Tryz.f151.results.toList = [.cell 4 177] := by kernel_rfl
@[go_sem] theorem fn151 : Tryz.f151.ntmps = 20 := by kernel_rfl
@[go_sem] theorem go172 : isGo Tryz.prog 172 = true := by kernel_rfl
@[go_sem] theorem fr152 : Tryz.f152.results.toList = [.cell 4 177] := by kernel_rfl
@[go_sem] theorem fn152 : Tryz.f152.ntmps = 28 := by kernel_rfl
@[go_sem] theorem go173 : isGo Tryz.prog 173 = true := by kernel_rfl
@[go_sem] theorem go174 : isGo Tryz.prog 174 = true := by kernel_rfl
@[go_sem] theorem fr153 : Tryz.f153.results.toList = [.tmp 4] := by kernel_rfl
@[go_sem] theorem fn153 : Tryz.f153.ntmps = 83 := by kernel_rfl
@[go_sem] theorem go175 : isGo Tryz.prog 175 = true := by kernel_rfl
@[go_sem] theorem fr154 : Tryz.f154.results.toList = [.tmp 4] := by kernel_rfl
@[go_sem] theorem fn154 : Tryz.f154.ntmps = 26 := by kernel_rfl
@[go_sem] theorem fr155 : Tryz.f155.results.toList = [.tmp 2] := by kernel_rfl
@[go_sem] theorem fn155 : Tryz.f155.ntmps = 15 := by kernel_rfl
@[go_sem] theorem go176 : isGo Tryz.prog 176 = true := by kernel_rfl
@[go_sem] theorem fr156 : Tryz.f156.results.toList = [.tmp 2] := by kernel_rfl
@[go_sem] theorem fn156 : Tryz.f156.ntmps = 6 := by kernel_rfl
@[go_sem] theorem go158 : isGo Tryz.prog 158 = true := by kernel_rfl
@[go_sem] theorem fr157 : Tryz.f157.results.toList = [] := by kernel_rfl
@[go_sem] theorem fn157 : Tryz.f157.ntmps = 16 := by kernel_rfl
@[go_sem] theorem fr158 : Tryz.f158.results.toList = [] := by kernel_rfl
@[go_sem] theorem fn158 : Tryz.f158.ntmps = 26 := by kernel_rfl
@[go_sem] theorem fr159 : Tryz.f159.results.toList = [] := by kernel_rfl
@[go_sem] theorem fn159 : Tryz.f159.ntmps = 5 := by kernel_rfl
@[go_sem] theorem go177 : isGo Tryz.prog 177 = true := by kernel_rfl
@[go_sem] theorem fr160 : Tryz.f160.results.toList = [.tmp 2] := by kernel_rfl
@[go_sem] theorem fn160 : Tryz.f160.ntmps = 19 := by kernel_rfl
@[go_sem] theorem go178 : isGo Tryz.prog 178 = true := by kernel_rfl
@[go_sem] theorem go179 : isGo Tryz.prog 179 = true := by kernel_rfl
@[go_sem] theorem fr165 : Tryz.f165.results.toList = [.tmp 2] := by kernel_rfl
@[go_sem] theorem fn165 : Tryz.f165.ntmps = 10 := by kernel_rfl
@[go_sem] theorem go180 : isGo Tryz.prog 180 = true := by kernel_rfl
@[go_sem] theorem fr166 : Tryz.f166.results.toList = [.cell 4 52] := by kernel_rfl
@[go_sem] theorem fn166 : Tryz.f166.ntmps = 48 := by kernel_rfl
@[go_sem] theorem go181 : isGo Tryz.prog 181 = true := by kernel_rfl
@[go_sem] theorem go182 : isGo Tryz.prog 182 = true := by kernel_rfl
@[go_sem] theorem fr167 : Tryz.f167.results.toList = [.tmp 2] := by kernel_rfl
@[go_sem] theorem fn167 : Tryz.f167.ntmps = 59 := by kernel_rfl
@[go_sem] theorem fr168 : Tryz.f168.results.toList = [.tmp 2] := by kernel_rfl
@[go_sem] theorem fn168 : Tryz.f168.ntmps = 4 := by kernel_rfl
@[go_sem] theorem go183 : isGo Tryz.prog 183 = true := by kernel_rfl
@[go_sem] theorem fr169 : Tryz.f169.results.toList = [.tmp 4] := by kernel_rfl
@[go_sem] theorem fn169 : Tryz.f169.ntmps = 42 := by kernel_rfl
@[go_sem] theorem fr170 : Tryz.f170.results.toList = [.tmp 2] := by kernel_rfl
@[go_sem] theorem fn170 : Tryz.f170.ntmps = 8 := by kernel_rfl
@[go_sem] theorem go185 : isGo Tryz.prog 185 = true := by kernel_rfl
@[go_sem] theorem go186 : isGo Tryz.prog 186 = true := by kernel_rfl
@[go_sem] theorem fr171 : Tryz.f171.results.toList = [.tmp 4] := by kernel_rfl
@[go_sem] theorem fn171 : Tryz.f171.ntmps = 36 := by kernel_rfl
@[go_sem] theorem go187 : isGo Tryz.prog 187 = true := by kernel_rfl
@[go_sem] theorem fr172 : Tryz.f172.results.toList = [.cell 4 140] := by kernel_rfl
@[go_sem] theorem fn172 : Tryz.f172.ntmps = 8 := by kernel_rfl
@[go_sem] theorem fr173 : Tryz.f173.results.toList = [.tmp 4] := by kernel_rfl
@[go_sem] theorem fn173 : Tryz.f173.ntmps = 9 := by kernel_rfl
@[go_sem] theorem fr174 : Tryz.f174.results.toList = [.tmp 4] := by kernel_rfl
@[go_sem] theorem fn174 : Tryz.f174.ntmps = 31 := by kernel_rfl
@[go_sem] theorem fr175 : Tryz.f175.results.toList = [.tmp 4] := by kernel_rfl
@[go_sem] theorem fn175 : Tryz.f175.ntmps = 49 := by kernel_rfl
@[go_sem] theorem fr176 : Tryz.f176.results.toList = [.tmp 4] := by kernel_rfl
@[go_sem] theorem fn176 : Tryz.f176.ntmps = 107 := by kernel_rfl
@[go_sem] theorem fr178 : Tryz.f178.results.toList = [.tmp 4] := by kernel_rfl
@[go_sem] theorem fn178 : Tryz.f178.ntmps = 28 := by kernel_rfl
@[go_sem] theorem fr179 : Tryz.f179.results.toList = [.tmp 2] := by kernel_rfl
@[go_sem] theorem fn179 : Tryz.f179.ntmps = 76 := by kernel_rfl
@[go_sem] theorem go190 : isGo Tryz.prog 190 = true := by kernel_rfl
@[go_sem] theorem go191 : isGo Tryz.prog 191 = true := by kernel_rfl
@[go_sem] theorem fr180 : Tryz.f180.results.toList = [.cell 4 140] := by kernel_rfl
@[go_sem] theorem fn180 : Tryz.f180.ntmps = 36 := by kernel_rfl
@[go_sem] theorem fr181 : Tryz.f181.results.toList = [.tmp 4] := by kernel_rfl
@[go_sem] theorem fn181 : Tryz.f181.ntmps = 9 := by kernel_rfl
@[go_sem] theorem fr182 : Tryz.f182.results.toList = [.tmp 4] := by kernel_rfl
@[go_sem] theorem fn182 : Tryz.f182.ntmps = 27 := by kernel_rfl
@[go_sem] theorem fr183 : Tryz.f183.results.toList = [.tmp 4] := by kernel_rfl
@[go_sem] theorem fn183 : Tryz.f183.ntmps = 68 := by kernel_rfl
@[go_sem] theorem fr184 : Tryz.f184.results.toList = [] := by kernel_rfl
@[go_sem] theorem fn184 : Tryz.f184.ntmps = 3 := by kernel_rfl
@[go_sem] theorem fr185 : Tryz.f185.results.toList = [.tmp 4] := by kernel_rfl
@[go_sem] theorem fn185 : Tryz.f185.ntmps = 60 := by kernel_rfl
@[go_sem] theorem fr186 : Tryz.f186.results.toList = [.tmp 4] := by kernel_rfl
@[go_sem] theorem fn186 : Tryz.f186.ntmps = 11 := by kernel_rfl
@[go_sem] theorem go192 : isGo Tryz.prog 192 = true := by kernel_rfl
@[go_sem] theorem fr187 : Tryz.f187.results.toList = [.cell 4 140] := by kernel_rfl
@[go_sem] theorem fn187 : Tryz.f187.ntmps = 38 := by kernel_rfl
@[go_sem] theorem fr188 : Tryz.f188.results.toList = [.cell 3 140, .tmp 4] := by kernel_rfl
@[go_sem] theorem fn188 : Tryz.f188.ntmps = 9 := by kernel_rfl
@[go_sem] theorem fr190 : Tryz.f190.results.toList = [.cell 4 140, .tmp 5] := by kernel_rfl
@[go_sem] theorem fn190 : Tryz.f190.ntmps = 22 := by kernel_rfl
@[go_sem] theorem fr191 : Tryz.f191.results.toList = [.cell 4 140] := by kernel_rfl
@[go_sem] theorem fn191 : Tryz.f191.ntmps = 9 := by kernel_rfl
@[go_sem] theorem fr192 : Tryz.f192.results.toList = [.cell 4 140] := by kernel_rfl
@[go_sem] theorem fn192 : Tryz.f192.ntmps = 9 := by kernel_rfl
end Go.Proofs.YtbncaodnnbldmaaGreat
