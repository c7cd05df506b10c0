import Derived.Test.YtgkahnlbgkoplaaGreatP1
import Derived.Test.YtgkahnlbgkoplaaGreatA5
import Derived.Test.YtgkahnlbgkoplaaGreatProg
import Derived.KernelRfl
namespace Go.Proofs.YtgkahnlbgkoplaaGreat
open Go.Abs
theorem mixed : Tryz.prog.follows .mixedOrders = true := by kernel_rfl
@[go_sem] theorem ty3_a : tAgg Tryz.prog 3 = some false := by kernel_rfl
@[go_sem] theorem ty3_s : tSize Tryz.prog 3 = some 1 := by kernel_rfl
@[go_sem] theorem ty3_n : tInt Tryz.prog 3 = some Go.IntKind.i64 := by kernel_rfl
@[go_sem] theorem ty3_u : (Tryz.prog.underlying 3).isSome = true := by kernel_rfl
@[go_sem] theorem ty4_a : tAgg Tryz.prog 4 = some false := by kernel_rfl
@[go_sem] theorem ty4_s : tSize Tryz.prog 4 = some 1 := by kernel_rfl
@[go_sem] theorem ty4_u : Tryz.prog.underlying 4 = some .bool := by kernel_rfl
@[go_sem] theorem ty9_a : tAgg Tryz.prog 9 = some false := by kernel_rfl
@[go_sem] theorem ty9_s : tSize Tryz.prog 9 = some 1 := by kernel_rfl
@[go_sem] theorem ty9_t : tIsStr Tryz.prog 9 = true := by kernel_rfl
@[go_sem] theorem ty22_a : tAgg Tryz.prog 22 = some false := by kernel_rfl
@[go_sem] theorem ty22_s : tSize Tryz.prog 22 = some 1 := by kernel_rfl
@[go_sem] theorem ty22_i : tIsSlice Tryz.prog 22 = true := by kernel_rfl
@[go_sem] theorem ty22_e : tElem Tryz.prog 22 = some 74 := by kernel_rfl
@[go_sem] theorem ty24_a : tAgg Tryz.prog 24 = some true := by kernel_rfl
@[go_sem] theorem ty24_s : tSize Tryz.prog 24 = some 1 := by kernel_rfl
@[go_sem] theorem ty24_f0 : tField Tryz.prog 24 0 = some (0, 22) := by kernel_rfl
@[go_sem] theorem ty25_a : tAgg Tryz.prog 25 = some false := by kernel_rfl
@[go_sem] theorem ty25_s : tSize Tryz.prog 25 = some 1 := by kernel_rfl
@[go_sem] theorem ty25_i : tIsSlice Tryz.prog 25 = true := by kernel_rfl
@[go_sem] theorem ty25_e : tElem Tryz.prog 25 = some 49 := by kernel_rfl
@[go_sem] theorem ty28_a : tAgg Tryz.prog 28 = some false := by kernel_rfl
@[go_sem] theorem ty28_s : tSize Tryz.prog 28 = some 1 := by kernel_rfl
@[go_sem] theorem ty28_i : tIsSlice Tryz.prog 28 = true := by kernel_rfl
@[go_sem] theorem ty28_e : tElem Tryz.prog 28 = some 59 := by kernel_rfl
@[go_sem] theorem ty28_l : tSlice Tryz.prog 28 = some (59, 4, 56) := by kernel_rfl
@[go_sem] theorem ty28_t : tIsStr Tryz.prog 28 = false := by kernel_rfl
@[go_sem] theorem ty28_u : (Tryz.prog.underlying 28).isSome = true := by kernel_rfl
@[go_sem] theorem ty29_a : tAgg Tryz.prog 29 = some false := by kernel_rfl
@[go_sem] theorem ty29_s : tSize Tryz.prog 29 = some 1 := by kernel_rfl
@[go_sem] theorem ty29_i : tIsSlice Tryz.prog 29 = true := by kernel_rfl
@[go_sem] theorem ty29_e : tElem Tryz.prog 29 = some 31 := by kernel_rfl
@[go_sem] theorem ty29_l : tSlice Tryz.prog 29 = some (31, 4, 72) := by kernel_rfl
@[go_sem] theorem ty29_t : tIsStr Tryz.prog 29 = false := by kernel_rfl
@[go_sem] theorem ty29_u : (Tryz.prog.underlying 29).isSome = true := by kernel_rfl
@[go_sem] theorem ty31_a : tAgg Tryz.prog 31 = some true := by kernel_rfl
@[go_sem] theorem ty31_s : tSize Tryz.prog 31 = some 4 := by kernel_rfl
@[go_sem] theorem ty31_f0 : tField Tryz.prog 31 0 = some (0, 3) := by kernel_rfl
@[go_sem] theorem ty31_f1 : tField Tryz.prog 31 1 = some (1, 9) := by kernel_rfl
@[go_sem] theorem ty31_f2 : tField Tryz.prog 31 2 = some (2, 28) := by kernel_rfl
@[go_sem] theorem ty31_f3 : tField Tryz.prog 31 3 = some (3, 29) := by kernel_rfl
@[go_sem] theorem ty34_a : tAgg Tryz.prog 34 = some false := by kernel_rfl
@[go_sem] theorem ty34_s : tSize Tryz.prog 34 = some 1 := by kernel_rfl
@[go_sem] theorem ty34_i : tIsSlice Tryz.prog 34 = true := by kernel_rfl
@[go_sem] theorem ty34_e : tElem Tryz.prog 34 = some 53 := by kernel_rfl
@[go_sem] theorem ty34_l : tSlice Tryz.prog 34 = some (53, 7, 104) := by kernel_rfl
@[go_sem] theorem ty36_a : tAgg Tryz.prog 36 = some true := by kernel_rfl
@[go_sem] theorem ty36_s : tSize Tryz.prog 36 = some 1 := by kernel_rfl
@[go_sem] theorem ty36_f0 : tField Tryz.prog 36 0 = some (0, 34) := by kernel_rfl
@[go_sem] theorem ty49_a : tAgg Tryz.prog 49 = some true := by kernel_rfl
@[go_sem] theorem ty49_s : tSize Tryz.prog 49 = some 4 := by kernel_rfl
@[go_sem] theorem ty49_f0 : tField Tryz.prog 49 0 = some (0, 3) := by kernel_rfl
@[go_sem] theorem ty49_f1 : tField Tryz.prog 49 1 = some (1, 3) := by kernel_rfl
@[go_sem] theorem ty49_f2 : tField Tryz.prog 49 2 = some (2, 9) := by kernel_rfl
@[go_sem] theorem ty49_f3 : tField Tryz.prog 49 3 = some (3, 25) := by kernel_rfl
@[go_sem] theorem ty53_a : tAgg Tryz.prog 53 = some true := by kernel_rfl
@[go_sem] theorem ty53_s : tSize Tryz.prog 53 = some 7 := by kernel_rfl
@[go_sem] theorem ty53_f0 : tField Tryz.prog 53 0 = some (0, 9) := by kernel_rfl
@[go_sem] theorem ty53_f1 : tField Tryz.prog 53 1 = some (1, 3) := by kernel_rfl
@[go_sem] theorem ty53_f2 : tField Tryz.prog 53 2 = some (2, 3) := by kernel_rfl
@[go_sem] theorem ty53_f3 : tField Tryz.prog 53 3 = some (3, 31) := by kernel_rfl
@[go_sem] theorem ty59_a : tAgg Tryz.prog 59 = some true := by kernel_rfl
@[go_sem] theorem ty59_s : tSize Tryz.prog 59 = some 4 := by kernel_rfl
@[go_sem] theorem ty59_f0 : tField Tryz.prog 59 0 = some (0, 3) := by kernel_rfl
@[go_sem] theorem ty59_f1 : tField Tryz.prog 59 1 = some (1, 3) := by kernel_rfl
@[go_sem] theorem ty59_f2 : tField Tryz.prog 59 2 = some (2, 9) := by kernel_rfl
@[go_sem] theorem ty59_f3 : tField Tryz.prog 59 3 = some (3, 28) := by kernel_rfl
@[go_sem] theorem ty70_a : tAgg Tryz.prog 70 = some false := by kernel_rfl
@[go_sem] theorem ty70_s : tSize Tryz.prog 70 = some 1 := by kernel_rfl
@[go_sem] theorem ty70_i : tIsSlice Tryz.prog 70 = true := by kernel_rfl
@[go_sem] theorem ty70_e : tElem Tryz.prog 70 = some 72 := by kernel_rfl
@[go_sem] theorem ty72_a : tAgg Tryz.prog 72 = some true := by kernel_rfl
@[go_sem] theorem ty72_s : tSize Tryz.prog 72 = some 4 := by kernel_rfl
@[go_sem] theorem ty72_f0 : tField Tryz.prog 72 0 = some (0, 3) := by kernel_rfl
@[go_sem] theorem ty72_f1 : tField Tryz.prog 72 1 = some (1, 9) := by kernel_rfl
@[go_sem] theorem ty72_f2 : tField Tryz.prog 72 2 = some (2, 25) := by kernel_rfl
@[go_sem] theorem ty72_f3 : tField Tryz.prog 72 3 = some (3, 70) := by kernel_rfl
@[go_sem] theorem ty74_a : tAgg Tryz.prog 74 = some true := by kernel_rfl
@[go_sem] theorem ty74_s : tSize Tryz.prog 74 = some 7 := by kernel_rfl
@[go_sem] theorem ty74_f0 : tField Tryz.prog 74 0 = some (0, 9) := by kernel_rfl
@[go_sem] theorem ty74_f1 : tField Tryz.prog 74 1 = some (1, 3) := by kernel_rfl
@[go_sem] theorem ty74_f2 : tField Tryz.prog 74 2 = some (2, 3) := by kernel_rfl
@[go_sem] theorem ty74_f3 : tField Tryz.prog 74 3 = some (3, 72) := by kernel_rfl
@[go_sem] theorem tz31 : tZero Tryz.prog 31 = some [.int .i64 0, .string ⟨#[]⟩, .slice none 0 0, .slice none 0 0] := by kernel_rfl
@[go_sem] theorem tz36 : tZero Tryz.prog 36 = some [.slice none 0 0] := by kernel_rfl
@[go_sem] theorem go4 : isGo Tryz.prog 4 = true := by kernel_rfl
@[go_sem] theorem go5 : isGo Tryz.prog 5 = true := by kernel_rfl
@[go_sem] theorem go6 : isGo Tryz.prog 6 = true := by kernel_rfl
@[go_sem] theorem go7 : isGo Tryz.prog 7 = true := by kernel_rfl
@[go_sem] theorem go8 : isGo Tryz.prog 8 = true := by kernel_rfl
@[go_sem] theorem go9 : isGo Tryz.prog 9 = true := by kernel_rfl
@[go_sem] theorem go10 : isGo Tryz.prog 10 = true := by kernel_rfl
@[go_sem] theorem go11 : isGo Tryz.prog 11 = true := by kernel_rfl
@[go_sem] theorem go12 : isGo Tryz.prog 12 = true := by kernel_rfl
@[go_sem] theorem go13 : isGo Tryz.prog 13 = true := by kernel_rfl
@[go_sem] theorem go14 : isGo Tryz.prog 14 = true := by kernel_rfl
@[go_sem] theorem go15 : isGo Tryz.prog 15 = true := by kernel_rfl
@[go_sem] theorem go16 : isGo Tryz.prog 16 = true := by kernel_rfl
@[go_sem] theorem fr3 : Tryz.f3.results.toList = [.tmp 8] := by kernel_rfl
@[go_sem] theorem fn3 : Tryz.f3.ntmps = 153 := by kernel_rfl
@[go_sem] theorem go17 : isGo Tryz.prog 17 = true := by kernel_rfl
@[go_sem] theorem fr4 : Tryz.f4.results.toList = [.tmp 4] := by kernel_rfl
@[go_sem] theorem fn4 : Tryz.f4.ntmps = 12 := by kernel_rfl
@[go_sem] theorem go18 : isGo Tryz.prog 18 = true := by kernel_rfl
@[go_sem] theorem fr5 : Tryz.f5.results.toList = [.tmp 4] := by kernel_rfl
@[go_sem] theorem fn5 : Tryz.f5.ntmps = 27 := by kernel_rfl
@[go_sem] theorem tb31 : tBuild Tryz.prog 31 = some ([.int .i64 0, .string ⟨#[]⟩, .slice none 0 0, .slice none 0 0], [(0, 1), (1, 1), (2, 1), (3, 1)]) := by kernel_rfl
@[go_sem] theorem go19 : isGo Tryz.prog 19 = true := by kernel_rfl
@[go_sem] theorem go20 : isGo Tryz.prog 20 = true := by kernel_rfl
@[go_sem] theorem go21 : isGo Tryz.prog 21 = true := by kernel_rfl
@[go_sem] theorem go22 : isGo Tryz.prog 22 = true := by kernel_rfl
@[go_sem] theorem go23 : isGo Tryz.prog 23 = true := by kernel_rfl
@[go_sem] theorem fr6 : Tryz.f6.results.toList = [.cell 8 31, .tmp 9, .tmp 10] := by kernel_rfl
@[go_sem] theorem fn6 : Tryz.f6.ntmps = 73 := by kernel_rfl
@[go_sem] theorem go24 : isGo Tryz.prog 24 = true := by kernel_rfl
@[go_sem] theorem fr7 : Tryz.f7.results.toList = [.cell 2 36] := by kernel_rfl
@[go_sem] theorem fn7 : Tryz.f7.ntmps = 9 := by kernel_rfl
@[go_sem] theorem tz59 : tZero Tryz.prog 59 = some [.int .i64 0, .int .i64 0, .string ⟨#[]⟩, .slice none 0 0] := by kernel_rfl
@[go_sem] theorem go25 : isGo Tryz.prog 25 = true := by kernel_rfl
@[go_sem] theorem fr8 : Tryz.f8.results.toList = [.tmp 2] := by kernel_rfl
@[go_sem] theorem fn8 : Tryz.f8.ntmps = 23 := by kernel_rfl
@[go_sem] theorem go26 : isGo Tryz.prog 26 = true := by kernel_rfl
@[go_sem] theorem go27 : isGo Tryz.prog 27 = true := by kernel_rfl
@[go_sem] theorem go28 : isGo Tryz.prog 28 = true := by kernel_rfl
@[go_sem] theorem go29 : isGo Tryz.prog 29 = true := by kernel_rfl
@[go_sem] theorem fr9 : Tryz.f9.results.toList = [.cell 8 31, .tmp 9, .tmp 10] := by kernel_rfl
@[go_sem] theorem fn9 : Tryz.f9.ntmps = 64 := by kernel_rfl
@[go_sem] theorem go30 : isGo Tryz.prog 30 = true := by kernel_rfl
@[go_sem] theorem fr10 : Tryz.f10.results.toList = [.tmp 4] := by kernel_rfl
@[go_sem] theorem fn10 : Tryz.f10.ntmps = 27 := by kernel_rfl
@[go_sem] theorem go31 : isGo Tryz.prog 31 = true := by kernel_rfl
@[go_sem] theorem fr11 : Tryz.f11.results.toList = [.tmp 4] := by kernel_rfl
@[go_sem] theorem fn11 : Tryz.f11.ntmps = 11 := by kernel_rfl
@[go_sem] theorem go32 : isGo Tryz.prog 32 = true := by kernel_rfl
@[go_sem] theorem fr12 : Tryz.f12.results.toList = [.tmp 4] := by kernel_rfl
@[go_sem] theorem fn12 : Tryz.f12.ntmps = 27 := by kernel_rfl
@[go_sem] theorem go33 : isGo Tryz.prog 33 = true := by kernel_rfl
@[go_sem] theorem fr13 : Tryz.f13.results.toList = [.tmp 4] := by kernel_rfl
@[go_sem] theorem fn13 : Tryz.f13.ntmps = 10 := by kernel_rfl
@[go_sem] theorem go34 : isGo Tryz.prog 34 = true := by kernel_rfl
@[go_sem] theorem fr14 : Tryz.f14.results.toList = [.tmp 4] := by kernel_rfl
@[go_sem] theorem fn14 : Tryz.f14.ntmps = 42 := by kernel_rfl
@[go_sem] theorem go35 : isGo Tryz.prog 35 = true := by kernel_rfl
@[go_sem] theorem fr15 : Tryz.f15.results.toList = [.tmp 4] := by kernel_rfl
@[go_sem] theorem fn15 : Tryz.f15.ntmps = 14 := by kernel_rfl
@[go_sem] theorem go36 : isGo Tryz.prog 36 = true := by kernel_rfl
@[go_sem] theorem go37 : isGo Tryz.prog 37 = true := by kernel_rfl
@[go_sem] theorem fr16 : Tryz.f16.results.toList = [.tmp 4] := by kernel_rfl
@[go_sem] theorem fn16 : Tryz.f16.ntmps = 18 := by kernel_rfl
@[go_sem] theorem go38 : isGo Tryz.prog 38 = true := by kernel_rfl
@[go_sem] theorem fr17 : Tryz.f17.results.toList = [.tmp 4] := by kernel_rfl
@[go_sem] theorem fn17 : Tryz.f17.ntmps = 27 := by kernel_rfl
@[go_sem] theorem fr18 : Tryz.f18.results.toList = [.tmp 4] := by kernel_rfl
@[go_sem] theorem fn18 : Tryz.f18.ntmps = 19 := by kernel_rfl
@[go_sem] theorem go39 : isGo Tryz.prog 39 = true := by kernel_rfl
@[go_sem] theorem go40 : isGo Tryz.prog 40 = true := by kernel_rfl
@[go_sem] theorem fr19 : Tryz.f19.results.toList = [.tmp 4] := by kernel_rfl
@[go_sem] theorem fn19 : Tryz.f19.ntmps = 11 := by kernel_rfl
@[go_sem] theorem go41 : isGo Tryz.prog 41 = true := by kernel_rfl
@[go_sem] theorem fr20 : Tryz.f20.results.toList = [.tmp 2] := by kernel_rfl
@[go_sem] theorem fn20 : Tryz.f20.ntmps = 15 := by kernel_rfl
@[go_sem] theorem fr21 : Tryz.f21.results.toList = [.tmp 6] := by kernel_rfl
@[go_sem] theorem fn21 : Tryz.f21.ntmps = 15 := by kernel_rfl
@[go_sem] theorem go42 : isGo Tryz.prog 42 = true := by kernel_rfl
@[go_sem] theorem fr22 : Tryz.f22.results.toList = [.cell 2 31] := by kernel_rfl
@[go_sem] theorem fn22 : Tryz.f22.ntmps = 30 := by kernel_rfl
@[go_sem] theorem go43 : isGo Tryz.prog 43 = true := by kernel_rfl
@[go_sem] theorem go44 : isGo Tryz.prog 44 = true := by kernel_rfl
@[go_sem] theorem go45 : isGo Tryz.prog 45 = true := by kernel_rfl
@[go_sem] theorem fr23 : Tryz.f23.results.toList = [.cell 6 31] := by kernel_rfl
@[go_sem] theorem fn23 : Tryz.f23.ntmps = 41 := by kernel_rfl
@[go_sem] theorem tz53 : tZero Tryz.prog 53 = some [.string ⟨#[]⟩, .int .i64 0, .int .i64 0, .int .i64 0, .string ⟨#[]⟩, .slice none 0 0, .slice none 0 0] := by kernel_rfl
@[go_sem] theorem go46 : isGo Tryz.prog 46 = true := by kernel_rfl
@[go_sem] theorem fr24 : Tryz.f24.results.toList = [.tmp 2] := by kernel_rfl
@[go_sem] theorem fn24 : Tryz.f24.ntmps = 23 := by kernel_rfl
@[go_sem] theorem fr25 : Tryz.f25.results.toList = [.cell 2 59] := by kernel_rfl
@[go_sem] theorem fn25 : Tryz.f25.ntmps = 18 := by kernel_rfl
@[go_sem] theorem go47 : isGo Tryz.prog 47 = true := by kernel_rfl
@[go_sem] theorem go48 : isGo Tryz.prog 48 = true := by kernel_rfl
@[go_sem] theorem go49 : isGo Tryz.prog 49 = true := by kernel_rfl
@[go_sem] theorem go50 : isGo Tryz.prog 50 = true := by kernel_rfl
@[go_sem] theorem fr26 : Tryz.f26.results.toList = [.tmp 2] := by kernel_rfl
@[go_sem] theorem fn26 : Tryz.f26.ntmps = 72 := by kernel_rfl
@[go_sem] theorem go51 : isGo Tryz.prog 51 = true := by kernel_rfl
@[go_sem] theorem fr27 : Tryz.f27.results.toList = [.tmp 2] := by kernel_rfl
@[go_sem] theorem fn27 : Tryz.f27.ntmps = 15 := by kernel_rfl
@[go_sem] theorem fr28 : Tryz.f28.results.toList = [.tmp 4] := by kernel_rfl
@[go_sem] theorem fn28 : Tryz.f28.ntmps = 21 := by kernel_rfl
@[go_sem] theorem go52 : isGo Tryz.prog 52 = true := by kernel_rfl
@[go_sem] theorem go53 : isGo Tryz.prog 53 = true := by kernel_rfl
@[go_sem] theorem go54 : isGo Tryz.prog 54 = true := by kernel_rfl
@[go_sem] theorem go55 : isGo Tryz.prog 55 = true := by kernel_rfl
@[go_sem] theorem fr29 : Tryz.f29.results.toList = [.cell 6 31, .tmp 7, .tmp 8] := by kernel_rfl
@[go_sem] theorem fn29 : Tryz.f29.ntmps = 62 := by kernel_rfl
@[go_sem] theorem fr30 : Tryz.f30.results.toList = [.tmp 4] := by kernel_rfl
@[go_sem] theorem fn30 : Tryz.f30.ntmps = 27 := by kernel_rfl
@[go_sem] theorem go57 : isGo Tryz.prog 57 = true := by kernel_rfl
@[go_sem] theorem fr31 : Tryz.f31.results.toList = [.tmp 4] := by kernel_rfl
@[go_sem] theorem fn31 : Tryz.f31.ntmps = 27 := by kernel_rfl
@[go_sem] theorem fr32 : Tryz.f32.results.toList = [.tmp 4] := by kernel_rfl
@[go_sem] theorem fn32 : Tryz.f32.ntmps = 26 := by kernel_rfl
@[go_sem] theorem fr33 : Tryz.f33.results.toList = [.tmp 4] := by kernel_rfl
@[go_sem] theorem fn33 : Tryz.f33.ntmps = 68 := by kernel_rfl
@[go_sem] theorem ty5_n : tInt Tryz.prog 5 = some Go.IntKind.u8 := by kernel_rfl
@[go_sem] theorem ty5_u : (Tryz.prog.underlying 5).isSome = true := by kernel_rfl
@[go_sem] theorem ty90_l : tSlice Tryz.prog 90 = some (5, 1, 1) := by kernel_rfl
@[go_sem] theorem ty90_b : tIsBytes Tryz.prog 90 = true := by kernel_rfl
@[go_sem] theorem fr34 : Tryz.f34.results.toList = [.tmp 2] := by kernel_rfl
@[go_sem] theorem fn34 : Tryz.f34.ntmps = 20 := by kernel_rfl
@[go_sem] theorem fr35 : Tryz.f35.results.toList = [.tmp 4] := by kernel_rfl
@[go_sem] theorem fn35 : Tryz.f35.ntmps = 42 := by kernel_rfl
@[go_sem] theorem fr36 : Tryz.f36.results.toList = [.tmp 4] := by kernel_rfl
@[go_sem] theorem fn36 : Tryz.f36.ntmps = 50 := by kernel_rfl
@[go_sem] theorem fr37 : Tryz.f37.results.toList = [.tmp 4] := by kernel_rfl
@[go_sem] theorem fn37 : Tryz.f37.ntmps = 50 := by kernel_rfl
@[go_sem] theorem go58 : isGo Tryz.prog 58 = true := by kernel_rfl
@[go_sem] theorem fr38 : Tryz.f38.results.toList = [.tmp 4] := by kernel_rfl
@[go_sem] theorem fn38 : Tryz.f38.ntmps = 19 := by kernel_rfl
@[go_sem] theorem go59 : isGo Tryz.prog 59 = true := by kernel_rfl
@[go_sem] theorem go60 : isGo Tryz.prog 60 = true := by kernel_rfl
@[go_sem] theorem go61 : isGo Tryz.prog 61 = true := by kernel_rfl
@[go_sem] theorem fr39 : Tryz.f39.results.toList = [.tmp 2] := by kernel_rfl
@[go_sem] theorem fn39 : Tryz.f39.ntmps = 60 := by kernel_rfl
@[go_sem] theorem fr40 : Tryz.f40.results.toList = [.tmp 4] := by kernel_rfl
@[go_sem] theorem fn40 : Tryz.f40.ntmps = 21 := by kernel_rfl
@[go_sem] theorem go62 : isGo Tryz.prog 62 = true := by kernel_rfl
@[go_sem] theorem go63 : isGo Tryz.prog 63 = true := by kernel_rfl
@[go_sem] theorem fr41 : Tryz.f41.results.toList = [.tmp 2] := by kernel_rfl
@[go_sem] theorem fn41 : Tryz.f41.ntmps = 10 := by kernel_rfl
@[go_sem] theorem go64 : isGo Tryz.prog 64 = true := by kernel_rfl
@[go_sem] theorem fr42 : Tryz.f42.results.toList = [.tmp 2] := by kernel_rfl
@[go_sem] theorem fn42 : Tryz.f42.ntmps = 20 := by kernel_rfl
@[go_sem] theorem fr43 : Tryz.f43.results.toList = [.cell 6 31] := by kernel_rfl
@[go_sem] theorem fn43 : Tryz.f43.ntmps = 11 := by kernel_rfl
@[go_sem] theorem tb59 : tBuild Tryz.prog 59 = some ([.int .i64 0, .int .i64 0, .string ⟨#[]⟩, .slice none 0 0], [(0, 1), (1, 1), (2, 1), (3, 1)]) := by kernel_rfl
@[go_sem] theorem fr44 : Tryz.f44.results.toList = [.cell 2 59] := by kernel_rfl
@[go_sem] theorem fn44 : Tryz.f44.ntmps = 5 := by kernel_rfl
@[go_sem] theorem go65 : isGo Tryz.prog 65 = true := by kernel_rfl
@[go_sem] theorem fr45 : Tryz.f45.results.toList = [.cell 4 31] := by kernel_rfl
@[go_sem] theorem fn45 : Tryz.f45.ntmps = 48 := by kernel_rfl
@[go_sem] theorem go66 : isGo Tryz.prog 66 = true := by kernel_rfl
@[go_sem] theorem fr46 : Tryz.f46.results.toList = [.cell 2 53] := by kernel_rfl
@[go_sem] theorem fn46 : Tryz.f46.ntmps = 18 := by kernel_rfl
@[go_sem] theorem go67 : isGo Tryz.prog 67 = true := by kernel_rfl
@[go_sem] theorem fr47 : Tryz.f47.results.toList = [.tmp 2] := by kernel_rfl
@[go_sem] theorem fn47 : Tryz.f47.ntmps = 16 := by kernel_rfl
@[go_sem] theorem ty96_m : tMap Tryz.prog 96 = some (false, .int .i64 0) := by kernel_rfl
@[go_sem] theorem fr48 : Tryz.f48.results.toList = [.tmp 4] := by kernel_rfl
@[go_sem] theorem fn48 : Tryz.f48.ntmps = 142 := by kernel_rfl
@[go_sem] theorem ty97_i : tIsSlice Tryz.prog 97 = true := by kernel_rfl
@[go_sem] theorem ty97_e : tElem Tryz.prog 97 = some 3 := by kernel_rfl
@[go_sem] theorem ty97_l : tSlice Tryz.prog 97 = some (3, 1, 8) := by kernel_rfl
@[go_sem] theorem ty97_u : (Tryz.prog.underlying 97).isSome = true := by kernel_rfl
@[go_sem] theorem go68 : isGo Tryz.prog 68 = true := by kernel_rfl
@[go_sem] theorem fr49 : Tryz.f49.results.toList = [.tmp 4] := by kernel_rfl
@[go_sem] theorem fn49 : Tryz.f49.ntmps = 18 := by kernel_rfl
@[go_sem] theorem tz4 : tZero Tryz.prog 4 = some [.bool false] := by kernel_rfl
@[go_sem] theorem go69 : isGo Tryz.prog 69 = true := by kernel_rfl
@[go_sem] theorem fr50 : Tryz.f50.results.toList = [.tmp 4] := by kernel_rfl
@[go_sem] theorem fn50 : Tryz.f50.ntmps = 10 := by kernel_rfl
@[go_sem] theorem go71 : isGo Tryz.prog 71 = true := by kernel_rfl
@[go_sem] theorem fr51 : Tryz.f51.results.toList = [.tmp 2] := by kernel_rfl
@[go_sem] theorem fn51 : Tryz.f51.ntmps = 6 := by kernel_rfl
@[go_sem] theorem fr52 : Tryz.f52.results.toList = [.cell 2 59] := by kernel_rfl
@[go_sem] theorem fn52 : Tryz.f52.ntmps = 5 := by kernel_rfl
@[go_sem] theorem fr53 : Tryz.f53.results.toList = [.cell 2 59] := by kernel_rfl
@[go_sem] theorem fn53 : Tryz.f53.ntmps = 25 := by kernel_rfl
@[go_sem] theorem fr54 : Tryz.f54.results.toList = [.cell 4 31, .tmp 5] := by kernel_rfl
@[go_sem] theorem fn54 : Tryz.f54.ntmps = 67 := by kernel_rfl
@[go_sem] theorem go56 : isGo Tryz.prog 56 = true := by kernel_rfl
@[go_sem] theorem fr55 : Tryz.f55.results.toList = [.cell 3 59, .tmp 4] := by kernel_rfl
@[go_sem] theorem fn55 : Tryz.f55.ntmps = 8 := by kernel_rfl
@[go_sem] theorem go72 : isGo Tryz.prog 72 = true := by kernel_rfl
@[go_sem] theorem go73 : isGo Tryz.prog 73 = true := by kernel_rfl
@[go_sem] theorem fr56 : Tryz.f56.results.toList = [.cell 4 59] := by kernel_rfl
@[go_sem] theorem fn56 : Tryz.f56.ntmps = 8 := by kernel_rfl
@[go_sem] theorem fr57 : Tryz.f57.results.toList = [.tmp 4] := by kernel_rfl
@[go_sem] theorem fn57 : Tryz.f57.ntmps = 26 := by kernel_rfl
@[go_sem] theorem go74 : isGo Tryz.prog 74 = true := by kernel_rfl
@[go_sem] theorem fr58 : Tryz.f58.results.toList = [.tmp 4] := by kernel_rfl
@[go_sem] theorem fn58 : Tryz.f58.ntmps = 25 := by kernel_rfl
@[go_sem] theorem ty105_i : tIsSlice Tryz.prog 105 = true := by kernel_rfl
@[go_sem] theorem ty105_e : tElem Tryz.prog 105 = some 9 := by kernel_rfl
@[go_sem] theorem ty105_l : tSlice Tryz.prog 105 = some (9, 1, 16) := by kernel_rfl
@[go_sem] theorem go75 : isGo Tryz.prog 75 = true := by kernel_rfl
@[go_sem] theorem fr59 : Tryz.f59.results.toList = [.tmp 2] := by kernel_rfl
@[go_sem] theorem fn59 : Tryz.f59.ntmps = 17 := by kernel_rfl
@[go_sem] theorem go76 : isGo Tryz.prog 76 = true := by kernel_rfl
@[go_sem] theorem go77 : isGo Tryz.prog 77 = true := by kernel_rfl
@[go_sem] theorem go78 : isGo Tryz.prog 78 = true := by kernel_rfl
@[go_sem] theorem fr60 : Tryz.f60.results.toList = [.tmp 6] := by kernel_rfl
@[go_sem] theorem fn60 : Tryz.f60.ntmps = 32 := by kernel_rfl
@[go_sem] theorem go79 : isGo Tryz.prog 79 = true := by kernel_rfl
@[go_sem] theorem fr61 : Tryz.f61.results.toList = [.tmp 2] := by kernel_rfl
@[go_sem] theorem fn61 : Tryz.f61.ntmps = 8 := by kernel_rfl
@[go_sem] theorem fr62 : Tryz.f62.results.toList = [.tmp 4] := by kernel_rfl
@[go_sem] theorem fn62 : Tryz.f62.ntmps = 28 := by kernel_rfl
@[go_sem] theorem fr63 : Tryz.f63.results.toList = [.tmp 2] := by kernel_rfl
@[go_sem] theorem fn63 : Tryz.f63.ntmps = 76 := by kernel_rfl
@[go_sem] theorem fr64 : Tryz.f64.results.toList = [.cell 2 59] := by kernel_rfl
@[go_sem] theorem fn64 : Tryz.f64.ntmps = 29 := by kernel_rfl
@[go_sem] theorem go80 : isGo Tryz.prog 80 = true := by kernel_rfl
@[go_sem] theorem fr65 : Tryz.f65.results.toList = [.cell 4 59] := by kernel_rfl
@[go_sem] theorem fn65 : Tryz.f65.ntmps = 30 := by kernel_rfl
@[go_sem] theorem go81 : isGo Tryz.prog 81 = true := by kernel_rfl
@[go_sem] theorem fr66 : Tryz.f66.results.toList = [.cell 2 31] := by kernel_rfl
@[go_sem] theorem fn66 : Tryz.f66.ntmps = 19 := by kernel_rfl
@[go_sem] theorem fr67 : Tryz.f67.results.toList = [.tmp 2] := by kernel_rfl
@[go_sem] theorem fn67 : Tryz.f67.ntmps = 57 := by kernel_rfl
@[go_sem] theorem ty110_a : tAgg Tryz.prog 110 = some false := by kernel_rfl
@[go_sem] theorem ty110_s : tSize Tryz.prog 110 = some 1 := by kernel_rfl
@[go_sem] theorem ty110_im : tIsMap Tryz.prog 110 = true := by kernel_rfl
@[go_sem] theorem ty110_m : tMap Tryz.prog 110 = some (false, .bool false) := by kernel_rfl
@[go_sem] theorem tz110 : tZero Tryz.prog 110 = some [.map none] := by kernel_rfl
@[go_sem] theorem go85 : isGo Tryz.prog 85 = true := by kernel_rfl
@[go_sem] theorem fr68 : Tryz.f68.results.toList = [.tmp 2] := by kernel_rfl
@[go_sem] theorem fn68 : Tryz.f68.ntmps = 10 := by kernel_rfl
@[go_sem] theorem fr69 : Tryz.f69.results.toList = [] := by kernel_rfl
@[go_sem] theorem fn69 : Tryz.f69.ntmps = 20 := by kernel_rfl
@[go_sem] theorem fr70 : Tryz.f70.results.toList = [] := by kernel_rfl
@[go_sem] theorem fn70 : Tryz.f70.ntmps = 26 := by kernel_rfl
@[go_sem] theorem fr71 : Tryz.f71.results.toList = [.tmp 4] := by kernel_rfl
@[go_sem] theorem fn71 : Tryz.f71.ntmps = 107 := by kernel_rfl
@[go_sem] theorem go86 : isGo Tryz.prog 86 = true := by kernel_rfl
@[go_sem] theorem fr72 : Tryz.f72.results.toList = [.cell 4 59] := by kernel_rfl
@[go_sem] theorem fn72 : Tryz.f72.ntmps = 38 := by kernel_rfl
@[go_sem] theorem fr73 : Tryz.f73.results.toList = [.cell 3 59, .tmp 4] := by kernel_rfl
@[go_sem] theorem fn73 : Tryz.f73.ntmps = 9 := by kernel_rfl
@[go_sem] theorem fr74 : Tryz.f74.results.toList = [.tmp 4] := by kernel_rfl
@[go_sem] theorem fn74 : Tryz.f74.ntmps = 27 := by kernel_rfl
@[go_sem] theorem fr75 : Tryz.f75.results.toList = [.tmp 2] := by kernel_rfl
@[go_sem] theorem fn75 : Tryz.f75.ntmps = 44 := by kernel_rfl
@[go_sem] theorem go87 : isGo Tryz.prog 87 = true := by kernel_rfl
@[go_sem] theorem fr76 : Tryz.f76.results.toList = [.tmp 2] := by kernel_rfl
@[go_sem] theorem fn76 : Tryz.f76.ntmps = 10 := by kernel_rfl
@[go_sem] theorem fr77 : Tryz.f77.results.toList = [.tmp 4] := by kernel_rfl
@[go_sem] theorem fn77 : Tryz.f77.ntmps = 41 := by kernel_rfl
@[go_sem] theorem go88 : isGo Tryz.prog 88 = true := by kernel_rfl
@[go_sem] theorem fr78 : Tryz.f78.results.toList = [.tmp 4] := by kernel_rfl
@[go_sem] theorem fn78 : Tryz.f78.ntmps = 32 := by kernel_rfl
@[go_sem] theorem fr79 : Tryz.f79.results.toList = [.tmp 4] := by kernel_rfl
@[go_sem] theorem fn79 : Tryz.f79.ntmps = 28 := by kernel_rfl
@[go_sem] theorem fr80 : Tryz.f80.results.toList = [.cell 4 59] := by kernel_rfl
@[go_sem] theorem fn80 : Tryz.f80.ntmps = 9 := by kernel_rfl
@[go_sem] theorem fr81 : Tryz.f81.results.toList = [.tmp 2] := by kernel_rfl
@[go_sem] theorem fn81 : Tryz.f81.ntmps = 23 := by kernel_rfl
@[go_sem] theorem go83 : isGo Tryz.prog 83 = true := by kernel_rfl
@[go_sem] theorem fr82 : Tryz.f82.results.toList = [] := by kernel_rfl
@[go_sem] theorem fn82 : Tryz.f82.ntmps = 16 := by kernel_rfl
@[go_sem] theorem fr83 : Tryz.f83.results.toList = [] := by kernel_rfl
@[go_sem] theorem fn83 : Tryz.f83.ntmps = 26 := by kernel_rfl
@[go_sem] theorem fr84 : Tryz.f84.results.toList = [] := by kernel_rfl
@[go_sem] theorem fn84 : Tryz.f84.ntmps = 5 := by kernel_rfl
@[go_sem] theorem go89 : isGo Tryz.prog 89 = true := by kernel_rfl
@[go_sem] theorem fr85 : Tryz.f85.results.toList = [.tmp 2] := by kernel_rfl
@[go_sem] theorem fn85 : Tryz.f85.ntmps = 19 := by kernel_rfl
@[go_sem] theorem fr86 : Tryz.f86.results.toList = [.cell 4 59] := by kernel_rfl
@[go_sem] theorem fn86 : Tryz.f86.ntmps = 9 := by kernel_rfl
@[go_sem] theorem fr87 : Tryz.f87.results.toList = [.tmp 2] := by kernel_rfl
@[go_sem] theorem fn87 : Tryz.f87.ntmps = 106 := by kernel_rfl
@[go_sem] theorem go90 : isGo Tryz.prog 90 = true := by kernel_rfl
@[go_sem] theorem fr88 : Tryz.f88.results.toList = [.tmp 4] := by kernel_rfl
@[go_sem] theorem fn88 : Tryz.f88.ntmps = 26 := by kernel_rfl
@[go_sem] theorem fr90 : Tryz.f90.results.toList = [.tmp 4] := by kernel_rfl
@[go_sem] theorem fn90 : Tryz.f90.ntmps = 49 := by kernel_rfl
end Go.Proofs.YtgkahnlbgkoplaaGreat
