import Derived.Test.YtgmfoklmkpdjdaaP1
import Derived.Test.YtgmfoklmkpdjdaaA5
import Derived.Test.YtgmfoklmkpdjdaaProg
import Derived.KernelRfl
namespace Go.Proofs.Ytgmfoklmkpdjdaa
open Go.Abs
theorem mixed : Try.prog.follows .mixedOrders = true := by kernel_rfl
@[go_sem] theorem ty3_a : tAgg Try.prog 3 = some false := by kernel_rfl
@[go_sem] theorem ty3_s : tSize Try.prog 3 = some 1 := by kernel_rfl
@[go_sem] theorem ty3_n : tInt Try.prog 3 = some Go.IntKind.i64 := by kernel_rfl
@[go_sem] theorem ty3_u : (Try.prog.underlying 3).isSome = true := by kernel_rfl
@[go_sem] theorem ty5_a : tAgg Try.prog 5 = some false := by kernel_rfl
@[go_sem] theorem ty5_s : tSize Try.prog 5 = some 1 := by kernel_rfl
@[go_sem] theorem ty5_n : tInt Try.prog 5 = some Go.IntKind.u8 := by kernel_rfl
@[go_sem] theorem ty5_u : (Try.prog.underlying 5).isSome = true := by kernel_rfl
@[go_sem] theorem ty9_a : tAgg Try.prog 9 = some false := by kernel_rfl
@[go_sem] theorem ty9_s : tSize Try.prog 9 = some 1 := by kernel_rfl
@[go_sem] theorem ty9_t : tIsStr Try.prog 9 = true := by kernel_rfl
@[go_sem] theorem ty22_a : tAgg Try.prog 22 = some false := by kernel_rfl
@[go_sem] theorem ty22_s : tSize Try.prog 22 = some 1 := by kernel_rfl
@[go_sem] theorem ty22_i : tIsSlice Try.prog 22 = true := by kernel_rfl
@[go_sem] theorem ty22_e : tElem Try.prog 22 = some 5 := by kernel_rfl
@[go_sem] theorem ty22_l : tSlice Try.prog 22 = some (5, 1, 1) := by kernel_rfl
@[go_sem] theorem ty22_b : tIsBytes Try.prog 22 = true := by kernel_rfl
@[go_sem] theorem ty23_a : tAgg Try.prog 23 = some false := by kernel_rfl
@[go_sem] theorem ty23_s : tSize Try.prog 23 = some 1 := by kernel_rfl
@[go_sem] theorem ty23_i : tIsSlice Try.prog 23 = true := by kernel_rfl
@[go_sem] theorem ty23_e : tElem Try.prog 23 = some 32 := by kernel_rfl
@[go_sem] theorem ty23_l : tSlice Try.prog 23 = some (32, 7, 104) := by kernel_rfl
@[go_sem] theorem ty23_t : tIsStr Try.prog 23 = false := by kernel_rfl
@[go_sem] theorem ty23_u : (Try.prog.underlying 23).isSome = true := by kernel_rfl
@[go_sem] theorem ty25_a : tAgg Try.prog 25 = some true := by kernel_rfl
@[go_sem] theorem ty25_s : tSize Try.prog 25 = some 1 := by kernel_rfl
@[go_sem] theorem ty25_f0 : tField Try.prog 25 0 = some (0, 23) := by kernel_rfl
@[go_sem] theorem ty27_a : tAgg Try.prog 27 = some false := by kernel_rfl
@[go_sem] theorem ty27_s : tSize Try.prog 27 = some 1 := by kernel_rfl
@[go_sem] theorem ty27_i : tIsSlice Try.prog 27 = true := by kernel_rfl
@[go_sem] theorem ty27_e : tElem Try.prog 27 = some 86 := by kernel_rfl
@[go_sem] theorem ty27_l : tSlice Try.prog 27 = some (86, 4, 56) := by kernel_rfl
@[go_sem] theorem ty27_t : tIsStr Try.prog 27 = false := by kernel_rfl
@[go_sem] theorem ty27_u : (Try.prog.underlying 27).isSome = true := by kernel_rfl
@[go_sem] theorem ty28_a : tAgg Try.prog 28 = some false := by kernel_rfl
@[go_sem] theorem ty28_s : tSize Try.prog 28 = some 1 := by kernel_rfl
@[go_sem] theorem ty28_i : tIsSlice Try.prog 28 = true := by kernel_rfl
@[go_sem] theorem ty28_e : tElem Try.prog 28 = some 30 := by kernel_rfl
@[go_sem] theorem ty28_l : tSlice Try.prog 28 = some (30, 4, 72) := by kernel_rfl
@[go_sem] theorem ty28_t : tIsStr Try.prog 28 = false := by kernel_rfl
@[go_sem] theorem ty28_u : (Try.prog.underlying 28).isSome = true := by kernel_rfl
@[go_sem] theorem ty30_a : tAgg Try.prog 30 = some true := by kernel_rfl
@[go_sem] theorem ty30_s : tSize Try.prog 30 = some 4 := by kernel_rfl
@[go_sem] theorem ty30_f0 : tField Try.prog 30 0 = some (0, 3) := by kernel_rfl
@[go_sem] theorem ty30_f1 : tField Try.prog 30 1 = some (1, 9) := by kernel_rfl
@[go_sem] theorem ty30_f2 : tField Try.prog 30 2 = some (2, 27) := by kernel_rfl
@[go_sem] theorem ty30_f3 : tField Try.prog 30 3 = some (3, 28) := by kernel_rfl
@[go_sem] theorem ty32_a : tAgg Try.prog 32 = some true := by kernel_rfl
@[go_sem] theorem ty32_s : tSize Try.prog 32 = some 7 := by kernel_rfl
@[go_sem] theorem ty32_f0 : tField Try.prog 32 0 = some (0, 9) := by kernel_rfl
@[go_sem] theorem ty32_f1 : tField Try.prog 32 1 = some (1, 3) := by kernel_rfl
@[go_sem] theorem ty32_f2 : tField Try.prog 32 2 = some (2, 3) := by kernel_rfl
@[go_sem] theorem ty32_f3 : tField Try.prog 32 3 = some (3, 30) := by kernel_rfl
@[go_sem] theorem ty33_i : tIsSlice Try.prog 33 = true := by kernel_rfl
@[go_sem] theorem ty33_e : tElem Try.prog 33 = some 28 := by kernel_rfl
@[go_sem] theorem ty33_l : tSlice Try.prog 33 = some (28, 1, 24) := by kernel_rfl
@[go_sem] theorem ty33_u : (Try.prog.underlying 33).isSome = true := by kernel_rfl
@[go_sem] theorem ty36_a : tAgg Try.prog 36 = some false := by kernel_rfl
@[go_sem] theorem ty36_s : tSize Try.prog 36 = some 1 := by kernel_rfl
@[go_sem] theorem ty36_i : tIsSlice Try.prog 36 = true := by kernel_rfl
@[go_sem] theorem ty36_e : tElem Try.prog 36 = some 3 := by kernel_rfl
@[go_sem] theorem ty36_l : tSlice Try.prog 36 = some (3, 1, 8) := by kernel_rfl
@[go_sem] theorem ty36_t : tIsStr Try.prog 36 = false := by kernel_rfl
@[go_sem] theorem ty36_u : (Try.prog.underlying 36).isSome = true := by kernel_rfl
@[go_sem] theorem ty86_a : tAgg Try.prog 86 = some true := by kernel_rfl
@[go_sem] theorem ty86_s : tSize Try.prog 86 = some 4 := by kernel_rfl
@[go_sem] theorem ty86_f0 : tField Try.prog 86 0 = some (0, 3) := by kernel_rfl
@[go_sem] theorem ty86_f1 : tField Try.prog 86 1 = some (1, 3) := by kernel_rfl
@[go_sem] theorem ty86_f2 : tField Try.prog 86 2 = some (2, 9) := by kernel_rfl
@[go_sem] theorem ty86_f3 : tField Try.prog 86 3 = some (3, 27) := by kernel_rfl
@[go_sem] theorem tz25 : tZero Try.prog 25 = some [.slice none 0 0] := by kernel_rfl
@[go_sem] theorem tz32 : tZero Try.prog 32 = some [.string ⟨#[]⟩, .int .i64 0, .int .i64 0, .int .i64 0, .string ⟨#[]⟩, .slice none 0 0, .slice none 0 0] := by kernel_rfl
@[go_sem] theorem go4 : isGo Try.prog 4 = true := by kernel_rfl
@[go_sem] theorem go5 : isGo Try.prog 5 = true := by kernel_rfl
@[go_sem] theorem go6 : isGo Try.prog 6 = true := by kernel_rfl
@[go_sem] theorem go7 : isGo Try.prog 7 = true := by kernel_rfl
@[go_sem] theorem fr3 : Try.f3.results.toList = [.tmp 2] := by kernel_rfl
@[go_sem] theorem fn3 : Try.f3.ntmps = 71 := by kernel_rfl
@[go_sem] theorem go8 : isGo Try.prog 8 = true := by kernel_rfl
@[go_sem] theorem go9 : isGo Try.prog 9 = true := by kernel_rfl
@[go_sem] theorem go10 : isGo Try.prog 10 = true := by kernel_rfl
@[go_sem] theorem go11 : isGo Try.prog 11 = true := by kernel_rfl
@[go_sem] theorem go12 : isGo Try.prog 12 = true := by kernel_rfl
@[go_sem] theorem go15 : isGo Try.prog 15 = true := by kernel_rfl
@[go_sem] theorem fr4 : Try.f4.results.toList = [.cell 6 25] := by kernel_rfl
@[go_sem] theorem fn4 : Try.f4.ntmps = 45 := by kernel_rfl
@[go_sem] theorem go16 : isGo Try.prog 16 = true := by kernel_rfl
@[go_sem] theorem go17 : isGo Try.prog 17 = true := by kernel_rfl
@[go_sem] theorem go18 : isGo Try.prog 18 = true := by kernel_rfl
@[go_sem] theorem fr5 : Try.f5.results.toList = [.tmp 2, .tmp 3] := by kernel_rfl
@[go_sem] theorem fn5 : Try.f5.ntmps = 18 := by kernel_rfl
@[go_sem] theorem go19 : isGo Try.prog 19 = true := by kernel_rfl
@[go_sem] theorem fr6 : Try.f6.results.toList = [.tmp 4, .tmp 5] := by kernel_rfl
@[go_sem] theorem fn6 : Try.f6.ntmps = 31 := by kernel_rfl
@[go_sem] theorem tz36 : tZero Try.prog 36 = some [.slice none 0 0] := by kernel_rfl
@[go_sem] theorem go20 : isGo Try.prog 20 = true := by kernel_rfl
@[go_sem] theorem fr7 : Try.f7.results.toList = [.tmp 4] := by kernel_rfl
@[go_sem] theorem fn7 : Try.f7.ntmps = 28 := by kernel_rfl
@[go_sem] theorem go21 : isGo Try.prog 21 = true := by kernel_rfl
@[go_sem] theorem go22 : isGo Try.prog 22 = true := by kernel_rfl
@[go_sem] theorem fr8 : Try.f8.results.toList = [.tmp 4] := by kernel_rfl
@[go_sem] theorem fn8 : Try.f8.ntmps = 17 := by kernel_rfl
@[go_sem] theorem ty57_i : tIsSlice Try.prog 57 = true := by kernel_rfl
@[go_sem] theorem ty57_e : tElem Try.prog 57 = some 9 := by kernel_rfl
@[go_sem] theorem ty57_l : tSlice Try.prog 57 = some (9, 1, 16) := by kernel_rfl
@[go_sem] theorem ty57_u : (Try.prog.underlying 57).isSome = true := by kernel_rfl
@[go_sem] theorem tb25 : tBuild Try.prog 25 = some ([.slice none 0 0], [(0, 1)]) := by kernel_rfl
@[go_sem] theorem go23 : isGo Try.prog 23 = true := by kernel_rfl
@[go_sem] theorem go24 : isGo Try.prog 24 = true := by kernel_rfl
@[go_sem] theorem go25 : isGo Try.prog 25 = true := by kernel_rfl
@[go_sem] theorem fr9 : Try.f9.results.toList = [.cell 2 25, .tmp 3] := by kernel_rfl
@[go_sem] theorem fn9 : Try.f9.ntmps = 69 := by kernel_rfl
@[go_sem] theorem fr10 : Try.f10.results.toList = [.tmp 2] := by kernel_rfl
@[go_sem] theorem fn10 : Try.f10.ntmps = 35 := by kernel_rfl
@[go_sem] theorem go26 : isGo Try.prog 26 = true := by kernel_rfl
@[go_sem] theorem fr11 : Try.f11.results.toList = [.tmp 2] := by kernel_rfl
@[go_sem] theorem fn11 : Try.f11.ntmps = 6 := by kernel_rfl
@[go_sem] theorem go27 : isGo Try.prog 27 = true := by kernel_rfl
@[go_sem] theorem fr12 : Try.f12.results.toList = [.tmp 4] := by kernel_rfl
@[go_sem] theorem fn12 : Try.f12.ntmps = 9 := by kernel_rfl
@[go_sem] theorem tz30 : tZero Try.prog 30 = some [.int .i64 0, .string ⟨#[]⟩, .slice none 0 0, .slice none 0 0] := by kernel_rfl
@[go_sem] theorem tb30 : tBuild Try.prog 30 = some ([.int .i64 0, .string ⟨#[]⟩, .slice none 0 0, .slice none 0 0], [(0, 1), (1, 1), (2, 1), (3, 1)]) := by kernel_rfl
@[go_sem] theorem tb32 : tBuild Try.prog 32 = some ([.string ⟨#[]⟩, .int .i64 0, .int .i64 0, .int .i64 0, .string ⟨#[]⟩, .slice none 0 0, .slice none 0 0], [(0, 1), (1, 1), (2, 1), (3, 4)]) := by kernel_rfl
@[go_sem] theorem go29 : isGo Try.prog 29 = true := by kernel_rfl
@[go_sem] theorem fr15 : Try.f15.results.toList = [.cell 4 25] := by kernel_rfl
@[go_sem] theorem fn15 : Try.f15.ntmps = 98 := by kernel_rfl
@[go_sem] theorem go30 : isGo Try.prog 30 = true := by kernel_rfl
@[go_sem] theorem fr16 : Try.f16.results.toList = [.tmp 2] := by kernel_rfl
@[go_sem] theorem fn16 : Try.f16.ntmps = 6 := by kernel_rfl
@[go_sem] theorem fr17 : Try.f17.results.toList = [.tmp 2, .tmp 3] := by kernel_rfl
@[go_sem] theorem fn17 : Try.f17.ntmps = 105 := by kernel_rfl
@[go_sem] theorem go31 : isGo Try.prog 31 = true := by kernel_rfl
@[go_sem] theorem fr18 : Try.f18.results.toList = [.tmp 2] := by kernel_rfl
@[go_sem] theorem fn18 : Try.f18.ntmps = 35 := by kernel_rfl
@[go_sem] theorem ty68_i : tIsSlice Try.prog 68 = true := by kernel_rfl
@[go_sem] theorem ty68_e : tElem Try.prog 68 = some 36 := by kernel_rfl
@[go_sem] theorem ty68_l : tSlice Try.prog 68 = some (36, 1, 24) := by kernel_rfl
@[go_sem] theorem fr19 : Try.f19.results.toList = [.tmp 4] := by kernel_rfl
@[go_sem] theorem fn19 : Try.f19.ntmps = 100 := by kernel_rfl
@[go_sem] theorem fr20 : Try.f20.results.toList = [.tmp 4] := by kernel_rfl
@[go_sem] theorem fn20 : Try.f20.ntmps = 107 := by kernel_rfl
@[go_sem] theorem ty70_f0 : tField Try.prog 70 0 = some (0, 22) := by kernel_rfl
@[go_sem] theorem ty70_f1 : tField Try.prog 70 1 = some (1, 3) := by kernel_rfl
@[go_sem] theorem ty70_f2 : tField Try.prog 70 2 = some (2, 3) := by kernel_rfl
@[go_sem] theorem tb70 : tBuild Try.prog 70 = some ([.slice none 0 0, .int .i64 0, .int .i64 0], [(0, 1), (1, 1), (2, 1)]) := by kernel_rfl
@[go_sem] theorem fr21 : Try.f21.results.toList = [.tmp 2] := by kernel_rfl
@[go_sem] theorem fn21 : Try.f21.ntmps = 32 := by kernel_rfl
@[go_sem] theorem fr22 : Try.f22.results.toList = [.tmp 2] := by kernel_rfl
@[go_sem] theorem fn22 : Try.f22.ntmps = 58 := by kernel_rfl
@[go_sem] theorem go32 : isGo Try.prog 32 = true := by kernel_rfl
@[go_sem] theorem go33 : isGo Try.prog 33 = true := by kernel_rfl
@[go_sem] theorem fr23 : Try.f23.results.toList = [.tmp 2, .tmp 3] := by kernel_rfl
@[go_sem] theorem fn23 : Try.f23.ntmps = 99 := by kernel_rfl
@[go_sem] theorem go34 : isGo Try.prog 34 = true := by kernel_rfl
@[go_sem] theorem go35 : isGo Try.prog 35 = true := by kernel_rfl
@[go_sem] theorem go36 : isGo Try.prog 36 = true := by kernel_rfl
@[go_sem] theorem fr24 : Try.f24.results.toList = [.cell 2 32, .tmp 3] := by kernel_rfl
@[go_sem] theorem fn24 : Try.f24.ntmps = 99 := by kernel_rfl
@[go_sem] theorem go37 : isGo Try.prog 37 = true := by kernel_rfl
@[go_sem] theorem go38 : isGo Try.prog 38 = true := by kernel_rfl
@[go_sem] theorem go39 : isGo Try.prog 39 = true := by kernel_rfl
@[go_sem] theorem go40 : isGo Try.prog 40 = true := by kernel_rfl
@[go_sem] theorem fr25 : Try.f25.results.toList = [.tmp 2] := by kernel_rfl
@[go_sem] theorem fn25 : Try.f25.ntmps = 60 := by kernel_rfl
@[go_sem] theorem fr26 : Try.f26.results.toList = [.tmp 4] := by kernel_rfl
@[go_sem] theorem fn26 : Try.f26.ntmps = 12 := by kernel_rfl
@[go_sem] theorem fr27 : Try.f27.results.toList = [.tmp 4] := by kernel_rfl
@[go_sem] theorem fn27 : Try.f27.ntmps = 11 := by kernel_rfl
@[go_sem] theorem go42 : isGo Try.prog 42 = true := by kernel_rfl
@[go_sem] theorem go43 : isGo Try.prog 43 = true := by kernel_rfl
@[go_sem] theorem go44 : isGo Try.prog 44 = true := by kernel_rfl
@[go_sem] theorem fr29 : Try.f29.results.toList = [.cell 10 30] := by kernel_rfl
@[go_sem] theorem fn29 : Try.f29.ntmps = 87 := by kernel_rfl
@[go_sem] theorem ty90_m : tMap Try.prog 90 = some (false, .int .i64 0) := by kernel_rfl
@[go_sem] theorem go45 : isGo Try.prog 45 = true := by kernel_rfl
@[go_sem] theorem go46 : isGo Try.prog 46 = true := by kernel_rfl
@[go_sem] theorem fr30 : Try.f30.results.toList = [.tmp 4] := by kernel_rfl
@[go_sem] theorem fn30 : Try.f30.ntmps = 142 := by kernel_rfl
@[go_sem] theorem go47 : isGo Try.prog 47 = true := by kernel_rfl
@[go_sem] theorem fr31 : Try.f31.results.toList = [.cell 2 30] := by kernel_rfl
@[go_sem] theorem fn31 : Try.f31.ntmps = 30 := by kernel_rfl
@[go_sem] theorem fr32 : Try.f32.results.toList = [.tmp 2] := by kernel_rfl
@[go_sem] theorem fn32 : Try.f32.ntmps = 21 := by kernel_rfl
@[go_sem] theorem fr33 : Try.f33.results.toList = [.tmp 6] := by kernel_rfl
@[go_sem] theorem fn33 : Try.f33.ntmps = 15 := by kernel_rfl
@[go_sem] theorem go48 : isGo Try.prog 48 = true := by kernel_rfl
@[go_sem] theorem go49 : isGo Try.prog 49 = true := by kernel_rfl
@[go_sem] theorem fr34 : Try.f34.results.toList = [.tmp 2, .tmp 3, .tmp 4] := by kernel_rfl
@[go_sem] theorem fn34 : Try.f34.ntmps = 77 := by kernel_rfl
@[go_sem] theorem fr35 : Try.f35.results.toList = [.tmp 2] := by kernel_rfl
@[go_sem] theorem fn35 : Try.f35.ntmps = 44 := by kernel_rfl
@[go_sem] theorem tz86 : tZero Try.prog 86 = some [.int .i64 0, .int .i64 0, .string ⟨#[]⟩, .slice none 0 0] := by kernel_rfl
@[go_sem] theorem go50 : isGo Try.prog 50 = true := by kernel_rfl
@[go_sem] theorem go51 : isGo Try.prog 51 = true := by kernel_rfl
@[go_sem] theorem fr36 : Try.f36.results.toList = [.cell 4 30, .tmp 5, .tmp 6] := by kernel_rfl
@[go_sem] theorem fn36 : Try.f36.ntmps = 152 := by kernel_rfl
@[go_sem] theorem fr37 : Try.f37.results.toList = [.tmp 4] := by kernel_rfl
@[go_sem] theorem fn37 : Try.f37.ntmps = 21 := by kernel_rfl
@[go_sem] theorem fr38 : Try.f38.results.toList = [.tmp 2] := by kernel_rfl
@[go_sem] theorem fn38 : Try.f38.ntmps = 17 := by kernel_rfl
@[go_sem] theorem go52 : isGo Try.prog 52 = true := by kernel_rfl
@[go_sem] theorem go53 : isGo Try.prog 53 = true := by kernel_rfl
@[go_sem] theorem go54 : isGo Try.prog 54 = true := by kernel_rfl
@[go_sem] theorem fr39 : Try.f39.results.toList = [.tmp 6] := by kernel_rfl
@[go_sem] theorem fn39 : Try.f39.ntmps = 32 := by kernel_rfl
@[go_sem] theorem go55 : isGo Try.prog 55 = true := by kernel_rfl
@[go_sem] theorem fr40 : Try.f40.results.toList = [.tmp 2] := by kernel_rfl
@[go_sem] theorem fn40 : Try.f40.ntmps = 8 := by kernel_rfl
@[go_sem] theorem go56 : isGo Try.prog 56 = true := by kernel_rfl
@[go_sem] theorem fr42 : Try.f42.results.toList = [.cell 6 30] := by kernel_rfl
@[go_sem] theorem fn42 : Try.f42.ntmps = 54 := by kernel_rfl
@[go_sem] theorem go57 : isGo Try.prog 57 = true := by kernel_rfl
@[go_sem] theorem go58 : isGo Try.prog 58 = true := by kernel_rfl
@[go_sem] theorem go59 : isGo Try.prog 59 = true := by kernel_rfl
@[go_sem] theorem fr43 : Try.f43.results.toList = [.cell 6 86] := by kernel_rfl
@[go_sem] theorem fn43 : Try.f43.ntmps = 42 := by kernel_rfl
@[go_sem] theorem fr44 : Try.f44.results.toList = [.cell 6 30] := by kernel_rfl
@[go_sem] theorem fn44 : Try.f44.ntmps = 11 := by kernel_rfl
@[go_sem] theorem go60 : isGo Try.prog 60 = true := by kernel_rfl
@[go_sem] theorem fr45 : Try.f45.results.toList = [.tmp 2] := by kernel_rfl
@[go_sem] theorem fn45 : Try.f45.ntmps = 15 := by kernel_rfl
@[go_sem] theorem go61 : isGo Try.prog 61 = true := by kernel_rfl
@[go_sem] theorem fr46 : Try.f46.results.toList = [.tmp 2] := by kernel_rfl
@[go_sem] theorem fn46 : Try.f46.ntmps = 16 := by kernel_rfl
@[go_sem] theorem go62 : isGo Try.prog 62 = true := by kernel_rfl
@[go_sem] theorem fr47 : Try.f47.results.toList = [.tmp 2] := by kernel_rfl
@[go_sem] theorem fn47 : Try.f47.ntmps = 20 := by kernel_rfl
@[go_sem] theorem fr48 : Try.f48.results.toList = [.tmp 2, .tmp 3] := by kernel_rfl
@[go_sem] theorem fn48 : Try.f48.ntmps = 65 := by kernel_rfl
@[go_sem] theorem fr49 : Try.f49.results.toList = [.tmp 2] := by kernel_rfl
@[go_sem] theorem fn49 : Try.f49.ntmps = 44 := by kernel_rfl
@[go_sem] theorem fr50 : Try.f50.results.toList = [.tmp 0] := by kernel_rfl
@[go_sem] theorem fn50 : Try.f50.ntmps = 2 := by kernel_rfl
@[go_sem] theorem tb86 : tBuild Try.prog 86 = some ([.int .i64 0, .int .i64 0, .string ⟨#[]⟩, .slice none 0 0], [(0, 1), (1, 1), (2, 1), (3, 1)]) := by kernel_rfl
@[go_sem] theorem go63 : isGo Try.prog 63 = true := by kernel_rfl
@[go_sem] theorem go64 : isGo Try.prog 64 = true := by kernel_rfl
@[go_sem] theorem fr51 : Try.f51.results.toList = [.cell 4 86, .tmp 5, .tmp 6] := by kernel_rfl
@[go_sem] theorem fn51 : Try.f51.ntmps = 136 := by kernel_rfl
@[go_sem] theorem go65 : isGo Try.prog 65 = true := by kernel_rfl
@[go_sem] theorem fr52 : Try.f52.results.toList = [.tmp 2] := by kernel_rfl
@[go_sem] theorem fn52 : Try.f52.ntmps = 10 := by kernel_rfl
@[go_sem] theorem fr53 : Try.f53.results.toList = [.tmp 4] := by kernel_rfl
@[go_sem] theorem fn53 : Try.f53.ntmps = 41 := by kernel_rfl
@[go_sem] theorem go66 : isGo Try.prog 66 = true := by kernel_rfl
@[go_sem] theorem fr54 : Try.f54.results.toList = [.tmp 4] := by kernel_rfl
@[go_sem] theorem fn54 : Try.f54.ntmps = 32 := by kernel_rfl
@[go_sem] theorem fr55 : Try.f55.results.toList = [.tmp 4] := by kernel_rfl
@[go_sem] theorem fn55 : Try.f55.ntmps = 28 := by kernel_rfl
@[go_sem] theorem fr56 : Try.f56.results.toList = [.cell 2 86] := by kernel_rfl
@[go_sem] theorem fn56 : Try.f56.ntmps = 5 := by kernel_rfl
@[go_sem] theorem fr57 : Try.f57.results.toList = [.cell 4 86] := by kernel_rfl
@[go_sem] theorem fn57 : Try.f57.ntmps = 9 := by kernel_rfl
@[go_sem] theorem fr58 : Try.f58.results.toList = [.cell 2 86] := by kernel_rfl
@[go_sem] theorem fn58 : Try.f58.ntmps = 5 := by kernel_rfl
@[go_sem] theorem go67 : isGo Try.prog 67 = true := by kernel_rfl
@[go_sem] theorem fr59 : Try.f59.results.toList = [.cell 2 86] := by kernel_rfl
@[go_sem] theorem fn59 : Try.f59.ntmps = 19 := by kernel_rfl
@[go_sem] theorem go68 : isGo Try.prog 68 = true := by kernel_rfl
@[go_sem] theorem fr60 : Try.f60.results.toList = [.tmp 2] := by kernel_rfl
@[go_sem] theorem fn60 : Try.f60.ntmps = 6 := by kernel_rfl
@[go_sem] theorem fr61 : Try.f61.results.toList = [.tmp 2] := by kernel_rfl
@[go_sem] theorem fn61 : Try.f61.ntmps = 57 := by kernel_rfl
@[go_sem] theorem fr62 : Try.f62.results.toList = [.cell 2 86] := by kernel_rfl
@[go_sem] theorem fn62 : Try.f62.ntmps = 25 := by kernel_rfl
@[go_sem] theorem go69 : isGo Try.prog 69 = true := by kernel_rfl
@[go_sem] theorem fr63 : Try.f63.results.toList = [.cell 2 86, .tmp 3] := by kernel_rfl
@[go_sem] theorem fn63 : Try.f63.ntmps = 39 := by kernel_rfl
@[go_sem] theorem fr64 : Try.f64.results.toList = [.cell 4 86] := by kernel_rfl
@[go_sem] theorem fn64 : Try.f64.ntmps = 20 := by kernel_rfl
@[go_sem] theorem go70 : isGo Try.prog 70 = true := by kernel_rfl
@[go_sem] theorem fr65 : Try.f65.results.toList = [.tmp 2] := by kernel_rfl
@[go_sem] theorem fn65 : Try.f65.ntmps = 106 := by kernel_rfl
@[go_sem] theorem go71 : isGo Try.prog 71 = true := by kernel_rfl
@[go_sem] theorem fr66 : Try.f66.results.toList = [.tmp 4] := by kernel_rfl
@[go_sem] theorem fn66 : Try.f66.ntmps = 26 := by kernel_rfl
@[go_sem] theorem fr67 : Try.f67.results.toList = [.cell 2 86] := by kernel_rfl
@[go_sem] theorem fn67 : Try.f67.ntmps = 5 := by kernel_rfl
@[go_sem] theorem fr68 : Try.f68.results.toList = [.tmp 4] := by kernel_rfl
@[go_sem] theorem fn68 : Try.f68.ntmps = 107 := by kernel_rfl
@[go_sem] theorem fr69 : Try.f69.results.toList = [.tmp 2] := by kernel_rfl
@[go_sem] theorem fn69 : Try.f69.ntmps = 76 := by kernel_rfl
@[go_sem] theorem go72 : isGo Try.prog 72 = true := by kernel_rfl
@[go_sem] theorem fr70 : Try.f70.results.toList = [.tmp 2] := by kernel_rfl
@[go_sem] theorem fn70 : Try.f70.ntmps = 15 := by kernel_rfl
@[go_sem] theorem fr71 : Try.f71.results.toList = [.tmp 4] := by kernel_rfl
@[go_sem] theorem fn71 : Try.f71.ntmps = 49 := by kernel_rfl
@[go_sem] theorem go73 : isGo Try.prog 73 = true := by kernel_rfl
@[go_sem] theorem fr72 : Try.f72.results.toList = [.tmp 2] := by kernel_rfl
@[go_sem] theorem fn72 : Try.f72.ntmps = 10 := by kernel_rfl
@[go_sem] theorem fr73 : Try.f73.results.toList = [.tmp 4] := by kernel_rfl
@[go_sem] theorem fn73 : Try.f73.ntmps = 28 := by kernel_rfl
end Go.Proofs.Ytgmfoklmkpdjdaa
