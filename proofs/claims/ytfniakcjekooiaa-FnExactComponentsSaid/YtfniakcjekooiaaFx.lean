import Derived.Test.YtfniakcjekooiaaP1
import Derived.Test.YtfniakcjekooiaaA5
import Derived.Test.YtfniakcjekooiaaProg
import Derived.KernelRfl
namespace Go.Proofs.Ytfniakcjekooiaa
open Go.Abs
theorem mixed : Try.prog.follows .mixedOrders = true := by kernel_rfl
@[go_sem] theorem ty3_a : tAgg Try.prog 3 = some false := by kernel_rfl
@[go_sem] theorem ty3_s : tSize Try.prog 3 = some 1 := by kernel_rfl
@[go_sem] theorem ty3_n : tInt Try.prog 3 = some Go.IntKind.i64 := by kernel_rfl
@[go_sem] theorem ty3_u : (Try.prog.underlying 3).isSome = true := by kernel_rfl
@[go_sem] theorem ty4_a : tAgg Try.prog 4 = some false := by kernel_rfl
@[go_sem] theorem ty4_s : tSize Try.prog 4 = some 1 := by kernel_rfl
@[go_sem] theorem ty9_a : tAgg Try.prog 9 = some false := by kernel_rfl
@[go_sem] theorem ty9_s : tSize Try.prog 9 = some 1 := by kernel_rfl
@[go_sem] theorem ty9_t : tIsStr Try.prog 9 = true := by kernel_rfl
@[go_sem] theorem ty22_a : tAgg Try.prog 22 = some false := by kernel_rfl
@[go_sem] theorem ty22_s : tSize Try.prog 22 = some 1 := by kernel_rfl
@[go_sem] theorem ty22_i : tIsSlice Try.prog 22 = true := by kernel_rfl
@[go_sem] theorem ty22_e : tElem Try.prog 22 = some 60 := by kernel_rfl
@[go_sem] theorem ty24_a : tAgg Try.prog 24 = some true := by kernel_rfl
@[go_sem] theorem ty24_s : tSize Try.prog 24 = some 1 := by kernel_rfl
@[go_sem] theorem ty24_f0 : tField Try.prog 24 0 = some (0, 22) := by kernel_rfl
@[go_sem] theorem ty27_a : tAgg Try.prog 27 = some false := by kernel_rfl
@[go_sem] theorem ty27_s : tSize Try.prog 27 = some 1 := by kernel_rfl
@[go_sem] theorem ty27_i : tIsSlice Try.prog 27 = true := by kernel_rfl
@[go_sem] theorem ty27_e : tElem Try.prog 27 = some 67 := by kernel_rfl
@[go_sem] theorem ty27_l : tSlice Try.prog 27 = some (67, 7, 104) := by kernel_rfl
@[go_sem] theorem ty29_a : tAgg Try.prog 29 = some true := by kernel_rfl
@[go_sem] theorem ty29_s : tSize Try.prog 29 = some 1 := by kernel_rfl
@[go_sem] theorem ty29_f0 : tField Try.prog 29 0 = some (0, 27) := by kernel_rfl
@[go_sem] theorem ty55_a : tAgg Try.prog 55 = some false := by kernel_rfl
@[go_sem] theorem ty55_s : tSize Try.prog 55 = some 1 := by kernel_rfl
@[go_sem] theorem ty55_i : tIsSlice Try.prog 55 = true := by kernel_rfl
@[go_sem] theorem ty55_e : tElem Try.prog 55 = some 111 := by kernel_rfl
@[go_sem] theorem ty56_a : tAgg Try.prog 56 = some false := by kernel_rfl
@[go_sem] theorem ty56_s : tSize Try.prog 56 = some 1 := by kernel_rfl
@[go_sem] theorem ty56_i : tIsSlice Try.prog 56 = true := by kernel_rfl
@[go_sem] theorem ty56_e : tElem Try.prog 56 = some 58 := by kernel_rfl
@[go_sem] theorem ty58_a : tAgg Try.prog 58 = some true := by kernel_rfl
@[go_sem] theorem ty58_s : tSize Try.prog 58 = some 4 := by kernel_rfl
@[go_sem] theorem ty58_f0 : tField Try.prog 58 0 = some (0, 3) := by kernel_rfl
@[go_sem] theorem ty58_f1 : tField Try.prog 58 1 = some (1, 9) := by kernel_rfl
@[go_sem] theorem ty58_f2 : tField Try.prog 58 2 = some (2, 55) := by kernel_rfl
@[go_sem] theorem ty58_f3 : tField Try.prog 58 3 = some (3, 56) := by kernel_rfl
@[go_sem] theorem ty60_a : tAgg Try.prog 60 = some true := by kernel_rfl
@[go_sem] theorem ty60_s : tSize Try.prog 60 = some 7 := by kernel_rfl
@[go_sem] theorem ty60_f0 : tField Try.prog 60 0 = some (0, 9) := by kernel_rfl
@[go_sem] theorem ty60_f1 : tField Try.prog 60 1 = some (1, 3) := by kernel_rfl
@[go_sem] theorem ty60_f2 : tField Try.prog 60 2 = some (2, 3) := by kernel_rfl
@[go_sem] theorem ty60_f3 : tField Try.prog 60 3 = some (3, 58) := by kernel_rfl
@[go_sem] theorem ty62_a : tAgg Try.prog 62 = some false := by kernel_rfl
@[go_sem] theorem ty62_s : tSize Try.prog 62 = some 1 := by kernel_rfl
@[go_sem] theorem ty62_i : tIsSlice Try.prog 62 = true := by kernel_rfl
@[go_sem] theorem ty62_e : tElem Try.prog 62 = some 93 := by kernel_rfl
@[go_sem] theorem ty62_l : tSlice Try.prog 62 = some (93, 4, 56) := by kernel_rfl
@[go_sem] theorem ty63_a : tAgg Try.prog 63 = some false := by kernel_rfl
@[go_sem] theorem ty63_s : tSize Try.prog 63 = some 1 := by kernel_rfl
@[go_sem] theorem ty63_i : tIsSlice Try.prog 63 = true := by kernel_rfl
@[go_sem] theorem ty63_e : tElem Try.prog 63 = some 65 := by kernel_rfl
@[go_sem] theorem ty63_l : tSlice Try.prog 63 = some (65, 4, 72) := by kernel_rfl
@[go_sem] theorem ty65_a : tAgg Try.prog 65 = some true := by kernel_rfl
@[go_sem] theorem ty65_s : tSize Try.prog 65 = some 4 := by kernel_rfl
@[go_sem] theorem ty65_f0 : tField Try.prog 65 0 = some (0, 3) := by kernel_rfl
@[go_sem] theorem ty65_f1 : tField Try.prog 65 1 = some (1, 9) := by kernel_rfl
@[go_sem] theorem ty65_f2 : tField Try.prog 65 2 = some (2, 62) := by kernel_rfl
@[go_sem] theorem ty65_f3 : tField Try.prog 65 3 = some (3, 63) := by kernel_rfl
@[go_sem] theorem ty67_a : tAgg Try.prog 67 = some true := by kernel_rfl
@[go_sem] theorem ty67_s : tSize Try.prog 67 = some 7 := by kernel_rfl
@[go_sem] theorem ty67_f0 : tField Try.prog 67 0 = some (0, 9) := by kernel_rfl
@[go_sem] theorem ty67_f1 : tField Try.prog 67 1 = some (1, 3) := by kernel_rfl
@[go_sem] theorem ty67_f2 : tField Try.prog 67 2 = some (2, 3) := by kernel_rfl
@[go_sem] theorem ty67_f3 : tField Try.prog 67 3 = some (3, 65) := by kernel_rfl
@[go_sem] theorem ty93_a : tAgg Try.prog 93 = some true := by kernel_rfl
@[go_sem] theorem ty93_s : tSize Try.prog 93 = some 4 := by kernel_rfl
@[go_sem] theorem ty93_f0 : tField Try.prog 93 0 = some (0, 3) := by kernel_rfl
@[go_sem] theorem ty93_f1 : tField Try.prog 93 1 = some (1, 3) := by kernel_rfl
@[go_sem] theorem ty93_f2 : tField Try.prog 93 2 = some (2, 9) := by kernel_rfl
@[go_sem] theorem ty93_f3 : tField Try.prog 93 3 = some (3, 62) := by kernel_rfl
@[go_sem] theorem ty111_a : tAgg Try.prog 111 = some true := by kernel_rfl
@[go_sem] theorem ty111_s : tSize Try.prog 111 = some 4 := by kernel_rfl
@[go_sem] theorem ty111_f0 : tField Try.prog 111 0 = some (0, 3) := by kernel_rfl
@[go_sem] theorem ty111_f1 : tField Try.prog 111 1 = some (1, 3) := by kernel_rfl
@[go_sem] theorem ty111_f2 : tField Try.prog 111 2 = some (2, 9) := by kernel_rfl
@[go_sem] theorem ty111_f3 : tField Try.prog 111 3 = some (3, 55) := by kernel_rfl
@[go_sem] theorem tz29 : tZero Try.prog 29 = some [.slice none 0 0] := by kernel_rfl
@[go_sem] theorem go5 : isGo Try.prog 5 = true := by kernel_rfl
@[go_sem] theorem go7 : isGo Try.prog 7 = true := by kernel_rfl
@[go_sem] theorem go9 : isGo Try.prog 9 = true := by kernel_rfl
@[go_sem] theorem ty33_i : tIsSlice Try.prog 33 = true := by kernel_rfl
@[go_sem] theorem ty33_e : tElem Try.prog 33 = some 42 := by kernel_rfl
@[go_sem] theorem ty33_l : tSlice Try.prog 33 = some (42, 1, 24) := by kernel_rfl
@[go_sem] theorem ty33_u : (Try.prog.underlying 33).isSome = true := by kernel_rfl
@[go_sem] theorem ty42_a : tAgg Try.prog 42 = some false := by kernel_rfl
@[go_sem] theorem ty42_s : tSize Try.prog 42 = some 1 := by kernel_rfl
@[go_sem] theorem ty42_i : tIsSlice Try.prog 42 = true := by kernel_rfl
@[go_sem] theorem ty42_e : tElem Try.prog 42 = some 3 := by kernel_rfl
@[go_sem] theorem ty42_l : tSlice Try.prog 42 = some (3, 1, 8) := by kernel_rfl
@[go_sem] theorem ty42_t : tIsStr Try.prog 42 = false := by kernel_rfl
@[go_sem] theorem ty42_u : (Try.prog.underlying 42).isSome = true := by kernel_rfl
@[go_sem] theorem go10 : isGo Try.prog 10 = true := by kernel_rfl
@[go_sem] theorem go11 : isGo Try.prog 11 = true := by kernel_rfl
@[go_sem] theorem go12 : isGo Try.prog 12 = true := by kernel_rfl
@[go_sem] theorem go13 : isGo Try.prog 13 = true := by kernel_rfl
@[go_sem] theorem go14 : isGo Try.prog 14 = true := by kernel_rfl
@[go_sem] theorem go15 : isGo Try.prog 15 = true := by kernel_rfl
@[go_sem] theorem fr4 : Try.f4.results.toList = [.tmp 2] := by kernel_rfl
@[go_sem] theorem fn4 : Try.f4.ntmps = 69 := by kernel_rfl
@[go_sem] theorem go16 : isGo Try.prog 16 = true := by kernel_rfl
@[go_sem] theorem fr5 : Try.f5.results.toList = [.tmp 4] := by kernel_rfl
@[go_sem] theorem fn5 : Try.f5.ntmps = 12 := by kernel_rfl
@[go_sem] theorem go18 : isGo Try.prog 18 = true := by kernel_rfl
@[go_sem] theorem go19 : isGo Try.prog 19 = true := by kernel_rfl
@[go_sem] theorem go20 : isGo Try.prog 20 = true := by kernel_rfl
@[go_sem] theorem fr7 : Try.f7.results.toList = [.cell 2 29] := by kernel_rfl
@[go_sem] theorem fn7 : Try.f7.ntmps = 9 := by kernel_rfl
@[go_sem] theorem ty44_a : tAgg Try.prog 44 = some false := by kernel_rfl
@[go_sem] theorem ty44_s : tSize Try.prog 44 = some 1 := by kernel_rfl
@[go_sem] theorem ty44_im : tIsMap Try.prog 44 = true := by kernel_rfl
@[go_sem] theorem ty44_m : tMap Try.prog 44 = some (false, .bool false) := by kernel_rfl
@[go_sem] theorem ty45_i : tIsSlice Try.prog 45 = true := by kernel_rfl
@[go_sem] theorem ty45_e : tElem Try.prog 45 = some 44 := by kernel_rfl
@[go_sem] theorem ty45_l : tSlice Try.prog 45 = some (44, 1, 8) := by kernel_rfl
@[go_sem] theorem ty45_u : (Try.prog.underlying 45).isSome = true := by kernel_rfl
@[go_sem] theorem go22 : isGo Try.prog 22 = true := by kernel_rfl
@[go_sem] theorem go23 : isGo Try.prog 23 = true := by kernel_rfl
@[go_sem] theorem fr9 : Try.f9.results.toList = [.tmp 4] := by kernel_rfl
@[go_sem] theorem fn9 : Try.f9.ntmps = 11 := by kernel_rfl
@[go_sem] theorem ty49_e : tElem Try.prog 49 = some 4 := by kernel_rfl
@[go_sem] theorem ty49_l : tSlice Try.prog 49 = some (4, 1, 1) := by kernel_rfl
@[go_sem] theorem tz4 : tZero Try.prog 4 = some [.bool false] := by kernel_rfl
@[go_sem] theorem go24 : isGo Try.prog 24 = true := by kernel_rfl
@[go_sem] theorem fr10 : Try.f10.results.toList = [.tmp 2] := by kernel_rfl
@[go_sem] theorem fn10 : Try.f10.ntmps = 119 := by kernel_rfl
@[go_sem] theorem go25 : isGo Try.prog 25 = true := by kernel_rfl
@[go_sem] theorem go26 : isGo Try.prog 26 = true := by kernel_rfl
@[go_sem] theorem go27 : isGo Try.prog 27 = true := by kernel_rfl
@[go_sem] theorem fr11 : Try.f11.results.toList = [.tmp 2] := by kernel_rfl
@[go_sem] theorem fn11 : Try.f11.ntmps = 112 := by kernel_rfl
@[go_sem] theorem go28 : isGo Try.prog 28 = true := by kernel_rfl
@[go_sem] theorem fr12 : Try.f12.results.toList = [.tmp 4] := by kernel_rfl
@[go_sem] theorem fn12 : Try.f12.ntmps = 27 := by kernel_rfl
@[go_sem] theorem go29 : isGo Try.prog 29 = true := by kernel_rfl
@[go_sem] theorem fr13 : Try.f13.results.toList = [.tmp 4] := by kernel_rfl
@[go_sem] theorem fn13 : Try.f13.ntmps = 10 := by kernel_rfl
@[go_sem] theorem go30 : isGo Try.prog 30 = true := by kernel_rfl
@[go_sem] theorem fr14 : Try.f14.results.toList = [.tmp 4] := by kernel_rfl
@[go_sem] theorem fn14 : Try.f14.ntmps = 19 := by kernel_rfl
@[go_sem] theorem go31 : isGo Try.prog 31 = true := by kernel_rfl
@[go_sem] theorem fr15 : Try.f15.results.toList = [.tmp 4] := by kernel_rfl
@[go_sem] theorem fn15 : Try.f15.ntmps = 21 := by kernel_rfl
@[go_sem] theorem go32 : isGo Try.prog 32 = true := by kernel_rfl
@[go_sem] theorem fr16 : Try.f16.results.toList = [.tmp 4] := by kernel_rfl
@[go_sem] theorem fn16 : Try.f16.ntmps = 27 := by kernel_rfl
@[go_sem] theorem go33 : isGo Try.prog 33 = true := by kernel_rfl
@[go_sem] theorem fr18 : Try.f18.results.toList = [.tmp 4] := by kernel_rfl
@[go_sem] theorem fn18 : Try.f18.ntmps = 17 := by kernel_rfl
@[go_sem] theorem go34 : isGo Try.prog 34 = true := by kernel_rfl
@[go_sem] theorem go35 : isGo Try.prog 35 = true := by kernel_rfl
@[go_sem] theorem fr19 : Try.f19.results.toList = [.tmp 2] := by kernel_rfl
@[go_sem] theorem fn19 : Try.f19.ntmps = 55 := by kernel_rfl
@[go_sem] theorem tz67 : tZero Try.prog 67 = some [.string ⟨#[]⟩, .int .i64 0, .int .i64 0, .int .i64 0, .string ⟨#[]⟩, .slice none 0 0, .slice none 0 0] := by kernel_rfl
@[go_sem] theorem go36 : isGo Try.prog 36 = true := by kernel_rfl
@[go_sem] theorem fr20 : Try.f20.results.toList = [.tmp 2] := by kernel_rfl
@[go_sem] theorem fn20 : Try.f20.ntmps = 23 := by kernel_rfl
@[go_sem] theorem go37 : isGo Try.prog 37 = true := by kernel_rfl
@[go_sem] theorem fr22 : Try.f22.results.toList = [.tmp 2] := by kernel_rfl
@[go_sem] theorem fn22 : Try.f22.ntmps = 51 := by kernel_rfl
@[go_sem] theorem go38 : isGo Try.prog 38 = true := by kernel_rfl
@[go_sem] theorem fr23 : Try.f23.results.toList = [.tmp 4] := by kernel_rfl
@[go_sem] theorem fn23 : Try.f23.ntmps = 27 := by kernel_rfl
@[go_sem] theorem go39 : isGo Try.prog 39 = true := by kernel_rfl
@[go_sem] theorem go40 : isGo Try.prog 40 = true := by kernel_rfl
@[go_sem] theorem go41 : isGo Try.prog 41 = true := by kernel_rfl
@[go_sem] theorem go42 : isGo Try.prog 42 = true := by kernel_rfl
@[go_sem] theorem fr24 : Try.f24.results.toList = [.tmp 2] := by kernel_rfl
@[go_sem] theorem fn24 : Try.f24.ntmps = 60 := by kernel_rfl
@[go_sem] theorem go43 : isGo Try.prog 43 = true := by kernel_rfl
@[go_sem] theorem go44 : isGo Try.prog 44 = true := by kernel_rfl
@[go_sem] theorem go45 : isGo Try.prog 45 = true := by kernel_rfl
@[go_sem] theorem go46 : isGo Try.prog 46 = true := by kernel_rfl
@[go_sem] theorem fr25 : Try.f25.results.toList = [.tmp 2] := by kernel_rfl
@[go_sem] theorem fn25 : Try.f25.ntmps = 72 := by kernel_rfl
@[go_sem] theorem tz44 : tZero Try.prog 44 = some [.map none] := by kernel_rfl
@[go_sem] theorem go47 : isGo Try.prog 47 = true := by kernel_rfl
@[go_sem] theorem fr26 : Try.f26.results.toList = [.tmp 2] := by kernel_rfl
@[go_sem] theorem fn26 : Try.f26.ntmps = 27 := by kernel_rfl
@[go_sem] theorem go49 : isGo Try.prog 49 = true := by kernel_rfl
@[go_sem] theorem fr27 : Try.f27.results.toList = [.tmp 2] := by kernel_rfl
@[go_sem] theorem fn27 : Try.f27.ntmps = 19 := by kernel_rfl
@[go_sem] theorem fr28 : Try.f28.results.toList = [.tmp 4] := by kernel_rfl
@[go_sem] theorem fn28 : Try.f28.ntmps = 26 := by kernel_rfl
@[go_sem] theorem go50 : isGo Try.prog 50 = true := by kernel_rfl
@[go_sem] theorem go51 : isGo Try.prog 51 = true := by kernel_rfl
@[go_sem] theorem go52 : isGo Try.prog 52 = true := by kernel_rfl
@[go_sem] theorem fr29 : Try.f29.results.toList = [.tmp 4] := by kernel_rfl
@[go_sem] theorem fn29 : Try.f29.ntmps = 68 := by kernel_rfl
@[go_sem] theorem fr30 : Try.f30.results.toList = [.tmp 4] := by kernel_rfl
@[go_sem] theorem fn30 : Try.f30.ntmps = 19 := by kernel_rfl
@[go_sem] theorem fr31 : Try.f31.results.toList = [.tmp 4] := by kernel_rfl
@[go_sem] theorem fn31 : Try.f31.ntmps = 21 := by kernel_rfl
@[go_sem] theorem go53 : isGo Try.prog 53 = true := by kernel_rfl
@[go_sem] theorem fr32 : Try.f32.results.toList = [.tmp 4] := by kernel_rfl
@[go_sem] theorem fn32 : Try.f32.ntmps = 19 := by kernel_rfl
@[go_sem] theorem fr33 : Try.f33.results.toList = [.tmp 4] := by kernel_rfl
@[go_sem] theorem fn33 : Try.f33.ntmps = 21 := by kernel_rfl
@[go_sem] theorem ty84_i : tIsSlice Try.prog 84 = true := by kernel_rfl
@[go_sem] theorem ty84_e : tElem Try.prog 84 = some 9 := by kernel_rfl
@[go_sem] theorem ty84_l : tSlice Try.prog 84 = some (9, 1, 16) := by kernel_rfl
@[go_sem] theorem ty84_t : tIsStr Try.prog 84 = false := by kernel_rfl
@[go_sem] theorem ty84_u : (Try.prog.underlying 84).isSome = true := by kernel_rfl
@[go_sem] theorem go54 : isGo Try.prog 54 = true := by kernel_rfl
@[go_sem] theorem fr34 : Try.f34.results.toList = [.tmp 2] := by kernel_rfl
@[go_sem] theorem fn34 : Try.f34.ntmps = 42 := by kernel_rfl
@[go_sem] theorem fr35 : Try.f35.results.toList = [.tmp 4] := by kernel_rfl
@[go_sem] theorem fn35 : Try.f35.ntmps = 49 := by kernel_rfl
@[go_sem] theorem go55 : isGo Try.prog 55 = true := by kernel_rfl
@[go_sem] theorem fr36 : Try.f36.results.toList = [.cell 2 67] := by kernel_rfl
@[go_sem] theorem fn36 : Try.f36.ntmps = 18 := by kernel_rfl
@[go_sem] theorem fr37 : Try.f37.results.toList = [.tmp 4] := by kernel_rfl
@[go_sem] theorem fn37 : Try.f37.ntmps = 21 := by kernel_rfl
@[go_sem] theorem go56 : isGo Try.prog 56 = true := by kernel_rfl
@[go_sem] theorem fr38 : Try.f38.results.toList = [.tmp 4] := by kernel_rfl
@[go_sem] theorem fn38 : Try.f38.ntmps = 26 := by kernel_rfl
@[go_sem] theorem go57 : isGo Try.prog 57 = true := by kernel_rfl
@[go_sem] theorem fr39 : Try.f39.results.toList = [.tmp 2] := by kernel_rfl
@[go_sem] theorem fn39 : Try.f39.ntmps = 17 := by kernel_rfl
@[go_sem] theorem fr40 : Try.f40.results.toList = [.tmp 6] := by kernel_rfl
@[go_sem] theorem fn40 : Try.f40.ntmps = 15 := by kernel_rfl
@[go_sem] theorem go58 : isGo Try.prog 58 = true := by kernel_rfl
@[go_sem] theorem go59 : isGo Try.prog 59 = true := by kernel_rfl
@[go_sem] theorem go60 : isGo Try.prog 60 = true := by kernel_rfl
@[go_sem] theorem fr41 : Try.f41.results.toList = [.tmp 6] := by kernel_rfl
@[go_sem] theorem fn41 : Try.f41.ntmps = 32 := by kernel_rfl
@[go_sem] theorem go61 : isGo Try.prog 61 = true := by kernel_rfl
@[go_sem] theorem fr42 : Try.f42.results.toList = [.tmp 2] := by kernel_rfl
@[go_sem] theorem fn42 : Try.f42.ntmps = 8 := by kernel_rfl
@[go_sem] theorem go62 : isGo Try.prog 62 = true := by kernel_rfl
@[go_sem] theorem fr43 : Try.f43.results.toList = [.tmp 2] := by kernel_rfl
@[go_sem] theorem fn43 : Try.f43.ntmps = 16 := by kernel_rfl
@[go_sem] theorem ty91_m : tMap Try.prog 91 = some (false, .int .i64 0) := by kernel_rfl
@[go_sem] theorem tz65 : tZero Try.prog 65 = some [.int .i64 0, .string ⟨#[]⟩, .slice none 0 0, .slice none 0 0] := by kernel_rfl
@[go_sem] theorem go63 : isGo Try.prog 63 = true := by kernel_rfl
@[go_sem] theorem fr44 : Try.f44.results.toList = [.tmp 4] := by kernel_rfl
@[go_sem] theorem fn44 : Try.f44.ntmps = 142 := by kernel_rfl
@[go_sem] theorem go64 : isGo Try.prog 64 = true := by kernel_rfl
@[go_sem] theorem fr45 : Try.f45.results.toList = [.tmp 4] := by kernel_rfl
@[go_sem] theorem fn45 : Try.f45.ntmps = 18 := by kernel_rfl
@[go_sem] theorem fr46 : Try.f46.results.toList = [.tmp 4] := by kernel_rfl
@[go_sem] theorem fn46 : Try.f46.ntmps = 10 := by kernel_rfl
@[go_sem] theorem fr47 : Try.f47.results.toList = [] := by kernel_rfl
@[go_sem] theorem fn47 : Try.f47.ntmps = 20 := by kernel_rfl
@[go_sem] theorem fr48 : Try.f48.results.toList = [] := by kernel_rfl
@[go_sem] theorem fn48 : Try.f48.ntmps = 12 := by kernel_rfl
@[go_sem] theorem ty5_n : tInt Try.prog 5 = some Go.IntKind.u8 := by kernel_rfl
@[go_sem] theorem ty5_u : (Try.prog.underlying 5).isSome = true := by kernel_rfl
@[go_sem] theorem ty95_l : tSlice Try.prog 95 = some (5, 1, 1) := by kernel_rfl
@[go_sem] theorem ty95_b : tIsBytes Try.prog 95 = true := by kernel_rfl
@[go_sem] theorem fr50 : Try.f50.results.toList = [.tmp 2] := by kernel_rfl
@[go_sem] theorem fn50 : Try.f50.ntmps = 20 := by kernel_rfl
@[go_sem] theorem fr51 : Try.f51.results.toList = [.tmp 4] := by kernel_rfl
@[go_sem] theorem fn51 : Try.f51.ntmps = 42 := by kernel_rfl
@[go_sem] theorem fr52 : Try.f52.results.toList = [.tmp 4] := by kernel_rfl
@[go_sem] theorem fn52 : Try.f52.ntmps = 42 := by kernel_rfl
@[go_sem] theorem go67 : isGo Try.prog 67 = true := by kernel_rfl
@[go_sem] theorem go68 : isGo Try.prog 68 = true := by kernel_rfl
@[go_sem] theorem fr53 : Try.f53.results.toList = [.tmp 4] := by kernel_rfl
@[go_sem] theorem fn53 : Try.f53.ntmps = 25 := by kernel_rfl
@[go_sem] theorem fr54 : Try.f54.results.toList = [.tmp 6] := by kernel_rfl
@[go_sem] theorem fn54 : Try.f54.ntmps = 47 := by kernel_rfl
@[go_sem] theorem go69 : isGo Try.prog 69 = true := by kernel_rfl
@[go_sem] theorem go70 : isGo Try.prog 70 = true := by kernel_rfl
@[go_sem] theorem fr55 : Try.f55.results.toList = [.cell 2 65] := by kernel_rfl
@[go_sem] theorem fn55 : Try.f55.ntmps = 19 := by kernel_rfl
@[go_sem] theorem go71 : isGo Try.prog 71 = true := by kernel_rfl
@[go_sem] theorem go72 : isGo Try.prog 72 = true := by kernel_rfl
@[go_sem] theorem fr56 : Try.f56.results.toList = [.tmp 4] := by kernel_rfl
@[go_sem] theorem fn56 : Try.f56.ntmps = 27 := by kernel_rfl
@[go_sem] theorem fr57 : Try.f57.results.toList = [.tmp 2] := by kernel_rfl
@[go_sem] theorem fn57 : Try.f57.ntmps = 44 := by kernel_rfl
@[go_sem] theorem go73 : isGo Try.prog 73 = true := by kernel_rfl
@[go_sem] theorem fr58 : Try.f58.results.toList = [.tmp 2] := by kernel_rfl
@[go_sem] theorem fn58 : Try.f58.ntmps = 10 := by kernel_rfl
@[go_sem] theorem fr59 : Try.f59.results.toList = [.tmp 4] := by kernel_rfl
@[go_sem] theorem fn59 : Try.f59.ntmps = 41 := by kernel_rfl
@[go_sem] theorem tz93 : tZero Try.prog 93 = some [.int .i64 0, .int .i64 0, .string ⟨#[]⟩, .slice none 0 0] := by kernel_rfl
@[go_sem] theorem go74 : isGo Try.prog 74 = true := by kernel_rfl
@[go_sem] theorem fr60 : Try.f60.results.toList = [.tmp 4] := by kernel_rfl
@[go_sem] theorem fn60 : Try.f60.ntmps = 32 := by kernel_rfl
@[go_sem] theorem fr61 : Try.f61.results.toList = [.tmp 4] := by kernel_rfl
@[go_sem] theorem fn61 : Try.f61.ntmps = 28 := by kernel_rfl
@[go_sem] theorem fr62 : Try.f62.results.toList = [.tmp 2] := by kernel_rfl
@[go_sem] theorem fn62 : Try.f62.ntmps = 57 := by kernel_rfl
@[go_sem] theorem go75 : isGo Try.prog 75 = true := by kernel_rfl
@[go_sem] theorem fr63 : Try.f63.results.toList = [.tmp 2] := by kernel_rfl
@[go_sem] theorem fn63 : Try.f63.ntmps = 15 := by kernel_rfl
@[go_sem] theorem fr64 : Try.f64.results.toList = [.tmp 2] := by kernel_rfl
@[go_sem] theorem fn64 : Try.f64.ntmps = 10 := by kernel_rfl
@[go_sem] theorem fr65 : Try.f65.results.toList = [] := by kernel_rfl
@[go_sem] theorem fn65 : Try.f65.ntmps = 26 := by kernel_rfl
@[go_sem] theorem go81 : isGo Try.prog 81 = true := by kernel_rfl
@[go_sem] theorem fr67 : Try.f67.results.toList = [.tmp 4] := by kernel_rfl
@[go_sem] theorem fn67 : Try.f67.ntmps = 27 := by kernel_rfl
@[go_sem] theorem fr68 : Try.f68.results.toList = [.tmp 4] := by kernel_rfl
@[go_sem] theorem fn68 : Try.f68.ntmps = 27 := by kernel_rfl
@[go_sem] theorem go82 : isGo Try.prog 82 = true := by kernel_rfl
@[go_sem] theorem fr69 : Try.f69.results.toList = [.tmp 2] := by kernel_rfl
@[go_sem] theorem fn69 : Try.f69.ntmps = 23 := by kernel_rfl
@[go_sem] theorem fr70 : Try.f70.results.toList = [.tmp 2] := by kernel_rfl
@[go_sem] theorem fn70 : Try.f70.ntmps = 23 := by kernel_rfl
@[go_sem] theorem go83 : isGo Try.prog 83 = true := by kernel_rfl
@[go_sem] theorem fr71 : Try.f71.results.toList = [.tmp 4] := by kernel_rfl
@[go_sem] theorem fn71 : Try.f71.ntmps = 27 := by kernel_rfl
@[go_sem] theorem fr72 : Try.f72.results.toList = [.tmp 4] := by kernel_rfl
@[go_sem] theorem fn72 : Try.f72.ntmps = 27 := by kernel_rfl
@[go_sem] theorem go84 : isGo Try.prog 84 = true := by kernel_rfl
@[go_sem] theorem fr73 : Try.f73.results.toList = [.tmp 2] := by kernel_rfl
@[go_sem] theorem fn73 : Try.f73.ntmps = 106 := by kernel_rfl
@[go_sem] theorem fr74 : Try.f74.results.toList = [.tmp 4] := by kernel_rfl
@[go_sem] theorem fn74 : Try.f74.ntmps = 26 := by kernel_rfl
@[go_sem] theorem go85 : isGo Try.prog 85 = true := by kernel_rfl
@[go_sem] theorem fr75 : Try.f75.results.toList = [.tmp 2] := by kernel_rfl
@[go_sem] theorem fn75 : Try.f75.ntmps = 6 := by kernel_rfl
@[go_sem] theorem go77 : isGo Try.prog 77 = true := by kernel_rfl
@[go_sem] theorem fr76 : Try.f76.results.toList = [] := by kernel_rfl
@[go_sem] theorem fn76 : Try.f76.ntmps = 16 := by kernel_rfl
@[go_sem] theorem fr77 : Try.f77.results.toList = [] := by kernel_rfl
@[go_sem] theorem fn77 : Try.f77.ntmps = 26 := by kernel_rfl
@[go_sem] theorem fr78 : Try.f78.results.toList = [] := by kernel_rfl
@[go_sem] theorem fn78 : Try.f78.ntmps = 5 := by kernel_rfl
@[go_sem] theorem fr81 : Try.f81.results.toList = [.tmp 4] := by kernel_rfl
@[go_sem] theorem fn81 : Try.f81.ntmps = 19 := by kernel_rfl
@[go_sem] theorem fr82 : Try.f82.results.toList = [.cell 2 93] := by kernel_rfl
@[go_sem] theorem fn82 : Try.f82.ntmps = 18 := by kernel_rfl
@[go_sem] theorem fr83 : Try.f83.results.toList = [.tmp 4] := by kernel_rfl
@[go_sem] theorem fn83 : Try.f83.ntmps = 26 := by kernel_rfl
@[go_sem] theorem go97 : isGo Try.prog 97 = true := by kernel_rfl
@[go_sem] theorem fr84 : Try.f84.results.toList = [.tmp 2] := by kernel_rfl
@[go_sem] theorem fn84 : Try.f84.ntmps = 15 := by kernel_rfl
@[go_sem] theorem fr85 : Try.f85.results.toList = [.tmp 4] := by kernel_rfl
@[go_sem] theorem fn85 : Try.f85.ntmps = 107 := by kernel_rfl
@[go_sem] theorem go104 : isGo Try.prog 104 = true := by kernel_rfl
@[go_sem] theorem go105 : isGo Try.prog 105 = true := by kernel_rfl
@[go_sem] theorem fr97 : Try.f97.results.toList = [.tmp 2] := by kernel_rfl
@[go_sem] theorem fn97 : Try.f97.ntmps = 10 := by kernel_rfl
@[go_sem] theorem fr104 : Try.f104.results.toList = [.tmp 4] := by kernel_rfl
@[go_sem] theorem fn104 : Try.f104.ntmps = 28 := by kernel_rfl
@[go_sem] theorem fr105 : Try.f105.results.toList = [.tmp 2] := by kernel_rfl
@[go_sem] theorem fn105 : Try.f105.ntmps = 76 := by kernel_rfl
end Go.Proofs.Ytfniakcjekooiaa
