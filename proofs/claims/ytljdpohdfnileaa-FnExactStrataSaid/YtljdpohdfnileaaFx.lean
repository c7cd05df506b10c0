/- What the walks ask of the program: its types, and which functions have a body. -/
import Derived.Test.YtljdpohdfnileaaP1
import Derived.Test.YtljdpohdfnileaaA5
import Derived.Test.YtljdpohdfnileaaProg
import Derived.KernelRfl
namespace Go.Proofs.Ytljdpohdfnileaa
open Go.Abs

theorem mixed : Try.prog.follows .mixedOrders = true := by kernel_rfl
@[go_sem] theorem ty3_a : tAgg Try.prog 3 = some false := by kernel_rfl
@[go_sem] theorem ty3_s : tSize Try.prog 3 = some 1 := by kernel_rfl
@[go_sem] theorem ty3_n : tInt Try.prog 3 = some Go.IntKind.i64 := by kernel_rfl
@[go_sem] theorem ty3_u : (Try.prog.underlying 3).isSome = true := by kernel_rfl
@[go_sem] theorem ty4_a : tAgg Try.prog 4 = some false := by kernel_rfl
@[go_sem] theorem ty4_s : tSize Try.prog 4 = some 1 := by kernel_rfl
@[go_sem] theorem ty4_u : Try.prog.underlying 4 = some .bool := by kernel_rfl
@[go_sem] theorem ty9_a : tAgg Try.prog 9 = some false := by kernel_rfl
@[go_sem] theorem ty9_s : tSize Try.prog 9 = some 1 := by kernel_rfl
@[go_sem] theorem ty9_t : tIsStr Try.prog 9 = true := by kernel_rfl
@[go_sem] theorem ty9_i : tIsSlice Try.prog 9 = false := by kernel_rfl
@[go_sem] theorem ty9_u : (Try.prog.underlying 9).isSome = true := by kernel_rfl
@[go_sem] theorem ty22_a : tAgg Try.prog 22 = some false := by kernel_rfl
@[go_sem] theorem ty22_s : tSize Try.prog 22 = some 1 := by kernel_rfl
@[go_sem] theorem ty22_i : tIsSlice Try.prog 22 = true := by kernel_rfl
@[go_sem] theorem ty22_e : tElem Try.prog 22 = some 118 := by kernel_rfl
@[go_sem] theorem ty22_l : tSlice Try.prog 22 = some (118, 4, 56) := by kernel_rfl
@[go_sem] theorem ty22_t : tIsStr Try.prog 22 = false := by kernel_rfl
@[go_sem] theorem ty22_u : (Try.prog.underlying 22).isSome = true := by kernel_rfl
@[go_sem] theorem ty23_a : tAgg Try.prog 23 = some false := by kernel_rfl
@[go_sem] theorem ty23_s : tSize Try.prog 23 = some 1 := by kernel_rfl
@[go_sem] theorem ty23_i : tIsSlice Try.prog 23 = true := by kernel_rfl
@[go_sem] theorem ty23_e : tElem Try.prog 23 = some 25 := by kernel_rfl
@[go_sem] theorem ty23_l : tSlice Try.prog 23 = some (25, 4, 72) := by kernel_rfl
@[go_sem] theorem ty23_t : tIsStr Try.prog 23 = false := by kernel_rfl
@[go_sem] theorem ty23_u : (Try.prog.underlying 23).isSome = true := by kernel_rfl
@[go_sem] theorem ty25_a : tAgg Try.prog 25 = some true := by kernel_rfl
@[go_sem] theorem ty25_s : tSize Try.prog 25 = some 4 := by kernel_rfl
@[go_sem] theorem ty25_f0 : tField Try.prog 25 0 = some (0, 3) := by kernel_rfl
@[go_sem] theorem ty25_f1 : tField Try.prog 25 1 = some (1, 9) := by kernel_rfl
@[go_sem] theorem ty25_f2 : tField Try.prog 25 2 = some (2, 22) := by kernel_rfl
@[go_sem] theorem ty25_f3 : tField Try.prog 25 3 = some (3, 23) := by kernel_rfl
@[go_sem] theorem ty27_a : tAgg Try.prog 27 = some false := by kernel_rfl
@[go_sem] theorem ty27_s : tSize Try.prog 27 = some 1 := by kernel_rfl
@[go_sem] theorem ty27_i : tIsSlice Try.prog 27 = true := by kernel_rfl
@[go_sem] theorem ty27_e : tElem Try.prog 27 = some 9 := by kernel_rfl
@[go_sem] theorem ty27_l : tSlice Try.prog 27 = some (9, 1, 16) := by kernel_rfl
@[go_sem] theorem ty27_t : tIsStr Try.prog 27 = false := by kernel_rfl
@[go_sem] theorem ty27_u : (Try.prog.underlying 27).isSome = true := by kernel_rfl
@[go_sem] theorem ty29_a : tAgg Try.prog 29 = some false := by kernel_rfl
@[go_sem] theorem ty29_s : tSize Try.prog 29 = some 1 := by kernel_rfl
@[go_sem] theorem ty29_i : tIsSlice Try.prog 29 = true := by kernel_rfl
@[go_sem] theorem ty29_e : tElem Try.prog 29 = some 120 := by kernel_rfl
@[go_sem] theorem ty29_l : tSlice Try.prog 29 = some (120, 4, 56) := by kernel_rfl
@[go_sem] theorem ty29_t : tIsStr Try.prog 29 = false := by kernel_rfl
@[go_sem] theorem ty29_u : (Try.prog.underlying 29).isSome = true := by kernel_rfl
@[go_sem] theorem ty30_a : tAgg Try.prog 30 = some false := by kernel_rfl
@[go_sem] theorem ty30_s : tSize Try.prog 30 = some 1 := by kernel_rfl
@[go_sem] theorem ty30_i : tIsSlice Try.prog 30 = true := by kernel_rfl
@[go_sem] theorem ty30_e : tElem Try.prog 30 = some 32 := by kernel_rfl
@[go_sem] theorem ty30_l : tSlice Try.prog 30 = some (32, 4, 72) := by kernel_rfl
@[go_sem] theorem ty30_t : tIsStr Try.prog 30 = false := by kernel_rfl
@[go_sem] theorem ty30_u : (Try.prog.underlying 30).isSome = true := by kernel_rfl
@[go_sem] theorem ty32_a : tAgg Try.prog 32 = some true := by kernel_rfl
@[go_sem] theorem ty32_s : tSize Try.prog 32 = some 4 := by kernel_rfl
@[go_sem] theorem ty32_f0 : tField Try.prog 32 0 = some (0, 3) := by kernel_rfl
@[go_sem] theorem ty32_f1 : tField Try.prog 32 1 = some (1, 9) := by kernel_rfl
@[go_sem] theorem ty32_f2 : tField Try.prog 32 2 = some (2, 29) := by kernel_rfl
@[go_sem] theorem ty32_f3 : tField Try.prog 32 3 = some (3, 30) := by kernel_rfl
@[go_sem] theorem ty118_a : tAgg Try.prog 118 = some true := by kernel_rfl
@[go_sem] theorem ty118_s : tSize Try.prog 118 = some 4 := by kernel_rfl
@[go_sem] theorem ty118_f0 : tField Try.prog 118 0 = some (0, 3) := by kernel_rfl
@[go_sem] theorem ty118_f1 : tField Try.prog 118 1 = some (1, 3) := by kernel_rfl
@[go_sem] theorem ty118_f2 : tField Try.prog 118 2 = some (2, 9) := by kernel_rfl
@[go_sem] theorem ty118_f3 : tField Try.prog 118 3 = some (3, 22) := by kernel_rfl
@[go_sem] theorem ty120_a : tAgg Try.prog 120 = some true := by kernel_rfl
@[go_sem] theorem ty120_s : tSize Try.prog 120 = some 4 := by kernel_rfl
@[go_sem] theorem ty120_f0 : tField Try.prog 120 0 = some (0, 3) := by kernel_rfl
@[go_sem] theorem ty120_f1 : tField Try.prog 120 1 = some (1, 3) := by kernel_rfl
@[go_sem] theorem ty120_f2 : tField Try.prog 120 2 = some (2, 9) := by kernel_rfl
@[go_sem] theorem ty120_f3 : tField Try.prog 120 3 = some (3, 29) := by kernel_rfl
@[go_sem] theorem tz32 : tZero Try.prog 32 = some [.int .i64 0, .string ⟨#[]⟩, .slice none 0 0, .slice none 0 0] := by kernel_rfl
@[go_sem] theorem go11 : isGo Try.prog 11 = true := by kernel_rfl
@[go_sem] theorem go12 : isGo Try.prog 12 = true := by kernel_rfl
@[go_sem] theorem go13 : isGo Try.prog 13 = true := by kernel_rfl
@[go_sem] theorem go14 : isGo Try.prog 14 = true := by kernel_rfl
@[go_sem] theorem go15 : isGo Try.prog 15 = true := by kernel_rfl
@[go_sem] theorem go16 : isGo Try.prog 16 = true := by kernel_rfl
@[go_sem] theorem go17 : isGo Try.prog 17 = true := by kernel_rfl
@[go_sem] theorem go18 : isGo Try.prog 18 = true := by kernel_rfl
@[go_sem] theorem go19 : isGo Try.prog 19 = true := by kernel_rfl
@[go_sem] theorem fr3 : Try.f3.results.toList = [.tmp 4] := by kernel_rfl
@[go_sem] theorem fn3 : Try.f3.ntmps = 74 := by kernel_rfl
@[go_sem] theorem ty39_a : tAgg Try.prog 39 = some false := by kernel_rfl
@[go_sem] theorem ty39_s : tSize Try.prog 39 = some 1 := by kernel_rfl
@[go_sem] theorem ty39_i : tIsSlice Try.prog 39 = true := by kernel_rfl
@[go_sem] theorem ty39_e : tElem Try.prog 39 = some 23 := by kernel_rfl
@[go_sem] theorem ty39_l : tSlice Try.prog 39 = some (23, 1, 24) := by kernel_rfl
@[go_sem] theorem ty39_t : tIsStr Try.prog 39 = false := by kernel_rfl
@[go_sem] theorem ty39_u : (Try.prog.underlying 39).isSome = true := by kernel_rfl
@[go_sem] theorem ty43_a : tAgg Try.prog 43 = some false := by kernel_rfl
@[go_sem] theorem ty43_s : tSize Try.prog 43 = some 1 := by kernel_rfl
@[go_sem] theorem ty43_i : tIsSlice Try.prog 43 = true := by kernel_rfl
@[go_sem] theorem ty43_e : tElem Try.prog 43 = some 30 := by kernel_rfl
@[go_sem] theorem ty43_l : tSlice Try.prog 43 = some (30, 1, 24) := by kernel_rfl
@[go_sem] theorem ty43_t : tIsStr Try.prog 43 = false := by kernel_rfl
@[go_sem] theorem ty43_u : (Try.prog.underlying 43).isSome = true := by kernel_rfl
@[go_sem] theorem go20 : isGo Try.prog 20 = true := by kernel_rfl
@[go_sem] theorem go21 : isGo Try.prog 21 = true := by kernel_rfl
@[go_sem] theorem go22 : isGo Try.prog 22 = true := by kernel_rfl
@[go_sem] theorem go23 : isGo Try.prog 23 = true := by kernel_rfl
@[go_sem] theorem go24 : isGo Try.prog 24 = true := by kernel_rfl
@[go_sem] theorem go25 : isGo Try.prog 25 = true := by kernel_rfl
@[go_sem] theorem go26 : isGo Try.prog 26 = true := by kernel_rfl
@[go_sem] theorem fr4 : Try.f4.results.toList = [.tmp 2] := by kernel_rfl
@[go_sem] theorem fn4 : Try.f4.ntmps = 96 := by kernel_rfl
@[go_sem] theorem ty48_a : tAgg Try.prog 48 = some false := by kernel_rfl
@[go_sem] theorem ty48_s : tSize Try.prog 48 = some 1 := by kernel_rfl
@[go_sem] theorem ty48_i : tIsSlice Try.prog 48 = true := by kernel_rfl
@[go_sem] theorem ty48_e : tElem Try.prog 48 = some 3 := by kernel_rfl
@[go_sem] theorem ty48_l : tSlice Try.prog 48 = some (3, 1, 8) := by kernel_rfl
@[go_sem] theorem ty48_t : tIsStr Try.prog 48 = false := by kernel_rfl
@[go_sem] theorem ty48_u : (Try.prog.underlying 48).isSome = true := by kernel_rfl
@[go_sem] theorem go27 : isGo Try.prog 27 = true := by kernel_rfl
@[go_sem] theorem go28 : isGo Try.prog 28 = true := by kernel_rfl
@[go_sem] theorem go29 : isGo Try.prog 29 = true := by kernel_rfl
@[go_sem] theorem go30 : isGo Try.prog 30 = true := by kernel_rfl
@[go_sem] theorem fr5 : Try.f5.results.toList = [.tmp 4] := by kernel_rfl
@[go_sem] theorem fn5 : Try.f5.ntmps = 43 := by kernel_rfl
@[go_sem] theorem go31 : isGo Try.prog 31 = true := by kernel_rfl
@[go_sem] theorem go32 : isGo Try.prog 32 = true := by kernel_rfl
@[go_sem] theorem go33 : isGo Try.prog 33 = true := by kernel_rfl
@[go_sem] theorem go34 : isGo Try.prog 34 = true := by kernel_rfl
@[go_sem] theorem fr6 : Try.f6.results.toList = [.tmp 4] := by kernel_rfl
@[go_sem] theorem fn6 : Try.f6.ntmps = 101 := by kernel_rfl
@[go_sem] theorem go35 : isGo Try.prog 35 = true := by kernel_rfl
@[go_sem] theorem go36 : isGo Try.prog 36 = true := by kernel_rfl
@[go_sem] theorem go37 : isGo Try.prog 37 = true := by kernel_rfl
@[go_sem] theorem fr7 : Try.f7.results.toList = [.tmp 2] := by kernel_rfl
@[go_sem] theorem fn7 : Try.f7.ntmps = 96 := by kernel_rfl
@[go_sem] theorem go38 : isGo Try.prog 38 = true := by kernel_rfl
@[go_sem] theorem go39 : isGo Try.prog 39 = true := by kernel_rfl
@[go_sem] theorem fr8 : Try.f8.results.toList = [.tmp 2] := by kernel_rfl
@[go_sem] theorem fn8 : Try.f8.ntmps = 69 := by kernel_rfl
@[go_sem] theorem ty61_a : tAgg Try.prog 61 = some false := by kernel_rfl
@[go_sem] theorem ty61_s : tSize Try.prog 61 = some 1 := by kernel_rfl
@[go_sem] theorem ty61_i : tIsSlice Try.prog 61 = true := by kernel_rfl
@[go_sem] theorem ty61_e : tElem Try.prog 61 = some 137 := by kernel_rfl
@[go_sem] theorem ty61_l : tSlice Try.prog 61 = some (137, 7, 104) := by kernel_rfl
@[go_sem] theorem ty61_t : tIsStr Try.prog 61 = false := by kernel_rfl
@[go_sem] theorem ty61_u : (Try.prog.underlying 61).isSome = true := by kernel_rfl
@[go_sem] theorem ty63_a : tAgg Try.prog 63 = some true := by kernel_rfl
@[go_sem] theorem ty63_s : tSize Try.prog 63 = some 1 := by kernel_rfl
@[go_sem] theorem ty63_f0 : tField Try.prog 63 0 = some (0, 61) := by kernel_rfl
@[go_sem] theorem ty66_a : tAgg Try.prog 66 = some false := by kernel_rfl
@[go_sem] theorem ty66_s : tSize Try.prog 66 = some 1 := by kernel_rfl
@[go_sem] theorem ty66_i : tIsSlice Try.prog 66 = true := by kernel_rfl
@[go_sem] theorem ty66_e : tElem Try.prog 66 = some 109 := by kernel_rfl
@[go_sem] theorem ty66_l : tSlice Try.prog 66 = some (109, 7, 104) := by kernel_rfl
@[go_sem] theorem ty66_t : tIsStr Try.prog 66 = false := by kernel_rfl
@[go_sem] theorem ty66_u : (Try.prog.underlying 66).isSome = true := by kernel_rfl
@[go_sem] theorem ty68_a : tAgg Try.prog 68 = some true := by kernel_rfl
@[go_sem] theorem ty68_s : tSize Try.prog 68 = some 1 := by kernel_rfl
@[go_sem] theorem ty68_f0 : tField Try.prog 68 0 = some (0, 66) := by kernel_rfl
@[go_sem] theorem ty109_a : tAgg Try.prog 109 = some true := by kernel_rfl
@[go_sem] theorem ty109_s : tSize Try.prog 109 = some 7 := by kernel_rfl
@[go_sem] theorem ty109_f0 : tField Try.prog 109 0 = some (0, 9) := by kernel_rfl
@[go_sem] theorem ty109_f1 : tField Try.prog 109 1 = some (1, 3) := by kernel_rfl
@[go_sem] theorem ty109_f2 : tField Try.prog 109 2 = some (2, 3) := by kernel_rfl
@[go_sem] theorem ty109_f3 : tField Try.prog 109 3 = some (3, 32) := by kernel_rfl
@[go_sem] theorem ty137_a : tAgg Try.prog 137 = some true := by kernel_rfl
@[go_sem] theorem ty137_s : tSize Try.prog 137 = some 7 := by kernel_rfl
@[go_sem] theorem ty137_f0 : tField Try.prog 137 0 = some (0, 9) := by kernel_rfl
@[go_sem] theorem ty137_f1 : tField Try.prog 137 1 = some (1, 3) := by kernel_rfl
@[go_sem] theorem ty137_f2 : tField Try.prog 137 2 = some (2, 3) := by kernel_rfl
@[go_sem] theorem ty137_f3 : tField Try.prog 137 3 = some (3, 25) := by kernel_rfl
@[go_sem] theorem tz68 : tZero Try.prog 68 = some [.slice none 0 0] := by kernel_rfl
@[go_sem] theorem go40 : isGo Try.prog 40 = true := by kernel_rfl
@[go_sem] theorem go41 : isGo Try.prog 41 = true := by kernel_rfl
@[go_sem] theorem go42 : isGo Try.prog 42 = true := by kernel_rfl
@[go_sem] theorem go43 : isGo Try.prog 43 = true := by kernel_rfl
@[go_sem] theorem go44 : isGo Try.prog 44 = true := by kernel_rfl
@[go_sem] theorem go45 : isGo Try.prog 45 = true := by kernel_rfl
@[go_sem] theorem fr9 : Try.f9.results.toList = [.tmp 2] := by kernel_rfl
@[go_sem] theorem fn9 : Try.f9.ntmps = 96 := by kernel_rfl
@[go_sem] theorem ty73_a : tAgg Try.prog 73 = some false := by kernel_rfl
@[go_sem] theorem ty73_s : tSize Try.prog 73 = some 1 := by kernel_rfl
@[go_sem] theorem ty73_i : tIsSlice Try.prog 73 = true := by kernel_rfl
@[go_sem] theorem ty73_e : tElem Try.prog 73 = some 48 := by kernel_rfl
@[go_sem] theorem ty73_l : tSlice Try.prog 73 = some (48, 1, 24) := by kernel_rfl
@[go_sem] theorem ty73_t : tIsStr Try.prog 73 = false := by kernel_rfl
@[go_sem] theorem ty73_u : (Try.prog.underlying 73).isSome = true := by kernel_rfl
@[go_sem] theorem go46 : isGo Try.prog 46 = true := by kernel_rfl
@[go_sem] theorem go47 : isGo Try.prog 47 = true := by kernel_rfl
@[go_sem] theorem go48 : isGo Try.prog 48 = true := by kernel_rfl
@[go_sem] theorem go49 : isGo Try.prog 49 = true := by kernel_rfl
@[go_sem] theorem go50 : isGo Try.prog 50 = true := by kernel_rfl
@[go_sem] theorem fr10 : Try.f10.results.toList = [.tmp 2] := by kernel_rfl
@[go_sem] theorem fn10 : Try.f10.ntmps = 69 := by kernel_rfl
@[go_sem] theorem go51 : isGo Try.prog 51 = true := by kernel_rfl
@[go_sem] theorem go52 : isGo Try.prog 52 = true := by kernel_rfl
@[go_sem] theorem fr11 : Try.f11.results.toList = [.tmp 4] := by kernel_rfl
@[go_sem] theorem fn11 : Try.f11.ntmps = 25 := by kernel_rfl
@[go_sem] theorem go53 : isGo Try.prog 53 = true := by kernel_rfl
@[go_sem] theorem go54 : isGo Try.prog 54 = true := by kernel_rfl
@[go_sem] theorem fr12 : Try.f12.results.toList = [.tmp 4] := by kernel_rfl
@[go_sem] theorem fn12 : Try.f12.ntmps = 11 := by kernel_rfl
@[go_sem] theorem go55 : isGo Try.prog 55 = true := by kernel_rfl
@[go_sem] theorem go56 : isGo Try.prog 56 = true := by kernel_rfl
@[go_sem] theorem fr13 : Try.f13.results.toList = [.cell 2 32] := by kernel_rfl
@[go_sem] theorem fn13 : Try.f13.ntmps = 19 := by kernel_rfl
@[go_sem] theorem go57 : isGo Try.prog 57 = true := by kernel_rfl
@[go_sem] theorem go58 : isGo Try.prog 58 = true := by kernel_rfl
@[go_sem] theorem fr14 : Try.f14.results.toList = [.tmp 4] := by kernel_rfl
@[go_sem] theorem fn14 : Try.f14.ntmps = 11 := by kernel_rfl
@[go_sem] theorem fr15 : Try.f15.results.toList = [.tmp 4] := by kernel_rfl
@[go_sem] theorem fn15 : Try.f15.ntmps = 26 := by kernel_rfl
@[go_sem] theorem go59 : isGo Try.prog 59 = true := by kernel_rfl
@[go_sem] theorem go60 : isGo Try.prog 60 = true := by kernel_rfl
@[go_sem] theorem fr16 : Try.f16.results.toList = [.tmp 4] := by kernel_rfl
@[go_sem] theorem fn16 : Try.f16.ntmps = 27 := by kernel_rfl
@[go_sem] theorem go61 : isGo Try.prog 61 = true := by kernel_rfl
@[go_sem] theorem go62 : isGo Try.prog 62 = true := by kernel_rfl
@[go_sem] theorem fr17 : Try.f17.results.toList = [.tmp 4] := by kernel_rfl
@[go_sem] theorem fn17 : Try.f17.ntmps = 14 := by kernel_rfl
@[go_sem] theorem go63 : isGo Try.prog 63 = true := by kernel_rfl
@[go_sem] theorem fr18 : Try.f18.results.toList = [.tmp 4] := by kernel_rfl
@[go_sem] theorem fn18 : Try.f18.ntmps = 20 := by kernel_rfl
@[go_sem] theorem fr19 : Try.f19.results.toList = [.tmp 4] := by kernel_rfl
@[go_sem] theorem fn19 : Try.f19.ntmps = 22 := by kernel_rfl
@[go_sem] theorem fr20 : Try.f20.results.toList = [.tmp 4] := by kernel_rfl
@[go_sem] theorem fn20 : Try.f20.ntmps = 27 := by kernel_rfl
@[go_sem] theorem tb32 : tBuild Try.prog 32 = some ([.int .i64 0, .string ⟨#[]⟩, .slice none 0 0, .slice none 0 0], [(0, 1), (1, 1), (2, 1), (3, 1)]) := by kernel_rfl
@[go_sem] theorem go64 : isGo Try.prog 64 = true := by kernel_rfl
@[go_sem] theorem go65 : isGo Try.prog 65 = true := by kernel_rfl
@[go_sem] theorem go66 : isGo Try.prog 66 = true := by kernel_rfl
@[go_sem] theorem fr21 : Try.f21.results.toList = [.cell 2 32, .tmp 3] := by kernel_rfl
@[go_sem] theorem fn21 : Try.f21.ntmps = 46 := by kernel_rfl
@[go_sem] theorem tz30 : tZero Try.prog 30 = some [.slice none 0 0] := by kernel_rfl
@[go_sem] theorem fr22 : Try.f22.results.toList = [.tmp 2] := by kernel_rfl
@[go_sem] theorem fn22 : Try.f22.ntmps = 23 := by kernel_rfl
@[go_sem] theorem go67 : isGo Try.prog 67 = true := by kernel_rfl
@[go_sem] theorem fr23 : Try.f23.results.toList = [.cell 2 32, .tmp 3] := by kernel_rfl
@[go_sem] theorem fn23 : Try.f23.ntmps = 62 := by kernel_rfl
@[go_sem] theorem fr24 : Try.f24.results.toList = [.tmp 4] := by kernel_rfl
@[go_sem] theorem fn24 : Try.f24.ntmps = 27 := by kernel_rfl
@[go_sem] theorem fr25 : Try.f25.results.toList = [.tmp 4] := by kernel_rfl
@[go_sem] theorem fn25 : Try.f25.ntmps = 19 := by kernel_rfl
@[go_sem] theorem go68 : isGo Try.prog 68 = true := by kernel_rfl
@[go_sem] theorem go69 : isGo Try.prog 69 = true := by kernel_rfl
@[go_sem] theorem fr26 : Try.f26.results.toList = [.tmp 4] := by kernel_rfl
@[go_sem] theorem fn26 : Try.f26.ntmps = 18 := by kernel_rfl
@[go_sem] theorem ty92_a : tAgg Try.prog 92 = some false := by kernel_rfl
@[go_sem] theorem ty92_s : tSize Try.prog 92 = some 1 := by kernel_rfl
@[go_sem] theorem ty92_i : tIsSlice Try.prog 92 = true := by kernel_rfl
@[go_sem] theorem ty92_e : tElem Try.prog 92 = some 126 := by kernel_rfl
@[go_sem] theorem ty92_l : tSlice Try.prog 92 = some (126, 4, 72) := by kernel_rfl
@[go_sem] theorem ty92_t : tIsStr Try.prog 92 = false := by kernel_rfl
@[go_sem] theorem ty92_u : (Try.prog.underlying 92).isSome = true := by kernel_rfl
@[go_sem] theorem ty94_a : tAgg Try.prog 94 = some true := by kernel_rfl
@[go_sem] theorem ty94_s : tSize Try.prog 94 = some 7 := by kernel_rfl
@[go_sem] theorem ty94_f0 : tField Try.prog 94 0 = some (0, 48) := by kernel_rfl
@[go_sem] theorem ty94_f1 : tField Try.prog 94 1 = some (1, 3) := by kernel_rfl
@[go_sem] theorem ty94_f2 : tField Try.prog 94 2 = some (2, 3) := by kernel_rfl
@[go_sem] theorem ty94_f3 : tField Try.prog 94 3 = some (3, 4) := by kernel_rfl
@[go_sem] theorem ty94_f4 : tField Try.prog 94 4 = some (4, 92) := by kernel_rfl
@[go_sem] theorem ty94_f5 : tField Try.prog 94 5 = some (5, 73) := by kernel_rfl
@[go_sem] theorem ty94_f6 : tField Try.prog 94 6 = some (6, 4) := by kernel_rfl
@[go_sem] theorem ty96_a : tAgg Try.prog 96 = some false := by kernel_rfl
@[go_sem] theorem ty96_s : tSize Try.prog 96 = some 1 := by kernel_rfl
@[go_sem] theorem ty126_a : tAgg Try.prog 126 = some true := by kernel_rfl
@[go_sem] theorem ty126_s : tSize Try.prog 126 = some 4 := by kernel_rfl
@[go_sem] theorem ty126_f0 : tField Try.prog 126 0 = some (0, 9) := by kernel_rfl
@[go_sem] theorem ty126_f1 : tField Try.prog 126 1 = some (1, 3) := by kernel_rfl
@[go_sem] theorem ty126_f2 : tField Try.prog 126 2 = some (2, 29) := by kernel_rfl
@[go_sem] theorem ty126_f3 : tField Try.prog 126 3 = some (3, 92) := by kernel_rfl
@[go_sem] theorem tz94 : tZero Try.prog 94 = some [.slice none 0 0, .int .i64 0, .int .i64 0, .bool false, .slice none 0 0, .slice none 0 0, .bool false] := by kernel_rfl
@[go_sem] theorem tb68 : tBuild Try.prog 68 = some ([.slice none 0 0], [(0, 1)]) := by kernel_rfl
@[go_sem] theorem tb94 : tBuild Try.prog 94 = some ([.slice none 0 0, .int .i64 0, .int .i64 0, .bool false, .slice none 0 0, .slice none 0 0, .bool false], [(0, 1), (1, 1), (2, 1), (3, 1), (4, 1), (5, 1), (6, 1)]) := by kernel_rfl
@[go_sem] theorem go70 : isGo Try.prog 70 = true := by kernel_rfl
@[go_sem] theorem fr27 : Try.f27.results.toList = [.tmp 4] := by kernel_rfl
@[go_sem] theorem fn27 : Try.f27.ntmps = 33 := by kernel_rfl
@[go_sem] theorem tz3 : tZero Try.prog 3 = some [.int .i64 0] := by kernel_rfl
@[go_sem] theorem fr28 : Try.f28.results.toList = [.tmp 2] := by kernel_rfl
@[go_sem] theorem fn28 : Try.f28.ntmps = 22 := by kernel_rfl
@[go_sem] theorem ty98_a : tAgg Try.prog 98 = some false := by kernel_rfl
@[go_sem] theorem ty98_s : tSize Try.prog 98 = some 1 := by kernel_rfl
@[go_sem] theorem tz48 : tZero Try.prog 48 = some [.slice none 0 0] := by kernel_rfl
@[go_sem] theorem go71 : isGo Try.prog 71 = true := by kernel_rfl
@[go_sem] theorem go72 : isGo Try.prog 72 = true := by kernel_rfl
@[go_sem] theorem fr29 : Try.f29.results.toList = [.tmp 4] := by kernel_rfl
@[go_sem] theorem fn29 : Try.f29.ntmps = 28 := by kernel_rfl
@[go_sem] theorem fr30 : Try.f30.results.toList = [.tmp 4] := by kernel_rfl
@[go_sem] theorem fn30 : Try.f30.ntmps = 26 := by kernel_rfl
@[go_sem] theorem go73 : isGo Try.prog 73 = true := by kernel_rfl
@[go_sem] theorem go74 : isGo Try.prog 74 = true := by kernel_rfl
@[go_sem] theorem fr31 : Try.f31.results.toList = [.tmp 4, .tmp 5] := by kernel_rfl
@[go_sem] theorem fn31 : Try.f31.ntmps = 35 := by kernel_rfl
@[go_sem] theorem go75 : isGo Try.prog 75 = true := by kernel_rfl
@[go_sem] theorem fr32 : Try.f32.results.toList = [.tmp 4, .tmp 5] := by kernel_rfl
@[go_sem] theorem fn32 : Try.f32.ntmps = 31 := by kernel_rfl
@[go_sem] theorem fr33 : Try.f33.results.toList = [.tmp 4] := by kernel_rfl
@[go_sem] theorem fn33 : Try.f33.ntmps = 19 := by kernel_rfl
@[go_sem] theorem fr34 : Try.f34.results.toList = [.tmp 4] := by kernel_rfl
@[go_sem] theorem fn34 : Try.f34.ntmps = 21 := by kernel_rfl
@[go_sem] theorem go76 : isGo Try.prog 76 = true := by kernel_rfl
@[go_sem] theorem fr35 : Try.f35.results.toList = [.tmp 2, .tmp 3] := by kernel_rfl
@[go_sem] theorem fn35 : Try.f35.ntmps = 30 := by kernel_rfl
@[go_sem] theorem go77 : isGo Try.prog 77 = true := by kernel_rfl
@[go_sem] theorem fr36 : Try.f36.results.toList = [.tmp 2, .tmp 3] := by kernel_rfl
@[go_sem] theorem fn36 : Try.f36.ntmps = 18 := by kernel_rfl
@[go_sem] theorem fr37 : Try.f37.results.toList = [.tmp 4] := by kernel_rfl
@[go_sem] theorem fn37 : Try.f37.ntmps = 21 := by kernel_rfl
@[go_sem] theorem go78 : isGo Try.prog 78 = true := by kernel_rfl
@[go_sem] theorem fr38 : Try.f38.results.toList = [.tmp 2] := by kernel_rfl
@[go_sem] theorem fn38 : Try.f38.ntmps = 8 := by kernel_rfl
@[go_sem] theorem go79 : isGo Try.prog 79 = true := by kernel_rfl
@[go_sem] theorem fr39 : Try.f39.results.toList = [.tmp 2] := by kernel_rfl
@[go_sem] theorem fn39 : Try.f39.ntmps = 8 := by kernel_rfl
@[go_sem] theorem go80 : isGo Try.prog 80 = true := by kernel_rfl
@[go_sem] theorem fr40 : Try.f40.results.toList = [.tmp 4] := by kernel_rfl
@[go_sem] theorem fn40 : Try.f40.ntmps = 12 := by kernel_rfl
@[go_sem] theorem tz109 : tZero Try.prog 109 = some [.string ⟨#[]⟩, .int .i64 0, .int .i64 0, .int .i64 0, .string ⟨#[]⟩, .slice none 0 0, .slice none 0 0] := by kernel_rfl
@[go_sem] theorem go81 : isGo Try.prog 81 = true := by kernel_rfl
@[go_sem] theorem go82 : isGo Try.prog 82 = true := by kernel_rfl
@[go_sem] theorem go83 : isGo Try.prog 83 = true := by kernel_rfl
@[go_sem] theorem fr41 : Try.f41.results.toList = [.tmp 2, .tmp 3] := by kernel_rfl
@[go_sem] theorem fn41 : Try.f41.ntmps = 81 := by kernel_rfl
@[go_sem] theorem go84 : isGo Try.prog 84 = true := by kernel_rfl
@[go_sem] theorem fr42 : Try.f42.results.toList = [.cell 2 68] := by kernel_rfl
@[go_sem] theorem fn42 : Try.f42.ntmps = 9 := by kernel_rfl
@[go_sem] theorem ty113_a : tAgg Try.prog 113 = some false := by kernel_rfl
@[go_sem] theorem ty113_s : tSize Try.prog 113 = some 1 := by kernel_rfl
@[go_sem] theorem ty113_i : tIsSlice Try.prog 113 = true := by kernel_rfl
@[go_sem] theorem ty113_e : tElem Try.prog 113 = some 27 := by kernel_rfl
@[go_sem] theorem ty113_l : tSlice Try.prog 113 = some (27, 1, 24) := by kernel_rfl
@[go_sem] theorem ty113_t : tIsStr Try.prog 113 = false := by kernel_rfl
@[go_sem] theorem ty113_u : (Try.prog.underlying 113).isSome = true := by kernel_rfl
@[go_sem] theorem go85 : isGo Try.prog 85 = true := by kernel_rfl
@[go_sem] theorem go86 : isGo Try.prog 86 = true := by kernel_rfl
@[go_sem] theorem fr43 : Try.f43.results.toList = [.tmp 2, .tmp 3] := by kernel_rfl
@[go_sem] theorem fn43 : Try.f43.ntmps = 78 := by kernel_rfl
@[go_sem] theorem go87 : isGo Try.prog 87 = true := by kernel_rfl
@[go_sem] theorem fr44 : Try.f44.results.toList = [.tmp 4] := by kernel_rfl
@[go_sem] theorem fn44 : Try.f44.ntmps = 11 := by kernel_rfl
@[go_sem] theorem go88 : isGo Try.prog 88 = true := by kernel_rfl
@[go_sem] theorem fr45 : Try.f45.results.toList = [.tmp 4] := by kernel_rfl
@[go_sem] theorem fn45 : Try.f45.ntmps = 10 := by kernel_rfl
@[go_sem] theorem go89 : isGo Try.prog 89 = true := by kernel_rfl
@[go_sem] theorem fr46 : Try.f46.results.toList = [.tmp 2] := by kernel_rfl
@[go_sem] theorem fn46 : Try.f46.ntmps = 8 := by kernel_rfl
@[go_sem] theorem go90 : isGo Try.prog 90 = true := by kernel_rfl
@[go_sem] theorem fr47 : Try.f47.results.toList = [.tmp 2] := by kernel_rfl
@[go_sem] theorem fn47 : Try.f47.ntmps = 8 := by kernel_rfl
@[go_sem] theorem fr48 : Try.f48.results.toList = [.tmp 4] := by kernel_rfl
@[go_sem] theorem fn48 : Try.f48.ntmps = 27 := by kernel_rfl
@[go_sem] theorem fr49 : Try.f49.results.toList = [.tmp 4] := by kernel_rfl
@[go_sem] theorem fn49 : Try.f49.ntmps = 19 := by kernel_rfl
@[go_sem] theorem fr50 : Try.f50.results.toList = [.tmp 4] := by kernel_rfl
@[go_sem] theorem fn50 : Try.f50.ntmps = 21 := by kernel_rfl
@[go_sem] theorem go91 : isGo Try.prog 91 = true := by kernel_rfl
@[go_sem] theorem fr51 : Try.f51.results.toList = [.tmp 4] := by kernel_rfl
@[go_sem] theorem fn51 : Try.f51.ntmps = 27 := by kernel_rfl
@[go_sem] theorem fr52 : Try.f52.results.toList = [.tmp 4] := by kernel_rfl
@[go_sem] theorem fn52 : Try.f52.ntmps = 27 := by kernel_rfl
@[go_sem] theorem go92 : isGo Try.prog 92 = true := by kernel_rfl
@[go_sem] theorem go93 : isGo Try.prog 93 = true := by kernel_rfl
@[go_sem] theorem fr53 : Try.f53.results.toList = [.tmp 2] := by kernel_rfl
@[go_sem] theorem fn53 : Try.f53.ntmps = 10 := by kernel_rfl
@[go_sem] theorem fr54 : Try.f54.results.toList = [.tmp 6] := by kernel_rfl
@[go_sem] theorem fn54 : Try.f54.ntmps = 47 := by kernel_rfl
@[go_sem] theorem tz120 : tZero Try.prog 120 = some [.int .i64 0, .int .i64 0, .string ⟨#[]⟩, .slice none 0 0] := by kernel_rfl
@[go_sem] theorem go94 : isGo Try.prog 94 = true := by kernel_rfl
@[go_sem] theorem fr55 : Try.f55.results.toList = [.tmp 2] := by kernel_rfl
@[go_sem] theorem fn55 : Try.f55.ntmps = 23 := by kernel_rfl
@[go_sem] theorem fr56 : Try.f56.results.toList = [.tmp 2] := by kernel_rfl
@[go_sem] theorem fn56 : Try.f56.ntmps = 23 := by kernel_rfl
@[go_sem] theorem go95 : isGo Try.prog 95 = true := by kernel_rfl
@[go_sem] theorem fr57 : Try.f57.results.toList = [.tmp 2] := by kernel_rfl
@[go_sem] theorem fn57 : Try.f57.ntmps = 6 := by kernel_rfl
@[go_sem] theorem fr58 : Try.f58.results.toList = [.tmp 6] := by kernel_rfl
@[go_sem] theorem fn58 : Try.f58.ntmps = 44 := by kernel_rfl
@[go_sem] theorem go96 : isGo Try.prog 96 = true := by kernel_rfl
@[go_sem] theorem fr59 : Try.f59.results.toList = [.tmp 4] := by kernel_rfl
@[go_sem] theorem fn59 : Try.f59.ntmps = 27 := by kernel_rfl
@[go_sem] theorem fr60 : Try.f60.results.toList = [.tmp 4] := by kernel_rfl
@[go_sem] theorem fn60 : Try.f60.ntmps = 27 := by kernel_rfl
@[go_sem] theorem fr61 : Try.f61.results.toList = [.tmp 4] := by kernel_rfl
@[go_sem] theorem fn61 : Try.f61.ntmps = 42 := by kernel_rfl
@[go_sem] theorem fr62 : Try.f62.results.toList = [.tmp 4] := by kernel_rfl
@[go_sem] theorem fn62 : Try.f62.ntmps = 42 := by kernel_rfl
@[go_sem] theorem ty5_a : tAgg Try.prog 5 = some false := by kernel_rfl
@[go_sem] theorem ty5_s : tSize Try.prog 5 = some 1 := by kernel_rfl
@[go_sem] theorem ty5_n : tInt Try.prog 5 = some Go.IntKind.u8 := by kernel_rfl
@[go_sem] theorem ty5_u : (Try.prog.underlying 5).isSome = true := by kernel_rfl
@[go_sem] theorem ty123_a : tAgg Try.prog 123 = some false := by kernel_rfl
@[go_sem] theorem ty123_s : tSize Try.prog 123 = some 1 := by kernel_rfl
@[go_sem] theorem ty123_i : tIsSlice Try.prog 123 = true := by kernel_rfl
@[go_sem] theorem ty123_e : tElem Try.prog 123 = some 5 := by kernel_rfl
@[go_sem] theorem ty123_l : tSlice Try.prog 123 = some (5, 1, 1) := by kernel_rfl
@[go_sem] theorem ty123_b : tIsBytes Try.prog 123 = true := by kernel_rfl
@[go_sem] theorem ty123_t : tIsStr Try.prog 123 = false := by kernel_rfl
@[go_sem] theorem ty123_u : (Try.prog.underlying 123).isSome = true := by kernel_rfl
@[go_sem] theorem fr63 : Try.f63.results.toList = [.tmp 2] := by kernel_rfl
@[go_sem] theorem fn63 : Try.f63.ntmps = 20 := by kernel_rfl
@[go_sem] theorem fr64 : Try.f64.results.toList = [.tmp 2] := by kernel_rfl
@[go_sem] theorem fn64 : Try.f64.ntmps = 15 := by kernel_rfl
@[go_sem] theorem fr65 : Try.f65.results.toList = [.cell 6 32] := by kernel_rfl
@[go_sem] theorem fn65 : Try.f65.ntmps = 11 := by kernel_rfl
@[go_sem] theorem go97 : isGo Try.prog 97 = true := by kernel_rfl
@[go_sem] theorem fr66 : Try.f66.results.toList = [.tmp 2] := by kernel_rfl
@[go_sem] theorem fn66 : Try.f66.ntmps = 20 := by kernel_rfl
@[go_sem] theorem go98 : isGo Try.prog 98 = true := by kernel_rfl
@[go_sem] theorem fr67 : Try.f67.results.toList = [.cell 2 32] := by kernel_rfl
@[go_sem] theorem fn67 : Try.f67.ntmps = 30 := by kernel_rfl
@[go_sem] theorem fr68 : Try.f68.results.toList = [.tmp 4] := by kernel_rfl
@[go_sem] theorem fn68 : Try.f68.ntmps = 50 := by kernel_rfl
@[go_sem] theorem fr69 : Try.f69.results.toList = [.tmp 4] := by kernel_rfl
@[go_sem] theorem fn69 : Try.f69.ntmps = 50 := by kernel_rfl
@[go_sem] theorem tz126 : tZero Try.prog 126 = some [.string ⟨#[]⟩, .int .i64 0, .slice none 0 0, .slice none 0 0] := by kernel_rfl
@[go_sem] theorem go99 : isGo Try.prog 99 = true := by kernel_rfl
@[go_sem] theorem fr70 : Try.f70.results.toList = [.tmp 6] := by kernel_rfl
@[go_sem] theorem fn70 : Try.f70.ntmps = 146 := by kernel_rfl
@[go_sem] theorem fr71 : Try.f71.results.toList = [.tmp 2, .tmp 3] := by kernel_rfl
@[go_sem] theorem fn71 : Try.f71.ntmps = 105 := by kernel_rfl
@[go_sem] theorem fr72 : Try.f72.results.toList = [.tmp 4] := by kernel_rfl
@[go_sem] theorem fn72 : Try.f72.ntmps = 107 := by kernel_rfl
@[go_sem] theorem fr73 : Try.f73.results.toList = [.tmp 6] := by kernel_rfl
@[go_sem] theorem fn73 : Try.f73.ntmps = 15 := by kernel_rfl
@[go_sem] theorem fr74 : Try.f74.results.toList = [.tmp 10, .tmp 11] := by kernel_rfl
@[go_sem] theorem fn74 : Try.f74.ntmps = 134 := by kernel_rfl
@[go_sem] theorem fr75 : Try.f75.results.toList = [.tmp 4] := by kernel_rfl
@[go_sem] theorem fn75 : Try.f75.ntmps = 100 := by kernel_rfl
@[go_sem] theorem fr76 : Try.f76.results.toList = [.tmp 2] := by kernel_rfl
@[go_sem] theorem fn76 : Try.f76.ntmps = 99 := by kernel_rfl
@[go_sem] theorem fr77 : Try.f77.results.toList = [.tmp 2] := by kernel_rfl
@[go_sem] theorem fn77 : Try.f77.ntmps = 35 := by kernel_rfl
@[go_sem] theorem go100 : isGo Try.prog 100 = true := by kernel_rfl
@[go_sem] theorem fr78 : Try.f78.results.toList = [.tmp 4] := by kernel_rfl
@[go_sem] theorem fn78 : Try.f78.ntmps = 32 := by kernel_rfl
@[go_sem] theorem ty129_a : tAgg Try.prog 129 = some false := by kernel_rfl
@[go_sem] theorem ty129_s : tSize Try.prog 129 = some 1 := by kernel_rfl
@[go_sem] theorem ty129_im : tIsMap Try.prog 129 = true := by kernel_rfl
@[go_sem] theorem ty129_m : tMap Try.prog 129 = some (false, .bool false) := by kernel_rfl
@[go_sem] theorem ty133_a : tAgg Try.prog 133 = some false := by kernel_rfl
@[go_sem] theorem ty133_s : tSize Try.prog 133 = some 1 := by kernel_rfl
@[go_sem] theorem tz129 : tZero Try.prog 129 = some [.map none] := by kernel_rfl
@[go_sem] theorem go101 : isGo Try.prog 101 = true := by kernel_rfl
@[go_sem] theorem go102 : isGo Try.prog 102 = true := by kernel_rfl
@[go_sem] theorem go105 : isGo Try.prog 105 = true := by kernel_rfl
@[go_sem] theorem fr79 : Try.f79.results.toList = [.tmp 2] := by kernel_rfl
@[go_sem] theorem fn79 : Try.f79.ntmps = 10 := by kernel_rfl
@[go_sem] theorem go106 : isGo Try.prog 106 = true := by kernel_rfl
@[go_sem] theorem fr80 : Try.f80.results.toList = [.tmp 4] := by kernel_rfl
@[go_sem] theorem fn80 : Try.f80.ntmps = 27 := by kernel_rfl
@[go_sem] theorem go107 : isGo Try.prog 107 = true := by kernel_rfl
@[go_sem] theorem go108 : isGo Try.prog 108 = true := by kernel_rfl
@[go_sem] theorem go109 : isGo Try.prog 109 = true := by kernel_rfl
@[go_sem] theorem fr81 : Try.f81.results.toList = [.tmp 2] := by kernel_rfl
@[go_sem] theorem fn81 : Try.f81.ntmps = 60 := by kernel_rfl
@[go_sem] theorem fr82 : Try.f82.results.toList = [.tmp 6] := by kernel_rfl
@[go_sem] theorem fn82 : Try.f82.ntmps = 17 := by kernel_rfl
@[go_sem] theorem fr83 : Try.f83.results.toList = [.tmp 4] := by kernel_rfl
@[go_sem] theorem fn83 : Try.f83.ntmps = 21 := by kernel_rfl
@[go_sem] theorem go110 : isGo Try.prog 110 = true := by kernel_rfl
@[go_sem] theorem fr84 : Try.f84.results.toList = [.tmp 2] := by kernel_rfl
@[go_sem] theorem fn84 : Try.f84.ntmps = 23 := by kernel_rfl
@[go_sem] theorem go111 : isGo Try.prog 111 = true := by kernel_rfl
@[go_sem] theorem go112 : isGo Try.prog 112 = true := by kernel_rfl
@[go_sem] theorem go113 : isGo Try.prog 113 = true := by kernel_rfl
@[go_sem] theorem fr85 : Try.f85.results.toList = [.tmp 2] := by kernel_rfl
@[go_sem] theorem fn85 : Try.f85.ntmps = 72 := by kernel_rfl
@[go_sem] theorem fr86 : Try.f86.results.toList = [.tmp 4] := by kernel_rfl
@[go_sem] theorem fn86 : Try.f86.ntmps = 21 := by kernel_rfl
@[go_sem] theorem go114 : isGo Try.prog 114 = true := by kernel_rfl
@[go_sem] theorem fr87 : Try.f87.results.toList = [.tmp 4] := by kernel_rfl
@[go_sem] theorem fn87 : Try.f87.ntmps = 27 := by kernel_rfl
@[go_sem] theorem fr88 : Try.f88.results.toList = [.tmp 4] := by kernel_rfl
@[go_sem] theorem fn88 : Try.f88.ntmps = 68 := by kernel_rfl
@[go_sem] theorem go115 : isGo Try.prog 115 = true := by kernel_rfl
@[go_sem] theorem fr89 : Try.f89.results.toList = [.tmp 2] := by kernel_rfl
@[go_sem] theorem fn89 : Try.f89.ntmps = 42 := by kernel_rfl
@[go_sem] theorem go116 : isGo Try.prog 116 = true := by kernel_rfl
@[go_sem] theorem fr90 : Try.f90.results.toList = [.tmp 2] := by kernel_rfl
@[go_sem] theorem fn90 : Try.f90.ntmps = 27 := by kernel_rfl
@[go_sem] theorem fr91 : Try.f91.results.toList = [.tmp 4] := by kernel_rfl
@[go_sem] theorem fn91 : Try.f91.ntmps = 19 := by kernel_rfl
@[go_sem] theorem fr92 : Try.f92.results.toList = [.tmp 4] := by kernel_rfl
@[go_sem] theorem fn92 : Try.f92.ntmps = 28 := by kernel_rfl
@[go_sem] theorem go117 : isGo Try.prog 117 = true := by kernel_rfl
@[go_sem] theorem fr93 : Try.f93.results.toList = [.tmp 2] := by kernel_rfl
@[go_sem] theorem fn93 : Try.f93.ntmps = 106 := by kernel_rfl
@[go_sem] theorem fr94 : Try.f94.results.toList = [.cell 2 120] := by kernel_rfl
@[go_sem] theorem fn94 : Try.f94.ntmps = 18 := by kernel_rfl
@[go_sem] theorem ty147_a : tAgg Try.prog 147 = some false := by kernel_rfl
@[go_sem] theorem ty147_s : tSize Try.prog 147 = some 1 := by kernel_rfl
@[go_sem] theorem ty147_im : tIsMap Try.prog 147 = true := by kernel_rfl
@[go_sem] theorem ty147_m : tMap Try.prog 147 = some (false, .int .i64 0) := by kernel_rfl
@[go_sem] theorem go118 : isGo Try.prog 118 = true := by kernel_rfl
@[go_sem] theorem fr95 : Try.f95.results.toList = [.tmp 4] := by kernel_rfl
@[go_sem] theorem fn95 : Try.f95.ntmps = 142 := by kernel_rfl
@[go_sem] theorem fr96 : Try.f96.results.toList = [.tmp 4] := by kernel_rfl
@[go_sem] theorem fn96 : Try.f96.ntmps = 26 := by kernel_rfl
@[go_sem] theorem go119 : isGo Try.prog 119 = true := by kernel_rfl
@[go_sem] theorem fr97 : Try.f97.results.toList = [.cell 2 32] := by kernel_rfl
@[go_sem] theorem fn97 : Try.f97.ntmps = 30 := by kernel_rfl
@[go_sem] theorem go120 : isGo Try.prog 120 = true := by kernel_rfl
@[go_sem] theorem fr98 : Try.f98.results.toList = [.tmp 2] := by kernel_rfl
@[go_sem] theorem fn98 : Try.f98.ntmps = 20 := by kernel_rfl
@[go_sem] theorem tb126 : tBuild Try.prog 126 = some ([.string ⟨#[]⟩, .int .i64 0, .slice none 0 0, .slice none 0 0], [(0, 1), (1, 1), (2, 1), (3, 1)]) := by kernel_rfl
@[go_sem] theorem go121 : isGo Try.prog 121 = true := by kernel_rfl
@[go_sem] theorem fr99 : Try.f99.results.toList = [.cell 6 126] := by kernel_rfl
@[go_sem] theorem fn99 : Try.f99.ntmps = 99 := by kernel_rfl
@[go_sem] theorem fr100 : Try.f100.results.toList = [.tmp 4] := by kernel_rfl
@[go_sem] theorem fn100 : Try.f100.ntmps = 26 := by kernel_rfl
@[go_sem] theorem fr101 : Try.f101.results.toList = [] := by kernel_rfl
@[go_sem] theorem fn101 : Try.f101.ntmps = 20 := by kernel_rfl
@[go_sem] theorem ty132_a : tAgg Try.prog 132 = some false := by kernel_rfl
@[go_sem] theorem ty132_s : tSize Try.prog 132 = some 1 := by kernel_rfl
@[go_sem] theorem go103 : isGo Try.prog 103 = true := by kernel_rfl
@[go_sem] theorem go104 : isGo Try.prog 104 = true := by kernel_rfl
@[go_sem] theorem fr102 : Try.f102.results.toList = [] := by kernel_rfl
@[go_sem] theorem fn102 : Try.f102.ntmps = 16 := by kernel_rfl
@[go_sem] theorem fr103 : Try.f103.results.toList = [] := by kernel_rfl
@[go_sem] theorem fn103 : Try.f103.ntmps = 26 := by kernel_rfl
@[go_sem] theorem fr104 : Try.f104.results.toList = [] := by kernel_rfl
@[go_sem] theorem fn104 : Try.f104.ntmps = 5 := by kernel_rfl
@[go_sem] theorem go122 : isGo Try.prog 122 = true := by kernel_rfl
@[go_sem] theorem fr105 : Try.f105.results.toList = [.tmp 2] := by kernel_rfl
@[go_sem] theorem fn105 : Try.f105.ntmps = 19 := by kernel_rfl
@[go_sem] theorem fr106 : Try.f106.results.toList = [.tmp 4] := by kernel_rfl
@[go_sem] theorem fn106 : Try.f106.ntmps = 19 := by kernel_rfl
@[go_sem] theorem go123 : isGo Try.prog 123 = true := by kernel_rfl
@[go_sem] theorem fr107 : Try.f107.results.toList = [.tmp 2] := by kernel_rfl
@[go_sem] theorem fn107 : Try.f107.ntmps = 17 := by kernel_rfl
@[go_sem] theorem go124 : isGo Try.prog 124 = true := by kernel_rfl
@[go_sem] theorem fr108 : Try.f108.results.toList = [.tmp 6] := by kernel_rfl
@[go_sem] theorem fn108 : Try.f108.ntmps = 32 := by kernel_rfl
@[go_sem] theorem fr109 : Try.f109.results.toList = [.tmp 2] := by kernel_rfl
@[go_sem] theorem fn109 : Try.f109.ntmps = 8 := by kernel_rfl
@[go_sem] theorem fr110 : Try.f110.results.toList = [.cell 2 109] := by kernel_rfl
@[go_sem] theorem fn110 : Try.f110.ntmps = 18 := by kernel_rfl
@[go_sem] theorem go125 : isGo Try.prog 125 = true := by kernel_rfl
@[go_sem] theorem fr111 : Try.f111.results.toList = [.tmp 2] := by kernel_rfl
@[go_sem] theorem fn111 : Try.f111.ntmps = 16 := by kernel_rfl
@[go_sem] theorem fr112 : Try.f112.results.toList = [.tmp 4] := by kernel_rfl
@[go_sem] theorem fn112 : Try.f112.ntmps = 18 := by kernel_rfl
@[go_sem] theorem tz4 : tZero Try.prog 4 = some [.bool false] := by kernel_rfl
@[go_sem] theorem go126 : isGo Try.prog 126 = true := by kernel_rfl
@[go_sem] theorem fr113 : Try.f113.results.toList = [.tmp 4] := by kernel_rfl
@[go_sem] theorem fn113 : Try.f113.ntmps = 10 := by kernel_rfl
@[go_sem] theorem fr114 : Try.f114.results.toList = [.tmp 4] := by kernel_rfl
@[go_sem] theorem fn114 : Try.f114.ntmps = 26 := by kernel_rfl
@[go_sem] theorem fr115 : Try.f115.results.toList = [.tmp 4] := by kernel_rfl
@[go_sem] theorem fn115 : Try.f115.ntmps = 49 := by kernel_rfl
@[go_sem] theorem fr116 : Try.f116.results.toList = [] := by kernel_rfl
@[go_sem] theorem fn116 : Try.f116.ntmps = 12 := by kernel_rfl
@[go_sem] theorem go127 : isGo Try.prog 127 = true := by kernel_rfl
@[go_sem] theorem fr117 : Try.f117.results.toList = [.tmp 2] := by kernel_rfl
@[go_sem] theorem fn117 : Try.f117.ntmps = 15 := by kernel_rfl
@[go_sem] theorem go128 : isGo Try.prog 128 = true := by kernel_rfl
@[go_sem] theorem fr118 : Try.f118.results.toList = [.tmp 2] := by kernel_rfl
@[go_sem] theorem fn118 : Try.f118.ntmps = 15 := by kernel_rfl
@[go_sem] theorem go129 : isGo Try.prog 129 = true := by kernel_rfl
@[go_sem] theorem fr119 : Try.f119.results.toList = [.tmp 2] := by kernel_rfl
@[go_sem] theorem fn119 : Try.f119.ntmps = 20 := by kernel_rfl
@[go_sem] theorem tb120 : tBuild Try.prog 120 = some ([.int .i64 0, .int .i64 0, .string ⟨#[]⟩, .slice none 0 0], [(0, 1), (1, 1), (2, 1), (3, 1)]) := by kernel_rfl
@[go_sem] theorem fr120 : Try.f120.results.toList = [.cell 2 120] := by kernel_rfl
@[go_sem] theorem fn120 : Try.f120.ntmps = 25 := by kernel_rfl
@[go_sem] theorem fr121 : Try.f121.results.toList = [.cell 2 120] := by kernel_rfl
@[go_sem] theorem fn121 : Try.f121.ntmps = 5 := by kernel_rfl
@[go_sem] theorem go130 : isGo Try.prog 130 = true := by kernel_rfl
@[go_sem] theorem fr122 : Try.f122.results.toList = [] := by kernel_rfl
@[go_sem] theorem fn122 : Try.f122.ntmps = 4 := by kernel_rfl
@[go_sem] theorem fr123 : Try.f123.results.toList = [.tmp 2] := by kernel_rfl
@[go_sem] theorem fn123 : Try.f123.ntmps = 44 := by kernel_rfl
@[go_sem] theorem fr124 : Try.f124.results.toList = [.tmp 4] := by kernel_rfl
@[go_sem] theorem fn124 : Try.f124.ntmps = 41 := by kernel_rfl
@[go_sem] theorem fr125 : Try.f125.results.toList = [.tmp 2] := by kernel_rfl
@[go_sem] theorem fn125 : Try.f125.ntmps = 57 := by kernel_rfl
@[go_sem] theorem fr126 : Try.f126.results.toList = [] := by kernel_rfl
@[go_sem] theorem fn126 : Try.f126.ntmps = 26 := by kernel_rfl
@[go_sem] theorem go131 : isGo Try.prog 131 = true := by kernel_rfl
@[go_sem] theorem go132 : isGo Try.prog 132 = true := by kernel_rfl
@[go_sem] theorem fr127 : Try.f127.results.toList = [.tmp 2] := by kernel_rfl
@[go_sem] theorem fn127 : Try.f127.ntmps = 10 := by kernel_rfl
@[go_sem] theorem go133 : isGo Try.prog 133 = true := by kernel_rfl
@[go_sem] theorem fr128 : Try.f128.results.toList = [.tmp 2] := by kernel_rfl
@[go_sem] theorem fn128 : Try.f128.ntmps = 6 := by kernel_rfl
@[go_sem] theorem fr129 : Try.f129.results.toList = [.cell 2 120] := by kernel_rfl
@[go_sem] theorem fn129 : Try.f129.ntmps = 29 := by kernel_rfl
@[go_sem] theorem ty155_a : tAgg Try.prog 155 = some false := by kernel_rfl
@[go_sem] theorem ty155_s : tSize Try.prog 155 = some 1 := by kernel_rfl
@[go_sem] theorem ty155_n : tInt Try.prog 155 = some Go.IntKind.u64 := by kernel_rfl
@[go_sem] theorem ty155_u : (Try.prog.underlying 155).isSome = true := by kernel_rfl
@[go_sem] theorem go134 : isGo Try.prog 134 = true := by kernel_rfl
@[go_sem] theorem go135 : isGo Try.prog 135 = true := by kernel_rfl
@[go_sem] theorem fr130 : Try.f130.results.toList = [] := by kernel_rfl
@[go_sem] theorem fn130 : Try.f130.ntmps = 11 := by kernel_rfl
@[go_sem] theorem fr131 : Try.f131.results.toList = [.tmp 4] := by kernel_rfl
@[go_sem] theorem fn131 : Try.f131.ntmps = 28 := by kernel_rfl
@[go_sem] theorem fr132 : Try.f132.results.toList = [.tmp 2] := by kernel_rfl
@[go_sem] theorem fn132 : Try.f132.ntmps = 76 := by kernel_rfl
@[go_sem] theorem fr133 : Try.f133.results.toList = [.tmp 4] := by kernel_rfl
@[go_sem] theorem fn133 : Try.f133.ntmps = 107 := by kernel_rfl
@[go_sem] theorem ty157_a : tAgg Try.prog 157 = some false := by kernel_rfl
@[go_sem] theorem ty157_s : tSize Try.prog 157 = some 1 := by kernel_rfl
@[go_sem] theorem ty157_n : tInt Try.prog 157 = some Go.IntKind.i64 := by kernel_rfl
@[go_sem] theorem ty157_u : (Try.prog.underlying 157).isSome = true := by kernel_rfl
@[go_sem] theorem go136 : isGo Try.prog 136 = true := by kernel_rfl
@[go_sem] theorem go137 : isGo Try.prog 137 = true := by kernel_rfl
@[go_sem] theorem go138 : isGo Try.prog 138 = true := by kernel_rfl
@[go_sem] theorem go139 : isGo Try.prog 139 = true := by kernel_rfl
@[go_sem] theorem go140 : isGo Try.prog 140 = true := by kernel_rfl
@[go_sem] theorem go141 : isGo Try.prog 141 = true := by kernel_rfl
@[go_sem] theorem go142 : isGo Try.prog 142 = true := by kernel_rfl
@[go_sem] theorem go143 : isGo Try.prog 143 = true := by kernel_rfl
@[go_sem] theorem go144 : isGo Try.prog 144 = true := by kernel_rfl
@[go_sem] theorem fr134 : Try.f134.results.toList = [] := by kernel_rfl
@[go_sem] theorem fn134 : Try.f134.ntmps = 134 := by kernel_rfl
@[go_sem] theorem ty165_a : tAgg Try.prog 165 = some false := by kernel_rfl
@[go_sem] theorem ty165_s : tSize Try.prog 165 = some 1 := by kernel_rfl
@[go_sem] theorem ty165_n : tInt Try.prog 165 = some Go.IntKind.u32 := by kernel_rfl
@[go_sem] theorem ty165_u : (Try.prog.underlying 165).isSome = true := by kernel_rfl
@[go_sem] theorem ty167_a : tAgg Try.prog 167 = some false := by kernel_rfl
@[go_sem] theorem ty167_s : tSize Try.prog 167 = some 1 := by kernel_rfl
@[go_sem] theorem ty167_n : tInt Try.prog 167 = some Go.IntKind.u64 := by kernel_rfl
@[go_sem] theorem ty167_u : (Try.prog.underlying 167).isSome = true := by kernel_rfl
@[go_sem] theorem go145 : isGo Try.prog 145 = true := by kernel_rfl
@[go_sem] theorem go146 : isGo Try.prog 146 = true := by kernel_rfl
@[go_sem] theorem fr135 : Try.f135.results.toList = [.tmp 2] := by kernel_rfl
@[go_sem] theorem fn135 : Try.f135.ntmps = 8 := by kernel_rfl
@[go_sem] theorem fr136 : Try.f136.results.toList = [] := by kernel_rfl
@[go_sem] theorem fn136 : Try.f136.ntmps = 49 := by kernel_rfl
@[go_sem] theorem go147 : isGo Try.prog 147 = true := by kernel_rfl
@[go_sem] theorem fr137 : Try.f137.results.toList = [] := by kernel_rfl
@[go_sem] theorem fn137 : Try.f137.ntmps = 56 := by kernel_rfl
@[go_sem] theorem ty168_a : tAgg Try.prog 168 = some false := by kernel_rfl
@[go_sem] theorem ty168_s : tSize Try.prog 168 = some 1 := by kernel_rfl
@[go_sem] theorem ty168_n : tInt Try.prog 168 = some Go.IntKind.u64 := by kernel_rfl
@[go_sem] theorem ty168_u : (Try.prog.underlying 168).isSome = true := by kernel_rfl
@[go_sem] theorem tz168 : tZero Try.prog 168 = some [.int .u64 0] := by kernel_rfl
@[go_sem] theorem go148 : isGo Try.prog 148 = true := by kernel_rfl
@[go_sem] theorem go149 : isGo Try.prog 149 = true := by kernel_rfl
@[go_sem] theorem fr138 : Try.f138.results.toList = [] := by kernel_rfl
@[go_sem] theorem fn138 : Try.f138.ntmps = 65 := by kernel_rfl
@[go_sem] theorem ty172_a : tAgg Try.prog 172 = some false := by kernel_rfl
@[go_sem] theorem ty172_s : tSize Try.prog 172 = some 1 := by kernel_rfl
@[go_sem] theorem go150 : isGo Try.prog 150 = true := by kernel_rfl
@[go_sem] theorem go151 : isGo Try.prog 151 = true := by kernel_rfl
@[go_sem] theorem fr139 : Try.f139.results.toList = [.tmp 6, .tmp 7] := by kernel_rfl
@[go_sem] theorem fn139 : Try.f139.ntmps = 57 := by kernel_rfl
@[go_sem] theorem fr140 : Try.f140.results.toList = [] := by kernel_rfl
@[go_sem] theorem fn140 : Try.f140.ntmps = 32 := by kernel_rfl
@[go_sem] theorem fr141 : Try.f141.results.toList = [.tmp 6] := by kernel_rfl
@[go_sem] theorem fn141 : Try.f141.ntmps = 133 := by kernel_rfl
@[go_sem] theorem go152 : isGo Try.prog 152 = true := by kernel_rfl
@[go_sem] theorem fr142 : Try.f142.results.toList = [.tmp 4] := by kernel_rfl
@[go_sem] theorem fn142 : Try.f142.ntmps = 17 := by kernel_rfl
@[go_sem] theorem fr143 : Try.f143.results.toList = [.tmp 8] := by kernel_rfl
@[go_sem] theorem fn143 : Try.f143.ntmps = 84 := by kernel_rfl
@[go_sem] theorem fr144 : Try.f144.results.toList = [.tmp 8, .tmp 9] := by kernel_rfl
@[go_sem] theorem fn144 : Try.f144.ntmps = 168 := by kernel_rfl
@[go_sem] theorem fr145 : Try.f145.results.toList = [.tmp 2] := by kernel_rfl
@[go_sem] theorem fn145 : Try.f145.ntmps = 19 := by kernel_rfl
@[go_sem] theorem fr146 : Try.f146.results.toList = [.tmp 2] := by kernel_rfl
@[go_sem] theorem fn146 : Try.f146.ntmps = 25 := by kernel_rfl
@[go_sem] theorem fr147 : Try.f147.results.toList = [] := by kernel_rfl
@[go_sem] theorem fn147 : Try.f147.ntmps = 76 := by kernel_rfl
@[go_sem] theorem fr148 : Try.f148.results.toList = [.tmp 2] := by kernel_rfl
@[go_sem] theorem fn148 : Try.f148.ntmps = 7 := by kernel_rfl
@[go_sem] theorem fr149 : Try.f149.results.toList = [.tmp 2] := by kernel_rfl
@[go_sem] theorem fn149 : Try.f149.ntmps = 33 := by kernel_rfl
@[go_sem] theorem fr150 : Try.f150.results.toList = [.tmp 6] := by kernel_rfl
@[go_sem] theorem fn150 : Try.f150.ntmps = 15 := by kernel_rfl
@[go_sem] theorem go153 : isGo Try.prog 153 = true := by kernel_rfl
@[go_sem] theorem fr151 : Try.f151.results.toList = [.tmp 10] := by kernel_rfl
@[go_sem] theorem fn151 : Try.f151.ntmps = 36 := by kernel_rfl
@[go_sem] theorem fr152 : Try.f152.results.toList = [.tmp 2] := by kernel_rfl
@[go_sem] theorem fn152 : Try.f152.ntmps = 6 := by kernel_rfl
@[go_sem] theorem fr153 : Try.f153.results.toList = [.tmp 8, .tmp 9] := by kernel_rfl
@[go_sem] theorem fn153 : Try.f153.ntmps = 28 := by kernel_rfl
end Go.Proofs.Ytljdpohdfnileaa
