import Derived.Test.YtbncaodnnbldmaaGreatDoorP1
import Derived.Test.YtbncaodnnbldmaaGreatDoorA5
import Derived.Test.YtbncaodnnbldmaaGreatDoorProg
import Derived.KernelRfl
namespace Go.Proofs.YtbncaodnnbldmaaGreatDoor
open Go.Abs
theorem mixed : Tryz.prog.follows .mixedOrders = true := by kernel_rfl
@[go_sem] theorem ty3_a : tAgg Tryz.prog 3 = some false := by kernel_rfl
@[go_sem] theorem ty3_s : tSize Tryz.prog 3 = some 1 := by kernel_rfl
@[go_sem] theorem ty3_n : tInt Tryz.prog 3 = some Go.IntKind.i64 := by kernel_rfl
@[go_sem] theorem ty3_u : (Tryz.prog.underlying 3).isSome = true := by kernel_rfl
@[go_sem] theorem ty4_a : tAgg Tryz.prog 4 = some false := by kernel_rfl
@[go_sem] theorem ty4_s : tSize Tryz.prog 4 = some 1 := by kernel_rfl
@[go_sem] theorem ty9_a : tAgg Tryz.prog 9 = some false := by kernel_rfl
@[go_sem] theorem ty9_s : tSize Tryz.prog 9 = some 1 := by kernel_rfl
@[go_sem] theorem ty9_t : tIsStr Tryz.prog 9 = true := by kernel_rfl
@[go_sem] theorem ty9_i : tIsSlice Tryz.prog 9 = false := by kernel_rfl
@[go_sem] theorem ty9_u : (Tryz.prog.underlying 9).isSome = true := by kernel_rfl
@[go_sem] theorem ty22_a : tAgg Tryz.prog 22 = some false := by kernel_rfl
@[go_sem] theorem ty22_s : tSize Tryz.prog 22 = some 1 := by kernel_rfl
@[go_sem] theorem ty22_i : tIsSlice Tryz.prog 22 = true := by kernel_rfl
@[go_sem] theorem ty22_e : tElem Tryz.prog 22 = some 77 := by kernel_rfl
@[go_sem] theorem ty24_a : tAgg Tryz.prog 24 = some true := by kernel_rfl
@[go_sem] theorem ty24_s : tSize Tryz.prog 24 = some 1 := by kernel_rfl
@[go_sem] theorem ty24_f0 : tField Tryz.prog 24 0 = some (0, 22) := by kernel_rfl
@[go_sem] theorem ty27_a : tAgg Tryz.prog 27 = some false := by kernel_rfl
@[go_sem] theorem ty27_s : tSize Tryz.prog 27 = some 1 := by kernel_rfl
@[go_sem] theorem ty27_i : tIsSlice Tryz.prog 27 = true := by kernel_rfl
@[go_sem] theorem ty27_e : tElem Tryz.prog 27 = some 52 := by kernel_rfl
@[go_sem] theorem ty27_l : tSlice Tryz.prog 27 = some (52, 7, 104) := by kernel_rfl
@[go_sem] theorem ty29_a : tAgg Tryz.prog 29 = some true := by kernel_rfl
@[go_sem] theorem ty29_s : tSize Tryz.prog 29 = some 1 := by kernel_rfl
@[go_sem] theorem ty29_f0 : tField Tryz.prog 29 0 = some (0, 27) := by kernel_rfl
@[go_sem] theorem ty33_a : tAgg Tryz.prog 33 = some false := by kernel_rfl
@[go_sem] theorem ty33_s : tSize Tryz.prog 33 = some 1 := by kernel_rfl
@[go_sem] theorem ty33_i : tIsSlice Tryz.prog 33 = true := by kernel_rfl
@[go_sem] theorem ty33_e : tElem Tryz.prog 33 = some 98 := by kernel_rfl
@[go_sem] theorem ty39_a : tAgg Tryz.prog 39 = some false := by kernel_rfl
@[go_sem] theorem ty39_s : tSize Tryz.prog 39 = some 1 := by kernel_rfl
@[go_sem] theorem ty39_i : tIsSlice Tryz.prog 39 = true := by kernel_rfl
@[go_sem] theorem ty39_e : tElem Tryz.prog 39 = some 60 := by kernel_rfl
@[go_sem] theorem ty39_l : tSlice Tryz.prog 39 = some (60, 4, 56) := by kernel_rfl
@[go_sem] theorem ty39_t : tIsStr Tryz.prog 39 = false := by kernel_rfl
@[go_sem] theorem ty39_u : (Tryz.prog.underlying 39).isSome = true := by kernel_rfl
@[go_sem] theorem ty48_a : tAgg Tryz.prog 48 = some false := by kernel_rfl
@[go_sem] theorem ty48_s : tSize Tryz.prog 48 = some 1 := by kernel_rfl
@[go_sem] theorem ty48_i : tIsSlice Tryz.prog 48 = true := by kernel_rfl
@[go_sem] theorem ty48_e : tElem Tryz.prog 48 = some 50 := by kernel_rfl
@[go_sem] theorem ty48_l : tSlice Tryz.prog 48 = some (50, 4, 72) := by kernel_rfl
@[go_sem] theorem ty48_t : tIsStr Tryz.prog 48 = false := by kernel_rfl
@[go_sem] theorem ty48_u : (Tryz.prog.underlying 48).isSome = true := by kernel_rfl
@[go_sem] theorem ty50_a : tAgg Tryz.prog 50 = some true := by kernel_rfl
@[go_sem] theorem ty50_s : tSize Tryz.prog 50 = some 4 := by kernel_rfl
@[go_sem] theorem ty50_f0 : tField Tryz.prog 50 0 = some (0, 3) := by kernel_rfl
@[go_sem] theorem ty50_f1 : tField Tryz.prog 50 1 = some (1, 9) := by kernel_rfl
@[go_sem] theorem ty50_f2 : tField Tryz.prog 50 2 = some (2, 39) := by kernel_rfl
@[go_sem] theorem ty50_f3 : tField Tryz.prog 50 3 = some (3, 48) := by kernel_rfl
@[go_sem] theorem ty52_a : tAgg Tryz.prog 52 = some true := by kernel_rfl
@[go_sem] theorem ty52_s : tSize Tryz.prog 52 = some 7 := by kernel_rfl
@[go_sem] theorem ty52_f0 : tField Tryz.prog 52 0 = some (0, 9) := by kernel_rfl
@[go_sem] theorem ty52_f1 : tField Tryz.prog 52 1 = some (1, 3) := by kernel_rfl
@[go_sem] theorem ty52_f2 : tField Tryz.prog 52 2 = some (2, 3) := by kernel_rfl
@[go_sem] theorem ty52_f3 : tField Tryz.prog 52 3 = some (3, 50) := by kernel_rfl
@[go_sem] theorem ty60_a : tAgg Tryz.prog 60 = some true := by kernel_rfl
@[go_sem] theorem ty60_s : tSize Tryz.prog 60 = some 4 := by kernel_rfl
@[go_sem] theorem ty60_f0 : tField Tryz.prog 60 0 = some (0, 3) := by kernel_rfl
@[go_sem] theorem ty60_f1 : tField Tryz.prog 60 1 = some (1, 3) := by kernel_rfl
@[go_sem] theorem ty60_f2 : tField Tryz.prog 60 2 = some (2, 9) := by kernel_rfl
@[go_sem] theorem ty60_f3 : tField Tryz.prog 60 3 = some (3, 39) := by kernel_rfl
@[go_sem] theorem ty73_a : tAgg Tryz.prog 73 = some false := by kernel_rfl
@[go_sem] theorem ty73_s : tSize Tryz.prog 73 = some 1 := by kernel_rfl
@[go_sem] theorem ty73_i : tIsSlice Tryz.prog 73 = true := by kernel_rfl
@[go_sem] theorem ty73_e : tElem Tryz.prog 73 = some 75 := by kernel_rfl
@[go_sem] theorem ty75_a : tAgg Tryz.prog 75 = some true := by kernel_rfl
@[go_sem] theorem ty75_s : tSize Tryz.prog 75 = some 4 := by kernel_rfl
@[go_sem] theorem ty75_f0 : tField Tryz.prog 75 0 = some (0, 3) := by kernel_rfl
@[go_sem] theorem ty75_f1 : tField Tryz.prog 75 1 = some (1, 9) := by kernel_rfl
@[go_sem] theorem ty75_f2 : tField Tryz.prog 75 2 = some (2, 33) := by kernel_rfl
@[go_sem] theorem ty75_f3 : tField Tryz.prog 75 3 = some (3, 73) := by kernel_rfl
@[go_sem] theorem ty77_a : tAgg Tryz.prog 77 = some true := by kernel_rfl
@[go_sem] theorem ty77_s : tSize Tryz.prog 77 = some 7 := by kernel_rfl
@[go_sem] theorem ty77_f0 : tField Tryz.prog 77 0 = some (0, 9) := by kernel_rfl
@[go_sem] theorem ty77_f1 : tField Tryz.prog 77 1 = some (1, 3) := by kernel_rfl
@[go_sem] theorem ty77_f2 : tField Tryz.prog 77 2 = some (2, 3) := by kernel_rfl
@[go_sem] theorem ty77_f3 : tField Tryz.prog 77 3 = some (3, 75) := by kernel_rfl
@[go_sem] theorem ty98_a : tAgg Tryz.prog 98 = some true := by kernel_rfl
@[go_sem] theorem ty98_s : tSize Tryz.prog 98 = some 4 := by kernel_rfl
@[go_sem] theorem ty98_f0 : tField Tryz.prog 98 0 = some (0, 3) := by kernel_rfl
@[go_sem] theorem ty98_f1 : tField Tryz.prog 98 1 = some (1, 3) := by kernel_rfl
@[go_sem] theorem ty98_f2 : tField Tryz.prog 98 2 = some (2, 9) := by kernel_rfl
@[go_sem] theorem ty98_f3 : tField Tryz.prog 98 3 = some (3, 33) := by kernel_rfl
@[go_sem] theorem tz29 : tZero Tryz.prog 29 = some [.slice none 0 0] := by kernel_rfl
@[go_sem] theorem go5 : isGo Tryz.prog 5 = true := by kernel_rfl
@[go_sem] theorem go7 : isGo Tryz.prog 7 = true := by kernel_rfl
@[go_sem] theorem go9 : isGo Tryz.prog 9 = true := by kernel_rfl
@[go_sem] theorem ty34_a : tAgg Tryz.prog 34 = some false := by kernel_rfl
@[go_sem] theorem ty34_s : tSize Tryz.prog 34 = some 1 := by kernel_rfl
@[go_sem] theorem ty34_i : tIsSlice Tryz.prog 34 = true := by kernel_rfl
@[go_sem] theorem ty34_e : tElem Tryz.prog 34 = some 36 := by kernel_rfl
@[go_sem] theorem ty36_a : tAgg Tryz.prog 36 = some true := by kernel_rfl
@[go_sem] theorem ty36_s : tSize Tryz.prog 36 = some 4 := by kernel_rfl
@[go_sem] theorem ty36_f0 : tField Tryz.prog 36 0 = some (0, 9) := by kernel_rfl
@[go_sem] theorem ty36_f1 : tField Tryz.prog 36 1 = some (1, 3) := by kernel_rfl
@[go_sem] theorem ty36_f2 : tField Tryz.prog 36 2 = some (2, 33) := by kernel_rfl
@[go_sem] theorem ty36_f3 : tField Tryz.prog 36 3 = some (3, 34) := by kernel_rfl
@[go_sem] theorem ty40_a : tAgg Tryz.prog 40 = some false := by kernel_rfl
@[go_sem] theorem ty40_s : tSize Tryz.prog 40 = some 1 := by kernel_rfl
@[go_sem] theorem ty40_i : tIsSlice Tryz.prog 40 = true := by kernel_rfl
@[go_sem] theorem ty40_e : tElem Tryz.prog 40 = some 42 := by kernel_rfl
@[go_sem] theorem ty40_l : tSlice Tryz.prog 40 = some (42, 4, 72) := by kernel_rfl
@[go_sem] theorem ty42_a : tAgg Tryz.prog 42 = some true := by kernel_rfl
@[go_sem] theorem ty42_s : tSize Tryz.prog 42 = some 4 := by kernel_rfl
@[go_sem] theorem ty42_f0 : tField Tryz.prog 42 0 = some (0, 9) := by kernel_rfl
@[go_sem] theorem ty42_f1 : tField Tryz.prog 42 1 = some (1, 3) := by kernel_rfl
@[go_sem] theorem ty42_f2 : tField Tryz.prog 42 2 = some (2, 39) := by kernel_rfl
@[go_sem] theorem ty42_f3 : tField Tryz.prog 42 3 = some (3, 40) := by kernel_rfl
@[go_sem] theorem tz42 : tZero Tryz.prog 42 = some [.string ⟨#[]⟩, .int .i64 0, .slice none 0 0, .slice none 0 0] := by kernel_rfl
@[go_sem] theorem go10 : isGo Tryz.prog 10 = true := by kernel_rfl
@[go_sem] theorem go11 : isGo Tryz.prog 11 = true := by kernel_rfl
@[go_sem] theorem go12 : isGo Tryz.prog 12 = true := by kernel_rfl
@[go_sem] theorem go13 : isGo Tryz.prog 13 = true := by kernel_rfl
@[go_sem] theorem go14 : isGo Tryz.prog 14 = true := by kernel_rfl
@[go_sem] theorem fr4 : Tryz.f4.results.toList = [.tmp 4] := by kernel_rfl
@[go_sem] theorem fn4 : Tryz.f4.ntmps = 45 := by kernel_rfl
@[go_sem] theorem go15 : isGo Tryz.prog 15 = true := by kernel_rfl
@[go_sem] theorem fr5 : Tryz.f5.results.toList = [.tmp 4] := by kernel_rfl
@[go_sem] theorem fn5 : Tryz.f5.ntmps = 12 := by kernel_rfl
@[go_sem] theorem ty5_n : tInt Tryz.prog 5 = some Go.IntKind.u8 := by kernel_rfl
@[go_sem] theorem ty5_u : (Tryz.prog.underlying 5).isSome = true := by kernel_rfl
@[go_sem] theorem ty55_l : tSlice Tryz.prog 55 = some (5, 1, 1) := by kernel_rfl
@[go_sem] theorem ty55_b : tIsBytes Tryz.prog 55 = true := by kernel_rfl
@[go_sem] theorem tz52 : tZero Tryz.prog 52 = some [.string ⟨#[]⟩, .int .i64 0, .int .i64 0, .int .i64 0, .string ⟨#[]⟩, .slice none 0 0, .slice none 0 0] := by kernel_rfl
@[go_sem] theorem go16 : isGo Tryz.prog 16 = true := by kernel_rfl
@[go_sem] theorem go17 : isGo Tryz.prog 17 = true := by kernel_rfl
@[go_sem] theorem go19 : isGo Tryz.prog 19 = true := by kernel_rfl
@[go_sem] theorem fr7 : Tryz.f7.results.toList = [.cell 2 29] := by kernel_rfl
@[go_sem] theorem fn7 : Tryz.f7.ntmps = 9 := by kernel_rfl
@[go_sem] theorem ty57_i : tIsSlice Tryz.prog 57 = true := by kernel_rfl
@[go_sem] theorem ty57_e : tElem Tryz.prog 57 = some 9 := by kernel_rfl
@[go_sem] theorem ty57_l : tSlice Tryz.prog 57 = some (9, 1, 16) := by kernel_rfl
@[go_sem] theorem ty57_u : (Tryz.prog.underlying 57).isSome = true := by kernel_rfl
@[go_sem] theorem go20 : isGo Tryz.prog 20 = true := by kernel_rfl
@[go_sem] theorem go21 : isGo Tryz.prog 21 = true := by kernel_rfl
@[go_sem] theorem go23 : isGo Tryz.prog 23 = true := by kernel_rfl
@[go_sem] theorem go25 : isGo Tryz.prog 25 = true := by kernel_rfl
@[go_sem] theorem fr9 : Tryz.f9.results.toList = [.tmp 4] := by kernel_rfl
@[go_sem] theorem fn9 : Tryz.f9.ntmps = 11 := by kernel_rfl
@[go_sem] theorem go26 : isGo Tryz.prog 26 = true := by kernel_rfl
@[go_sem] theorem go27 : isGo Tryz.prog 27 = true := by kernel_rfl
@[go_sem] theorem fr10 : Tryz.f10.results.toList = [.tmp 4] := by kernel_rfl
@[go_sem] theorem fn10 : Tryz.f10.ntmps = 25 := by kernel_rfl
@[go_sem] theorem go28 : isGo Tryz.prog 28 = true := by kernel_rfl
@[go_sem] theorem go29 : isGo Tryz.prog 29 = true := by kernel_rfl
@[go_sem] theorem fr11 : Tryz.f11.results.toList = [.tmp 4] := by kernel_rfl
@[go_sem] theorem fn11 : Tryz.f11.ntmps = 11 := by kernel_rfl
@[go_sem] theorem go30 : isGo Tryz.prog 30 = true := by kernel_rfl
@[go_sem] theorem go31 : isGo Tryz.prog 31 = true := by kernel_rfl
@[go_sem] theorem fr12 : Tryz.f12.results.toList = [.cell 2 42] := by kernel_rfl
@[go_sem] theorem fn12 : Tryz.f12.ntmps = 19 := by kernel_rfl
@[go_sem] theorem go32 : isGo Tryz.prog 32 = true := by kernel_rfl
@[go_sem] theorem go33 : isGo Tryz.prog 33 = true := by kernel_rfl
@[go_sem] theorem fr13 : Tryz.f13.results.toList = [.tmp 4] := by kernel_rfl
@[go_sem] theorem fn13 : Tryz.f13.ntmps = 11 := by kernel_rfl
@[go_sem] theorem go34 : isGo Tryz.prog 34 = true := by kernel_rfl
@[go_sem] theorem go35 : isGo Tryz.prog 35 = true := by kernel_rfl
@[go_sem] theorem fr14 : Tryz.f14.results.toList = [.tmp 4] := by kernel_rfl
@[go_sem] theorem fn14 : Tryz.f14.ntmps = 27 := by kernel_rfl
@[go_sem] theorem go36 : isGo Tryz.prog 36 = true := by kernel_rfl
@[go_sem] theorem fr15 : Tryz.f15.results.toList = [.tmp 4] := by kernel_rfl
@[go_sem] theorem fn15 : Tryz.f15.ntmps = 27 := by kernel_rfl
@[go_sem] theorem go37 : isGo Tryz.prog 37 = true := by kernel_rfl
@[go_sem] theorem go38 : isGo Tryz.prog 38 = true := by kernel_rfl
@[go_sem] theorem go39 : isGo Tryz.prog 39 = true := by kernel_rfl
@[go_sem] theorem go40 : isGo Tryz.prog 40 = true := by kernel_rfl
@[go_sem] theorem go41 : isGo Tryz.prog 41 = true := by kernel_rfl
@[go_sem] theorem fr16 : Tryz.f16.results.toList = [.tmp 2] := by kernel_rfl
@[go_sem] theorem fn16 : Tryz.f16.ntmps = 60 := by kernel_rfl
@[go_sem] theorem fr17 : Tryz.f17.results.toList = [.tmp 2] := by kernel_rfl
@[go_sem] theorem fn17 : Tryz.f17.ntmps = 44 := by kernel_rfl
@[go_sem] theorem tz50 : tZero Tryz.prog 50 = some [.int .i64 0, .string ⟨#[]⟩, .slice none 0 0, .slice none 0 0] := by kernel_rfl
@[go_sem] theorem tz60 : tZero Tryz.prog 60 = some [.int .i64 0, .int .i64 0, .string ⟨#[]⟩, .slice none 0 0] := by kernel_rfl
@[go_sem] theorem go43 : isGo Tryz.prog 43 = true := by kernel_rfl
@[go_sem] theorem go44 : isGo Tryz.prog 44 = true := by kernel_rfl
@[go_sem] theorem go45 : isGo Tryz.prog 45 = true := by kernel_rfl
@[go_sem] theorem fr19 : Tryz.f19.results.toList = [.tmp 2] := by kernel_rfl
@[go_sem] theorem fn19 : Tryz.f19.ntmps = 23 := by kernel_rfl
@[go_sem] theorem go46 : isGo Tryz.prog 46 = true := by kernel_rfl
@[go_sem] theorem go47 : isGo Tryz.prog 47 = true := by kernel_rfl
@[go_sem] theorem go48 : isGo Tryz.prog 48 = true := by kernel_rfl
@[go_sem] theorem go49 : isGo Tryz.prog 49 = true := by kernel_rfl
@[go_sem] theorem go50 : isGo Tryz.prog 50 = true := by kernel_rfl
@[go_sem] theorem fr20 : Tryz.f20.results.toList = [.tmp 2] := by kernel_rfl
@[go_sem] theorem fn20 : Tryz.f20.ntmps = 72 := by kernel_rfl
@[go_sem] theorem tb91 : tBuild Tryz.prog 91 = some ([.pointer none, .slice none 0 0], [(0, 1), (1, 1)]) := by kernel_rfl
@[go_sem] theorem go51 : isGo Tryz.prog 51 = true := by kernel_rfl
@[go_sem] theorem go52 : isGo Tryz.prog 52 = true := by kernel_rfl
@[go_sem] theorem go53 : isGo Tryz.prog 53 = true := by kernel_rfl
@[go_sem] theorem fr21 : Tryz.f21.results.toList = [.tmp 2] := by kernel_rfl
@[go_sem] theorem fn21 : Tryz.f21.ntmps = 14 := by kernel_rfl
@[go_sem] theorem tb60 : tBuild Tryz.prog 60 = some ([.int .i64 0, .int .i64 0, .string ⟨#[]⟩, .slice none 0 0], [(0, 1), (1, 1), (2, 1), (3, 1)]) := by kernel_rfl
@[go_sem] theorem fr23 : Tryz.f23.results.toList = [.tmp 4] := by kernel_rfl
@[go_sem] theorem fn23 : Tryz.f23.ntmps = 27 := by kernel_rfl
@[go_sem] theorem go54 : isGo Tryz.prog 54 = true := by kernel_rfl
@[go_sem] theorem fr25 : Tryz.f25.results.toList = [.tmp 4] := by kernel_rfl
@[go_sem] theorem fn25 : Tryz.f25.ntmps = 27 := by kernel_rfl
@[go_sem] theorem go55 : isGo Tryz.prog 55 = true := by kernel_rfl
@[go_sem] theorem fr26 : Tryz.f26.results.toList = [.tmp 4] := by kernel_rfl
@[go_sem] theorem fn26 : Tryz.f26.ntmps = 27 := by kernel_rfl
@[go_sem] theorem fr27 : Tryz.f27.results.toList = [.tmp 4] := by kernel_rfl
@[go_sem] theorem fn27 : Tryz.f27.ntmps = 27 := by kernel_rfl
@[go_sem] theorem go56 : isGo Tryz.prog 56 = true := by kernel_rfl
@[go_sem] theorem go57 : isGo Tryz.prog 57 = true := by kernel_rfl
@[go_sem] theorem fr28 : Tryz.f28.results.toList = [.tmp 4] := by kernel_rfl
@[go_sem] theorem fn28 : Tryz.f28.ntmps = 17 := by kernel_rfl
@[go_sem] theorem go58 : isGo Tryz.prog 58 = true := by kernel_rfl
@[go_sem] theorem fr29 : Tryz.f29.results.toList = [.tmp 2] := by kernel_rfl
@[go_sem] theorem fn29 : Tryz.f29.ntmps = 46 := by kernel_rfl
@[go_sem] theorem go59 : isGo Tryz.prog 59 = true := by kernel_rfl
@[go_sem] theorem fr30 : Tryz.f30.results.toList = [.tmp 2] := by kernel_rfl
@[go_sem] theorem fn30 : Tryz.f30.ntmps = 23 := by kernel_rfl
@[go_sem] theorem fr31 : Tryz.f31.results.toList = [.tmp 2] := by kernel_rfl
@[go_sem] theorem fn31 : Tryz.f31.ntmps = 23 := by kernel_rfl
@[go_sem] theorem go60 : isGo Tryz.prog 60 = true := by kernel_rfl
@[go_sem] theorem go61 : isGo Tryz.prog 61 = true := by kernel_rfl
@[go_sem] theorem fr32 : Tryz.f32.results.toList = [.tmp 4] := by kernel_rfl
@[go_sem] theorem fn32 : Tryz.f32.ntmps = 17 := by kernel_rfl
@[go_sem] theorem go62 : isGo Tryz.prog 62 = true := by kernel_rfl
@[go_sem] theorem go63 : isGo Tryz.prog 63 = true := by kernel_rfl
@[go_sem] theorem go64 : isGo Tryz.prog 64 = true := by kernel_rfl
@[go_sem] theorem fr33 : Tryz.f33.results.toList = [.tmp 2] := by kernel_rfl
@[go_sem] theorem fn33 : Tryz.f33.ntmps = 30 := by kernel_rfl
@[go_sem] theorem go65 : isGo Tryz.prog 65 = true := by kernel_rfl
@[go_sem] theorem fr34 : Tryz.f34.results.toList = [.tmp 4] := by kernel_rfl
@[go_sem] theorem fn34 : Tryz.f34.ntmps = 27 := by kernel_rfl
@[go_sem] theorem fr35 : Tryz.f35.results.toList = [.tmp 4] := by kernel_rfl
@[go_sem] theorem fn35 : Tryz.f35.ntmps = 27 := by kernel_rfl
@[go_sem] theorem go66 : isGo Tryz.prog 66 = true := by kernel_rfl
@[go_sem] theorem fr36 : Tryz.f36.results.toList = [.tmp 4] := by kernel_rfl
@[go_sem] theorem fn36 : Tryz.f36.ntmps = 19 := by kernel_rfl
@[go_sem] theorem fr37 : Tryz.f37.results.toList = [.tmp 4] := by kernel_rfl
@[go_sem] theorem fn37 : Tryz.f37.ntmps = 21 := by kernel_rfl
@[go_sem] theorem go67 : isGo Tryz.prog 67 = true := by kernel_rfl
@[go_sem] theorem fr38 : Tryz.f38.results.toList = [.tmp 2] := by kernel_rfl
@[go_sem] theorem fn38 : Tryz.f38.ntmps = 17 := by kernel_rfl
@[go_sem] theorem fr39 : Tryz.f39.results.toList = [.tmp 6] := by kernel_rfl
@[go_sem] theorem fn39 : Tryz.f39.ntmps = 15 := by kernel_rfl
@[go_sem] theorem ty107_i : tIsSlice Tryz.prog 107 = true := by kernel_rfl
@[go_sem] theorem ty107_e : tElem Tryz.prog 107 = some 3 := by kernel_rfl
@[go_sem] theorem ty107_l : tSlice Tryz.prog 107 = some (3, 1, 8) := by kernel_rfl
@[go_sem] theorem ty107_u : (Tryz.prog.underlying 107).isSome = true := by kernel_rfl
@[go_sem] theorem go68 : isGo Tryz.prog 68 = true := by kernel_rfl
@[go_sem] theorem go69 : isGo Tryz.prog 69 = true := by kernel_rfl
@[go_sem] theorem go70 : isGo Tryz.prog 70 = true := by kernel_rfl
@[go_sem] theorem fr40 : Tryz.f40.results.toList = [.tmp 6] := by kernel_rfl
@[go_sem] theorem fn40 : Tryz.f40.ntmps = 32 := by kernel_rfl
@[go_sem] theorem go71 : isGo Tryz.prog 71 = true := by kernel_rfl
@[go_sem] theorem fr41 : Tryz.f41.results.toList = [.tmp 2] := by kernel_rfl
@[go_sem] theorem fn41 : Tryz.f41.ntmps = 8 := by kernel_rfl
@[go_sem] theorem fr43 : Tryz.f43.results.toList = [.tmp 2] := by kernel_rfl
@[go_sem] theorem fn43 : Tryz.f43.ntmps = 58 := by kernel_rfl
@[go_sem] theorem fr44 : Tryz.f44.results.toList = [.tmp 4] := by kernel_rfl
@[go_sem] theorem fn44 : Tryz.f44.ntmps = 25 := by kernel_rfl
@[go_sem] theorem go72 : isGo Tryz.prog 72 = true := by kernel_rfl
@[go_sem] theorem fr45 : Tryz.f45.results.toList = [.cell 2 52] := by kernel_rfl
@[go_sem] theorem fn45 : Tryz.f45.ntmps = 18 := by kernel_rfl
@[go_sem] theorem go73 : isGo Tryz.prog 73 = true := by kernel_rfl
@[go_sem] theorem fr46 : Tryz.f46.results.toList = [.tmp 2] := by kernel_rfl
@[go_sem] theorem fn46 : Tryz.f46.ntmps = 16 := by kernel_rfl
@[go_sem] theorem fr47 : Tryz.f47.results.toList = [.tmp 4] := by kernel_rfl
@[go_sem] theorem fn47 : Tryz.f47.ntmps = 21 := by kernel_rfl
@[go_sem] theorem ty111_m : tMap Tryz.prog 111 = some (false, .int .i64 0) := by kernel_rfl
@[go_sem] theorem go74 : isGo Tryz.prog 74 = true := by kernel_rfl
@[go_sem] theorem fr48 : Tryz.f48.results.toList = [.tmp 4] := by kernel_rfl
@[go_sem] theorem fn48 : Tryz.f48.ntmps = 142 := by kernel_rfl
@[go_sem] theorem go75 : isGo Tryz.prog 75 = true := by kernel_rfl
@[go_sem] theorem fr49 : Tryz.f49.results.toList = [.tmp 4] := by kernel_rfl
@[go_sem] theorem fn49 : Tryz.f49.ntmps = 18 := by kernel_rfl
@[go_sem] theorem tz4 : tZero Tryz.prog 4 = some [.bool false] := by kernel_rfl
@[go_sem] theorem go76 : isGo Tryz.prog 76 = true := by kernel_rfl
@[go_sem] theorem fr50 : Tryz.f50.results.toList = [.tmp 4] := by kernel_rfl
@[go_sem] theorem fn50 : Tryz.f50.ntmps = 10 := by kernel_rfl
@[go_sem] theorem go78 : isGo Tryz.prog 78 = true := by kernel_rfl
@[go_sem] theorem fr51 : Tryz.f51.results.toList = [.tmp 2] := by kernel_rfl
@[go_sem] theorem fn51 : Tryz.f51.ntmps = 6 := by kernel_rfl
@[go_sem] theorem go79 : isGo Tryz.prog 79 = true := by kernel_rfl
@[go_sem] theorem fr52 : Tryz.f52.results.toList = [] := by kernel_rfl
@[go_sem] theorem fn52 : Tryz.f52.ntmps = 70 := by kernel_rfl
@[go_sem] theorem go80 : isGo Tryz.prog 80 = true := by kernel_rfl
@[go_sem] theorem fr54 : Tryz.f54.results.toList = [.tmp 4] := by kernel_rfl
@[go_sem] theorem fn54 : Tryz.f54.ntmps = 26 := by kernel_rfl
@[go_sem] theorem fr55 : Tryz.f55.results.toList = [.tmp 4] := by kernel_rfl
@[go_sem] theorem fn55 : Tryz.f55.ntmps = 19 := by kernel_rfl
@[go_sem] theorem go81 : isGo Tryz.prog 81 = true := by kernel_rfl
@[go_sem] theorem fr56 : Tryz.f56.results.toList = [.tmp 2] := by kernel_rfl
@[go_sem] theorem fn56 : Tryz.f56.ntmps = 9 := by kernel_rfl
@[go_sem] theorem ty123_i : tIsSlice Tryz.prog 123 = true := by kernel_rfl
@[go_sem] theorem ty123_e : tElem Tryz.prog 123 = some 48 := by kernel_rfl
@[go_sem] theorem ty123_l : tSlice Tryz.prog 123 = some (48, 1, 24) := by kernel_rfl
@[go_sem] theorem ty123_u : (Tryz.prog.underlying 123).isSome = true := by kernel_rfl
@[go_sem] theorem ty126_i : tIsSlice Tryz.prog 126 = true := by kernel_rfl
@[go_sem] theorem ty126_e : tElem Tryz.prog 126 = some 128 := by kernel_rfl
@[go_sem] theorem ty126_l : tSlice Tryz.prog 126 = some (128, 5, 64) := by kernel_rfl
@[go_sem] theorem ty126_u : (Tryz.prog.underlying 126).isSome = true := by kernel_rfl
@[go_sem] theorem ty128_a : tAgg Tryz.prog 128 = some true := by kernel_rfl
@[go_sem] theorem ty128_s : tSize Tryz.prog 128 = some 5 := by kernel_rfl
@[go_sem] theorem ty128_f0 : tField Tryz.prog 128 0 = some (0, 3) := by kernel_rfl
@[go_sem] theorem ty128_f1 : tField Tryz.prog 128 1 = some (1, 60) := by kernel_rfl
@[go_sem] theorem ty130_a : tAgg Tryz.prog 130 = some true := by kernel_rfl
@[go_sem] theorem ty130_s : tSize Tryz.prog 130 = some 2 := by kernel_rfl
@[go_sem] theorem ty130_f0 : tField Tryz.prog 130 0 = some (0, 9) := by kernel_rfl
@[go_sem] theorem ty130_f1 : tField Tryz.prog 130 1 = some (1, 39) := by kernel_rfl
@[go_sem] theorem ty131_a : tAgg Tryz.prog 131 = some false := by kernel_rfl
@[go_sem] theorem ty131_s : tSize Tryz.prog 131 = some 1 := by kernel_rfl
@[go_sem] theorem ty131_i : tIsSlice Tryz.prog 131 = true := by kernel_rfl
@[go_sem] theorem ty131_e : tElem Tryz.prog 131 = some 130 := by kernel_rfl
@[go_sem] theorem ty131_l : tSlice Tryz.prog 131 = some (130, 2, 40) := by kernel_rfl
@[go_sem] theorem ty131_t : tIsStr Tryz.prog 131 = false := by kernel_rfl
@[go_sem] theorem ty131_u : (Tryz.prog.underlying 131).isSome = true := by kernel_rfl
@[go_sem] theorem ty133_a : tAgg Tryz.prog 133 = some true := by kernel_rfl
@[go_sem] theorem ty133_s : tSize Tryz.prog 133 = some 6 := by kernel_rfl
@[go_sem] theorem ty133_f0 : tField Tryz.prog 133 0 = some (0, 130) := by kernel_rfl
@[go_sem] theorem ty133_f2 : tField Tryz.prog 133 2 = some (3, 39) := by kernel_rfl
@[go_sem] theorem ty133_f3 : tField Tryz.prog 133 3 = some (4, 131) := by kernel_rfl
@[go_sem] theorem ty133_f4 : tField Tryz.prog 133 4 = some (5, 131) := by kernel_rfl
@[go_sem] theorem tz133 : tZero Tryz.prog 133 = some [.string ⟨#[]⟩, .slice none 0 0, .int .i64 0, .slice none 0 0, .slice none 0 0, .slice none 0 0] := by kernel_rfl
@[go_sem] theorem tb128 : tBuild Tryz.prog 128 = some ([.int .i64 0, .int .i64 0, .int .i64 0, .string ⟨#[]⟩, .slice none 0 0], [(0, 1), (1, 4)]) := by kernel_rfl
@[go_sem] theorem go82 : isGo Tryz.prog 82 = true := by kernel_rfl
@[go_sem] theorem go83 : isGo Tryz.prog 83 = true := by kernel_rfl
@[go_sem] theorem go84 : isGo Tryz.prog 84 = true := by kernel_rfl
@[go_sem] theorem go85 : isGo Tryz.prog 85 = true := by kernel_rfl
@[go_sem] theorem go86 : isGo Tryz.prog 86 = true := by kernel_rfl
@[go_sem] theorem fr57 : Tryz.f57.results.toList = [.tmp 4] := by kernel_rfl
@[go_sem] theorem fn57 : Tryz.f57.ntmps = 139 := by kernel_rfl
@[go_sem] theorem fr58 : Tryz.f58.results.toList = [.tmp 2] := by kernel_rfl
@[go_sem] theorem fn58 : Tryz.f58.ntmps = 7 := by kernel_rfl
@[go_sem] theorem fr59 : Tryz.f59.results.toList = [.cell 2 60] := by kernel_rfl
@[go_sem] theorem fn59 : Tryz.f59.ntmps = 18 := by kernel_rfl
@[go_sem] theorem tz3 : tZero Tryz.prog 3 = some [.int .i64 0] := by kernel_rfl
@[go_sem] theorem go87 : isGo Tryz.prog 87 = true := by kernel_rfl
@[go_sem] theorem fr60 : Tryz.f60.results.toList = [.tmp 2] := by kernel_rfl
@[go_sem] theorem fn60 : Tryz.f60.ntmps = 9 := by kernel_rfl
@[go_sem] theorem go88 : isGo Tryz.prog 88 = true := by kernel_rfl
@[go_sem] theorem go89 : isGo Tryz.prog 89 = true := by kernel_rfl
@[go_sem] theorem go90 : isGo Tryz.prog 90 = true := by kernel_rfl
@[go_sem] theorem go91 : isGo Tryz.prog 91 = true := by kernel_rfl
@[go_sem] theorem go92 : isGo Tryz.prog 92 = true := by kernel_rfl
@[go_sem] theorem go93 : isGo Tryz.prog 93 = true := by kernel_rfl
@[go_sem] theorem fr61 : Tryz.f61.results.toList = [.tmp 4] := by kernel_rfl
@[go_sem] theorem fn61 : Tryz.f61.ntmps = 134 := by kernel_rfl
@[go_sem] theorem go94 : isGo Tryz.prog 94 = true := by kernel_rfl
@[go_sem] theorem fr62 : Tryz.f62.results.toList = [.tmp 2] := by kernel_rfl
@[go_sem] theorem fn62 : Tryz.f62.ntmps = 5 := by kernel_rfl
@[go_sem] theorem fr63 : Tryz.f63.results.toList = [.tmp 2] := by kernel_rfl
@[go_sem] theorem fn63 : Tryz.f63.ntmps = 23 := by kernel_rfl
@[go_sem] theorem fr64 : Tryz.f64.results.toList = [.tmp 2] := by kernel_rfl
@[go_sem] theorem fn64 : Tryz.f64.ntmps = 7 := by kernel_rfl
@[go_sem] theorem fr65 : Tryz.f65.results.toList = [.tmp 4] := by kernel_rfl
@[go_sem] theorem fn65 : Tryz.f65.ntmps = 26 := by kernel_rfl
@[go_sem] theorem go95 : isGo Tryz.prog 95 = true := by kernel_rfl
@[go_sem] theorem fr66 : Tryz.f66.results.toList = [.tmp 4] := by kernel_rfl
@[go_sem] theorem fn66 : Tryz.f66.ntmps = 25 := by kernel_rfl
@[go_sem] theorem fr67 : Tryz.f67.results.toList = [.tmp 2] := by kernel_rfl
@[go_sem] theorem fn67 : Tryz.f67.ntmps = 44 := by kernel_rfl
@[go_sem] theorem go96 : isGo Tryz.prog 96 = true := by kernel_rfl
@[go_sem] theorem fr68 : Tryz.f68.results.toList = [.tmp 2] := by kernel_rfl
@[go_sem] theorem fn68 : Tryz.f68.ntmps = 10 := by kernel_rfl
@[go_sem] theorem fr69 : Tryz.f69.results.toList = [.tmp 4] := by kernel_rfl
@[go_sem] theorem fn69 : Tryz.f69.ntmps = 41 := by kernel_rfl
@[go_sem] theorem go97 : isGo Tryz.prog 97 = true := by kernel_rfl
@[go_sem] theorem fr70 : Tryz.f70.results.toList = [.tmp 4] := by kernel_rfl
@[go_sem] theorem fn70 : Tryz.f70.ntmps = 32 := by kernel_rfl
@[go_sem] theorem fr71 : Tryz.f71.results.toList = [.tmp 4] := by kernel_rfl
@[go_sem] theorem fn71 : Tryz.f71.ntmps = 28 := by kernel_rfl
@[go_sem] theorem go98 : isGo Tryz.prog 98 = true := by kernel_rfl
@[go_sem] theorem fr72 : Tryz.f72.results.toList = [.cell 2 50] := by kernel_rfl
@[go_sem] theorem fn72 : Tryz.f72.ntmps = 19 := by kernel_rfl
@[go_sem] theorem fr73 : Tryz.f73.results.toList = [.tmp 2] := by kernel_rfl
@[go_sem] theorem fn73 : Tryz.f73.ntmps = 57 := by kernel_rfl
@[go_sem] theorem fr74 : Tryz.f74.results.toList = [.tmp 2] := by kernel_rfl
@[go_sem] theorem fn74 : Tryz.f74.ntmps = 15 := by kernel_rfl
@[go_sem] theorem ty145_a : tAgg Tryz.prog 145 = some false := by kernel_rfl
@[go_sem] theorem ty145_s : tSize Tryz.prog 145 = some 1 := by kernel_rfl
@[go_sem] theorem ty145_im : tIsMap Tryz.prog 145 = true := by kernel_rfl
@[go_sem] theorem ty145_m : tMap Tryz.prog 145 = some (false, .bool false) := by kernel_rfl
@[go_sem] theorem tz145 : tZero Tryz.prog 145 = some [.map none] := by kernel_rfl
@[go_sem] theorem go102 : isGo Tryz.prog 102 = true := by kernel_rfl
@[go_sem] theorem fr75 : Tryz.f75.results.toList = [.tmp 2] := by kernel_rfl
@[go_sem] theorem fn75 : Tryz.f75.ntmps = 10 := by kernel_rfl
@[go_sem] theorem fr76 : Tryz.f76.results.toList = [] := by kernel_rfl
@[go_sem] theorem fn76 : Tryz.f76.ntmps = 20 := by kernel_rfl
@[go_sem] theorem fr77 : Tryz.f77.results.toList = [] := by kernel_rfl
@[go_sem] theorem fn77 : Tryz.f77.ntmps = 26 := by kernel_rfl
@[go_sem] theorem fr78 : Tryz.f78.results.toList = [.tmp 4] := by kernel_rfl
@[go_sem] theorem fn78 : Tryz.f78.ntmps = 107 := by kernel_rfl
@[go_sem] theorem go104 : isGo Tryz.prog 104 = true := by kernel_rfl
@[go_sem] theorem fr80 : Tryz.f80.results.toList = [.tmp 4] := by kernel_rfl
@[go_sem] theorem fn80 : Tryz.f80.ntmps = 27 := by kernel_rfl
@[go_sem] theorem fr81 : Tryz.f81.results.toList = [.tmp 4] := by kernel_rfl
@[go_sem] theorem fn81 : Tryz.f81.ntmps = 28 := by kernel_rfl
@[go_sem] theorem go105 : isGo Tryz.prog 105 = true := by kernel_rfl
@[go_sem] theorem go106 : isGo Tryz.prog 106 = true := by kernel_rfl
@[go_sem] theorem fr82 : Tryz.f82.results.toList = [.tmp 2, .tmp 3] := by kernel_rfl
@[go_sem] theorem fn82 : Tryz.f82.ntmps = 30 := by kernel_rfl
@[go_sem] theorem go107 : isGo Tryz.prog 107 = true := by kernel_rfl
@[go_sem] theorem fr83 : Tryz.f83.results.toList = [.tmp 2] := by kernel_rfl
@[go_sem] theorem fn83 : Tryz.f83.ntmps = 11 := by kernel_rfl
@[go_sem] theorem tz128 : tZero Tryz.prog 128 = some [.int .i64 0, .int .i64 0, .int .i64 0, .string ⟨#[]⟩, .slice none 0 0] := by kernel_rfl
@[go_sem] theorem tb130 : tBuild Tryz.prog 130 = some ([.string ⟨#[]⟩, .slice none 0 0], [(0, 1), (1, 1)]) := by kernel_rfl
@[go_sem] theorem tb133 : tBuild Tryz.prog 133 = some ([.string ⟨#[]⟩, .slice none 0 0, .int .i64 0, .slice none 0 0, .slice none 0 0, .slice none 0 0], [(0, 2), (2, 1), (3, 1), (4, 1), (5, 1)]) := by kernel_rfl
@[go_sem] theorem go108 : isGo Tryz.prog 108 = true := by kernel_rfl
@[go_sem] theorem go109 : isGo Tryz.prog 109 = true := by kernel_rfl
@[go_sem] theorem fr84 : Tryz.f84.results.toList = [.cell 8 133, .tmp 9] := by kernel_rfl
@[go_sem] theorem fn84 : Tryz.f84.ntmps = 91 := by kernel_rfl
@[go_sem] theorem go110 : isGo Tryz.prog 110 = true := by kernel_rfl
@[go_sem] theorem go111 : isGo Tryz.prog 111 = true := by kernel_rfl
@[go_sem] theorem fr85 : Tryz.f85.results.toList = [.tmp 4] := by kernel_rfl
@[go_sem] theorem fn85 : Tryz.f85.ntmps = 21 := by kernel_rfl
@[go_sem] theorem tz130 : tZero Tryz.prog 130 = some [.string ⟨#[]⟩, .slice none 0 0] := by kernel_rfl
@[go_sem] theorem fr86 : Tryz.f86.results.toList = [.cell 4 130] := by kernel_rfl
@[go_sem] theorem fn86 : Tryz.f86.ntmps = 20 := by kernel_rfl
@[go_sem] theorem fr87 : Tryz.f87.results.toList = [.tmp 4] := by kernel_rfl
@[go_sem] theorem fn87 : Tryz.f87.ntmps = 33 := by kernel_rfl
@[go_sem] theorem go112 : isGo Tryz.prog 112 = true := by kernel_rfl
@[go_sem] theorem fr88 : Tryz.f88.results.toList = [.tmp 2] := by kernel_rfl
@[go_sem] theorem fn88 : Tryz.f88.ntmps = 9 := by kernel_rfl
@[go_sem] theorem fr89 : Tryz.f89.results.toList = [.tmp 2, .tmp 3] := by kernel_rfl
@[go_sem] theorem fn89 : Tryz.f89.ntmps = 105 := by kernel_rfl
@[go_sem] theorem go113 : isGo Tryz.prog 113 = true := by kernel_rfl
@[go_sem] theorem fr90 : Tryz.f90.results.toList = [.tmp 4] := by kernel_rfl
@[go_sem] theorem fn90 : Tryz.f90.ntmps = 20 := by kernel_rfl
@[go_sem] theorem fr91 : Tryz.f91.results.toList = [.cell 4 130] := by kernel_rfl
@[go_sem] theorem fn91 : Tryz.f91.ntmps = 20 := by kernel_rfl
@[go_sem] theorem go114 : isGo Tryz.prog 114 = true := by kernel_rfl
@[go_sem] theorem fr92 : Tryz.f92.results.toList = [.cell 4 130] := by kernel_rfl
@[go_sem] theorem fn92 : Tryz.f92.ntmps = 28 := by kernel_rfl
@[go_sem] theorem tb50 : tBuild Tryz.prog 50 = some ([.int .i64 0, .string ⟨#[]⟩, .slice none 0 0, .slice none 0 0], [(0, 1), (1, 1), (2, 1), (3, 1)]) := by kernel_rfl
@[go_sem] theorem go115 : isGo Tryz.prog 115 = true := by kernel_rfl
@[go_sem] theorem go116 : isGo Tryz.prog 116 = true := by kernel_rfl
@[go_sem] theorem fr93 : Tryz.f93.results.toList = [.tmp 4] := by kernel_rfl
@[go_sem] theorem fn93 : Tryz.f93.ntmps = 83 := by kernel_rfl
@[go_sem] theorem fr95 : Tryz.f95.results.toList = [.tmp 4] := by kernel_rfl
@[go_sem] theorem fn95 : Tryz.f95.ntmps = 27 := by kernel_rfl
@[go_sem] theorem go118 : isGo Tryz.prog 118 = true := by kernel_rfl
@[go_sem] theorem fr96 : Tryz.f96.results.toList = [.tmp 2] := by kernel_rfl
@[go_sem] theorem fn96 : Tryz.f96.ntmps = 106 := by kernel_rfl
@[go_sem] theorem go119 : isGo Tryz.prog 119 = true := by kernel_rfl
@[go_sem] theorem fr97 : Tryz.f97.results.toList = [.tmp 4] := by kernel_rfl
@[go_sem] theorem fn97 : Tryz.f97.ntmps = 26 := by kernel_rfl
@[go_sem] theorem fr98 : Tryz.f98.results.toList = [.tmp 2] := by kernel_rfl
@[go_sem] theorem fn98 : Tryz.f98.ntmps = 23 := by kernel_rfl
@[go_sem] theorem go100 : isGo Tryz.prog 100 = true := by kernel_rfl
@[go_sem] theorem fr99 : Tryz.f99.results.toList = [] := by kernel_rfl
@[go_sem] theorem fn99 : Tryz.f99.ntmps = 16 := by kernel_rfl
@[go_sem] theorem fr100 : Tryz.f100.results.toList = [] := by kernel_rfl
@[go_sem] theorem fn100 : Tryz.f100.ntmps = 26 := by kernel_rfl
@[go_sem] theorem fr101 : Tryz.f101.results.toList = [] := by kernel_rfl
@[go_sem] theorem fn101 : Tryz.f101.ntmps = 5 := by kernel_rfl
@[go_sem] theorem go120 : isGo Tryz.prog 120 = true := by kernel_rfl
@[go_sem] theorem fr102 : Tryz.f102.results.toList = [.tmp 2] := by kernel_rfl
@[go_sem] theorem fn102 : Tryz.f102.ntmps = 19 := by kernel_rfl
@[go_sem] theorem fr104 : Tryz.f104.results.toList = [.tmp 4] := by kernel_rfl
@[go_sem] theorem fn104 : Tryz.f104.ntmps = 27 := by kernel_rfl
@[go_sem] theorem fr105 : Tryz.f105.results.toList = [.tmp 2] := by kernel_rfl
@[go_sem] theorem fn105 : Tryz.f105.ntmps = 99 := by kernel_rfl
@[go_sem] theorem go122 : isGo Tryz.prog 122 = true := by kernel_rfl
@[go_sem] theorem fr106 : Tryz.f106.results.toList = [.tmp 2] := by kernel_rfl
@[go_sem] theorem fn106 : Tryz.f106.ntmps = 20 := by kernel_rfl
@[go_sem] theorem go123 : isGo Tryz.prog 123 = true := by kernel_rfl
@[go_sem] theorem go124 : isGo Tryz.prog 124 = true := by kernel_rfl
@[go_sem] theorem fr107 : Tryz.f107.results.toList = [.tmp 2] := by kernel_rfl
@[go_sem] theorem fn107 : Tryz.f107.ntmps = 10 := by kernel_rfl
@[go_sem] theorem go125 : isGo Tryz.prog 125 = true := by kernel_rfl
@[go_sem] theorem fr108 : Tryz.f108.results.toList = [.cell 4 50] := by kernel_rfl
@[go_sem] theorem fn108 : Tryz.f108.ntmps = 48 := by kernel_rfl
@[go_sem] theorem go126 : isGo Tryz.prog 126 = true := by kernel_rfl
@[go_sem] theorem go127 : isGo Tryz.prog 127 = true := by kernel_rfl
@[go_sem] theorem fr109 : Tryz.f109.results.toList = [.tmp 2] := by kernel_rfl
@[go_sem] theorem fn109 : Tryz.f109.ntmps = 59 := by kernel_rfl
@[go_sem] theorem fr110 : Tryz.f110.results.toList = [.tmp 2] := by kernel_rfl
@[go_sem] theorem fn110 : Tryz.f110.ntmps = 4 := by kernel_rfl
@[go_sem] theorem go128 : isGo Tryz.prog 128 = true := by kernel_rfl
@[go_sem] theorem fr111 : Tryz.f111.results.toList = [.tmp 4] := by kernel_rfl
@[go_sem] theorem fn111 : Tryz.f111.ntmps = 42 := by kernel_rfl
@[go_sem] theorem fr112 : Tryz.f112.results.toList = [.tmp 2] := by kernel_rfl
@[go_sem] theorem fn112 : Tryz.f112.ntmps = 8 := by kernel_rfl
@[go_sem] theorem go130 : isGo Tryz.prog 130 = true := by kernel_rfl
@[go_sem] theorem go131 : isGo Tryz.prog 131 = true := by kernel_rfl
@[go_sem] theorem fr113 : Tryz.f113.results.toList = [.tmp 4] := by kernel_rfl
@[go_sem] theorem fn113 : Tryz.f113.ntmps = 36 := by kernel_rfl
@[go_sem] theorem go132 : isGo Tryz.prog 132 = true := by kernel_rfl
@[go_sem] theorem fr114 : Tryz.f114.results.toList = [.cell 4 60] := by kernel_rfl
@[go_sem] theorem fn114 : Tryz.f114.ntmps = 8 := by kernel_rfl
@[go_sem] theorem fr115 : Tryz.f115.results.toList = [.tmp 4] := by kernel_rfl
@[go_sem] theorem fn115 : Tryz.f115.ntmps = 9 := by kernel_rfl
@[go_sem] theorem fr116 : Tryz.f116.results.toList = [.tmp 4] := by kernel_rfl
@[go_sem] theorem fn116 : Tryz.f116.ntmps = 31 := by kernel_rfl
@[go_sem] theorem fr118 : Tryz.f118.results.toList = [.tmp 2] := by kernel_rfl
@[go_sem] theorem fn118 : Tryz.f118.ntmps = 15 := by kernel_rfl
@[go_sem] theorem fr119 : Tryz.f119.results.toList = [.tmp 4] := by kernel_rfl
@[go_sem] theorem fn119 : Tryz.f119.ntmps = 49 := by kernel_rfl
@[go_sem] theorem go136 : isGo Tryz.prog 136 = true := by kernel_rfl
@[go_sem] theorem fr122 : Tryz.f122.results.toList = [.cell 2 50] := by kernel_rfl
@[go_sem] theorem fn122 : Tryz.f122.ntmps = 30 := by kernel_rfl
@[go_sem] theorem fr123 : Tryz.f123.results.toList = [.tmp 4] := by kernel_rfl
@[go_sem] theorem fn123 : Tryz.f123.ntmps = 28 := by kernel_rfl
@[go_sem] theorem fr124 : Tryz.f124.results.toList = [.tmp 2] := by kernel_rfl
@[go_sem] theorem fn124 : Tryz.f124.ntmps = 76 := by kernel_rfl
@[go_sem] theorem go137 : isGo Tryz.prog 137 = true := by kernel_rfl
@[go_sem] theorem go138 : isGo Tryz.prog 138 = true := by kernel_rfl
@[go_sem] theorem fr125 : Tryz.f125.results.toList = [.cell 4 60] := by kernel_rfl
@[go_sem] theorem fn125 : Tryz.f125.ntmps = 36 := by kernel_rfl
@[go_sem] theorem fr126 : Tryz.f126.results.toList = [.tmp 4] := by kernel_rfl
@[go_sem] theorem fn126 : Tryz.f126.ntmps = 9 := by kernel_rfl
@[go_sem] theorem fr127 : Tryz.f127.results.toList = [.tmp 4] := by kernel_rfl
@[go_sem] theorem fn127 : Tryz.f127.ntmps = 27 := by kernel_rfl
@[go_sem] theorem fr128 : Tryz.f128.results.toList = [.tmp 4] := by kernel_rfl
@[go_sem] theorem fn128 : Tryz.f128.ntmps = 68 := by kernel_rfl
@[go_sem] theorem fr129 : Tryz.f129.results.toList = [] := by kernel_rfl
@[go_sem] theorem fn129 : Tryz.f129.ntmps = 3 := by kernel_rfl
@[go_sem] theorem fr130 : Tryz.f130.results.toList = [.tmp 4] := by kernel_rfl
@[go_sem] theorem fn130 : Tryz.f130.ntmps = 60 := by kernel_rfl
@[go_sem] theorem fr131 : Tryz.f131.results.toList = [.tmp 4] := by kernel_rfl
@[go_sem] theorem fn131 : Tryz.f131.ntmps = 11 := by kernel_rfl
@[go_sem] theorem go139 : isGo Tryz.prog 139 = true := by kernel_rfl
@[go_sem] theorem go140 : isGo Tryz.prog 140 = true := by kernel_rfl
@[go_sem] theorem fr132 : Tryz.f132.results.toList = [.cell 4 60] := by kernel_rfl
@[go_sem] theorem fn132 : Tryz.f132.ntmps = 38 := by kernel_rfl
@[go_sem] theorem fr133 : Tryz.f133.results.toList = [.cell 3 60, .tmp 4] := by kernel_rfl
@[go_sem] theorem fn133 : Tryz.f133.ntmps = 9 := by kernel_rfl
@[go_sem] theorem go147 : isGo Tryz.prog 147 = true := by kernel_rfl
@[go_sem] theorem fr136 : Tryz.f136.results.toList = [.tmp 2] := by kernel_rfl
@[go_sem] theorem fn136 : Tryz.f136.ntmps = 20 := by kernel_rfl
@[go_sem] theorem fr137 : Tryz.f137.results.toList = [.cell 4 60, .tmp 5] := by kernel_rfl
@[go_sem] theorem fn137 : Tryz.f137.ntmps = 22 := by kernel_rfl
@[go_sem] theorem fr138 : Tryz.f138.results.toList = [.cell 4 60] := by kernel_rfl
@[go_sem] theorem fn138 : Tryz.f138.ntmps = 9 := by kernel_rfl
@[go_sem] theorem fr139 : Tryz.f139.results.toList = [.cell 2 60] := by kernel_rfl
@[go_sem] theorem fn139 : Tryz.f139.ntmps = 25 := by kernel_rfl
@[go_sem] theorem fr140 : Tryz.f140.results.toList = [.cell 4 60] := by kernel_rfl
@[go_sem] theorem fn140 : Tryz.f140.ntmps = 9 := by kernel_rfl
@[go_sem] theorem fr147 : Tryz.f147.results.toList = [.cell 2 60] := by kernel_rfl
@[go_sem] theorem fn147 : Tryz.f147.ntmps = 29 := by kernel_rfl
end Go.Proofs.YtbncaodnnbldmaaGreatDoor
