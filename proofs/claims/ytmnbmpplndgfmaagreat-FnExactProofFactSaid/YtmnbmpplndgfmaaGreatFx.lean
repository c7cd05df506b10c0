/- What the walks ask of the program: its types, and which functions have a body. -/
import Derived.Test.YtmnbmpplndgfmaaGreatP1
import Derived.Test.YtmnbmpplndgfmaaGreatA5
import Derived.Test.YtmnbmpplndgfmaaGreatProg
import Derived.KernelRfl
namespace Go.Proofs.YtmnbmpplndgfmaaGreat
open Go.Abs

theorem mixed : Tryz.prog.follows .mixedOrders = true := by kernel_rfl
@[go_sem] theorem ty3_a : tAgg Tryz.prog 3 = some false := by kernel_rfl
@[go_sem] theorem ty3_s : tSize Tryz.prog 3 = some 1 := by kernel_rfl
@[go_sem] theorem ty3_n : tInt Tryz.prog 3 = some Go.IntKind.i64 := by kernel_rfl
@[go_sem] theorem ty3_u : (Tryz.prog.underlying 3).isSome = true := by kernel_rfl
@[go_sem] theorem ty4_a : tAgg Tryz.prog 4 = some false := by kernel_rfl
@[go_sem] theorem ty4_s : tSize Tryz.prog 4 = some 1 := by kernel_rfl
@[go_sem] theorem ty4_u : Tryz.prog.underlying 4 = some .bool := by kernel_rfl
@[go_sem] theorem ty9_a : tAgg Tryz.prog 9 = some false := by kernel_rfl
@[go_sem] theorem ty9_s : tSize Tryz.prog 9 = some 1 := by kernel_rfl
@[go_sem] theorem ty9_t : tIsStr Tryz.prog 9 = true := by kernel_rfl
@[go_sem] theorem ty22_a : tAgg Tryz.prog 22 = some false := by kernel_rfl
@[go_sem] theorem ty22_s : tSize Tryz.prog 22 = some 1 := by kernel_rfl
@[go_sem] theorem ty22_i : tIsSlice Tryz.prog 22 = true := by kernel_rfl
@[go_sem] theorem ty22_e : tElem Tryz.prog 22 = some 180 := by kernel_rfl
@[go_sem] theorem ty24_a : tAgg Tryz.prog 24 = some true := by kernel_rfl
@[go_sem] theorem ty24_s : tSize Tryz.prog 24 = some 1 := by kernel_rfl
@[go_sem] theorem ty24_f0 : tField Tryz.prog 24 0 = some (0, 22) := by kernel_rfl
@[go_sem] theorem ty25_a : tAgg Tryz.prog 25 = some false := by kernel_rfl
@[go_sem] theorem ty25_s : tSize Tryz.prog 25 = some 1 := by kernel_rfl
@[go_sem] theorem ty25_i : tIsSlice Tryz.prog 25 = true := by kernel_rfl
@[go_sem] theorem ty25_e : tElem Tryz.prog 25 = some 110 := by kernel_rfl
@[go_sem] theorem ty28_a : tAgg Tryz.prog 28 = some false := by kernel_rfl
@[go_sem] theorem ty28_s : tSize Tryz.prog 28 = some 1 := by kernel_rfl
@[go_sem] theorem ty28_i : tIsSlice Tryz.prog 28 = true := by kernel_rfl
@[go_sem] theorem ty28_e : tElem Tryz.prog 28 = some 120 := by kernel_rfl
@[go_sem] theorem ty28_l : tSlice Tryz.prog 28 = some (120, 4, 56) := by kernel_rfl
@[go_sem] theorem ty28_t : tIsStr Tryz.prog 28 = false := by kernel_rfl
@[go_sem] theorem ty28_u : (Tryz.prog.underlying 28).isSome = true := by kernel_rfl
@[go_sem] theorem ty29_a : tAgg Tryz.prog 29 = some false := by kernel_rfl
@[go_sem] theorem ty29_s : tSize Tryz.prog 29 = some 1 := by kernel_rfl
@[go_sem] theorem ty29_i : tIsSlice Tryz.prog 29 = true := by kernel_rfl
@[go_sem] theorem ty29_e : tElem Tryz.prog 29 = some 31 := by kernel_rfl
@[go_sem] theorem ty29_l : tSlice Tryz.prog 29 = some (31, 4, 72) := by kernel_rfl
@[go_sem] theorem ty29_t : tIsStr Tryz.prog 29 = false := by kernel_rfl
@[go_sem] theorem ty29_u : (Tryz.prog.underlying 29).isSome = true := by kernel_rfl
@[go_sem] theorem ty31_a : tAgg Tryz.prog 31 = some true := by kernel_rfl
@[go_sem] theorem ty31_s : tSize Tryz.prog 31 = some 4 := by kernel_rfl
@[go_sem] theorem ty31_f0 : tField Tryz.prog 31 0 = some (0, 3) := by kernel_rfl
@[go_sem] theorem ty31_f1 : tField Tryz.prog 31 1 = some (1, 9) := by kernel_rfl
@[go_sem] theorem ty31_f2 : tField Tryz.prog 31 2 = some (2, 28) := by kernel_rfl
@[go_sem] theorem ty31_f3 : tField Tryz.prog 31 3 = some (3, 29) := by kernel_rfl
@[go_sem] theorem ty34_a : tAgg Tryz.prog 34 = some false := by kernel_rfl
@[go_sem] theorem ty34_s : tSize Tryz.prog 34 = some 1 := by kernel_rfl
@[go_sem] theorem ty34_i : tIsSlice Tryz.prog 34 = true := by kernel_rfl
@[go_sem] theorem ty34_e : tElem Tryz.prog 34 = some 114 := by kernel_rfl
@[go_sem] theorem ty34_l : tSlice Tryz.prog 34 = some (114, 7, 104) := by kernel_rfl
@[go_sem] theorem ty36_a : tAgg Tryz.prog 36 = some true := by kernel_rfl
@[go_sem] theorem ty36_s : tSize Tryz.prog 36 = some 1 := by kernel_rfl
@[go_sem] theorem ty36_f0 : tField Tryz.prog 36 0 = some (0, 34) := by kernel_rfl
@[go_sem] theorem ty68_a : tAgg Tryz.prog 68 = some false := by kernel_rfl
@[go_sem] theorem ty68_s : tSize Tryz.prog 68 = some 1 := by kernel_rfl
@[go_sem] theorem ty68_i : tIsSlice Tryz.prog 68 = true := by kernel_rfl
@[go_sem] theorem ty68_e : tElem Tryz.prog 68 = some 70 := by kernel_rfl
@[go_sem] theorem ty70_a : tAgg Tryz.prog 70 = some true := by kernel_rfl
@[go_sem] theorem ty70_s : tSize Tryz.prog 70 = some 4 := by kernel_rfl
@[go_sem] theorem ty70_f0 : tField Tryz.prog 70 0 = some (0, 3) := by kernel_rfl
@[go_sem] theorem ty70_f1 : tField Tryz.prog 70 1 = some (1, 9) := by kernel_rfl
@[go_sem] theorem ty70_f2 : tField Tryz.prog 70 2 = some (2, 25) := by kernel_rfl
@[go_sem] theorem ty70_f3 : tField Tryz.prog 70 3 = some (3, 68) := by kernel_rfl
@[go_sem] theorem ty110_a : tAgg Tryz.prog 110 = some true := by kernel_rfl
@[go_sem] theorem ty110_s : tSize Tryz.prog 110 = some 4 := by kernel_rfl
@[go_sem] theorem ty110_f0 : tField Tryz.prog 110 0 = some (0, 3) := by kernel_rfl
@[go_sem] theorem ty110_f1 : tField Tryz.prog 110 1 = some (1, 3) := by kernel_rfl
@[go_sem] theorem ty110_f2 : tField Tryz.prog 110 2 = some (2, 9) := by kernel_rfl
@[go_sem] theorem ty110_f3 : tField Tryz.prog 110 3 = some (3, 25) := by kernel_rfl
@[go_sem] theorem ty114_a : tAgg Tryz.prog 114 = some true := by kernel_rfl
@[go_sem] theorem ty114_s : tSize Tryz.prog 114 = some 7 := by kernel_rfl
@[go_sem] theorem ty114_f0 : tField Tryz.prog 114 0 = some (0, 9) := by kernel_rfl
@[go_sem] theorem ty114_f1 : tField Tryz.prog 114 1 = some (1, 3) := by kernel_rfl
@[go_sem] theorem ty114_f2 : tField Tryz.prog 114 2 = some (2, 3) := by kernel_rfl
@[go_sem] theorem ty114_f3 : tField Tryz.prog 114 3 = some (3, 31) := by kernel_rfl
@[go_sem] theorem ty120_a : tAgg Tryz.prog 120 = some true := by kernel_rfl
@[go_sem] theorem ty120_s : tSize Tryz.prog 120 = some 4 := by kernel_rfl
@[go_sem] theorem ty120_f0 : tField Tryz.prog 120 0 = some (0, 3) := by kernel_rfl
@[go_sem] theorem ty120_f1 : tField Tryz.prog 120 1 = some (1, 3) := by kernel_rfl
@[go_sem] theorem ty120_f2 : tField Tryz.prog 120 2 = some (2, 9) := by kernel_rfl
@[go_sem] theorem ty120_f3 : tField Tryz.prog 120 3 = some (3, 28) := by kernel_rfl
@[go_sem] theorem ty180_a : tAgg Tryz.prog 180 = some true := by kernel_rfl
@[go_sem] theorem ty180_s : tSize Tryz.prog 180 = some 7 := by kernel_rfl
@[go_sem] theorem ty180_f0 : tField Tryz.prog 180 0 = some (0, 9) := by kernel_rfl
@[go_sem] theorem ty180_f1 : tField Tryz.prog 180 1 = some (1, 3) := by kernel_rfl
@[go_sem] theorem ty180_f2 : tField Tryz.prog 180 2 = some (2, 3) := by kernel_rfl
@[go_sem] theorem ty180_f3 : tField Tryz.prog 180 3 = some (3, 70) := by kernel_rfl
@[go_sem] theorem tz31 : tZero Tryz.prog 31 = some [.int .i64 0, .string ⟨#[]⟩, .slice none 0 0, .slice none 0 0] := by kernel_rfl
@[go_sem] theorem tz36 : tZero Tryz.prog 36 = some [.slice none 0 0] := by kernel_rfl
@[go_sem] theorem go13 : isGo Tryz.prog 13 = true := by kernel_rfl
@[go_sem] theorem go14 : isGo Tryz.prog 14 = true := by kernel_rfl
@[go_sem] theorem go16 : isGo Tryz.prog 16 = true := by kernel_rfl
@[go_sem] theorem go17 : isGo Tryz.prog 17 = true := by kernel_rfl
@[go_sem] theorem go19 : isGo Tryz.prog 19 = true := by kernel_rfl
@[go_sem] theorem go20 : isGo Tryz.prog 20 = true := by kernel_rfl
@[go_sem] theorem go21 : isGo Tryz.prog 21 = true := by kernel_rfl
@[go_sem] theorem go22 : isGo Tryz.prog 22 = true := by kernel_rfl
@[go_sem] theorem go23 : isGo Tryz.prog 23 = true := by kernel_rfl
@[go_sem] theorem ty51_a : tAgg Tryz.prog 51 = some false := by kernel_rfl
@[go_sem] theorem ty51_s : tSize Tryz.prog 51 = some 1 := by kernel_rfl
@[go_sem] theorem ty51_i : tIsSlice Tryz.prog 51 = true := by kernel_rfl
@[go_sem] theorem ty51_e : tElem Tryz.prog 51 = some 53 := by kernel_rfl
@[go_sem] theorem ty53_a : tAgg Tryz.prog 53 = some true := by kernel_rfl
@[go_sem] theorem ty53_s : tSize Tryz.prog 53 = some 4 := by kernel_rfl
@[go_sem] theorem ty53_f0 : tField Tryz.prog 53 0 = some (0, 9) := by kernel_rfl
@[go_sem] theorem ty53_f1 : tField Tryz.prog 53 1 = some (1, 3) := by kernel_rfl
@[go_sem] theorem ty53_f2 : tField Tryz.prog 53 2 = some (2, 25) := by kernel_rfl
@[go_sem] theorem ty53_f3 : tField Tryz.prog 53 3 = some (3, 51) := by kernel_rfl
@[go_sem] theorem ty56_a : tAgg Tryz.prog 56 = some false := by kernel_rfl
@[go_sem] theorem ty56_s : tSize Tryz.prog 56 = some 1 := by kernel_rfl
@[go_sem] theorem ty56_i : tIsSlice Tryz.prog 56 = true := by kernel_rfl
@[go_sem] theorem ty56_e : tElem Tryz.prog 56 = some 58 := by kernel_rfl
@[go_sem] theorem ty56_l : tSlice Tryz.prog 56 = some (58, 4, 72) := by kernel_rfl
@[go_sem] theorem ty58_a : tAgg Tryz.prog 58 = some true := by kernel_rfl
@[go_sem] theorem ty58_s : tSize Tryz.prog 58 = some 4 := by kernel_rfl
@[go_sem] theorem ty58_f0 : tField Tryz.prog 58 0 = some (0, 9) := by kernel_rfl
@[go_sem] theorem ty58_f1 : tField Tryz.prog 58 1 = some (1, 3) := by kernel_rfl
@[go_sem] theorem ty58_f2 : tField Tryz.prog 58 2 = some (2, 28) := by kernel_rfl
@[go_sem] theorem ty58_f3 : tField Tryz.prog 58 3 = some (3, 56) := by kernel_rfl
@[go_sem] theorem tz58 : tZero Tryz.prog 58 = some [.string ⟨#[]⟩, .int .i64 0, .slice none 0 0, .slice none 0 0] := by kernel_rfl
@[go_sem] theorem go31 : isGo Tryz.prog 31 = true := by kernel_rfl
@[go_sem] theorem go32 : isGo Tryz.prog 32 = true := by kernel_rfl
@[go_sem] theorem go33 : isGo Tryz.prog 33 = true := by kernel_rfl
@[go_sem] theorem go34 : isGo Tryz.prog 34 = true := by kernel_rfl
@[go_sem] theorem go35 : isGo Tryz.prog 35 = true := by kernel_rfl
@[go_sem] theorem ty72_i : tIsSlice Tryz.prog 72 = true := by kernel_rfl
@[go_sem] theorem ty72_e : tElem Tryz.prog 72 = some 149 := by kernel_rfl
@[go_sem] theorem ty72_l : tSlice Tryz.prog 72 = some (149, 5, 64) := by kernel_rfl
@[go_sem] theorem ty72_u : (Tryz.prog.underlying 72).isSome = true := by kernel_rfl
@[go_sem] theorem ty78_i : tIsSlice Tryz.prog 78 = true := by kernel_rfl
@[go_sem] theorem ty78_e : tElem Tryz.prog 78 = some 3 := by kernel_rfl
@[go_sem] theorem ty78_l : tSlice Tryz.prog 78 = some (3, 1, 8) := by kernel_rfl
@[go_sem] theorem ty78_u : (Tryz.prog.underlying 78).isSome = true := by kernel_rfl
@[go_sem] theorem ty149_a : tAgg Tryz.prog 149 = some true := by kernel_rfl
@[go_sem] theorem ty149_s : tSize Tryz.prog 149 = some 5 := by kernel_rfl
@[go_sem] theorem ty149_f0 : tField Tryz.prog 149 0 = some (0, 3) := by kernel_rfl
@[go_sem] theorem ty149_f1 : tField Tryz.prog 149 1 = some (1, 120) := by kernel_rfl
@[go_sem] theorem go41 : isGo Tryz.prog 41 = true := by kernel_rfl
@[go_sem] theorem go43 : isGo Tryz.prog 43 = true := by kernel_rfl
@[go_sem] theorem ty91_a : tAgg Tryz.prog 91 = some true := by kernel_rfl
@[go_sem] theorem ty91_s : tSize Tryz.prog 91 = some 2 := by kernel_rfl
@[go_sem] theorem ty91_f0 : tField Tryz.prog 91 0 = some (0, 9) := by kernel_rfl
@[go_sem] theorem ty91_f1 : tField Tryz.prog 91 1 = some (1, 28) := by kernel_rfl
@[go_sem] theorem tz91 : tZero Tryz.prog 91 = some [.string ⟨#[]⟩, .slice none 0 0] := by kernel_rfl
@[go_sem] theorem go48 : isGo Tryz.prog 48 = true := by kernel_rfl
@[go_sem] theorem go49 : isGo Tryz.prog 49 = true := by kernel_rfl
@[go_sem] theorem go50 : isGo Tryz.prog 50 = true := by kernel_rfl
@[go_sem] theorem go51 : isGo Tryz.prog 51 = true := by kernel_rfl
@[go_sem] theorem go52 : isGo Tryz.prog 52 = true := by kernel_rfl
@[go_sem] theorem go53 : isGo Tryz.prog 53 = true := by kernel_rfl
@[go_sem] theorem fr9 : Tryz.f9.results.toList = [.tmp 4] := by kernel_rfl
@[go_sem] theorem fn9 : Tryz.f9.ntmps = 119 := by kernel_rfl
@[go_sem] theorem go67 : isGo Tryz.prog 67 = true := by kernel_rfl
@[go_sem] theorem fr13 : Tryz.f13.results.toList = [.tmp 4] := by kernel_rfl
@[go_sem] theorem fn13 : Tryz.f13.ntmps = 12 := by kernel_rfl
@[go_sem] theorem go68 : isGo Tryz.prog 68 = true := by kernel_rfl
@[go_sem] theorem fr14 : Tryz.f14.results.toList = [.tmp 4] := by kernel_rfl
@[go_sem] theorem fn14 : Tryz.f14.ntmps = 27 := by kernel_rfl
@[go_sem] theorem tb31 : tBuild Tryz.prog 31 = some ([.int .i64 0, .string ⟨#[]⟩, .slice none 0 0, .slice none 0 0], [(0, 1), (1, 1), (2, 1), (3, 1)]) := by kernel_rfl
@[go_sem] theorem go70 : isGo Tryz.prog 70 = true := by kernel_rfl
@[go_sem] theorem go71 : isGo Tryz.prog 71 = true := by kernel_rfl
@[go_sem] theorem go72 : isGo Tryz.prog 72 = true := by kernel_rfl
@[go_sem] theorem go74 : isGo Tryz.prog 74 = true := by kernel_rfl
@[go_sem] theorem fr16 : Tryz.f16.results.toList = [.cell 2 36] := by kernel_rfl
@[go_sem] theorem fn16 : Tryz.f16.ntmps = 9 := by kernel_rfl
@[go_sem] theorem tz120 : tZero Tryz.prog 120 = some [.int .i64 0, .int .i64 0, .string ⟨#[]⟩, .slice none 0 0] := by kernel_rfl
@[go_sem] theorem go75 : isGo Tryz.prog 75 = true := by kernel_rfl
@[go_sem] theorem fr17 : Tryz.f17.results.toList = [.tmp 2] := by kernel_rfl
@[go_sem] theorem fn17 : Tryz.f17.ntmps = 23 := by kernel_rfl
@[go_sem] theorem go76 : isGo Tryz.prog 76 = true := by kernel_rfl
@[go_sem] theorem go77 : isGo Tryz.prog 77 = true := by kernel_rfl
@[go_sem] theorem go78 : isGo Tryz.prog 78 = true := by kernel_rfl
@[go_sem] theorem go80 : isGo Tryz.prog 80 = true := by kernel_rfl
@[go_sem] theorem fr19 : Tryz.f19.results.toList = [.tmp 4] := by kernel_rfl
@[go_sem] theorem fn19 : Tryz.f19.ntmps = 27 := by kernel_rfl
@[go_sem] theorem go81 : isGo Tryz.prog 81 = true := by kernel_rfl
@[go_sem] theorem fr20 : Tryz.f20.results.toList = [.tmp 4] := by kernel_rfl
@[go_sem] theorem fn20 : Tryz.f20.ntmps = 11 := by kernel_rfl
@[go_sem] theorem go82 : isGo Tryz.prog 82 = true := by kernel_rfl
@[go_sem] theorem fr21 : Tryz.f21.results.toList = [.tmp 4] := by kernel_rfl
@[go_sem] theorem fn21 : Tryz.f21.ntmps = 27 := by kernel_rfl
@[go_sem] theorem go83 : isGo Tryz.prog 83 = true := by kernel_rfl
@[go_sem] theorem fr22 : Tryz.f22.results.toList = [.tmp 4] := by kernel_rfl
@[go_sem] theorem fn22 : Tryz.f22.ntmps = 10 := by kernel_rfl
@[go_sem] theorem go84 : isGo Tryz.prog 84 = true := by kernel_rfl
@[go_sem] theorem fr23 : Tryz.f23.results.toList = [.tmp 4] := by kernel_rfl
@[go_sem] theorem fn23 : Tryz.f23.ntmps = 42 := by kernel_rfl
@[go_sem] theorem go85 : isGo Tryz.prog 85 = true := by kernel_rfl
@[go_sem] theorem go66 : isGo Tryz.prog 66 = true := by kernel_rfl
@[go_sem] theorem tz114 : tZero Tryz.prog 114 = some [.string ⟨#[]⟩, .int .i64 0, .int .i64 0, .int .i64 0, .string ⟨#[]⟩, .slice none 0 0, .slice none 0 0] := by kernel_rfl
@[go_sem] theorem ty133_a : tAgg Tryz.prog 133 = some false := by kernel_rfl
@[go_sem] theorem ty133_s : tSize Tryz.prog 133 = some 1 := by kernel_rfl
@[go_sem] theorem ty133_im : tIsMap Tryz.prog 133 = true := by kernel_rfl
@[go_sem] theorem ty133_m : tMap Tryz.prog 133 = some (false, .bool false) := by kernel_rfl
@[go_sem] theorem ty137_i : tIsSlice Tryz.prog 137 = true := by kernel_rfl
@[go_sem] theorem ty137_e : tElem Tryz.prog 137 = some 29 := by kernel_rfl
@[go_sem] theorem ty137_l : tSlice Tryz.prog 137 = some (29, 1, 24) := by kernel_rfl
@[go_sem] theorem ty137_u : (Tryz.prog.underlying 137).isSome = true := by kernel_rfl
@[go_sem] theorem go93 : isGo Tryz.prog 93 = true := by kernel_rfl
@[go_sem] theorem go94 : isGo Tryz.prog 94 = true := by kernel_rfl
@[go_sem] theorem go98 : isGo Tryz.prog 98 = true := by kernel_rfl
@[go_sem] theorem fr31 : Tryz.f31.results.toList = [.tmp 4] := by kernel_rfl
@[go_sem] theorem fn31 : Tryz.f31.ntmps = 25 := by kernel_rfl
@[go_sem] theorem go99 : isGo Tryz.prog 99 = true := by kernel_rfl
@[go_sem] theorem go100 : isGo Tryz.prog 100 = true := by kernel_rfl
@[go_sem] theorem fr32 : Tryz.f32.results.toList = [.tmp 4] := by kernel_rfl
@[go_sem] theorem fn32 : Tryz.f32.ntmps = 17 := by kernel_rfl
@[go_sem] theorem go101 : isGo Tryz.prog 101 = true := by kernel_rfl
@[go_sem] theorem fr33 : Tryz.f33.results.toList = [.cell 2 58] := by kernel_rfl
@[go_sem] theorem fn33 : Tryz.f33.ntmps = 19 := by kernel_rfl
@[go_sem] theorem go102 : isGo Tryz.prog 102 = true := by kernel_rfl
@[go_sem] theorem go103 : isGo Tryz.prog 103 = true := by kernel_rfl
@[go_sem] theorem fr34 : Tryz.f34.results.toList = [.tmp 4] := by kernel_rfl
@[go_sem] theorem fn34 : Tryz.f34.ntmps = 17 := by kernel_rfl
@[go_sem] theorem go104 : isGo Tryz.prog 104 = true := by kernel_rfl
@[go_sem] theorem fr35 : Tryz.f35.results.toList = [.tmp 4] := by kernel_rfl
@[go_sem] theorem fn35 : Tryz.f35.ntmps = 27 := by kernel_rfl
@[go_sem] theorem go115 : isGo Tryz.prog 115 = true := by kernel_rfl
@[go_sem] theorem fr41 : Tryz.f41.results.toList = [.tmp 4] := by kernel_rfl
@[go_sem] theorem fn41 : Tryz.f41.ntmps = 25 := by kernel_rfl
@[go_sem] theorem go119 : isGo Tryz.prog 119 = true := by kernel_rfl
@[go_sem] theorem fr43 : Tryz.f43.results.toList = [.cell 2 31] := by kernel_rfl
@[go_sem] theorem fn43 : Tryz.f43.ntmps = 19 := by kernel_rfl
@[go_sem] theorem ty62_a : tAgg Tryz.prog 62 = some false := by kernel_rfl
@[go_sem] theorem ty62_s : tSize Tryz.prog 62 = some 1 := by kernel_rfl
@[go_sem] theorem ty62_i : tIsSlice Tryz.prog 62 = true := by kernel_rfl
@[go_sem] theorem ty62_e : tElem Tryz.prog 62 = some 91 := by kernel_rfl
@[go_sem] theorem ty62_l : tSlice Tryz.prog 62 = some (91, 2, 40) := by kernel_rfl
@[go_sem] theorem ty62_t : tIsStr Tryz.prog 62 = false := by kernel_rfl
@[go_sem] theorem ty62_u : (Tryz.prog.underlying 62).isSome = true := by kernel_rfl
@[go_sem] theorem tb91 : tBuild Tryz.prog 91 = some ([.string ⟨#[]⟩, .slice none 0 0], [(0, 1), (1, 1)]) := by kernel_rfl
@[go_sem] theorem go109 : isGo Tryz.prog 109 = true := by kernel_rfl
@[go_sem] theorem go129 : isGo Tryz.prog 129 = true := by kernel_rfl
@[go_sem] theorem fr48 : Tryz.f48.results.toList = [.cell 4 91, .tmp 5] := by kernel_rfl
@[go_sem] theorem fn48 : Tryz.f48.ntmps = 18 := by kernel_rfl
@[go_sem] theorem go130 : isGo Tryz.prog 130 = true := by kernel_rfl
@[go_sem] theorem go131 : isGo Tryz.prog 131 = true := by kernel_rfl
@[go_sem] theorem fr49 : Tryz.f49.results.toList = [.cell 4 91, .tmp 5] := by kernel_rfl
@[go_sem] theorem fn49 : Tryz.f49.ntmps = 15 := by kernel_rfl
@[go_sem] theorem fr50 : Tryz.f50.results.toList = [.tmp 4] := by kernel_rfl
@[go_sem] theorem fn50 : Tryz.f50.ntmps = 16 := by kernel_rfl
@[go_sem] theorem go132 : isGo Tryz.prog 132 = true := by kernel_rfl
@[go_sem] theorem fr51 : Tryz.f51.results.toList = [.tmp 4] := by kernel_rfl
@[go_sem] theorem fn51 : Tryz.f51.ntmps = 14 := by kernel_rfl
@[go_sem] theorem fr52 : Tryz.f52.results.toList = [.tmp 4] := by kernel_rfl
@[go_sem] theorem fn52 : Tryz.f52.ntmps = 10 := by kernel_rfl
@[go_sem] theorem fr53 : Tryz.f53.results.toList = [.tmp 4] := by kernel_rfl
@[go_sem] theorem fn53 : Tryz.f53.ntmps = 12 := by kernel_rfl
@[go_sem] theorem fr66 : Tryz.f66.results.toList = [.tmp 4] := by kernel_rfl
@[go_sem] theorem fn66 : Tryz.f66.ntmps = 50 := by kernel_rfl
@[go_sem] theorem go145 : isGo Tryz.prog 145 = true := by kernel_rfl
@[go_sem] theorem fr67 : Tryz.f67.results.toList = [.tmp 4] := by kernel_rfl
@[go_sem] theorem fn67 : Tryz.f67.ntmps = 27 := by kernel_rfl
@[go_sem] theorem fr68 : Tryz.f68.results.toList = [.tmp 4] := by kernel_rfl
@[go_sem] theorem fn68 : Tryz.f68.ntmps = 19 := by kernel_rfl
@[go_sem] theorem go146 : isGo Tryz.prog 146 = true := by kernel_rfl
@[go_sem] theorem go147 : isGo Tryz.prog 147 = true := by kernel_rfl
@[go_sem] theorem fr70 : Tryz.f70.results.toList = [.tmp 2] := by kernel_rfl
@[go_sem] theorem fn70 : Tryz.f70.ntmps = 15 := by kernel_rfl
@[go_sem] theorem fr71 : Tryz.f71.results.toList = [.tmp 6] := by kernel_rfl
@[go_sem] theorem fn71 : Tryz.f71.ntmps = 15 := by kernel_rfl
@[go_sem] theorem go135 : isGo Tryz.prog 135 = true := by kernel_rfl
@[go_sem] theorem fr72 : Tryz.f72.results.toList = [.cell 2 31] := by kernel_rfl
@[go_sem] theorem fn72 : Tryz.f72.ntmps = 30 := by kernel_rfl
@[go_sem] theorem go151 : isGo Tryz.prog 151 = true := by kernel_rfl
@[go_sem] theorem fr74 : Tryz.f74.results.toList = [.tmp 2] := by kernel_rfl
@[go_sem] theorem fn74 : Tryz.f74.ntmps = 23 := by kernel_rfl
@[go_sem] theorem fr75 : Tryz.f75.results.toList = [.cell 2 120] := by kernel_rfl
@[go_sem] theorem fn75 : Tryz.f75.ntmps = 18 := by kernel_rfl
@[go_sem] theorem go152 : isGo Tryz.prog 152 = true := by kernel_rfl
@[go_sem] theorem go153 : isGo Tryz.prog 153 = true := by kernel_rfl
@[go_sem] theorem go154 : isGo Tryz.prog 154 = true := by kernel_rfl
@[go_sem] theorem go155 : isGo Tryz.prog 155 = true := by kernel_rfl
@[go_sem] theorem fr76 : Tryz.f76.results.toList = [.tmp 2] := by kernel_rfl
@[go_sem] theorem fn76 : Tryz.f76.ntmps = 72 := by kernel_rfl
@[go_sem] theorem go156 : isGo Tryz.prog 156 = true := by kernel_rfl
@[go_sem] theorem fr77 : Tryz.f77.results.toList = [.tmp 2] := by kernel_rfl
@[go_sem] theorem fn77 : Tryz.f77.ntmps = 15 := by kernel_rfl
@[go_sem] theorem fr78 : Tryz.f78.results.toList = [.tmp 4] := by kernel_rfl
@[go_sem] theorem fn78 : Tryz.f78.ntmps = 21 := by kernel_rfl
@[go_sem] theorem go113 : isGo Tryz.prog 113 = true := by kernel_rfl
@[go_sem] theorem fr80 : Tryz.f80.results.toList = [.tmp 4] := by kernel_rfl
@[go_sem] theorem fn80 : Tryz.f80.ntmps = 27 := by kernel_rfl
@[go_sem] theorem go161 : isGo Tryz.prog 161 = true := by kernel_rfl
@[go_sem] theorem fr81 : Tryz.f81.results.toList = [.tmp 4] := by kernel_rfl
@[go_sem] theorem fn81 : Tryz.f81.ntmps = 27 := by kernel_rfl
@[go_sem] theorem fr82 : Tryz.f82.results.toList = [.tmp 4] := by kernel_rfl
@[go_sem] theorem fn82 : Tryz.f82.ntmps = 26 := by kernel_rfl
@[go_sem] theorem fr83 : Tryz.f83.results.toList = [.tmp 4] := by kernel_rfl
@[go_sem] theorem fn83 : Tryz.f83.ntmps = 68 := by kernel_rfl
@[go_sem] theorem ty5_n : tInt Tryz.prog 5 = some Go.IntKind.u8 := by kernel_rfl
@[go_sem] theorem ty5_u : (Tryz.prog.underlying 5).isSome = true := by kernel_rfl
@[go_sem] theorem ty193_l : tSlice Tryz.prog 193 = some (5, 1, 1) := by kernel_rfl
@[go_sem] theorem ty193_b : tIsBytes Tryz.prog 193 = true := by kernel_rfl
@[go_sem] theorem fr84 : Tryz.f84.results.toList = [.tmp 2] := by kernel_rfl
@[go_sem] theorem fn84 : Tryz.f84.ntmps = 20 := by kernel_rfl
@[go_sem] theorem fr85 : Tryz.f85.results.toList = [.tmp 4] := by kernel_rfl
@[go_sem] theorem fn85 : Tryz.f85.ntmps = 42 := by kernel_rfl
@[go_sem] theorem go163 : isGo Tryz.prog 163 = true := by kernel_rfl
@[go_sem] theorem go165 : isGo Tryz.prog 165 = true := by kernel_rfl
@[go_sem] theorem go166 : isGo Tryz.prog 166 = true := by kernel_rfl
@[go_sem] theorem go167 : isGo Tryz.prog 167 = true := by kernel_rfl
@[go_sem] theorem fr93 : Tryz.f93.results.toList = [.tmp 2] := by kernel_rfl
@[go_sem] theorem fn93 : Tryz.f93.ntmps = 60 := by kernel_rfl
@[go_sem] theorem go168 : isGo Tryz.prog 168 = true := by kernel_rfl
@[go_sem] theorem go169 : isGo Tryz.prog 169 = true := by kernel_rfl
@[go_sem] theorem go170 : isGo Tryz.prog 170 = true := by kernel_rfl
@[go_sem] theorem fr94 : Tryz.f94.results.toList = [.tmp 2, .tmp 3] := by kernel_rfl
@[go_sem] theorem fn94 : Tryz.f94.ntmps = 30 := by kernel_rfl
@[go_sem] theorem go173 : isGo Tryz.prog 173 = true := by kernel_rfl
@[go_sem] theorem fr98 : Tryz.f98.results.toList = [.tmp 4] := by kernel_rfl
@[go_sem] theorem fn98 : Tryz.f98.ntmps = 27 := by kernel_rfl
@[go_sem] theorem go175 : isGo Tryz.prog 175 = true := by kernel_rfl
@[go_sem] theorem fr99 : Tryz.f99.results.toList = [.tmp 2] := by kernel_rfl
@[go_sem] theorem fn99 : Tryz.f99.ntmps = 9 := by kernel_rfl
@[go_sem] theorem ty167_a : tAgg Tryz.prog 167 = some true := by kernel_rfl
@[go_sem] theorem ty167_s : tSize Tryz.prog 167 = some 6 := by kernel_rfl
@[go_sem] theorem ty167_f0 : tField Tryz.prog 167 0 = some (0, 91) := by kernel_rfl
@[go_sem] theorem ty167_f2 : tField Tryz.prog 167 2 = some (3, 28) := by kernel_rfl
@[go_sem] theorem ty167_f3 : tField Tryz.prog 167 3 = some (4, 62) := by kernel_rfl
@[go_sem] theorem ty167_f4 : tField Tryz.prog 167 4 = some (5, 62) := by kernel_rfl
@[go_sem] theorem tz167 : tZero Tryz.prog 167 = some [.string ⟨#[]⟩, .slice none 0 0, .int .i64 0, .slice none 0 0, .slice none 0 0, .slice none 0 0] := by kernel_rfl
@[go_sem] theorem tb149 : tBuild Tryz.prog 149 = some ([.int .i64 0, .int .i64 0, .int .i64 0, .string ⟨#[]⟩, .slice none 0 0], [(0, 1), (1, 4)]) := by kernel_rfl
@[go_sem] theorem go133 : isGo Tryz.prog 133 = true := by kernel_rfl
@[go_sem] theorem go176 : isGo Tryz.prog 176 = true := by kernel_rfl
@[go_sem] theorem go177 : isGo Tryz.prog 177 = true := by kernel_rfl
@[go_sem] theorem fr100 : Tryz.f100.results.toList = [.tmp 4] := by kernel_rfl
@[go_sem] theorem fn100 : Tryz.f100.ntmps = 139 := by kernel_rfl
@[go_sem] theorem fr101 : Tryz.f101.results.toList = [.tmp 2] := by kernel_rfl
@[go_sem] theorem fn101 : Tryz.f101.ntmps = 23 := by kernel_rfl
@[go_sem] theorem tz3 : tZero Tryz.prog 3 = some [.int .i64 0] := by kernel_rfl
@[go_sem] theorem go178 : isGo Tryz.prog 178 = true := by kernel_rfl
@[go_sem] theorem fr102 : Tryz.f102.results.toList = [.tmp 2] := by kernel_rfl
@[go_sem] theorem fn102 : Tryz.f102.ntmps = 9 := by kernel_rfl
@[go_sem] theorem go179 : isGo Tryz.prog 179 = true := by kernel_rfl
@[go_sem] theorem go180 : isGo Tryz.prog 180 = true := by kernel_rfl
@[go_sem] theorem go181 : isGo Tryz.prog 181 = true := by kernel_rfl
@[go_sem] theorem go182 : isGo Tryz.prog 182 = true := by kernel_rfl
@[go_sem] theorem fr103 : Tryz.f103.results.toList = [.tmp 4] := by kernel_rfl
@[go_sem] theorem fn103 : Tryz.f103.ntmps = 134 := by kernel_rfl
@[go_sem] theorem fr104 : Tryz.f104.results.toList = [.tmp 4] := by kernel_rfl
@[go_sem] theorem fn104 : Tryz.f104.ntmps = 27 := by kernel_rfl
@[go_sem] theorem fr109 : Tryz.f109.results.toList = [.tmp 2] := by kernel_rfl
@[go_sem] theorem fn109 : Tryz.f109.ntmps = 24 := by kernel_rfl
@[go_sem] theorem tb120 : tBuild Tryz.prog 120 = some ([.int .i64 0, .int .i64 0, .string ⟨#[]⟩, .slice none 0 0], [(0, 1), (1, 1), (2, 1), (3, 1)]) := by kernel_rfl
@[go_sem] theorem fr113 : Tryz.f113.results.toList = [.cell 2 120] := by kernel_rfl
@[go_sem] theorem fn113 : Tryz.f113.ntmps = 25 := by kernel_rfl
@[go_sem] theorem fr115 : Tryz.f115.results.toList = [.tmp 4] := by kernel_rfl
@[go_sem] theorem fn115 : Tryz.f115.ntmps = 27 := by kernel_rfl
@[go_sem] theorem fr119 : Tryz.f119.results.toList = [.tmp 2] := by kernel_rfl
@[go_sem] theorem fn119 : Tryz.f119.ntmps = 23 := by kernel_rfl
@[go_sem] theorem go137 : isGo Tryz.prog 137 = true := by kernel_rfl
@[go_sem] theorem fr129 : Tryz.f129.results.toList = [.cell 4 91] := by kernel_rfl
@[go_sem] theorem fn129 : Tryz.f129.ntmps = 20 := by kernel_rfl
@[go_sem] theorem fr130 : Tryz.f130.results.toList = [.cell 2 91] := by kernel_rfl
@[go_sem] theorem fn130 : Tryz.f130.ntmps = 9 := by kernel_rfl
@[go_sem] theorem fr131 : Tryz.f131.results.toList = [.cell 4 91] := by kernel_rfl
@[go_sem] theorem fn131 : Tryz.f131.ntmps = 20 := by kernel_rfl
@[go_sem] theorem fr132 : Tryz.f132.results.toList = [.tmp 4] := by kernel_rfl
@[go_sem] theorem fn132 : Tryz.f132.ntmps = 42 := by kernel_rfl
@[go_sem] theorem tz149 : tZero Tryz.prog 149 = some [.int .i64 0, .int .i64 0, .int .i64 0, .string ⟨#[]⟩, .slice none 0 0] := by kernel_rfl
@[go_sem] theorem tb167 : tBuild Tryz.prog 167 = some ([.string ⟨#[]⟩, .slice none 0 0, .int .i64 0, .slice none 0 0, .slice none 0 0, .slice none 0 0], [(0, 2), (2, 1), (3, 1), (4, 1), (5, 1)]) := by kernel_rfl
@[go_sem] theorem go203 : isGo Tryz.prog 203 = true := by kernel_rfl
@[go_sem] theorem go204 : isGo Tryz.prog 204 = true := by kernel_rfl
@[go_sem] theorem fr133 : Tryz.f133.results.toList = [.cell 8 167, .tmp 9] := by kernel_rfl
@[go_sem] theorem fn133 : Tryz.f133.ntmps = 91 := by kernel_rfl
@[go_sem] theorem go206 : isGo Tryz.prog 206 = true := by kernel_rfl
@[go_sem] theorem fr135 : Tryz.f135.results.toList = [.tmp 2] := by kernel_rfl
@[go_sem] theorem fn135 : Tryz.f135.ntmps = 20 := by kernel_rfl
@[go_sem] theorem fr137 : Tryz.f137.results.toList = [.tmp 2] := by kernel_rfl
@[go_sem] theorem fn137 : Tryz.f137.ntmps = 20 := by kernel_rfl
@[go_sem] theorem fr145 : Tryz.f145.results.toList = [.tmp 4] := by kernel_rfl
@[go_sem] theorem fn145 : Tryz.f145.ntmps = 19 := by kernel_rfl
@[go_sem] theorem fr146 : Tryz.f146.results.toList = [.tmp 4] := by kernel_rfl
@[go_sem] theorem fn146 : Tryz.f146.ntmps = 21 := by kernel_rfl
@[go_sem] theorem go213 : isGo Tryz.prog 213 = true := by kernel_rfl
@[go_sem] theorem go214 : isGo Tryz.prog 214 = true := by kernel_rfl
@[go_sem] theorem fr147 : Tryz.f147.results.toList = [.tmp 2] := by kernel_rfl
@[go_sem] theorem fn147 : Tryz.f147.ntmps = 10 := by kernel_rfl
@[go_sem] theorem fr151 : Tryz.f151.results.toList = [.cell 2 114] := by kernel_rfl
@[go_sem] theorem fn151 : Tryz.f151.ntmps = 18 := by kernel_rfl
@[go_sem] theorem go216 : isGo Tryz.prog 216 = true := by kernel_rfl
@[go_sem] theorem fr152 : Tryz.f152.results.toList = [.tmp 2] := by kernel_rfl
@[go_sem] theorem fn152 : Tryz.f152.ntmps = 16 := by kernel_rfl
@[go_sem] theorem ty225_m : tMap Tryz.prog 225 = some (false, .int .i64 0) := by kernel_rfl
@[go_sem] theorem fr153 : Tryz.f153.results.toList = [.tmp 4] := by kernel_rfl
@[go_sem] theorem fn153 : Tryz.f153.ntmps = 142 := by kernel_rfl
@[go_sem] theorem go217 : isGo Tryz.prog 217 = true := by kernel_rfl
@[go_sem] theorem fr154 : Tryz.f154.results.toList = [.tmp 4] := by kernel_rfl
@[go_sem] theorem fn154 : Tryz.f154.ntmps = 18 := by kernel_rfl
@[go_sem] theorem tz4 : tZero Tryz.prog 4 = some [.bool false] := by kernel_rfl
@[go_sem] theorem go218 : isGo Tryz.prog 218 = true := by kernel_rfl
@[go_sem] theorem fr155 : Tryz.f155.results.toList = [.tmp 4] := by kernel_rfl
@[go_sem] theorem fn155 : Tryz.f155.ntmps = 10 := by kernel_rfl
@[go_sem] theorem go220 : isGo Tryz.prog 220 = true := by kernel_rfl
@[go_sem] theorem fr156 : Tryz.f156.results.toList = [.tmp 2] := by kernel_rfl
@[go_sem] theorem fn156 : Tryz.f156.ntmps = 6 := by kernel_rfl
@[go_sem] theorem go221 : isGo Tryz.prog 221 = true := by kernel_rfl
@[go_sem] theorem fr161 : Tryz.f161.results.toList = [.tmp 4] := by kernel_rfl
@[go_sem] theorem fn161 : Tryz.f161.ntmps = 26 := by kernel_rfl
@[go_sem] theorem ty232_i : tIsSlice Tryz.prog 232 = true := by kernel_rfl
@[go_sem] theorem ty232_e : tElem Tryz.prog 232 = some 9 := by kernel_rfl
@[go_sem] theorem ty232_l : tSlice Tryz.prog 232 = some (9, 1, 16) := by kernel_rfl
@[go_sem] theorem fr163 : Tryz.f163.results.toList = [.tmp 4] := by kernel_rfl
@[go_sem] theorem fn163 : Tryz.f163.ntmps = 49 := by kernel_rfl
@[go_sem] theorem tz133 : tZero Tryz.prog 133 = some [.map none] := by kernel_rfl
@[go_sem] theorem go225 : isGo Tryz.prog 225 = true := by kernel_rfl
@[go_sem] theorem go226 : isGo Tryz.prog 226 = true := by kernel_rfl
@[go_sem] theorem fr165 : Tryz.f165.results.toList = [.tmp 2] := by kernel_rfl
@[go_sem] theorem fn165 : Tryz.f165.ntmps = 17 := by kernel_rfl
@[go_sem] theorem go227 : isGo Tryz.prog 227 = true := by kernel_rfl
@[go_sem] theorem go228 : isGo Tryz.prog 228 = true := by kernel_rfl
@[go_sem] theorem fr166 : Tryz.f166.results.toList = [.tmp 6] := by kernel_rfl
@[go_sem] theorem fn166 : Tryz.f166.ntmps = 32 := by kernel_rfl
@[go_sem] theorem go229 : isGo Tryz.prog 229 = true := by kernel_rfl
@[go_sem] theorem fr167 : Tryz.f167.results.toList = [.tmp 2] := by kernel_rfl
@[go_sem] theorem fn167 : Tryz.f167.ntmps = 8 := by kernel_rfl
@[go_sem] theorem go230 : isGo Tryz.prog 230 = true := by kernel_rfl
@[go_sem] theorem fr168 : Tryz.f168.results.toList = [.tmp 2] := by kernel_rfl
@[go_sem] theorem fn168 : Tryz.f168.ntmps = 10 := by kernel_rfl
@[go_sem] theorem fr169 : Tryz.f169.results.toList = [.tmp 2] := by kernel_rfl
@[go_sem] theorem fn169 : Tryz.f169.ntmps = 99 := by kernel_rfl
@[go_sem] theorem fr170 : Tryz.f170.results.toList = [.tmp 2] := by kernel_rfl
@[go_sem] theorem fn170 : Tryz.f170.ntmps = 20 := by kernel_rfl
@[go_sem] theorem fr173 : Tryz.f173.results.toList = [.tmp 2, .tmp 3] := by kernel_rfl
@[go_sem] theorem fn173 : Tryz.f173.ntmps = 105 := by kernel_rfl
@[go_sem] theorem fr175 : Tryz.f175.results.toList = [.tmp 4] := by kernel_rfl
@[go_sem] theorem fn175 : Tryz.f175.ntmps = 28 := by kernel_rfl
@[go_sem] theorem go231 : isGo Tryz.prog 231 = true := by kernel_rfl
@[go_sem] theorem fr176 : Tryz.f176.results.toList = [.tmp 2] := by kernel_rfl
@[go_sem] theorem fn176 : Tryz.f176.ntmps = 11 := by kernel_rfl
@[go_sem] theorem go232 : isGo Tryz.prog 232 = true := by kernel_rfl
@[go_sem] theorem go233 : isGo Tryz.prog 233 = true := by kernel_rfl
@[go_sem] theorem fr177 : Tryz.f177.results.toList = [.tmp 4] := by kernel_rfl
@[go_sem] theorem fn177 : Tryz.f177.ntmps = 21 := by kernel_rfl
@[go_sem] theorem fr178 : Tryz.f178.results.toList = [.tmp 4] := by kernel_rfl
@[go_sem] theorem fn178 : Tryz.f178.ntmps = 33 := by kernel_rfl
@[go_sem] theorem go234 : isGo Tryz.prog 234 = true := by kernel_rfl
@[go_sem] theorem fr179 : Tryz.f179.results.toList = [.tmp 2] := by kernel_rfl
@[go_sem] theorem fn179 : Tryz.f179.ntmps = 9 := by kernel_rfl
@[go_sem] theorem go235 : isGo Tryz.prog 235 = true := by kernel_rfl
@[go_sem] theorem fr180 : Tryz.f180.results.toList = [.tmp 4] := by kernel_rfl
@[go_sem] theorem fn180 : Tryz.f180.ntmps = 20 := by kernel_rfl
@[go_sem] theorem go236 : isGo Tryz.prog 236 = true := by kernel_rfl
@[go_sem] theorem fr181 : Tryz.f181.results.toList = [.cell 4 91] := by kernel_rfl
@[go_sem] theorem fn181 : Tryz.f181.ntmps = 28 := by kernel_rfl
@[go_sem] theorem go212 : isGo Tryz.prog 212 = true := by kernel_rfl
@[go_sem] theorem go237 : isGo Tryz.prog 237 = true := by kernel_rfl
@[go_sem] theorem fr182 : Tryz.f182.results.toList = [.tmp 4] := by kernel_rfl
@[go_sem] theorem fn182 : Tryz.f182.ntmps = 83 := by kernel_rfl
@[go_sem] theorem go183 : isGo Tryz.prog 183 = true := by kernel_rfl
@[go_sem] theorem fr183 : Tryz.f183.results.toList = [.tmp 4] := by kernel_rfl
@[go_sem] theorem fn183 : Tryz.f183.ntmps = 68 := by kernel_rfl
@[go_sem] theorem go184 : isGo Tryz.prog 184 = true := by kernel_rfl
@[go_sem] theorem go238 : isGo Tryz.prog 238 = true := by kernel_rfl
@[go_sem] theorem fr184 : Tryz.f184.results.toList = [.tmp 4] := by kernel_rfl
@[go_sem] theorem fn184 : Tryz.f184.ntmps = 60 := by kernel_rfl
@[go_sem] theorem go250 : isGo Tryz.prog 250 = true := by kernel_rfl
@[go_sem] theorem fr203 : Tryz.f203.results.toList = [.cell 4 31] := by kernel_rfl
@[go_sem] theorem fn203 : Tryz.f203.ntmps = 48 := by kernel_rfl
@[go_sem] theorem go251 : isGo Tryz.prog 251 = true := by kernel_rfl
@[go_sem] theorem go252 : isGo Tryz.prog 252 = true := by kernel_rfl
@[go_sem] theorem fr204 : Tryz.f204.results.toList = [.tmp 2] := by kernel_rfl
@[go_sem] theorem fn204 : Tryz.f204.ntmps = 59 := by kernel_rfl
@[go_sem] theorem fr206 : Tryz.f206.results.toList = [.cell 2 120] := by kernel_rfl
@[go_sem] theorem fn206 : Tryz.f206.ntmps = 29 := by kernel_rfl
@[go_sem] theorem fr212 : Tryz.f212.results.toList = [.tmp 4] := by kernel_rfl
@[go_sem] theorem fn212 : Tryz.f212.ntmps = 9 := by kernel_rfl
@[go_sem] theorem fr213 : Tryz.f213.results.toList = [.tmp 4] := by kernel_rfl
@[go_sem] theorem fn213 : Tryz.f213.ntmps = 28 := by kernel_rfl
@[go_sem] theorem fr214 : Tryz.f214.results.toList = [.tmp 2] := by kernel_rfl
@[go_sem] theorem fn214 : Tryz.f214.ntmps = 76 := by kernel_rfl
@[go_sem] theorem go253 : isGo Tryz.prog 253 = true := by kernel_rfl
@[go_sem] theorem fr216 : Tryz.f216.results.toList = [.tmp 2] := by kernel_rfl
@[go_sem] theorem fn216 : Tryz.f216.ntmps = 57 := by kernel_rfl
@[go_sem] theorem fr217 : Tryz.f217.results.toList = [.tmp 2] := by kernel_rfl
@[go_sem] theorem fn217 : Tryz.f217.ntmps = 10 := by kernel_rfl
@[go_sem] theorem fr218 : Tryz.f218.results.toList = [] := by kernel_rfl
@[go_sem] theorem fn218 : Tryz.f218.ntmps = 20 := by kernel_rfl
@[go_sem] theorem fr219 : Tryz.f219.results.toList = [] := by kernel_rfl
@[go_sem] theorem fn219 : Tryz.f219.ntmps = 26 := by kernel_rfl
@[go_sem] theorem fr220 : Tryz.f220.results.toList = [.tmp 4] := by kernel_rfl
@[go_sem] theorem fn220 : Tryz.f220.ntmps = 107 := by kernel_rfl
@[go_sem] theorem go257 : isGo Tryz.prog 257 = true := by kernel_rfl
@[go_sem] theorem fr221 : Tryz.f221.results.toList = [.cell 4 120] := by kernel_rfl
@[go_sem] theorem fn221 : Tryz.f221.ntmps = 38 := by kernel_rfl
@[go_sem] theorem go258 : isGo Tryz.prog 258 = true := by kernel_rfl
@[go_sem] theorem fr225 : Tryz.f225.results.toList = [.tmp 2] := by kernel_rfl
@[go_sem] theorem fn225 : Tryz.f225.ntmps = 19 := by kernel_rfl
@[go_sem] theorem fr226 : Tryz.f226.results.toList = [.tmp 2] := by kernel_rfl
@[go_sem] theorem fn226 : Tryz.f226.ntmps = 44 := by kernel_rfl
@[go_sem] theorem fr227 : Tryz.f227.results.toList = [.tmp 4] := by kernel_rfl
@[go_sem] theorem fn227 : Tryz.f227.ntmps = 41 := by kernel_rfl
@[go_sem] theorem fr228 : Tryz.f228.results.toList = [.tmp 4] := by kernel_rfl
@[go_sem] theorem fn228 : Tryz.f228.ntmps = 32 := by kernel_rfl
@[go_sem] theorem fr229 : Tryz.f229.results.toList = [.tmp 4] := by kernel_rfl
@[go_sem] theorem fn229 : Tryz.f229.ntmps = 28 := by kernel_rfl
@[go_sem] theorem fr230 : Tryz.f230.results.toList = [.tmp 2] := by kernel_rfl
@[go_sem] theorem fn230 : Tryz.f230.ntmps = 106 := by kernel_rfl
@[go_sem] theorem fr231 : Tryz.f231.results.toList = [.tmp 4] := by kernel_rfl
@[go_sem] theorem fn231 : Tryz.f231.ntmps = 26 := by kernel_rfl
@[go_sem] theorem fr232 : Tryz.f232.results.toList = [.tmp 2] := by kernel_rfl
@[go_sem] theorem fn232 : Tryz.f232.ntmps = 4 := by kernel_rfl
@[go_sem] theorem fr233 : Tryz.f233.results.toList = [.tmp 4] := by kernel_rfl
@[go_sem] theorem fn233 : Tryz.f233.ntmps = 42 := by kernel_rfl
@[go_sem] theorem go255 : isGo Tryz.prog 255 = true := by kernel_rfl
@[go_sem] theorem fr234 : Tryz.f234.results.toList = [.tmp 2] := by kernel_rfl
@[go_sem] theorem fn234 : Tryz.f234.ntmps = 8 := by kernel_rfl
@[go_sem] theorem fr235 : Tryz.f235.results.toList = [.tmp 4] := by kernel_rfl
@[go_sem] theorem fn235 : Tryz.f235.ntmps = 36 := by kernel_rfl
@[go_sem] theorem fr236 : Tryz.f236.results.toList = [.cell 4 120] := by kernel_rfl
@[go_sem] theorem fn236 : Tryz.f236.ntmps = 8 := by kernel_rfl
@[go_sem] theorem fr237 : Tryz.f237.results.toList = [.tmp 4] := by kernel_rfl
@[go_sem] theorem fn237 : Tryz.f237.ntmps = 31 := by kernel_rfl
@[go_sem] theorem fr238 : Tryz.f238.results.toList = [.tmp 4] := by kernel_rfl
@[go_sem] theorem fn238 : Tryz.f238.ntmps = 11 := by kernel_rfl
@[go_sem] theorem go276 : isGo Tryz.prog 276 = true := by kernel_rfl
@[go_sem] theorem fr250 : Tryz.f250.results.toList = [.cell 4 120] := by kernel_rfl
@[go_sem] theorem fn250 : Tryz.f250.ntmps = 36 := by kernel_rfl
@[go_sem] theorem fr251 : Tryz.f251.results.toList = [.tmp 4] := by kernel_rfl
@[go_sem] theorem fn251 : Tryz.f251.ntmps = 9 := by kernel_rfl
@[go_sem] theorem fr252 : Tryz.f252.results.toList = [.tmp 4] := by kernel_rfl
@[go_sem] theorem fn252 : Tryz.f252.ntmps = 27 := by kernel_rfl
@[go_sem] theorem fr253 : Tryz.f253.results.toList = [.cell 4 120] := by kernel_rfl
@[go_sem] theorem fn253 : Tryz.f253.ntmps = 9 := by kernel_rfl
@[go_sem] theorem fr254 : Tryz.f254.results.toList = [] := by kernel_rfl
@[go_sem] theorem fn254 : Tryz.f254.ntmps = 16 := by kernel_rfl
@[go_sem] theorem fr255 : Tryz.f255.results.toList = [] := by kernel_rfl
@[go_sem] theorem fn255 : Tryz.f255.ntmps = 26 := by kernel_rfl
@[go_sem] theorem fr256 : Tryz.f256.results.toList = [] := by kernel_rfl
@[go_sem] theorem fn256 : Tryz.f256.ntmps = 5 := by kernel_rfl
@[go_sem] theorem fr257 : Tryz.f257.results.toList = [.cell 4 120] := by kernel_rfl
@[go_sem] theorem fn257 : Tryz.f257.ntmps = 9 := by kernel_rfl
@[go_sem] theorem fr259 : Tryz.f259.results.toList = [] := by kernel_rfl
@[go_sem] theorem fn259 : Tryz.f259.ntmps = 3 := by kernel_rfl
@[go_sem] theorem fr260 : Tryz.f260.results.toList = [.cell 3 120, .tmp 4] := by kernel_rfl
@[go_sem] theorem fn260 : Tryz.f260.ntmps = 9 := by kernel_rfl
@[go_sem] theorem fr276 : Tryz.f276.results.toList = [.cell 4 120, .tmp 5] := by kernel_rfl
@[go_sem] theorem fn276 : Tryz.f276.ntmps = 22 := by kernel_rfl
end Go.Proofs.YtmnbmpplndgfmaaGreat
