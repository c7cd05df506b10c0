/- What the walks ask of the program: its types, and which functions have a body. -/
import Derived.Test.YtiihkdmmanaooaaPl1
import Derived.Test.YtiihkdmmanaooaaAbs29
import Derived.Test.YtiihkdmmanaooaaProg
import Derived.KernelRfl
namespace Go.Proofs.Ytiihkdmmanaooaa
open Go.Abs

theorem mixed : Try.prog.follows .mixedOrders = true := by kernel_rfl
@[go_sem] theorem ty3_a : tAgg Try.prog 3 = some false := by kernel_rfl
@[go_sem] theorem ty3_s : tSize Try.prog 3 = some 1 := by kernel_rfl
@[go_sem] theorem ty3_n : tInt Try.prog 3 = some Go.IntKind.i64 := by kernel_rfl
@[go_sem] theorem ty3_u : (Try.prog.underlying 3).isSome = true := by kernel_rfl
@[go_sem] theorem ty4_a : tAgg Try.prog 4 = some false := by kernel_rfl
@[go_sem] theorem ty4_s : tSize Try.prog 4 = some 1 := by kernel_rfl
@[go_sem] theorem ty4_u : Try.prog.underlying 4 = some .bool := by kernel_rfl
@[go_sem] theorem ty9_a : tAgg Try.prog 9 = some false := by kernel_rfl
@[go_sem] theorem ty9_s : tSize Try.prog 9 = some 1 := by kernel_rfl
@[go_sem] theorem ty9_t : tIsStr Try.prog 9 = true := by kernel_rfl
@[go_sem] theorem ty9_i : tIsSlice Try.prog 9 = false := by kernel_rfl
@[go_sem] theorem ty9_u : (Try.prog.underlying 9).isSome = true := by kernel_rfl
@[go_sem] theorem ty24_a : tAgg Try.prog 24 = some false := by kernel_rfl
@[go_sem] theorem ty24_s : tSize Try.prog 24 = some 1 := by kernel_rfl
@[go_sem] theorem ty24_i : tIsSlice Try.prog 24 = true := by kernel_rfl
@[go_sem] theorem ty24_e : tElem Try.prog 24 = some 117 := by kernel_rfl
@[go_sem] theorem ty24_l : tSlice Try.prog 24 = some (117, 4, 56) := by kernel_rfl
@[go_sem] theorem ty24_t : tIsStr Try.prog 24 = false := by kernel_rfl
@[go_sem] theorem ty24_u : (Try.prog.underlying 24).isSome = true := by kernel_rfl
@[go_sem] theorem ty30_a : tAgg Try.prog 30 = some false := by kernel_rfl
@[go_sem] theorem ty30_s : tSize Try.prog 30 = some 1 := by kernel_rfl
@[go_sem] theorem ty30_i : tIsSlice Try.prog 30 = true := by kernel_rfl
@[go_sem] theorem ty30_e : tElem Try.prog 30 = some 119 := by kernel_rfl
@[go_sem] theorem ty30_l : tSlice Try.prog 30 = some (119, 4, 56) := by kernel_rfl
@[go_sem] theorem ty30_t : tIsStr Try.prog 30 = false := by kernel_rfl
@[go_sem] theorem ty30_u : (Try.prog.underlying 30).isSome = true := by kernel_rfl
@[go_sem] theorem ty38_a : tAgg Try.prog 38 = some true := by kernel_rfl
@[go_sem] theorem ty38_s : tSize Try.prog 38 = some 2 := by kernel_rfl
@[go_sem] theorem ty38_f0 : tField Try.prog 38 0 = some (0, 9) := by kernel_rfl
@[go_sem] theorem ty38_f1 : tField Try.prog 38 1 = some (1, 24) := by kernel_rfl
@[go_sem] theorem ty42_a : tAgg Try.prog 42 = some true := by kernel_rfl
@[go_sem] theorem ty42_s : tSize Try.prog 42 = some 2 := by kernel_rfl
@[go_sem] theorem ty42_f0 : tField Try.prog 42 0 = some (0, 9) := by kernel_rfl
@[go_sem] theorem ty42_f1 : tField Try.prog 42 1 = some (1, 30) := by kernel_rfl
@[go_sem] theorem ty117_a : tAgg Try.prog 117 = some true := by kernel_rfl
@[go_sem] theorem ty117_s : tSize Try.prog 117 = some 4 := by kernel_rfl
@[go_sem] theorem ty117_f0 : tField Try.prog 117 0 = some (0, 3) := by kernel_rfl
@[go_sem] theorem ty117_f1 : tField Try.prog 117 1 = some (1, 3) := by kernel_rfl
@[go_sem] theorem ty117_f2 : tField Try.prog 117 2 = some (2, 9) := by kernel_rfl
@[go_sem] theorem ty117_f3 : tField Try.prog 117 3 = some (3, 24) := by kernel_rfl
@[go_sem] theorem ty119_a : tAgg Try.prog 119 = some true := by kernel_rfl
@[go_sem] theorem ty119_s : tSize Try.prog 119 = some 4 := by kernel_rfl
@[go_sem] theorem ty119_f0 : tField Try.prog 119 0 = some (0, 3) := by kernel_rfl
@[go_sem] theorem ty119_f1 : tField Try.prog 119 1 = some (1, 3) := by kernel_rfl
@[go_sem] theorem ty119_f2 : tField Try.prog 119 2 = some (2, 9) := by kernel_rfl
@[go_sem] theorem ty119_f3 : tField Try.prog 119 3 = some (3, 30) := by kernel_rfl
@[go_sem] theorem tz42 : tZero Try.prog 42 = some [.string ⟨#[]⟩, .slice none 0 0] := by kernel_rfl
@[go_sem] theorem go18 : isGo Try.prog 18 = true := by kernel_rfl
@[go_sem] theorem go19 : isGo Try.prog 19 = true := by kernel_rfl
@[go_sem] theorem go20 : isGo Try.prog 20 = true := by kernel_rfl
@[go_sem] theorem go21 : isGo Try.prog 21 = true := by kernel_rfl
@[go_sem] theorem go22 : isGo Try.prog 22 = true := by kernel_rfl
@[go_sem] theorem fr6 : Try.f6.results.toList = [.tmp 4] := by kernel_rfl
@[go_sem] theorem fn6 : Try.f6.ntmps = 45 := by kernel_rfl
@[go_sem] theorem ty46_a : tAgg Try.prog 46 = some false := by kernel_rfl
@[go_sem] theorem ty46_s : tSize Try.prog 46 = some 1 := by kernel_rfl
@[go_sem] theorem ty46_i : tIsSlice Try.prog 46 = true := by kernel_rfl
@[go_sem] theorem ty46_e : tElem Try.prog 46 = some 48 := by kernel_rfl
@[go_sem] theorem ty46_l : tSlice Try.prog 46 = some (48, 4, 72) := by kernel_rfl
@[go_sem] theorem ty46_t : tIsStr Try.prog 46 = false := by kernel_rfl
@[go_sem] theorem ty46_u : (Try.prog.underlying 46).isSome = true := by kernel_rfl
@[go_sem] theorem ty48_a : tAgg Try.prog 48 = some true := by kernel_rfl
@[go_sem] theorem ty48_s : tSize Try.prog 48 = some 4 := by kernel_rfl
@[go_sem] theorem ty48_f0 : tField Try.prog 48 0 = some (0, 3) := by kernel_rfl
@[go_sem] theorem ty48_f1 : tField Try.prog 48 1 = some (1, 9) := by kernel_rfl
@[go_sem] theorem ty48_f2 : tField Try.prog 48 2 = some (2, 24) := by kernel_rfl
@[go_sem] theorem ty48_f3 : tField Try.prog 48 3 = some (3, 46) := by kernel_rfl
@[go_sem] theorem ty50_a : tAgg Try.prog 50 = some false := by kernel_rfl
@[go_sem] theorem ty50_s : tSize Try.prog 50 = some 1 := by kernel_rfl
@[go_sem] theorem ty50_i : tIsSlice Try.prog 50 = true := by kernel_rfl
@[go_sem] theorem ty50_e : tElem Try.prog 50 = some 9 := by kernel_rfl
@[go_sem] theorem ty50_l : tSlice Try.prog 50 = some (9, 1, 16) := by kernel_rfl
@[go_sem] theorem ty50_t : tIsStr Try.prog 50 = false := by kernel_rfl
@[go_sem] theorem ty50_u : (Try.prog.underlying 50).isSome = true := by kernel_rfl
@[go_sem] theorem ty52_a : tAgg Try.prog 52 = some false := by kernel_rfl
@[go_sem] theorem ty52_s : tSize Try.prog 52 = some 1 := by kernel_rfl
@[go_sem] theorem ty52_i : tIsSlice Try.prog 52 = true := by kernel_rfl
@[go_sem] theorem ty52_e : tElem Try.prog 52 = some 54 := by kernel_rfl
@[go_sem] theorem ty52_l : tSlice Try.prog 52 = some (54, 4, 72) := by kernel_rfl
@[go_sem] theorem ty52_t : tIsStr Try.prog 52 = false := by kernel_rfl
@[go_sem] theorem ty52_u : (Try.prog.underlying 52).isSome = true := by kernel_rfl
@[go_sem] theorem ty54_a : tAgg Try.prog 54 = some true := by kernel_rfl
@[go_sem] theorem ty54_s : tSize Try.prog 54 = some 4 := by kernel_rfl
@[go_sem] theorem ty54_f0 : tField Try.prog 54 0 = some (0, 3) := by kernel_rfl
@[go_sem] theorem ty54_f1 : tField Try.prog 54 1 = some (1, 9) := by kernel_rfl
@[go_sem] theorem ty54_f2 : tField Try.prog 54 2 = some (2, 30) := by kernel_rfl
@[go_sem] theorem ty54_f3 : tField Try.prog 54 3 = some (3, 52) := by kernel_rfl
@[go_sem] theorem tz54 : tZero Try.prog 54 = some [.int .i64 0, .string ⟨#[]⟩, .slice none 0 0, .slice none 0 0] := by kernel_rfl
@[go_sem] theorem go23 : isGo Try.prog 23 = true := by kernel_rfl
@[go_sem] theorem go24 : isGo Try.prog 24 = true := by kernel_rfl
@[go_sem] theorem go25 : isGo Try.prog 25 = true := by kernel_rfl
@[go_sem] theorem go26 : isGo Try.prog 26 = true := by kernel_rfl
@[go_sem] theorem go27 : isGo Try.prog 27 = true := by kernel_rfl
@[go_sem] theorem go28 : isGo Try.prog 28 = true := by kernel_rfl
@[go_sem] theorem go29 : isGo Try.prog 29 = true := by kernel_rfl
@[go_sem] theorem go30 : isGo Try.prog 30 = true := by kernel_rfl
@[go_sem] theorem go31 : isGo Try.prog 31 = true := by kernel_rfl
@[go_sem] theorem fr7 : Try.f7.results.toList = [.tmp 4] := by kernel_rfl
@[go_sem] theorem fn7 : Try.f7.ntmps = 74 := by kernel_rfl
@[go_sem] theorem ty61_a : tAgg Try.prog 61 = some false := by kernel_rfl
@[go_sem] theorem ty61_s : tSize Try.prog 61 = some 1 := by kernel_rfl
@[go_sem] theorem ty61_i : tIsSlice Try.prog 61 = true := by kernel_rfl
@[go_sem] theorem ty61_e : tElem Try.prog 61 = some 150 := by kernel_rfl
@[go_sem] theorem ty61_l : tSlice Try.prog 61 = some (150, 5, 64) := by kernel_rfl
@[go_sem] theorem ty61_t : tIsStr Try.prog 61 = false := by kernel_rfl
@[go_sem] theorem ty61_u : (Try.prog.underlying 61).isSome = true := by kernel_rfl
@[go_sem] theorem ty62_a : tAgg Try.prog 62 = some false := by kernel_rfl
@[go_sem] theorem ty62_s : tSize Try.prog 62 = some 1 := by kernel_rfl
@[go_sem] theorem ty62_i : tIsSlice Try.prog 62 = true := by kernel_rfl
@[go_sem] theorem ty62_e : tElem Try.prog 62 = some 61 := by kernel_rfl
@[go_sem] theorem ty62_l : tSlice Try.prog 62 = some (61, 1, 24) := by kernel_rfl
@[go_sem] theorem ty62_t : tIsStr Try.prog 62 = false := by kernel_rfl
@[go_sem] theorem ty62_u : (Try.prog.underlying 62).isSome = true := by kernel_rfl
@[go_sem] theorem ty63_a : tAgg Try.prog 63 = some false := by kernel_rfl
@[go_sem] theorem ty63_s : tSize Try.prog 63 = some 1 := by kernel_rfl
@[go_sem] theorem ty63_i : tIsSlice Try.prog 63 = true := by kernel_rfl
@[go_sem] theorem ty63_e : tElem Try.prog 63 = some 160 := by kernel_rfl
@[go_sem] theorem ty63_l : tSlice Try.prog 63 = some (160, 2, 16) := by kernel_rfl
@[go_sem] theorem ty63_t : tIsStr Try.prog 63 = false := by kernel_rfl
@[go_sem] theorem ty63_u : (Try.prog.underlying 63).isSome = true := by kernel_rfl
@[go_sem] theorem ty64_a : tAgg Try.prog 64 = some false := by kernel_rfl
@[go_sem] theorem ty64_s : tSize Try.prog 64 = some 1 := by kernel_rfl
@[go_sem] theorem ty64_i : tIsSlice Try.prog 64 = true := by kernel_rfl
@[go_sem] theorem ty64_e : tElem Try.prog 64 = some 153 := by kernel_rfl
@[go_sem] theorem ty64_l : tSlice Try.prog 64 = some (153, 2, 24) := by kernel_rfl
@[go_sem] theorem ty64_t : tIsStr Try.prog 64 = false := by kernel_rfl
@[go_sem] theorem ty64_u : (Try.prog.underlying 64).isSome = true := by kernel_rfl
@[go_sem] theorem ty66_a : tAgg Try.prog 66 = some true := by kernel_rfl
@[go_sem] theorem ty66_s : tSize Try.prog 66 = some 5 := by kernel_rfl
@[go_sem] theorem ty66_f0 : tField Try.prog 66 0 = some (0, 3) := by kernel_rfl
@[go_sem] theorem ty66_f1 : tField Try.prog 66 1 = some (1, 61) := by kernel_rfl
@[go_sem] theorem ty66_f2 : tField Try.prog 66 2 = some (2, 62) := by kernel_rfl
@[go_sem] theorem ty66_f3 : tField Try.prog 66 3 = some (3, 63) := by kernel_rfl
@[go_sem] theorem ty66_f4 : tField Try.prog 66 4 = some (4, 64) := by kernel_rfl
@[go_sem] theorem ty67_a : tAgg Try.prog 67 = some false := by kernel_rfl
@[go_sem] theorem ty67_s : tSize Try.prog 67 = some 1 := by kernel_rfl
@[go_sem] theorem ty67_i : tIsSlice Try.prog 67 = true := by kernel_rfl
@[go_sem] theorem ty67_e : tElem Try.prog 67 = some 3 := by kernel_rfl
@[go_sem] theorem ty67_l : tSlice Try.prog 67 = some (3, 1, 8) := by kernel_rfl
@[go_sem] theorem ty67_t : tIsStr Try.prog 67 = false := by kernel_rfl
@[go_sem] theorem ty67_u : (Try.prog.underlying 67).isSome = true := by kernel_rfl
@[go_sem] theorem ty69_a : tAgg Try.prog 69 = some true := by kernel_rfl
@[go_sem] theorem ty69_s : tSize Try.prog 69 = some 6 := by kernel_rfl
@[go_sem] theorem ty69_f0 : tField Try.prog 69 0 = some (0, 66) := by kernel_rfl
@[go_sem] theorem ty69_f1 : tField Try.prog 69 1 = some (5, 67) := by kernel_rfl
@[go_sem] theorem ty70_a : tAgg Try.prog 70 = some false := by kernel_rfl
@[go_sem] theorem ty70_s : tSize Try.prog 70 = some 1 := by kernel_rfl
@[go_sem] theorem ty70_i : tIsSlice Try.prog 70 = true := by kernel_rfl
@[go_sem] theorem ty70_e : tElem Try.prog 70 = some 72 := by kernel_rfl
@[go_sem] theorem ty70_l : tSlice Try.prog 70 = some (72, 12, 232) := by kernel_rfl
@[go_sem] theorem ty70_t : tIsStr Try.prog 70 = false := by kernel_rfl
@[go_sem] theorem ty70_u : (Try.prog.underlying 70).isSome = true := by kernel_rfl
@[go_sem] theorem ty72_a : tAgg Try.prog 72 = some true := by kernel_rfl
@[go_sem] theorem ty72_s : tSize Try.prog 72 = some 12 := by kernel_rfl
@[go_sem] theorem ty72_f0 : tField Try.prog 72 0 = some (0, 3) := by kernel_rfl
@[go_sem] theorem ty72_f1 : tField Try.prog 72 1 = some (1, 69) := by kernel_rfl
@[go_sem] theorem ty72_f2 : tField Try.prog 72 2 = some (7, 48) := by kernel_rfl
@[go_sem] theorem ty72_f3 : tField Try.prog 72 3 = some (11, 70) := by kernel_rfl
@[go_sem] theorem ty75_a : tAgg Try.prog 75 = some false := by kernel_rfl
@[go_sem] theorem ty75_s : tSize Try.prog 75 = some 1 := by kernel_rfl
@[go_sem] theorem ty75_i : tIsSlice Try.prog 75 = true := by kernel_rfl
@[go_sem] theorem ty75_e : tElem Try.prog 75 = some 155 := by kernel_rfl
@[go_sem] theorem ty75_l : tSlice Try.prog 75 = some (155, 5, 64) := by kernel_rfl
@[go_sem] theorem ty75_t : tIsStr Try.prog 75 = false := by kernel_rfl
@[go_sem] theorem ty75_u : (Try.prog.underlying 75).isSome = true := by kernel_rfl
@[go_sem] theorem ty76_a : tAgg Try.prog 76 = some false := by kernel_rfl
@[go_sem] theorem ty76_s : tSize Try.prog 76 = some 1 := by kernel_rfl
@[go_sem] theorem ty76_i : tIsSlice Try.prog 76 = true := by kernel_rfl
@[go_sem] theorem ty76_e : tElem Try.prog 76 = some 75 := by kernel_rfl
@[go_sem] theorem ty76_l : tSlice Try.prog 76 = some (75, 1, 24) := by kernel_rfl
@[go_sem] theorem ty76_t : tIsStr Try.prog 76 = false := by kernel_rfl
@[go_sem] theorem ty76_u : (Try.prog.underlying 76).isSome = true := by kernel_rfl
@[go_sem] theorem ty77_a : tAgg Try.prog 77 = some false := by kernel_rfl
@[go_sem] theorem ty77_s : tSize Try.prog 77 = some 1 := by kernel_rfl
@[go_sem] theorem ty77_i : tIsSlice Try.prog 77 = true := by kernel_rfl
@[go_sem] theorem ty77_e : tElem Try.prog 77 = some 158 := by kernel_rfl
@[go_sem] theorem ty77_l : tSlice Try.prog 77 = some (158, 2, 16) := by kernel_rfl
@[go_sem] theorem ty77_t : tIsStr Try.prog 77 = false := by kernel_rfl
@[go_sem] theorem ty77_u : (Try.prog.underlying 77).isSome = true := by kernel_rfl
@[go_sem] theorem ty78_a : tAgg Try.prog 78 = some false := by kernel_rfl
@[go_sem] theorem ty78_s : tSize Try.prog 78 = some 1 := by kernel_rfl
@[go_sem] theorem ty78_i : tIsSlice Try.prog 78 = true := by kernel_rfl
@[go_sem] theorem ty78_e : tElem Try.prog 78 = some 161 := by kernel_rfl
@[go_sem] theorem ty78_l : tSlice Try.prog 78 = some (161, 2, 24) := by kernel_rfl
@[go_sem] theorem ty78_t : tIsStr Try.prog 78 = false := by kernel_rfl
@[go_sem] theorem ty78_u : (Try.prog.underlying 78).isSome = true := by kernel_rfl
@[go_sem] theorem ty80_a : tAgg Try.prog 80 = some true := by kernel_rfl
@[go_sem] theorem ty80_s : tSize Try.prog 80 = some 5 := by kernel_rfl
@[go_sem] theorem ty80_f0 : tField Try.prog 80 0 = some (0, 3) := by kernel_rfl
@[go_sem] theorem ty80_f1 : tField Try.prog 80 1 = some (1, 75) := by kernel_rfl
@[go_sem] theorem ty80_f2 : tField Try.prog 80 2 = some (2, 76) := by kernel_rfl
@[go_sem] theorem ty80_f3 : tField Try.prog 80 3 = some (3, 77) := by kernel_rfl
@[go_sem] theorem ty80_f4 : tField Try.prog 80 4 = some (4, 78) := by kernel_rfl
@[go_sem] theorem ty82_a : tAgg Try.prog 82 = some true := by kernel_rfl
@[go_sem] theorem ty82_s : tSize Try.prog 82 = some 6 := by kernel_rfl
@[go_sem] theorem ty82_f0 : tField Try.prog 82 0 = some (0, 80) := by kernel_rfl
@[go_sem] theorem ty82_f1 : tField Try.prog 82 1 = some (5, 67) := by kernel_rfl
@[go_sem] theorem ty83_a : tAgg Try.prog 83 = some false := by kernel_rfl
@[go_sem] theorem ty83_s : tSize Try.prog 83 = some 1 := by kernel_rfl
@[go_sem] theorem ty83_i : tIsSlice Try.prog 83 = true := by kernel_rfl
@[go_sem] theorem ty83_e : tElem Try.prog 83 = some 85 := by kernel_rfl
@[go_sem] theorem ty83_l : tSlice Try.prog 83 = some (85, 12, 232) := by kernel_rfl
@[go_sem] theorem ty83_t : tIsStr Try.prog 83 = false := by kernel_rfl
@[go_sem] theorem ty83_u : (Try.prog.underlying 83).isSome = true := by kernel_rfl
@[go_sem] theorem ty85_a : tAgg Try.prog 85 = some true := by kernel_rfl
@[go_sem] theorem ty85_s : tSize Try.prog 85 = some 12 := by kernel_rfl
@[go_sem] theorem ty85_f0 : tField Try.prog 85 0 = some (0, 3) := by kernel_rfl
@[go_sem] theorem ty85_f1 : tField Try.prog 85 1 = some (1, 82) := by kernel_rfl
@[go_sem] theorem ty85_f2 : tField Try.prog 85 2 = some (7, 54) := by kernel_rfl
@[go_sem] theorem ty85_f3 : tField Try.prog 85 3 = some (11, 83) := by kernel_rfl
@[go_sem] theorem ty150_a : tAgg Try.prog 150 = some true := by kernel_rfl
@[go_sem] theorem ty150_s : tSize Try.prog 150 = some 5 := by kernel_rfl
@[go_sem] theorem ty150_f0 : tField Try.prog 150 0 = some (0, 3) := by kernel_rfl
@[go_sem] theorem ty150_f1 : tField Try.prog 150 1 = some (1, 117) := by kernel_rfl
@[go_sem] theorem ty153_a : tAgg Try.prog 153 = some true := by kernel_rfl
@[go_sem] theorem ty153_s : tSize Try.prog 153 = some 2 := by kernel_rfl
@[go_sem] theorem ty153_f0 : tField Try.prog 153 0 = some (0, 3) := by kernel_rfl
@[go_sem] theorem ty153_f1 : tField Try.prog 153 1 = some (1, 9) := by kernel_rfl
@[go_sem] theorem ty155_a : tAgg Try.prog 155 = some true := by kernel_rfl
@[go_sem] theorem ty155_s : tSize Try.prog 155 = some 5 := by kernel_rfl
@[go_sem] theorem ty155_f0 : tField Try.prog 155 0 = some (0, 3) := by kernel_rfl
@[go_sem] theorem ty155_f1 : tField Try.prog 155 1 = some (1, 119) := by kernel_rfl
@[go_sem] theorem ty158_a : tAgg Try.prog 158 = some true := by kernel_rfl
@[go_sem] theorem ty158_s : tSize Try.prog 158 = some 2 := by kernel_rfl
@[go_sem] theorem ty158_f0 : tField Try.prog 158 0 = some (0, 3) := by kernel_rfl
@[go_sem] theorem ty158_f1 : tField Try.prog 158 1 = some (1, 3) := by kernel_rfl
@[go_sem] theorem ty160_a : tAgg Try.prog 160 = some true := by kernel_rfl
@[go_sem] theorem ty160_s : tSize Try.prog 160 = some 2 := by kernel_rfl
@[go_sem] theorem ty160_f0 : tField Try.prog 160 0 = some (0, 3) := by kernel_rfl
@[go_sem] theorem ty160_f1 : tField Try.prog 160 1 = some (1, 3) := by kernel_rfl
@[go_sem] theorem ty161_a : tAgg Try.prog 161 = some true := by kernel_rfl
@[go_sem] theorem ty161_s : tSize Try.prog 161 = some 2 := by kernel_rfl
@[go_sem] theorem ty161_f0 : tField Try.prog 161 0 = some (0, 3) := by kernel_rfl
@[go_sem] theorem ty161_f1 : tField Try.prog 161 1 = some (1, 9) := by kernel_rfl
@[go_sem] theorem tz85 : tZero Try.prog 85 = some [.int .i64 0, .int .i64 0, .slice none 0 0, .slice none 0 0, .slice none 0 0, .slice none 0 0, .slice none 0 0, .int .i64 0, .string ⟨#[]⟩, .slice none 0 0, .slice none 0 0, .slice none 0 0] := by kernel_rfl
@[go_sem] theorem go32 : isGo Try.prog 32 = true := by kernel_rfl
@[go_sem] theorem go33 : isGo Try.prog 33 = true := by kernel_rfl
@[go_sem] theorem go34 : isGo Try.prog 34 = true := by kernel_rfl
@[go_sem] theorem go35 : isGo Try.prog 35 = true := by kernel_rfl
@[go_sem] theorem go36 : isGo Try.prog 36 = true := by kernel_rfl
@[go_sem] theorem fr8 : Try.f8.results.toList = [.tmp 2] := by kernel_rfl
@[go_sem] theorem fn8 : Try.f8.ntmps = 27 := by kernel_rfl
@[go_sem] theorem go37 : isGo Try.prog 37 = true := by kernel_rfl
@[go_sem] theorem fr18 : Try.f18.results.toList = [.tmp 4] := by kernel_rfl
@[go_sem] theorem fn18 : Try.f18.ntmps = 19 := by kernel_rfl
@[go_sem] theorem go46 : isGo Try.prog 46 = true := by kernel_rfl
@[go_sem] theorem go47 : isGo Try.prog 47 = true := by kernel_rfl
@[go_sem] theorem fr19 : Try.f19.results.toList = [.tmp 4] := by kernel_rfl
@[go_sem] theorem fn19 : Try.f19.ntmps = 18 := by kernel_rfl
@[go_sem] theorem go40 : isGo Try.prog 40 = true := by kernel_rfl
@[go_sem] theorem fr20 : Try.f20.results.toList = [.cell 2 42] := by kernel_rfl
@[go_sem] theorem fn20 : Try.f20.ntmps = 12 := by kernel_rfl
@[go_sem] theorem go48 : isGo Try.prog 48 = true := by kernel_rfl
@[go_sem] theorem go49 : isGo Try.prog 49 = true := by kernel_rfl
@[go_sem] theorem fr21 : Try.f21.results.toList = [.tmp 4] := by kernel_rfl
@[go_sem] theorem fn21 : Try.f21.ntmps = 18 := by kernel_rfl
@[go_sem] theorem go43 : isGo Try.prog 43 = true := by kernel_rfl
@[go_sem] theorem fr22 : Try.f22.results.toList = [.tmp 4] := by kernel_rfl
@[go_sem] theorem fn22 : Try.f22.ntmps = 16 := by kernel_rfl
@[go_sem] theorem go50 : isGo Try.prog 50 = true := by kernel_rfl
@[go_sem] theorem fr23 : Try.f23.results.toList = [.tmp 4] := by kernel_rfl
@[go_sem] theorem fn23 : Try.f23.ntmps = 25 := by kernel_rfl
@[go_sem] theorem go51 : isGo Try.prog 51 = true := by kernel_rfl
@[go_sem] theorem go52 : isGo Try.prog 52 = true := by kernel_rfl
@[go_sem] theorem fr24 : Try.f24.results.toList = [.tmp 4] := by kernel_rfl
@[go_sem] theorem fn24 : Try.f24.ntmps = 11 := by kernel_rfl
@[go_sem] theorem go53 : isGo Try.prog 53 = true := by kernel_rfl
@[go_sem] theorem fr25 : Try.f25.results.toList = [.cell 2 54] := by kernel_rfl
@[go_sem] theorem fn25 : Try.f25.ntmps = 19 := by kernel_rfl
@[go_sem] theorem go54 : isGo Try.prog 54 = true := by kernel_rfl
@[go_sem] theorem go55 : isGo Try.prog 55 = true := by kernel_rfl
@[go_sem] theorem fr26 : Try.f26.results.toList = [.tmp 4] := by kernel_rfl
@[go_sem] theorem fn26 : Try.f26.ntmps = 11 := by kernel_rfl
@[go_sem] theorem fr27 : Try.f27.results.toList = [.tmp 4] := by kernel_rfl
@[go_sem] theorem fn27 : Try.f27.ntmps = 26 := by kernel_rfl
@[go_sem] theorem go56 : isGo Try.prog 56 = true := by kernel_rfl
@[go_sem] theorem fr28 : Try.f28.results.toList = [.tmp 4] := by kernel_rfl
@[go_sem] theorem fn28 : Try.f28.ntmps = 27 := by kernel_rfl
@[go_sem] theorem go57 : isGo Try.prog 57 = true := by kernel_rfl
@[go_sem] theorem go58 : isGo Try.prog 58 = true := by kernel_rfl
@[go_sem] theorem fr29 : Try.f29.results.toList = [.tmp 4] := by kernel_rfl
@[go_sem] theorem fn29 : Try.f29.ntmps = 14 := by kernel_rfl
@[go_sem] theorem go59 : isGo Try.prog 59 = true := by kernel_rfl
@[go_sem] theorem fr30 : Try.f30.results.toList = [.tmp 4] := by kernel_rfl
@[go_sem] theorem fn30 : Try.f30.ntmps = 20 := by kernel_rfl
@[go_sem] theorem fr31 : Try.f31.results.toList = [.tmp 4] := by kernel_rfl
@[go_sem] theorem fn31 : Try.f31.ntmps = 22 := by kernel_rfl
@[go_sem] theorem go60 : isGo Try.prog 60 = true := by kernel_rfl
@[go_sem] theorem go61 : isGo Try.prog 61 = true := by kernel_rfl
@[go_sem] theorem fr32 : Try.f32.results.toList = [.tmp 4] := by kernel_rfl
@[go_sem] theorem fn32 : Try.f32.ntmps = 24 := by kernel_rfl
@[go_sem] theorem fr33 : Try.f33.results.toList = [.tmp 2] := by kernel_rfl
@[go_sem] theorem fn33 : Try.f33.ntmps = 19 := by kernel_rfl
@[go_sem] theorem go62 : isGo Try.prog 62 = true := by kernel_rfl
@[go_sem] theorem go63 : isGo Try.prog 63 = true := by kernel_rfl
@[go_sem] theorem fr34 : Try.f34.results.toList = [.cell 2 85] := by kernel_rfl
@[go_sem] theorem fn34 : Try.f34.ntmps = 20 := by kernel_rfl
@[go_sem] theorem fr35 : Try.f35.results.toList = [.tmp 2] := by kernel_rfl
@[go_sem] theorem fn35 : Try.f35.ntmps = 19 := by kernel_rfl
@[go_sem] theorem go64 : isGo Try.prog 64 = true := by kernel_rfl
@[go_sem] theorem go65 : isGo Try.prog 65 = true := by kernel_rfl
@[go_sem] theorem fr36 : Try.f36.results.toList = [.tmp 4] := by kernel_rfl
@[go_sem] theorem fn36 : Try.f36.ntmps = 28 := by kernel_rfl
@[go_sem] theorem go66 : isGo Try.prog 66 = true := by kernel_rfl
@[go_sem] theorem fr37 : Try.f37.results.toList = [.tmp 4] := by kernel_rfl
@[go_sem] theorem fn37 : Try.f37.ntmps = 27 := by kernel_rfl
@[go_sem] theorem tz119 : tZero Try.prog 119 = some [.int .i64 0, .int .i64 0, .string ⟨#[]⟩, .slice none 0 0] := by kernel_rfl
@[go_sem] theorem go67 : isGo Try.prog 67 = true := by kernel_rfl
@[go_sem] theorem fr40 : Try.f40.results.toList = [.tmp 2] := by kernel_rfl
@[go_sem] theorem fn40 : Try.f40.ntmps = 23 := by kernel_rfl
@[go_sem] theorem go68 : isGo Try.prog 68 = true := by kernel_rfl
@[go_sem] theorem fr43 : Try.f43.results.toList = [.tmp 4] := by kernel_rfl
@[go_sem] theorem fn43 : Try.f43.ntmps = 27 := by kernel_rfl
@[go_sem] theorem go69 : isGo Try.prog 69 = true := by kernel_rfl
@[go_sem] theorem fr46 : Try.f46.results.toList = [.tmp 2] := by kernel_rfl
@[go_sem] theorem fn46 : Try.f46.ntmps = 15 := by kernel_rfl
@[go_sem] theorem go70 : isGo Try.prog 70 = true := by kernel_rfl
@[go_sem] theorem go71 : isGo Try.prog 71 = true := by kernel_rfl
@[go_sem] theorem fr47 : Try.f47.results.toList = [.tmp 4] := by kernel_rfl
@[go_sem] theorem fn47 : Try.f47.ntmps = 21 := by kernel_rfl
@[go_sem] theorem go72 : isGo Try.prog 72 = true := by kernel_rfl
@[go_sem] theorem fr48 : Try.f48.results.toList = [.tmp 2] := by kernel_rfl
@[go_sem] theorem fn48 : Try.f48.ntmps = 15 := by kernel_rfl
@[go_sem] theorem go73 : isGo Try.prog 73 = true := by kernel_rfl
@[go_sem] theorem fr49 : Try.f49.results.toList = [.tmp 4] := by kernel_rfl
@[go_sem] theorem fn49 : Try.f49.ntmps = 20 := by kernel_rfl
@[go_sem] theorem fr50 : Try.f50.results.toList = [.tmp 4] := by kernel_rfl
@[go_sem] theorem fn50 : Try.f50.ntmps = 27 := by kernel_rfl
@[go_sem] theorem go74 : isGo Try.prog 74 = true := by kernel_rfl
@[go_sem] theorem go75 : isGo Try.prog 75 = true := by kernel_rfl
@[go_sem] theorem fr51 : Try.f51.results.toList = [.tmp 2] := by kernel_rfl
@[go_sem] theorem fn51 : Try.f51.ntmps = 10 := by kernel_rfl
@[go_sem] theorem fr52 : Try.f52.results.toList = [.tmp 6] := by kernel_rfl
@[go_sem] theorem fn52 : Try.f52.ntmps = 47 := by kernel_rfl
@[go_sem] theorem fr53 : Try.f53.results.toList = [.tmp 2] := by kernel_rfl
@[go_sem] theorem fn53 : Try.f53.ntmps = 23 := by kernel_rfl
@[go_sem] theorem go76 : isGo Try.prog 76 = true := by kernel_rfl
@[go_sem] theorem fr54 : Try.f54.results.toList = [.tmp 2] := by kernel_rfl
@[go_sem] theorem fn54 : Try.f54.ntmps = 6 := by kernel_rfl
@[go_sem] theorem fr55 : Try.f55.results.toList = [.tmp 6] := by kernel_rfl
@[go_sem] theorem fn55 : Try.f55.ntmps = 44 := by kernel_rfl
@[go_sem] theorem fr56 : Try.f56.results.toList = [.tmp 4] := by kernel_rfl
@[go_sem] theorem fn56 : Try.f56.ntmps = 27 := by kernel_rfl
@[go_sem] theorem fr57 : Try.f57.results.toList = [.tmp 4] := by kernel_rfl
@[go_sem] theorem fn57 : Try.f57.ntmps = 42 := by kernel_rfl
@[go_sem] theorem fr58 : Try.f58.results.toList = [.tmp 4] := by kernel_rfl
@[go_sem] theorem fn58 : Try.f58.ntmps = 42 := by kernel_rfl
@[go_sem] theorem ty5_a : tAgg Try.prog 5 = some false := by kernel_rfl
@[go_sem] theorem ty5_s : tSize Try.prog 5 = some 1 := by kernel_rfl
@[go_sem] theorem ty5_n : tInt Try.prog 5 = some Go.IntKind.u8 := by kernel_rfl
@[go_sem] theorem ty5_u : (Try.prog.underlying 5).isSome = true := by kernel_rfl
@[go_sem] theorem ty89_a : tAgg Try.prog 89 = some false := by kernel_rfl
@[go_sem] theorem ty89_s : tSize Try.prog 89 = some 1 := by kernel_rfl
@[go_sem] theorem ty89_i : tIsSlice Try.prog 89 = true := by kernel_rfl
@[go_sem] theorem ty89_e : tElem Try.prog 89 = some 5 := by kernel_rfl
@[go_sem] theorem ty89_l : tSlice Try.prog 89 = some (5, 1, 1) := by kernel_rfl
@[go_sem] theorem ty89_b : tIsBytes Try.prog 89 = true := by kernel_rfl
@[go_sem] theorem ty89_t : tIsStr Try.prog 89 = false := by kernel_rfl
@[go_sem] theorem ty89_u : (Try.prog.underlying 89).isSome = true := by kernel_rfl
@[go_sem] theorem fr59 : Try.f59.results.toList = [.tmp 2] := by kernel_rfl
@[go_sem] theorem fn59 : Try.f59.ntmps = 20 := by kernel_rfl
@[go_sem] theorem go77 : isGo Try.prog 77 = true := by kernel_rfl
@[go_sem] theorem go78 : isGo Try.prog 78 = true := by kernel_rfl
@[go_sem] theorem fr60 : Try.f60.results.toList = [.tmp 4] := by kernel_rfl
@[go_sem] theorem fn60 : Try.f60.ntmps = 18 := by kernel_rfl
@[go_sem] theorem fr61 : Try.f61.results.toList = [.tmp 4] := by kernel_rfl
@[go_sem] theorem fn61 : Try.f61.ntmps = 27 := by kernel_rfl
@[go_sem] theorem tz82 : tZero Try.prog 82 = some [.int .i64 0, .slice none 0 0, .slice none 0 0, .slice none 0 0, .slice none 0 0, .slice none 0 0] := by kernel_rfl
@[go_sem] theorem go79 : isGo Try.prog 79 = true := by kernel_rfl
@[go_sem] theorem go80 : isGo Try.prog 80 = true := by kernel_rfl
@[go_sem] theorem fr62 : Try.f62.results.toList = [.cell 2 82] := by kernel_rfl
@[go_sem] theorem fn62 : Try.f62.ntmps = 13 := by kernel_rfl
@[go_sem] theorem fr63 : Try.f63.results.toList = [.tmp 2] := by kernel_rfl
@[go_sem] theorem fn63 : Try.f63.ntmps = 23 := by kernel_rfl
@[go_sem] theorem go81 : isGo Try.prog 81 = true := by kernel_rfl
@[go_sem] theorem go82 : isGo Try.prog 82 = true := by kernel_rfl
@[go_sem] theorem fr64 : Try.f64.results.toList = [.tmp 4] := by kernel_rfl
@[go_sem] theorem fn64 : Try.f64.ntmps = 17 := by kernel_rfl
@[go_sem] theorem fr65 : Try.f65.results.toList = [.tmp 4] := by kernel_rfl
@[go_sem] theorem fn65 : Try.f65.ntmps = 27 := by kernel_rfl
@[go_sem] theorem fr66 : Try.f66.results.toList = [.tmp 4] := by kernel_rfl
@[go_sem] theorem fn66 : Try.f66.ntmps = 19 := by kernel_rfl
@[go_sem] theorem fr67 : Try.f67.results.toList = [.cell 2 119] := by kernel_rfl
@[go_sem] theorem fn67 : Try.f67.ntmps = 18 := by kernel_rfl
@[go_sem] theorem fr68 : Try.f68.results.toList = [.tmp 4] := by kernel_rfl
@[go_sem] theorem fn68 : Try.f68.ntmps = 26 := by kernel_rfl
@[go_sem] theorem go83 : isGo Try.prog 83 = true := by kernel_rfl
@[go_sem] theorem go84 : isGo Try.prog 84 = true := by kernel_rfl
@[go_sem] theorem fr69 : Try.f69.results.toList = [.tmp 2] := by kernel_rfl
@[go_sem] theorem fn69 : Try.f69.ntmps = 10 := by kernel_rfl
@[go_sem] theorem fr70 : Try.f70.results.toList = [.tmp 2] := by kernel_rfl
@[go_sem] theorem fn70 : Try.f70.ntmps = 4 := by kernel_rfl
@[go_sem] theorem go85 : isGo Try.prog 85 = true := by kernel_rfl
@[go_sem] theorem fr71 : Try.f71.results.toList = [.tmp 4] := by kernel_rfl
@[go_sem] theorem fn71 : Try.f71.ntmps = 42 := by kernel_rfl
@[go_sem] theorem go86 : isGo Try.prog 86 = true := by kernel_rfl
@[go_sem] theorem fr72 : Try.f72.results.toList = [.tmp 2] := by kernel_rfl
@[go_sem] theorem fn72 : Try.f72.ntmps = 6 := by kernel_rfl
@[go_sem] theorem go87 : isGo Try.prog 87 = true := by kernel_rfl
@[go_sem] theorem go88 : isGo Try.prog 88 = true := by kernel_rfl
@[go_sem] theorem fr73 : Try.f73.results.toList = [.tmp 4] := by kernel_rfl
@[go_sem] theorem fn73 : Try.f73.ntmps = 36 := by kernel_rfl
@[go_sem] theorem fr74 : Try.f74.results.toList = [.tmp 4] := by kernel_rfl
@[go_sem] theorem fn74 : Try.f74.ntmps = 28 := by kernel_rfl
@[go_sem] theorem go89 : isGo Try.prog 89 = true := by kernel_rfl
@[go_sem] theorem go90 : isGo Try.prog 90 = true := by kernel_rfl
@[go_sem] theorem fr75 : Try.f75.results.toList = [.tmp 2] := by kernel_rfl
@[go_sem] theorem fn75 : Try.f75.ntmps = 106 := by kernel_rfl
@[go_sem] theorem ty135_a : tAgg Try.prog 135 = some false := by kernel_rfl
@[go_sem] theorem ty135_s : tSize Try.prog 135 = some 1 := by kernel_rfl
@[go_sem] theorem go91 : isGo Try.prog 91 = true := by kernel_rfl
@[go_sem] theorem fr76 : Try.f76.results.toList = [.tmp 4] := by kernel_rfl
@[go_sem] theorem fn76 : Try.f76.ntmps = 142 := by kernel_rfl
@[go_sem] theorem go92 : isGo Try.prog 92 = true := by kernel_rfl
@[go_sem] theorem go93 : isGo Try.prog 93 = true := by kernel_rfl
@[go_sem] theorem go94 : isGo Try.prog 94 = true := by kernel_rfl
@[go_sem] theorem go95 : isGo Try.prog 95 = true := by kernel_rfl
@[go_sem] theorem fr77 : Try.f77.results.toList = [.tmp 4] := by kernel_rfl
@[go_sem] theorem fn77 : Try.f77.ntmps = 30 := by kernel_rfl
@[go_sem] theorem fr78 : Try.f78.results.toList = [.tmp 4] := by kernel_rfl
@[go_sem] theorem fn78 : Try.f78.ntmps = 12 := by kernel_rfl
@[go_sem] theorem tz80 : tZero Try.prog 80 = some [.int .i64 0, .slice none 0 0, .slice none 0 0, .slice none 0 0, .slice none 0 0] := by kernel_rfl
@[go_sem] theorem go96 : isGo Try.prog 96 = true := by kernel_rfl
@[go_sem] theorem go97 : isGo Try.prog 97 = true := by kernel_rfl
@[go_sem] theorem go98 : isGo Try.prog 98 = true := by kernel_rfl
@[go_sem] theorem go99 : isGo Try.prog 99 = true := by kernel_rfl
@[go_sem] theorem fr79 : Try.f79.results.toList = [.cell 2 80] := by kernel_rfl
@[go_sem] theorem fn79 : Try.f79.ntmps = 24 := by kernel_rfl
@[go_sem] theorem tz3 : tZero Try.prog 3 = some [.int .i64 0] := by kernel_rfl
@[go_sem] theorem fr80 : Try.f80.results.toList = [.tmp 2] := by kernel_rfl
@[go_sem] theorem fn80 : Try.f80.ntmps = 22 := by kernel_rfl
@[go_sem] theorem go100 : isGo Try.prog 100 = true := by kernel_rfl
@[go_sem] theorem go101 : isGo Try.prog 101 = true := by kernel_rfl
@[go_sem] theorem go102 : isGo Try.prog 102 = true := by kernel_rfl
@[go_sem] theorem go103 : isGo Try.prog 103 = true := by kernel_rfl
@[go_sem] theorem fr81 : Try.f81.results.toList = [.tmp 4] := by kernel_rfl
@[go_sem] theorem fn81 : Try.f81.ntmps = 34 := by kernel_rfl
@[go_sem] theorem fr82 : Try.f82.results.toList = [.tmp 4] := by kernel_rfl
@[go_sem] theorem fn82 : Try.f82.ntmps = 26 := by kernel_rfl
@[go_sem] theorem fr83 : Try.f83.results.toList = [.tmp 4] := by kernel_rfl
@[go_sem] theorem fn83 : Try.f83.ntmps = 28 := by kernel_rfl
@[go_sem] theorem go104 : isGo Try.prog 104 = true := by kernel_rfl
@[go_sem] theorem fr84 : Try.f84.results.toList = [.tmp 2] := by kernel_rfl
@[go_sem] theorem fn84 : Try.f84.ntmps = 76 := by kernel_rfl
@[go_sem] theorem fr85 : Try.f85.results.toList = [.tmp 4] := by kernel_rfl
@[go_sem] theorem fn85 : Try.f85.ntmps = 68 := by kernel_rfl
@[go_sem] theorem go105 : isGo Try.prog 105 = true := by kernel_rfl
@[go_sem] theorem fr86 : Try.f86.results.toList = [.tmp 4] := by kernel_rfl
@[go_sem] theorem fn86 : Try.f86.ntmps = 107 := by kernel_rfl
@[go_sem] theorem fr87 : Try.f87.results.toList = [.tmp 4] := by kernel_rfl
@[go_sem] theorem fn87 : Try.f87.ntmps = 60 := by kernel_rfl
@[go_sem] theorem fr88 : Try.f88.results.toList = [.tmp 4] := by kernel_rfl
@[go_sem] theorem fn88 : Try.f88.ntmps = 11 := by kernel_rfl
@[go_sem] theorem fr89 : Try.f89.results.toList = [.tmp 6] := by kernel_rfl
@[go_sem] theorem fn89 : Try.f89.ntmps = 15 := by kernel_rfl
@[go_sem] theorem fr90 : Try.f90.results.toList = [.tmp 2] := by kernel_rfl
@[go_sem] theorem fn90 : Try.f90.ntmps = 17 := by kernel_rfl
@[go_sem] theorem fr91 : Try.f91.results.toList = [.tmp 2] := by kernel_rfl
@[go_sem] theorem fn91 : Try.f91.ntmps = 16 := by kernel_rfl
@[go_sem] theorem go106 : isGo Try.prog 106 = true := by kernel_rfl
@[go_sem] theorem fr92 : Try.f92.results.toList = [.tmp 4] := by kernel_rfl
@[go_sem] theorem fn92 : Try.f92.ntmps = 27 := by kernel_rfl
@[go_sem] theorem fr93 : Try.f93.results.toList = [.tmp 4] := by kernel_rfl
@[go_sem] theorem fn93 : Try.f93.ntmps = 27 := by kernel_rfl
@[go_sem] theorem fr94 : Try.f94.results.toList = [.tmp 4] := by kernel_rfl
@[go_sem] theorem fn94 : Try.f94.ntmps = 12 := by kernel_rfl
@[go_sem] theorem go107 : isGo Try.prog 107 = true := by kernel_rfl
@[go_sem] theorem fr95 : Try.f95.results.toList = [.tmp 4] := by kernel_rfl
@[go_sem] theorem fn95 : Try.f95.ntmps = 27 := by kernel_rfl
@[go_sem] theorem tz155 : tZero Try.prog 155 = some [.int .i64 0, .int .i64 0, .int .i64 0, .string ⟨#[]⟩, .slice none 0 0] := by kernel_rfl
@[go_sem] theorem go108 : isGo Try.prog 108 = true := by kernel_rfl
@[go_sem] theorem fr96 : Try.f96.results.toList = [.tmp 2] := by kernel_rfl
@[go_sem] theorem fn96 : Try.f96.ntmps = 23 := by kernel_rfl
@[go_sem] theorem tz75 : tZero Try.prog 75 = some [.slice none 0 0] := by kernel_rfl
@[go_sem] theorem fr97 : Try.f97.results.toList = [.tmp 2] := by kernel_rfl
@[go_sem] theorem fn97 : Try.f97.ntmps = 23 := by kernel_rfl
@[go_sem] theorem tz158 : tZero Try.prog 158 = some [.int .i64 0, .int .i64 0] := by kernel_rfl
@[go_sem] theorem go109 : isGo Try.prog 109 = true := by kernel_rfl
@[go_sem] theorem fr98 : Try.f98.results.toList = [.tmp 2] := by kernel_rfl
@[go_sem] theorem fn98 : Try.f98.ntmps = 23 := by kernel_rfl
@[go_sem] theorem tz161 : tZero Try.prog 161 = some [.int .i64 0, .string ⟨#[]⟩] := by kernel_rfl
@[go_sem] theorem go110 : isGo Try.prog 110 = true := by kernel_rfl
@[go_sem] theorem fr99 : Try.f99.results.toList = [.tmp 2] := by kernel_rfl
@[go_sem] theorem fn99 : Try.f99.ntmps = 23 := by kernel_rfl
@[go_sem] theorem go111 : isGo Try.prog 111 = true := by kernel_rfl
@[go_sem] theorem fr100 : Try.f100.results.toList = [.tmp 4] := by kernel_rfl
@[go_sem] theorem fn100 : Try.f100.ntmps = 27 := by kernel_rfl
@[go_sem] theorem fr101 : Try.f101.results.toList = [.tmp 4] := by kernel_rfl
@[go_sem] theorem fn101 : Try.f101.ntmps = 27 := by kernel_rfl
@[go_sem] theorem go112 : isGo Try.prog 112 = true := by kernel_rfl
@[go_sem] theorem fr102 : Try.f102.results.toList = [.tmp 4] := by kernel_rfl
@[go_sem] theorem fn102 : Try.f102.ntmps = 27 := by kernel_rfl
@[go_sem] theorem go113 : isGo Try.prog 113 = true := by kernel_rfl
@[go_sem] theorem fr103 : Try.f103.results.toList = [.tmp 4] := by kernel_rfl
@[go_sem] theorem fn103 : Try.f103.ntmps = 27 := by kernel_rfl
@[go_sem] theorem fr104 : Try.f104.results.toList = [.tmp 2] := by kernel_rfl
@[go_sem] theorem fn104 : Try.f104.ntmps = 44 := by kernel_rfl
@[go_sem] theorem fr105 : Try.f105.results.toList = [.tmp 2] := by kernel_rfl
@[go_sem] theorem fn105 : Try.f105.ntmps = 57 := by kernel_rfl
@[go_sem] theorem fr106 : Try.f106.results.toList = [.tmp 4] := by kernel_rfl
@[go_sem] theorem fn106 : Try.f106.ntmps = 12 := by kernel_rfl
@[go_sem] theorem fr107 : Try.f107.results.toList = [.tmp 4] := by kernel_rfl
@[go_sem] theorem fn107 : Try.f107.ntmps = 13 := by kernel_rfl
@[go_sem] theorem fr108 : Try.f108.results.toList = [.cell 2 155] := by kernel_rfl
@[go_sem] theorem fn108 : Try.f108.ntmps = 12 := by kernel_rfl
@[go_sem] theorem fr109 : Try.f109.results.toList = [.cell 2 158] := by kernel_rfl
@[go_sem] theorem fn109 : Try.f109.ntmps = 11 := by kernel_rfl
@[go_sem] theorem fr110 : Try.f110.results.toList = [.cell 2 161] := by kernel_rfl
@[go_sem] theorem fn110 : Try.f110.ntmps = 11 := by kernel_rfl
@[go_sem] theorem fr111 : Try.f111.results.toList = [.tmp 4] := by kernel_rfl
@[go_sem] theorem fn111 : Try.f111.ntmps = 16 := by kernel_rfl
@[go_sem] theorem fr112 : Try.f112.results.toList = [.tmp 4] := by kernel_rfl
@[go_sem] theorem fn112 : Try.f112.ntmps = 15 := by kernel_rfl
@[go_sem] theorem fr113 : Try.f113.results.toList = [.tmp 4] := by kernel_rfl
@[go_sem] theorem fn113 : Try.f113.ntmps = 15 := by kernel_rfl
end Go.Proofs.Ytiihkdmmanaooaa
