import Derived.Test.YtccphilpfmfagaaDoorP1
import Derived.Test.YtccphilpfmfagaaDoorA5
import Derived.Test.YtccphilpfmfagaaDoorProg
import Derived.KernelRfl
namespace Go.Proofs.YtccphilpfmfagaaDoor
open Go.Abs
theorem mixed : Tryd.prog.follows .mixedOrders = true := by kernel_rfl
@[go_sem] theorem ty3_a : tAgg Tryd.prog 3 = some false := by kernel_rfl
@[go_sem] theorem ty3_s : tSize Tryd.prog 3 = some 1 := by kernel_rfl
@[go_sem] theorem ty3_n : tInt Tryd.prog 3 = some Go.IntKind.i64 := by kernel_rfl
@[go_sem] theorem ty3_u : (Tryd.prog.underlying 3).isSome = true := by kernel_rfl
@[go_sem] theorem ty4_a : tAgg Tryd.prog 4 = some false := by kernel_rfl
@[go_sem] theorem ty4_s : tSize Tryd.prog 4 = some 1 := by kernel_rfl
@[go_sem] theorem ty4_u : Tryd.prog.underlying 4 = some .bool := by kernel_rfl
@[go_sem] theorem ty5_n : tInt Tryd.prog 5 = some Go.IntKind.u8 := by kernel_rfl
@[go_sem] theorem ty5_u : (Tryd.prog.underlying 5).isSome = true := by kernel_rfl
@[go_sem] theorem ty9_a : tAgg Tryd.prog 9 = some false := by kernel_rfl
@[go_sem] theorem ty9_s : tSize Tryd.prog 9 = some 1 := by kernel_rfl
@[go_sem] theorem ty9_t : tIsStr Tryd.prog 9 = true := by kernel_rfl
@[go_sem] theorem ty22_l : tSlice Tryd.prog 22 = some (5, 1, 1) := by kernel_rfl
@[go_sem] theorem ty22_b : tIsBytes Tryd.prog 22 = true := by kernel_rfl
@[go_sem] theorem ty23_a : tAgg Tryd.prog 23 = some false := by kernel_rfl
@[go_sem] theorem ty23_s : tSize Tryd.prog 23 = some 1 := by kernel_rfl
@[go_sem] theorem ty23_i : tIsSlice Tryd.prog 23 = true := by kernel_rfl
@[go_sem] theorem ty23_e : tElem Tryd.prog 23 = some 26 := by kernel_rfl
@[go_sem] theorem ty23_l : tSlice Tryd.prog 23 = some (26, 4, 56) := by kernel_rfl
@[go_sem] theorem ty23_u : (Tryd.prog.underlying 23).isSome = true := by kernel_rfl
@[go_sem] theorem ty26_a : tAgg Tryd.prog 26 = some true := by kernel_rfl
@[go_sem] theorem ty26_s : tSize Tryd.prog 26 = some 4 := by kernel_rfl
@[go_sem] theorem ty26_f0 : tField Tryd.prog 26 0 = some (0, 3) := by kernel_rfl
@[go_sem] theorem ty26_f1 : tField Tryd.prog 26 1 = some (1, 3) := by kernel_rfl
@[go_sem] theorem ty26_f2 : tField Tryd.prog 26 2 = some (2, 9) := by kernel_rfl
@[go_sem] theorem ty26_f3 : tField Tryd.prog 26 3 = some (3, 23) := by kernel_rfl
@[go_sem] theorem tz26 : tZero Tryd.prog 26 = some [.int .i64 0, .int .i64 0, .string ⟨#[]⟩, .slice none 0 0] := by kernel_rfl
@[go_sem] theorem go14 : isGo Tryd.prog 14 = true := by kernel_rfl
@[go_sem] theorem ty38_a : tAgg Tryd.prog 38 = some false := by kernel_rfl
@[go_sem] theorem ty38_s : tSize Tryd.prog 38 = some 1 := by kernel_rfl
@[go_sem] theorem ty38_i : tIsSlice Tryd.prog 38 = true := by kernel_rfl
@[go_sem] theorem ty38_e : tElem Tryd.prog 38 = some 65 := by kernel_rfl
@[go_sem] theorem ty38_l : tSlice Tryd.prog 38 = some (65, 5, 64) := by kernel_rfl
@[go_sem] theorem ty38_t : tIsStr Tryd.prog 38 = false := by kernel_rfl
@[go_sem] theorem ty38_u : (Tryd.prog.underlying 38).isSome = true := by kernel_rfl
@[go_sem] theorem ty65_a : tAgg Tryd.prog 65 = some true := by kernel_rfl
@[go_sem] theorem ty65_s : tSize Tryd.prog 65 = some 5 := by kernel_rfl
@[go_sem] theorem ty65_f0 : tField Tryd.prog 65 0 = some (0, 3) := by kernel_rfl
@[go_sem] theorem ty65_f1 : tField Tryd.prog 65 1 = some (1, 26) := by kernel_rfl
@[go_sem] theorem go17 : isGo Tryd.prog 17 = true := by kernel_rfl
@[go_sem] theorem go18 : isGo Tryd.prog 18 = true := by kernel_rfl
@[go_sem] theorem go19 : isGo Tryd.prog 19 = true := by kernel_rfl
@[go_sem] theorem go20 : isGo Tryd.prog 20 = true := by kernel_rfl
@[go_sem] theorem go21 : isGo Tryd.prog 21 = true := by kernel_rfl
@[go_sem] theorem fr5 : Tryd.f5.results.toList = [.tmp 2] := by kernel_rfl
@[go_sem] theorem fn5 : Tryd.f5.ntmps = 66 := by kernel_rfl
@[go_sem] theorem ty46_a : tAgg Tryd.prog 46 = some false := by kernel_rfl
@[go_sem] theorem ty46_s : tSize Tryd.prog 46 = some 1 := by kernel_rfl
@[go_sem] theorem ty46_i : tIsSlice Tryd.prog 46 = true := by kernel_rfl
@[go_sem] theorem ty46_e : tElem Tryd.prog 46 = some 9 := by kernel_rfl
@[go_sem] theorem ty46_l : tSlice Tryd.prog 46 = some (9, 1, 16) := by kernel_rfl
@[go_sem] theorem ty46_u : (Tryd.prog.underlying 46).isSome = true := by kernel_rfl
@[go_sem] theorem ty51_f0 : tField Tryd.prog 51 0 = some (0, 46) := by kernel_rfl
@[go_sem] theorem ty51_f1 : tField Tryd.prog 51 1 = some (1, 3) := by kernel_rfl
@[go_sem] theorem tb26 : tBuild Tryd.prog 26 = some ([.int .i64 0, .int .i64 0, .string ⟨#[]⟩, .slice none 0 0], [(0, 1), (1, 1), (2, 1), (3, 1)]) := by kernel_rfl
@[go_sem] theorem tb51 : tBuild Tryd.prog 51 = some ([.slice none 0 0, .int .i64 0], [(0, 1), (1, 1)]) := by kernel_rfl
@[go_sem] theorem go24 : isGo Tryd.prog 24 = true := by kernel_rfl
@[go_sem] theorem go25 : isGo Tryd.prog 25 = true := by kernel_rfl
@[go_sem] theorem go26 : isGo Tryd.prog 26 = true := by kernel_rfl
@[go_sem] theorem go27 : isGo Tryd.prog 27 = true := by kernel_rfl
@[go_sem] theorem go33 : isGo Tryd.prog 33 = true := by kernel_rfl
@[go_sem] theorem fr14 : Tryd.f14.results.toList = [.tmp 4] := by kernel_rfl
@[go_sem] theorem fn14 : Tryd.f14.ntmps = 26 := by kernel_rfl
@[go_sem] theorem go34 : isGo Tryd.prog 34 = true := by kernel_rfl
@[go_sem] theorem go35 : isGo Tryd.prog 35 = true := by kernel_rfl
@[go_sem] theorem tb65 : tBuild Tryd.prog 65 = some ([.int .i64 0, .int .i64 0, .int .i64 0, .string ⟨#[]⟩, .slice none 0 0], [(0, 1), (1, 4)]) := by kernel_rfl
@[go_sem] theorem go36 : isGo Tryd.prog 36 = true := by kernel_rfl
@[go_sem] theorem go37 : isGo Tryd.prog 37 = true := by kernel_rfl
@[go_sem] theorem go38 : isGo Tryd.prog 38 = true := by kernel_rfl
@[go_sem] theorem fr17 : Tryd.f17.results.toList = [.tmp 2, .tmp 3] := by kernel_rfl
@[go_sem] theorem fn17 : Tryd.f17.ntmps = 64 := by kernel_rfl
@[go_sem] theorem go39 : isGo Tryd.prog 39 = true := by kernel_rfl
@[go_sem] theorem fr18 : Tryd.f18.results.toList = [.tmp 2, .tmp 3] := by kernel_rfl
@[go_sem] theorem fn18 : Tryd.f18.ntmps = 58 := by kernel_rfl
@[go_sem] theorem go40 : isGo Tryd.prog 40 = true := by kernel_rfl
@[go_sem] theorem fr19 : Tryd.f19.results.toList = [.tmp 4] := by kernel_rfl
@[go_sem] theorem fn19 : Tryd.f19.ntmps = 27 := by kernel_rfl
@[go_sem] theorem go41 : isGo Tryd.prog 41 = true := by kernel_rfl
@[go_sem] theorem fr20 : Tryd.f20.results.toList = [.tmp 4] := by kernel_rfl
@[go_sem] theorem fn20 : Tryd.f20.ntmps = 53 := by kernel_rfl
@[go_sem] theorem fr21 : Tryd.f21.results.toList = [.tmp 4] := by kernel_rfl
@[go_sem] theorem fn21 : Tryd.f21.ntmps = 63 := by kernel_rfl
@[go_sem] theorem go45 : isGo Tryd.prog 45 = true := by kernel_rfl
@[go_sem] theorem fr24 : Tryd.f24.results.toList = [.tmp 2, .tmp 3] := by kernel_rfl
@[go_sem] theorem fn24 : Tryd.f24.ntmps = 132 := by kernel_rfl
@[go_sem] theorem go48 : isGo Tryd.prog 48 = true := by kernel_rfl
@[go_sem] theorem fr25 : Tryd.f25.results.toList = [.cell 2 26, .tmp 3] := by kernel_rfl
@[go_sem] theorem fn25 : Tryd.f25.ntmps = 20 := by kernel_rfl
@[go_sem] theorem fr26 : Tryd.f26.results.toList = [.tmp 2] := by kernel_rfl
@[go_sem] theorem fn26 : Tryd.f26.ntmps = 13 := by kernel_rfl
@[go_sem] theorem go49 : isGo Tryd.prog 49 = true := by kernel_rfl
@[go_sem] theorem fr27 : Tryd.f27.results.toList = [.tmp 2] := by kernel_rfl
@[go_sem] theorem fn27 : Tryd.f27.ntmps = 6 := by kernel_rfl
@[go_sem] theorem fr33 : Tryd.f33.results.toList = [.tmp 4] := by kernel_rfl
@[go_sem] theorem fn33 : Tryd.f33.ntmps = 27 := by kernel_rfl
@[go_sem] theorem fr34 : Tryd.f34.results.toList = [.tmp 4] := by kernel_rfl
@[go_sem] theorem fn34 : Tryd.f34.ntmps = 42 := by kernel_rfl
@[go_sem] theorem fr35 : Tryd.f35.results.toList = [.tmp 4] := by kernel_rfl
@[go_sem] theorem fn35 : Tryd.f35.ntmps = 50 := by kernel_rfl
@[go_sem] theorem go52 : isGo Tryd.prog 52 = true := by kernel_rfl
@[go_sem] theorem go53 : isGo Tryd.prog 53 = true := by kernel_rfl
@[go_sem] theorem fr36 : Tryd.f36.results.toList = [.tmp 2, .tmp 3] := by kernel_rfl
@[go_sem] theorem fn36 : Tryd.f36.ntmps = 99 := by kernel_rfl
@[go_sem] theorem go54 : isGo Tryd.prog 54 = true := by kernel_rfl
@[go_sem] theorem go55 : isGo Tryd.prog 55 = true := by kernel_rfl
@[go_sem] theorem fr37 : Tryd.f37.results.toList = [.tmp 2, .tmp 3] := by kernel_rfl
@[go_sem] theorem fn37 : Tryd.f37.ntmps = 34 := by kernel_rfl
@[go_sem] theorem ty84_i : tIsSlice Tryd.prog 84 = true := by kernel_rfl
@[go_sem] theorem ty84_e : tElem Tryd.prog 84 = some 3 := by kernel_rfl
@[go_sem] theorem ty84_l : tSlice Tryd.prog 84 = some (3, 1, 8) := by kernel_rfl
@[go_sem] theorem ty84_u : (Tryd.prog.underlying 84).isSome = true := by kernel_rfl
@[go_sem] theorem tz65 : tZero Tryd.prog 65 = some [.int .i64 0, .int .i64 0, .int .i64 0, .string ⟨#[]⟩, .slice none 0 0] := by kernel_rfl
@[go_sem] theorem go56 : isGo Tryd.prog 56 = true := by kernel_rfl
@[go_sem] theorem go57 : isGo Tryd.prog 57 = true := by kernel_rfl
@[go_sem] theorem go58 : isGo Tryd.prog 58 = true := by kernel_rfl
@[go_sem] theorem fr38 : Tryd.f38.results.toList = [.tmp 2] := by kernel_rfl
@[go_sem] theorem fn38 : Tryd.f38.ntmps = 47 := by kernel_rfl
@[go_sem] theorem tz4 : tZero Tryd.prog 4 = some [.bool false] := by kernel_rfl
@[go_sem] theorem go59 : isGo Tryd.prog 59 = true := by kernel_rfl
@[go_sem] theorem go60 : isGo Tryd.prog 60 = true := by kernel_rfl
@[go_sem] theorem fr39 : Tryd.f39.results.toList = [.tmp 2] := by kernel_rfl
@[go_sem] theorem fn39 : Tryd.f39.ntmps = 36 := by kernel_rfl
@[go_sem] theorem fr40 : Tryd.f40.results.toList = [.tmp 4] := by kernel_rfl
@[go_sem] theorem fn40 : Tryd.f40.ntmps = 16 := by kernel_rfl
@[go_sem] theorem fr41 : Tryd.f41.results.toList = [.tmp 2] := by kernel_rfl
@[go_sem] theorem fn41 : Tryd.f41.ntmps = 20 := by kernel_rfl
@[go_sem] theorem fr45 : Tryd.f45.results.toList = [.cell 4 26] := by kernel_rfl
@[go_sem] theorem fn45 : Tryd.f45.ntmps = 9 := by kernel_rfl
@[go_sem] theorem go64 : isGo Tryd.prog 64 = true := by kernel_rfl
@[go_sem] theorem go65 : isGo Tryd.prog 65 = true := by kernel_rfl
@[go_sem] theorem go66 : isGo Tryd.prog 66 = true := by kernel_rfl
@[go_sem] theorem go67 : isGo Tryd.prog 67 = true := by kernel_rfl
@[go_sem] theorem go68 : isGo Tryd.prog 68 = true := by kernel_rfl
@[go_sem] theorem go69 : isGo Tryd.prog 69 = true := by kernel_rfl
@[go_sem] theorem go70 : isGo Tryd.prog 70 = true := by kernel_rfl
@[go_sem] theorem go71 : isGo Tryd.prog 71 = true := by kernel_rfl
@[go_sem] theorem go72 : isGo Tryd.prog 72 = true := by kernel_rfl
@[go_sem] theorem go73 : isGo Tryd.prog 73 = true := by kernel_rfl
@[go_sem] theorem fr48 : Tryd.f48.results.toList = [.cell 2 26, .tmp 3] := by kernel_rfl
@[go_sem] theorem fn48 : Tryd.f48.ntmps = 132 := by kernel_rfl
@[go_sem] theorem fr49 : Tryd.f49.results.toList = [.tmp 4] := by kernel_rfl
@[go_sem] theorem fn49 : Tryd.f49.ntmps = 107 := by kernel_rfl
@[go_sem] theorem fr52 : Tryd.f52.results.toList = [.tmp 2] := by kernel_rfl
@[go_sem] theorem fn52 : Tryd.f52.ntmps = 21 := by kernel_rfl
@[go_sem] theorem fr53 : Tryd.f53.results.toList = [.tmp 6] := by kernel_rfl
@[go_sem] theorem fn53 : Tryd.f53.ntmps = 15 := by kernel_rfl
@[go_sem] theorem go76 : isGo Tryd.prog 76 = true := by kernel_rfl
@[go_sem] theorem go77 : isGo Tryd.prog 77 = true := by kernel_rfl
@[go_sem] theorem fr54 : Tryd.f54.results.toList = [.cell 4 26, .tmp 5, .tmp 6] := by kernel_rfl
@[go_sem] theorem fn54 : Tryd.f54.ntmps = 136 := by kernel_rfl
@[go_sem] theorem go78 : isGo Tryd.prog 78 = true := by kernel_rfl
@[go_sem] theorem go79 : isGo Tryd.prog 79 = true := by kernel_rfl
@[go_sem] theorem fr55 : Tryd.f55.results.toList = [.tmp 2] := by kernel_rfl
@[go_sem] theorem fn55 : Tryd.f55.ntmps = 10 := by kernel_rfl
@[go_sem] theorem fr56 : Tryd.f56.results.toList = [.tmp 2] := by kernel_rfl
@[go_sem] theorem fn56 : Tryd.f56.ntmps = 41 := by kernel_rfl
@[go_sem] theorem go80 : isGo Tryd.prog 80 = true := by kernel_rfl
@[go_sem] theorem fr57 : Tryd.f57.results.toList = [.tmp 4] := by kernel_rfl
@[go_sem] theorem fn57 : Tryd.f57.ntmps = 26 := by kernel_rfl
@[go_sem] theorem fr58 : Tryd.f58.results.toList = [.cell 4 26, .tmp 5] := by kernel_rfl
@[go_sem] theorem fn58 : Tryd.f58.ntmps = 22 := by kernel_rfl
@[go_sem] theorem fr59 : Tryd.f59.results.toList = [.tmp 2] := by kernel_rfl
@[go_sem] theorem fn59 : Tryd.f59.ntmps = 45 := by kernel_rfl
@[go_sem] theorem fr60 : Tryd.f60.results.toList = [] := by kernel_rfl
@[go_sem] theorem fn60 : Tryd.f60.ntmps = 26 := by kernel_rfl
@[go_sem] theorem go62 : isGo Tryd.prog 62 = true := by kernel_rfl
@[go_sem] theorem fr61 : Tryd.f61.results.toList = [] := by kernel_rfl
@[go_sem] theorem fn61 : Tryd.f61.ntmps = 8 := by kernel_rfl
@[go_sem] theorem go81 : isGo Tryd.prog 81 = true := by kernel_rfl
@[go_sem] theorem fr62 : Tryd.f62.results.toList = [.tmp 4] := by kernel_rfl
@[go_sem] theorem fn62 : Tryd.f62.ntmps = 24 := by kernel_rfl
@[go_sem] theorem fr64 : Tryd.f64.results.toList = [.cell 2 26] := by kernel_rfl
@[go_sem] theorem fn64 : Tryd.f64.ntmps = 5 := by kernel_rfl
@[go_sem] theorem fr65 : Tryd.f65.results.toList = [.tmp 2] := by kernel_rfl
@[go_sem] theorem fn65 : Tryd.f65.ntmps = 23 := by kernel_rfl
@[go_sem] theorem fr66 : Tryd.f66.results.toList = [.tmp 4] := by kernel_rfl
@[go_sem] theorem fn66 : Tryd.f66.ntmps = 28 := by kernel_rfl
@[go_sem] theorem fr67 : Tryd.f67.results.toList = [.cell 2 26] := by kernel_rfl
@[go_sem] theorem fn67 : Tryd.f67.ntmps = 20 := by kernel_rfl
@[go_sem] theorem fr68 : Tryd.f68.results.toList = [.cell 4 26] := by kernel_rfl
@[go_sem] theorem fn68 : Tryd.f68.ntmps = 9 := by kernel_rfl
@[go_sem] theorem fr70 : Tryd.f70.results.toList = [.cell 2 26] := by kernel_rfl
@[go_sem] theorem fn70 : Tryd.f70.ntmps = 5 := by kernel_rfl
@[go_sem] theorem fr71 : Tryd.f71.results.toList = [.tmp 2] := by kernel_rfl
@[go_sem] theorem fn71 : Tryd.f71.ntmps = 57 := by kernel_rfl
@[go_sem] theorem fr72 : Tryd.f72.results.toList = [.cell 2 26] := by kernel_rfl
@[go_sem] theorem fn72 : Tryd.f72.ntmps = 5 := by kernel_rfl
@[go_sem] theorem fr73 : Tryd.f73.results.toList = [.cell 2 26] := by kernel_rfl
@[go_sem] theorem fn73 : Tryd.f73.ntmps = 5 := by kernel_rfl
@[go_sem] theorem go86 : isGo Tryd.prog 86 = true := by kernel_rfl
@[go_sem] theorem go87 : isGo Tryd.prog 87 = true := by kernel_rfl
@[go_sem] theorem fr76 : Tryd.f76.results.toList = [.cell 2 26, .tmp 3] := by kernel_rfl
@[go_sem] theorem fn76 : Tryd.f76.ntmps = 39 := by kernel_rfl
@[go_sem] theorem fr77 : Tryd.f77.results.toList = [.cell 4 26] := by kernel_rfl
@[go_sem] theorem fn77 : Tryd.f77.ntmps = 20 := by kernel_rfl
@[go_sem] theorem fr78 : Tryd.f78.results.toList = [.tmp 4] := by kernel_rfl
@[go_sem] theorem fn78 : Tryd.f78.ntmps = 28 := by kernel_rfl
@[go_sem] theorem fr79 : Tryd.f79.results.toList = [.tmp 2] := by kernel_rfl
@[go_sem] theorem fn79 : Tryd.f79.ntmps = 76 := by kernel_rfl
@[go_sem] theorem fr80 : Tryd.f80.results.toList = [.tmp 4] := by kernel_rfl
@[go_sem] theorem fn80 : Tryd.f80.ntmps = 49 := by kernel_rfl
@[go_sem] theorem ty91_n : tInt Tryd.prog 91 = some Go.IntKind.u64 := by kernel_rfl
@[go_sem] theorem ty91_u : (Tryd.prog.underlying 91).isSome = true := by kernel_rfl
@[go_sem] theorem fr81 : Tryd.f81.results.toList = [.tmp 4] := by kernel_rfl
@[go_sem] theorem fn81 : Tryd.f81.ntmps = 26 := by kernel_rfl
@[go_sem] theorem fr82 : Tryd.f82.results.toList = [.tmp 4] := by kernel_rfl
@[go_sem] theorem fn82 : Tryd.f82.ntmps = 12 := by kernel_rfl
@[go_sem] theorem fr86 : Tryd.f86.results.toList = [.tmp 2] := by kernel_rfl
@[go_sem] theorem fn86 : Tryd.f86.ntmps = 44 := by kernel_rfl
@[go_sem] theorem go91 : isGo Tryd.prog 91 = true := by kernel_rfl
@[go_sem] theorem fr87 : Tryd.f87.results.toList = [.tmp 2, .tmp 3] := by kernel_rfl
@[go_sem] theorem fn87 : Tryd.f87.ntmps = 65 := by kernel_rfl
@[go_sem] theorem fr91 : Tryd.f91.results.toList = [.tmp 2] := by kernel_rfl
@[go_sem] theorem fn91 : Tryd.f91.ntmps = 44 := by kernel_rfl
end Go.Proofs.YtccphilpfmfagaaDoor
