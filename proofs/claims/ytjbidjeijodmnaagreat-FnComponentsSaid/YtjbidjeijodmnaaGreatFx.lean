import Derived.Test.YtjbidjeijodmnaaGreatP1
import Derived.Test.YtjbidjeijodmnaaGreatA5
import Derived.Test.YtjbidjeijodmnaaGreatProg
import Derived.KernelRfl
namespace Go.Proofs.YtjbidjeijodmnaaGreat
open Go.Abs
theorem mixed:Tryz.prog.follows .mixedOrders=true:=by kernel_rfl
@[go_sem] theorem ty3_a:tAgg Tryz.prog 3=some false:=by kernel_rfl
@[go_sem] theorem ty3_s:tSize Tryz.prog 3=some 1:=by kernel_rfl
@[go_sem] theorem ty3_n:tInt Tryz.prog 3=some Go.IntKind.i64:=by kernel_rfl
@[go_sem] theorem ty3_u:(Tryz.prog.underlying 3).isSome=true:=by kernel_rfl
@[go_sem] theorem ty4_a:tAgg Tryz.prog 4=some false:=by kernel_rfl
@[go_sem] theorem ty4_s:tSize Tryz.prog 4=some 1:=by kernel_rfl
@[go_sem] theorem ty4_u:Tryz.prog.underlying 4=some .bool:=by kernel_rfl
@[go_sem] theorem ty5_a:tAgg Tryz.prog 5=some false:=by kernel_rfl
@[go_sem] theorem ty5_s:tSize Tryz.prog 5=some 1:=by kernel_rfl
@[go_sem] theorem ty5_n:tInt Tryz.prog 5=some Go.IntKind.u8:=by kernel_rfl
@[go_sem] theorem ty5_u:(Tryz.prog.underlying 5).isSome=true:=by kernel_rfl
@[go_sem] theorem ty9_a:tAgg Tryz.prog 9=some false:=by kernel_rfl
@[go_sem] theorem ty9_s:tSize Tryz.prog 9=some 1:=by kernel_rfl
@[go_sem] theorem ty9_t:tIsStr Tryz.prog 9=true:=by kernel_rfl
@[go_sem] theorem ty22_a:tAgg Tryz.prog 22=some false:=by kernel_rfl
@[go_sem] theorem ty22_s:tSize Tryz.prog 22=some 1:=by kernel_rfl
@[go_sem] theorem ty22_i:tIsSlice Tryz.prog 22=true:=by kernel_rfl
@[go_sem] theorem ty22_e:tElem Tryz.prog 22=some 5:=by kernel_rfl
@[go_sem] theorem ty22_l:tSlice Tryz.prog 22=some (5,1,1):=by kernel_rfl
@[go_sem] theorem ty22_b:tIsBytes Tryz.prog 22=true:=by kernel_rfl
@[go_sem] theorem ty23_a:tAgg Tryz.prog 23=some false:=by kernel_rfl
@[go_sem] theorem ty23_s:tSize Tryz.prog 23=some 1:=by kernel_rfl
@[go_sem] theorem ty23_i:tIsSlice Tryz.prog 23=true:=by kernel_rfl
@[go_sem] theorem ty23_e:tElem Tryz.prog 23=some 40:=by kernel_rfl
@[go_sem] theorem ty23_l:tSlice Tryz.prog 23=some (40,7,104):=by kernel_rfl
@[go_sem] theorem ty23_t:tIsStr Tryz.prog 23=false:=by kernel_rfl
@[go_sem] theorem ty23_u:(Tryz.prog.underlying 23).isSome=true:=by kernel_rfl
@[go_sem] theorem ty25_a:tAgg Tryz.prog 25=some true:=by kernel_rfl
@[go_sem] theorem ty25_s:tSize Tryz.prog 25=some 1:=by kernel_rfl
@[go_sem] theorem ty25_f0:tField Tryz.prog 25 0=some (0,23):=by kernel_rfl
@[go_sem] theorem ty27_a:tAgg Tryz.prog 27=some false:=by kernel_rfl
@[go_sem] theorem ty27_s:tSize Tryz.prog 27=some 1:=by kernel_rfl
@[go_sem] theorem ty27_i:tIsSlice Tryz.prog 27=true:=by kernel_rfl
@[go_sem] theorem ty27_e:tElem Tryz.prog 27=some 3:=by kernel_rfl
@[go_sem] theorem ty27_l:tSlice Tryz.prog 27=some (3,1,8):=by kernel_rfl
@[go_sem] theorem ty27_t:tIsStr Tryz.prog 27=false:=by kernel_rfl
@[go_sem] theorem ty27_u:(Tryz.prog.underlying 27).isSome=true:=by kernel_rfl
@[go_sem] theorem ty28_i:tIsSlice Tryz.prog 28=true:=by kernel_rfl
@[go_sem] theorem ty28_e:tElem Tryz.prog 28=some 27:=by kernel_rfl
@[go_sem] theorem ty28_l:tSlice Tryz.prog 28=some (27,1,24):=by kernel_rfl
@[go_sem] theorem ty33_a:tAgg Tryz.prog 33=some false:=by kernel_rfl
@[go_sem] theorem ty33_s:tSize Tryz.prog 33=some 1:=by kernel_rfl
@[go_sem] theorem ty33_i:tIsSlice Tryz.prog 33=true:=by kernel_rfl
@[go_sem] theorem ty33_e:tElem Tryz.prog 33=some 9:=by kernel_rfl
@[go_sem] theorem ty33_l:tSlice Tryz.prog 33=some (9,1,16):=by kernel_rfl
@[go_sem] theorem ty33_t:tIsStr Tryz.prog 33=false:=by kernel_rfl
@[go_sem] theorem ty33_u:(Tryz.prog.underlying 33).isSome=true:=by kernel_rfl
@[go_sem] theorem ty35_a:tAgg Tryz.prog 35=some false:=by kernel_rfl
@[go_sem] theorem ty35_s:tSize Tryz.prog 35=some 1:=by kernel_rfl
@[go_sem] theorem ty35_i:tIsSlice Tryz.prog 35=true:=by kernel_rfl
@[go_sem] theorem ty35_e:tElem Tryz.prog 35=some 90:=by kernel_rfl
@[go_sem] theorem ty35_l:tSlice Tryz.prog 35=some (90,4,56):=by kernel_rfl
@[go_sem] theorem ty35_t:tIsStr Tryz.prog 35=false:=by kernel_rfl
@[go_sem] theorem ty35_u:(Tryz.prog.underlying 35).isSome=true:=by kernel_rfl
@[go_sem] theorem ty36_a:tAgg Tryz.prog 36=some false:=by kernel_rfl
@[go_sem] theorem ty36_s:tSize Tryz.prog 36=some 1:=by kernel_rfl
@[go_sem] theorem ty36_i:tIsSlice Tryz.prog 36=true:=by kernel_rfl
@[go_sem] theorem ty36_e:tElem Tryz.prog 36=some 38:=by kernel_rfl
@[go_sem] theorem ty36_l:tSlice Tryz.prog 36=some (38,4,72):=by kernel_rfl
@[go_sem] theorem ty36_t:tIsStr Tryz.prog 36=false:=by kernel_rfl
@[go_sem] theorem ty36_u:(Tryz.prog.underlying 36).isSome=true:=by kernel_rfl
@[go_sem] theorem ty38_a:tAgg Tryz.prog 38=some true:=by kernel_rfl
@[go_sem] theorem ty38_s:tSize Tryz.prog 38=some 4:=by kernel_rfl
@[go_sem] theorem ty38_f0:tField Tryz.prog 38 0=some (0,3):=by kernel_rfl
@[go_sem] theorem ty38_f1:tField Tryz.prog 38 1=some (1,9):=by kernel_rfl
@[go_sem] theorem ty38_f2:tField Tryz.prog 38 2=some (2,35):=by kernel_rfl
@[go_sem] theorem ty38_f3:tField Tryz.prog 38 3=some (3,36):=by kernel_rfl
@[go_sem] theorem ty40_a:tAgg Tryz.prog 40=some true:=by kernel_rfl
@[go_sem] theorem ty40_s:tSize Tryz.prog 40=some 7:=by kernel_rfl
@[go_sem] theorem ty40_f0:tField Tryz.prog 40 0=some (0,9):=by kernel_rfl
@[go_sem] theorem ty40_f1:tField Tryz.prog 40 1=some (1,3):=by kernel_rfl
@[go_sem] theorem ty40_f2:tField Tryz.prog 40 2=some (2,3):=by kernel_rfl
@[go_sem] theorem ty40_f3:tField Tryz.prog 40 3=some (3,38):=by kernel_rfl
@[go_sem] theorem ty90_a:tAgg Tryz.prog 90=some true:=by kernel_rfl
@[go_sem] theorem ty90_s:tSize Tryz.prog 90=some 4:=by kernel_rfl
@[go_sem] theorem ty90_f0:tField Tryz.prog 90 0=some (0,3):=by kernel_rfl
@[go_sem] theorem ty90_f1:tField Tryz.prog 90 1=some (1,3):=by kernel_rfl
@[go_sem] theorem ty90_f2:tField Tryz.prog 90 2=some (2,9):=by kernel_rfl
@[go_sem] theorem ty90_f3:tField Tryz.prog 90 3=some (3,35):=by kernel_rfl
@[go_sem] theorem tz25:tZero Tryz.prog 25=some [.slice none 0 0]:=by kernel_rfl
@[go_sem] theorem go4:isGo Tryz.prog 4=true:=by kernel_rfl
@[go_sem] theorem go5:isGo Tryz.prog 5=true:=by kernel_rfl
@[go_sem] theorem go6:isGo Tryz.prog 6=true:=by kernel_rfl
@[go_sem] theorem go7:isGo Tryz.prog 7=true:=by kernel_rfl
@[go_sem] theorem go8:isGo Tryz.prog 8=true:=by kernel_rfl
@[go_sem] theorem go9:isGo Tryz.prog 9=true:=by kernel_rfl
@[go_sem] theorem go10:isGo Tryz.prog 10=true:=by kernel_rfl
@[go_sem] theorem fr3:Tryz.f3.results.toList=[.tmp 2]:=by kernel_rfl
@[go_sem] theorem fn3:Tryz.f3.ntmps=219:=by kernel_rfl
@[go_sem] theorem go11:isGo Tryz.prog 11=true:=by kernel_rfl
@[go_sem] theorem go12:isGo Tryz.prog 12=true:=by kernel_rfl
@[go_sem] theorem go13:isGo Tryz.prog 13=true:=by kernel_rfl
@[go_sem] theorem go14:isGo Tryz.prog 14=true:=by kernel_rfl
@[go_sem] theorem go15:isGo Tryz.prog 15=true:=by kernel_rfl
@[go_sem] theorem go18:isGo Tryz.prog 18=true:=by kernel_rfl
@[go_sem] theorem fr4:Tryz.f4.results.toList=[.cell 6 25]:=by kernel_rfl
@[go_sem] theorem fn4:Tryz.f4.ntmps=45:=by kernel_rfl
@[go_sem] theorem ty51_i:tIsSlice Tryz.prog 51=true:=by kernel_rfl
@[go_sem] theorem ty51_e:tElem Tryz.prog 51=some 53:=by kernel_rfl
@[go_sem] theorem ty51_l:tSlice Tryz.prog 51=some (53,1,8):=by kernel_rfl
@[go_sem] theorem ty51_u:(Tryz.prog.underlying 51).isSome=true:=by kernel_rfl
@[go_sem] theorem ty53_a:tAgg Tryz.prog 53=some false:=by kernel_rfl
@[go_sem] theorem ty53_s:tSize Tryz.prog 53=some 1:=by kernel_rfl
@[go_sem] theorem ty53_im:tIsMap Tryz.prog 53=true:=by kernel_rfl
@[go_sem] theorem ty53_m:tMap Tryz.prog 53=some (false,.bool false):=by kernel_rfl
@[go_sem] theorem go19:isGo Tryz.prog 19=true:=by kernel_rfl
@[go_sem] theorem go20:isGo Tryz.prog 20=true:=by kernel_rfl
@[go_sem] theorem go21:isGo Tryz.prog 21=true:=by kernel_rfl
@[go_sem] theorem go22:isGo Tryz.prog 22=true:=by kernel_rfl
@[go_sem] theorem fr5:Tryz.f5.results.toList=[.tmp 2]:=by kernel_rfl
@[go_sem] theorem fn5:Tryz.f5.ntmps=112:=by kernel_rfl
@[go_sem] theorem fr6:Tryz.f6.results.toList=[.tmp 2]:=by kernel_rfl
@[go_sem] theorem fn6:Tryz.f6.ntmps=8:=by kernel_rfl
@[go_sem] theorem ty56_i:tIsSlice Tryz.prog 56=true:=by kernel_rfl
@[go_sem] theorem ty56_e:tElem Tryz.prog 56=some 33:=by kernel_rfl
@[go_sem] theorem ty56_l:tSlice Tryz.prog 56=some (33,1,24):=by kernel_rfl
@[go_sem] theorem tz3:tZero Tryz.prog 3=some [.int .i64 0]:=by kernel_rfl
@[go_sem] theorem tz40:tZero Tryz.prog 40=some [.string ⟨#[]⟩,.int .i64 0,.int .i64 0,.int .i64 0,.string ⟨#[]⟩,.slice none 0 0,.slice none 0 0]:=by kernel_rfl
@[go_sem] theorem go23:isGo Tryz.prog 23=true:=by kernel_rfl
@[go_sem] theorem go24:isGo Tryz.prog 24=true:=by kernel_rfl
@[go_sem] theorem fr7:Tryz.f7.results.toList=[.tmp 2,.tmp 3]:=by kernel_rfl
@[go_sem] theorem fn7:Tryz.f7.ntmps=78:=by kernel_rfl
@[go_sem] theorem go25:isGo Tryz.prog 25=true:=by kernel_rfl
@[go_sem] theorem fr8:Tryz.f8.results.toList=[.tmp 2]:=by kernel_rfl
@[go_sem] theorem fn8:Tryz.f8.ntmps=9:=by kernel_rfl
@[go_sem] theorem go26:isGo Tryz.prog 26=true:=by kernel_rfl
@[go_sem] theorem fr9:Tryz.f9.results.toList=[.tmp 4]:=by kernel_rfl
@[go_sem] theorem fn9:Tryz.f9.ntmps=11:=by kernel_rfl
@[go_sem] theorem fr10:Tryz.f10.results.toList=[.tmp 4]:=by kernel_rfl
@[go_sem] theorem fn10:Tryz.f10.ntmps=21:=by kernel_rfl
@[go_sem] theorem go27:isGo Tryz.prog 27=true:=by kernel_rfl
@[go_sem] theorem go28:isGo Tryz.prog 28=true:=by kernel_rfl
@[go_sem] theorem fr11:Tryz.f11.results.toList=[.tmp 4]:=by kernel_rfl
@[go_sem] theorem fn11:Tryz.f11.ntmps=17:=by kernel_rfl
@[go_sem] theorem tb25:tBuild Tryz.prog 25=some ([.slice none 0 0],[(0,1)]):=by kernel_rfl
@[go_sem] theorem go29:isGo Tryz.prog 29=true:=by kernel_rfl
@[go_sem] theorem go30:isGo Tryz.prog 30=true:=by kernel_rfl
@[go_sem] theorem go31:isGo Tryz.prog 31=true:=by kernel_rfl
@[go_sem] theorem fr12:Tryz.f12.results.toList=[.cell 2 25,.tmp 3]:=by kernel_rfl
@[go_sem] theorem fn12:Tryz.f12.ntmps=69:=by kernel_rfl
@[go_sem] theorem fr13:Tryz.f13.results.toList=[.tmp 2]:=by kernel_rfl
@[go_sem] theorem fn13:Tryz.f13.ntmps=35:=by kernel_rfl
@[go_sem] theorem go32:isGo Tryz.prog 32=true:=by kernel_rfl
@[go_sem] theorem fr14:Tryz.f14.results.toList=[.tmp 2]:=by kernel_rfl
@[go_sem] theorem fn14:Tryz.f14.ntmps=6:=by kernel_rfl
@[go_sem] theorem go33:isGo Tryz.prog 33=true:=by kernel_rfl
@[go_sem] theorem fr15:Tryz.f15.results.toList=[.tmp 4]:=by kernel_rfl
@[go_sem] theorem fn15:Tryz.f15.ntmps=9:=by kernel_rfl
@[go_sem] theorem tz38:tZero Tryz.prog 38=some [.int .i64 0,.string ⟨#[]⟩,.slice none 0 0,.slice none 0 0]:=by kernel_rfl
@[go_sem] theorem tb38:tBuild Tryz.prog 38=some ([.int .i64 0,.string ⟨#[]⟩,.slice none 0 0,.slice none 0 0],[(0,1),(1,1),(2,1),(3,1)]):=by kernel_rfl
@[go_sem] theorem tb40:tBuild Tryz.prog 40=some ([.string ⟨#[]⟩,.int .i64 0,.int .i64 0,.int .i64 0,.string ⟨#[]⟩,.slice none 0 0,.slice none 0 0],[(0,1),(1,1),(2,1),(3,4)]):=by kernel_rfl
@[go_sem] theorem go35:isGo Tryz.prog 35=true:=by kernel_rfl
@[go_sem] theorem fr18:Tryz.f18.results.toList=[.cell 4 25]:=by kernel_rfl
@[go_sem] theorem fn18:Tryz.f18.ntmps=98:=by kernel_rfl
@[go_sem] theorem go36:isGo Tryz.prog 36=true:=by kernel_rfl
@[go_sem] theorem go37:isGo Tryz.prog 37=true:=by kernel_rfl
@[go_sem] theorem go38:isGo Tryz.prog 38=true:=by kernel_rfl
@[go_sem] theorem go39:isGo Tryz.prog 39=true:=by kernel_rfl
@[go_sem] theorem fr19:Tryz.f19.results.toList=[.tmp 2]:=by kernel_rfl
@[go_sem] theorem fn19:Tryz.f19.ntmps=72:=by kernel_rfl
@[go_sem] theorem tz53:tZero Tryz.prog 53=some [.map none]:=by kernel_rfl
@[go_sem] theorem go40:isGo Tryz.prog 40=true:=by kernel_rfl
@[go_sem] theorem fr20:Tryz.f20.results.toList=[.tmp 2]:=by kernel_rfl
@[go_sem] theorem fn20:Tryz.f20.ntmps=27:=by kernel_rfl
@[go_sem] theorem fr21:Tryz.f21.results.toList=[.tmp 2]:=by kernel_rfl
@[go_sem] theorem fn21:Tryz.f21.ntmps=51:=by kernel_rfl
@[go_sem] theorem go42:isGo Tryz.prog 42=true:=by kernel_rfl
@[go_sem] theorem fr22:Tryz.f22.results.toList=[.tmp 2]:=by kernel_rfl
@[go_sem] theorem fn22:Tryz.f22.ntmps=19:=by kernel_rfl
@[go_sem] theorem fr23:Tryz.f23.results.toList=[.tmp 6]:=by kernel_rfl
@[go_sem] theorem fn23:Tryz.f23.ntmps=44:=by kernel_rfl
@[go_sem] theorem fr24:Tryz.f24.results.toList=[.tmp 4]:=by kernel_rfl
@[go_sem] theorem fn24:Tryz.f24.ntmps=21:=by kernel_rfl
@[go_sem] theorem go43:isGo Tryz.prog 43=true:=by kernel_rfl
@[go_sem] theorem fr25:Tryz.f25.results.toList=[.tmp 2]:=by kernel_rfl
@[go_sem] theorem fn25:Tryz.f25.ntmps=16:=by kernel_rfl
@[go_sem] theorem fr26:Tryz.f26.results.toList=[.tmp 2]:=by kernel_rfl
@[go_sem] theorem fn26:Tryz.f26.ntmps=6:=by kernel_rfl
@[go_sem] theorem ty76_f0:tField Tryz.prog 76 0=some (0,22):=by kernel_rfl
@[go_sem] theorem ty76_f1:tField Tryz.prog 76 1=some (1,3):=by kernel_rfl
@[go_sem] theorem ty76_f2:tField Tryz.prog 76 2=some (2,3):=by kernel_rfl
@[go_sem] theorem tb76:tBuild Tryz.prog 76=some ([.slice none 0 0,.int .i64 0,.int .i64 0],[(0,1),(1,1),(2,1)]):=by kernel_rfl
@[go_sem] theorem fr27:Tryz.f27.results.toList=[.tmp 2]:=by kernel_rfl
@[go_sem] theorem fn27:Tryz.f27.ntmps=32:=by kernel_rfl
@[go_sem] theorem fr28:Tryz.f28.results.toList=[.tmp 2]:=by kernel_rfl
@[go_sem] theorem fn28:Tryz.f28.ntmps=58:=by kernel_rfl
@[go_sem] theorem go44:isGo Tryz.prog 44=true:=by kernel_rfl
@[go_sem] theorem go45:isGo Tryz.prog 45=true:=by kernel_rfl
@[go_sem] theorem fr29:Tryz.f29.results.toList=[.tmp 2,.tmp 3]:=by kernel_rfl
@[go_sem] theorem fn29:Tryz.f29.ntmps=99:=by kernel_rfl
@[go_sem] theorem go46:isGo Tryz.prog 46=true:=by kernel_rfl
@[go_sem] theorem go47:isGo Tryz.prog 47=true:=by kernel_rfl
@[go_sem] theorem go48:isGo Tryz.prog 48=true:=by kernel_rfl
@[go_sem] theorem fr30:Tryz.f30.results.toList=[.cell 2 40,.tmp 3]:=by kernel_rfl
@[go_sem] theorem fn30:Tryz.f30.ntmps=99:=by kernel_rfl
@[go_sem] theorem go49:isGo Tryz.prog 49=true:=by kernel_rfl
@[go_sem] theorem go50:isGo Tryz.prog 50=true:=by kernel_rfl
@[go_sem] theorem go51:isGo Tryz.prog 51=true:=by kernel_rfl
@[go_sem] theorem go52:isGo Tryz.prog 52=true:=by kernel_rfl
@[go_sem] theorem fr31:Tryz.f31.results.toList=[.tmp 2]:=by kernel_rfl
@[go_sem] theorem fn31:Tryz.f31.ntmps=60:=by kernel_rfl
@[go_sem] theorem fr32:Tryz.f32.results.toList=[.tmp 4]:=by kernel_rfl
@[go_sem] theorem fn32:Tryz.f32.ntmps=12:=by kernel_rfl
@[go_sem] theorem fr33:Tryz.f33.results.toList=[.tmp 4]:=by kernel_rfl
@[go_sem] theorem fn33:Tryz.f33.ntmps=11:=by kernel_rfl
@[go_sem] theorem go54:isGo Tryz.prog 54=true:=by kernel_rfl
@[go_sem] theorem go55:isGo Tryz.prog 55=true:=by kernel_rfl
@[go_sem] theorem go56:isGo Tryz.prog 56=true:=by kernel_rfl
@[go_sem] theorem fr35:Tryz.f35.results.toList=[.cell 10 38]:=by kernel_rfl
@[go_sem] theorem fn35:Tryz.f35.ntmps=87:=by kernel_rfl
@[go_sem] theorem go57:isGo Tryz.prog 57=true:=by kernel_rfl
@[go_sem] theorem fr36:Tryz.f36.results.toList=[.tmp 2]:=by kernel_rfl
@[go_sem] theorem fn36:Tryz.f36.ntmps=16:=by kernel_rfl
@[go_sem] theorem ty94_m:tMap Tryz.prog 94=some (false,.int .i64 0):=by kernel_rfl
@[go_sem] theorem go58:isGo Tryz.prog 58=true:=by kernel_rfl
@[go_sem] theorem fr37:Tryz.f37.results.toList=[.tmp 4]:=by kernel_rfl
@[go_sem] theorem fn37:Tryz.f37.ntmps=142:=by kernel_rfl
@[go_sem] theorem go59:isGo Tryz.prog 59=true:=by kernel_rfl
@[go_sem] theorem fr38:Tryz.f38.results.toList=[.tmp 4]:=by kernel_rfl
@[go_sem] theorem fn38:Tryz.f38.ntmps=18:=by kernel_rfl
@[go_sem] theorem tz4:tZero Tryz.prog 4=some [.bool false]:=by kernel_rfl
@[go_sem] theorem fr39:Tryz.f39.results.toList=[.tmp 4]:=by kernel_rfl
@[go_sem] theorem fn39:Tryz.f39.ntmps=10:=by kernel_rfl
@[go_sem] theorem fr40:Tryz.f40.results.toList=[]:=by kernel_rfl
@[go_sem] theorem fn40:Tryz.f40.ntmps=20:=by kernel_rfl
@[go_sem] theorem fr41:Tryz.f41.results.toList=[]:=by kernel_rfl
@[go_sem] theorem fn41:Tryz.f41.ntmps=12:=by kernel_rfl
@[go_sem] theorem ty97_a:tAgg Tryz.prog 97=some false:=by kernel_rfl
@[go_sem] theorem ty97_s:tSize Tryz.prog 97=some 1:=by kernel_rfl
@[go_sem] theorem go62:isGo Tryz.prog 62=true:=by kernel_rfl
@[go_sem] theorem fr43:Tryz.f43.results.toList=[.tmp 2]:=by kernel_rfl
@[go_sem] theorem fn43:Tryz.f43.ntmps=5:=by kernel_rfl
@[go_sem] theorem fr44:Tryz.f44.results.toList=[.tmp 2]:=by kernel_rfl
@[go_sem] theorem fn44:Tryz.f44.ntmps=21:=by kernel_rfl
@[go_sem] theorem fr45:Tryz.f45.results.toList=[.tmp 6]:=by kernel_rfl
@[go_sem] theorem fn45:Tryz.f45.ntmps=15:=by kernel_rfl
@[go_sem] theorem go64:isGo Tryz.prog 64=true:=by kernel_rfl
@[go_sem] theorem go65:isGo Tryz.prog 65=true:=by kernel_rfl
@[go_sem] theorem fr46:Tryz.f46.results.toList=[.tmp 2,.tmp 3,.tmp 4]:=by kernel_rfl
@[go_sem] theorem fn46:Tryz.f46.ntmps=77:=by kernel_rfl
@[go_sem] theorem fr47:Tryz.f47.results.toList=[.tmp 2]:=by kernel_rfl
@[go_sem] theorem fn47:Tryz.f47.ntmps=44:=by kernel_rfl
@[go_sem] theorem tz90:tZero Tryz.prog 90=some [.int .i64 0,.int .i64 0,.string ⟨#[]⟩,.slice none 0 0]:=by kernel_rfl
@[go_sem] theorem go66:isGo Tryz.prog 66=true:=by kernel_rfl
@[go_sem] theorem go67:isGo Tryz.prog 67=true:=by kernel_rfl
@[go_sem] theorem fr48:Tryz.f48.results.toList=[.cell 4 38,.tmp 5,.tmp 6]:=by kernel_rfl
@[go_sem] theorem fn48:Tryz.f48.ntmps=152:=by kernel_rfl
@[go_sem] theorem fr49:Tryz.f49.results.toList=[.tmp 4]:=by kernel_rfl
@[go_sem] theorem fn49:Tryz.f49.ntmps=21:=by kernel_rfl
@[go_sem] theorem fr50:Tryz.f50.results.toList=[.tmp 2]:=by kernel_rfl
@[go_sem] theorem fn50:Tryz.f50.ntmps=17:=by kernel_rfl
@[go_sem] theorem go68:isGo Tryz.prog 68=true:=by kernel_rfl
@[go_sem] theorem go69:isGo Tryz.prog 69=true:=by kernel_rfl
@[go_sem] theorem go70:isGo Tryz.prog 70=true:=by kernel_rfl
@[go_sem] theorem fr51:Tryz.f51.results.toList=[.tmp 6]:=by kernel_rfl
@[go_sem] theorem fn51:Tryz.f51.ntmps=32:=by kernel_rfl
@[go_sem] theorem go71:isGo Tryz.prog 71=true:=by kernel_rfl
@[go_sem] theorem fr52:Tryz.f52.results.toList=[.tmp 2]:=by kernel_rfl
@[go_sem] theorem fn52:Tryz.f52.ntmps=8:=by kernel_rfl
@[go_sem] theorem go72:isGo Tryz.prog 72=true:=by kernel_rfl
@[go_sem] theorem fr54:Tryz.f54.results.toList=[.cell 6 38]:=by kernel_rfl
@[go_sem] theorem fn54:Tryz.f54.ntmps=54:=by kernel_rfl
@[go_sem] theorem go73:isGo Tryz.prog 73=true:=by kernel_rfl
@[go_sem] theorem go74:isGo Tryz.prog 74=true:=by kernel_rfl
@[go_sem] theorem go75:isGo Tryz.prog 75=true:=by kernel_rfl
@[go_sem] theorem fr55:Tryz.f55.results.toList=[.cell 6 90]:=by kernel_rfl
@[go_sem] theorem fn55:Tryz.f55.ntmps=42:=by kernel_rfl
@[go_sem] theorem fr56:Tryz.f56.results.toList=[.cell 6 38]:=by kernel_rfl
@[go_sem] theorem fn56:Tryz.f56.ntmps=11:=by kernel_rfl
@[go_sem] theorem fr57:Tryz.f57.results.toList=[.tmp 2]:=by kernel_rfl
@[go_sem] theorem fn57:Tryz.f57.ntmps=57:=by kernel_rfl
@[go_sem] theorem go76:isGo Tryz.prog 76=true:=by kernel_rfl
@[go_sem] theorem fr58:Tryz.f58.results.toList=[.tmp 2]:=by kernel_rfl
@[go_sem] theorem fn58:Tryz.f58.ntmps=15:=by kernel_rfl
@[go_sem] theorem fr59:Tryz.f59.results.toList=[.tmp 2]:=by kernel_rfl
@[go_sem] theorem fn59:Tryz.f59.ntmps=10:=by kernel_rfl
@[go_sem] theorem fr60:Tryz.f60.results.toList=[]:=by kernel_rfl
@[go_sem] theorem fn60:Tryz.f60.ntmps=26:=by kernel_rfl
@[go_sem] theorem fr62:Tryz.f62.results.toList=[.tmp 4]:=by kernel_rfl
@[go_sem] theorem fn62:Tryz.f62.ntmps=10:=by kernel_rfl
@[go_sem] theorem fr63:Tryz.f63.results.toList=[.tmp 2]:=by kernel_rfl
@[go_sem] theorem fn63:Tryz.f63.ntmps=5:=by kernel_rfl
@[go_sem] theorem fr64:Tryz.f64.results.toList=[.tmp 2,.tmp 3]:=by kernel_rfl
@[go_sem] theorem fn64:Tryz.f64.ntmps=65:=by kernel_rfl
@[go_sem] theorem fr65:Tryz.f65.results.toList=[.tmp 2]:=by kernel_rfl
@[go_sem] theorem fn65:Tryz.f65.ntmps=44:=by kernel_rfl
@[go_sem] theorem fr66:Tryz.f66.results.toList=[.tmp 0]:=by kernel_rfl
@[go_sem] theorem fn66:Tryz.f66.ntmps=2:=by kernel_rfl
@[go_sem] theorem tb90:tBuild Tryz.prog 90=some ([.int .i64 0,.int .i64 0,.string ⟨#[]⟩,.slice none 0 0],[(0,1),(1,1),(2,1),(3,1)]):=by kernel_rfl
@[go_sem] theorem go83:isGo Tryz.prog 83=true:=by kernel_rfl
@[go_sem] theorem go84:isGo Tryz.prog 84=true:=by kernel_rfl
@[go_sem] theorem fr67:Tryz.f67.results.toList=[.cell 4 90,.tmp 5,.tmp 6]:=by kernel_rfl
@[go_sem] theorem fn67:Tryz.f67.ntmps=136:=by kernel_rfl
@[go_sem] theorem go85:isGo Tryz.prog 85=true:=by kernel_rfl
@[go_sem] theorem fr68:Tryz.f68.results.toList=[.tmp 2]:=by kernel_rfl
@[go_sem] theorem fn68:Tryz.f68.ntmps=10:=by kernel_rfl
@[go_sem] theorem fr69:Tryz.f69.results.toList=[.tmp 4]:=by kernel_rfl
@[go_sem] theorem fn69:Tryz.f69.ntmps=41:=by kernel_rfl
@[go_sem] theorem go86:isGo Tryz.prog 86=true:=by kernel_rfl
@[go_sem] theorem fr70:Tryz.f70.results.toList=[.tmp 4]:=by kernel_rfl
@[go_sem] theorem fn70:Tryz.f70.ntmps=32:=by kernel_rfl
@[go_sem] theorem fr71:Tryz.f71.results.toList=[.tmp 4]:=by kernel_rfl
@[go_sem] theorem fn71:Tryz.f71.ntmps=28:=by kernel_rfl
@[go_sem] theorem fr72:Tryz.f72.results.toList=[.cell 2 90]:=by kernel_rfl
@[go_sem] theorem fn72:Tryz.f72.ntmps=5:=by kernel_rfl
@[go_sem] theorem fr73:Tryz.f73.results.toList=[.cell 4 90]:=by kernel_rfl
@[go_sem] theorem fn73:Tryz.f73.ntmps=9:=by kernel_rfl
@[go_sem] theorem fr74:Tryz.f74.results.toList=[.cell 2 90]:=by kernel_rfl
@[go_sem] theorem fn74:Tryz.f74.ntmps=5:=by kernel_rfl
@[go_sem] theorem go87:isGo Tryz.prog 87=true:=by kernel_rfl
@[go_sem] theorem fr75:Tryz.f75.results.toList=[.cell 2 90]:=by kernel_rfl
@[go_sem] theorem fn75:Tryz.f75.ntmps=19:=by kernel_rfl
@[go_sem] theorem go88:isGo Tryz.prog 88=true:=by kernel_rfl
@[go_sem] theorem fr76:Tryz.f76.results.toList=[.tmp 2]:=by kernel_rfl
@[go_sem] theorem fn76:Tryz.f76.ntmps=6:=by kernel_rfl
@[go_sem] theorem go78:isGo Tryz.prog 78=true:=by kernel_rfl
@[go_sem] theorem fr77:Tryz.f77.results.toList=[]:=by kernel_rfl
@[go_sem] theorem fn77:Tryz.f77.ntmps=16:=by kernel_rfl
@[go_sem] theorem fr78:Tryz.f78.results.toList=[]:=by kernel_rfl
@[go_sem] theorem fn78:Tryz.f78.ntmps=26:=by kernel_rfl
@[go_sem] theorem fr79:Tryz.f79.results.toList=[]:=by kernel_rfl
@[go_sem] theorem fn79:Tryz.f79.ntmps=5:=by kernel_rfl
@[go_sem] theorem fr82:Tryz.f82.results.toList=[]:=by kernel_rfl
@[go_sem] theorem fn82:Tryz.f82.ntmps=11:=by kernel_rfl
@[go_sem] theorem go100:isGo Tryz.prog 100=true:=by kernel_rfl
@[go_sem] theorem fr83:Tryz.f83.results.toList=[.cell 2 90,.tmp 3]:=by kernel_rfl
@[go_sem] theorem fn83:Tryz.f83.ntmps=39:=by kernel_rfl
@[go_sem] theorem fr84:Tryz.f84.results.toList=[.cell 4 90]:=by kernel_rfl
@[go_sem] theorem fn84:Tryz.f84.ntmps=20:=by kernel_rfl
@[go_sem] theorem go101:isGo Tryz.prog 101=true:=by kernel_rfl
@[go_sem] theorem fr85:Tryz.f85.results.toList=[.tmp 2]:=by kernel_rfl
@[go_sem] theorem fn85:Tryz.f85.ntmps=106:=by kernel_rfl
@[go_sem] theorem go102:isGo Tryz.prog 102=true:=by kernel_rfl
@[go_sem] theorem fr86:Tryz.f86.results.toList=[.tmp 4]:=by kernel_rfl
@[go_sem] theorem fn86:Tryz.f86.ntmps=26:=by kernel_rfl
@[go_sem] theorem fr87:Tryz.f87.results.toList=[.cell 2 90]:=by kernel_rfl
@[go_sem] theorem fn87:Tryz.f87.ntmps=5:=by kernel_rfl
@[go_sem] theorem fr88:Tryz.f88.results.toList=[.tmp 4]:=by kernel_rfl
@[go_sem] theorem fn88:Tryz.f88.ntmps=107:=by kernel_rfl
@[go_sem] theorem fr100:Tryz.f100.results.toList=[.tmp 2]:=by kernel_rfl
@[go_sem] theorem fn100:Tryz.f100.ntmps=76:=by kernel_rfl
@[go_sem] theorem go109:isGo Tryz.prog 109=true:=by kernel_rfl
@[go_sem] theorem fr101:Tryz.f101.results.toList=[.tmp 2]:=by kernel_rfl
@[go_sem] theorem fn101:Tryz.f101.ntmps=15:=by kernel_rfl
@[go_sem] theorem fr102:Tryz.f102.results.toList=[.tmp 4]:=by kernel_rfl
@[go_sem] theorem fn102:Tryz.f102.ntmps=49:=by kernel_rfl
@[go_sem] theorem go111:isGo Tryz.prog 111=true:=by kernel_rfl
@[go_sem] theorem fr109:Tryz.f109.results.toList=[.tmp 2]:=by kernel_rfl
@[go_sem] theorem fn109:Tryz.f109.ntmps=10:=by kernel_rfl
@[go_sem] theorem fr111:Tryz.f111.results.toList=[.tmp 4]:=by kernel_rfl
@[go_sem] theorem fn111:Tryz.f111.ntmps=28:=by kernel_rfl
end Go.Proofs.YtjbidjeijodmnaaGreat
