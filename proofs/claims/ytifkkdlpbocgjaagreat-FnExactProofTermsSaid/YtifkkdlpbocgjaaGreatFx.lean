import Derived.Test.YtifkkdlpbocgjaaGreatP1
import Derived.Test.YtifkkdlpbocgjaaGreatA5
import Derived.Test.YtifkkdlpbocgjaaGreatProg
import Derived.KernelRfl
namespace Go.Proofs.YtifkkdlpbocgjaaGreat
open Go.Abs
theorem mixed:Tryz.prog.follows .mixedOrders=true:=by kernel_rfl
@[go_sem] theorem ty3_a:tAgg Tryz.prog 3=some false:=by kernel_rfl
@[go_sem] theorem ty3_s:tSize Tryz.prog 3=some 1:=by kernel_rfl
@[go_sem] theorem ty3_n:tInt Tryz.prog 3=some Go.IntKind.i64:=by kernel_rfl
@[go_sem] theorem ty3_u:(Tryz.prog.underlying 3).isSome=true:=by kernel_rfl
@[go_sem] theorem ty4_a:tAgg Tryz.prog 4=some false:=by kernel_rfl
@[go_sem] theorem ty4_s:tSize Tryz.prog 4=some 1:=by kernel_rfl
@[go_sem] theorem ty9_a:tAgg Tryz.prog 9=some false:=by kernel_rfl
@[go_sem] theorem ty9_s:tSize Tryz.prog 9=some 1:=by kernel_rfl
@[go_sem] theorem ty9_t:tIsStr Tryz.prog 9=true:=by kernel_rfl
@[go_sem] theorem ty22_a:tAgg Tryz.prog 22=some false:=by kernel_rfl
@[go_sem] theorem ty22_s:tSize Tryz.prog 22=some 1:=by kernel_rfl
@[go_sem] theorem ty22_i:tIsSlice Tryz.prog 22=true:=by kernel_rfl
@[go_sem] theorem ty22_e:tElem Tryz.prog 22=some 71:=by kernel_rfl
@[go_sem] theorem ty24_a:tAgg Tryz.prog 24=some true:=by kernel_rfl
@[go_sem] theorem ty24_s:tSize Tryz.prog 24=some 1:=by kernel_rfl
@[go_sem] theorem ty24_f0:tField Tryz.prog 24 0=some (0,22):=by kernel_rfl
@[go_sem] theorem ty25_a:tAgg Tryz.prog 25=some false:=by kernel_rfl
@[go_sem] theorem ty25_s:tSize Tryz.prog 25=some 1:=by kernel_rfl
@[go_sem] theorem ty25_i:tIsSlice Tryz.prog 25=true:=by kernel_rfl
@[go_sem] theorem ty25_e:tElem Tryz.prog 25=some 74:=by kernel_rfl
@[go_sem] theorem ty26_a:tAgg Tryz.prog 26=some false:=by kernel_rfl
@[go_sem] theorem ty26_s:tSize Tryz.prog 26=some 1:=by kernel_rfl
@[go_sem] theorem ty26_i:tIsSlice Tryz.prog 26=true:=by kernel_rfl
@[go_sem] theorem ty26_e:tElem Tryz.prog 26=some 28:=by kernel_rfl
@[go_sem] theorem ty28_a:tAgg Tryz.prog 28=some true:=by kernel_rfl
@[go_sem] theorem ty28_s:tSize Tryz.prog 28=some 4:=by kernel_rfl
@[go_sem] theorem ty28_f0:tField Tryz.prog 28 0=some (0,9):=by kernel_rfl
@[go_sem] theorem ty28_f1:tField Tryz.prog 28 1=some (1,3):=by kernel_rfl
@[go_sem] theorem ty28_f2:tField Tryz.prog 28 2=some (2,25):=by kernel_rfl
@[go_sem] theorem ty28_f3:tField Tryz.prog 28 3=some (3,26):=by kernel_rfl
@[go_sem] theorem ty31_a:tAgg Tryz.prog 31=some false:=by kernel_rfl
@[go_sem] theorem ty31_s:tSize Tryz.prog 31=some 1:=by kernel_rfl
@[go_sem] theorem ty31_i:tIsSlice Tryz.prog 31=true:=by kernel_rfl
@[go_sem] theorem ty31_e:tElem Tryz.prog 31=some 60:=by kernel_rfl
@[go_sem] theorem ty31_l:tSlice Tryz.prog 31=some (60,4,56):=by kernel_rfl
@[go_sem] theorem ty31_t:tIsStr Tryz.prog 31=false:=by kernel_rfl
@[go_sem] theorem ty31_u:(Tryz.prog.underlying 31).isSome=true:=by kernel_rfl
@[go_sem] theorem ty33_a:tAgg Tryz.prog 33=some false:=by kernel_rfl
@[go_sem] theorem ty33_s:tSize Tryz.prog 33=some 1:=by kernel_rfl
@[go_sem] theorem ty33_i:tIsSlice Tryz.prog 33=true:=by kernel_rfl
@[go_sem] theorem ty33_e:tElem Tryz.prog 33=some 83:=by kernel_rfl
@[go_sem] theorem ty33_l:tSlice Tryz.prog 33=some (83,7,104):=by kernel_rfl
@[go_sem] theorem ty35_a:tAgg Tryz.prog 35=some true:=by kernel_rfl
@[go_sem] theorem ty35_s:tSize Tryz.prog 35=some 1:=by kernel_rfl
@[go_sem] theorem ty35_f0:tField Tryz.prog 35 0=some (0,33):=by kernel_rfl
@[go_sem] theorem ty37_a:tAgg Tryz.prog 37=some false:=by kernel_rfl
@[go_sem] theorem ty37_s:tSize Tryz.prog 37=some 1:=by kernel_rfl
@[go_sem] theorem ty37_i:tIsSlice Tryz.prog 37=true:=by kernel_rfl
@[go_sem] theorem ty37_e:tElem Tryz.prog 37=some 39:=by kernel_rfl
@[go_sem] theorem ty37_l:tSlice Tryz.prog 37=some (39,4,72):=by kernel_rfl
@[go_sem] theorem ty39_a:tAgg Tryz.prog 39=some true:=by kernel_rfl
@[go_sem] theorem ty39_s:tSize Tryz.prog 39=some 4:=by kernel_rfl
@[go_sem] theorem ty39_f0:tField Tryz.prog 39 0=some (0,9):=by kernel_rfl
@[go_sem] theorem ty39_f1:tField Tryz.prog 39 1=some (1,3):=by kernel_rfl
@[go_sem] theorem ty39_f2:tField Tryz.prog 39 2=some (2,31):=by kernel_rfl
@[go_sem] theorem ty39_f3:tField Tryz.prog 39 3=some (3,37):=by kernel_rfl
@[go_sem] theorem ty60_a:tAgg Tryz.prog 60=some true:=by kernel_rfl
@[go_sem] theorem ty60_s:tSize Tryz.prog 60=some 4:=by kernel_rfl
@[go_sem] theorem ty60_f0:tField Tryz.prog 60 0=some (0,3):=by kernel_rfl
@[go_sem] theorem ty60_f1:tField Tryz.prog 60 1=some (1,3):=by kernel_rfl
@[go_sem] theorem ty60_f2:tField Tryz.prog 60 2=some (2,9):=by kernel_rfl
@[go_sem] theorem ty60_f3:tField Tryz.prog 60 3=some (3,31):=by kernel_rfl
@[go_sem] theorem ty67_a:tAgg Tryz.prog 67=some false:=by kernel_rfl
@[go_sem] theorem ty67_s:tSize Tryz.prog 67=some 1:=by kernel_rfl
@[go_sem] theorem ty67_i:tIsSlice Tryz.prog 67=true:=by kernel_rfl
@[go_sem] theorem ty67_e:tElem Tryz.prog 67=some 69:=by kernel_rfl
@[go_sem] theorem ty69_a:tAgg Tryz.prog 69=some true:=by kernel_rfl
@[go_sem] theorem ty69_s:tSize Tryz.prog 69=some 4:=by kernel_rfl
@[go_sem] theorem ty69_f0:tField Tryz.prog 69 0=some (0,3):=by kernel_rfl
@[go_sem] theorem ty69_f1:tField Tryz.prog 69 1=some (1,9):=by kernel_rfl
@[go_sem] theorem ty69_f2:tField Tryz.prog 69 2=some (2,25):=by kernel_rfl
@[go_sem] theorem ty69_f3:tField Tryz.prog 69 3=some (3,67):=by kernel_rfl
@[go_sem] theorem ty71_a:tAgg Tryz.prog 71=some true:=by kernel_rfl
@[go_sem] theorem ty71_s:tSize Tryz.prog 71=some 7:=by kernel_rfl
@[go_sem] theorem ty71_f0:tField Tryz.prog 71 0=some (0,9):=by kernel_rfl
@[go_sem] theorem ty71_f1:tField Tryz.prog 71 1=some (1,3):=by kernel_rfl
@[go_sem] theorem ty71_f2:tField Tryz.prog 71 2=some (2,3):=by kernel_rfl
@[go_sem] theorem ty71_f3:tField Tryz.prog 71 3=some (3,69):=by kernel_rfl
@[go_sem] theorem ty74_a:tAgg Tryz.prog 74=some true:=by kernel_rfl
@[go_sem] theorem ty74_s:tSize Tryz.prog 74=some 4:=by kernel_rfl
@[go_sem] theorem ty74_f0:tField Tryz.prog 74 0=some (0,3):=by kernel_rfl
@[go_sem] theorem ty74_f1:tField Tryz.prog 74 1=some (1,3):=by kernel_rfl
@[go_sem] theorem ty74_f2:tField Tryz.prog 74 2=some (2,9):=by kernel_rfl
@[go_sem] theorem ty74_f3:tField Tryz.prog 74 3=some (3,25):=by kernel_rfl
@[go_sem] theorem ty79_a:tAgg Tryz.prog 79=some false:=by kernel_rfl
@[go_sem] theorem ty79_s:tSize Tryz.prog 79=some 1:=by kernel_rfl
@[go_sem] theorem ty79_i:tIsSlice Tryz.prog 79=true:=by kernel_rfl
@[go_sem] theorem ty79_e:tElem Tryz.prog 79=some 81:=by kernel_rfl
@[go_sem] theorem ty79_l:tSlice Tryz.prog 79=some (81,4,72):=by kernel_rfl
@[go_sem] theorem ty79_t:tIsStr Tryz.prog 79=false:=by kernel_rfl
@[go_sem] theorem ty79_u:(Tryz.prog.underlying 79).isSome=true:=by kernel_rfl
@[go_sem] theorem ty81_a:tAgg Tryz.prog 81=some true:=by kernel_rfl
@[go_sem] theorem ty81_s:tSize Tryz.prog 81=some 4:=by kernel_rfl
@[go_sem] theorem ty81_f0:tField Tryz.prog 81 0=some (0,3):=by kernel_rfl
@[go_sem] theorem ty81_f1:tField Tryz.prog 81 1=some (1,9):=by kernel_rfl
@[go_sem] theorem ty81_f2:tField Tryz.prog 81 2=some (2,31):=by kernel_rfl
@[go_sem] theorem ty81_f3:tField Tryz.prog 81 3=some (3,79):=by kernel_rfl
@[go_sem] theorem ty83_a:tAgg Tryz.prog 83=some true:=by kernel_rfl
@[go_sem] theorem ty83_s:tSize Tryz.prog 83=some 7:=by kernel_rfl
@[go_sem] theorem ty83_f0:tField Tryz.prog 83 0=some (0,9):=by kernel_rfl
@[go_sem] theorem ty83_f1:tField Tryz.prog 83 1=some (1,3):=by kernel_rfl
@[go_sem] theorem ty83_f2:tField Tryz.prog 83 2=some (2,3):=by kernel_rfl
@[go_sem] theorem ty83_f3:tField Tryz.prog 83 3=some (3,81):=by kernel_rfl
@[go_sem] theorem tz35:tZero Tryz.prog 35=some [.slice none 0 0]:=by kernel_rfl
@[go_sem] theorem tz39:tZero Tryz.prog 39=some [.string ⟨#[]⟩,.int .i64 0,.slice none 0 0,.slice none 0 0]:=by kernel_rfl
@[go_sem] theorem go4:isGo Tryz.prog 4=true:=by kernel_rfl
@[go_sem] theorem go5:isGo Tryz.prog 5=true:=by kernel_rfl
@[go_sem] theorem go6:isGo Tryz.prog 6=true:=by kernel_rfl
@[go_sem] theorem go7:isGo Tryz.prog 7=true:=by kernel_rfl
@[go_sem] theorem go8:isGo Tryz.prog 8=true:=by kernel_rfl
@[go_sem] theorem go9:isGo Tryz.prog 9=true:=by kernel_rfl
@[go_sem] theorem go10:isGo Tryz.prog 10=true:=by kernel_rfl
@[go_sem] theorem go11:isGo Tryz.prog 11=true:=by kernel_rfl
@[go_sem] theorem go12:isGo Tryz.prog 12=true:=by kernel_rfl
@[go_sem] theorem go13:isGo Tryz.prog 13=true:=by kernel_rfl
@[go_sem] theorem go14:isGo Tryz.prog 14=true:=by kernel_rfl
@[go_sem] theorem go15:isGo Tryz.prog 15=true:=by kernel_rfl
@[go_sem] theorem go16:isGo Tryz.prog 16=true:=by kernel_rfl
@[go_sem] theorem fr3:Tryz.f3.results.toList=[.tmp 4]:=by kernel_rfl
@[go_sem] theorem fn3:Tryz.f3.ntmps=92:=by kernel_rfl
@[go_sem] theorem go17:isGo Tryz.prog 17=true:=by kernel_rfl
@[go_sem] theorem fr4:Tryz.f4.results.toList=[.tmp 4]:=by kernel_rfl
@[go_sem] theorem fn4:Tryz.f4.ntmps=12:=by kernel_rfl
@[go_sem] theorem go18:isGo Tryz.prog 18=true:=by kernel_rfl
@[go_sem] theorem go19:isGo Tryz.prog 19=true:=by kernel_rfl
@[go_sem] theorem fr5:Tryz.f5.results.toList=[.tmp 4]:=by kernel_rfl
@[go_sem] theorem fn5:Tryz.f5.ntmps=25:=by kernel_rfl
@[go_sem] theorem go20:isGo Tryz.prog 20=true:=by kernel_rfl
@[go_sem] theorem go21:isGo Tryz.prog 21=true:=by kernel_rfl
@[go_sem] theorem go22:isGo Tryz.prog 22=true:=by kernel_rfl
@[go_sem] theorem fr6:Tryz.f6.results.toList=[.tmp 4]:=by kernel_rfl
@[go_sem] theorem fn6:Tryz.f6.ntmps=12:=by kernel_rfl
@[go_sem] theorem go23:isGo Tryz.prog 23=true:=by kernel_rfl
@[go_sem] theorem fr7:Tryz.f7.results.toList=[.cell 2 35]:=by kernel_rfl
@[go_sem] theorem fn7:Tryz.f7.ntmps=9:=by kernel_rfl
@[go_sem] theorem go24:isGo Tryz.prog 24=true:=by kernel_rfl
@[go_sem] theorem go25:isGo Tryz.prog 25=true:=by kernel_rfl
@[go_sem] theorem fr8:Tryz.f8.results.toList=[.cell 2 39]:=by kernel_rfl
@[go_sem] theorem fn8:Tryz.f8.ntmps=19:=by kernel_rfl
@[go_sem] theorem ty57_a:tAgg Tryz.prog 57=some false:=by kernel_rfl
@[go_sem] theorem ty57_s:tSize Tryz.prog 57=some 1:=by kernel_rfl
@[go_sem] theorem tz31:tZero Tryz.prog 31=some [.slice none 0 0]:=by kernel_rfl
@[go_sem] theorem tz57:tZero Tryz.prog 57=some [.nilFunc]:=by kernel_rfl
@[go_sem] theorem go26:isGo Tryz.prog 26=true:=by kernel_rfl
@[go_sem] theorem go27:isGo Tryz.prog 27=true:=by kernel_rfl
@[go_sem] theorem go28:isGo Tryz.prog 28=true:=by kernel_rfl
@[go_sem] theorem fr9:Tryz.f9.results.toList=[.tmp 4]:=by kernel_rfl
@[go_sem] theorem fn9:Tryz.f9.ntmps=18:=by kernel_rfl
@[go_sem] theorem go29:isGo Tryz.prog 29=true:=by kernel_rfl
@[go_sem] theorem fr10:Tryz.f10.results.toList=[.tmp 4]:=by kernel_rfl
@[go_sem] theorem fn10:Tryz.f10.ntmps=27:=by kernel_rfl
@[go_sem] theorem go30:isGo Tryz.prog 30=true:=by kernel_rfl
@[go_sem] theorem fr11:Tryz.f11.results.toList=[.tmp 4]:=by kernel_rfl
@[go_sem] theorem fn11:Tryz.f11.ntmps=11:=by kernel_rfl
@[go_sem] theorem go31:isGo Tryz.prog 31=true:=by kernel_rfl
@[go_sem] theorem fr12:Tryz.f12.results.toList=[.tmp 4]:=by kernel_rfl
@[go_sem] theorem fn12:Tryz.f12.ntmps=27:=by kernel_rfl
@[go_sem] theorem go32:isGo Tryz.prog 32=true:=by kernel_rfl
@[go_sem] theorem fr13:Tryz.f13.results.toList=[.tmp 4]:=by kernel_rfl
@[go_sem] theorem fn13:Tryz.f13.ntmps=10:=by kernel_rfl
@[go_sem] theorem go33:isGo Tryz.prog 33=true:=by kernel_rfl
@[go_sem] theorem fr14:Tryz.f14.results.toList=[.tmp 4]:=by kernel_rfl
@[go_sem] theorem fn14:Tryz.f14.ntmps=14:=by kernel_rfl
@[go_sem] theorem go34:isGo Tryz.prog 34=true:=by kernel_rfl
@[go_sem] theorem fr15:Tryz.f15.results.toList=[.tmp 4]:=by kernel_rfl
@[go_sem] theorem fn15:Tryz.f15.ntmps=42:=by kernel_rfl
@[go_sem] theorem fr16:Tryz.f16.results.toList=[.tmp 4]:=by kernel_rfl
@[go_sem] theorem fn16:Tryz.f16.ntmps=50:=by kernel_rfl
@[go_sem] theorem go35:isGo Tryz.prog 35=true:=by kernel_rfl
@[go_sem] theorem fr17:Tryz.f17.results.toList=[.tmp 4]:=by kernel_rfl
@[go_sem] theorem fn17:Tryz.f17.ntmps=27:=by kernel_rfl
@[go_sem] theorem go36:isGo Tryz.prog 36=true:=by kernel_rfl
@[go_sem] theorem fr18:Tryz.f18.results.toList=[.tmp 4]:=by kernel_rfl
@[go_sem] theorem fn18:Tryz.f18.ntmps=27:=by kernel_rfl
@[go_sem] theorem fr19:Tryz.f19.results.toList=[.tmp 4]:=by kernel_rfl
@[go_sem] theorem fn19:Tryz.f19.ntmps=27:=by kernel_rfl
@[go_sem] theorem go37:isGo Tryz.prog 37=true:=by kernel_rfl
@[go_sem] theorem go38:isGo Tryz.prog 38=true:=by kernel_rfl
@[go_sem] theorem go39:isGo Tryz.prog 39=true:=by kernel_rfl
@[go_sem] theorem fr20:Tryz.f20.results.toList=[.tmp 4]:=by kernel_rfl
@[go_sem] theorem fn20:Tryz.f20.ntmps=17:=by kernel_rfl
@[go_sem] theorem tz60:tZero Tryz.prog 60=some [.int .i64 0,.int .i64 0,.string ⟨#[]⟩,.slice none 0 0]:=by kernel_rfl
@[go_sem] theorem go40:isGo Tryz.prog 40=true:=by kernel_rfl
@[go_sem] theorem fr21:Tryz.f21.results.toList=[.tmp 2]:=by kernel_rfl
@[go_sem] theorem fn21:Tryz.f21.ntmps=20:=by kernel_rfl
@[go_sem] theorem go41:isGo Tryz.prog 41=true:=by kernel_rfl
@[go_sem] theorem fr22:Tryz.f22.results.toList=[.tmp 4]:=by kernel_rfl
@[go_sem] theorem fn22:Tryz.f22.ntmps=32:=by kernel_rfl
@[go_sem] theorem tz83:tZero Tryz.prog 83=some [.string ⟨#[]⟩,.int .i64 0,.int .i64 0,.int .i64 0,.string ⟨#[]⟩,.slice none 0 0,.slice none 0 0]:=by kernel_rfl
@[go_sem] theorem go42:isGo Tryz.prog 42=true:=by kernel_rfl
@[go_sem] theorem fr23:Tryz.f23.results.toList=[.tmp 2]:=by kernel_rfl
@[go_sem] theorem fn23:Tryz.f23.ntmps=23:=by kernel_rfl
@[go_sem] theorem go43:isGo Tryz.prog 43=true:=by kernel_rfl
@[go_sem] theorem fr24:Tryz.f24.results.toList=[.tmp 2]:=by kernel_rfl
@[go_sem] theorem fn24:Tryz.f24.ntmps=23:=by kernel_rfl
@[go_sem] theorem fr25:Tryz.f25.results.toList=[.tmp 2]:=by kernel_rfl
@[go_sem] theorem fn25:Tryz.f25.ntmps=23:=by kernel_rfl
@[go_sem] theorem go44:isGo Tryz.prog 44=true:=by kernel_rfl
@[go_sem] theorem go45:isGo Tryz.prog 45=true:=by kernel_rfl
@[go_sem] theorem go46:isGo Tryz.prog 46=true:=by kernel_rfl
@[go_sem] theorem fr26:Tryz.f26.results.toList=[.tmp 4]:=by kernel_rfl
@[go_sem] theorem fn26:Tryz.f26.ntmps=17:=by kernel_rfl
@[go_sem] theorem fr27:Tryz.f27.results.toList=[]:=by kernel_rfl
@[go_sem] theorem fn27:Tryz.f27.ntmps=21:=by kernel_rfl
@[go_sem] theorem ty88_a:tAgg Tryz.prog 88=some false:=by kernel_rfl
@[go_sem] theorem ty88_s:tSize Tryz.prog 88=some 1:=by kernel_rfl
@[go_sem] theorem go47:isGo Tryz.prog 47=true:=by kernel_rfl
@[go_sem] theorem go50:isGo Tryz.prog 50=true:=by kernel_rfl
@[go_sem] theorem go51:isGo Tryz.prog 51=true:=by kernel_rfl
@[go_sem] theorem fr28:Tryz.f28.results.toList=[.tmp 2]:=by kernel_rfl
@[go_sem] theorem fn28:Tryz.f28.ntmps=41:=by kernel_rfl
@[go_sem] theorem fr29:Tryz.f29.results.toList=[.tmp 4]:=by kernel_rfl
@[go_sem] theorem fn29:Tryz.f29.ntmps=26:=by kernel_rfl
@[go_sem] theorem go52:isGo Tryz.prog 52=true:=by kernel_rfl
@[go_sem] theorem fr30:Tryz.f30.results.toList=[.tmp 4]:=by kernel_rfl
@[go_sem] theorem fn30:Tryz.f30.ntmps=27:=by kernel_rfl
@[go_sem] theorem fr31:Tryz.f31.results.toList=[.tmp 4]:=by kernel_rfl
@[go_sem] theorem fn31:Tryz.f31.ntmps=27:=by kernel_rfl
@[go_sem] theorem go53:isGo Tryz.prog 53=true:=by kernel_rfl
@[go_sem] theorem fr32:Tryz.f32.results.toList=[.tmp 4]:=by kernel_rfl
@[go_sem] theorem fn32:Tryz.f32.ntmps=68:=by kernel_rfl
@[go_sem] theorem fr33:Tryz.f33.results.toList=[.tmp 4]:=by kernel_rfl
@[go_sem] theorem fn33:Tryz.f33.ntmps=42:=by kernel_rfl
@[go_sem] theorem ty5_n:tInt Tryz.prog 5=some Go.IntKind.u8:=by kernel_rfl
@[go_sem] theorem ty5_u:(Tryz.prog.underlying 5).isSome=true:=by kernel_rfl
@[go_sem] theorem ty91_l:tSlice Tryz.prog 91=some (5,1,1):=by kernel_rfl
@[go_sem] theorem ty91_b:tIsBytes Tryz.prog 91=true:=by kernel_rfl
@[go_sem] theorem fr34:Tryz.f34.results.toList=[.tmp 2]:=by kernel_rfl
@[go_sem] theorem fn34:Tryz.f34.ntmps=20:=by kernel_rfl
@[go_sem] theorem go54:isGo Tryz.prog 54=true:=by kernel_rfl
@[go_sem] theorem fr35:Tryz.f35.results.toList=[.tmp 4]:=by kernel_rfl
@[go_sem] theorem fn35:Tryz.f35.ntmps=19:=by kernel_rfl
@[go_sem] theorem fr36:Tryz.f36.results.toList=[.tmp 4]:=by kernel_rfl
@[go_sem] theorem fn36:Tryz.f36.ntmps=19:=by kernel_rfl
@[go_sem] theorem go55:isGo Tryz.prog 55=true:=by kernel_rfl
@[go_sem] theorem go56:isGo Tryz.prog 56=true:=by kernel_rfl
@[go_sem] theorem go57:isGo Tryz.prog 57=true:=by kernel_rfl
@[go_sem] theorem go58:isGo Tryz.prog 58=true:=by kernel_rfl
@[go_sem] theorem go59:isGo Tryz.prog 59=true:=by kernel_rfl
@[go_sem] theorem fr37:Tryz.f37.results.toList=[.tmp 2]:=by kernel_rfl
@[go_sem] theorem fn37:Tryz.f37.ntmps=60:=by kernel_rfl
@[go_sem] theorem go60:isGo Tryz.prog 60=true:=by kernel_rfl
@[go_sem] theorem fr38:Tryz.f38.results.toList=[.tmp 2]:=by kernel_rfl
@[go_sem] theorem fn38:Tryz.f38.ntmps=9:=by kernel_rfl
@[go_sem] theorem ty98_i:tIsSlice Tryz.prog 98=true:=by kernel_rfl
@[go_sem] theorem ty98_e:tElem Tryz.prog 98=some 79:=by kernel_rfl
@[go_sem] theorem ty98_l:tSlice Tryz.prog 98=some (79,1,24):=by kernel_rfl
@[go_sem] theorem ty98_u:(Tryz.prog.underlying 98).isSome=true:=by kernel_rfl
@[go_sem] theorem ty101_i:tIsSlice Tryz.prog 101=true:=by kernel_rfl
@[go_sem] theorem ty101_e:tElem Tryz.prog 101=some 104:=by kernel_rfl
@[go_sem] theorem ty101_l:tSlice Tryz.prog 101=some (104,5,64):=by kernel_rfl
@[go_sem] theorem ty101_u:(Tryz.prog.underlying 101).isSome=true:=by kernel_rfl
@[go_sem] theorem ty104_a:tAgg Tryz.prog 104=some true:=by kernel_rfl
@[go_sem] theorem ty104_s:tSize Tryz.prog 104=some 5:=by kernel_rfl
@[go_sem] theorem ty104_f0:tField Tryz.prog 104 0=some (0,3):=by kernel_rfl
@[go_sem] theorem ty104_f1:tField Tryz.prog 104 1=some (1,60):=by kernel_rfl
@[go_sem] theorem ty106_a:tAgg Tryz.prog 106=some true:=by kernel_rfl
@[go_sem] theorem ty106_s:tSize Tryz.prog 106=some 2:=by kernel_rfl
@[go_sem] theorem ty106_f0:tField Tryz.prog 106 0=some (0,9):=by kernel_rfl
@[go_sem] theorem ty106_f1:tField Tryz.prog 106 1=some (1,31):=by kernel_rfl
@[go_sem] theorem ty107_a:tAgg Tryz.prog 107=some false:=by kernel_rfl
@[go_sem] theorem ty107_s:tSize Tryz.prog 107=some 1:=by kernel_rfl
@[go_sem] theorem ty107_i:tIsSlice Tryz.prog 107=true:=by kernel_rfl
@[go_sem] theorem ty107_e:tElem Tryz.prog 107=some 106:=by kernel_rfl
@[go_sem] theorem ty107_l:tSlice Tryz.prog 107=some (106,2,40):=by kernel_rfl
@[go_sem] theorem ty107_t:tIsStr Tryz.prog 107=false:=by kernel_rfl
@[go_sem] theorem ty107_u:(Tryz.prog.underlying 107).isSome=true:=by kernel_rfl
@[go_sem] theorem ty109_a:tAgg Tryz.prog 109=some true:=by kernel_rfl
@[go_sem] theorem ty109_s:tSize Tryz.prog 109=some 6:=by kernel_rfl
@[go_sem] theorem ty109_f0:tField Tryz.prog 109 0=some (0,106):=by kernel_rfl
@[go_sem] theorem ty109_f2:tField Tryz.prog 109 2=some (3,31):=by kernel_rfl
@[go_sem] theorem ty109_f3:tField Tryz.prog 109 3=some (4,107):=by kernel_rfl
@[go_sem] theorem ty109_f4:tField Tryz.prog 109 4=some (5,107):=by kernel_rfl
@[go_sem] theorem tz109:tZero Tryz.prog 109=some [.string ⟨#[]⟩,.slice none 0 0,.int .i64 0,.slice none 0 0,.slice none 0 0,.slice none 0 0]:=by kernel_rfl
@[go_sem] theorem tb104:tBuild Tryz.prog 104=some ([.int .i64 0,.int .i64 0,.int .i64 0,.string ⟨#[]⟩,.slice none 0 0],[(0,1),(1,4)]):=by kernel_rfl
@[go_sem] theorem go61:isGo Tryz.prog 61=true:=by kernel_rfl
@[go_sem] theorem go62:isGo Tryz.prog 62=true:=by kernel_rfl
@[go_sem] theorem go63:isGo Tryz.prog 63=true:=by kernel_rfl
@[go_sem] theorem go64:isGo Tryz.prog 64=true:=by kernel_rfl
@[go_sem] theorem go65:isGo Tryz.prog 65=true:=by kernel_rfl
@[go_sem] theorem fr39:Tryz.f39.results.toList=[.tmp 4]:=by kernel_rfl
@[go_sem] theorem fn39:Tryz.f39.ntmps=139:=by kernel_rfl
@[go_sem] theorem tb60:tBuild Tryz.prog 60=some ([.int .i64 0,.int .i64 0,.string ⟨#[]⟩,.slice none 0 0],[(0,1),(1,1),(2,1),(3,1)]):=by kernel_rfl
@[go_sem] theorem fr40:Tryz.f40.results.toList=[.cell 2 60]:=by kernel_rfl
@[go_sem] theorem fn40:Tryz.f40.ntmps=29:=by kernel_rfl
@[go_sem] theorem go66:isGo Tryz.prog 66=true:=by kernel_rfl
@[go_sem] theorem go67:isGo Tryz.prog 67=true:=by kernel_rfl
@[go_sem] theorem fr41:Tryz.f41.results.toList=[.tmp 4]:=by kernel_rfl
@[go_sem] theorem fn41:Tryz.f41.ntmps=50:=by kernel_rfl
@[go_sem] theorem go68:isGo Tryz.prog 68=true:=by kernel_rfl
@[go_sem] theorem fr42:Tryz.f42.results.toList=[.cell 2 83]:=by kernel_rfl
@[go_sem] theorem fn42:Tryz.f42.ntmps=18:=by kernel_rfl
@[go_sem] theorem fr43:Tryz.f43.results.toList=[.cell 2 60]:=by kernel_rfl
@[go_sem] theorem fn43:Tryz.f43.ntmps=18:=by kernel_rfl
@[go_sem] theorem go69:isGo Tryz.prog 69=true:=by kernel_rfl
@[go_sem] theorem go70:isGo Tryz.prog 70=true:=by kernel_rfl
@[go_sem] theorem go71:isGo Tryz.prog 71=true:=by kernel_rfl
@[go_sem] theorem go72:isGo Tryz.prog 72=true:=by kernel_rfl
@[go_sem] theorem go73:isGo Tryz.prog 73=true:=by kernel_rfl
@[go_sem] theorem fr44:Tryz.f44.results.toList=[.tmp 2]:=by kernel_rfl
@[go_sem] theorem fn44:Tryz.f44.ntmps=72:=by kernel_rfl
@[go_sem] theorem tz3:tZero Tryz.prog 3=some [.int .i64 0]:=by kernel_rfl
@[go_sem] theorem go74:isGo Tryz.prog 74=true:=by kernel_rfl
@[go_sem] theorem fr45:Tryz.f45.results.toList=[.tmp 2]:=by kernel_rfl
@[go_sem] theorem fn45:Tryz.f45.ntmps=9:=by kernel_rfl
@[go_sem] theorem tz81:tZero Tryz.prog 81=some [.int .i64 0,.string ⟨#[]⟩,.slice none 0 0,.slice none 0 0]:=by kernel_rfl
@[go_sem] theorem go75:isGo Tryz.prog 75=true:=by kernel_rfl
@[go_sem] theorem go76:isGo Tryz.prog 76=true:=by kernel_rfl
@[go_sem] theorem go77:isGo Tryz.prog 77=true:=by kernel_rfl
@[go_sem] theorem go78:isGo Tryz.prog 78=true:=by kernel_rfl
@[go_sem] theorem go79:isGo Tryz.prog 79=true:=by kernel_rfl
@[go_sem] theorem go80:isGo Tryz.prog 80=true:=by kernel_rfl
@[go_sem] theorem fr46:Tryz.f46.results.toList=[.tmp 4]:=by kernel_rfl
@[go_sem] theorem fn46:Tryz.f46.ntmps=134:=by kernel_rfl
@[go_sem] theorem go49:isGo Tryz.prog 49=true:=by kernel_rfl
@[go_sem] theorem fr48:Tryz.f48.results.toList=[.tmp 5]:=by kernel_rfl
@[go_sem] theorem fn48:Tryz.f48.ntmps=16:=by kernel_rfl
@[go_sem] theorem go85:isGo Tryz.prog 85=true:=by kernel_rfl
@[go_sem] theorem fr49:Tryz.f49.results.toList=[.tmp 4]:=by kernel_rfl
@[go_sem] theorem fn49:Tryz.f49.ntmps=60:=by kernel_rfl
@[go_sem] theorem fr50:Tryz.f50.results.toList=[.tmp 4]:=by kernel_rfl
@[go_sem] theorem fn50:Tryz.f50.ntmps=9:=by kernel_rfl
@[go_sem] theorem fr51:Tryz.f51.results.toList=[.cell 2 60]:=by kernel_rfl
@[go_sem] theorem fn51:Tryz.f51.ntmps=25:=by kernel_rfl
@[go_sem] theorem go86:isGo Tryz.prog 86=true:=by kernel_rfl
@[go_sem] theorem fr52:Tryz.f52.results.toList=[.tmp 4]:=by kernel_rfl
@[go_sem] theorem fn52:Tryz.f52.ntmps=26:=by kernel_rfl
@[go_sem] theorem fr53:Tryz.f53.results.toList=[.tmp 4]:=by kernel_rfl
@[go_sem] theorem fn53:Tryz.f53.ntmps=42:=by kernel_rfl
@[go_sem] theorem go87:isGo Tryz.prog 87=true:=by kernel_rfl
@[go_sem] theorem fr54:Tryz.f54.results.toList=[.tmp 4]:=by kernel_rfl
@[go_sem] theorem fn54:Tryz.f54.ntmps=25:=by kernel_rfl
@[go_sem] theorem fr55:Tryz.f55.results.toList=[.tmp 4]:=by kernel_rfl
@[go_sem] theorem fn55:Tryz.f55.ntmps=21:=by kernel_rfl
@[go_sem] theorem ty136_i:tIsSlice Tryz.prog 136=true:=by kernel_rfl
@[go_sem] theorem ty136_e:tElem Tryz.prog 136=some 9:=by kernel_rfl
@[go_sem] theorem ty136_l:tSlice Tryz.prog 136=some (9,1,16):=by kernel_rfl
@[go_sem] theorem go88:isGo Tryz.prog 88=true:=by kernel_rfl
@[go_sem] theorem fr56:Tryz.f56.results.toList=[.tmp 2]:=by kernel_rfl
@[go_sem] theorem fn56:Tryz.f56.ntmps=17:=by kernel_rfl
@[go_sem] theorem fr57:Tryz.f57.results.toList=[.tmp 6]:=by kernel_rfl
@[go_sem] theorem fn57:Tryz.f57.ntmps=15:=by kernel_rfl
@[go_sem] theorem ty138_i:tIsSlice Tryz.prog 138=true:=by kernel_rfl
@[go_sem] theorem ty138_e:tElem Tryz.prog 138=some 3:=by kernel_rfl
@[go_sem] theorem ty138_l:tSlice Tryz.prog 138=some (3,1,8):=by kernel_rfl
@[go_sem] theorem ty138_u:(Tryz.prog.underlying 138).isSome=true:=by kernel_rfl
@[go_sem] theorem go89:isGo Tryz.prog 89=true:=by kernel_rfl
@[go_sem] theorem go90:isGo Tryz.prog 90=true:=by kernel_rfl
@[go_sem] theorem go91:isGo Tryz.prog 91=true:=by kernel_rfl
@[go_sem] theorem fr58:Tryz.f58.results.toList=[.tmp 6]:=by kernel_rfl
@[go_sem] theorem fn58:Tryz.f58.ntmps=32:=by kernel_rfl
@[go_sem] theorem go92:isGo Tryz.prog 92=true:=by kernel_rfl
@[go_sem] theorem fr59:Tryz.f59.results.toList=[.tmp 2]:=by kernel_rfl
@[go_sem] theorem fn59:Tryz.f59.ntmps=8:=by kernel_rfl
@[go_sem] theorem fr60:Tryz.f60.results.toList=[.tmp 4]:=by kernel_rfl
@[go_sem] theorem fn60:Tryz.f60.ntmps=28:=by kernel_rfl
@[go_sem] theorem go93:isGo Tryz.prog 93=true:=by kernel_rfl
@[go_sem] theorem go94:isGo Tryz.prog 94=true:=by kernel_rfl
@[go_sem] theorem fr61:Tryz.f61.results.toList=[.tmp 2,.tmp 3]:=by kernel_rfl
@[go_sem] theorem fn61:Tryz.f61.ntmps=30:=by kernel_rfl
@[go_sem] theorem go95:isGo Tryz.prog 95=true:=by kernel_rfl
@[go_sem] theorem go96:isGo Tryz.prog 96=true:=by kernel_rfl
@[go_sem] theorem fr62:Tryz.f62.results.toList=[.tmp 2]:=by kernel_rfl
@[go_sem] theorem fn62:Tryz.f62.ntmps=11:=by kernel_rfl
@[go_sem] theorem tz104:tZero Tryz.prog 104=some [.int .i64 0,.int .i64 0,.int .i64 0,.string ⟨#[]⟩,.slice none 0 0]:=by kernel_rfl
@[go_sem] theorem tb106:tBuild Tryz.prog 106=some ([.string ⟨#[]⟩,.slice none 0 0],[(0,1),(1,1)]):=by kernel_rfl
@[go_sem] theorem tb109:tBuild Tryz.prog 109=some ([.string ⟨#[]⟩,.slice none 0 0,.int .i64 0,.slice none 0 0,.slice none 0 0,.slice none 0 0],[(0,2),(2,1),(3,1),(4,1),(5,1)]):=by kernel_rfl
@[go_sem] theorem go97:isGo Tryz.prog 97=true:=by kernel_rfl
@[go_sem] theorem go98:isGo Tryz.prog 98=true:=by kernel_rfl
@[go_sem] theorem fr63:Tryz.f63.results.toList=[.cell 8 109,.tmp 9]:=by kernel_rfl
@[go_sem] theorem fn63:Tryz.f63.ntmps=91:=by kernel_rfl
@[go_sem] theorem go99:isGo Tryz.prog 99=true:=by kernel_rfl
@[go_sem] theorem go100:isGo Tryz.prog 100=true:=by kernel_rfl
@[go_sem] theorem fr64:Tryz.f64.results.toList=[.tmp 4]:=by kernel_rfl
@[go_sem] theorem fn64:Tryz.f64.ntmps=21:=by kernel_rfl
@[go_sem] theorem tz106:tZero Tryz.prog 106=some [.string ⟨#[]⟩,.slice none 0 0]:=by kernel_rfl
@[go_sem] theorem fr65:Tryz.f65.results.toList=[.cell 4 106]:=by kernel_rfl
@[go_sem] theorem fn65:Tryz.f65.ntmps=20:=by kernel_rfl
@[go_sem] theorem fr66:Tryz.f66.results.toList=[.tmp 4]:=by kernel_rfl
@[go_sem] theorem fn66:Tryz.f66.ntmps=68:=by kernel_rfl
@[go_sem] theorem fr67:Tryz.f67.results.toList=[.tmp 4]:=by kernel_rfl
@[go_sem] theorem fn67:Tryz.f67.ntmps=9:=by kernel_rfl
@[go_sem] theorem go101:isGo Tryz.prog 101=true:=by kernel_rfl
@[go_sem] theorem fr68:Tryz.f68.results.toList=[.cell 2 81]:=by kernel_rfl
@[go_sem] theorem fn68:Tryz.f68.ntmps=19:=by kernel_rfl
@[go_sem] theorem go102:isGo Tryz.prog 102=true:=by kernel_rfl
@[go_sem] theorem fr69:Tryz.f69.results.toList=[.tmp 2]:=by kernel_rfl
@[go_sem] theorem fn69:Tryz.f69.ntmps=16:=by kernel_rfl
@[go_sem] theorem fr70:Tryz.f70.results.toList=[.tmp 4]:=by kernel_rfl
@[go_sem] theorem fn70:Tryz.f70.ntmps=21:=by kernel_rfl
@[go_sem] theorem ty148_m:tMap Tryz.prog 148=some (false,.int .i64 0):=by kernel_rfl
@[go_sem] theorem go103:isGo Tryz.prog 103=true:=by kernel_rfl
@[go_sem] theorem fr71:Tryz.f71.results.toList=[.tmp 4]:=by kernel_rfl
@[go_sem] theorem fn71:Tryz.f71.ntmps=142:=by kernel_rfl
@[go_sem] theorem go104:isGo Tryz.prog 104=true:=by kernel_rfl
@[go_sem] theorem fr72:Tryz.f72.results.toList=[.tmp 4]:=by kernel_rfl
@[go_sem] theorem fn72:Tryz.f72.ntmps=18:=by kernel_rfl
@[go_sem] theorem tz4:tZero Tryz.prog 4=some [.bool false]:=by kernel_rfl
@[go_sem] theorem go105:isGo Tryz.prog 105=true:=by kernel_rfl
@[go_sem] theorem fr73:Tryz.f73.results.toList=[.tmp 4]:=by kernel_rfl
@[go_sem] theorem fn73:Tryz.f73.ntmps=10:=by kernel_rfl
@[go_sem] theorem fr74:Tryz.f74.results.toList=[.tmp 4]:=by kernel_rfl
@[go_sem] theorem fn74:Tryz.f74.ntmps=33:=by kernel_rfl
@[go_sem] theorem go107:isGo Tryz.prog 107=true:=by kernel_rfl
@[go_sem] theorem go108:isGo Tryz.prog 108=true:=by kernel_rfl
@[go_sem] theorem fr75:Tryz.f75.results.toList=[.tmp 2]:=by kernel_rfl
@[go_sem] theorem fn75:Tryz.f75.ntmps=9:=by kernel_rfl
@[go_sem] theorem fr76:Tryz.f76.results.toList=[.tmp 2,.tmp 3]:=by kernel_rfl
@[go_sem] theorem fn76:Tryz.f76.ntmps=105:=by kernel_rfl
@[go_sem] theorem go109:isGo Tryz.prog 109=true:=by kernel_rfl
@[go_sem] theorem fr77:Tryz.f77.results.toList=[.tmp 4]:=by kernel_rfl
@[go_sem] theorem fn77:Tryz.f77.ntmps=20:=by kernel_rfl
@[go_sem] theorem fr78:Tryz.f78.results.toList=[.cell 4 106]:=by kernel_rfl
@[go_sem] theorem fn78:Tryz.f78.ntmps=20:=by kernel_rfl
@[go_sem] theorem go110:isGo Tryz.prog 110=true:=by kernel_rfl
@[go_sem] theorem fr79:Tryz.f79.results.toList=[.cell 4 106]:=by kernel_rfl
@[go_sem] theorem fn79:Tryz.f79.ntmps=28:=by kernel_rfl
@[go_sem] theorem tb81:tBuild Tryz.prog 81=some ([.int .i64 0,.string ⟨#[]⟩,.slice none 0 0,.slice none 0 0],[(0,1),(1,1),(2,1),(3,1)]):=by kernel_rfl
@[go_sem] theorem go111:isGo Tryz.prog 111=true:=by kernel_rfl
@[go_sem] theorem fr80:Tryz.f80.results.toList=[.tmp 4]:=by kernel_rfl
@[go_sem] theorem fn80:Tryz.f80.ntmps=83:=by kernel_rfl
@[go_sem] theorem ty127_a:tAgg Tryz.prog 127=some false:=by kernel_rfl
@[go_sem] theorem ty127_s:tSize Tryz.prog 127=some 1:=by kernel_rfl
@[go_sem] theorem ty131_a:tAgg Tryz.prog 131=some true:=by kernel_rfl
@[go_sem] theorem ty131_s:tSize Tryz.prog 131=some 2:=by kernel_rfl
@[go_sem] theorem ty131_f0:tField Tryz.prog 131 0=some (0,88):=by kernel_rfl
@[go_sem] theorem ty131_f1:tField Tryz.prog 131 1=some (1,127):=by kernel_rfl
@[go_sem] theorem go121:isGo Tryz.prog 121=true:=by kernel_rfl
@[go_sem] theorem go122:isGo Tryz.prog 122=true:=by kernel_rfl
@[go_sem] theorem fr83:Tryz.f83.results.toList=[]:=by kernel_rfl
@[go_sem] theorem fn83:Tryz.f83.ntmps=57:=by kernel_rfl
@[go_sem] theorem fr85:Tryz.f85.results.toList=[.tmp 4]:=by kernel_rfl
@[go_sem] theorem fn85:Tryz.f85.ntmps=11:=by kernel_rfl
@[go_sem] theorem go123:isGo Tryz.prog 123=true:=by kernel_rfl
@[go_sem] theorem fr86:Tryz.f86.results.toList=[.tmp 4]:=by kernel_rfl
@[go_sem] theorem fn86:Tryz.f86.ntmps=27:=by kernel_rfl
@[go_sem] theorem fr87:Tryz.f87.results.toList=[.tmp 4]:=by kernel_rfl
@[go_sem] theorem fn87:Tryz.f87.ntmps=27:=by kernel_rfl
@[go_sem] theorem fr88:Tryz.f88.results.toList=[.tmp 2]:=by kernel_rfl
@[go_sem] theorem fn88:Tryz.f88.ntmps=44:=by kernel_rfl
@[go_sem] theorem go124:isGo Tryz.prog 124=true:=by kernel_rfl
@[go_sem] theorem fr89:Tryz.f89.results.toList=[.tmp 2]:=by kernel_rfl
@[go_sem] theorem fn89:Tryz.f89.ntmps=10:=by kernel_rfl
@[go_sem] theorem fr90:Tryz.f90.results.toList=[.tmp 4]:=by kernel_rfl
@[go_sem] theorem fn90:Tryz.f90.ntmps=41:=by kernel_rfl
@[go_sem] theorem fr91:Tryz.f91.results.toList=[.tmp 4]:=by kernel_rfl
@[go_sem] theorem fn91:Tryz.f91.ntmps=32:=by kernel_rfl
@[go_sem] theorem fr92:Tryz.f92.results.toList=[.tmp 4]:=by kernel_rfl
@[go_sem] theorem fn92:Tryz.f92.ntmps=28:=by kernel_rfl
@[go_sem] theorem fr93:Tryz.f93.results.toList=[.tmp 2]:=by kernel_rfl
@[go_sem] theorem fn93:Tryz.f93.ntmps=99:=by kernel_rfl
@[go_sem] theorem go125:isGo Tryz.prog 125=true:=by kernel_rfl
@[go_sem] theorem fr94:Tryz.f94.results.toList=[.tmp 2]:=by kernel_rfl
@[go_sem] theorem fn94:Tryz.f94.ntmps=20:=by kernel_rfl
@[go_sem] theorem go126:isGo Tryz.prog 126=true:=by kernel_rfl
@[go_sem] theorem go127:isGo Tryz.prog 127=true:=by kernel_rfl
@[go_sem] theorem fr95:Tryz.f95.results.toList=[.tmp 2]:=by kernel_rfl
@[go_sem] theorem fn95:Tryz.f95.ntmps=10:=by kernel_rfl
@[go_sem] theorem go128:isGo Tryz.prog 128=true:=by kernel_rfl
@[go_sem] theorem fr96:Tryz.f96.results.toList=[.tmp 4]:=by kernel_rfl
@[go_sem] theorem fn96:Tryz.f96.ntmps=26:=by kernel_rfl
@[go_sem] theorem go129:isGo Tryz.prog 129=true:=by kernel_rfl
@[go_sem] theorem fr97:Tryz.f97.results.toList=[.cell 4 81]:=by kernel_rfl
@[go_sem] theorem fn97:Tryz.f97.ntmps=48:=by kernel_rfl
@[go_sem] theorem go130:isGo Tryz.prog 130=true:=by kernel_rfl
@[go_sem] theorem fr98:Tryz.f98.results.toList=[.tmp 2]:=by kernel_rfl
@[go_sem] theorem fn98:Tryz.f98.ntmps=59:=by kernel_rfl
@[go_sem] theorem fr99:Tryz.f99.results.toList=[.tmp 2]:=by kernel_rfl
@[go_sem] theorem fn99:Tryz.f99.ntmps=4:=by kernel_rfl
@[go_sem] theorem fr100:Tryz.f100.results.toList=[.tmp 4]:=by kernel_rfl
@[go_sem] theorem fn100:Tryz.f100.ntmps=42:=by kernel_rfl
@[go_sem] theorem fr101:Tryz.f101.results.toList=[.tmp 2]:=by kernel_rfl
@[go_sem] theorem fn101:Tryz.f101.ntmps=23:=by kernel_rfl
@[go_sem] theorem fr102:Tryz.f102.results.toList=[.tmp 2]:=by kernel_rfl
@[go_sem] theorem fn102:Tryz.f102.ntmps=57:=by kernel_rfl
@[go_sem] theorem fr103:Tryz.f103.results.toList=[.tmp 2]:=by kernel_rfl
@[go_sem] theorem fn103:Tryz.f103.ntmps=15:=by kernel_rfl
@[go_sem] theorem ty164_a:tAgg Tryz.prog 164=some false:=by kernel_rfl
@[go_sem] theorem ty164_s:tSize Tryz.prog 164=some 1:=by kernel_rfl
@[go_sem] theorem ty164_im:tIsMap Tryz.prog 164=true:=by kernel_rfl
@[go_sem] theorem ty164_m:tMap Tryz.prog 164=some (false,.bool false):=by kernel_rfl
@[go_sem] theorem tz164:tZero Tryz.prog 164=some [.map none]:=by kernel_rfl
@[go_sem] theorem go134:isGo Tryz.prog 134=true:=by kernel_rfl
@[go_sem] theorem fr104:Tryz.f104.results.toList=[.tmp 2]:=by kernel_rfl
@[go_sem] theorem fn104:Tryz.f104.ntmps=10:=by kernel_rfl
@[go_sem] theorem fr105:Tryz.f105.results.toList=[]:=by kernel_rfl
@[go_sem] theorem fn105:Tryz.f105.ntmps=20:=by kernel_rfl
@[go_sem] theorem fr106:Tryz.f106.results.toList=[]:=by kernel_rfl
@[go_sem] theorem fn106:Tryz.f106.ntmps=26:=by kernel_rfl
@[go_sem] theorem go135:isGo Tryz.prog 135=true:=by kernel_rfl
@[go_sem] theorem fr107:Tryz.f107.results.toList=[.tmp 2]:=by kernel_rfl
@[go_sem] theorem fn107:Tryz.f107.ntmps=6:=by kernel_rfl
@[go_sem] theorem go132:isGo Tryz.prog 132=true:=by kernel_rfl
@[go_sem] theorem fr108:Tryz.f108.results.toList=[.tmp 2]:=by kernel_rfl
@[go_sem] theorem fn108:Tryz.f108.ntmps=8:=by kernel_rfl
@[go_sem] theorem fr109:Tryz.f109.results.toList=[.tmp 4]:=by kernel_rfl
@[go_sem] theorem fn109:Tryz.f109.ntmps=36:=by kernel_rfl
@[go_sem] theorem go137:isGo Tryz.prog 137=true:=by kernel_rfl
@[go_sem] theorem fr110:Tryz.f110.results.toList=[.cell 4 60]:=by kernel_rfl
@[go_sem] theorem fn110:Tryz.f110.ntmps=8:=by kernel_rfl
@[go_sem] theorem fr111:Tryz.f111.results.toList=[.tmp 4]:=by kernel_rfl
@[go_sem] theorem fn111:Tryz.f111.ntmps=31:=by kernel_rfl
@[go_sem] theorem fr121:Tryz.f121.results.toList=[]:=by kernel_rfl
@[go_sem] theorem fn121:Tryz.f121.ntmps=35:=by kernel_rfl
@[go_sem] theorem ty170_n:tInt Tryz.prog 170=some Go.IntKind.u64:=by kernel_rfl
@[go_sem] theorem ty170_u:(Tryz.prog.underlying 170).isSome=true:=by kernel_rfl
@[go_sem] theorem go139:isGo Tryz.prog 139=true:=by kernel_rfl
@[go_sem] theorem fr122:Tryz.f122.results.toList=[]:=by kernel_rfl
@[go_sem] theorem fn122:Tryz.f122.ntmps=177:=by kernel_rfl
@[go_sem] theorem fr123:Tryz.f123.results.toList=[.tmp 4]:=by kernel_rfl
@[go_sem] theorem fn123:Tryz.f123.ntmps=27:=by kernel_rfl
@[go_sem] theorem go140:isGo Tryz.prog 140=true:=by kernel_rfl
@[go_sem] theorem fr124:Tryz.f124.results.toList=[.tmp 2]:=by kernel_rfl
@[go_sem] theorem fn124:Tryz.f124.ntmps=106:=by kernel_rfl
@[go_sem] theorem fr125:Tryz.f125.results.toList=[.cell 2 81]:=by kernel_rfl
@[go_sem] theorem fn125:Tryz.f125.ntmps=30:=by kernel_rfl
@[go_sem] theorem fr126:Tryz.f126.results.toList=[.tmp 4]:=by kernel_rfl
@[go_sem] theorem fn126:Tryz.f126.ntmps=28:=by kernel_rfl
@[go_sem] theorem fr127:Tryz.f127.results.toList=[.tmp 2]:=by kernel_rfl
@[go_sem] theorem fn127:Tryz.f127.ntmps=76:=by kernel_rfl
@[go_sem] theorem fr128:Tryz.f128.results.toList=[.tmp 4]:=by kernel_rfl
@[go_sem] theorem fn128:Tryz.f128.ntmps=49:=by kernel_rfl
@[go_sem] theorem go141:isGo Tryz.prog 141=true:=by kernel_rfl
@[go_sem] theorem go142:isGo Tryz.prog 142=true:=by kernel_rfl
@[go_sem] theorem fr129:Tryz.f129.results.toList=[.cell 4 60]:=by kernel_rfl
@[go_sem] theorem fn129:Tryz.f129.ntmps=36:=by kernel_rfl
@[go_sem] theorem fr130:Tryz.f130.results.toList=[.tmp 4]:=by kernel_rfl
@[go_sem] theorem fn130:Tryz.f130.ntmps=27:=by kernel_rfl
@[go_sem] theorem fr131:Tryz.f131.results.toList=[]:=by kernel_rfl
@[go_sem] theorem fn131:Tryz.f131.ntmps=16:=by kernel_rfl
@[go_sem] theorem fr132:Tryz.f132.results.toList=[]:=by kernel_rfl
@[go_sem] theorem fn132:Tryz.f132.ntmps=26:=by kernel_rfl
@[go_sem] theorem fr133:Tryz.f133.results.toList=[]:=by kernel_rfl
@[go_sem] theorem fn133:Tryz.f133.ntmps=5:=by kernel_rfl
@[go_sem] theorem go143:isGo Tryz.prog 143=true:=by kernel_rfl
@[go_sem] theorem fr134:Tryz.f134.results.toList=[.tmp 2]:=by kernel_rfl
@[go_sem] theorem fn134:Tryz.f134.ntmps=19:=by kernel_rfl
@[go_sem] theorem fr135:Tryz.f135.results.toList=[.tmp 4]:=by kernel_rfl
@[go_sem] theorem fn135:Tryz.f135.ntmps=107:=by kernel_rfl
@[go_sem] theorem fr136:Tryz.f136.results.toList=[]:=by kernel_rfl
@[go_sem] theorem fn136:Tryz.f136.ntmps=3:=by kernel_rfl
@[go_sem] theorem go144:isGo Tryz.prog 144=true:=by kernel_rfl
@[go_sem] theorem fr137:Tryz.f137.results.toList=[.cell 4 60]:=by kernel_rfl
@[go_sem] theorem fn137:Tryz.f137.ntmps=38:=by kernel_rfl
@[go_sem] theorem fr138:Tryz.f138.results.toList=[.cell 3 60,.tmp 4]:=by kernel_rfl
@[go_sem] theorem fn138:Tryz.f138.ntmps=9:=by kernel_rfl
@[go_sem] theorem go145:isGo Tryz.prog 145=true:=by kernel_rfl
@[go_sem] theorem fr139:Tryz.f139.results.toList=[]:=by kernel_rfl
@[go_sem] theorem fn139:Tryz.f139.ntmps=53:=by kernel_rfl
@[go_sem] theorem fr140:Tryz.f140.results.toList=[.tmp 2]:=by kernel_rfl
@[go_sem] theorem fn140:Tryz.f140.ntmps=15:=by kernel_rfl
@[go_sem] theorem fr141:Tryz.f141.results.toList=[.cell 4 60,.tmp 5]:=by kernel_rfl
@[go_sem] theorem fn141:Tryz.f141.ntmps=22:=by kernel_rfl
@[go_sem] theorem fr142:Tryz.f142.results.toList=[.cell 4 60]:=by kernel_rfl
@[go_sem] theorem fn142:Tryz.f142.ntmps=9:=by kernel_rfl
@[go_sem] theorem fr144:Tryz.f144.results.toList=[.cell 4 60]:=by kernel_rfl
@[go_sem] theorem fn144:Tryz.f144.ntmps=9:=by kernel_rfl
@[go_sem] theorem fr145:Tryz.f145.results.toList=[]:=by kernel_rfl
@[go_sem] theorem fn145:Tryz.f145.ntmps=23:=by kernel_rfl
end Go.Proofs.YtifkkdlpbocgjaaGreat
