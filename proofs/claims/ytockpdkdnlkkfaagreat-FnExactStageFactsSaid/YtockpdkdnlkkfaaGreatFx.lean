import Derived.Test.YtockpdkdnlkkfaaGreatP1
import Derived.Test.YtockpdkdnlkkfaaGreatA5
import Derived.Test.YtockpdkdnlkkfaaGreatProg
import Derived.KernelRfl
namespace Go.Proofs.YtockpdkdnlkkfaaGreat
open Go.Abs
theorem mixed:Tryz.prog.follows .mixedOrders=true:=by kernel_rfl
@[go_sem] theorem ty3_a:tAgg Tryz.prog 3=some false:=by kernel_rfl
@[go_sem] theorem ty3_s:tSize Tryz.prog 3=some 1:=by kernel_rfl
@[go_sem] theorem ty3_n:tInt Tryz.prog 3=some Go.IntKind.i64:=by kernel_rfl
@[go_sem] theorem ty3_u:(Tryz.prog.underlying 3).isSome=true:=by kernel_rfl
@[go_sem] theorem ty4_a:tAgg Tryz.prog 4=some false:=by kernel_rfl
@[go_sem] theorem ty4_s:tSize Tryz.prog 4=some 1:=by kernel_rfl
@[go_sem] theorem ty4_u:Tryz.prog.underlying 4=some .bool:=by kernel_rfl
@[go_sem] theorem ty9_a:tAgg Tryz.prog 9=some false:=by kernel_rfl
@[go_sem] theorem ty9_s:tSize Tryz.prog 9=some 1:=by kernel_rfl
@[go_sem] theorem ty9_t:tIsStr Tryz.prog 9=true:=by kernel_rfl
@[go_sem] theorem ty22_a:tAgg Tryz.prog 22=some false:=by kernel_rfl
@[go_sem] theorem ty22_s:tSize Tryz.prog 22=some 1:=by kernel_rfl
@[go_sem] theorem ty22_i:tIsSlice Tryz.prog 22=true:=by kernel_rfl
@[go_sem] theorem ty22_e:tElem Tryz.prog 22=some 96:=by kernel_rfl
@[go_sem] theorem ty24_a:tAgg Tryz.prog 24=some true:=by kernel_rfl
@[go_sem] theorem ty24_s:tSize Tryz.prog 24=some 1:=by kernel_rfl
@[go_sem] theorem ty24_f0:tField Tryz.prog 24 0=some (0,22):=by kernel_rfl
@[go_sem] theorem ty25_a:tAgg Tryz.prog 25=some false:=by kernel_rfl
@[go_sem] theorem ty25_s:tSize Tryz.prog 25=some 1:=by kernel_rfl
@[go_sem] theorem ty25_i:tIsSlice Tryz.prog 25=true:=by kernel_rfl
@[go_sem] theorem ty25_e:tElem Tryz.prog 25=some 65:=by kernel_rfl
@[go_sem] theorem ty31_a:tAgg Tryz.prog 31=some false:=by kernel_rfl
@[go_sem] theorem ty31_s:tSize Tryz.prog 31=some 1:=by kernel_rfl
@[go_sem] theorem ty31_i:tIsSlice Tryz.prog 31=true:=by kernel_rfl
@[go_sem] theorem ty31_e:tElem Tryz.prog 31=some 102:=by kernel_rfl
@[go_sem] theorem ty31_l:tSlice Tryz.prog 31=some (102,7,104):=by kernel_rfl
@[go_sem] theorem ty33_a:tAgg Tryz.prog 33=some true:=by kernel_rfl
@[go_sem] theorem ty33_s:tSize Tryz.prog 33=some 1:=by kernel_rfl
@[go_sem] theorem ty33_f0:tField Tryz.prog 33 0=some (0,31):=by kernel_rfl
@[go_sem] theorem ty35_a:tAgg Tryz.prog 35=some false:=by kernel_rfl
@[go_sem] theorem ty35_s:tSize Tryz.prog 35=some 1:=by kernel_rfl
@[go_sem] theorem ty35_i:tIsSlice Tryz.prog 35=true:=by kernel_rfl
@[go_sem] theorem ty35_e:tElem Tryz.prog 35=some 69:=by kernel_rfl
@[go_sem] theorem ty35_l:tSlice Tryz.prog 35=some (69,4,56):=by kernel_rfl
@[go_sem] theorem ty35_t:tIsStr Tryz.prog 35=false:=by kernel_rfl
@[go_sem] theorem ty35_u:(Tryz.prog.underlying 35).isSome=true:=by kernel_rfl
@[go_sem] theorem ty37_a:tAgg Tryz.prog 37=some false:=by kernel_rfl
@[go_sem] theorem ty37_s:tSize Tryz.prog 37=some 1:=by kernel_rfl
@[go_sem] theorem ty37_i:tIsSlice Tryz.prog 37=true:=by kernel_rfl
@[go_sem] theorem ty37_e:tElem Tryz.prog 37=some 48:=by kernel_rfl
@[go_sem] theorem ty37_l:tSlice Tryz.prog 37=some (48,2,40):=by kernel_rfl
@[go_sem] theorem ty37_t:tIsStr Tryz.prog 37=false:=by kernel_rfl
@[go_sem] theorem ty37_u:(Tryz.prog.underlying 37).isSome=true:=by kernel_rfl
@[go_sem] theorem ty48_a:tAgg Tryz.prog 48=some true:=by kernel_rfl
@[go_sem] theorem ty48_s:tSize Tryz.prog 48=some 2:=by kernel_rfl
@[go_sem] theorem ty48_f0:tField Tryz.prog 48 0=some (0,9):=by kernel_rfl
@[go_sem] theorem ty48_f1:tField Tryz.prog 48 1=some (1,35):=by kernel_rfl
@[go_sem] theorem ty65_a:tAgg Tryz.prog 65=some true:=by kernel_rfl
@[go_sem] theorem ty65_s:tSize Tryz.prog 65=some 4:=by kernel_rfl
@[go_sem] theorem ty65_f0:tField Tryz.prog 65 0=some (0,3):=by kernel_rfl
@[go_sem] theorem ty65_f1:tField Tryz.prog 65 1=some (1,3):=by kernel_rfl
@[go_sem] theorem ty65_f2:tField Tryz.prog 65 2=some (2,9):=by kernel_rfl
@[go_sem] theorem ty65_f3:tField Tryz.prog 65 3=some (3,25):=by kernel_rfl
@[go_sem] theorem ty69_a:tAgg Tryz.prog 69=some true:=by kernel_rfl
@[go_sem] theorem ty69_s:tSize Tryz.prog 69=some 4:=by kernel_rfl
@[go_sem] theorem ty69_f0:tField Tryz.prog 69 0=some (0,3):=by kernel_rfl
@[go_sem] theorem ty69_f1:tField Tryz.prog 69 1=some (1,3):=by kernel_rfl
@[go_sem] theorem ty69_f2:tField Tryz.prog 69 2=some (2,9):=by kernel_rfl
@[go_sem] theorem ty69_f3:tField Tryz.prog 69 3=some (3,35):=by kernel_rfl
@[go_sem] theorem ty92_a:tAgg Tryz.prog 92=some false:=by kernel_rfl
@[go_sem] theorem ty92_s:tSize Tryz.prog 92=some 1:=by kernel_rfl
@[go_sem] theorem ty92_i:tIsSlice Tryz.prog 92=true:=by kernel_rfl
@[go_sem] theorem ty92_e:tElem Tryz.prog 92=some 94:=by kernel_rfl
@[go_sem] theorem ty94_a:tAgg Tryz.prog 94=some true:=by kernel_rfl
@[go_sem] theorem ty94_s:tSize Tryz.prog 94=some 4:=by kernel_rfl
@[go_sem] theorem ty94_f0:tField Tryz.prog 94 0=some (0,3):=by kernel_rfl
@[go_sem] theorem ty94_f1:tField Tryz.prog 94 1=some (1,9):=by kernel_rfl
@[go_sem] theorem ty94_f2:tField Tryz.prog 94 2=some (2,25):=by kernel_rfl
@[go_sem] theorem ty94_f3:tField Tryz.prog 94 3=some (3,92):=by kernel_rfl
@[go_sem] theorem ty96_a:tAgg Tryz.prog 96=some true:=by kernel_rfl
@[go_sem] theorem ty96_s:tSize Tryz.prog 96=some 7:=by kernel_rfl
@[go_sem] theorem ty96_f0:tField Tryz.prog 96 0=some (0,9):=by kernel_rfl
@[go_sem] theorem ty96_f1:tField Tryz.prog 96 1=some (1,3):=by kernel_rfl
@[go_sem] theorem ty96_f2:tField Tryz.prog 96 2=some (2,3):=by kernel_rfl
@[go_sem] theorem ty96_f3:tField Tryz.prog 96 3=some (3,94):=by kernel_rfl
@[go_sem] theorem ty98_a:tAgg Tryz.prog 98=some false:=by kernel_rfl
@[go_sem] theorem ty98_s:tSize Tryz.prog 98=some 1:=by kernel_rfl
@[go_sem] theorem ty98_i:tIsSlice Tryz.prog 98=true:=by kernel_rfl
@[go_sem] theorem ty98_e:tElem Tryz.prog 98=some 100:=by kernel_rfl
@[go_sem] theorem ty98_l:tSlice Tryz.prog 98=some (100,4,72):=by kernel_rfl
@[go_sem] theorem ty98_t:tIsStr Tryz.prog 98=false:=by kernel_rfl
@[go_sem] theorem ty98_u:(Tryz.prog.underlying 98).isSome=true:=by kernel_rfl
@[go_sem] theorem ty100_a:tAgg Tryz.prog 100=some true:=by kernel_rfl
@[go_sem] theorem ty100_s:tSize Tryz.prog 100=some 4:=by kernel_rfl
@[go_sem] theorem ty100_f0:tField Tryz.prog 100 0=some (0,3):=by kernel_rfl
@[go_sem] theorem ty100_f1:tField Tryz.prog 100 1=some (1,9):=by kernel_rfl
@[go_sem] theorem ty100_f2:tField Tryz.prog 100 2=some (2,35):=by kernel_rfl
@[go_sem] theorem ty100_f3:tField Tryz.prog 100 3=some (3,98):=by kernel_rfl
@[go_sem] theorem ty102_a:tAgg Tryz.prog 102=some true:=by kernel_rfl
@[go_sem] theorem ty102_s:tSize Tryz.prog 102=some 7:=by kernel_rfl
@[go_sem] theorem ty102_f0:tField Tryz.prog 102 0=some (0,9):=by kernel_rfl
@[go_sem] theorem ty102_f1:tField Tryz.prog 102 1=some (1,3):=by kernel_rfl
@[go_sem] theorem ty102_f2:tField Tryz.prog 102 2=some (2,3):=by kernel_rfl
@[go_sem] theorem ty102_f3:tField Tryz.prog 102 3=some (3,100):=by kernel_rfl
@[go_sem] theorem tz33:tZero Tryz.prog 33=some [.slice none 0 0]:=by kernel_rfl
@[go_sem] theorem go8:isGo Tryz.prog 8=true:=by kernel_rfl
@[go_sem] theorem go9:isGo Tryz.prog 9=true:=by kernel_rfl
@[go_sem] theorem go12:isGo Tryz.prog 12=true:=by kernel_rfl
@[go_sem] theorem go13:isGo Tryz.prog 13=true:=by kernel_rfl
@[go_sem] theorem go16:isGo Tryz.prog 16=true:=by kernel_rfl
@[go_sem] theorem go17:isGo Tryz.prog 17=true:=by kernel_rfl
@[go_sem] theorem go18:isGo Tryz.prog 18=true:=by kernel_rfl
@[go_sem] theorem tz48:tZero Tryz.prog 48=some [.string ⟨#[]⟩,.slice none 0 0]:=by kernel_rfl
@[go_sem] theorem go23:isGo Tryz.prog 23=true:=by kernel_rfl
@[go_sem] theorem go26:isGo Tryz.prog 26=true:=by kernel_rfl
@[go_sem] theorem go27:isGo Tryz.prog 27=true:=by kernel_rfl
@[go_sem] theorem go28:isGo Tryz.prog 28=true:=by kernel_rfl
@[go_sem] theorem go29:isGo Tryz.prog 29=true:=by kernel_rfl
@[go_sem] theorem go32:isGo Tryz.prog 32=true:=by kernel_rfl
@[go_sem] theorem go33:isGo Tryz.prog 33=true:=by kernel_rfl
@[go_sem] theorem fr7:Tryz.f7.results.toList=[.tmp 6]:=by kernel_rfl
@[go_sem] theorem fn7:Tryz.f7.ntmps=124:=by kernel_rfl
@[go_sem] theorem go34:isGo Tryz.prog 34=true:=by kernel_rfl
@[go_sem] theorem fr8:Tryz.f8.results.toList=[.tmp 4]:=by kernel_rfl
@[go_sem] theorem fn8:Tryz.f8.ntmps=12:=by kernel_rfl
@[go_sem] theorem go35:isGo Tryz.prog 35=true:=by kernel_rfl
@[go_sem] theorem fr9:Tryz.f9.results.toList=[.tmp 4]:=by kernel_rfl
@[go_sem] theorem fn9:Tryz.f9.ntmps=27:=by kernel_rfl
@[go_sem] theorem go36:isGo Tryz.prog 36=true:=by kernel_rfl
@[go_sem] theorem go37:isGo Tryz.prog 37=true:=by kernel_rfl
@[go_sem] theorem fr12:Tryz.f12.results.toList=[.cell 2 33]:=by kernel_rfl
@[go_sem] theorem fn12:Tryz.f12.ntmps=9:=by kernel_rfl
@[go_sem] theorem tz69:tZero Tryz.prog 69=some [.int .i64 0,.int .i64 0,.string ⟨#[]⟩,.slice none 0 0]:=by kernel_rfl
@[go_sem] theorem go38:isGo Tryz.prog 38=true:=by kernel_rfl
@[go_sem] theorem fr13:Tryz.f13.results.toList=[.tmp 2]:=by kernel_rfl
@[go_sem] theorem fn13:Tryz.f13.ntmps=23:=by kernel_rfl
@[go_sem] theorem go39:isGo Tryz.prog 39=true:=by kernel_rfl
@[go_sem] theorem go40:isGo Tryz.prog 40=true:=by kernel_rfl
@[go_sem] theorem go41:isGo Tryz.prog 41=true:=by kernel_rfl
@[go_sem] theorem fr16:Tryz.f16.results.toList=[.tmp 4]:=by kernel_rfl
@[go_sem] theorem fn16:Tryz.f16.ntmps=11:=by kernel_rfl
@[go_sem] theorem go42:isGo Tryz.prog 42=true:=by kernel_rfl
@[go_sem] theorem fr17:Tryz.f17.results.toList=[.tmp 4]:=by kernel_rfl
@[go_sem] theorem fn17:Tryz.f17.ntmps=27:=by kernel_rfl
@[go_sem] theorem fr18:Tryz.f18.results.toList=[.tmp 4]:=by kernel_rfl
@[go_sem] theorem fn18:Tryz.f18.ntmps=27:=by kernel_rfl
@[go_sem] theorem ty75_i:tIsSlice Tryz.prog 75=true:=by kernel_rfl
@[go_sem] theorem ty75_e:tElem Tryz.prog 75=some 37:=by kernel_rfl
@[go_sem] theorem ty75_l:tSlice Tryz.prog 75=some (37,1,24):=by kernel_rfl
@[go_sem] theorem ty75_u:(Tryz.prog.underlying 75).isSome=true:=by kernel_rfl
@[go_sem] theorem go43:isGo Tryz.prog 43=true:=by kernel_rfl
@[go_sem] theorem ty74_i:tIsSlice Tryz.prog 74=true:=by kernel_rfl
@[go_sem] theorem ty74_e:tElem Tryz.prog 74=some 117:=by kernel_rfl
@[go_sem] theorem ty74_l:tSlice Tryz.prog 74=some (117,6,120):=by kernel_rfl
@[go_sem] theorem ty74_u:(Tryz.prog.underlying 74).isSome=true:=by kernel_rfl
@[go_sem] theorem ty117_a:tAgg Tryz.prog 117=some true:=by kernel_rfl
@[go_sem] theorem ty117_s:tSize Tryz.prog 117=some 6:=by kernel_rfl
@[go_sem] theorem ty117_f0:tField Tryz.prog 117 0=some (0,48):=by kernel_rfl
@[go_sem] theorem ty117_f2:tField Tryz.prog 117 2=some (3,35):=by kernel_rfl
@[go_sem] theorem ty117_f3:tField Tryz.prog 117 3=some (4,37):=by kernel_rfl
@[go_sem] theorem ty117_f4:tField Tryz.prog 117 4=some (5,37):=by kernel_rfl
@[go_sem] theorem go46:isGo Tryz.prog 46=true:=by kernel_rfl
@[go_sem] theorem go47:isGo Tryz.prog 47=true:=by kernel_rfl
@[go_sem] theorem go49:isGo Tryz.prog 49=true:=by kernel_rfl
@[go_sem] theorem fr23:Tryz.f23.results.toList=[.tmp 4]:=by kernel_rfl
@[go_sem] theorem fn23:Tryz.f23.ntmps=16:=by kernel_rfl
@[go_sem] theorem go50:isGo Tryz.prog 50=true:=by kernel_rfl
@[go_sem] theorem go52:isGo Tryz.prog 52=true:=by kernel_rfl
@[go_sem] theorem go53:isGo Tryz.prog 53=true:=by kernel_rfl
@[go_sem] theorem go54:isGo Tryz.prog 54=true:=by kernel_rfl
@[go_sem] theorem go55:isGo Tryz.prog 55=true:=by kernel_rfl
@[go_sem] theorem go57:isGo Tryz.prog 57=true:=by kernel_rfl
@[go_sem] theorem go58:isGo Tryz.prog 58=true:=by kernel_rfl
@[go_sem] theorem go59:isGo Tryz.prog 59=true:=by kernel_rfl
@[go_sem] theorem go60:isGo Tryz.prog 60=true:=by kernel_rfl
@[go_sem] theorem fr26:Tryz.f26.results.toList=[.tmp 4]:=by kernel_rfl
@[go_sem] theorem fn26:Tryz.f26.ntmps=10:=by kernel_rfl
@[go_sem] theorem go61:isGo Tryz.prog 61=true:=by kernel_rfl
@[go_sem] theorem fr27:Tryz.f27.results.toList=[.tmp 4]:=by kernel_rfl
@[go_sem] theorem fn27:Tryz.f27.ntmps=42:=by kernel_rfl
@[go_sem] theorem fr28:Tryz.f28.results.toList=[.tmp 4]:=by kernel_rfl
@[go_sem] theorem fn28:Tryz.f28.ntmps=28:=by kernel_rfl
@[go_sem] theorem go62:isGo Tryz.prog 62=true:=by kernel_rfl
@[go_sem] theorem fr29:Tryz.f29.results.toList=[.tmp 4]:=by kernel_rfl
@[go_sem] theorem fn29:Tryz.f29.ntmps=32:=by kernel_rfl
@[go_sem] theorem go63:isGo Tryz.prog 63=true:=by kernel_rfl
@[go_sem] theorem fr32:Tryz.f32.results.toList=[.tmp 6,.tmp 7]:=by kernel_rfl
@[go_sem] theorem fn32:Tryz.f32.ntmps=37:=by kernel_rfl
@[go_sem] theorem fr33:Tryz.f33.results.toList=[.tmp 6,.tmp 7]:=by kernel_rfl
@[go_sem] theorem fn33:Tryz.f33.ntmps=38:=by kernel_rfl
@[go_sem] theorem go64:isGo Tryz.prog 64=true:=by kernel_rfl
@[go_sem] theorem fr34:Tryz.f34.results.toList=[.tmp 4]:=by kernel_rfl
@[go_sem] theorem fn34:Tryz.f34.ntmps=27:=by kernel_rfl
@[go_sem] theorem fr35:Tryz.f35.results.toList=[.tmp 4]:=by kernel_rfl
@[go_sem] theorem fn35:Tryz.f35.ntmps=19:=by kernel_rfl
@[go_sem] theorem go65:isGo Tryz.prog 65=true:=by kernel_rfl
@[go_sem] theorem fr36:Tryz.f36.results.toList=[.tmp 4]:=by kernel_rfl
@[go_sem] theorem fn36:Tryz.f36.ntmps=18:=by kernel_rfl
@[go_sem] theorem tz102:tZero Tryz.prog 102=some [.string ⟨#[]⟩,.int .i64 0,.int .i64 0,.int .i64 0,.string ⟨#[]⟩,.slice none 0 0,.slice none 0 0]:=by kernel_rfl
@[go_sem] theorem go66:isGo Tryz.prog 66=true:=by kernel_rfl
@[go_sem] theorem fr37:Tryz.f37.results.toList=[.tmp 2]:=by kernel_rfl
@[go_sem] theorem fn37:Tryz.f37.ntmps=23:=by kernel_rfl
@[go_sem] theorem fr38:Tryz.f38.results.toList=[.cell 2 69]:=by kernel_rfl
@[go_sem] theorem fn38:Tryz.f38.ntmps=18:=by kernel_rfl
@[go_sem] theorem ty105_a:tAgg Tryz.prog 105=some false:=by kernel_rfl
@[go_sem] theorem ty105_s:tSize Tryz.prog 105=some 1:=by kernel_rfl
@[go_sem] theorem tz37:tZero Tryz.prog 37=some [.slice none 0 0]:=by kernel_rfl
@[go_sem] theorem go67:isGo Tryz.prog 67=true:=by kernel_rfl
@[go_sem] theorem go69:isGo Tryz.prog 69=true:=by kernel_rfl
@[go_sem] theorem fr39:Tryz.f39.results.toList=[.tmp 2]:=by kernel_rfl
@[go_sem] theorem fn39:Tryz.f39.ntmps=40:=by kernel_rfl
@[go_sem] theorem ty107_a:tAgg Tryz.prog 107=some false:=by kernel_rfl
@[go_sem] theorem ty107_s:tSize Tryz.prog 107=some 1:=by kernel_rfl
@[go_sem] theorem go70:isGo Tryz.prog 70=true:=by kernel_rfl
@[go_sem] theorem fr40:Tryz.f40.results.toList=[.tmp 4]:=by kernel_rfl
@[go_sem] theorem fn40:Tryz.f40.ntmps=23:=by kernel_rfl
@[go_sem] theorem go72:isGo Tryz.prog 72=true:=by kernel_rfl
@[go_sem] theorem fr41:Tryz.f41.results.toList=[.tmp 4]:=by kernel_rfl
@[go_sem] theorem fn41:Tryz.f41.ntmps=27:=by kernel_rfl
@[go_sem] theorem fr42:Tryz.f42.results.toList=[.tmp 4]:=by kernel_rfl
@[go_sem] theorem fn42:Tryz.f42.ntmps=26:=by kernel_rfl
@[go_sem] theorem go73:isGo Tryz.prog 73=true:=by kernel_rfl
@[go_sem] theorem go74:isGo Tryz.prog 74=true:=by kernel_rfl
@[go_sem] theorem fr43:Tryz.f43.results.toList=[.tmp 4,.tmp 5,.tmp 6]:=by kernel_rfl
@[go_sem] theorem fn43:Tryz.f43.ntmps=23:=by kernel_rfl
@[go_sem] theorem go76:isGo Tryz.prog 76=true:=by kernel_rfl
@[go_sem] theorem go77:isGo Tryz.prog 77=true:=by kernel_rfl
@[go_sem] theorem fr46:Tryz.f46.results.toList=[.tmp 4,.tmp 5]:=by kernel_rfl
@[go_sem] theorem fn46:Tryz.f46.ntmps=24:=by kernel_rfl
@[go_sem] theorem go78:isGo Tryz.prog 78=true:=by kernel_rfl
@[go_sem] theorem fr47:Tryz.f47.results.toList=[.tmp 2]:=by kernel_rfl
@[go_sem] theorem fn47:Tryz.f47.ntmps=15:=by kernel_rfl
@[go_sem] theorem go79:isGo Tryz.prog 79=true:=by kernel_rfl
@[go_sem] theorem fr49:Tryz.f49.results.toList=[.tmp 2]:=by kernel_rfl
@[go_sem] theorem fn49:Tryz.f49.ntmps=28:=by kernel_rfl
@[go_sem] theorem ty111_i:tIsSlice Tryz.prog 111=true:=by kernel_rfl
@[go_sem] theorem ty111_e:tElem Tryz.prog 111=some 3:=by kernel_rfl
@[go_sem] theorem ty111_l:tSlice Tryz.prog 111=some (3,1,8):=by kernel_rfl
@[go_sem] theorem ty111_u:(Tryz.prog.underlying 111).isSome=true:=by kernel_rfl
@[go_sem] theorem ty112_a:tAgg Tryz.prog 112=some false:=by kernel_rfl
@[go_sem] theorem ty112_s:tSize Tryz.prog 112=some 1:=by kernel_rfl
@[go_sem] theorem ty112_i:tIsSlice Tryz.prog 112=true:=by kernel_rfl
@[go_sem] theorem ty112_e:tElem Tryz.prog 112=some 98:=by kernel_rfl
@[go_sem] theorem ty112_l:tSlice Tryz.prog 112=some (98,1,24):=by kernel_rfl
@[go_sem] theorem ty112_t:tIsStr Tryz.prog 112=false:=by kernel_rfl
@[go_sem] theorem ty112_u:(Tryz.prog.underlying 112).isSome=true:=by kernel_rfl
@[go_sem] theorem ty120_i:tIsSlice Tryz.prog 120=true:=by kernel_rfl
@[go_sem] theorem ty120_e:tElem Tryz.prog 120=some 163:=by kernel_rfl
@[go_sem] theorem ty120_l:tSlice Tryz.prog 120=some (163,5,64):=by kernel_rfl
@[go_sem] theorem ty120_u:(Tryz.prog.underlying 120).isSome=true:=by kernel_rfl
@[go_sem] theorem ty163_a:tAgg Tryz.prog 163=some true:=by kernel_rfl
@[go_sem] theorem ty163_s:tSize Tryz.prog 163=some 5:=by kernel_rfl
@[go_sem] theorem ty163_f0:tField Tryz.prog 163 0=some (0,3):=by kernel_rfl
@[go_sem] theorem ty163_f1:tField Tryz.prog 163 1=some (1,69):=by kernel_rfl
@[go_sem] theorem tz117:tZero Tryz.prog 117=some [.string ⟨#[]⟩,.slice none 0 0,.int .i64 0,.slice none 0 0,.slice none 0 0,.slice none 0 0]:=by kernel_rfl
@[go_sem] theorem go80:isGo Tryz.prog 80=true:=by kernel_rfl
@[go_sem] theorem go81:isGo Tryz.prog 81=true:=by kernel_rfl
@[go_sem] theorem go82:isGo Tryz.prog 82=true:=by kernel_rfl
@[go_sem] theorem go83:isGo Tryz.prog 83=true:=by kernel_rfl
@[go_sem] theorem go84:isGo Tryz.prog 84=true:=by kernel_rfl
@[go_sem] theorem go85:isGo Tryz.prog 85=true:=by kernel_rfl
@[go_sem] theorem go86:isGo Tryz.prog 86=true:=by kernel_rfl
@[go_sem] theorem go87:isGo Tryz.prog 87=true:=by kernel_rfl
@[go_sem] theorem fr50:Tryz.f50.results.toList=[.tmp 4,.tmp 5]:=by kernel_rfl
@[go_sem] theorem fn50:Tryz.f50.ntmps=135:=by kernel_rfl
@[go_sem] theorem tb48:tBuild Tryz.prog 48=some ([.string ⟨#[]⟩,.slice none 0 0],[(0,1),(1,1)]):=by kernel_rfl
@[go_sem] theorem fr52:Tryz.f52.results.toList=[.tmp 2]:=by kernel_rfl
@[go_sem] theorem fn52:Tryz.f52.ntmps=24:=by kernel_rfl
@[go_sem] theorem go88:isGo Tryz.prog 88=true:=by kernel_rfl
@[go_sem] theorem go89:isGo Tryz.prog 89=true:=by kernel_rfl
@[go_sem] theorem fr53:Tryz.f53.results.toList=[.tmp 6]:=by kernel_rfl
@[go_sem] theorem fn53:Tryz.f53.ntmps=27:=by kernel_rfl
@[go_sem] theorem go90:isGo Tryz.prog 90=true:=by kernel_rfl
@[go_sem] theorem go91:isGo Tryz.prog 91=true:=by kernel_rfl
@[go_sem] theorem go92:isGo Tryz.prog 92=true:=by kernel_rfl
@[go_sem] theorem go93:isGo Tryz.prog 93=true:=by kernel_rfl
@[go_sem] theorem go94:isGo Tryz.prog 94=true:=by kernel_rfl
@[go_sem] theorem fr54:Tryz.f54.results.toList=[.tmp 2]:=by kernel_rfl
@[go_sem] theorem fn54:Tryz.f54.ntmps=72:=by kernel_rfl
@[go_sem] theorem go95:isGo Tryz.prog 95=true:=by kernel_rfl
@[go_sem] theorem go96:isGo Tryz.prog 96=true:=by kernel_rfl
@[go_sem] theorem fr55:Tryz.f55.results.toList=[.tmp 2]:=by kernel_rfl
@[go_sem] theorem fn55:Tryz.f55.ntmps=38:=by kernel_rfl
@[go_sem] theorem ty131_i:tIsSlice Tryz.prog 131=true:=by kernel_rfl
@[go_sem] theorem ty131_e:tElem Tryz.prog 131=some 112:=by kernel_rfl
@[go_sem] theorem ty131_l:tSlice Tryz.prog 131=some (112,1,24):=by kernel_rfl
@[go_sem] theorem ty131_u:(Tryz.prog.underlying 131).isSome=true:=by kernel_rfl
@[go_sem] theorem tz100:tZero Tryz.prog 100=some [.int .i64 0,.string ⟨#[]⟩,.slice none 0 0,.slice none 0 0]:=by kernel_rfl
@[go_sem] theorem tb117:tBuild Tryz.prog 117=some ([.string ⟨#[]⟩,.slice none 0 0,.int .i64 0,.slice none 0 0,.slice none 0 0,.slice none 0 0],[(0,2),(2,1),(3,1),(4,1),(5,1)]):=by kernel_rfl
@[go_sem] theorem go97:isGo Tryz.prog 97=true:=by kernel_rfl
@[go_sem] theorem go98:isGo Tryz.prog 98=true:=by kernel_rfl
@[go_sem] theorem go99:isGo Tryz.prog 99=true:=by kernel_rfl
@[go_sem] theorem go100:isGo Tryz.prog 100=true:=by kernel_rfl
@[go_sem] theorem go101:isGo Tryz.prog 101=true:=by kernel_rfl
@[go_sem] theorem fr57:Tryz.f57.results.toList=[.tmp 4,.tmp 5]:=by kernel_rfl
@[go_sem] theorem fn57:Tryz.f57.ntmps=185:=by kernel_rfl
@[go_sem] theorem go102:isGo Tryz.prog 102=true:=by kernel_rfl
@[go_sem] theorem fr58:Tryz.f58.results.toList=[.tmp 2]:=by kernel_rfl
@[go_sem] theorem fn58:Tryz.f58.ntmps=20:=by kernel_rfl
@[go_sem] theorem fr59:Tryz.f59.results.toList=[.tmp 4]:=by kernel_rfl
@[go_sem] theorem fn59:Tryz.f59.ntmps=58:=by kernel_rfl
@[go_sem] theorem go103:isGo Tryz.prog 103=true:=by kernel_rfl
@[go_sem] theorem fr60:Tryz.f60.results.toList=[.tmp 4]:=by kernel_rfl
@[go_sem] theorem fn60:Tryz.f60.ntmps=68:=by kernel_rfl
@[go_sem] theorem ty5_n:tInt Tryz.prog 5=some Go.IntKind.u8:=by kernel_rfl
@[go_sem] theorem ty5_u:(Tryz.prog.underlying 5).isSome=true:=by kernel_rfl
@[go_sem] theorem ty136_l:tSlice Tryz.prog 136=some (5,1,1):=by kernel_rfl
@[go_sem] theorem ty136_b:tIsBytes Tryz.prog 136=true:=by kernel_rfl
@[go_sem] theorem fr61:Tryz.f61.results.toList=[.tmp 2]:=by kernel_rfl
@[go_sem] theorem fn61:Tryz.f61.ntmps=20:=by kernel_rfl
@[go_sem] theorem fr62:Tryz.f62.results.toList=[.tmp 4]:=by kernel_rfl
@[go_sem] theorem fn62:Tryz.f62.ntmps=50:=by kernel_rfl
@[go_sem] theorem fr63:Tryz.f63.results.toList=[.tmp 6]:=by kernel_rfl
@[go_sem] theorem fn63:Tryz.f63.ntmps=15:=by kernel_rfl
@[go_sem] theorem go104:isGo Tryz.prog 104=true:=by kernel_rfl
@[go_sem] theorem fr64:Tryz.f64.results.toList=[.tmp 4]:=by kernel_rfl
@[go_sem] theorem fn64:Tryz.f64.ntmps=19:=by kernel_rfl
@[go_sem] theorem go105:isGo Tryz.prog 105=true:=by kernel_rfl
@[go_sem] theorem go106:isGo Tryz.prog 106=true:=by kernel_rfl
@[go_sem] theorem fr65:Tryz.f65.results.toList=[.tmp 4]:=by kernel_rfl
@[go_sem] theorem fn65:Tryz.f65.ntmps=21:=by kernel_rfl
@[go_sem] theorem go107:isGo Tryz.prog 107=true:=by kernel_rfl
@[go_sem] theorem fr66:Tryz.f66.results.toList=[.cell 2 102]:=by kernel_rfl
@[go_sem] theorem fn66:Tryz.f66.ntmps=18:=by kernel_rfl
@[go_sem] theorem fr68:Tryz.f68.results.toList=[.tmp 5]:=by kernel_rfl
@[go_sem] theorem fn68:Tryz.f68.ntmps=16:=by kernel_rfl
@[go_sem] theorem go112:isGo Tryz.prog 112=true:=by kernel_rfl
@[go_sem] theorem fr69:Tryz.f69.results.toList=[.tmp 4]:=by kernel_rfl
@[go_sem] theorem fn69:Tryz.f69.ntmps=20:=by kernel_rfl
@[go_sem] theorem ty152_n:tInt Tryz.prog 152=some Go.IntKind.u64:=by kernel_rfl
@[go_sem] theorem ty152_u:(Tryz.prog.underlying 152).isSome=true:=by kernel_rfl
@[go_sem] theorem fr70:Tryz.f70.results.toList=[.tmp 4]:=by kernel_rfl
@[go_sem] theorem fn70:Tryz.f70.ntmps=26:=by kernel_rfl
@[go_sem] theorem fr71:Tryz.f71.results.toList=[.tmp 4]:=by kernel_rfl
@[go_sem] theorem fn71:Tryz.f71.ntmps=12:=by kernel_rfl
@[go_sem] theorem go113:isGo Tryz.prog 113=true:=by kernel_rfl
@[go_sem] theorem fr72:Tryz.f72.results.toList=[.tmp 4]:=by kernel_rfl
@[go_sem] theorem fn72:Tryz.f72.ntmps=26:=by kernel_rfl
@[go_sem] theorem go114:isGo Tryz.prog 114=true:=by kernel_rfl
@[go_sem] theorem fr73:Tryz.f73.results.toList=[.tmp 2]:=by kernel_rfl
@[go_sem] theorem fn73:Tryz.f73.ntmps=5:=by kernel_rfl
@[go_sem] theorem fr74:Tryz.f74.results.toList=[.tmp 2]:=by kernel_rfl
@[go_sem] theorem fn74:Tryz.f74.ntmps=27:=by kernel_rfl
@[go_sem] theorem go115:isGo Tryz.prog 115=true:=by kernel_rfl
@[go_sem] theorem go116:isGo Tryz.prog 116=true:=by kernel_rfl
@[go_sem] theorem go117:isGo Tryz.prog 117=true:=by kernel_rfl
@[go_sem] theorem fr76:Tryz.f76.results.toList=[.tmp 2]:=by kernel_rfl
@[go_sem] theorem fn76:Tryz.f76.ntmps=11:=by kernel_rfl
@[go_sem] theorem go118:isGo Tryz.prog 118=true:=by kernel_rfl
@[go_sem] theorem fr77:Tryz.f77.results.toList=[.tmp 2]:=by kernel_rfl
@[go_sem] theorem fn77:Tryz.f77.ntmps=9:=by kernel_rfl
@[go_sem] theorem go119:isGo Tryz.prog 119=true:=by kernel_rfl
@[go_sem] theorem fr78:Tryz.f78.results.toList=[.tmp 2]:=by kernel_rfl
@[go_sem] theorem fn78:Tryz.f78.ntmps=6:=by kernel_rfl
@[go_sem] theorem fr79:Tryz.f79.results.toList=[.tmp 4]:=by kernel_rfl
@[go_sem] theorem fn79:Tryz.f79.ntmps=27:=by kernel_rfl
@[go_sem] theorem go120:isGo Tryz.prog 120=true:=by kernel_rfl
@[go_sem] theorem go121:isGo Tryz.prog 121=true:=by kernel_rfl
@[go_sem] theorem go122:isGo Tryz.prog 122=true:=by kernel_rfl
@[go_sem] theorem fr80:Tryz.f80.results.toList=[.tmp 2]:=by kernel_rfl
@[go_sem] theorem fn80:Tryz.f80.ntmps=60:=by kernel_rfl
@[go_sem] theorem go123:isGo Tryz.prog 123=true:=by kernel_rfl
@[go_sem] theorem fr81:Tryz.f81.results.toList=[.tmp 2]:=by kernel_rfl
@[go_sem] theorem fn81:Tryz.f81.ntmps=33:=by kernel_rfl
@[go_sem] theorem go124:isGo Tryz.prog 124=true:=by kernel_rfl
@[go_sem] theorem go125:isGo Tryz.prog 125=true:=by kernel_rfl
@[go_sem] theorem go126:isGo Tryz.prog 126=true:=by kernel_rfl
@[go_sem] theorem fr82:Tryz.f82.results.toList=[.tmp 2,.tmp 3]:=by kernel_rfl
@[go_sem] theorem fn82:Tryz.f82.ntmps=30:=by kernel_rfl
@[go_sem] theorem fr83:Tryz.f83.results.toList=[.tmp 6]:=by kernel_rfl
@[go_sem] theorem fn83:Tryz.f83.ntmps=23:=by kernel_rfl
@[go_sem] theorem tz163:tZero Tryz.prog 163=some [.int .i64 0,.int .i64 0,.int .i64 0,.string ⟨#[]⟩,.slice none 0 0]:=by kernel_rfl
@[go_sem] theorem go127:isGo Tryz.prog 127=true:=by kernel_rfl
@[go_sem] theorem go128:isGo Tryz.prog 128=true:=by kernel_rfl
@[go_sem] theorem fr84:Tryz.f84.results.toList=[.cell 8 117,.tmp 9]:=by kernel_rfl
@[go_sem] theorem fn84:Tryz.f84.ntmps=91:=by kernel_rfl
@[go_sem] theorem tb163:tBuild Tryz.prog 163=some ([.int .i64 0,.int .i64 0,.int .i64 0,.string ⟨#[]⟩,.slice none 0 0],[(0,1),(1,4)]):=by kernel_rfl
@[go_sem] theorem fr85:Tryz.f85.results.toList=[.tmp 6]:=by kernel_rfl
@[go_sem] theorem fn85:Tryz.f85.ntmps=35:=by kernel_rfl
@[go_sem] theorem go129:isGo Tryz.prog 129=true:=by kernel_rfl
@[go_sem] theorem fr86:Tryz.f86.results.toList=[.tmp 4]:=by kernel_rfl
@[go_sem] theorem fn86:Tryz.f86.ntmps=28:=by kernel_rfl
@[go_sem] theorem go130:isGo Tryz.prog 130=true:=by kernel_rfl
@[go_sem] theorem fr87:Tryz.f87.results.toList=[.tmp 2]:=by kernel_rfl
@[go_sem] theorem fn87:Tryz.f87.ntmps=20:=by kernel_rfl
@[go_sem] theorem fr88:Tryz.f88.results.toList=[.tmp 6]:=by kernel_rfl
@[go_sem] theorem fn88:Tryz.f88.ntmps=34:=by kernel_rfl
@[go_sem] theorem fr89:Tryz.f89.results.toList=[.tmp 4]:=by kernel_rfl
@[go_sem] theorem fn89:Tryz.f89.ntmps=51:=by kernel_rfl
@[go_sem] theorem go131:isGo Tryz.prog 131=true:=by kernel_rfl
@[go_sem] theorem fr90:Tryz.f90.results.toList=[.tmp 2]:=by kernel_rfl
@[go_sem] theorem fn90:Tryz.f90.ntmps=16:=by kernel_rfl
@[go_sem] theorem fr91:Tryz.f91.results.toList=[.tmp 4]:=by kernel_rfl
@[go_sem] theorem fn91:Tryz.f91.ntmps=21:=by kernel_rfl
@[go_sem] theorem ty167_m:tMap Tryz.prog 167=some (false,.int .i64 0):=by kernel_rfl
@[go_sem] theorem fr92:Tryz.f92.results.toList=[.tmp 4]:=by kernel_rfl
@[go_sem] theorem fn92:Tryz.f92.ntmps=142:=by kernel_rfl
@[go_sem] theorem go132:isGo Tryz.prog 132=true:=by kernel_rfl
@[go_sem] theorem fr93:Tryz.f93.results.toList=[.tmp 4]:=by kernel_rfl
@[go_sem] theorem fn93:Tryz.f93.ntmps=18:=by kernel_rfl
@[go_sem] theorem tz4:tZero Tryz.prog 4=some [.bool false]:=by kernel_rfl
@[go_sem] theorem go133:isGo Tryz.prog 133=true:=by kernel_rfl
@[go_sem] theorem fr94:Tryz.f94.results.toList=[.tmp 4]:=by kernel_rfl
@[go_sem] theorem fn94:Tryz.f94.ntmps=10:=by kernel_rfl
@[go_sem] theorem go135:isGo Tryz.prog 135=true:=by kernel_rfl
@[go_sem] theorem fr95:Tryz.f95.results.toList=[.tmp 2]:=by kernel_rfl
@[go_sem] theorem fn95:Tryz.f95.ntmps=9:=by kernel_rfl
@[go_sem] theorem go136:isGo Tryz.prog 136=true:=by kernel_rfl
@[go_sem] theorem fr96:Tryz.f96.results.toList=[.tmp 4]:=by kernel_rfl
@[go_sem] theorem fn96:Tryz.f96.ntmps=60:=by kernel_rfl
@[go_sem] theorem fr97:Tryz.f97.results.toList=[.tmp 2,.tmp 3]:=by kernel_rfl
@[go_sem] theorem fn97:Tryz.f97.ntmps=105:=by kernel_rfl
@[go_sem] theorem fr98:Tryz.f98.results.toList=[.tmp 6]:=by kernel_rfl
@[go_sem] theorem fn98:Tryz.f98.ntmps=26:=by kernel_rfl
@[go_sem] theorem go137:isGo Tryz.prog 137=true:=by kernel_rfl
@[go_sem] theorem fr99:Tryz.f99.results.toList=[.cell 4 48]:=by kernel_rfl
@[go_sem] theorem fn99:Tryz.f99.ntmps=28:=by kernel_rfl
@[go_sem] theorem go138:isGo Tryz.prog 138=true:=by kernel_rfl
@[go_sem] theorem fr100:Tryz.f100.results.toList=[.tmp 4]:=by kernel_rfl
@[go_sem] theorem fn100:Tryz.f100.ntmps=32:=by kernel_rfl
@[go_sem] theorem tb100:tBuild Tryz.prog 100=some ([.int .i64 0,.string ⟨#[]⟩,.slice none 0 0,.slice none 0 0],[(0,1),(1,1),(2,1),(3,1)]):=by kernel_rfl
@[go_sem] theorem go139:isGo Tryz.prog 139=true:=by kernel_rfl
@[go_sem] theorem fr101:Tryz.f101.results.toList=[.tmp 4]:=by kernel_rfl
@[go_sem] theorem fn101:Tryz.f101.ntmps=83:=by kernel_rfl
@[go_sem] theorem go140:isGo Tryz.prog 140=true:=by kernel_rfl
@[go_sem] theorem fr102:Tryz.f102.results.toList=[.cell 2 48]:=by kernel_rfl
@[go_sem] theorem fn102:Tryz.f102.ntmps=9:=by kernel_rfl
@[go_sem] theorem fr103:Tryz.f103.results.toList=[.tmp 4]:=by kernel_rfl
@[go_sem] theorem fn103:Tryz.f103.ntmps=42:=by kernel_rfl
@[go_sem] theorem go141:isGo Tryz.prog 141=true:=by kernel_rfl
@[go_sem] theorem fr104:Tryz.f104.results.toList=[.tmp 4]:=by kernel_rfl
@[go_sem] theorem fn104:Tryz.f104.ntmps=25:=by kernel_rfl
@[go_sem] theorem fr105:Tryz.f105.results.toList=[.tmp 2]:=by kernel_rfl
@[go_sem] theorem fn105:Tryz.f105.ntmps=4:=by kernel_rfl
@[go_sem] theorem fr106:Tryz.f106.results.toList=[.tmp 4]:=by kernel_rfl
@[go_sem] theorem fn106:Tryz.f106.ntmps=42:=by kernel_rfl
@[go_sem] theorem go142:isGo Tryz.prog 142=true:=by kernel_rfl
@[go_sem] theorem fr107:Tryz.f107.results.toList=[.cell 2 100]:=by kernel_rfl
@[go_sem] theorem fn107:Tryz.f107.ntmps=19:=by kernel_rfl
@[go_sem] theorem ty146_a:tAgg Tryz.prog 146=some false:=by kernel_rfl
@[go_sem] theorem ty146_s:tSize Tryz.prog 146=some 1:=by kernel_rfl
@[go_sem] theorem ty150_a:tAgg Tryz.prog 150=some true:=by kernel_rfl
@[go_sem] theorem ty150_s:tSize Tryz.prog 150=some 2:=by kernel_rfl
@[go_sem] theorem ty150_f0:tField Tryz.prog 150 0=some (0,105):=by kernel_rfl
@[go_sem] theorem ty150_f1:tField Tryz.prog 150 1=some (1,146):=by kernel_rfl
@[go_sem] theorem go152:isGo Tryz.prog 152=true:=by kernel_rfl
@[go_sem] theorem go153:isGo Tryz.prog 153=true:=by kernel_rfl
@[go_sem] theorem fr110:Tryz.f110.results.toList=[]:=by kernel_rfl
@[go_sem] theorem fn110:Tryz.f110.ntmps=57:=by kernel_rfl
@[go_sem] theorem fr112:Tryz.f112.results.toList=[.tmp 4]:=by kernel_rfl
@[go_sem] theorem fn112:Tryz.f112.ntmps=36:=by kernel_rfl
@[go_sem] theorem go154:isGo Tryz.prog 154=true:=by kernel_rfl
@[go_sem] theorem fr113:Tryz.f113.results.toList=[.tmp 4]:=by kernel_rfl
@[go_sem] theorem fn113:Tryz.f113.ntmps=27:=by kernel_rfl
@[go_sem] theorem go155:isGo Tryz.prog 155=true:=by kernel_rfl
@[go_sem] theorem fr114:Tryz.f114.results.toList=[.tmp 4]:=by kernel_rfl
@[go_sem] theorem fn114:Tryz.f114.ntmps=23:=by kernel_rfl
@[go_sem] theorem fr115:Tryz.f115.results.toList=[.tmp 4]:=by kernel_rfl
@[go_sem] theorem fn115:Tryz.f115.ntmps=21:=by kernel_rfl
@[go_sem] theorem go156:isGo Tryz.prog 156=true:=by kernel_rfl
@[go_sem] theorem go157:isGo Tryz.prog 157=true:=by kernel_rfl
@[go_sem] theorem fr116:Tryz.f116.results.toList=[.tmp 2]:=by kernel_rfl
@[go_sem] theorem fn116:Tryz.f116.ntmps=10:=by kernel_rfl
@[go_sem] theorem go158:isGo Tryz.prog 158=true:=by kernel_rfl
@[go_sem] theorem fr117:Tryz.f117.results.toList=[.tmp 4]:=by kernel_rfl
@[go_sem] theorem fn117:Tryz.f117.ntmps=26:=by kernel_rfl
@[go_sem] theorem go159:isGo Tryz.prog 159=true:=by kernel_rfl
@[go_sem] theorem fr118:Tryz.f118.results.toList=[.tmp 2]:=by kernel_rfl
@[go_sem] theorem fn118:Tryz.f118.ntmps=16:=by kernel_rfl
@[go_sem] theorem fr119:Tryz.f119.results.toList=[.tmp 4]:=by kernel_rfl
@[go_sem] theorem fn119:Tryz.f119.ntmps=107:=by kernel_rfl
@[go_sem] theorem ty184_i:tIsSlice Tryz.prog 184=true:=by kernel_rfl
@[go_sem] theorem ty184_e:tElem Tryz.prog 184=some 9:=by kernel_rfl
@[go_sem] theorem ty184_l:tSlice Tryz.prog 184=some (9,1,16):=by kernel_rfl
@[go_sem] theorem go160:isGo Tryz.prog 160=true:=by kernel_rfl
@[go_sem] theorem fr120:Tryz.f120.results.toList=[.tmp 2]:=by kernel_rfl
@[go_sem] theorem fn120:Tryz.f120.ntmps=17:=by kernel_rfl
@[go_sem] theorem go161:isGo Tryz.prog 161=true:=by kernel_rfl
@[go_sem] theorem go162:isGo Tryz.prog 162=true:=by kernel_rfl
@[go_sem] theorem fr121:Tryz.f121.results.toList=[.tmp 6]:=by kernel_rfl
@[go_sem] theorem fn121:Tryz.f121.ntmps=32:=by kernel_rfl
@[go_sem] theorem go163:isGo Tryz.prog 163=true:=by kernel_rfl
@[go_sem] theorem fr122:Tryz.f122.results.toList=[.tmp 2]:=by kernel_rfl
@[go_sem] theorem fn122:Tryz.f122.ntmps=8:=by kernel_rfl
@[go_sem] theorem fr123:Tryz.f123.results.toList=[.tmp 4]:=by kernel_rfl
@[go_sem] theorem fn123:Tryz.f123.ntmps=68:=by kernel_rfl
@[go_sem] theorem go164:isGo Tryz.prog 164=true:=by kernel_rfl
@[go_sem] theorem fr124:Tryz.f124.results.toList=[.tmp 2]:=by kernel_rfl
@[go_sem] theorem fn124:Tryz.f124.ntmps=10:=by kernel_rfl
@[go_sem] theorem fr125:Tryz.f125.results.toList=[.tmp 2]:=by kernel_rfl
@[go_sem] theorem fn125:Tryz.f125.ntmps=99:=by kernel_rfl
@[go_sem] theorem go165:isGo Tryz.prog 165=true:=by kernel_rfl
@[go_sem] theorem fr126:Tryz.f126.results.toList=[.tmp 2]:=by kernel_rfl
@[go_sem] theorem fn126:Tryz.f126.ntmps=20:=by kernel_rfl
@[go_sem] theorem go166:isGo Tryz.prog 166=true:=by kernel_rfl
@[go_sem] theorem fr127:Tryz.f127.results.toList=[.cell 4 100]:=by kernel_rfl
@[go_sem] theorem fn127:Tryz.f127.ntmps=48:=by kernel_rfl
@[go_sem] theorem go167:isGo Tryz.prog 167=true:=by kernel_rfl
@[go_sem] theorem go168:isGo Tryz.prog 168=true:=by kernel_rfl
@[go_sem] theorem fr128:Tryz.f128.results.toList=[.tmp 2]:=by kernel_rfl
@[go_sem] theorem fn128:Tryz.f128.ntmps=59:=by kernel_rfl
@[go_sem] theorem fr129:Tryz.f129.results.toList=[.tmp 4]:=by kernel_rfl
@[go_sem] theorem fn129:Tryz.f129.ntmps=17:=by kernel_rfl
@[go_sem] theorem tb69:tBuild Tryz.prog 69=some ([.int .i64 0,.int .i64 0,.string ⟨#[]⟩,.slice none 0 0],[(0,1),(1,1),(2,1),(3,1)]):=by kernel_rfl
@[go_sem] theorem fr130:Tryz.f130.results.toList=[.cell 2 69]:=by kernel_rfl
@[go_sem] theorem fn130:Tryz.f130.ntmps=29:=by kernel_rfl
@[go_sem] theorem fr131:Tryz.f131.results.toList=[.tmp 2]:=by kernel_rfl
@[go_sem] theorem fn131:Tryz.f131.ntmps=57:=by kernel_rfl
@[go_sem] theorem ty188_a:tAgg Tryz.prog 188=some false:=by kernel_rfl
@[go_sem] theorem ty188_s:tSize Tryz.prog 188=some 1:=by kernel_rfl
@[go_sem] theorem ty188_im:tIsMap Tryz.prog 188=true:=by kernel_rfl
@[go_sem] theorem ty188_m:tMap Tryz.prog 188=some (false,.bool false):=by kernel_rfl
@[go_sem] theorem tz188:tZero Tryz.prog 188=some [.map none]:=by kernel_rfl
@[go_sem] theorem go172:isGo Tryz.prog 172=true:=by kernel_rfl
@[go_sem] theorem fr132:Tryz.f132.results.toList=[.tmp 2]:=by kernel_rfl
@[go_sem] theorem fn132:Tryz.f132.ntmps=10:=by kernel_rfl
@[go_sem] theorem fr133:Tryz.f133.results.toList=[]:=by kernel_rfl
@[go_sem] theorem fn133:Tryz.f133.ntmps=20:=by kernel_rfl
@[go_sem] theorem fr134:Tryz.f134.results.toList=[]:=by kernel_rfl
@[go_sem] theorem fn134:Tryz.f134.ntmps=26:=by kernel_rfl
@[go_sem] theorem go170:isGo Tryz.prog 170=true:=by kernel_rfl
@[go_sem] theorem fr135:Tryz.f135.results.toList=[.tmp 2]:=by kernel_rfl
@[go_sem] theorem fn135:Tryz.f135.ntmps=8:=by kernel_rfl
@[go_sem] theorem fr136:Tryz.f136.results.toList=[.tmp 4]:=by kernel_rfl
@[go_sem] theorem fn136:Tryz.f136.ntmps=11:=by kernel_rfl
@[go_sem] theorem go174:isGo Tryz.prog 174=true:=by kernel_rfl
@[go_sem] theorem fr137:Tryz.f137.results.toList=[.cell 4 69]:=by kernel_rfl
@[go_sem] theorem fn137:Tryz.f137.ntmps=8:=by kernel_rfl
@[go_sem] theorem fr138:Tryz.f138.results.toList=[.tmp 4]:=by kernel_rfl
@[go_sem] theorem fn138:Tryz.f138.ntmps=9:=by kernel_rfl
@[go_sem] theorem fr139:Tryz.f139.results.toList=[.tmp 4]:=by kernel_rfl
@[go_sem] theorem fn139:Tryz.f139.ntmps=31:=by kernel_rfl
@[go_sem] theorem go176:isGo Tryz.prog 176=true:=by kernel_rfl
@[go_sem] theorem fr140:Tryz.f140.results.toList=[.tmp 2]:=by kernel_rfl
@[go_sem] theorem fn140:Tryz.f140.ntmps=20:=by kernel_rfl
@[go_sem] theorem fr141:Tryz.f141.results.toList=[.tmp 4]:=by kernel_rfl
@[go_sem] theorem fn141:Tryz.f141.ntmps=27:=by kernel_rfl
@[go_sem] theorem fr142:Tryz.f142.results.toList=[.tmp 2]:=by kernel_rfl
@[go_sem] theorem fn142:Tryz.f142.ntmps=23:=by kernel_rfl
@[go_sem] theorem fr152:Tryz.f152.results.toList=[]:=by kernel_rfl
@[go_sem] theorem fn152:Tryz.f152.ntmps=35:=by kernel_rfl
@[go_sem] theorem go177:isGo Tryz.prog 177=true:=by kernel_rfl
@[go_sem] theorem fr153:Tryz.f153.results.toList=[]:=by kernel_rfl
@[go_sem] theorem fn153:Tryz.f153.ntmps=177:=by kernel_rfl
@[go_sem] theorem fr154:Tryz.f154.results.toList=[.tmp 4]:=by kernel_rfl
@[go_sem] theorem fn154:Tryz.f154.ntmps=27:=by kernel_rfl
@[go_sem] theorem fr155:Tryz.f155.results.toList=[.tmp 4]:=by kernel_rfl
@[go_sem] theorem fn155:Tryz.f155.ntmps=31:=by kernel_rfl
@[go_sem] theorem fr156:Tryz.f156.results.toList=[.tmp 4]:=by kernel_rfl
@[go_sem] theorem fn156:Tryz.f156.ntmps=28:=by kernel_rfl
@[go_sem] theorem fr157:Tryz.f157.results.toList=[.tmp 2]:=by kernel_rfl
@[go_sem] theorem fn157:Tryz.f157.ntmps=76:=by kernel_rfl
@[go_sem] theorem fr158:Tryz.f158.results.toList=[.tmp 4]:=by kernel_rfl
@[go_sem] theorem fn158:Tryz.f158.ntmps=49:=by kernel_rfl
@[go_sem] theorem go178:isGo Tryz.prog 178=true:=by kernel_rfl
@[go_sem] theorem fr159:Tryz.f159.results.toList=[.tmp 2]:=by kernel_rfl
@[go_sem] theorem fn159:Tryz.f159.ntmps=5:=by kernel_rfl
@[go_sem] theorem fr160:Tryz.f160.results.toList=[.tmp 2]:=by kernel_rfl
@[go_sem] theorem fn160:Tryz.f160.ntmps=44:=by kernel_rfl
@[go_sem] theorem fr161:Tryz.f161.results.toList=[.tmp 4]:=by kernel_rfl
@[go_sem] theorem fn161:Tryz.f161.ntmps=41:=by kernel_rfl
@[go_sem] theorem fr162:Tryz.f162.results.toList=[.tmp 4]:=by kernel_rfl
@[go_sem] theorem fn162:Tryz.f162.ntmps=32:=by kernel_rfl
@[go_sem] theorem fr163:Tryz.f163.results.toList=[.tmp 4]:=by kernel_rfl
@[go_sem] theorem fn163:Tryz.f163.ntmps=28:=by kernel_rfl
@[go_sem] theorem go180:isGo Tryz.prog 180=true:=by kernel_rfl
@[go_sem] theorem fr164:Tryz.f164.results.toList=[.tmp 2]:=by kernel_rfl
@[go_sem] theorem fn164:Tryz.f164.ntmps=106:=by kernel_rfl
@[go_sem] theorem fr165:Tryz.f165.results.toList=[.cell 2 100]:=by kernel_rfl
@[go_sem] theorem fn165:Tryz.f165.ntmps=30:=by kernel_rfl
@[go_sem] theorem go181:isGo Tryz.prog 181=true:=by kernel_rfl
@[go_sem] theorem go182:isGo Tryz.prog 182=true:=by kernel_rfl
@[go_sem] theorem fr166:Tryz.f166.results.toList=[.cell 4 69]:=by kernel_rfl
@[go_sem] theorem fn166:Tryz.f166.ntmps=36:=by kernel_rfl
@[go_sem] theorem fr167:Tryz.f167.results.toList=[.tmp 4]:=by kernel_rfl
@[go_sem] theorem fn167:Tryz.f167.ntmps=9:=by kernel_rfl
@[go_sem] theorem fr168:Tryz.f168.results.toList=[.tmp 4]:=by kernel_rfl
@[go_sem] theorem fn168:Tryz.f168.ntmps=27:=by kernel_rfl
@[go_sem] theorem fr169:Tryz.f169.results.toList=[]:=by kernel_rfl
@[go_sem] theorem fn169:Tryz.f169.ntmps=16:=by kernel_rfl
@[go_sem] theorem fr170:Tryz.f170.results.toList=[]:=by kernel_rfl
@[go_sem] theorem fn170:Tryz.f170.ntmps=26:=by kernel_rfl
@[go_sem] theorem fr171:Tryz.f171.results.toList=[]:=by kernel_rfl
@[go_sem] theorem fn171:Tryz.f171.ntmps=5:=by kernel_rfl
@[go_sem] theorem go183:isGo Tryz.prog 183=true:=by kernel_rfl
@[go_sem] theorem fr172:Tryz.f172.results.toList=[.tmp 2]:=by kernel_rfl
@[go_sem] theorem fn172:Tryz.f172.ntmps=19:=by kernel_rfl
@[go_sem] theorem fr173:Tryz.f173.results.toList=[]:=by kernel_rfl
@[go_sem] theorem fn173:Tryz.f173.ntmps=3:=by kernel_rfl
@[go_sem] theorem go184:isGo Tryz.prog 184=true:=by kernel_rfl
@[go_sem] theorem fr174:Tryz.f174.results.toList=[.cell 4 69]:=by kernel_rfl
@[go_sem] theorem fn174:Tryz.f174.ntmps=38:=by kernel_rfl
@[go_sem] theorem fr175:Tryz.f175.results.toList=[.cell 3 69,.tmp 4]:=by kernel_rfl
@[go_sem] theorem fn175:Tryz.f175.ntmps=9:=by kernel_rfl
@[go_sem] theorem fr176:Tryz.f176.results.toList=[.cell 2 69]:=by kernel_rfl
@[go_sem] theorem fn176:Tryz.f176.ntmps=25:=by kernel_rfl
@[go_sem] theorem go185:isGo Tryz.prog 185=true:=by kernel_rfl
@[go_sem] theorem fr177:Tryz.f177.results.toList=[]:=by kernel_rfl
@[go_sem] theorem fn177:Tryz.f177.ntmps=53:=by kernel_rfl
@[go_sem] theorem fr178:Tryz.f178.results.toList=[.tmp 4]:=by kernel_rfl
@[go_sem] theorem fn178:Tryz.f178.ntmps=10:=by kernel_rfl
@[go_sem] theorem fr179:Tryz.f179.results.toList=[.tmp 2]:=by kernel_rfl
@[go_sem] theorem fn179:Tryz.f179.ntmps=5:=by kernel_rfl
@[go_sem] theorem fr180:Tryz.f180.results.toList=[.tmp 2]:=by kernel_rfl
@[go_sem] theorem fn180:Tryz.f180.ntmps=15:=by kernel_rfl
@[go_sem] theorem fr181:Tryz.f181.results.toList=[.cell 4 69,.tmp 5]:=by kernel_rfl
@[go_sem] theorem fn181:Tryz.f181.ntmps=22:=by kernel_rfl
@[go_sem] theorem fr182:Tryz.f182.results.toList=[.cell 4 69]:=by kernel_rfl
@[go_sem] theorem fn182:Tryz.f182.ntmps=9:=by kernel_rfl
@[go_sem] theorem fr184:Tryz.f184.results.toList=[.cell 4 69]:=by kernel_rfl
@[go_sem] theorem fn184:Tryz.f184.ntmps=9:=by kernel_rfl
@[go_sem] theorem fr185:Tryz.f185.results.toList=[]:=by kernel_rfl
@[go_sem] theorem fn185:Tryz.f185.ntmps=23:=by kernel_rfl
@[go_sem] theorem fr186:Tryz.f186.results.toList=[]:=by kernel_rfl
@[go_sem] theorem fn186:Tryz.f186.ntmps=11:=by kernel_rfl
end Go.Proofs.YtockpdkdnlkkfaaGreat
