import Derived.Test.YtehcdhelbkjaeaaGreatDoorP1
import Derived.Test.YtehcdhelbkjaeaaGreatDoorA5
import Derived.Test.YtehcdhelbkjaeaaGreatDoorProg
import Derived.KernelRfl
namespace Go.Proofs.YtehcdhelbkjaeaaGreatDoor
open Go.Abs
theorem mixed:Tryz.prog.follows .mixedOrders=true:=by kernel_rfl
theorem kr_ {α:Sort _}{a b:α}(h:a=b:=by kernel_rfl):a=b:=h
theorem wk1_ {p:Prop}(h:p:=by refine ⟨by simp [mkS],by simp [mkS],by simp only [mkS,List.all_cons,List.all_nil,O.refsLt,C.refsLt,C.refsLt1,all_dmap];first | done | rfl | (simp;done),?_⟩;simp [mkS,Abs.get,C.refsLtT,C.refsLt,C.refsLt1]):p:=h
theorem wk2_ {p:Prop}(h:p:=by refine ⟨by simp [mkS],by simp [mkS],by simp [mkS,O.refsLt,C.refsLt,C.refsLt1],?_⟩;simp [mkS,Abs.get,C.refsLtT,C.refsLt,C.refsLt1]):p:=h
theorem wk3_ {p:Prop}(h:p:=by refine ⟨by simp [mkS],by simp [mkS],by simp [mkS,O.refsLt],?_⟩;simp [mkS,Abs.get,C.refsLtT,C.refsLt,C.refsLt1]):p:=h
theorem rS_ {f:FuncId}{n n0:Nat}{R:C→List O→Prop}{fn:Func}(hf:Tryz.prog.funcs[f]? = some fn){k:List Item}{s:St}(h:run Tryz.prog f n n0 R fn.results.toList 200 k s)(hk:k.all okItem=true:=by kernel_rfl):AW Tryz.prog f n n0 R k s:=run_sound hf mixed 200 k s hk h
theorem aE_ {f:FuncId}{fn:Func}{c:Code}{args:List C}{H:List O}{R:C→List O→Prop}(hf:Tryz.prog.funcs[f]? = some fn)(h:AW Tryz.prog f fn.ntmps H.length R [.code c] ⟨(List.range args.length).zip args,H⟩)(hb:fn.body=some c:=by rfl)(hn:args.length≤fn.ntmps:=by exact Nat.le_of_ble_eq_true rfl):ACalls Tryz.prog f args H R:=ACalls.enter hf hb hn h
@[go_sem] theorem ty3_a:tAgg Tryz.prog 3=some false:=kr_
@[go_sem] theorem ty3_s:tSize Tryz.prog 3=some 1:=kr_
@[go_sem] theorem ty3_n:tInt Tryz.prog 3=some Go.IntKind.i64:=kr_
@[go_sem] theorem ty3_u:(Tryz.prog.underlying 3).isSome=true:=kr_
@[go_sem] theorem ty4_a:tAgg Tryz.prog 4=some false:=kr_
@[go_sem] theorem ty4_s:tSize Tryz.prog 4=some 1:=kr_
@[go_sem] theorem ty4_u:Tryz.prog.underlying 4=some .bool:=kr_
@[go_sem] theorem ty9_a:tAgg Tryz.prog 9=some false:=kr_
@[go_sem] theorem ty9_s:tSize Tryz.prog 9=some 1:=kr_
@[go_sem] theorem ty9_t:tIsStr Tryz.prog 9=true:=kr_
@[go_sem] theorem ty22_a:tAgg Tryz.prog 22=some false:=kr_
@[go_sem] theorem ty22_s:tSize Tryz.prog 22=some 1:=kr_
@[go_sem] theorem ty22_i:tIsSlice Tryz.prog 22=true:=kr_
@[go_sem] theorem ty22_e:tElem Tryz.prog 22=some 68:=kr_
@[go_sem] theorem ty24_a:tAgg Tryz.prog 24=some true:=kr_
@[go_sem] theorem ty24_s:tSize Tryz.prog 24=some 1:=kr_
@[go_sem] theorem ty24_f0:tField Tryz.prog 24 0=some (0,22):=kr_
@[go_sem] theorem ty26_a:tAgg Tryz.prog 26=some false:=kr_
@[go_sem] theorem ty26_s:tSize Tryz.prog 26=some 1:=kr_
@[go_sem] theorem ty26_i:tIsSlice Tryz.prog 26=true:=kr_
@[go_sem] theorem ty26_e:tElem Tryz.prog 26=some 89:=kr_
@[go_sem] theorem ty26_l:tSlice Tryz.prog 26=some (89,4,56):=kr_
@[go_sem] theorem ty26_t:tIsStr Tryz.prog 26=false:=kr_
@[go_sem] theorem ty26_u:(Tryz.prog.underlying 26).isSome=true:=kr_
@[go_sem] theorem ty27_a:tAgg Tryz.prog 27=some false:=kr_
@[go_sem] theorem ty27_s:tSize Tryz.prog 27=some 1:=kr_
@[go_sem] theorem ty27_i:tIsSlice Tryz.prog 27=true:=kr_
@[go_sem] theorem ty27_e:tElem Tryz.prog 27=some 29:=kr_
@[go_sem] theorem ty27_l:tSlice Tryz.prog 27=some (29,4,72):=kr_
@[go_sem] theorem ty27_u:(Tryz.prog.underlying 27).isSome=true:=kr_
@[go_sem] theorem ty29_a:tAgg Tryz.prog 29=some true:=kr_
@[go_sem] theorem ty29_s:tSize Tryz.prog 29=some 4:=kr_
@[go_sem] theorem ty29_f0:tField Tryz.prog 29 0=some (0,9):=kr_
@[go_sem] theorem ty29_f1:tField Tryz.prog 29 1=some (1,3):=kr_
@[go_sem] theorem ty29_f2:tField Tryz.prog 29 2=some (2,26):=kr_
@[go_sem] theorem ty29_f3:tField Tryz.prog 29 3=some (3,27):=kr_
@[go_sem] theorem ty32_a:tAgg Tryz.prog 32=some false:=kr_
@[go_sem] theorem ty32_s:tSize Tryz.prog 32=some 1:=kr_
@[go_sem] theorem ty32_i:tIsSlice Tryz.prog 32=true:=kr_
@[go_sem] theorem ty32_e:tElem Tryz.prog 32=some 83:=kr_
@[go_sem] theorem ty32_l:tSlice Tryz.prog 32=some (83,7,104):=kr_
@[go_sem] theorem ty34_a:tAgg Tryz.prog 34=some true:=kr_
@[go_sem] theorem ty34_s:tSize Tryz.prog 34=some 1:=kr_
@[go_sem] theorem ty34_f0:tField Tryz.prog 34 0=some (0,32):=kr_
@[go_sem] theorem ty63_a:tAgg Tryz.prog 63=some false:=kr_
@[go_sem] theorem ty63_s:tSize Tryz.prog 63=some 1:=kr_
@[go_sem] theorem ty63_i:tIsSlice Tryz.prog 63=true:=kr_
@[go_sem] theorem ty63_e:tElem Tryz.prog 63=some 162:=kr_
@[go_sem] theorem ty64_a:tAgg Tryz.prog 64=some false:=kr_
@[go_sem] theorem ty64_s:tSize Tryz.prog 64=some 1:=kr_
@[go_sem] theorem ty64_i:tIsSlice Tryz.prog 64=true:=kr_
@[go_sem] theorem ty64_e:tElem Tryz.prog 64=some 66:=kr_
@[go_sem] theorem ty66_a:tAgg Tryz.prog 66=some true:=kr_
@[go_sem] theorem ty66_s:tSize Tryz.prog 66=some 4:=kr_
@[go_sem] theorem ty66_f0:tField Tryz.prog 66 0=some (0,3):=kr_
@[go_sem] theorem ty66_f1:tField Tryz.prog 66 1=some (1,9):=kr_
@[go_sem] theorem ty66_f2:tField Tryz.prog 66 2=some (2,63):=kr_
@[go_sem] theorem ty66_f3:tField Tryz.prog 66 3=some (3,64):=kr_
@[go_sem] theorem ty68_a:tAgg Tryz.prog 68=some true:=kr_
@[go_sem] theorem ty68_s:tSize Tryz.prog 68=some 7:=kr_
@[go_sem] theorem ty68_f0:tField Tryz.prog 68 0=some (0,9):=kr_
@[go_sem] theorem ty68_f1:tField Tryz.prog 68 1=some (1,3):=kr_
@[go_sem] theorem ty68_f2:tField Tryz.prog 68 2=some (2,3):=kr_
@[go_sem] theorem ty68_f3:tField Tryz.prog 68 3=some (3,66):=kr_
@[go_sem] theorem ty79_a:tAgg Tryz.prog 79=some false:=kr_
@[go_sem] theorem ty79_s:tSize Tryz.prog 79=some 1:=kr_
@[go_sem] theorem ty79_i:tIsSlice Tryz.prog 79=true:=kr_
@[go_sem] theorem ty79_e:tElem Tryz.prog 79=some 81:=kr_
@[go_sem] theorem ty79_l:tSlice Tryz.prog 79=some (81,4,72):=kr_
@[go_sem] theorem ty79_t:tIsStr Tryz.prog 79=false:=kr_
@[go_sem] theorem ty79_u:(Tryz.prog.underlying 79).isSome=true:=kr_
@[go_sem] theorem ty81_a:tAgg Tryz.prog 81=some true:=kr_
@[go_sem] theorem ty81_s:tSize Tryz.prog 81=some 4:=kr_
@[go_sem] theorem ty81_f0:tField Tryz.prog 81 0=some (0,3):=kr_
@[go_sem] theorem ty81_f1:tField Tryz.prog 81 1=some (1,9):=kr_
@[go_sem] theorem ty81_f2:tField Tryz.prog 81 2=some (2,26):=kr_
@[go_sem] theorem ty81_f3:tField Tryz.prog 81 3=some (3,79):=kr_
@[go_sem] theorem ty83_a:tAgg Tryz.prog 83=some true:=kr_
@[go_sem] theorem ty83_s:tSize Tryz.prog 83=some 7:=kr_
@[go_sem] theorem ty83_f0:tField Tryz.prog 83 0=some (0,9):=kr_
@[go_sem] theorem ty83_f1:tField Tryz.prog 83 1=some (1,3):=kr_
@[go_sem] theorem ty83_f2:tField Tryz.prog 83 2=some (2,3):=kr_
@[go_sem] theorem ty83_f3:tField Tryz.prog 83 3=some (3,81):=kr_
@[go_sem] theorem ty89_a:tAgg Tryz.prog 89=some true:=kr_
@[go_sem] theorem ty89_s:tSize Tryz.prog 89=some 4:=kr_
@[go_sem] theorem ty89_f0:tField Tryz.prog 89 0=some (0,3):=kr_
@[go_sem] theorem ty89_f1:tField Tryz.prog 89 1=some (1,3):=kr_
@[go_sem] theorem ty89_f2:tField Tryz.prog 89 2=some (2,9):=kr_
@[go_sem] theorem ty89_f3:tField Tryz.prog 89 3=some (3,26):=kr_
@[go_sem] theorem ty162_a:tAgg Tryz.prog 162=some true:=kr_
@[go_sem] theorem ty162_s:tSize Tryz.prog 162=some 4:=kr_
@[go_sem] theorem ty162_f0:tField Tryz.prog 162 0=some (0,3):=kr_
@[go_sem] theorem ty162_f1:tField Tryz.prog 162 1=some (1,3):=kr_
@[go_sem] theorem ty162_f2:tField Tryz.prog 162 2=some (2,9):=kr_
@[go_sem] theorem ty162_f3:tField Tryz.prog 162 3=some (3,63):=kr_
@[go_sem] theorem tz29:tZero Tryz.prog 29=some [.string ⟨#[]⟩,.int .i64 0,.slice none 0 0,.slice none 0 0]:=kr_
@[go_sem] theorem tz34:tZero Tryz.prog 34=some [.slice none 0 0]:=kr_
@[go_sem] theorem go4:isGo Tryz.prog 4=true:=kr_
@[go_sem] theorem go5:isGo Tryz.prog 5=true:=kr_
@[go_sem] theorem go6:isGo Tryz.prog 6=true:=kr_
@[go_sem] theorem go7:isGo Tryz.prog 7=true:=kr_
@[go_sem] theorem go8:isGo Tryz.prog 8=true:=kr_
@[go_sem] theorem go9:isGo Tryz.prog 9=true:=kr_
@[go_sem] theorem go10:isGo Tryz.prog 10=true:=kr_
@[go_sem] theorem go11:isGo Tryz.prog 11=true:=kr_
@[go_sem] theorem go12:isGo Tryz.prog 12=true:=kr_
@[go_sem] theorem fr3:Tryz.f3.results.toList=[.tmp 4]:=kr_
@[go_sem] theorem fn3:Tryz.f3.ntmps=104:=kr_
@[go_sem] theorem go13:isGo Tryz.prog 13=true:=kr_
@[go_sem] theorem fr4:Tryz.f4.results.toList=[.tmp 4]:=kr_
@[go_sem] theorem fn4:Tryz.f4.ntmps=12:=kr_
@[go_sem] theorem ty42_a:tAgg Tryz.prog 42=some false:=kr_
@[go_sem] theorem ty42_s:tSize Tryz.prog 42=some 1:=kr_
@[go_sem] theorem ty42_i:tIsSlice Tryz.prog 42=true:=kr_
@[go_sem] theorem ty42_e:tElem Tryz.prog 42=some 9:=kr_
@[go_sem] theorem ty42_l:tSlice Tryz.prog 42=some (9,1,16):=kr_
@[go_sem] theorem ty42_u:(Tryz.prog.underlying 42).isSome=true:=kr_
@[go_sem] theorem ty45_i:tIsSlice Tryz.prog 45=true:=kr_
@[go_sem] theorem ty45_e:tElem Tryz.prog 45=some 42:=kr_
@[go_sem] theorem ty45_l:tSlice Tryz.prog 45=some (42,1,24):=kr_
@[go_sem] theorem ty45_u:(Tryz.prog.underlying 45).isSome=true:=kr_
@[go_sem] theorem tb29:tBuild Tryz.prog 29=some ([.string ⟨#[]⟩,.int .i64 0,.slice none 0 0,.slice none 0 0],[(0,1),(1,1),(2,1),(3,1)]):=kr_
@[go_sem] theorem go14:isGo Tryz.prog 14=true:=kr_
@[go_sem] theorem go15:isGo Tryz.prog 15=true:=kr_
@[go_sem] theorem go16:isGo Tryz.prog 16=true:=kr_
@[go_sem] theorem go17:isGo Tryz.prog 17=true:=kr_
@[go_sem] theorem fr5:Tryz.f5.results.toList=[.cell 4 29,.tmp 5]:=kr_
@[go_sem] theorem fn5:Tryz.f5.ntmps=51:=kr_
@[go_sem] theorem go18:isGo Tryz.prog 18=true:=kr_
@[go_sem] theorem fr6:Tryz.f6.results.toList=[.cell 2 34]:=kr_
@[go_sem] theorem fn6:Tryz.f6.ntmps=9:=kr_
@[go_sem] theorem ty53_f0:tField Tryz.prog 53 0=some (0,42):=kr_
@[go_sem] theorem ty53_f1:tField Tryz.prog 53 1=some (1,3):=kr_
@[go_sem] theorem tb53:tBuild Tryz.prog 53=some ([.slice none 0 0,.int .i64 0],[(0,1),(1,1)]):=kr_
@[go_sem] theorem go19:isGo Tryz.prog 19=true:=kr_
@[go_sem] theorem go20:isGo Tryz.prog 20=true:=kr_
@[go_sem] theorem go21:isGo Tryz.prog 21=true:=kr_
@[go_sem] theorem go22:isGo Tryz.prog 22=true:=kr_
@[go_sem] theorem fr7:Tryz.f7.results.toList=[.cell 4 29,.tmp 5]:=kr_
@[go_sem] theorem fn7:Tryz.f7.ntmps=41:=kr_
@[go_sem] theorem go23:isGo Tryz.prog 23=true:=kr_
@[go_sem] theorem go24:isGo Tryz.prog 24=true:=kr_
@[go_sem] theorem fr8:Tryz.f8.results.toList=[.tmp 4]:=kr_
@[go_sem] theorem fn8:Tryz.f8.ntmps=27:=kr_
@[go_sem] theorem go25:isGo Tryz.prog 25=true:=kr_
@[go_sem] theorem fr9:Tryz.f9.results.toList=[.tmp 4]:=kr_
@[go_sem] theorem fn9:Tryz.f9.ntmps=11:=kr_
@[go_sem] theorem go26:isGo Tryz.prog 26=true:=kr_
@[go_sem] theorem fr10:Tryz.f10.results.toList=[.tmp 4]:=kr_
@[go_sem] theorem fn10:Tryz.f10.ntmps=10:=kr_
@[go_sem] theorem go27:isGo Tryz.prog 27=true:=kr_
@[go_sem] theorem go28:isGo Tryz.prog 28=true:=kr_
@[go_sem] theorem fr11:Tryz.f11.results.toList=[.tmp 4]:=kr_
@[go_sem] theorem fn11:Tryz.f11.ntmps=14:=kr_
@[go_sem] theorem go29:isGo Tryz.prog 29=true:=kr_
@[go_sem] theorem go30:isGo Tryz.prog 30=true:=kr_
@[go_sem] theorem fr12:Tryz.f12.results.toList=[.tmp 4]:=kr_
@[go_sem] theorem fn12:Tryz.f12.ntmps=18:=kr_
@[go_sem] theorem go31:isGo Tryz.prog 31=true:=kr_
@[go_sem] theorem fr13:Tryz.f13.results.toList=[.tmp 4]:=kr_
@[go_sem] theorem fn13:Tryz.f13.ntmps=27:=kr_
@[go_sem] theorem ty5_n:tInt Tryz.prog 5=some Go.IntKind.u8:=kr_
@[go_sem] theorem ty5_u:(Tryz.prog.underlying 5).isSome=true:=kr_
@[go_sem] theorem go32:isGo Tryz.prog 32=true:=kr_
@[go_sem] theorem go33:isGo Tryz.prog 33=true:=kr_
@[go_sem] theorem fr14:Tryz.f14.results.toList=[.tmp 2,.tmp 3]:=kr_
@[go_sem] theorem fn14:Tryz.f14.ntmps=99:=kr_
@[go_sem] theorem go34:isGo Tryz.prog 34=true:=kr_
@[go_sem] theorem fr15:Tryz.f15.results.toList=[.tmp 2,.tmp 3]:=kr_
@[go_sem] theorem fn15:Tryz.f15.ntmps=29:=kr_
@[go_sem] theorem go35:isGo Tryz.prog 35=true:=kr_
@[go_sem] theorem go36:isGo Tryz.prog 36=true:=kr_
@[go_sem] theorem fr16:Tryz.f16.results.toList=[.cell 2 29,.tmp 3]:=kr_
@[go_sem] theorem fn16:Tryz.f16.ntmps=82:=kr_
@[go_sem] theorem go37:isGo Tryz.prog 37=true:=kr_
@[go_sem] theorem go38:isGo Tryz.prog 38=true:=kr_
@[go_sem] theorem go39:isGo Tryz.prog 39=true:=kr_
@[go_sem] theorem fr17:Tryz.f17.results.toList=[.tmp 4]:=kr_
@[go_sem] theorem fn17:Tryz.f17.ntmps=17:=kr_
@[go_sem] theorem tz83:tZero Tryz.prog 83=some [.string ⟨#[]⟩,.int .i64 0,.int .i64 0,.int .i64 0,.string ⟨#[]⟩,.slice none 0 0,.slice none 0 0]:=kr_
@[go_sem] theorem go40:isGo Tryz.prog 40=true:=kr_
@[go_sem] theorem fr18:Tryz.f18.results.toList=[.tmp 2]:=kr_
@[go_sem] theorem fn18:Tryz.f18.ntmps=23:=kr_
@[go_sem] theorem fr19:Tryz.f19.results.toList=[.tmp 2,.tmp 3]:=kr_
@[go_sem] theorem fn19:Tryz.f19.ntmps=132:=kr_
@[go_sem] theorem tz89:tZero Tryz.prog 89=some [.int .i64 0,.int .i64 0,.string ⟨#[]⟩,.slice none 0 0]:=kr_
@[go_sem] theorem go41:isGo Tryz.prog 41=true:=kr_
@[go_sem] theorem go42:isGo Tryz.prog 42=true:=kr_
@[go_sem] theorem go43:isGo Tryz.prog 43=true:=kr_
@[go_sem] theorem go44:isGo Tryz.prog 44=true:=kr_
@[go_sem] theorem fr20:Tryz.f20.results.toList=[.cell 2 29,.tmp 3]:=kr_
@[go_sem] theorem fn20:Tryz.f20.ntmps=79:=kr_
@[go_sem] theorem fr21:Tryz.f21.results.toList=[.tmp 2]:=kr_
@[go_sem] theorem fn21:Tryz.f21.ntmps=13:=kr_
@[go_sem] theorem go45:isGo Tryz.prog 45=true:=kr_
@[go_sem] theorem go46:isGo Tryz.prog 46=true:=kr_
@[go_sem] theorem go47:isGo Tryz.prog 47=true:=kr_
@[go_sem] theorem fr22:Tryz.f22.results.toList=[.tmp 4]:=kr_
@[go_sem] theorem fn22:Tryz.f22.ntmps=17:=kr_
@[go_sem] theorem go48:isGo Tryz.prog 48=true:=kr_
@[go_sem] theorem fr23:Tryz.f23.results.toList=[.tmp 4]:=kr_
@[go_sem] theorem fn23:Tryz.f23.ntmps=27:=kr_
@[go_sem] theorem fr24:Tryz.f24.results.toList=[.tmp 4]:=kr_
@[go_sem] theorem fn24:Tryz.f24.ntmps=27:=kr_
@[go_sem] theorem go49:isGo Tryz.prog 49=true:=kr_
@[go_sem] theorem fr25:Tryz.f25.results.toList=[.tmp 4]:=kr_
@[go_sem] theorem fn25:Tryz.f25.ntmps=27:=kr_
@[go_sem] theorem go50:isGo Tryz.prog 50=true:=kr_
@[go_sem] theorem go51:isGo Tryz.prog 51=true:=kr_
@[go_sem] theorem fr26:Tryz.f26.results.toList=[.tmp 4]:=kr_
@[go_sem] theorem fn26:Tryz.f26.ntmps=68:=kr_
@[go_sem] theorem fr27:Tryz.f27.results.toList=[.tmp 4]:=kr_
@[go_sem] theorem fn27:Tryz.f27.ntmps=42:=kr_
@[go_sem] theorem fr28:Tryz.f28.results.toList=[.tmp 4]:=kr_
@[go_sem] theorem fn28:Tryz.f28.ntmps=42:=kr_
@[go_sem] theorem fr29:Tryz.f29.results.toList=[.tmp 4]:=kr_
@[go_sem] theorem fn29:Tryz.f29.ntmps=50:=kr_
@[go_sem] theorem fr30:Tryz.f30.results.toList=[.tmp 4]:=kr_
@[go_sem] theorem fn30:Tryz.f30.ntmps=50:=kr_
@[go_sem] theorem go52:isGo Tryz.prog 52=true:=kr_
@[go_sem] theorem fr31:Tryz.f31.results.toList=[.tmp 4]:=kr_
@[go_sem] theorem fn31:Tryz.f31.ntmps=19:=kr_
@[go_sem] theorem fr32:Tryz.f32.results.toList=[.tmp 2]:=kr_
@[go_sem] theorem fn32:Tryz.f32.ntmps=21:=kr_
@[go_sem] theorem fr33:Tryz.f33.results.toList=[.tmp 6]:=kr_
@[go_sem] theorem fn33:Tryz.f33.ntmps=15:=kr_
@[go_sem] theorem fr34:Tryz.f34.results.toList=[.tmp 4,.tmp 5,.tmp 6]:=kr_
@[go_sem] theorem fn34:Tryz.f34.ntmps=52:=kr_
@[go_sem] theorem go53:isGo Tryz.prog 53=true:=kr_
@[go_sem] theorem fr35:Tryz.f35.results.toList=[.tmp 2,.tmp 3]:=kr_
@[go_sem] theorem fn35:Tryz.f35.ntmps=65:=kr_
@[go_sem] theorem go54:isGo Tryz.prog 54=true:=kr_
@[go_sem] theorem go55:isGo Tryz.prog 55=true:=kr_
@[go_sem] theorem fr36:Tryz.f36.results.toList=[.tmp 2,.tmp 3]:=kr_
@[go_sem] theorem fn36:Tryz.f36.ntmps=34:=kr_
@[go_sem] theorem go56:isGo Tryz.prog 56=true:=kr_
@[go_sem] theorem go57:isGo Tryz.prog 57=true:=kr_
@[go_sem] theorem go58:isGo Tryz.prog 58=true:=kr_
@[go_sem] theorem go59:isGo Tryz.prog 59=true:=kr_
@[go_sem] theorem fr37:Tryz.f37.results.toList=[.tmp 2]:=kr_
@[go_sem] theorem fn37:Tryz.f37.ntmps=60:=kr_
@[go_sem] theorem go60:isGo Tryz.prog 60=true:=kr_
@[go_sem] theorem fr38:Tryz.f38.results.toList=[.tmp 2]:=kr_
@[go_sem] theorem fn38:Tryz.f38.ntmps=9:=kr_
@[go_sem] theorem ty103_i:tIsSlice Tryz.prog 103=true:=kr_
@[go_sem] theorem ty103_e:tElem Tryz.prog 103=some 79:=kr_
@[go_sem] theorem ty103_l:tSlice Tryz.prog 103=some (79,1,24):=kr_
@[go_sem] theorem ty103_u:(Tryz.prog.underlying 103).isSome=true:=kr_
@[go_sem] theorem ty106_i:tIsSlice Tryz.prog 106=true:=kr_
@[go_sem] theorem ty106_e:tElem Tryz.prog 106=some 108:=kr_
@[go_sem] theorem ty106_l:tSlice Tryz.prog 106=some (108,5,64):=kr_
@[go_sem] theorem ty106_u:(Tryz.prog.underlying 106).isSome=true:=kr_
@[go_sem] theorem ty108_a:tAgg Tryz.prog 108=some true:=kr_
@[go_sem] theorem ty108_s:tSize Tryz.prog 108=some 5:=kr_
@[go_sem] theorem ty108_f0:tField Tryz.prog 108 0=some (0,3):=kr_
@[go_sem] theorem ty108_f1:tField Tryz.prog 108 1=some (1,89):=kr_
@[go_sem] theorem ty110_a:tAgg Tryz.prog 110=some true:=kr_
@[go_sem] theorem ty110_s:tSize Tryz.prog 110=some 2:=kr_
@[go_sem] theorem ty110_f0:tField Tryz.prog 110 0=some (0,9):=kr_
@[go_sem] theorem ty110_f1:tField Tryz.prog 110 1=some (1,26):=kr_
@[go_sem] theorem ty111_a:tAgg Tryz.prog 111=some false:=kr_
@[go_sem] theorem ty111_s:tSize Tryz.prog 111=some 1:=kr_
@[go_sem] theorem ty111_i:tIsSlice Tryz.prog 111=true:=kr_
@[go_sem] theorem ty111_e:tElem Tryz.prog 111=some 110:=kr_
@[go_sem] theorem ty111_l:tSlice Tryz.prog 111=some (110,2,40):=kr_
@[go_sem] theorem ty111_t:tIsStr Tryz.prog 111=false:=kr_
@[go_sem] theorem ty111_u:(Tryz.prog.underlying 111).isSome=true:=kr_
@[go_sem] theorem ty113_a:tAgg Tryz.prog 113=some true:=kr_
@[go_sem] theorem ty113_s:tSize Tryz.prog 113=some 6:=kr_
@[go_sem] theorem ty113_f0:tField Tryz.prog 113 0=some (0,110):=kr_
@[go_sem] theorem ty113_f2:tField Tryz.prog 113 2=some (3,26):=kr_
@[go_sem] theorem ty113_f3:tField Tryz.prog 113 3=some (4,111):=kr_
@[go_sem] theorem ty113_f4:tField Tryz.prog 113 4=some (5,111):=kr_
@[go_sem] theorem tz113:tZero Tryz.prog 113=some [.string ⟨#[]⟩,.slice none 0 0,.int .i64 0,.slice none 0 0,.slice none 0 0,.slice none 0 0]:=kr_
@[go_sem] theorem tb108:tBuild Tryz.prog 108=some ([.int .i64 0,.int .i64 0,.int .i64 0,.string ⟨#[]⟩,.slice none 0 0],[(0,1),(1,4)]):=kr_
@[go_sem] theorem go61:isGo Tryz.prog 61=true:=kr_
@[go_sem] theorem go62:isGo Tryz.prog 62=true:=kr_
@[go_sem] theorem go63:isGo Tryz.prog 63=true:=kr_
@[go_sem] theorem go64:isGo Tryz.prog 64=true:=kr_
@[go_sem] theorem go65:isGo Tryz.prog 65=true:=kr_
@[go_sem] theorem fr39:Tryz.f39.results.toList=[.tmp 4]:=kr_
@[go_sem] theorem fn39:Tryz.f39.ntmps=139:=kr_
@[go_sem] theorem go66:isGo Tryz.prog 66=true:=kr_
@[go_sem] theorem fr40:Tryz.f40.results.toList=[.cell 2 83]:=kr_
@[go_sem] theorem fn40:Tryz.f40.ntmps=18:=kr_
@[go_sem] theorem fr41:Tryz.f41.results.toList=[.tmp 4]:=kr_
@[go_sem] theorem fn41:Tryz.f41.ntmps=28:=kr_
@[go_sem] theorem fr42:Tryz.f42.results.toList=[.tmp 2]:=kr_
@[go_sem] theorem fn42:Tryz.f42.ntmps=23:=kr_
@[go_sem] theorem go67:isGo Tryz.prog 67=true:=kr_
@[go_sem] theorem fr43:Tryz.f43.results.toList=[.tmp 2,.tmp 3]:=kr_
@[go_sem] theorem fn43:Tryz.f43.ntmps=26:=kr_
@[go_sem] theorem tb89:tBuild Tryz.prog 89=some ([.int .i64 0,.int .i64 0,.string ⟨#[]⟩,.slice none 0 0],[(0,1),(1,1),(2,1),(3,1)]):=kr_
@[go_sem] theorem go68:isGo Tryz.prog 68=true:=kr_
@[go_sem] theorem go69:isGo Tryz.prog 69=true:=kr_
@[go_sem] theorem fr44:Tryz.f44.results.toList=[.cell 2 89,.tmp 3]:=kr_
@[go_sem] theorem fn44:Tryz.f44.ntmps=20:=kr_
@[go_sem] theorem go70:isGo Tryz.prog 70=true:=kr_
@[go_sem] theorem go71:isGo Tryz.prog 71=true:=kr_
@[go_sem] theorem go72:isGo Tryz.prog 72=true:=kr_
@[go_sem] theorem go73:isGo Tryz.prog 73=true:=kr_
@[go_sem] theorem go74:isGo Tryz.prog 74=true:=kr_
@[go_sem] theorem fr45:Tryz.f45.results.toList=[.tmp 2]:=kr_
@[go_sem] theorem fn45:Tryz.f45.ntmps=72:=kr_
@[go_sem] theorem tz3:tZero Tryz.prog 3=some [.int .i64 0]:=kr_
@[go_sem] theorem go75:isGo Tryz.prog 75=true:=kr_
@[go_sem] theorem fr46:Tryz.f46.results.toList=[.tmp 2]:=kr_
@[go_sem] theorem fn46:Tryz.f46.ntmps=9:=kr_
@[go_sem] theorem tz81:tZero Tryz.prog 81=some [.int .i64 0,.string ⟨#[]⟩,.slice none 0 0,.slice none 0 0]:=kr_
@[go_sem] theorem go76:isGo Tryz.prog 76=true:=kr_
@[go_sem] theorem go77:isGo Tryz.prog 77=true:=kr_
@[go_sem] theorem go78:isGo Tryz.prog 78=true:=kr_
@[go_sem] theorem go79:isGo Tryz.prog 79=true:=kr_
@[go_sem] theorem go80:isGo Tryz.prog 80=true:=kr_
@[go_sem] theorem go81:isGo Tryz.prog 81=true:=kr_
@[go_sem] theorem fr47:Tryz.f47.results.toList=[.tmp 4]:=kr_
@[go_sem] theorem fn47:Tryz.f47.ntmps=134:=kr_
@[go_sem] theorem fr48:Tryz.f48.results.toList=[.tmp 4]:=kr_
@[go_sem] theorem fn48:Tryz.f48.ntmps=26:=kr_
@[go_sem] theorem go82:isGo Tryz.prog 82=true:=kr_
@[go_sem] theorem fr49:Tryz.f49.results.toList=[.tmp 4]:=kr_
@[go_sem] theorem fn49:Tryz.f49.ntmps=26:=kr_
@[go_sem] theorem ty127_l:tSlice Tryz.prog 127=some (5,1,1):=kr_
@[go_sem] theorem ty127_b:tIsBytes Tryz.prog 127=true:=kr_
@[go_sem] theorem fr50:Tryz.f50.results.toList=[.tmp 2]:=kr_
@[go_sem] theorem fn50:Tryz.f50.ntmps=20:=kr_
@[go_sem] theorem fr51:Tryz.f51.results.toList=[.tmp 4]:=kr_
@[go_sem] theorem fn51:Tryz.f51.ntmps=42:=kr_
@[go_sem] theorem go83:isGo Tryz.prog 83=true:=kr_
@[go_sem] theorem go84:isGo Tryz.prog 84=true:=kr_
@[go_sem] theorem fr52:Tryz.f52.results.toList=[.tmp 4]:=kr_
@[go_sem] theorem fn52:Tryz.f52.ntmps=25:=kr_
@[go_sem] theorem fr53:Tryz.f53.results.toList=[.tmp 2]:=kr_
@[go_sem] theorem fn53:Tryz.f53.ntmps=44:=kr_
@[go_sem] theorem go85:isGo Tryz.prog 85=true:=kr_
@[go_sem] theorem go86:isGo Tryz.prog 86=true:=kr_
@[go_sem] theorem fr54:Tryz.f54.results.toList=[.cell 4 89,.tmp 5,.tmp 6]:=kr_
@[go_sem] theorem fn54:Tryz.f54.ntmps=136:=kr_
@[go_sem] theorem go87:isGo Tryz.prog 87=true:=kr_
@[go_sem] theorem go88:isGo Tryz.prog 88=true:=kr_
@[go_sem] theorem fr55:Tryz.f55.results.toList=[.tmp 2]:=kr_
@[go_sem] theorem fn55:Tryz.f55.ntmps=10:=kr_
@[go_sem] theorem fr56:Tryz.f56.results.toList=[.tmp 4]:=kr_
@[go_sem] theorem fn56:Tryz.f56.ntmps=21:=kr_
@[go_sem] theorem go89:isGo Tryz.prog 89=true:=kr_
@[go_sem] theorem fr57:Tryz.f57.results.toList=[.tmp 2]:=kr_
@[go_sem] theorem fn57:Tryz.f57.ntmps=17:=kr_
@[go_sem] theorem ty134_i:tIsSlice Tryz.prog 134=true:=kr_
@[go_sem] theorem ty134_e:tElem Tryz.prog 134=some 3:=kr_
@[go_sem] theorem ty134_l:tSlice Tryz.prog 134=some (3,1,8):=kr_
@[go_sem] theorem ty134_u:(Tryz.prog.underlying 134).isSome=true:=kr_
@[go_sem] theorem go90:isGo Tryz.prog 90=true:=kr_
@[go_sem] theorem go91:isGo Tryz.prog 91=true:=kr_
@[go_sem] theorem go92:isGo Tryz.prog 92=true:=kr_
@[go_sem] theorem fr58:Tryz.f58.results.toList=[.tmp 6]:=kr_
@[go_sem] theorem fn58:Tryz.f58.ntmps=32:=kr_
@[go_sem] theorem go93:isGo Tryz.prog 93=true:=kr_
@[go_sem] theorem fr59:Tryz.f59.results.toList=[.tmp 2]:=kr_
@[go_sem] theorem fn59:Tryz.f59.ntmps=8:=kr_
@[go_sem] theorem fr60:Tryz.f60.results.toList=[.tmp 4]:=kr_
@[go_sem] theorem fn60:Tryz.f60.ntmps=28:=kr_
@[go_sem] theorem go94:isGo Tryz.prog 94=true:=kr_
@[go_sem] theorem go95:isGo Tryz.prog 95=true:=kr_
@[go_sem] theorem fr61:Tryz.f61.results.toList=[.tmp 2,.tmp 3]:=kr_
@[go_sem] theorem fn61:Tryz.f61.ntmps=30:=kr_
@[go_sem] theorem go96:isGo Tryz.prog 96=true:=kr_
@[go_sem] theorem fr62:Tryz.f62.results.toList=[.tmp 2]:=kr_
@[go_sem] theorem fn62:Tryz.f62.ntmps=11:=kr_
@[go_sem] theorem tz108:tZero Tryz.prog 108=some [.int .i64 0,.int .i64 0,.int .i64 0,.string ⟨#[]⟩,.slice none 0 0]:=kr_
@[go_sem] theorem tb110:tBuild Tryz.prog 110=some ([.string ⟨#[]⟩,.slice none 0 0],[(0,1),(1,1)]):=kr_
@[go_sem] theorem tb113:tBuild Tryz.prog 113=some ([.string ⟨#[]⟩,.slice none 0 0,.int .i64 0,.slice none 0 0,.slice none 0 0,.slice none 0 0],[(0,2),(2,1),(3,1),(4,1),(5,1)]):=kr_
@[go_sem] theorem go97:isGo Tryz.prog 97=true:=kr_
@[go_sem] theorem go98:isGo Tryz.prog 98=true:=kr_
@[go_sem] theorem fr63:Tryz.f63.results.toList=[.cell 8 113,.tmp 9]:=kr_
@[go_sem] theorem fn63:Tryz.f63.ntmps=91:=kr_
@[go_sem] theorem go99:isGo Tryz.prog 99=true:=kr_
@[go_sem] theorem go100:isGo Tryz.prog 100=true:=kr_
@[go_sem] theorem fr64:Tryz.f64.results.toList=[.tmp 4]:=kr_
@[go_sem] theorem fn64:Tryz.f64.ntmps=21:=kr_
@[go_sem] theorem tz110:tZero Tryz.prog 110=some [.string ⟨#[]⟩,.slice none 0 0]:=kr_
@[go_sem] theorem fr65:Tryz.f65.results.toList=[.cell 4 110]:=kr_
@[go_sem] theorem fn65:Tryz.f65.ntmps=20:=kr_
@[go_sem] theorem go101:isGo Tryz.prog 101=true:=kr_
@[go_sem] theorem go102:isGo Tryz.prog 102=true:=kr_
@[go_sem] theorem fr66:Tryz.f66.results.toList=[.cell 2 81]:=kr_
@[go_sem] theorem fn66:Tryz.f66.ntmps=19:=kr_
@[go_sem] theorem go105:isGo Tryz.prog 105=true:=kr_
@[go_sem] theorem go106:isGo Tryz.prog 106=true:=kr_
@[go_sem] theorem go107:isGo Tryz.prog 107=true:=kr_
@[go_sem] theorem go108:isGo Tryz.prog 108=true:=kr_
@[go_sem] theorem go109:isGo Tryz.prog 109=true:=kr_
@[go_sem] theorem go110:isGo Tryz.prog 110=true:=kr_
@[go_sem] theorem fr68:Tryz.f68.results.toList=[.cell 2 89,.tmp 3]:=kr_
@[go_sem] theorem fn68:Tryz.f68.ntmps=132:=kr_
@[go_sem] theorem go111:isGo Tryz.prog 111=true:=kr_
@[go_sem] theorem fr69:Tryz.f69.results.toList=[.tmp 2]:=kr_
@[go_sem] theorem fn69:Tryz.f69.ntmps=6:=kr_
@[go_sem] theorem fr70:Tryz.f70.results.toList=[.tmp 2]:=kr_
@[go_sem] theorem fn70:Tryz.f70.ntmps=16:=kr_
@[go_sem] theorem fr71:Tryz.f71.results.toList=[.tmp 4]:=kr_
@[go_sem] theorem fn71:Tryz.f71.ntmps=21:=kr_
@[go_sem] theorem ty153_m:tMap Tryz.prog 153=some (false,.int .i64 0):=kr_
@[go_sem] theorem go112:isGo Tryz.prog 112=true:=kr_
@[go_sem] theorem fr72:Tryz.f72.results.toList=[.tmp 4]:=kr_
@[go_sem] theorem fn72:Tryz.f72.ntmps=142:=kr_
@[go_sem] theorem go113:isGo Tryz.prog 113=true:=kr_
@[go_sem] theorem fr73:Tryz.f73.results.toList=[.tmp 4]:=kr_
@[go_sem] theorem fn73:Tryz.f73.ntmps=18:=kr_
@[go_sem] theorem tz4:tZero Tryz.prog 4=some [.bool false]:=kr_
@[go_sem] theorem go114:isGo Tryz.prog 114=true:=kr_
@[go_sem] theorem fr74:Tryz.f74.results.toList=[.tmp 4]:=kr_
@[go_sem] theorem fn74:Tryz.f74.ntmps=10:=kr_
@[go_sem] theorem fr75:Tryz.f75.results.toList=[.tmp 4]:=kr_
@[go_sem] theorem fn75:Tryz.f75.ntmps=33:=kr_
@[go_sem] theorem go116:isGo Tryz.prog 116=true:=kr_
@[go_sem] theorem fr76:Tryz.f76.results.toList=[.tmp 2]:=kr_
@[go_sem] theorem fn76:Tryz.f76.ntmps=9:=kr_
@[go_sem] theorem fr77:Tryz.f77.results.toList=[.tmp 2,.tmp 3]:=kr_
@[go_sem] theorem fn77:Tryz.f77.ntmps=105:=kr_
@[go_sem] theorem go117:isGo Tryz.prog 117=true:=kr_
@[go_sem] theorem fr78:Tryz.f78.results.toList=[.tmp 4]:=kr_
@[go_sem] theorem fn78:Tryz.f78.ntmps=20:=kr_
@[go_sem] theorem fr79:Tryz.f79.results.toList=[.cell 4 110]:=kr_
@[go_sem] theorem fn79:Tryz.f79.ntmps=20:=kr_
@[go_sem] theorem go118:isGo Tryz.prog 118=true:=kr_
@[go_sem] theorem fr80:Tryz.f80.results.toList=[.cell 4 110]:=kr_
@[go_sem] theorem fn80:Tryz.f80.ntmps=28:=kr_
@[go_sem] theorem tb81:tBuild Tryz.prog 81=some ([.int .i64 0,.string ⟨#[]⟩,.slice none 0 0,.slice none 0 0],[(0,1),(1,1),(2,1),(3,1)]):=kr_
@[go_sem] theorem go119:isGo Tryz.prog 119=true:=kr_
@[go_sem] theorem go120:isGo Tryz.prog 120=true:=kr_
@[go_sem] theorem fr81:Tryz.f81.results.toList=[.tmp 4]:=kr_
@[go_sem] theorem fn81:Tryz.f81.ntmps=83:=kr_
@[go_sem] theorem go121:isGo Tryz.prog 121=true:=kr_
@[go_sem] theorem fr82:Tryz.f82.results.toList=[.tmp 4]:=kr_
@[go_sem] theorem fn82:Tryz.f82.ntmps=27:=kr_
@[go_sem] theorem go122:isGo Tryz.prog 122=true:=kr_
@[go_sem] theorem fr83:Tryz.f83.results.toList=[.tmp 4]:=kr_
@[go_sem] theorem fn83:Tryz.f83.ntmps=27:=kr_
@[go_sem] theorem fr84:Tryz.f84.results.toList=[.tmp 4]:=kr_
@[go_sem] theorem fn84:Tryz.f84.ntmps=27:=kr_
@[go_sem] theorem go123:isGo Tryz.prog 123=true:=kr_
@[go_sem] theorem fr85:Tryz.f85.results.toList=[.cell 2 89,.tmp 3]:=kr_
@[go_sem] theorem fn85:Tryz.f85.ntmps=39:=kr_
@[go_sem] theorem go124:isGo Tryz.prog 124=true:=kr_
@[go_sem] theorem fr86:Tryz.f86.results.toList=[.cell 4 89]:=kr_
@[go_sem] theorem fn86:Tryz.f86.ntmps=20:=kr_
@[go_sem] theorem fr87:Tryz.f87.results.toList=[.tmp 4]:=kr_
@[go_sem] theorem fn87:Tryz.f87.ntmps=28:=kr_
@[go_sem] theorem fr88:Tryz.f88.results.toList=[.tmp 2]:=kr_
@[go_sem] theorem fn88:Tryz.f88.ntmps=76:=kr_
@[go_sem] theorem fr89:Tryz.f89.results.toList=[.tmp 2]:=kr_
@[go_sem] theorem fn89:Tryz.f89.ntmps=44:=kr_
@[go_sem] theorem go125:isGo Tryz.prog 125=true:=kr_
@[go_sem] theorem fr90:Tryz.f90.results.toList=[.tmp 2]:=kr_
@[go_sem] theorem fn90:Tryz.f90.ntmps=10:=kr_
@[go_sem] theorem fr91:Tryz.f91.results.toList=[.tmp 4]:=kr_
@[go_sem] theorem fn91:Tryz.f91.ntmps=41:=kr_
@[go_sem] theorem fr92:Tryz.f92.results.toList=[.tmp 4]:=kr_
@[go_sem] theorem fn92:Tryz.f92.ntmps=32:=kr_
@[go_sem] theorem fr93:Tryz.f93.results.toList=[.tmp 4]:=kr_
@[go_sem] theorem fn93:Tryz.f93.ntmps=28:=kr_
@[go_sem] theorem fr94:Tryz.f94.results.toList=[.tmp 2]:=kr_
@[go_sem] theorem fn94:Tryz.f94.ntmps=99:=kr_
@[go_sem] theorem go126:isGo Tryz.prog 126=true:=kr_
@[go_sem] theorem fr95:Tryz.f95.results.toList=[.tmp 2]:=kr_
@[go_sem] theorem fn95:Tryz.f95.ntmps=20:=kr_
@[go_sem] theorem go127:isGo Tryz.prog 127=true:=kr_
@[go_sem] theorem fr96:Tryz.f96.results.toList=[.tmp 4]:=kr_
@[go_sem] theorem fn96:Tryz.f96.ntmps=26:=kr_
@[go_sem] theorem go128:isGo Tryz.prog 128=true:=kr_
@[go_sem] theorem fr97:Tryz.f97.results.toList=[.cell 4 81]:=kr_
@[go_sem] theorem fn97:Tryz.f97.ntmps=48:=kr_
@[go_sem] theorem go129:isGo Tryz.prog 129=true:=kr_
@[go_sem] theorem go130:isGo Tryz.prog 130=true:=kr_
@[go_sem] theorem fr98:Tryz.f98.results.toList=[.tmp 2]:=kr_
@[go_sem] theorem fn98:Tryz.f98.ntmps=59:=kr_
@[go_sem] theorem fr99:Tryz.f99.results.toList=[.tmp 2]:=kr_
@[go_sem] theorem fn99:Tryz.f99.ntmps=4:=kr_
@[go_sem] theorem go131:isGo Tryz.prog 131=true:=kr_
@[go_sem] theorem fr100:Tryz.f100.results.toList=[.tmp 4]:=kr_
@[go_sem] theorem fn100:Tryz.f100.ntmps=42:=kr_
@[go_sem] theorem go132:isGo Tryz.prog 132=true:=kr_
@[go_sem] theorem fr101:Tryz.f101.results.toList=[.tmp 2]:=kr_
@[go_sem] theorem fn101:Tryz.f101.ntmps=23:=kr_
@[go_sem] theorem fr102:Tryz.f102.results.toList=[.tmp 2]:=kr_
@[go_sem] theorem fn102:Tryz.f102.ntmps=23:=kr_
@[go_sem] theorem fr105:Tryz.f105.results.toList=[.cell 2 89]:=kr_
@[go_sem] theorem fn105:Tryz.f105.ntmps=20:=kr_
@[go_sem] theorem fr106:Tryz.f106.results.toList=[.cell 4 89]:=kr_
@[go_sem] theorem fn106:Tryz.f106.ntmps=9:=kr_
@[go_sem] theorem fr107:Tryz.f107.results.toList=[.cell 2 89]:=kr_
@[go_sem] theorem fn107:Tryz.f107.ntmps=5:=kr_
@[go_sem] theorem fr108:Tryz.f108.results.toList=[.tmp 2]:=kr_
@[go_sem] theorem fn108:Tryz.f108.ntmps=57:=kr_
@[go_sem] theorem fr109:Tryz.f109.results.toList=[.cell 2 89]:=kr_
@[go_sem] theorem fn109:Tryz.f109.ntmps=5:=kr_
@[go_sem] theorem fr110:Tryz.f110.results.toList=[.cell 2 89]:=kr_
@[go_sem] theorem fn110:Tryz.f110.ntmps=5:=kr_
@[go_sem] theorem fr111:Tryz.f111.results.toList=[.tmp 4]:=kr_
@[go_sem] theorem fn111:Tryz.f111.ntmps=107:=kr_
@[go_sem] theorem fr112:Tryz.f112.results.toList=[.tmp 2]:=kr_
@[go_sem] theorem fn112:Tryz.f112.ntmps=15:=kr_
@[go_sem] theorem ty169_a:tAgg Tryz.prog 169=some false:=kr_
@[go_sem] theorem ty169_s:tSize Tryz.prog 169=some 1:=kr_
@[go_sem] theorem ty169_im:tIsMap Tryz.prog 169=true:=kr_
@[go_sem] theorem ty169_m:tMap Tryz.prog 169=some (false,.bool false):=kr_
@[go_sem] theorem tz169:tZero Tryz.prog 169=some [.map none]:=kr_
@[go_sem] theorem go139:isGo Tryz.prog 139=true:=kr_
@[go_sem] theorem fr113:Tryz.f113.results.toList=[.tmp 2]:=kr_
@[go_sem] theorem fn113:Tryz.f113.ntmps=10:=kr_
@[go_sem] theorem fr114:Tryz.f114.results.toList=[]:=kr_
@[go_sem] theorem fn114:Tryz.f114.ntmps=20:=kr_
@[go_sem] theorem fr115:Tryz.f115.results.toList=[]:=kr_
@[go_sem] theorem fn115:Tryz.f115.ntmps=26:=kr_
@[go_sem] theorem go137:isGo Tryz.prog 137=true:=kr_
@[go_sem] theorem fr116:Tryz.f116.results.toList=[.tmp 2]:=kr_
@[go_sem] theorem fn116:Tryz.f116.ntmps=8:=kr_
@[go_sem] theorem go141:isGo Tryz.prog 141=true:=kr_
@[go_sem] theorem go142:isGo Tryz.prog 142=true:=kr_
@[go_sem] theorem fr117:Tryz.f117.results.toList=[.tmp 4]:=kr_
@[go_sem] theorem fn117:Tryz.f117.ntmps=36:=kr_
@[go_sem] theorem go143:isGo Tryz.prog 143=true:=kr_
@[go_sem] theorem fr118:Tryz.f118.results.toList=[.cell 4 89]:=kr_
@[go_sem] theorem fn118:Tryz.f118.ntmps=8:=kr_
@[go_sem] theorem fr119:Tryz.f119.results.toList=[.tmp 4]:=kr_
@[go_sem] theorem fn119:Tryz.f119.ntmps=9:=kr_
@[go_sem] theorem fr120:Tryz.f120.results.toList=[.tmp 4]:=kr_
@[go_sem] theorem fn120:Tryz.f120.ntmps=31:=kr_
@[go_sem] theorem fr121:Tryz.f121.results.toList=[.tmp 4]:=kr_
@[go_sem] theorem fn121:Tryz.f121.ntmps=27:=kr_
@[go_sem] theorem fr122:Tryz.f122.results.toList=[.tmp 4]:=kr_
@[go_sem] theorem fn122:Tryz.f122.ntmps=19:=kr_
@[go_sem] theorem fr123:Tryz.f123.results.toList=[.cell 2 89]:=kr_
@[go_sem] theorem fn123:Tryz.f123.ntmps=5:=kr_
@[go_sem] theorem fr124:Tryz.f124.results.toList=[.cell 4 89]:=kr_
@[go_sem] theorem fn124:Tryz.f124.ntmps=9:=kr_
@[go_sem] theorem go145:isGo Tryz.prog 145=true:=kr_
@[go_sem] theorem fr125:Tryz.f125.results.toList=[.tmp 2]:=kr_
@[go_sem] theorem fn125:Tryz.f125.ntmps=106:=kr_
@[go_sem] theorem go146:isGo Tryz.prog 146=true:=kr_
@[go_sem] theorem fr126:Tryz.f126.results.toList=[.cell 2 81]:=kr_
@[go_sem] theorem fn126:Tryz.f126.ntmps=30:=kr_
@[go_sem] theorem fr127:Tryz.f127.results.toList=[.tmp 4]:=kr_
@[go_sem] theorem fn127:Tryz.f127.ntmps=49:=kr_
@[go_sem] theorem go147:isGo Tryz.prog 147=true:=kr_
@[go_sem] theorem fr128:Tryz.f128.results.toList=[.cell 4 89]:=kr_
@[go_sem] theorem fn128:Tryz.f128.ntmps=36:=kr_
@[go_sem] theorem fr129:Tryz.f129.results.toList=[.tmp 4]:=kr_
@[go_sem] theorem fn129:Tryz.f129.ntmps=9:=kr_
@[go_sem] theorem fr130:Tryz.f130.results.toList=[.tmp 4]:=kr_
@[go_sem] theorem fn130:Tryz.f130.ntmps=27:=kr_
@[go_sem] theorem fr131:Tryz.f131.results.toList=[.tmp 4]:=kr_
@[go_sem] theorem fn131:Tryz.f131.ntmps=68:=kr_
@[go_sem] theorem fr132:Tryz.f132.results.toList=[.cell 2 89]:=kr_
@[go_sem] theorem fn132:Tryz.f132.ntmps=18:=kr_
@[go_sem] theorem fr136:Tryz.f136.results.toList=[]:=kr_
@[go_sem] theorem fn136:Tryz.f136.ntmps=16:=kr_
@[go_sem] theorem fr137:Tryz.f137.results.toList=[]:=kr_
@[go_sem] theorem fn137:Tryz.f137.ntmps=26:=kr_
@[go_sem] theorem fr138:Tryz.f138.results.toList=[]:=kr_
@[go_sem] theorem fn138:Tryz.f138.ntmps=5:=kr_
@[go_sem] theorem go154:isGo Tryz.prog 154=true:=kr_
@[go_sem] theorem fr139:Tryz.f139.results.toList=[.tmp 2]:=kr_
@[go_sem] theorem fn139:Tryz.f139.ntmps=19:=kr_
@[go_sem] theorem fr140:Tryz.f140.results.toList=[]:=kr_
@[go_sem] theorem fn140:Tryz.f140.ntmps=3:=kr_
@[go_sem] theorem fr141:Tryz.f141.results.toList=[.tmp 4]:=kr_
@[go_sem] theorem fn141:Tryz.f141.ntmps=60:=kr_
@[go_sem] theorem fr142:Tryz.f142.results.toList=[.tmp 4]:=kr_
@[go_sem] theorem fn142:Tryz.f142.ntmps=11:=kr_
@[go_sem] theorem go155:isGo Tryz.prog 155=true:=kr_
@[go_sem] theorem fr143:Tryz.f143.results.toList=[.cell 4 89]:=kr_
@[go_sem] theorem fn143:Tryz.f143.ntmps=38:=kr_
@[go_sem] theorem fr144:Tryz.f144.results.toList=[.cell 3 89,.tmp 4]:=kr_
@[go_sem] theorem fn144:Tryz.f144.ntmps=9:=kr_
@[go_sem] theorem fr145:Tryz.f145.results.toList=[.tmp 2]:=kr_
@[go_sem] theorem fn145:Tryz.f145.ntmps=15:=kr_
@[go_sem] theorem go156:isGo Tryz.prog 156=true:=kr_
@[go_sem] theorem fr146:Tryz.f146.results.toList=[.tmp 2]:=kr_
@[go_sem] theorem fn146:Tryz.f146.ntmps=20:=kr_
@[go_sem] theorem fr147:Tryz.f147.results.toList=[.cell 4 89,.tmp 5]:=kr_
@[go_sem] theorem fn147:Tryz.f147.ntmps=22:=kr_
@[go_sem] theorem fr155:Tryz.f155.results.toList=[.cell 2 89]:=kr_
@[go_sem] theorem fn155:Tryz.f155.ntmps=25:=kr_
@[go_sem] theorem fr156:Tryz.f156.results.toList=[.cell 2 89]:=kr_
@[go_sem] theorem fn156:Tryz.f156.ntmps=29:=kr_
end Go.Proofs.YtehcdhelbkjaeaaGreatDoor
