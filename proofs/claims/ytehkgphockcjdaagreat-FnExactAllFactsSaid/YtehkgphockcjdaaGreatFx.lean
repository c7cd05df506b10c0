import Derived.Test.YtehkgphockcjdaaGreatP1
import Derived.Test.YtehkgphockcjdaaGreatA5
import Derived.Test.YtehkgphockcjdaaGreatProg
import Derived.KernelRfl
namespace Go.Proofs.YtehkgphockcjdaaGreat
open Go.Abs
theorem mixed:Tryz.prog.follows .mixedOrders=true:=by kernel_rfl
theorem kr_ {α:Sort _}{a b:α}(h:a=b:=by kernel_rfl):a=b:=h
theorem wk1_ {p:Prop}(h:p:=by refine ⟨by simp [mkS,h.len],by simp only [mkS,List.length_append,List.length_cons,List.length_nil,h.len,h.tkj,h.tk0,h.tk];first | done | rfl | (simp;done),by simp [mkS,O.refsLt,C.refsLt,C.refsLt1,h.len,h.refs,h.refsj,h.hcaps,h.capsj,h.hcaps2,h.capsj2,all_dmap,all_dcomp,-List.all_eq_true],?_⟩;simp [mkS,Abs.get,C.refsLtT,C.refsLt,C.refsLt1,h.len,h.hcaps,h.capsj,h.hcaps2,h.capsj2,-List.all_eq_true]):p:=h
theorem wk2_ {p:Prop}(h:p:=by refine ⟨by simp [mkS],by simp [mkS],by simp [mkS,O.refsLt,C.refsLt,C.refsLt1],?_⟩;simp [mkS,Abs.get,C.refsLtT,C.refsLt,C.refsLt1]):p:=h
theorem wk3_ {p:Prop}(h:p:=by refine ⟨by simp [mkS],by simp [mkS],by simp only [mkS,List.all_cons,List.all_nil,O.refsLt,C.refsLt,C.refsLt1,all_dmap];first | done | rfl | (simp;done),?_⟩;simp [mkS,Abs.get,C.refsLtT,C.refsLt,C.refsLt1]):p:=h
theorem wk4_ {p:Prop}(h:p:=by refine ⟨by simp [mkS],by simp [mkS],by simp [mkS,O.refsLt],?_⟩;simp [mkS,Abs.get,C.refsLtT,C.refsLt,C.refsLt1]):p:=h
theorem rS_ {f:FuncId}{n n0:Nat}{R:C→List O→Prop}{fn:Func}(hf:Tryz.prog.funcs[f]? = some fn){k:List Item}{s:St}(h:run Tryz.prog f n n0 R fn.results.toList 200 k s)(hk:k.all okItem=true:=by kernel_rfl):AW Tryz.prog f n n0 R k s:=run_sound hf mixed 200 k s hk h
theorem aE_ {f:FuncId}{fn:Func}{c:Code}{args:List C}{H:List O}{R:C→List O→Prop}(hf:Tryz.prog.funcs[f]? = some fn)(h:AW Tryz.prog f fn.ntmps H.length R [.code c] ⟨(List.range args.length).zip args,H⟩)(hb:fn.body=some c:=by rfl)(hn:args.length≤fn.ntmps:=by exact Nat.le_of_ble_eq_true rfl):ACalls Tryz.prog f args H R:=ACalls.enter hf hb hn h
@[go_sem] theorem ty3_a:tAgg Tryz.prog 3=some false:=kr_
@[go_sem] theorem ty3_s:tSize Tryz.prog 3=some 1:=kr_
@[go_sem] theorem ty3_n:tInt Tryz.prog 3=some Go.IntKind.i64:=kr_
@[go_sem] theorem ty3_u:(Tryz.prog.underlying 3).isSome=true:=kr_
@[go_sem] theorem ty4_a:tAgg Tryz.prog 4=some false:=kr_
@[go_sem] theorem ty4_s:tSize Tryz.prog 4=some 1:=kr_
@[go_sem] theorem ty4_u:Tryz.prog.underlying 4=some .bool:=kr_
@[go_sem] theorem ty9_a:tAgg Tryz.prog 9=some false:=kr_
@[go_sem] theorem ty9_s:tSize Tryz.prog 9=some 1:=kr_
@[go_sem] theorem ty9_t:tIsStr Tryz.prog 9=true:=kr_
@[go_sem] theorem ty22_a:tAgg Tryz.prog 22=some false:=kr_
@[go_sem] theorem ty22_s:tSize Tryz.prog 22=some 1:=kr_
@[go_sem] theorem ty22_i:tIsSlice Tryz.prog 22=true:=kr_
@[go_sem] theorem ty22_e:tElem Tryz.prog 22=some 82:=kr_
@[go_sem] theorem ty24_a:tAgg Tryz.prog 24=some true:=kr_
@[go_sem] theorem ty24_s:tSize Tryz.prog 24=some 1:=kr_
@[go_sem] theorem ty24_f0:tField Tryz.prog 24 0=some (0,22):=kr_
@[go_sem] theorem ty25_a:tAgg Tryz.prog 25=some false:=kr_
@[go_sem] theorem ty25_s:tSize Tryz.prog 25=some 1:=kr_
@[go_sem] theorem ty25_i:tIsSlice Tryz.prog 25=true:=kr_
@[go_sem] theorem ty25_e:tElem Tryz.prog 25=some 47:=kr_
@[go_sem] theorem ty28_a:tAgg Tryz.prog 28=some false:=kr_
@[go_sem] theorem ty28_s:tSize Tryz.prog 28=some 1:=kr_
@[go_sem] theorem ty28_i:tIsSlice Tryz.prog 28=true:=kr_
@[go_sem] theorem ty28_e:tElem Tryz.prog 28=some 57:=kr_
@[go_sem] theorem ty28_l:tSlice Tryz.prog 28=some (57,2,40):=kr_
@[go_sem] theorem ty28_t:tIsStr Tryz.prog 28=false:=kr_
@[go_sem] theorem ty28_u:(Tryz.prog.underlying 28).isSome=true:=kr_
@[go_sem] theorem ty31_a:tAgg Tryz.prog 31=some false:=kr_
@[go_sem] theorem ty31_s:tSize Tryz.prog 31=some 1:=kr_
@[go_sem] theorem ty31_i:tIsSlice Tryz.prog 31=true:=kr_
@[go_sem] theorem ty31_e:tElem Tryz.prog 31=some 54:=kr_
@[go_sem] theorem ty31_l:tSlice Tryz.prog 31=some (54,7,104):=kr_
@[go_sem] theorem ty33_a:tAgg Tryz.prog 33=some true:=kr_
@[go_sem] theorem ty33_s:tSize Tryz.prog 33=some 1:=kr_
@[go_sem] theorem ty33_f0:tField Tryz.prog 33 0=some (0,31):=kr_
@[go_sem] theorem ty35_a:tAgg Tryz.prog 35=some false:=kr_
@[go_sem] theorem ty35_s:tSize Tryz.prog 35=some 1:=kr_
@[go_sem] theorem ty35_i:tIsSlice Tryz.prog 35=true:=kr_
@[go_sem] theorem ty35_e:tElem Tryz.prog 35=some 62:=kr_
@[go_sem] theorem ty35_l:tSlice Tryz.prog 35=some (62,4,56):=kr_
@[go_sem] theorem ty35_t:tIsStr Tryz.prog 35=false:=kr_
@[go_sem] theorem ty35_u:(Tryz.prog.underlying 35).isSome=true:=kr_
@[go_sem] theorem ty47_a:tAgg Tryz.prog 47=some true:=kr_
@[go_sem] theorem ty47_s:tSize Tryz.prog 47=some 4:=kr_
@[go_sem] theorem ty47_f0:tField Tryz.prog 47 0=some (0,3):=kr_
@[go_sem] theorem ty47_f1:tField Tryz.prog 47 1=some (1,3):=kr_
@[go_sem] theorem ty47_f2:tField Tryz.prog 47 2=some (2,9):=kr_
@[go_sem] theorem ty47_f3:tField Tryz.prog 47 3=some (3,25):=kr_
@[go_sem] theorem ty50_a:tAgg Tryz.prog 50=some false:=kr_
@[go_sem] theorem ty50_s:tSize Tryz.prog 50=some 1:=kr_
@[go_sem] theorem ty50_i:tIsSlice Tryz.prog 50=true:=kr_
@[go_sem] theorem ty50_e:tElem Tryz.prog 50=some 52:=kr_
@[go_sem] theorem ty50_l:tSlice Tryz.prog 50=some (52,4,72):=kr_
@[go_sem] theorem ty52_a:tAgg Tryz.prog 52=some true:=kr_
@[go_sem] theorem ty52_s:tSize Tryz.prog 52=some 4:=kr_
@[go_sem] theorem ty52_f0:tField Tryz.prog 52 0=some (0,3):=kr_
@[go_sem] theorem ty52_f1:tField Tryz.prog 52 1=some (1,9):=kr_
@[go_sem] theorem ty52_f2:tField Tryz.prog 52 2=some (2,35):=kr_
@[go_sem] theorem ty52_f3:tField Tryz.prog 52 3=some (3,50):=kr_
@[go_sem] theorem ty54_a:tAgg Tryz.prog 54=some true:=kr_
@[go_sem] theorem ty54_s:tSize Tryz.prog 54=some 7:=kr_
@[go_sem] theorem ty54_f0:tField Tryz.prog 54 0=some (0,9):=kr_
@[go_sem] theorem ty54_f1:tField Tryz.prog 54 1=some (1,3):=kr_
@[go_sem] theorem ty54_f2:tField Tryz.prog 54 2=some (2,3):=kr_
@[go_sem] theorem ty54_f3:tField Tryz.prog 54 3=some (3,52):=kr_
@[go_sem] theorem ty57_a:tAgg Tryz.prog 57=some true:=kr_
@[go_sem] theorem ty57_s:tSize Tryz.prog 57=some 2:=kr_
@[go_sem] theorem ty57_f0:tField Tryz.prog 57 0=some (0,9):=kr_
@[go_sem] theorem ty57_f1:tField Tryz.prog 57 1=some (1,35):=kr_
@[go_sem] theorem ty62_a:tAgg Tryz.prog 62=some true:=kr_
@[go_sem] theorem ty62_s:tSize Tryz.prog 62=some 4:=kr_
@[go_sem] theorem ty62_f0:tField Tryz.prog 62 0=some (0,3):=kr_
@[go_sem] theorem ty62_f1:tField Tryz.prog 62 1=some (1,3):=kr_
@[go_sem] theorem ty62_f2:tField Tryz.prog 62 2=some (2,9):=kr_
@[go_sem] theorem ty62_f3:tField Tryz.prog 62 3=some (3,35):=kr_
@[go_sem] theorem ty78_a:tAgg Tryz.prog 78=some false:=kr_
@[go_sem] theorem ty78_s:tSize Tryz.prog 78=some 1:=kr_
@[go_sem] theorem ty78_i:tIsSlice Tryz.prog 78=true:=kr_
@[go_sem] theorem ty78_e:tElem Tryz.prog 78=some 80:=kr_
@[go_sem] theorem ty80_a:tAgg Tryz.prog 80=some true:=kr_
@[go_sem] theorem ty80_s:tSize Tryz.prog 80=some 4:=kr_
@[go_sem] theorem ty80_f0:tField Tryz.prog 80 0=some (0,3):=kr_
@[go_sem] theorem ty80_f1:tField Tryz.prog 80 1=some (1,9):=kr_
@[go_sem] theorem ty80_f2:tField Tryz.prog 80 2=some (2,25):=kr_
@[go_sem] theorem ty80_f3:tField Tryz.prog 80 3=some (3,78):=kr_
@[go_sem] theorem ty82_a:tAgg Tryz.prog 82=some true:=kr_
@[go_sem] theorem ty82_s:tSize Tryz.prog 82=some 7:=kr_
@[go_sem] theorem ty82_f0:tField Tryz.prog 82 0=some (0,9):=kr_
@[go_sem] theorem ty82_f1:tField Tryz.prog 82 1=some (1,3):=kr_
@[go_sem] theorem ty82_f2:tField Tryz.prog 82 2=some (2,3):=kr_
@[go_sem] theorem ty82_f3:tField Tryz.prog 82 3=some (3,80):=kr_
@[go_sem] theorem tz33:tZero Tryz.prog 33=some [.slice none 0 0]:=kr_
@[go_sem] theorem go4:isGo Tryz.prog 4=true:=kr_
@[go_sem] theorem go5:isGo Tryz.prog 5=true:=kr_
@[go_sem] theorem go6:isGo Tryz.prog 6=true:=kr_
@[go_sem] theorem go7:isGo Tryz.prog 7=true:=kr_
@[go_sem] theorem go8:isGo Tryz.prog 8=true:=kr_
@[go_sem] theorem go9:isGo Tryz.prog 9=true:=kr_
@[go_sem] theorem go10:isGo Tryz.prog 10=true:=kr_
@[go_sem] theorem go11:isGo Tryz.prog 11=true:=kr_
@[go_sem] theorem go12:isGo Tryz.prog 12=true:=kr_
@[go_sem] theorem go13:isGo Tryz.prog 13=true:=kr_
@[go_sem] theorem go14:isGo Tryz.prog 14=true:=kr_
@[go_sem] theorem go15:isGo Tryz.prog 15=true:=kr_
@[go_sem] theorem go16:isGo Tryz.prog 16=true:=kr_
@[go_sem] theorem fr3:Tryz.f3.results.toList=[.tmp 4]:=kr_
@[go_sem] theorem fn3:Tryz.f3.ntmps=119:=kr_
@[go_sem] theorem go17:isGo Tryz.prog 17=true:=kr_
@[go_sem] theorem fr4:Tryz.f4.results.toList=[.tmp 4]:=kr_
@[go_sem] theorem fn4:Tryz.f4.ntmps=12:=kr_
@[go_sem] theorem go18:isGo Tryz.prog 18=true:=kr_
@[go_sem] theorem fr5:Tryz.f5.results.toList=[.tmp 4]:=kr_
@[go_sem] theorem fn5:Tryz.f5.ntmps=27:=kr_
@[go_sem] theorem ty58_a:tAgg Tryz.prog 58=some false:=kr_
@[go_sem] theorem ty58_s:tSize Tryz.prog 58=some 1:=kr_
@[go_sem] theorem ty58_i:tIsSlice Tryz.prog 58=true:=kr_
@[go_sem] theorem ty58_e:tElem Tryz.prog 58=some 64:=kr_
@[go_sem] theorem ty58_l:tSlice Tryz.prog 58=some (64,5,64):=kr_
@[go_sem] theorem ty58_t:tIsStr Tryz.prog 58=false:=kr_
@[go_sem] theorem ty58_u:(Tryz.prog.underlying 58).isSome=true:=kr_
@[go_sem] theorem ty60_i:tIsSlice Tryz.prog 60=true:=kr_
@[go_sem] theorem ty60_e:tElem Tryz.prog 60=some 3:=kr_
@[go_sem] theorem ty60_l:tSlice Tryz.prog 60=some (3,1,8):=kr_
@[go_sem] theorem ty60_u:(Tryz.prog.underlying 60).isSome=true:=kr_
@[go_sem] theorem ty64_a:tAgg Tryz.prog 64=some true:=kr_
@[go_sem] theorem ty64_s:tSize Tryz.prog 64=some 5:=kr_
@[go_sem] theorem ty64_f1:tField Tryz.prog 64 1=some (1,62):=kr_
@[go_sem] theorem tz54:tZero Tryz.prog 54=some [.string ⟨#[]⟩,.int .i64 0,.int .i64 0,.int .i64 0,.string ⟨#[]⟩,.slice none 0 0,.slice none 0 0]:=kr_
@[go_sem] theorem tz57:tZero Tryz.prog 57=some [.string ⟨#[]⟩,.slice none 0 0]:=kr_
@[go_sem] theorem tz64:tZero Tryz.prog 64=some [.int .i64 0,.int .i64 0,.int .i64 0,.string ⟨#[]⟩,.slice none 0 0]:=kr_
@[go_sem] theorem tb57:tBuild Tryz.prog 57=some ([.string ⟨#[]⟩,.slice none 0 0],[(0,1),(1,1)]):=kr_
@[go_sem] theorem go19:isGo Tryz.prog 19=true:=kr_
@[go_sem] theorem go20:isGo Tryz.prog 20=true:=kr_
@[go_sem] theorem go21:isGo Tryz.prog 21=true:=kr_
@[go_sem] theorem go22:isGo Tryz.prog 22=true:=kr_
@[go_sem] theorem go23:isGo Tryz.prog 23=true:=kr_
@[go_sem] theorem go24:isGo Tryz.prog 24=true:=kr_
@[go_sem] theorem fr6:Tryz.f6.results.toList=[.tmp 4,.tmp 5]:=kr_
@[go_sem] theorem fn6:Tryz.f6.ntmps=77:=kr_
@[go_sem] theorem go25:isGo Tryz.prog 25=true:=kr_
@[go_sem] theorem fr7:Tryz.f7.results.toList=[.cell 2 33]:=kr_
@[go_sem] theorem fn7:Tryz.f7.ntmps=9:=kr_
@[go_sem] theorem tz62:tZero Tryz.prog 62=some [.int .i64 0,.int .i64 0,.string ⟨#[]⟩,.slice none 0 0]:=kr_
@[go_sem] theorem go26:isGo Tryz.prog 26=true:=kr_
@[go_sem] theorem fr8:Tryz.f8.results.toList=[.tmp 2]:=kr_
@[go_sem] theorem fn8:Tryz.f8.ntmps=23:=kr_
@[go_sem] theorem ty69_i:tIsSlice Tryz.prog 69=true:=kr_
@[go_sem] theorem ty69_e:tElem Tryz.prog 69=some 58:=kr_
@[go_sem] theorem ty69_l:tSlice Tryz.prog 69=some (58,1,24):=kr_
@[go_sem] theorem ty69_u:(Tryz.prog.underlying 69).isSome=true:=kr_
@[go_sem] theorem go27:isGo Tryz.prog 27=true:=kr_
@[go_sem] theorem go28:isGo Tryz.prog 28=true:=kr_
@[go_sem] theorem go29:isGo Tryz.prog 29=true:=kr_
@[go_sem] theorem go30:isGo Tryz.prog 30=true:=kr_
@[go_sem] theorem go31:isGo Tryz.prog 31=true:=kr_
@[go_sem] theorem go32:isGo Tryz.prog 32=true:=kr_
@[go_sem] theorem fr9:Tryz.f9.results.toList=[.tmp 4,.tmp 5]:=kr_
@[go_sem] theorem fn9:Tryz.f9.ntmps=97:=kr_
@[go_sem] theorem go33:isGo Tryz.prog 33=true:=kr_
@[go_sem] theorem fr10:Tryz.f10.results.toList=[.tmp 4]:=kr_
@[go_sem] theorem fn10:Tryz.f10.ntmps=27:=kr_
@[go_sem] theorem go34:isGo Tryz.prog 34=true:=kr_
@[go_sem] theorem fr11:Tryz.f11.results.toList=[.tmp 4]:=kr_
@[go_sem] theorem fn11:Tryz.f11.ntmps=11:=kr_
@[go_sem] theorem go35:isGo Tryz.prog 35=true:=kr_
@[go_sem] theorem fr12:Tryz.f12.results.toList=[.tmp 4]:=kr_
@[go_sem] theorem fn12:Tryz.f12.ntmps=27:=kr_
@[go_sem] theorem go36:isGo Tryz.prog 36=true:=kr_
@[go_sem] theorem fr13:Tryz.f13.results.toList=[.tmp 4]:=kr_
@[go_sem] theorem fn13:Tryz.f13.ntmps=10:=kr_
@[go_sem] theorem go37:isGo Tryz.prog 37=true:=kr_
@[go_sem] theorem fr14:Tryz.f14.results.toList=[.tmp 4]:=kr_
@[go_sem] theorem fn14:Tryz.f14.ntmps=42:=kr_
@[go_sem] theorem fr15:Tryz.f15.results.toList=[.tmp 4]:=kr_
@[go_sem] theorem fn15:Tryz.f15.ntmps=28:=kr_
@[go_sem] theorem go38:isGo Tryz.prog 38=true:=kr_
@[go_sem] theorem fr16:Tryz.f16.results.toList=[.tmp 4]:=kr_
@[go_sem] theorem fn16:Tryz.f16.ntmps=32:=kr_
@[go_sem] theorem go39:isGo Tryz.prog 39=true:=kr_
@[go_sem] theorem fr17:Tryz.f17.results.toList=[.tmp 4]:=kr_
@[go_sem] theorem fn17:Tryz.f17.ntmps=27:=kr_
@[go_sem] theorem fr18:Tryz.f18.results.toList=[.tmp 4]:=kr_
@[go_sem] theorem fn18:Tryz.f18.ntmps=19:=kr_
@[go_sem] theorem go40:isGo Tryz.prog 40=true:=kr_
@[go_sem] theorem go41:isGo Tryz.prog 41=true:=kr_
@[go_sem] theorem go42:isGo Tryz.prog 42=true:=kr_
@[go_sem] theorem go43:isGo Tryz.prog 43=true:=kr_
@[go_sem] theorem go44:isGo Tryz.prog 44=true:=kr_
@[go_sem] theorem fr19:Tryz.f19.results.toList=[.tmp 2]:=kr_
@[go_sem] theorem fn19:Tryz.f19.ntmps=60:=kr_
@[go_sem] theorem go45:isGo Tryz.prog 45=true:=kr_
@[go_sem] theorem go46:isGo Tryz.prog 46=true:=kr_
@[go_sem] theorem fr20:Tryz.f20.results.toList=[.tmp 2]:=kr_
@[go_sem] theorem fn20:Tryz.f20.ntmps=33:=kr_
@[go_sem] theorem fr21:Tryz.f21.results.toList=[.tmp 6]:=kr_
@[go_sem] theorem fn21:Tryz.f21.ntmps=23:=kr_
@[go_sem] theorem tb64:tBuild Tryz.prog 64=some ([.int .i64 0,.int .i64 0,.int .i64 0,.string ⟨#[]⟩,.slice none 0 0],[(0,1),(1,4)]):=kr_
@[go_sem] theorem fr22:Tryz.f22.results.toList=[.tmp 6]:=kr_
@[go_sem] theorem fn22:Tryz.f22.ntmps=35:=kr_
@[go_sem] theorem go47:isGo Tryz.prog 47=true:=kr_
@[go_sem] theorem fr23:Tryz.f23.results.toList=[.tmp 4]:=kr_
@[go_sem] theorem fn23:Tryz.f23.ntmps=51:=kr_
@[go_sem] theorem go48:isGo Tryz.prog 48=true:=kr_
@[go_sem] theorem fr24:Tryz.f24.results.toList=[.tmp 2]:=kr_
@[go_sem] theorem fn24:Tryz.f24.ntmps=24:=kr_
@[go_sem] theorem go49:isGo Tryz.prog 49=true:=kr_
@[go_sem] theorem fr25:Tryz.f25.results.toList=[.tmp 2]:=kr_
@[go_sem] theorem fn25:Tryz.f25.ntmps=23:=kr_
@[go_sem] theorem fr26:Tryz.f26.results.toList=[.cell 2 62]:=kr_
@[go_sem] theorem fn26:Tryz.f26.ntmps=18:=kr_
@[go_sem] theorem go50:isGo Tryz.prog 50=true:=kr_
@[go_sem] theorem go51:isGo Tryz.prog 51=true:=kr_
@[go_sem] theorem go52:isGo Tryz.prog 52=true:=kr_
@[go_sem] theorem go53:isGo Tryz.prog 53=true:=kr_
@[go_sem] theorem go54:isGo Tryz.prog 54=true:=kr_
@[go_sem] theorem fr27:Tryz.f27.results.toList=[.tmp 2]:=kr_
@[go_sem] theorem fn27:Tryz.f27.ntmps=72:=kr_
@[go_sem] theorem go55:isGo Tryz.prog 55=true:=kr_
@[go_sem] theorem go56:isGo Tryz.prog 56=true:=kr_
@[go_sem] theorem fr28:Tryz.f28.results.toList=[.tmp 2]:=kr_
@[go_sem] theorem fn28:Tryz.f28.ntmps=38:=kr_
@[go_sem] theorem fr29:Tryz.f29.results.toList=[.tmp 6]:=kr_
@[go_sem] theorem fn29:Tryz.f29.ntmps=26:=kr_
@[go_sem] theorem fr30:Tryz.f30.results.toList=[.tmp 4]:=kr_
@[go_sem] theorem fn30:Tryz.f30.ntmps=50:=kr_
@[go_sem] theorem tb62:tBuild Tryz.prog 62=some ([.int .i64 0,.int .i64 0,.string ⟨#[]⟩,.slice none 0 0],[(0,1),(1,1),(2,1),(3,1)]):=kr_
@[go_sem] theorem fr31:Tryz.f31.results.toList=[.cell 2 62]:=kr_
@[go_sem] theorem fn31:Tryz.f31.ntmps=25:=kr_
@[go_sem] theorem ty97_a:tAgg Tryz.prog 97=some false:=kr_
@[go_sem] theorem ty97_s:tSize Tryz.prog 97=some 1:=kr_
@[go_sem] theorem tz28:tZero Tryz.prog 28=some [.slice none 0 0]:=kr_
@[go_sem] theorem go57:isGo Tryz.prog 57=true:=kr_
@[go_sem] theorem go59:isGo Tryz.prog 59=true:=kr_
@[go_sem] theorem fr32:Tryz.f32.results.toList=[.tmp 2]:=kr_
@[go_sem] theorem fn32:Tryz.f32.ntmps=40:=kr_
@[go_sem] theorem fr33:Tryz.f33.results.toList=[.tmp 4]:=kr_
@[go_sem] theorem fn33:Tryz.f33.ntmps=16:=kr_
@[go_sem] theorem go60:isGo Tryz.prog 60=true:=kr_
@[go_sem] theorem fr34:Tryz.f34.results.toList=[.tmp 4]:=kr_
@[go_sem] theorem fn34:Tryz.f34.ntmps=27:=kr_
@[go_sem] theorem fr35:Tryz.f35.results.toList=[.tmp 4]:=kr_
@[go_sem] theorem fn35:Tryz.f35.ntmps=26:=kr_
@[go_sem] theorem go61:isGo Tryz.prog 61=true:=kr_
@[go_sem] theorem fr36:Tryz.f36.results.toList=[.tmp 4]:=kr_
@[go_sem] theorem fn36:Tryz.f36.ntmps=68:=kr_
@[go_sem] theorem ty5_n:tInt Tryz.prog 5=some Go.IntKind.u8:=kr_
@[go_sem] theorem ty5_u:(Tryz.prog.underlying 5).isSome=true:=kr_
@[go_sem] theorem ty100_l:tSlice Tryz.prog 100=some (5,1,1):=kr_
@[go_sem] theorem ty100_b:tIsBytes Tryz.prog 100=true:=kr_
@[go_sem] theorem fr37:Tryz.f37.results.toList=[.tmp 2]:=kr_
@[go_sem] theorem fn37:Tryz.f37.ntmps=20:=kr_
@[go_sem] theorem fr38:Tryz.f38.results.toList=[.tmp 4]:=kr_
@[go_sem] theorem fn38:Tryz.f38.ntmps=50:=kr_
@[go_sem] theorem go62:isGo Tryz.prog 62=true:=kr_
@[go_sem] theorem fr39:Tryz.f39.results.toList=[.tmp 4]:=kr_
@[go_sem] theorem fn39:Tryz.f39.ntmps=19:=kr_
@[go_sem] theorem fr40:Tryz.f40.results.toList=[.tmp 4]:=kr_
@[go_sem] theorem fn40:Tryz.f40.ntmps=21:=kr_
@[go_sem] theorem ty102_i:tIsSlice Tryz.prog 102=true:=kr_
@[go_sem] theorem ty102_e:tElem Tryz.prog 102=some 9:=kr_
@[go_sem] theorem ty102_l:tSlice Tryz.prog 102=some (9,1,16):=kr_
@[go_sem] theorem go63:isGo Tryz.prog 63=true:=kr_
@[go_sem] theorem fr41:Tryz.f41.results.toList=[.tmp 2]:=kr_
@[go_sem] theorem fn41:Tryz.f41.ntmps=17:=kr_
@[go_sem] theorem fr42:Tryz.f42.results.toList=[.tmp 6]:=kr_
@[go_sem] theorem fn42:Tryz.f42.ntmps=15:=kr_
@[go_sem] theorem go64:isGo Tryz.prog 64=true:=kr_
@[go_sem] theorem go65:isGo Tryz.prog 65=true:=kr_
@[go_sem] theorem go66:isGo Tryz.prog 66=true:=kr_
@[go_sem] theorem fr43:Tryz.f43.results.toList=[.tmp 6]:=kr_
@[go_sem] theorem fn43:Tryz.f43.ntmps=32:=kr_
@[go_sem] theorem go67:isGo Tryz.prog 67=true:=kr_
@[go_sem] theorem fr44:Tryz.f44.results.toList=[.tmp 2]:=kr_
@[go_sem] theorem fn44:Tryz.f44.ntmps=8:=kr_
@[go_sem] theorem go68:isGo Tryz.prog 68=true:=kr_
@[go_sem] theorem go69:isGo Tryz.prog 69=true:=kr_
@[go_sem] theorem fr45:Tryz.f45.results.toList=[.tmp 2]:=kr_
@[go_sem] theorem fn45:Tryz.f45.ntmps=11:=kr_
@[go_sem] theorem go70:isGo Tryz.prog 70=true:=kr_
@[go_sem] theorem fr46:Tryz.f46.results.toList=[.tmp 4]:=kr_
@[go_sem] theorem fn46:Tryz.f46.ntmps=68:=kr_
@[go_sem] theorem go71:isGo Tryz.prog 71=true:=kr_
@[go_sem] theorem fr47:Tryz.f47.results.toList=[.tmp 4]:=kr_
@[go_sem] theorem fn47:Tryz.f47.ntmps=21:=kr_
@[go_sem] theorem go72:isGo Tryz.prog 72=true:=kr_
@[go_sem] theorem fr48:Tryz.f48.results.toList=[.tmp 2]:=kr_
@[go_sem] theorem fn48:Tryz.f48.ntmps=20:=kr_
@[go_sem] theorem go73:isGo Tryz.prog 73=true:=kr_
@[go_sem] theorem fr49:Tryz.f49.results.toList=[.cell 2 54]:=kr_
@[go_sem] theorem fn49:Tryz.f49.ntmps=18:=kr_
@[go_sem] theorem go74:isGo Tryz.prog 74=true:=kr_
@[go_sem] theorem fr50:Tryz.f50.results.toList=[.tmp 2]:=kr_
@[go_sem] theorem fn50:Tryz.f50.ntmps=16:=kr_
@[go_sem] theorem fr51:Tryz.f51.results.toList=[.tmp 4]:=kr_
@[go_sem] theorem fn51:Tryz.f51.ntmps=21:=kr_
@[go_sem] theorem ty109_m:tMap Tryz.prog 109=some (false,.int .i64 0):=kr_
@[go_sem] theorem tz52:tZero Tryz.prog 52=some [.int .i64 0,.string ⟨#[]⟩,.slice none 0 0,.slice none 0 0]:=kr_
@[go_sem] theorem go75:isGo Tryz.prog 75=true:=kr_
@[go_sem] theorem fr52:Tryz.f52.results.toList=[.tmp 4]:=kr_
@[go_sem] theorem fn52:Tryz.f52.ntmps=142:=kr_
@[go_sem] theorem go76:isGo Tryz.prog 76=true:=kr_
@[go_sem] theorem fr53:Tryz.f53.results.toList=[.tmp 4]:=kr_
@[go_sem] theorem fn53:Tryz.f53.ntmps=18:=kr_
@[go_sem] theorem tz4:tZero Tryz.prog 4=some [.bool false]:=kr_
@[go_sem] theorem go77:isGo Tryz.prog 77=true:=kr_
@[go_sem] theorem fr54:Tryz.f54.results.toList=[.tmp 4]:=kr_
@[go_sem] theorem fn54:Tryz.f54.ntmps=10:=kr_
@[go_sem] theorem go79:isGo Tryz.prog 79=true:=kr_
@[go_sem] theorem go80:isGo Tryz.prog 80=true:=kr_
@[go_sem] theorem fr55:Tryz.f55.results.toList=[.tmp 2]:=kr_
@[go_sem] theorem fn55:Tryz.f55.ntmps=9:=kr_
@[go_sem] theorem go81:isGo Tryz.prog 81=true:=kr_
@[go_sem] theorem fr56:Tryz.f56.results.toList=[.tmp 4]:=kr_
@[go_sem] theorem fn56:Tryz.f56.ntmps=60:=kr_
@[go_sem] theorem fr58:Tryz.f58.results.toList=[.tmp 5]:=kr_
@[go_sem] theorem fn58:Tryz.f58.ntmps=16:=kr_
@[go_sem] theorem go86:isGo Tryz.prog 86=true:=kr_
@[go_sem] theorem fr59:Tryz.f59.results.toList=[.tmp 4]:=kr_
@[go_sem] theorem fn59:Tryz.f59.ntmps=20:=kr_
@[go_sem] theorem go87:isGo Tryz.prog 87=true:=kr_
@[go_sem] theorem fr60:Tryz.f60.results.toList=[.tmp 4]:=kr_
@[go_sem] theorem fn60:Tryz.f60.ntmps=26:=kr_
@[go_sem] theorem fr61:Tryz.f61.results.toList=[.tmp 4]:=kr_
@[go_sem] theorem fn61:Tryz.f61.ntmps=42:=kr_
@[go_sem] theorem go88:isGo Tryz.prog 88=true:=kr_
@[go_sem] theorem fr62:Tryz.f62.results.toList=[.tmp 4]:=kr_
@[go_sem] theorem fn62:Tryz.f62.ntmps=25:=kr_
@[go_sem] theorem fr63:Tryz.f63.results.toList=[.tmp 2]:=kr_
@[go_sem] theorem fn63:Tryz.f63.ntmps=44:=kr_
@[go_sem] theorem go89:isGo Tryz.prog 89=true:=kr_
@[go_sem] theorem fr64:Tryz.f64.results.toList=[.tmp 2]:=kr_
@[go_sem] theorem fn64:Tryz.f64.ntmps=10:=kr_
@[go_sem] theorem fr65:Tryz.f65.results.toList=[.tmp 4]:=kr_
@[go_sem] theorem fn65:Tryz.f65.ntmps=41:=kr_
@[go_sem] theorem fr66:Tryz.f66.results.toList=[.tmp 4]:=kr_
@[go_sem] theorem fn66:Tryz.f66.ntmps=32:=kr_
@[go_sem] theorem fr67:Tryz.f67.results.toList=[.tmp 4]:=kr_
@[go_sem] theorem fn67:Tryz.f67.ntmps=28:=kr_
@[go_sem] theorem go90:isGo Tryz.prog 90=true:=kr_
@[go_sem] theorem go91:isGo Tryz.prog 91=true:=kr_
@[go_sem] theorem fr68:Tryz.f68.results.toList=[.tmp 2]:=kr_
@[go_sem] theorem fn68:Tryz.f68.ntmps=10:=kr_
@[go_sem] theorem go92:isGo Tryz.prog 92=true:=kr_
@[go_sem] theorem fr69:Tryz.f69.results.toList=[.tmp 4]:=kr_
@[go_sem] theorem fn69:Tryz.f69.ntmps=26:=kr_
@[go_sem] theorem fr70:Tryz.f70.results.toList=[.tmp 2]:=kr_
@[go_sem] theorem fn70:Tryz.f70.ntmps=4:=kr_
@[go_sem] theorem fr71:Tryz.f71.results.toList=[.tmp 4]:=kr_
@[go_sem] theorem fn71:Tryz.f71.ntmps=42:=kr_
@[go_sem] theorem fr72:Tryz.f72.results.toList=[.cell 2 62]:=kr_
@[go_sem] theorem fn72:Tryz.f72.ntmps=29:=kr_
@[go_sem] theorem go93:isGo Tryz.prog 93=true:=kr_
@[go_sem] theorem fr73:Tryz.f73.results.toList=[.cell 2 52]:=kr_
@[go_sem] theorem fn73:Tryz.f73.ntmps=19:=kr_
@[go_sem] theorem fr74:Tryz.f74.results.toList=[.tmp 2]:=kr_
@[go_sem] theorem fn74:Tryz.f74.ntmps=57:=kr_
@[go_sem] theorem fr75:Tryz.f75.results.toList=[.tmp 2]:=kr_
@[go_sem] theorem fn75:Tryz.f75.ntmps=15:=kr_
@[go_sem] theorem ty130_a:tAgg Tryz.prog 130=some false:=kr_
@[go_sem] theorem ty130_s:tSize Tryz.prog 130=some 1:=kr_
@[go_sem] theorem ty130_im:tIsMap Tryz.prog 130=true:=kr_
@[go_sem] theorem ty130_m:tMap Tryz.prog 130=some (false,.bool false):=kr_
@[go_sem] theorem tz130:tZero Tryz.prog 130=some [.map none]:=kr_
@[go_sem] theorem go97:isGo Tryz.prog 97=true:=kr_
@[go_sem] theorem fr76:Tryz.f76.results.toList=[.tmp 2]:=kr_
@[go_sem] theorem fn76:Tryz.f76.ntmps=10:=kr_
@[go_sem] theorem fr77:Tryz.f77.results.toList=[]:=kr_
@[go_sem] theorem fn77:Tryz.f77.ntmps=20:=kr_
@[go_sem] theorem fr78:Tryz.f78.results.toList=[]:=kr_
@[go_sem] theorem fn78:Tryz.f78.ntmps=26:=kr_
@[go_sem] theorem go98:isGo Tryz.prog 98=true:=kr_
@[go_sem] theorem fr79:Tryz.f79.results.toList=[.tmp 2]:=kr_
@[go_sem] theorem fn79:Tryz.f79.ntmps=6:=kr_
@[go_sem] theorem go95:isGo Tryz.prog 95=true:=kr_
@[go_sem] theorem fr80:Tryz.f80.results.toList=[.tmp 2]:=kr_
@[go_sem] theorem fn80:Tryz.f80.ntmps=8:=kr_
@[go_sem] theorem fr81:Tryz.f81.results.toList=[.tmp 4]:=kr_
@[go_sem] theorem fn81:Tryz.f81.ntmps=11:=kr_
@[go_sem] theorem ty119_a:tAgg Tryz.prog 119=some false:=kr_
@[go_sem] theorem ty119_s:tSize Tryz.prog 119=some 1:=kr_
@[go_sem] theorem ty123_a:tAgg Tryz.prog 123=some true:=kr_
@[go_sem] theorem ty123_s:tSize Tryz.prog 123=some 2:=kr_
@[go_sem] theorem ty123_f0:tField Tryz.prog 123 0=some (0,97):=kr_
@[go_sem] theorem ty123_f1:tField Tryz.prog 123 1=some (1,119):=kr_
@[go_sem] theorem go109:isGo Tryz.prog 109=true:=kr_
@[go_sem] theorem go110:isGo Tryz.prog 110=true:=kr_
@[go_sem] theorem fr84:Tryz.f84.results.toList=[]:=kr_
@[go_sem] theorem fn84:Tryz.f84.ntmps=57:=kr_
@[go_sem] theorem fr86:Tryz.f86.results.toList=[.tmp 4]:=kr_
@[go_sem] theorem fn86:Tryz.f86.ntmps=36:=kr_
@[go_sem] theorem go111:isGo Tryz.prog 111=true:=kr_
@[go_sem] theorem fr87:Tryz.f87.results.toList=[.tmp 4]:=kr_
@[go_sem] theorem fn87:Tryz.f87.ntmps=27:=kr_
@[go_sem] theorem fr88:Tryz.f88.results.toList=[.tmp 4]:=kr_
@[go_sem] theorem fn88:Tryz.f88.ntmps=27:=kr_
@[go_sem] theorem go112:isGo Tryz.prog 112=true:=kr_
@[go_sem] theorem fr89:Tryz.f89.results.toList=[.tmp 2]:=kr_
@[go_sem] theorem fn89:Tryz.f89.ntmps=106:=kr_
@[go_sem] theorem fr90:Tryz.f90.results.toList=[.tmp 4]:=kr_
@[go_sem] theorem fn90:Tryz.f90.ntmps=28:=kr_
@[go_sem] theorem fr91:Tryz.f91.results.toList=[.tmp 2]:=kr_
@[go_sem] theorem fn91:Tryz.f91.ntmps=76:=kr_
@[go_sem] theorem fr92:Tryz.f92.results.toList=[.tmp 4]:=kr_
@[go_sem] theorem fn92:Tryz.f92.ntmps=49:=kr_
@[go_sem] theorem fr93:Tryz.f93.results.toList=[.tmp 2]:=kr_
@[go_sem] theorem fn93:Tryz.f93.ntmps=23:=kr_
@[go_sem] theorem fr94:Tryz.f94.results.toList=[]:=kr_
@[go_sem] theorem fn94:Tryz.f94.ntmps=16:=kr_
@[go_sem] theorem fr95:Tryz.f95.results.toList=[]:=kr_
@[go_sem] theorem fn95:Tryz.f95.ntmps=26:=kr_
@[go_sem] theorem fr96:Tryz.f96.results.toList=[]:=kr_
@[go_sem] theorem fn96:Tryz.f96.ntmps=5:=kr_
@[go_sem] theorem go113:isGo Tryz.prog 113=true:=kr_
@[go_sem] theorem fr97:Tryz.f97.results.toList=[.tmp 2]:=kr_
@[go_sem] theorem fn97:Tryz.f97.ntmps=19:=kr_
@[go_sem] theorem fr98:Tryz.f98.results.toList=[.tmp 4]:=kr_
@[go_sem] theorem fn98:Tryz.f98.ntmps=107:=kr_
@[go_sem] theorem fr99:Tryz.f99.results.toList=[]:=kr_
@[go_sem] theorem fn99:Tryz.f99.ntmps=3:=kr_
@[go_sem] theorem fr109:Tryz.f109.results.toList=[]:=kr_
@[go_sem] theorem fn109:Tryz.f109.ntmps=35:=kr_
@[go_sem] theorem ty141_n:tInt Tryz.prog 141=some Go.IntKind.u64:=kr_
@[go_sem] theorem ty141_u:(Tryz.prog.underlying 141).isSome=true:=kr_
@[go_sem] theorem go114:isGo Tryz.prog 114=true:=kr_
@[go_sem] theorem fr110:Tryz.f110.results.toList=[]:=kr_
@[go_sem] theorem fn110:Tryz.f110.ntmps=177:=kr_
@[go_sem] theorem fr111:Tryz.f111.results.toList=[.tmp 4]:=kr_
@[go_sem] theorem fn111:Tryz.f111.ntmps=27:=kr_
@[go_sem] theorem fr112:Tryz.f112.results.toList=[.tmp 2]:=kr_
@[go_sem] theorem fn112:Tryz.f112.ntmps=15:=kr_
@[go_sem] theorem go116:isGo Tryz.prog 116=true:=kr_
@[go_sem] theorem fr114:Tryz.f114.results.toList=[]:=kr_
@[go_sem] theorem fn114:Tryz.f114.ntmps=53:=kr_
@[go_sem] theorem fr116:Tryz.f116.results.toList=[]:=kr_
@[go_sem] theorem fn116:Tryz.f116.ntmps=23:=kr_
end Go.Proofs.YtehkgphockcjdaaGreat
