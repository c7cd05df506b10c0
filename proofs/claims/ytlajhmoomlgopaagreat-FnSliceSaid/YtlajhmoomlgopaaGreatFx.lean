import Derived.Test.YtlajhmoomlgopaaGreatP1
import Derived.Test.YtlajhmoomlgopaaGreatA5
import Derived.Test.YtlajhmoomlgopaaGreatProg
import Derived.KernelRfl
namespace Go.Proofs.YtlajhmoomlgopaaGreat
open Go.Abs
theorem mixed:Tryz.prog.follows .mixedOrders=true:=by kernel_rfl
theorem kr_ {α:Sort _}{a b:α}(h:a=b:=by kernel_rfl):a=b:=h
theorem wk1_ {p:Prop}(h:p:=by refine ⟨by simp [mkS],by simp [mkS],by simp only [mkS,List.all_cons,List.all_nil,O.refsLt,C.refsLt,C.refsLt1,all_dmap];first | done | rfl | (simp;done),?_⟩;simp [mkS,Abs.get,C.refsLtT,C.refsLt,C.refsLt1]):p:=h
theorem wk2_ {p:Prop}(h:p:=by refine ⟨by simp [mkS,h.len],by simp only [mkS,List.length_append,List.length_cons,List.length_nil,h.len,h.tkj,h.tk0,h.tk];first | done | rfl | (simp;done),by simp [mkS,O.refsLt,C.refsLt,C.refsLt1,h.len,h.refs,h.refsj,h.hcaps,h.capsj,h.hcaps2,h.capsj2,all_dmap,all_dcomp,-List.all_eq_true],?_⟩;simp [mkS,Abs.get,C.refsLtT,C.refsLt,C.refsLt1,h.len,h.hcaps,h.capsj,h.hcaps2,h.capsj2,-List.all_eq_true]):p:=h
theorem wk3_ {p:Prop}(h:p:=by refine ⟨by simp [mkS],by simp [mkS],by simp [mkS,O.refsLt,C.refsLt,C.refsLt1],?_⟩;simp [mkS,Abs.get,C.refsLtT,C.refsLt,C.refsLt1]):p:=h
theorem wk4_ {p:Prop}(h:p:=by refine ⟨by simp [mkS,h.len],by simp only [mkS,List.length_append,List.length_cons,List.length_nil,h.len,h.tkj,h.tk0,h.tk];first | done | rfl | (simp;done),by simp [mkS,O.refsLt,C.refsLt,C.refsLt1,h.len,h.refs,h.refsj,all_dmap,all_dcomp,-List.all_eq_true],?_⟩;simp [mkS,Abs.get,C.refsLtT,C.refsLt,C.refsLt1,h.len,h.hcaps,h.capsj,-List.all_eq_true]):p:=h
theorem rS_ {f:FuncId}{n n0:Nat}{R:C→List O→Prop}{fn:Func}(hf:Tryz.prog.funcs[f]? = some fn){k:List Item}{s:St}(h:run Tryz.prog f n n0 R fn.results.toList 200 k s)(hk:k.all okItem=true:=by kernel_rfl):AW Tryz.prog f n n0 R k s:=run_sound hf mixed 200 k s hk h
theorem aE_ {f:FuncId}{fn:Func}{c:Code}{args:List C}{H:List O}{R:C→List O→Prop}(hf:Tryz.prog.funcs[f]? = some fn)(h:AW Tryz.prog f fn.ntmps H.length R [.code c] ⟨(List.range args.length).zip args,H⟩)(hb:fn.body=some c:=by rfl)(hn:args.length≤fn.ntmps:=by exact Nat.le_of_ble_eq_true rfl):ACalls Tryz.prog f args H R:=ACalls.enter hf hb hn h
@[go_sem] theorem ty3_a:tAgg Tryz.prog 3=some false:=kr_
@[go_sem] theorem ty3_s:tSize Tryz.prog 3=some 1:=kr_
@[go_sem] theorem ty3_n:tInt Tryz.prog 3=some Go.IntKind.i64:=kr_
@[go_sem] theorem ty3_u:(Tryz.prog.underlying 3).isSome=true:=kr_
@[go_sem] theorem ty4_a:tAgg Tryz.prog 4=some false:=kr_
@[go_sem] theorem ty4_s:tSize Tryz.prog 4=some 1:=kr_
@[go_sem] theorem ty5_a:tAgg Tryz.prog 5=some false:=kr_
@[go_sem] theorem ty5_s:tSize Tryz.prog 5=some 1:=kr_
@[go_sem] theorem ty5_n:tInt Tryz.prog 5=some Go.IntKind.u8:=kr_
@[go_sem] theorem ty5_u:(Tryz.prog.underlying 5).isSome=true:=kr_
@[go_sem] theorem ty9_a:tAgg Tryz.prog 9=some false:=kr_
@[go_sem] theorem ty9_s:tSize Tryz.prog 9=some 1:=kr_
@[go_sem] theorem ty9_t:tIsStr Tryz.prog 9=true:=kr_
@[go_sem] theorem ty22_a:tAgg Tryz.prog 22=some false:=kr_
@[go_sem] theorem ty22_s:tSize Tryz.prog 22=some 1:=kr_
@[go_sem] theorem ty22_i:tIsSlice Tryz.prog 22=true:=kr_
@[go_sem] theorem ty22_e:tElem Tryz.prog 22=some 5:=kr_
@[go_sem] theorem ty22_l:tSlice Tryz.prog 22=some (5,1,1):=kr_
@[go_sem] theorem ty22_b:tIsBytes Tryz.prog 22=true:=kr_
@[go_sem] theorem ty23_a:tAgg Tryz.prog 23=some false:=kr_
@[go_sem] theorem ty23_s:tSize Tryz.prog 23=some 1:=kr_
@[go_sem] theorem ty23_i:tIsSlice Tryz.prog 23=true:=kr_
@[go_sem] theorem ty23_e:tElem Tryz.prog 23=some 81:=kr_
@[go_sem] theorem ty23_l:tSlice Tryz.prog 23=some (81,7,104):=kr_
@[go_sem] theorem ty23_t:tIsStr Tryz.prog 23=false:=kr_
@[go_sem] theorem ty23_u:(Tryz.prog.underlying 23).isSome=true:=kr_
@[go_sem] theorem ty25_a:tAgg Tryz.prog 25=some true:=kr_
@[go_sem] theorem ty25_s:tSize Tryz.prog 25=some 1:=kr_
@[go_sem] theorem ty25_f0:tField Tryz.prog 25 0=some (0,23):=kr_
@[go_sem] theorem ty27_a:tAgg Tryz.prog 27=some false:=kr_
@[go_sem] theorem ty27_s:tSize Tryz.prog 27=some 1:=kr_
@[go_sem] theorem ty27_i:tIsSlice Tryz.prog 27=true:=kr_
@[go_sem] theorem ty27_e:tElem Tryz.prog 27=some 85:=kr_
@[go_sem] theorem ty27_l:tSlice Tryz.prog 27=some (85,4,56):=kr_
@[go_sem] theorem ty27_t:tIsStr Tryz.prog 27=false:=kr_
@[go_sem] theorem ty27_u:(Tryz.prog.underlying 27).isSome=true:=kr_
@[go_sem] theorem ty30_a:tAgg Tryz.prog 30=some false:=kr_
@[go_sem] theorem ty30_s:tSize Tryz.prog 30=some 1:=kr_
@[go_sem] theorem ty30_i:tIsSlice Tryz.prog 30=true:=kr_
@[go_sem] theorem ty30_e:tElem Tryz.prog 30=some 37:=kr_
@[go_sem] theorem ty30_l:tSlice Tryz.prog 30=some (37,2,40):=kr_
@[go_sem] theorem ty30_t:tIsStr Tryz.prog 30=false:=kr_
@[go_sem] theorem ty30_u:(Tryz.prog.underlying 30).isSome=true:=kr_
@[go_sem] theorem ty37_a:tAgg Tryz.prog 37=some true:=kr_
@[go_sem] theorem ty37_s:tSize Tryz.prog 37=some 2:=kr_
@[go_sem] theorem ty37_f0:tField Tryz.prog 37 0=some (0,9):=kr_
@[go_sem] theorem ty37_f1:tField Tryz.prog 37 1=some (1,27):=kr_
@[go_sem] theorem ty46_a:tAgg Tryz.prog 46=some false:=kr_
@[go_sem] theorem ty46_s:tSize Tryz.prog 46=some 1:=kr_
@[go_sem] theorem ty46_i:tIsSlice Tryz.prog 46=true:=kr_
@[go_sem] theorem ty46_e:tElem Tryz.prog 46=some 48:=kr_
@[go_sem] theorem ty46_l:tSlice Tryz.prog 46=some (48,4,72):=kr_
@[go_sem] theorem ty46_t:tIsStr Tryz.prog 46=false:=kr_
@[go_sem] theorem ty46_u:(Tryz.prog.underlying 46).isSome=true:=kr_
@[go_sem] theorem ty48_a:tAgg Tryz.prog 48=some true:=kr_
@[go_sem] theorem ty48_s:tSize Tryz.prog 48=some 4:=kr_
@[go_sem] theorem ty48_f0:tField Tryz.prog 48 0=some (0,3):=kr_
@[go_sem] theorem ty48_f1:tField Tryz.prog 48 1=some (1,9):=kr_
@[go_sem] theorem ty48_f2:tField Tryz.prog 48 2=some (2,27):=kr_
@[go_sem] theorem ty48_f3:tField Tryz.prog 48 3=some (3,46):=kr_
@[go_sem] theorem ty81_a:tAgg Tryz.prog 81=some true:=kr_
@[go_sem] theorem ty81_s:tSize Tryz.prog 81=some 7:=kr_
@[go_sem] theorem ty81_f0:tField Tryz.prog 81 0=some (0,9):=kr_
@[go_sem] theorem ty81_f1:tField Tryz.prog 81 1=some (1,3):=kr_
@[go_sem] theorem ty81_f2:tField Tryz.prog 81 2=some (2,3):=kr_
@[go_sem] theorem ty81_f3:tField Tryz.prog 81 3=some (3,48):=kr_
@[go_sem] theorem ty85_a:tAgg Tryz.prog 85=some true:=kr_
@[go_sem] theorem ty85_s:tSize Tryz.prog 85=some 4:=kr_
@[go_sem] theorem ty85_f0:tField Tryz.prog 85 0=some (0,3):=kr_
@[go_sem] theorem ty85_f1:tField Tryz.prog 85 1=some (1,3):=kr_
@[go_sem] theorem ty85_f2:tField Tryz.prog 85 2=some (2,9):=kr_
@[go_sem] theorem ty85_f3:tField Tryz.prog 85 3=some (3,27):=kr_
@[go_sem] theorem tz25:tZero Tryz.prog 25=some [.slice none 0 0]:=kr_
@[go_sem] theorem tz37:tZero Tryz.prog 37=some [.string ⟨#[]⟩,.slice none 0 0]:=kr_
@[go_sem] theorem go7:isGo Tryz.prog 7=true:=kr_
@[go_sem] theorem go8:isGo Tryz.prog 8=true:=kr_
@[go_sem] theorem go10:isGo Tryz.prog 10=true:=kr_
@[go_sem] theorem go14:isGo Tryz.prog 14=true:=kr_
@[go_sem] theorem go15:isGo Tryz.prog 15=true:=kr_
@[go_sem] theorem go18:isGo Tryz.prog 18=true:=kr_
@[go_sem] theorem tz48:tZero Tryz.prog 48=some [.int .i64 0,.string ⟨#[]⟩,.slice none 0 0,.slice none 0 0]:=kr_
@[go_sem] theorem go19:isGo Tryz.prog 19=true:=kr_
@[go_sem] theorem go20:isGo Tryz.prog 20=true:=kr_
@[go_sem] theorem go21:isGo Tryz.prog 21=true:=kr_
@[go_sem] theorem fr5:Tryz.f5.results.toList=[.tmp 2]:=kr_
@[go_sem] theorem fn5:Tryz.f5.ntmps=92:=kr_
@[go_sem] theorem ty54_i:tIsSlice Tryz.prog 54=true:=kr_
@[go_sem] theorem ty54_e:tElem Tryz.prog 54=some 58:=kr_
@[go_sem] theorem ty54_l:tSlice Tryz.prog 54=some (58,6,120):=kr_
@[go_sem] theorem ty54_u:(Tryz.prog.underlying 54).isSome=true:=kr_
@[go_sem] theorem ty58_a:tAgg Tryz.prog 58=some true:=kr_
@[go_sem] theorem ty58_s:tSize Tryz.prog 58=some 6:=kr_
@[go_sem] theorem ty58_f0:tField Tryz.prog 58 0=some (0,37):=kr_
@[go_sem] theorem ty58_f3:tField Tryz.prog 58 3=some (4,30):=kr_
@[go_sem] theorem ty58_f4:tField Tryz.prog 58 4=some (5,30):=kr_
@[go_sem] theorem tz58:tZero Tryz.prog 58=some [.string ⟨#[]⟩,.slice none 0 0,.int .i64 0,.slice none 0 0,.slice none 0 0,.slice none 0 0]:=kr_
@[go_sem] theorem go24:isGo Tryz.prog 24=true:=kr_
@[go_sem] theorem go25:isGo Tryz.prog 25=true:=kr_
@[go_sem] theorem go26:isGo Tryz.prog 26=true:=kr_
@[go_sem] theorem go27:isGo Tryz.prog 27=true:=kr_
@[go_sem] theorem go28:isGo Tryz.prog 28=true:=kr_
@[go_sem] theorem go29:isGo Tryz.prog 29=true:=kr_
@[go_sem] theorem go30:isGo Tryz.prog 30=true:=kr_
@[go_sem] theorem go31:isGo Tryz.prog 31=true:=kr_
@[go_sem] theorem fr7:Tryz.f7.results.toList=[.cell 6 25]:=kr_
@[go_sem] theorem fn7:Tryz.f7.ntmps=45:=kr_
@[go_sem] theorem go32:isGo Tryz.prog 32=true:=kr_
@[go_sem] theorem fr8:Tryz.f8.results.toList=[.tmp 6]:=kr_
@[go_sem] theorem fn8:Tryz.f8.ntmps=12:=kr_
@[go_sem] theorem go33:isGo Tryz.prog 33=true:=kr_
@[go_sem] theorem ty68_i:tIsSlice Tryz.prog 68=true:=kr_
@[go_sem] theorem ty68_e:tElem Tryz.prog 68=some 30:=kr_
@[go_sem] theorem ty68_l:tSlice Tryz.prog 68=some (30,1,24):=kr_
@[go_sem] theorem ty68_u:(Tryz.prog.underlying 68).isSome=true:=kr_
@[go_sem] theorem go34:isGo Tryz.prog 34=true:=kr_
@[go_sem] theorem go35:isGo Tryz.prog 35=true:=kr_
@[go_sem] theorem go36:isGo Tryz.prog 36=true:=kr_
@[go_sem] theorem fr10:Tryz.f10.results.toList=[.tmp 4,.tmp 5,.tmp 6]:=kr_
@[go_sem] theorem fn10:Tryz.f10.ntmps=30:=kr_
@[go_sem] theorem go37:isGo Tryz.prog 37=true:=kr_
@[go_sem] theorem go38:isGo Tryz.prog 38=true:=kr_
@[go_sem] theorem go40:isGo Tryz.prog 40=true:=kr_
@[go_sem] theorem go41:isGo Tryz.prog 41=true:=kr_
@[go_sem] theorem go42:isGo Tryz.prog 42=true:=kr_
@[go_sem] theorem go43:isGo Tryz.prog 43=true:=kr_
@[go_sem] theorem go45:isGo Tryz.prog 45=true:=kr_
@[go_sem] theorem fr14:Tryz.f14.results.toList=[.tmp 4]:=kr_
@[go_sem] theorem fn14:Tryz.f14.ntmps=17:=kr_
@[go_sem] theorem fr15:Tryz.f15.results.toList=[.tmp 4]:=kr_
@[go_sem] theorem fn15:Tryz.f15.ntmps=18:=kr_
@[go_sem] theorem go46:isGo Tryz.prog 46=true:=kr_
@[go_sem] theorem ty77_a:tAgg Tryz.prog 77=some false:=kr_
@[go_sem] theorem ty77_s:tSize Tryz.prog 77=some 1:=kr_
@[go_sem] theorem ty77_i:tIsSlice Tryz.prog 77=true:=kr_
@[go_sem] theorem ty77_e:tElem Tryz.prog 77=some 46:=kr_
@[go_sem] theorem ty77_l:tSlice Tryz.prog 77=some (46,1,24):=kr_
@[go_sem] theorem ty77_t:tIsStr Tryz.prog 77=false:=kr_
@[go_sem] theorem ty77_u:(Tryz.prog.underlying 77).isSome=true:=kr_
@[go_sem] theorem tb25:tBuild Tryz.prog 25=some ([.slice none 0 0],[(0,1)]):=kr_
@[go_sem] theorem go47:isGo Tryz.prog 47=true:=kr_
@[go_sem] theorem go50:isGo Tryz.prog 50=true:=kr_
@[go_sem] theorem fr18:Tryz.f18.results.toList=[.tmp 2]:=kr_
@[go_sem] theorem fn18:Tryz.f18.ntmps=9:=kr_
@[go_sem] theorem tz81:tZero Tryz.prog 81=some [.string ⟨#[]⟩,.int .i64 0,.int .i64 0,.int .i64 0,.string ⟨#[]⟩,.slice none 0 0,.slice none 0 0]:=kr_
@[go_sem] theorem tb48:tBuild Tryz.prog 48=some ([.int .i64 0,.string ⟨#[]⟩,.slice none 0 0,.slice none 0 0],[(0,1),(1,1),(2,1),(3,1)]):=kr_
@[go_sem] theorem go51:isGo Tryz.prog 51=true:=kr_
@[go_sem] theorem fr19:Tryz.f19.results.toList=[.cell 6 48,.tmp 7]:=kr_
@[go_sem] theorem fn19:Tryz.f19.ntmps=41:=kr_
@[go_sem] theorem ty87_a:tAgg Tryz.prog 87=some false:=kr_
@[go_sem] theorem ty87_s:tSize Tryz.prog 87=some 1:=kr_
@[go_sem] theorem ty87_im:tIsMap Tryz.prog 87=true:=kr_
@[go_sem] theorem ty87_m:tMap Tryz.prog 87=some (false,.bool false):=kr_
@[go_sem] theorem ty88_i:tIsSlice Tryz.prog 88=true:=kr_
@[go_sem] theorem ty88_e:tElem Tryz.prog 88=some 87:=kr_
@[go_sem] theorem ty88_l:tSlice Tryz.prog 88=some (87,1,8):=kr_
@[go_sem] theorem ty88_u:(Tryz.prog.underlying 88).isSome=true:=kr_
@[go_sem] theorem go52:isGo Tryz.prog 52=true:=kr_
@[go_sem] theorem go53:isGo Tryz.prog 53=true:=kr_
@[go_sem] theorem fr20:Tryz.f20.results.toList=[.cell 4 25,.tmp 5]:=kr_
@[go_sem] theorem fn20:Tryz.f20.ntmps=48:=kr_
@[go_sem] theorem fr21:Tryz.f21.results.toList=[.tmp 4]:=kr_
@[go_sem] theorem fn21:Tryz.f21.ntmps=21:=kr_
@[go_sem] theorem go55:isGo Tryz.prog 55=true:=kr_
@[go_sem] theorem go56:isGo Tryz.prog 56=true:=kr_
@[go_sem] theorem go57:isGo Tryz.prog 57=true:=kr_
@[go_sem] theorem go58:isGo Tryz.prog 58=true:=kr_
@[go_sem] theorem fr24:Tryz.f24.results.toList=[.tmp 4]:=kr_
@[go_sem] theorem fn24:Tryz.f24.ntmps=17:=kr_
@[go_sem] theorem ty95_i:tIsSlice Tryz.prog 95=true:=kr_
@[go_sem] theorem ty95_e:tElem Tryz.prog 95=some 9:=kr_
@[go_sem] theorem ty95_l:tSlice Tryz.prog 95=some (9,1,16):=kr_
@[go_sem] theorem ty95_u:(Tryz.prog.underlying 95).isSome=true:=kr_
@[go_sem] theorem go59:isGo Tryz.prog 59=true:=kr_
@[go_sem] theorem go60:isGo Tryz.prog 60=true:=kr_
@[go_sem] theorem go61:isGo Tryz.prog 61=true:=kr_
@[go_sem] theorem fr25:Tryz.f25.results.toList=[.cell 2 25,.tmp 3]:=kr_
@[go_sem] theorem fn25:Tryz.f25.ntmps=69:=kr_
@[go_sem] theorem fr26:Tryz.f26.results.toList=[.tmp 2]:=kr_
@[go_sem] theorem fn26:Tryz.f26.ntmps=35:=kr_
@[go_sem] theorem go62:isGo Tryz.prog 62=true:=kr_
@[go_sem] theorem fr27:Tryz.f27.results.toList=[.tmp 2]:=kr_
@[go_sem] theorem fn27:Tryz.f27.ntmps=6:=kr_
@[go_sem] theorem fr28:Tryz.f28.results.toList=[.tmp 4]:=kr_
@[go_sem] theorem fn28:Tryz.f28.ntmps=9:=kr_
@[go_sem] theorem go63:isGo Tryz.prog 63=true:=kr_
@[go_sem] theorem fr29:Tryz.f29.results.toList=[.tmp 2]:=kr_
@[go_sem] theorem fn29:Tryz.f29.ntmps=5:=kr_
@[go_sem] theorem fr30:Tryz.f30.results.toList=[.tmp 2]:=kr_
@[go_sem] theorem fn30:Tryz.f30.ntmps=5:=kr_
@[go_sem] theorem tb81:tBuild Tryz.prog 81=some ([.string ⟨#[]⟩,.int .i64 0,.int .i64 0,.int .i64 0,.string ⟨#[]⟩,.slice none 0 0,.slice none 0 0],[(0,1),(1,1),(2,1),(3,4)]):=kr_
@[go_sem] theorem go64:isGo Tryz.prog 64=true:=kr_
@[go_sem] theorem fr31:Tryz.f31.results.toList=[.cell 4 25]:=kr_
@[go_sem] theorem fn31:Tryz.f31.ntmps=98:=kr_
@[go_sem] theorem go65:isGo Tryz.prog 65=true:=kr_
@[go_sem] theorem go66:isGo Tryz.prog 66=true:=kr_
@[go_sem] theorem fr32:Tryz.f32.results.toList=[.tmp 4]:=kr_
@[go_sem] theorem fn32:Tryz.f32.ntmps=25:=kr_
@[go_sem] theorem fr33:Tryz.f33.results.toList=[.tmp 4]:=kr_
@[go_sem] theorem fn33:Tryz.f33.ntmps=11:=kr_
@[go_sem] theorem fr34:Tryz.f34.results.toList=[.tmp 4,.tmp 5]:=kr_
@[go_sem] theorem fn34:Tryz.f34.ntmps=24:=kr_
@[go_sem] theorem go67:isGo Tryz.prog 67=true:=kr_
@[go_sem] theorem fr35:Tryz.f35.results.toList=[.tmp 2]:=kr_
@[go_sem] theorem fn35:Tryz.f35.ntmps=28:=kr_
@[go_sem] theorem fr36:Tryz.f36.results.toList=[.tmp 2]:=kr_
@[go_sem] theorem fn36:Tryz.f36.ntmps=20:=kr_
@[go_sem] theorem go68:isGo Tryz.prog 68=true:=kr_
@[go_sem] theorem go69:isGo Tryz.prog 69=true:=kr_
@[go_sem] theorem go70:isGo Tryz.prog 70=true:=kr_
@[go_sem] theorem go71:isGo Tryz.prog 71=true:=kr_
@[go_sem] theorem go72:isGo Tryz.prog 72=true:=kr_
@[go_sem] theorem fr37:Tryz.f37.results.toList=[.tmp 2]:=kr_
@[go_sem] theorem fn37:Tryz.f37.ntmps=72:=kr_
@[go_sem] theorem tz85:tZero Tryz.prog 85=some [.int .i64 0,.int .i64 0,.string ⟨#[]⟩,.slice none 0 0]:=kr_
@[go_sem] theorem go73:isGo Tryz.prog 73=true:=kr_
@[go_sem] theorem go74:isGo Tryz.prog 74=true:=kr_
@[go_sem] theorem fr38:Tryz.f38.results.toList=[.tmp 2]:=kr_
@[go_sem] theorem fn38:Tryz.f38.ntmps=38:=kr_
@[go_sem] theorem ty111_i:tIsSlice Tryz.prog 111=true:=kr_
@[go_sem] theorem ty111_e:tElem Tryz.prog 111=some 77:=kr_
@[go_sem] theorem ty111_l:tSlice Tryz.prog 111=some (77,1,24):=kr_
@[go_sem] theorem ty111_u:(Tryz.prog.underlying 111).isSome=true:=kr_
@[go_sem] theorem tb37:tBuild Tryz.prog 37=some ([.string ⟨#[]⟩,.slice none 0 0],[(0,1),(1,1)]):=kr_
@[go_sem] theorem tb58:tBuild Tryz.prog 58=some ([.string ⟨#[]⟩,.slice none 0 0,.int .i64 0,.slice none 0 0,.slice none 0 0,.slice none 0 0],[(0,2),(2,1),(3,1),(4,1),(5,1)]):=kr_
@[go_sem] theorem go75:isGo Tryz.prog 75=true:=kr_
@[go_sem] theorem go76:isGo Tryz.prog 76=true:=kr_
@[go_sem] theorem go77:isGo Tryz.prog 77=true:=kr_
@[go_sem] theorem go78:isGo Tryz.prog 78=true:=kr_
@[go_sem] theorem go79:isGo Tryz.prog 79=true:=kr_
@[go_sem] theorem fr40:Tryz.f40.results.toList=[.tmp 4,.tmp 5]:=kr_
@[go_sem] theorem fn40:Tryz.f40.ntmps=185:=kr_
@[go_sem] theorem fr41:Tryz.f41.results.toList=[.tmp 4]:=kr_
@[go_sem] theorem fn41:Tryz.f41.ntmps=58:=kr_
@[go_sem] theorem ty118_a:tAgg Tryz.prog 118=some false:=kr_
@[go_sem] theorem ty118_s:tSize Tryz.prog 118=some 1:=kr_
@[go_sem] theorem tz30:tZero Tryz.prog 30=some [.slice none 0 0]:=kr_
@[go_sem] theorem go80:isGo Tryz.prog 80=true:=kr_
@[go_sem] theorem go82:isGo Tryz.prog 82=true:=kr_
@[go_sem] theorem fr42:Tryz.f42.results.toList=[.tmp 2]:=kr_
@[go_sem] theorem fn42:Tryz.f42.ntmps=40:=kr_
@[go_sem] theorem go83:isGo Tryz.prog 83=true:=kr_
@[go_sem] theorem fr43:Tryz.f43.results.toList=[.tmp 2]:=kr_
@[go_sem] theorem fn43:Tryz.f43.ntmps=15:=kr_
@[go_sem] theorem go84:isGo Tryz.prog 84=true:=kr_
@[go_sem] theorem fr45:Tryz.f45.results.toList=[.tmp 4]:=kr_
@[go_sem] theorem fn45:Tryz.f45.ntmps=17:=kr_
@[go_sem] theorem ty120_a:tAgg Tryz.prog 120=some false:=kr_
@[go_sem] theorem ty120_s:tSize Tryz.prog 120=some 1:=kr_
@[go_sem] theorem go85:isGo Tryz.prog 85=true:=kr_
@[go_sem] theorem fr46:Tryz.f46.results.toList=[.tmp 4]:=kr_
@[go_sem] theorem fn46:Tryz.f46.ntmps=23:=kr_
@[go_sem] theorem go87:isGo Tryz.prog 87=true:=kr_
@[go_sem] theorem fr47:Tryz.f47.results.toList=[.cell 2 25]:=kr_
@[go_sem] theorem fn47:Tryz.f47.ntmps=31:=kr_
@[go_sem] theorem go90:isGo Tryz.prog 90=true:=kr_
@[go_sem] theorem fr50:Tryz.f50.results.toList=[.tmp 2]:=kr_
@[go_sem] theorem fn50:Tryz.f50.ntmps=16:=kr_
@[go_sem] theorem tb85:tBuild Tryz.prog 85=some ([.int .i64 0,.int .i64 0,.string ⟨#[]⟩,.slice none 0 0],[(0,1),(1,1),(2,1),(3,1)]):=kr_
@[go_sem] theorem fr51:Tryz.f51.results.toList=[.cell 2 85]:=kr_
@[go_sem] theorem fn51:Tryz.f51.ntmps=5:=kr_
@[go_sem] theorem fr52:Tryz.f52.results.toList=[.tmp 4]:=kr_
@[go_sem] theorem fn52:Tryz.f52.ntmps=11:=kr_
@[go_sem] theorem ty124_i:tIsSlice Tryz.prog 124=true:=kr_
@[go_sem] theorem ty124_e:tElem Tryz.prog 124=some 126:=kr_
@[go_sem] theorem ty124_l:tSlice Tryz.prog 124=some (126,1,24):=kr_
@[go_sem] theorem ty126_a:tAgg Tryz.prog 126=some false:=kr_
@[go_sem] theorem ty126_s:tSize Tryz.prog 126=some 1:=kr_
@[go_sem] theorem ty126_i:tIsSlice Tryz.prog 126=true:=kr_
@[go_sem] theorem ty126_e:tElem Tryz.prog 126=some 3:=kr_
@[go_sem] theorem ty126_l:tSlice Tryz.prog 126=some (3,1,8):=kr_
@[go_sem] theorem ty126_t:tIsStr Tryz.prog 126=false:=kr_
@[go_sem] theorem ty126_u:(Tryz.prog.underlying 126).isSome=true:=kr_
@[go_sem] theorem go91:isGo Tryz.prog 91=true:=kr_
@[go_sem] theorem fr53:Tryz.f53.results.toList=[.tmp 2]:=kr_
@[go_sem] theorem fn53:Tryz.f53.ntmps=51:=kr_
@[go_sem] theorem fr55:Tryz.f55.results.toList=[.cell 2 37]:=kr_
@[go_sem] theorem fn55:Tryz.f55.ntmps=9:=kr_
@[go_sem] theorem go97:isGo Tryz.prog 97=true:=kr_
@[go_sem] theorem fr56:Tryz.f56.results.toList=[.tmp 2]:=kr_
@[go_sem] theorem fn56:Tryz.f56.ntmps=20:=kr_
@[go_sem] theorem ty134_f0:tField Tryz.prog 134 0=some (0,22):=kr_
@[go_sem] theorem ty134_f1:tField Tryz.prog 134 1=some (1,3):=kr_
@[go_sem] theorem ty134_f2:tField Tryz.prog 134 2=some (2,3):=kr_
@[go_sem] theorem tb134:tBuild Tryz.prog 134=some ([.slice none 0 0,.int .i64 0,.int .i64 0],[(0,1),(1,1),(2,1)]):=kr_
@[go_sem] theorem fr57:Tryz.f57.results.toList=[.tmp 2]:=kr_
@[go_sem] theorem fn57:Tryz.f57.ntmps=32:=kr_
@[go_sem] theorem fr58:Tryz.f58.results.toList=[.tmp 2]:=kr_
@[go_sem] theorem fn58:Tryz.f58.ntmps=58:=kr_
@[go_sem] theorem go98:isGo Tryz.prog 98=true:=kr_
@[go_sem] theorem go99:isGo Tryz.prog 99=true:=kr_
@[go_sem] theorem fr59:Tryz.f59.results.toList=[.tmp 2,.tmp 3]:=kr_
@[go_sem] theorem fn59:Tryz.f59.ntmps=99:=kr_
@[go_sem] theorem go100:isGo Tryz.prog 100=true:=kr_
@[go_sem] theorem go101:isGo Tryz.prog 101=true:=kr_
@[go_sem] theorem go102:isGo Tryz.prog 102=true:=kr_
@[go_sem] theorem fr60:Tryz.f60.results.toList=[.cell 2 81,.tmp 3]:=kr_
@[go_sem] theorem fn60:Tryz.f60.ntmps=99:=kr_
@[go_sem] theorem go103:isGo Tryz.prog 103=true:=kr_
@[go_sem] theorem go104:isGo Tryz.prog 104=true:=kr_
@[go_sem] theorem go105:isGo Tryz.prog 105=true:=kr_
@[go_sem] theorem go106:isGo Tryz.prog 106=true:=kr_
@[go_sem] theorem fr61:Tryz.f61.results.toList=[.tmp 2]:=kr_
@[go_sem] theorem fn61:Tryz.f61.ntmps=60:=kr_
@[go_sem] theorem fr62:Tryz.f62.results.toList=[.tmp 4]:=kr_
@[go_sem] theorem fn62:Tryz.f62.ntmps=12:=kr_
@[go_sem] theorem go107:isGo Tryz.prog 107=true:=kr_
@[go_sem] theorem fr63:Tryz.f63.results.toList=[.tmp 4]:=kr_
@[go_sem] theorem fn63:Tryz.f63.ntmps=23:=kr_
@[go_sem] theorem go108:isGo Tryz.prog 108=true:=kr_
@[go_sem] theorem go109:isGo Tryz.prog 109=true:=kr_
@[go_sem] theorem fr64:Tryz.f64.results.toList=[.cell 10 48]:=kr_
@[go_sem] theorem fn64:Tryz.f64.ntmps=87:=kr_
@[go_sem] theorem go110:isGo Tryz.prog 110=true:=kr_
@[go_sem] theorem go111:isGo Tryz.prog 111=true:=kr_
@[go_sem] theorem fr65:Tryz.f65.results.toList=[.tmp 4]:=kr_
@[go_sem] theorem fn65:Tryz.f65.ntmps=50:=kr_
@[go_sem] theorem go112:isGo Tryz.prog 112=true:=kr_
@[go_sem] theorem go113:isGo Tryz.prog 113=true:=kr_
@[go_sem] theorem fr66:Tryz.f66.results.toList=[.cell 6 85]:=kr_
@[go_sem] theorem fn66:Tryz.f66.ntmps=42:=kr_
@[go_sem] theorem fr67:Tryz.f67.results.toList=[.tmp 4]:=kr_
@[go_sem] theorem fn67:Tryz.f67.ntmps=27:=kr_
@[go_sem] theorem go114:isGo Tryz.prog 114=true:=kr_
@[go_sem] theorem fr68:Tryz.f68.results.toList=[.tmp 2]:=kr_
@[go_sem] theorem fn68:Tryz.f68.ntmps=16:=kr_
@[go_sem] theorem fr69:Tryz.f69.results.toList=[.tmp 4]:=kr_
@[go_sem] theorem fn69:Tryz.f69.ntmps=21:=kr_
@[go_sem] theorem ty151_m:tMap Tryz.prog 151=some (false,.int .i64 0):=kr_
@[go_sem] theorem fr70:Tryz.f70.results.toList=[.tmp 4]:=kr_
@[go_sem] theorem fn70:Tryz.f70.ntmps=142:=kr_
@[go_sem] theorem go115:isGo Tryz.prog 115=true:=kr_
@[go_sem] theorem fr71:Tryz.f71.results.toList=[.tmp 4]:=kr_
@[go_sem] theorem fn71:Tryz.f71.ntmps=18:=kr_
@[go_sem] theorem tz4:tZero Tryz.prog 4=some [.bool false]:=kr_
@[go_sem] theorem go116:isGo Tryz.prog 116=true:=kr_
@[go_sem] theorem fr72:Tryz.f72.results.toList=[.tmp 4]:=kr_
@[go_sem] theorem fn72:Tryz.f72.ntmps=10:=kr_
@[go_sem] theorem go118:isGo Tryz.prog 118=true:=kr_
@[go_sem] theorem fr73:Tryz.f73.results.toList=[.tmp 2]:=kr_
@[go_sem] theorem fn73:Tryz.f73.ntmps=9:=kr_
@[go_sem] theorem go119:isGo Tryz.prog 119=true:=kr_
@[go_sem] theorem fr74:Tryz.f74.results.toList=[.tmp 4]:=kr_
@[go_sem] theorem fn74:Tryz.f74.ntmps=60:=kr_
@[go_sem] theorem fr75:Tryz.f75.results.toList=[.tmp 2,.tmp 3]:=kr_
@[go_sem] theorem fn75:Tryz.f75.ntmps=105:=kr_
@[go_sem] theorem fr76:Tryz.f76.results.toList=[.tmp 6]:=kr_
@[go_sem] theorem fn76:Tryz.f76.ntmps=26:=kr_
@[go_sem] theorem go120:isGo Tryz.prog 120=true:=kr_
@[go_sem] theorem fr77:Tryz.f77.results.toList=[.cell 4 37]:=kr_
@[go_sem] theorem fn77:Tryz.f77.ntmps=28:=kr_
@[go_sem] theorem go121:isGo Tryz.prog 121=true:=kr_
@[go_sem] theorem fr78:Tryz.f78.results.toList=[.tmp 4]:=kr_
@[go_sem] theorem fn78:Tryz.f78.ntmps=32:=kr_
@[go_sem] theorem go122:isGo Tryz.prog 122=true:=kr_
@[go_sem] theorem fr79:Tryz.f79.results.toList=[.tmp 4]:=kr_
@[go_sem] theorem fn79:Tryz.f79.ntmps=83:=kr_
@[go_sem] theorem fr81:Tryz.f81.results.toList=[.tmp 5]:=kr_
@[go_sem] theorem fn81:Tryz.f81.ntmps=16:=kr_
@[go_sem] theorem go127:isGo Tryz.prog 127=true:=kr_
@[go_sem] theorem fr82:Tryz.f82.results.toList=[.tmp 4]:=kr_
@[go_sem] theorem fn82:Tryz.f82.ntmps=20:=kr_
@[go_sem] theorem go128:isGo Tryz.prog 128=true:=kr_
@[go_sem] theorem fr83:Tryz.f83.results.toList=[.tmp 2]:=kr_
@[go_sem] theorem fn83:Tryz.f83.ntmps=6:=kr_
@[go_sem] theorem go129:isGo Tryz.prog 129=true:=kr_
@[go_sem] theorem fr84:Tryz.f84.results.toList=[.tmp 4]:=kr_
@[go_sem] theorem fn84:Tryz.f84.ntmps=27:=kr_
@[go_sem] theorem ty135_n:tInt Tryz.prog 135=some Go.IntKind.u64:=kr_
@[go_sem] theorem ty135_u:(Tryz.prog.underlying 135).isSome=true:=kr_
@[go_sem] theorem fr85:Tryz.f85.results.toList=[.tmp 4]:=kr_
@[go_sem] theorem fn85:Tryz.f85.ntmps=26:=kr_
@[go_sem] theorem fr86:Tryz.f86.results.toList=[.tmp 4]:=kr_
@[go_sem] theorem fn86:Tryz.f86.ntmps=12:=kr_
@[go_sem] theorem fr87:Tryz.f87.results.toList=[.cell 2 48]:=kr_
@[go_sem] theorem fn87:Tryz.f87.ntmps=30:=kr_
@[go_sem] theorem go130:isGo Tryz.prog 130=true:=kr_
@[go_sem] theorem fr90:Tryz.f90.results.toList=[.tmp 2]:=kr_
@[go_sem] theorem fn90:Tryz.f90.ntmps=5:=kr_
@[go_sem] theorem tz87:tZero Tryz.prog 87=some [.map none]:=kr_
@[go_sem] theorem go133:isGo Tryz.prog 133=true:=kr_
@[go_sem] theorem fr91:Tryz.f91.results.toList=[.tmp 2]:=kr_
@[go_sem] theorem fn91:Tryz.f91.ntmps=27:=kr_
@[go_sem] theorem fr97:Tryz.f97.results.toList=[.cell 2 85]:=kr_
@[go_sem] theorem fn97:Tryz.f97.ntmps=25:=kr_
@[go_sem] theorem fr98:Tryz.f98.results.toList=[.tmp 2]:=kr_
@[go_sem] theorem fn98:Tryz.f98.ntmps=21:=kr_
@[go_sem] theorem fr99:Tryz.f99.results.toList=[.tmp 6]:=kr_
@[go_sem] theorem fn99:Tryz.f99.ntmps=15:=kr_
@[go_sem] theorem go137:isGo Tryz.prog 137=true:=kr_
@[go_sem] theorem go138:isGo Tryz.prog 138=true:=kr_
@[go_sem] theorem fr100:Tryz.f100.results.toList=[.tmp 2,.tmp 3,.tmp 4]:=kr_
@[go_sem] theorem fn100:Tryz.f100.ntmps=77:=kr_
@[go_sem] theorem fr101:Tryz.f101.results.toList=[.tmp 2]:=kr_
@[go_sem] theorem fn101:Tryz.f101.ntmps=44:=kr_
@[go_sem] theorem go139:isGo Tryz.prog 139=true:=kr_
@[go_sem] theorem go140:isGo Tryz.prog 140=true:=kr_
@[go_sem] theorem fr102:Tryz.f102.results.toList=[.cell 4 48,.tmp 5,.tmp 6]:=kr_
@[go_sem] theorem fn102:Tryz.f102.ntmps=152:=kr_
@[go_sem] theorem fr103:Tryz.f103.results.toList=[.tmp 4]:=kr_
@[go_sem] theorem fn103:Tryz.f103.ntmps=21:=kr_
@[go_sem] theorem fr104:Tryz.f104.results.toList=[.tmp 2]:=kr_
@[go_sem] theorem fn104:Tryz.f104.ntmps=17:=kr_
@[go_sem] theorem go141:isGo Tryz.prog 141=true:=kr_
@[go_sem] theorem go142:isGo Tryz.prog 142=true:=kr_
@[go_sem] theorem go143:isGo Tryz.prog 143=true:=kr_
@[go_sem] theorem fr105:Tryz.f105.results.toList=[.tmp 6]:=kr_
@[go_sem] theorem fn105:Tryz.f105.ntmps=32:=kr_
@[go_sem] theorem go144:isGo Tryz.prog 144=true:=kr_
@[go_sem] theorem fr106:Tryz.f106.results.toList=[.tmp 2]:=kr_
@[go_sem] theorem fn106:Tryz.f106.ntmps=8:=kr_
@[go_sem] theorem fr107:Tryz.f107.results.toList=[.tmp 4]:=kr_
@[go_sem] theorem fn107:Tryz.f107.ntmps=31:=kr_
@[go_sem] theorem go145:isGo Tryz.prog 145=true:=kr_
@[go_sem] theorem fr108:Tryz.f108.results.toList=[.cell 6 48]:=kr_
@[go_sem] theorem fn108:Tryz.f108.ntmps=54:=kr_
@[go_sem] theorem fr109:Tryz.f109.results.toList=[.cell 6 48]:=kr_
@[go_sem] theorem fn109:Tryz.f109.ntmps=11:=kr_
@[go_sem] theorem go146:isGo Tryz.prog 146=true:=kr_
@[go_sem] theorem fr110:Tryz.f110.results.toList=[.tmp 4]:=kr_
@[go_sem] theorem fn110:Tryz.f110.ntmps=68:=kr_
@[go_sem] theorem fr111:Tryz.f111.results.toList=[.tmp 4]:=kr_
@[go_sem] theorem fn111:Tryz.f111.ntmps=9:=kr_
@[go_sem] theorem fr112:Tryz.f112.results.toList=[.cell 4 85]:=kr_
@[go_sem] theorem fn112:Tryz.f112.ntmps=9:=kr_
@[go_sem] theorem go147:isGo Tryz.prog 147=true:=kr_
@[go_sem] theorem fr113:Tryz.f113.results.toList=[.cell 2 85]:=kr_
@[go_sem] theorem fn113:Tryz.f113.ntmps=19:=kr_
@[go_sem] theorem fr114:Tryz.f114.results.toList=[.tmp 2]:=kr_
@[go_sem] theorem fn114:Tryz.f114.ntmps=57:=kr_
@[go_sem] theorem fr115:Tryz.f115.results.toList=[.tmp 2]:=kr_
@[go_sem] theorem fn115:Tryz.f115.ntmps=10:=kr_
@[go_sem] theorem fr116:Tryz.f116.results.toList=[]:=kr_
@[go_sem] theorem fn116:Tryz.f116.ntmps=20:=kr_
@[go_sem] theorem fr117:Tryz.f117.results.toList=[]:=kr_
@[go_sem] theorem fn117:Tryz.f117.ntmps=26:=kr_
@[go_sem] theorem go149:isGo Tryz.prog 149=true:=kr_
@[go_sem] theorem fr118:Tryz.f118.results.toList=[.tmp 2]:=kr_
@[go_sem] theorem fn118:Tryz.f118.ntmps=8:=kr_
@[go_sem] theorem fr119:Tryz.f119.results.toList=[.tmp 4]:=kr_
@[go_sem] theorem fn119:Tryz.f119.ntmps=11:=kr_
@[go_sem] theorem go152:isGo Tryz.prog 152=true:=kr_
@[go_sem] theorem fr120:Tryz.f120.results.toList=[.cell 4 85]:=kr_
@[go_sem] theorem fn120:Tryz.f120.ntmps=8:=kr_
@[go_sem] theorem fr121:Tryz.f121.results.toList=[.tmp 4]:=kr_
@[go_sem] theorem fn121:Tryz.f121.ntmps=9:=kr_
@[go_sem] theorem fr122:Tryz.f122.results.toList=[.tmp 4]:=kr_
@[go_sem] theorem fn122:Tryz.f122.ntmps=31:=kr_
@[go_sem] theorem ty163_a:tAgg Tryz.prog 163=some false:=kr_
@[go_sem] theorem ty163_s:tSize Tryz.prog 163=some 1:=kr_
@[go_sem] theorem ty167_a:tAgg Tryz.prog 167=some true:=kr_
@[go_sem] theorem ty167_s:tSize Tryz.prog 167=some 2:=kr_
@[go_sem] theorem ty167_f0:tField Tryz.prog 167 0=some (0,118):=kr_
@[go_sem] theorem ty167_f1:tField Tryz.prog 167 1=some (1,163):=kr_
@[go_sem] theorem go163:isGo Tryz.prog 163=true:=kr_
@[go_sem] theorem go164:isGo Tryz.prog 164=true:=kr_
@[go_sem] theorem fr125:Tryz.f125.results.toList=[]:=kr_
@[go_sem] theorem fn125:Tryz.f125.ntmps=57:=kr_
@[go_sem] theorem fr127:Tryz.f127.results.toList=[.tmp 4]:=kr_
@[go_sem] theorem fn127:Tryz.f127.ntmps=36:=kr_
@[go_sem] theorem fr128:Tryz.f128.results.toList=[.tmp 4]:=kr_
@[go_sem] theorem fn128:Tryz.f128.ntmps=107:=kr_
@[go_sem] theorem fr129:Tryz.f129.results.toList=[.tmp 4]:=kr_
@[go_sem] theorem fn129:Tryz.f129.ntmps=52:=kr_
@[go_sem] theorem fr130:Tryz.f130.results.toList=[.tmp 4]:=kr_
@[go_sem] theorem fn130:Tryz.f130.ntmps=10:=kr_
@[go_sem] theorem fr131:Tryz.f131.results.toList=[.tmp 2]:=kr_
@[go_sem] theorem fn131:Tryz.f131.ntmps=5:=kr_
@[go_sem] theorem fr132:Tryz.f132.results.toList=[]:=kr_
@[go_sem] theorem fn132:Tryz.f132.ntmps=12:=kr_
@[go_sem] theorem go166:isGo Tryz.prog 166=true:=kr_
@[go_sem] theorem fr133:Tryz.f133.results.toList=[.tmp 2]:=kr_
@[go_sem] theorem fn133:Tryz.f133.ntmps=19:=kr_
@[go_sem] theorem go167:isGo Tryz.prog 167=true:=kr_
@[go_sem] theorem go168:isGo Tryz.prog 168=true:=kr_
@[go_sem] theorem fr137:Tryz.f137.results.toList=[.tmp 2,.tmp 3]:=kr_
@[go_sem] theorem fn137:Tryz.f137.ntmps=65:=kr_
@[go_sem] theorem fr138:Tryz.f138.results.toList=[.tmp 2]:=kr_
@[go_sem] theorem fn138:Tryz.f138.ntmps=44:=kr_
@[go_sem] theorem fr139:Tryz.f139.results.toList=[.tmp 0]:=kr_
@[go_sem] theorem fn139:Tryz.f139.ntmps=2:=kr_
@[go_sem] theorem go171:isGo Tryz.prog 171=true:=kr_
@[go_sem] theorem go172:isGo Tryz.prog 172=true:=kr_
@[go_sem] theorem fr140:Tryz.f140.results.toList=[.cell 4 85,.tmp 5,.tmp 6]:=kr_
@[go_sem] theorem fn140:Tryz.f140.ntmps=136:=kr_
@[go_sem] theorem go173:isGo Tryz.prog 173=true:=kr_
@[go_sem] theorem fr141:Tryz.f141.results.toList=[.tmp 2]:=kr_
@[go_sem] theorem fn141:Tryz.f141.ntmps=10:=kr_
@[go_sem] theorem fr142:Tryz.f142.results.toList=[.tmp 4]:=kr_
@[go_sem] theorem fn142:Tryz.f142.ntmps=41:=kr_
@[go_sem] theorem fr143:Tryz.f143.results.toList=[.tmp 4]:=kr_
@[go_sem] theorem fn143:Tryz.f143.ntmps=32:=kr_
@[go_sem] theorem fr144:Tryz.f144.results.toList=[.tmp 4]:=kr_
@[go_sem] theorem fn144:Tryz.f144.ntmps=28:=kr_
@[go_sem] theorem fr145:Tryz.f145.results.toList=[.cell 2 85]:=kr_
@[go_sem] theorem fn145:Tryz.f145.ntmps=5:=kr_
@[go_sem] theorem fr146:Tryz.f146.results.toList=[.tmp 2]:=kr_
@[go_sem] theorem fn146:Tryz.f146.ntmps=4:=kr_
@[go_sem] theorem fr147:Tryz.f147.results.toList=[.cell 2 85]:=kr_
@[go_sem] theorem fn147:Tryz.f147.ntmps=5:=kr_
@[go_sem] theorem fr148:Tryz.f148.results.toList=[]:=kr_
@[go_sem] theorem fn148:Tryz.f148.ntmps=16:=kr_
@[go_sem] theorem fr149:Tryz.f149.results.toList=[]:=kr_
@[go_sem] theorem fn149:Tryz.f149.ntmps=26:=kr_
@[go_sem] theorem fr150:Tryz.f150.results.toList=[]:=kr_
@[go_sem] theorem fn150:Tryz.f150.ntmps=5:=kr_
@[go_sem] theorem fr151:Tryz.f151.results.toList=[]:=kr_
@[go_sem] theorem fn151:Tryz.f151.ntmps=3:=kr_
@[go_sem] theorem go174:isGo Tryz.prog 174=true:=kr_
@[go_sem] theorem fr152:Tryz.f152.results.toList=[.cell 4 85]:=kr_
@[go_sem] theorem fn152:Tryz.f152.ntmps=38:=kr_
@[go_sem] theorem fr153:Tryz.f153.results.toList=[.cell 3 85,.tmp 4]:=kr_
@[go_sem] theorem fn153:Tryz.f153.ntmps=9:=kr_
@[go_sem] theorem fr163:Tryz.f163.results.toList=[]:=kr_
@[go_sem] theorem fn163:Tryz.f163.ntmps=35:=kr_
@[go_sem] theorem go175:isGo Tryz.prog 175=true:=kr_
@[go_sem] theorem fr164:Tryz.f164.results.toList=[]:=kr_
@[go_sem] theorem fn164:Tryz.f164.ntmps=177:=kr_
@[go_sem] theorem fr165:Tryz.f165.results.toList=[]:=kr_
@[go_sem] theorem fn165:Tryz.f165.ntmps=11:=kr_
@[go_sem] theorem go177:isGo Tryz.prog 177=true:=kr_
@[go_sem] theorem go178:isGo Tryz.prog 178=true:=kr_
@[go_sem] theorem fr167:Tryz.f167.results.toList=[.tmp 2]:=kr_
@[go_sem] theorem fn167:Tryz.f167.ntmps=10:=kr_
@[go_sem] theorem go179:isGo Tryz.prog 179=true:=kr_
@[go_sem] theorem fr168:Tryz.f168.results.toList=[.tmp 4]:=kr_
@[go_sem] theorem fn168:Tryz.f168.ntmps=26:=kr_
@[go_sem] theorem fr171:Tryz.f171.results.toList=[.cell 2 85,.tmp 3]:=kr_
@[go_sem] theorem fn171:Tryz.f171.ntmps=39:=kr_
@[go_sem] theorem fr172:Tryz.f172.results.toList=[.cell 4 85]:=kr_
@[go_sem] theorem fn172:Tryz.f172.ntmps=20:=kr_
@[go_sem] theorem go180:isGo Tryz.prog 180=true:=kr_
@[go_sem] theorem fr173:Tryz.f173.results.toList=[.tmp 2]:=kr_
@[go_sem] theorem fn173:Tryz.f173.ntmps=106:=kr_
@[go_sem] theorem fr174:Tryz.f174.results.toList=[.cell 4 85]:=kr_
@[go_sem] theorem fn174:Tryz.f174.ntmps=9:=kr_
@[go_sem] theorem go181:isGo Tryz.prog 181=true:=kr_
@[go_sem] theorem fr175:Tryz.f175.results.toList=[]:=kr_
@[go_sem] theorem fn175:Tryz.f175.ntmps=53:=kr_
@[go_sem] theorem fr177:Tryz.f177.results.toList=[.tmp 4]:=kr_
@[go_sem] theorem fn177:Tryz.f177.ntmps=28:=kr_
@[go_sem] theorem fr178:Tryz.f178.results.toList=[.tmp 2]:=kr_
@[go_sem] theorem fn178:Tryz.f178.ntmps=76:=kr_
@[go_sem] theorem fr179:Tryz.f179.results.toList=[.tmp 4]:=kr_
@[go_sem] theorem fn179:Tryz.f179.ntmps=49:=kr_
@[go_sem] theorem fr180:Tryz.f180.results.toList=[.tmp 2]:=kr_
@[go_sem] theorem fn180:Tryz.f180.ntmps=15:=kr_
@[go_sem] theorem fr181:Tryz.f181.results.toList=[]:=kr_
@[go_sem] theorem fn181:Tryz.f181.ntmps=23:=kr_
end Go.Proofs.YtlajhmoomlgopaaGreat
