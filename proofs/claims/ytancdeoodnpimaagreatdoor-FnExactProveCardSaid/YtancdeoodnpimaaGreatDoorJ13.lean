import Derived.Test.YtancdeoodnpimaaGreatDoorJ12
import Derived.Test.YtancdeoodnpimaaGreatDoorProg
import Derived.KernelRfl
namespace Go.Proofs.YtancdeoodnpimaaGreatDoor
open Go.Abs
theorem mixed:Tryz.prog.follows .mixedOrders=true:=by kernel_rfl
theorem kr_ {α:Sort _}{a b:α}(h:a=b:=by kernel_rfl):a=b:=h
theorem A7 {p:Prop}(h:p:=by refine ⟨by simp [mkS],by simp [mkS],by simp only [mkS,List.all_cons,List.all_nil,O.refsLt,C.refsLt,C.refsLt1,l8];first | done | rfl | (simp;done),?_⟩;simp [mkS,Abs.get,C.refsLtT,C.refsLt,C.refsLt1]):p:=h
theorem ag3 {p:Prop}(h:p:=by refine ⟨by simp [mkS,h.len],by simp only [mkS,List.length_append,List.length_cons,List.length_nil,h.len,h.tkj,h.tk0,h.tk];first | done | rfl | (simp;done),by simp [mkS,O.refsLt,C.refsLt,C.refsLt1,h.len,h.refs,h.refsj,h.hcaps,h.capsj,h.hcaps2,h.capsj2,l8,O4,-List.all_eq_true],?_⟩;simp [mkS,Abs.get,C.refsLtT,C.refsLt,C.refsLt1,h.len,h.hcaps,h.capsj,h.hcaps2,h.capsj2,-List.all_eq_true]):p:=h
theorem I4 {p:Prop}(h:p:=by refine ⟨by simp [mkS],by simp [mkS],by simp [mkS,O.refsLt,C.refsLt,C.refsLt1],?_⟩;simp [mkS,Abs.get,C.refsLtT,C.refsLt,C.refsLt1]):p:=h
theorem bN6 {p:Prop}(h:p:=by refine ⟨by simp [mkS,h.len],by simp only [mkS,List.length_append,List.length_cons,List.length_nil,h.len,h.tkj,h.tk0,h.tk];first | done | rfl | (simp;done),by simp [mkS,O.refsLt,C.refsLt,C.refsLt1,h.len,h.refs,h.refsj,l8,O4,-List.all_eq_true],?_⟩;simp [mkS,Abs.get,C.refsLtT,C.refsLt,C.refsLt1,h.len,h.hcaps,h.capsj,-List.all_eq_true]):p:=h
theorem bE4 {p:Prop}(h:p:=by refine ⟨by simp [mkS],by simp [mkS],by simp [mkS,O.refsLt],?_⟩;simp [mkS,Abs.get,C.refsLtT,C.refsLt,C.refsLt1]):p:=h
theorem rS_ {f:FuncId}{n n0:Nat}{R:C->List O->Prop}{fn:Func}(hf:Tryz.prog.funcs[f]? = some fn){k:List Item}{s:St}(h:run Tryz.prog f n n0 R fn.results.toList 200 k s)(hk:k.all ah5=true:=by kernel_rfl):AW Tryz.prog f n n0 R k s:=l7 hf mixed 200 k s hk h
theorem aE_ {f:FuncId}{fn:Func}{c:Code}{args:List C}{H:List O}{R:C->List O->Prop}(hf:Tryz.prog.funcs[f]? = some fn)(h:AW Tryz.prog f fn.ntmps H.length R [.code c] ⟨(List.range args.length).zip args,H⟩)(hb:fn.body=some c:=by rfl)(hn:args.length<=fn.ntmps:=by exact Nat.le_of_ble_eq_true rfl):ACalls Tryz.prog f args H R:=ACalls.enter hf hb hn h
@[go_sem] theorem cx8:tAgg Tryz.prog 3=some false:=kr_
@[go_sem] theorem cx6:y5 Tryz.prog 3=some 1:=kr_
@[go_sem] theorem cx7:bF9 Tryz.prog 3=some Go.IntKind.i64:=kr_
@[go_sem] theorem cx5:(Tryz.prog.underlying 3).isSome=true:=kr_
@[go_sem] theorem cx4:tAgg Tryz.prog 4=some false:=kr_
@[go_sem] theorem cx3:y5 Tryz.prog 4=some 1:=kr_
@[go_sem] theorem cx2:Tryz.prog.underlying 4=some .bool:=kr_
@[go_sem] theorem cw9:tAgg Tryz.prog 9=some false:=kr_
@[go_sem] theorem cw7:y5 Tryz.prog 9=some 1:=kr_
@[go_sem] theorem cw6:F9 Tryz.prog 9=true:=kr_
@[go_sem] theorem cw8:p9 Tryz.prog 9=false:=kr_
@[go_sem] theorem cw5:(Tryz.prog.underlying 9).isSome=true:=kr_
@[go_sem] theorem cu7:tAgg Tryz.prog 22=some false:=kr_
@[go_sem] theorem cu4:y5 Tryz.prog 22=some 1:=kr_
@[go_sem] theorem cu5:p9 Tryz.prog 22=true:=kr_
@[go_sem] theorem cu6:N7 Tryz.prog 22=some 90:=kr_
@[go_sem] theorem cu3:tAgg Tryz.prog 24=some true:=kr_
@[go_sem] theorem cu2:y5 Tryz.prog 24=some 1:=kr_
@[go_sem] theorem cc4:u6 Tryz.prog 24 0=some (0,22):=kr_
@[go_sem] theorem cu1:tAgg Tryz.prog 25=some false:=kr_
@[go_sem] theorem ct8:y5 Tryz.prog 25=some 1:=kr_
@[go_sem] theorem ct9:p9 Tryz.prog 25=true:=kr_
@[go_sem] theorem cu0:N7 Tryz.prog 25=some 57:=kr_
@[go_sem] theorem ct7:tAgg Tryz.prog 27=some true:=kr_
@[go_sem] theorem ct6:y5 Tryz.prog 27=some 2:=kr_
@[go_sem] theorem cc3:u6 Tryz.prog 27 0=some (0,9):=kr_
@[go_sem] theorem cc2:u6 Tryz.prog 27 1=some (1,25):=kr_
@[go_sem] theorem ct5:tAgg Tryz.prog 31=some false:=kr_
@[go_sem] theorem ct1:y5 Tryz.prog 31=some 1:=kr_
@[go_sem] theorem ct3:p9 Tryz.prog 31=true:=kr_
@[go_sem] theorem ct4:N7 Tryz.prog 31=some 66:=kr_
@[go_sem] theorem ct2:y8 Tryz.prog 31=some (66,4,56):=kr_
@[go_sem] theorem ct0:F9 Tryz.prog 31=false:=kr_
@[go_sem] theorem cs9:(Tryz.prog.underlying 31).isSome=true:=kr_
@[go_sem] theorem cs8:tAgg Tryz.prog 32=some false:=kr_
@[go_sem] theorem cs4:y5 Tryz.prog 32=some 1:=kr_
@[go_sem] theorem cs6:p9 Tryz.prog 32=true:=kr_
@[go_sem] theorem cs7:N7 Tryz.prog 32=some 34:=kr_
@[go_sem] theorem cs5:y8 Tryz.prog 32=some (34,4,72):=kr_
@[go_sem] theorem cs3:F9 Tryz.prog 32=false:=kr_
@[go_sem] theorem cr9:(Tryz.prog.underlying 32).isSome=true:=kr_
@[go_sem] theorem cr8:tAgg Tryz.prog 34=some true:=kr_
@[go_sem] theorem cr7:y5 Tryz.prog 34=some 4:=kr_
@[go_sem] theorem cc1:u6 Tryz.prog 34 0=some (0,9):=kr_
@[go_sem] theorem cc0:u6 Tryz.prog 34 1=some (1,3):=kr_
@[go_sem] theorem cb9:u6 Tryz.prog 34 2=some (2,31):=kr_
@[go_sem] theorem cb8:u6 Tryz.prog 34 3=some (3,32):=kr_
@[go_sem] theorem cr6:tAgg Tryz.prog 37=some false:=kr_
@[go_sem] theorem cr2:y5 Tryz.prog 37=some 1:=kr_
@[go_sem] theorem cr4:p9 Tryz.prog 37=true:=kr_
@[go_sem] theorem cr5:N7 Tryz.prog 37=some 97:=kr_
@[go_sem] theorem cr3:y8 Tryz.prog 37=some (97,7,104):=kr_
@[go_sem] theorem cr1:tAgg Tryz.prog 39=some true:=kr_
@[go_sem] theorem cr0:y5 Tryz.prog 39=some 1:=kr_
@[go_sem] theorem cb7:u6 Tryz.prog 39 0=some (0,37):=kr_
@[go_sem] theorem cq9:tAgg Tryz.prog 43=some true:=kr_
@[go_sem] theorem cq8:y5 Tryz.prog 43=some 2:=kr_
@[go_sem] theorem cb6:u6 Tryz.prog 43 0=some (0,9):=kr_
@[go_sem] theorem cb5:u6 Tryz.prog 43 1=some (1,31):=kr_
@[go_sem] theorem cq7:tAgg Tryz.prog 57=some true:=kr_
@[go_sem] theorem cq6:y5 Tryz.prog 57=some 4:=kr_
@[go_sem] theorem cb4:u6 Tryz.prog 57 0=some (0,3):=kr_
@[go_sem] theorem cb3:u6 Tryz.prog 57 1=some (1,3):=kr_
@[go_sem] theorem cb2:u6 Tryz.prog 57 2=some (2,9):=kr_
@[go_sem] theorem cb1:u6 Tryz.prog 57 3=some (3,25):=kr_
@[go_sem] theorem cp3:tAgg Tryz.prog 66=some true:=kr_
@[go_sem] theorem cp1:y5 Tryz.prog 66=some 4:=kr_
@[go_sem] theorem cb0:u6 Tryz.prog 66 0=some (0,3):=kr_
@[go_sem] theorem ca9:u6 Tryz.prog 66 1=some (1,3):=kr_
@[go_sem] theorem ca7:u6 Tryz.prog 66 2=some (2,9):=kr_
@[go_sem] theorem ca6:u6 Tryz.prog 66 3=some (3,31):=kr_
@[go_sem] theorem co7:tAgg Tryz.prog 86=some false:=kr_
@[go_sem] theorem co4:y5 Tryz.prog 86=some 1:=kr_
@[go_sem] theorem co5:p9 Tryz.prog 86=true:=kr_
@[go_sem] theorem co6:N7 Tryz.prog 86=some 88:=kr_
@[go_sem] theorem co3:tAgg Tryz.prog 88=some true:=kr_
@[go_sem] theorem co2:y5 Tryz.prog 88=some 4:=kr_
@[go_sem] theorem ca2:u6 Tryz.prog 88 0=some (0,3):=kr_
@[go_sem] theorem ca1:u6 Tryz.prog 88 1=some (1,9):=kr_
@[go_sem] theorem ca0:u6 Tryz.prog 88 2=some (2,25):=kr_
@[go_sem] theorem bZ9:u6 Tryz.prog 88 3=some (3,86):=kr_
@[go_sem] theorem co1:tAgg Tryz.prog 90=some true:=kr_
@[go_sem] theorem co0:y5 Tryz.prog 90=some 7:=kr_
@[go_sem] theorem bZ8:u6 Tryz.prog 90 0=some (0,9):=kr_
@[go_sem] theorem bZ7:u6 Tryz.prog 90 1=some (1,3):=kr_
@[go_sem] theorem bZ6:u6 Tryz.prog 90 2=some (2,3):=kr_
@[go_sem] theorem bZ5:u6 Tryz.prog 90 3=some (3,88):=kr_
@[go_sem] theorem cn9:tAgg Tryz.prog 93=some false:=kr_
@[go_sem] theorem cn5:y5 Tryz.prog 93=some 1:=kr_
@[go_sem] theorem cn7:p9 Tryz.prog 93=true:=kr_
@[go_sem] theorem cn8:N7 Tryz.prog 93=some 95:=kr_
@[go_sem] theorem cn6:y8 Tryz.prog 93=some (95,4,72):=kr_
@[go_sem] theorem cn4:F9 Tryz.prog 93=false:=kr_
@[go_sem] theorem cn3:(Tryz.prog.underlying 93).isSome=true:=kr_
@[go_sem] theorem cn2:tAgg Tryz.prog 95=some true:=kr_
@[go_sem] theorem cn1:y5 Tryz.prog 95=some 4:=kr_
@[go_sem] theorem bZ4:u6 Tryz.prog 95 0=some (0,3):=kr_
@[go_sem] theorem bZ3:u6 Tryz.prog 95 1=some (1,9):=kr_
@[go_sem] theorem bZ2:u6 Tryz.prog 95 2=some (2,31):=kr_
@[go_sem] theorem bZ1:u6 Tryz.prog 95 3=some (3,93):=kr_
@[go_sem] theorem cn0:tAgg Tryz.prog 97=some true:=kr_
@[go_sem] theorem cm9:y5 Tryz.prog 97=some 7:=kr_
@[go_sem] theorem bZ0:u6 Tryz.prog 97 0=some (0,9):=kr_
@[go_sem] theorem bY9:u6 Tryz.prog 97 1=some (1,3):=kr_
@[go_sem] theorem bY8:u6 Tryz.prog 97 2=some (2,3):=kr_
@[go_sem] theorem bY7:u6 Tryz.prog 97 3=some (3,95):=kr_
@[go_sem] theorem bM6:P5 Tryz.prog 34=some [.string ⟨#[]⟩,.int .i64 0,.slice none 0 0,.slice none 0 0]:=kr_
@[go_sem] theorem tz39:P5 Tryz.prog 39=some [.slice none 0 0]:=kr_
@[go_sem] theorem tz43:P5 Tryz.prog 43=some [.string ⟨#[]⟩,.slice none 0 0]:=kr_
@[go_sem] theorem go4:isGo Tryz.prog 4=true:=kr_
@[go_sem] theorem go5:isGo Tryz.prog 5=true:=kr_
@[go_sem] theorem go6:isGo Tryz.prog 6=true:=kr_
@[go_sem] theorem go7:isGo Tryz.prog 7=true:=kr_
@[go_sem] theorem go8:isGo Tryz.prog 8=true:=kr_
@[go_sem] theorem go9:isGo Tryz.prog 9=true:=kr_
@[go_sem] theorem go10:isGo Tryz.prog 10=true:=kr_
@[go_sem] theorem go11:isGo Tryz.prog 11=true:=kr_
@[go_sem] theorem go12:isGo Tryz.prog 12=true:=kr_
@[go_sem] theorem go13:isGo Tryz.prog 13=true:=kr_
@[go_sem] theorem go14:isGo Tryz.prog 14=true:=kr_
@[go_sem] theorem go15:isGo Tryz.prog 15=true:=kr_
@[go_sem] theorem go16:isGo Tryz.prog 16=true:=kr_
@[go_sem] theorem go17:isGo Tryz.prog 17=true:=kr_
@[go_sem] theorem go18:isGo Tryz.prog 18=true:=kr_
@[go_sem] theorem go19:isGo Tryz.prog 19=true:=kr_
@[go_sem] theorem go20:isGo Tryz.prog 20=true:=kr_
@[go_sem] theorem fr3:Tryz.f3.results.toList=[.tmp 6]:=kr_
@[go_sem] theorem fn3:Tryz.f3.ntmps=142:=kr_
@[go_sem] theorem go21:isGo Tryz.prog 21=true:=kr_
@[go_sem] theorem fr4:Tryz.f4.results.toList=[.tmp 4]:=kr_
@[go_sem] theorem fn4:Tryz.f4.ntmps=12:=kr_
@[go_sem] theorem go22:isGo Tryz.prog 22=true:=kr_
@[go_sem] theorem fr5:Tryz.f5.results.toList=[.tmp 4]:=kr_
@[go_sem] theorem fn5:Tryz.f5.ntmps=27:=kr_
@[go_sem] theorem fr6:Tryz.f6.results.toList=[.tmp 4]:=kr_
@[go_sem] theorem fn6:Tryz.f6.ntmps=19:=kr_
@[go_sem] theorem cq5:tAgg Tryz.prog 58=some false:=kr_
@[go_sem] theorem cq1:y5 Tryz.prog 58=some 1:=kr_
@[go_sem] theorem cq3:p9 Tryz.prog 58=true:=kr_
@[go_sem] theorem cq4:N7 Tryz.prog 58=some 101:=kr_
@[go_sem] theorem cq2:y8 Tryz.prog 58=some (101,6,120):=kr_
@[go_sem] theorem cq0:(Tryz.prog.underlying 58).isSome=true:=kr_
@[go_sem] theorem cp9:tAgg Tryz.prog 59=some false:=kr_
@[go_sem] theorem cp5:y5 Tryz.prog 59=some 1:=kr_
@[go_sem] theorem cp7:p9 Tryz.prog 59=true:=kr_
@[go_sem] theorem cp8:N7 Tryz.prog 59=some 99:=kr_
@[go_sem] theorem cp6:y8 Tryz.prog 59=some (99,1,24):=kr_
@[go_sem] theorem cp4:(Tryz.prog.underlying 59).isSome=true:=kr_
@[go_sem] theorem cm8:tAgg Tryz.prog 99=some false:=kr_
@[go_sem] theorem cm4:y5 Tryz.prog 99=some 1:=kr_
@[go_sem] theorem cm6:p9 Tryz.prog 99=true:=kr_
@[go_sem] theorem cm7:N7 Tryz.prog 99=some 43:=kr_
@[go_sem] theorem cm5:y8 Tryz.prog 99=some (43,2,40):=kr_
@[go_sem] theorem cm3:F9 Tryz.prog 99=false:=kr_
@[go_sem] theorem cm2:(Tryz.prog.underlying 99).isSome=true:=kr_
@[go_sem] theorem cg9:tAgg Tryz.prog 101=some true:=kr_
@[go_sem] theorem cg8:y5 Tryz.prog 101=some 6:=kr_
@[go_sem] theorem bW0:u6 Tryz.prog 101 0=some (0,43):=kr_
@[go_sem] theorem bV9:u6 Tryz.prog 101 1=some (2,3):=kr_
@[go_sem] theorem bV8:u6 Tryz.prog 101 2=some (3,31):=kr_
@[go_sem] theorem bV7:u6 Tryz.prog 101 3=some (4,99):=kr_
@[go_sem] theorem bV6:u6 Tryz.prog 101 4=some (5,99):=kr_
@[go_sem] theorem tb34:aa2 Tryz.prog 34=some ([.string ⟨#[]⟩,.int .i64 0,.slice none 0 0,.slice none 0 0],[(0,1),(1,1),(2,1),(3,1)]):=kr_
@[go_sem] theorem go23:isGo Tryz.prog 23=true:=kr_
@[go_sem] theorem go24:isGo Tryz.prog 24=true:=kr_
@[go_sem] theorem go25:isGo Tryz.prog 25=true:=kr_
@[go_sem] theorem fr7:Tryz.f7.results.toList=[.cell 6 34,.tmp 7]:=kr_
@[go_sem] theorem fn7:Tryz.f7.ntmps=33:=kr_
@[go_sem] theorem go26:isGo Tryz.prog 26=true:=kr_
@[go_sem] theorem fr8:Tryz.f8.results.toList=[.cell 2 39]:=kr_
@[go_sem] theorem fn8:Tryz.f8.ntmps=9:=kr_
@[go_sem] theorem tz66:P5 Tryz.prog 66=some [.int .i64 0,.int .i64 0,.string ⟨#[]⟩,.slice none 0 0]:=kr_
@[go_sem] theorem go27:isGo Tryz.prog 27=true:=kr_
@[go_sem] theorem fr9:Tryz.f9.results.toList=[.tmp 2]:=kr_
@[go_sem] theorem fn9:Tryz.f9.ntmps=23:=kr_
@[go_sem] theorem fr10:Tryz.f10.results.toList=[.cell 2 43]:=kr_
@[go_sem] theorem fn10:Tryz.f10.ntmps=12:=kr_
@[go_sem] theorem cp0:tAgg Tryz.prog 73=some false:=kr_
@[go_sem] theorem co8:y5 Tryz.prog 73=some 1:=kr_
@[go_sem] theorem co9:bj2 Tryz.prog 73=some (true,.int .i64 0):=kr_
@[go_sem] theorem ca5:u6 Tryz.prog 75 0=some (0,58):=kr_
@[go_sem] theorem ca4:u6 Tryz.prog 75 1=some (1,59):=kr_
@[go_sem] theorem ca3:u6 Tryz.prog 75 2=some (2,73):=kr_
@[go_sem] theorem tb75:aa2 Tryz.prog 75=some ([.slice none 0 0,.slice none 0 0,.map none],[(0,1),(1,1),(2,1)]):=kr_
@[go_sem] theorem go28:isGo Tryz.prog 28=true:=kr_
@[go_sem] theorem go29:isGo Tryz.prog 29=true:=kr_
@[go_sem] theorem go30:isGo Tryz.prog 30=true:=kr_
@[go_sem] theorem go31:isGo Tryz.prog 31=true:=kr_
@[go_sem] theorem go32:isGo Tryz.prog 32=true:=kr_
@[go_sem] theorem go33:isGo Tryz.prog 33=true:=kr_
@[go_sem] theorem fr11:Tryz.f11.results.toList=[.cell 6 34,.tmp 7]:=kr_
@[go_sem] theorem fn11:Tryz.f11.ntmps=49:=kr_
@[go_sem] theorem go34:isGo Tryz.prog 34=true:=kr_
@[go_sem] theorem fr12:Tryz.f12.results.toList=[.tmp 4]:=kr_
@[go_sem] theorem fn12:Tryz.f12.ntmps=27:=kr_
@[go_sem] theorem go35:isGo Tryz.prog 35=true:=kr_
@[go_sem] theorem fr13:Tryz.f13.results.toList=[.tmp 4]:=kr_
@[go_sem] theorem fn13:Tryz.f13.ntmps=11:=kr_
@[go_sem] theorem go36:isGo Tryz.prog 36=true:=kr_
@[go_sem] theorem fr14:Tryz.f14.results.toList=[.tmp 4]:=kr_
@[go_sem] theorem fn14:Tryz.f14.ntmps=27:=kr_
@[go_sem] theorem fr15:Tryz.f15.results.toList=[.tmp 4]:=kr_
@[go_sem] theorem fn15:Tryz.f15.ntmps=16:=kr_
@[go_sem] theorem go37:isGo Tryz.prog 37=true:=kr_
@[go_sem] theorem fr16:Tryz.f16.results.toList=[.tmp 4]:=kr_
@[go_sem] theorem fn16:Tryz.f16.ntmps=10:=kr_
@[go_sem] theorem go38:isGo Tryz.prog 38=true:=kr_
@[go_sem] theorem fr17:Tryz.f17.results.toList=[.tmp 4]:=kr_
@[go_sem] theorem fn17:Tryz.f17.ntmps=42:=kr_
@[go_sem] theorem fr18:Tryz.f18.results.toList=[.tmp 4]:=kr_
@[go_sem] theorem fn18:Tryz.f18.ntmps=10:=kr_
@[go_sem] theorem go39:isGo Tryz.prog 39=true:=kr_
@[go_sem] theorem fr19:Tryz.f19.results.toList=[.tmp 4]:=kr_
@[go_sem] theorem fn19:Tryz.f19.ntmps=14:=kr_
@[go_sem] theorem go40:isGo Tryz.prog 40=true:=kr_
@[go_sem] theorem go41:isGo Tryz.prog 41=true:=kr_
@[go_sem] theorem fr20:Tryz.f20.results.toList=[.tmp 4]:=kr_
@[go_sem] theorem fn20:Tryz.f20.ntmps=18:=kr_
@[go_sem] theorem go42:isGo Tryz.prog 42=true:=kr_
@[go_sem] theorem fr21:Tryz.f21.results.toList=[.tmp 4]:=kr_
@[go_sem] theorem fn21:Tryz.f21.ntmps=27:=kr_
@[go_sem] theorem fr22:Tryz.f22.results.toList=[.tmp 4]:=kr_
@[go_sem] theorem fn22:Tryz.f22.ntmps=19:=kr_
@[go_sem] theorem go43:isGo Tryz.prog 43=true:=kr_
@[go_sem] theorem go44:isGo Tryz.prog 44=true:=kr_
@[go_sem] theorem go45:isGo Tryz.prog 45=true:=kr_
@[go_sem] theorem fr23:Tryz.f23.results.toList=[.tmp 4,.tmp 5,.tmp 6]:=kr_
@[go_sem] theorem fn23:Tryz.f23.ntmps=23:=kr_
@[go_sem] theorem go46:isGo Tryz.prog 46=true:=kr_
@[go_sem] theorem go47:isGo Tryz.prog 47=true:=kr_
@[go_sem] theorem fr24:Tryz.f24.results.toList=[.tmp 4]:=kr_
@[go_sem] theorem fn24:Tryz.f24.ntmps=37:=kr_
@[go_sem] theorem bi4:P5 Tryz.prog 101=some [.string ⟨#[]⟩,.slice none 0 0,.int .i64 0,.slice none 0 0,.slice none 0 0,.slice none 0 0]:=kr_
@[go_sem] theorem go48:isGo Tryz.prog 48=true:=kr_
@[go_sem] theorem go49:isGo Tryz.prog 49=true:=kr_
@[go_sem] theorem go50:isGo Tryz.prog 50=true:=kr_
@[go_sem] theorem go51:isGo Tryz.prog 51=true:=kr_
@[go_sem] theorem go52:isGo Tryz.prog 52=true:=kr_
@[go_sem] theorem fr25:Tryz.f25.results.toList=[.cell 8 34,.tmp 9]:=kr_
@[go_sem] theorem fn25:Tryz.f25.ntmps=92:=kr_
@[go_sem] theorem tz97:P5 Tryz.prog 97=some [.string ⟨#[]⟩,.int .i64 0,.int .i64 0,.int .i64 0,.string ⟨#[]⟩,.slice none 0 0,.slice none 0 0]:=kr_
@[go_sem] theorem go53:isGo Tryz.prog 53=true:=kr_
@[go_sem] theorem fr26:Tryz.f26.results.toList=[.tmp 2]:=kr_
@[go_sem] theorem fn26:Tryz.f26.ntmps=23:=kr_
@[go_sem] theorem fr27:Tryz.f27.results.toList=[.cell 2 66]:=kr_
@[go_sem] theorem fn27:Tryz.f27.ntmps=18:=kr_
@[go_sem] theorem go54:isGo Tryz.prog 54=true:=kr_
@[go_sem] theorem go55:isGo Tryz.prog 55=true:=kr_
@[go_sem] theorem go56:isGo Tryz.prog 56=true:=kr_
@[go_sem] theorem fr28:Tryz.f28.results.toList=[.tmp 4,.tmp 5]:=kr_
@[go_sem] theorem fn28:Tryz.f28.ntmps=24:=kr_
@[go_sem] theorem go57:isGo Tryz.prog 57=true:=kr_
@[go_sem] theorem fr29:Tryz.f29.results.toList=[.tmp 2]:=kr_
@[go_sem] theorem fn29:Tryz.f29.ntmps=15:=kr_
@[go_sem] theorem go58:isGo Tryz.prog 58=true:=kr_
@[go_sem] theorem go59:isGo Tryz.prog 59=true:=kr_
@[go_sem] theorem fr30:Tryz.f30.results.toList=[.tmp 2]:=kr_
@[go_sem] theorem fn30:Tryz.f30.ntmps=28:=kr_
@[go_sem] theorem go60:isGo Tryz.prog 60=true:=kr_
@[go_sem] theorem fr31:Tryz.f31.results.toList=[.tmp 4]:=kr_
@[go_sem] theorem fn31:Tryz.f31.ntmps=19:=kr_
@[go_sem] theorem go61:isGo Tryz.prog 61=true:=kr_
@[go_sem] theorem go62:isGo Tryz.prog 62=true:=kr_
@[go_sem] theorem fr32:Tryz.f32.results.toList=[.tmp 4]:=kr_
@[go_sem] theorem fn32:Tryz.f32.ntmps=47:=kr_
@[go_sem] theorem go63:isGo Tryz.prog 63=true:=kr_
@[go_sem] theorem fr33:Tryz.f33.results.toList=[.cell 4 34]:=kr_
@[go_sem] theorem fn33:Tryz.f33.ntmps=37:=kr_
@[go_sem] theorem fr34:Tryz.f34.results.toList=[.tmp 4]:=kr_
@[go_sem] theorem fn34:Tryz.f34.ntmps=27:=kr_
@[go_sem] theorem go64:isGo Tryz.prog 64=true:=kr_
@[go_sem] theorem fr35:Tryz.f35.results.toList=[.tmp 4]:=kr_
@[go_sem] theorem fn35:Tryz.f35.ntmps=27:=kr_
@[go_sem] theorem fr36:Tryz.f36.results.toList=[.tmp 4]:=kr_
@[go_sem] theorem fn36:Tryz.f36.ntmps=26:=kr_
@[go_sem] theorem go65:isGo Tryz.prog 65=true:=kr_
@[go_sem] theorem fr37:Tryz.f37.results.toList=[.tmp 4]:=kr_
@[go_sem] theorem fn37:Tryz.f37.ntmps=68:=kr_
@[go_sem] theorem cx1:bF9 Tryz.prog 5=some Go.IntKind.u8:=kr_
@[go_sem] theorem cx0:(Tryz.prog.underlying 5).isSome=true:=kr_
@[go_sem] theorem cg6:y8 Tryz.prog 114=some (5,1,1):=kr_
@[go_sem] theorem cg7:aD1 Tryz.prog 114=true:=kr_
@[go_sem] theorem fr38:Tryz.f38.results.toList=[.tmp 2]:=kr_
@[go_sem] theorem fn38:Tryz.f38.ntmps=20:=kr_
@[go_sem] theorem fr39:Tryz.f39.results.toList=[.tmp 4]:=kr_
@[go_sem] theorem fn39:Tryz.f39.ntmps=42:=kr_
@[go_sem] theorem fr40:Tryz.f40.results.toList=[.tmp 4]:=kr_
@[go_sem] theorem fn40:Tryz.f40.ntmps=50:=kr_
@[go_sem] theorem fr41:Tryz.f41.results.toList=[.tmp 4]:=kr_
@[go_sem] theorem fn41:Tryz.f41.ntmps=50:=kr_
@[go_sem] theorem go66:isGo Tryz.prog 66=true:=kr_
@[go_sem] theorem fr42:Tryz.f42.results.toList=[.tmp 4]:=kr_
@[go_sem] theorem fn42:Tryz.f42.ntmps=19:=kr_
@[go_sem] theorem go67:isGo Tryz.prog 67=true:=kr_
@[go_sem] theorem fr43:Tryz.f43.results.toList=[.tmp 2]:=kr_
@[go_sem] theorem fn43:Tryz.f43.ntmps=5:=kr_
@[go_sem] theorem cg3:p9 Tryz.prog 117=true:=kr_
@[go_sem] theorem cg5:N7 Tryz.prog 117=some 3:=kr_
@[go_sem] theorem cg2:y8 Tryz.prog 117=some (3,1,8):=kr_
@[go_sem] theorem cg1:(Tryz.prog.underlying 117).isSome=true:=kr_
@[go_sem] theorem cg0:tAgg Tryz.prog 118=some false:=kr_
@[go_sem] theorem cf6:y5 Tryz.prog 118=some 1:=kr_
@[go_sem] theorem cf8:p9 Tryz.prog 118=true:=kr_
@[go_sem] theorem cf9:N7 Tryz.prog 118=some 93:=kr_
@[go_sem] theorem cf7:y8 Tryz.prog 118=some (93,1,24):=kr_
@[go_sem] theorem cf5:F9 Tryz.prog 118=false:=kr_
@[go_sem] theorem cf4:(Tryz.prog.underlying 118).isSome=true:=kr_
@[go_sem] theorem cf2:p9 Tryz.prog 124=true:=kr_
@[go_sem] theorem cf3:N7 Tryz.prog 124=some 154:=kr_
@[go_sem] theorem cf1:y8 Tryz.prog 124=some (154,5,64):=kr_
@[go_sem] theorem cf0:(Tryz.prog.underlying 124).isSome=true:=kr_
@[go_sem] theorem ce3:tAgg Tryz.prog 154=some true:=kr_
@[go_sem] theorem ce2:y5 Tryz.prog 154=some 5:=kr_
@[go_sem] theorem bV5:u6 Tryz.prog 154 0=some (0,3):=kr_
@[go_sem] theorem bV4:u6 Tryz.prog 154 1=some (1,66):=kr_
@[go_sem] theorem go68:isGo Tryz.prog 68=true:=kr_
@[go_sem] theorem go69:isGo Tryz.prog 69=true:=kr_
@[go_sem] theorem go70:isGo Tryz.prog 70=true:=kr_
@[go_sem] theorem go71:isGo Tryz.prog 71=true:=kr_
@[go_sem] theorem go72:isGo Tryz.prog 72=true:=kr_
@[go_sem] theorem go73:isGo Tryz.prog 73=true:=kr_
@[go_sem] theorem go74:isGo Tryz.prog 74=true:=kr_
@[go_sem] theorem go75:isGo Tryz.prog 75=true:=kr_
@[go_sem] theorem fr44:Tryz.f44.results.toList=[.tmp 4,.tmp 5]:=kr_
@[go_sem] theorem fn44:Tryz.f44.ntmps=135:=kr_
@[go_sem] theorem go76:isGo Tryz.prog 76=true:=kr_
@[go_sem] theorem fr45:Tryz.f45.results.toList=[.tmp 2]:=kr_
@[go_sem] theorem fn45:Tryz.f45.ntmps=27:=kr_
@[go_sem] theorem go77:isGo Tryz.prog 77=true:=kr_
@[go_sem] theorem fr46:Tryz.f46.results.toList=[.tmp 4]:=kr_
@[go_sem] theorem fn46:Tryz.f46.ntmps=11:=kr_
@[go_sem] theorem go78:isGo Tryz.prog 78=true:=kr_
@[go_sem] theorem go79:isGo Tryz.prog 79=true:=kr_
@[go_sem] theorem fr47:Tryz.f47.results.toList=[.tmp 2]:=kr_
@[go_sem] theorem fn47:Tryz.f47.ntmps=11:=kr_
@[go_sem] theorem go80:isGo Tryz.prog 80=true:=kr_
@[go_sem] theorem fr48:Tryz.f48.results.toList=[.tmp 4]:=kr_
@[go_sem] theorem fn48:Tryz.f48.ntmps=19:=kr_
@[go_sem] theorem go81:isGo Tryz.prog 81=true:=kr_
@[go_sem] theorem go82:isGo Tryz.prog 82=true:=kr_
@[go_sem] theorem fr49:Tryz.f49.results.toList=[.tmp 4]:=kr_
@[go_sem] theorem fn49:Tryz.f49.ntmps=21:=kr_
@[go_sem] theorem fr50:Tryz.f50.results.toList=[.tmp 6]:=kr_
@[go_sem] theorem fn50:Tryz.f50.ntmps=34:=kr_
@[go_sem] theorem go83:isGo Tryz.prog 83=true:=kr_
@[go_sem] theorem fr51:Tryz.f51.results.toList=[.tmp 2]:=kr_
@[go_sem] theorem fn51:Tryz.f51.ntmps=20:=kr_
@[go_sem] theorem fr52:Tryz.f52.results.toList=[.tmp 4]:=kr_
@[go_sem] theorem fn52:Tryz.f52.ntmps=28:=kr_
@[go_sem] theorem go84:isGo Tryz.prog 84=true:=kr_
@[go_sem] theorem fr53:Tryz.f53.results.toList=[.cell 2 97]:=kr_
@[go_sem] theorem fn53:Tryz.f53.ntmps=18:=kr_
@[go_sem] theorem go85:isGo Tryz.prog 85=true:=kr_
@[go_sem] theorem go86:isGo Tryz.prog 86=true:=kr_
@[go_sem] theorem fr54:Tryz.f54.results.toList=[.tmp 2]:=kr_
@[go_sem] theorem fn54:Tryz.f54.ntmps=9:=kr_
@[go_sem] theorem go87:isGo Tryz.prog 87=true:=kr_
@[go_sem] theorem go88:isGo Tryz.prog 88=true:=kr_
@[go_sem] theorem fr55:Tryz.f55.results.toList=[.tmp 2]:=kr_
@[go_sem] theorem fn55:Tryz.f55.ntmps=38:=kr_
@[go_sem] theorem ce8:p9 Tryz.prog 135=true:=kr_
@[go_sem] theorem ce9:N7 Tryz.prog 135=some 118:=kr_
@[go_sem] theorem ce7:y8 Tryz.prog 135=some (118,1,24):=kr_
@[go_sem] theorem ce6:(Tryz.prog.underlying 135).isSome=true:=kr_
@[go_sem] theorem cw2:P5 Tryz.prog 95=some [.int .i64 0,.string ⟨#[]⟩,.slice none 0 0,.slice none 0 0]:=kr_
@[go_sem] theorem tb43:aa2 Tryz.prog 43=some ([.string ⟨#[]⟩,.slice none 0 0],[(0,1),(1,1)]):=kr_
@[go_sem] theorem cy7:aa2 Tryz.prog 101=some ([.string ⟨#[]⟩,.slice none 0 0,.int .i64 0,.slice none 0 0,.slice none 0 0,.slice none 0 0],[(0,2),(2,1),(3,1),(4,1),(5,1)]):=kr_
@[go_sem] theorem go89:isGo Tryz.prog 89=true:=kr_
@[go_sem] theorem go90:isGo Tryz.prog 90=true:=kr_
@[go_sem] theorem go91:isGo Tryz.prog 91=true:=kr_
@[go_sem] theorem go92:isGo Tryz.prog 92=true:=kr_
@[go_sem] theorem go93:isGo Tryz.prog 93=true:=kr_
@[go_sem] theorem fr56:Tryz.f56.results.toList=[.tmp 4,.tmp 5]:=kr_
@[go_sem] theorem fn56:Tryz.f56.ntmps=185:=kr_
@[go_sem] theorem go94:isGo Tryz.prog 94=true:=kr_
@[go_sem] theorem fr57:Tryz.f57.results.toList=[.tmp 2]:=kr_
@[go_sem] theorem fn57:Tryz.f57.ntmps=6:=kr_
@[go_sem] theorem go95:isGo Tryz.prog 95=true:=kr_
@[go_sem] theorem fr58:Tryz.f58.results.toList=[.tmp 4]:=kr_
@[go_sem] theorem fn58:Tryz.f58.ntmps=58:=kr_
@[go_sem] theorem go96:isGo Tryz.prog 96=true:=kr_
@[go_sem] theorem fr59:Tryz.f59.results.toList=[.tmp 4]:=kr_
@[go_sem] theorem fn59:Tryz.f59.ntmps=27:=kr_
@[go_sem] theorem ce5:tAgg Tryz.prog 140=some false:=kr_
@[go_sem] theorem ce4:y5 Tryz.prog 140=some 1:=kr_
@[go_sem] theorem go97:isGo Tryz.prog 97=true:=kr_
@[go_sem] theorem fr60:Tryz.f60.results.toList=[.tmp 4]:=kr_
@[go_sem] theorem fn60:Tryz.f60.ntmps=23:=kr_
@[go_sem] theorem tb95:aa2 Tryz.prog 95=some ([.int .i64 0,.string ⟨#[]⟩,.slice none 0 0,.slice none 0 0],[(0,1),(1,1),(2,1),(3,1)]):=kr_
@[go_sem] theorem go99:isGo Tryz.prog 99=true:=kr_
@[go_sem] theorem cG3:isGo Tryz.prog 100=true:=kr_
@[go_sem] theorem cG2:isGo Tryz.prog 101=true:=kr_
@[go_sem] theorem fr61:Tryz.f61.results.toList=[.tmp 2]:=kr_
@[go_sem] theorem fn61:Tryz.f61.ntmps=20:=kr_
@[go_sem] theorem fr62:Tryz.f62.results.toList=[.cell 4 101]:=kr_
@[go_sem] theorem fn62:Tryz.f62.ntmps=56:=kr_
@[go_sem] theorem cG1:isGo Tryz.prog 102=true:=kr_
@[go_sem] theorem fr63:Tryz.f63.results.toList=[.tmp 2]:=kr_
@[go_sem] theorem fn63:Tryz.f63.ntmps=20:=kr_
@[go_sem] theorem cG0:isGo Tryz.prog 103=true:=kr_
@[go_sem] theorem fr64:Tryz.f64.results.toList=[.tmp 4]:=kr_
@[go_sem] theorem fn64:Tryz.f64.ntmps=26:=kr_
@[go_sem] theorem fr65:Tryz.f65.results.toList=[.tmp 4]:=kr_
@[go_sem] theorem fn65:Tryz.f65.ntmps=42:=kr_
@[go_sem] theorem cF9:isGo Tryz.prog 104=true:=kr_
@[go_sem] theorem fr66:Tryz.f66.results.toList=[.tmp 4]:=kr_
@[go_sem] theorem fn66:Tryz.f66.ntmps=25:=kr_
@[go_sem] theorem cF8:isGo Tryz.prog 105=true:=kr_
@[go_sem] theorem fr67:Tryz.f67.results.toList=[.tmp 4]:=kr_
@[go_sem] theorem fn67:Tryz.f67.ntmps=23:=kr_
@[go_sem] theorem cF7:isGo Tryz.prog 106=true:=kr_
@[go_sem] theorem cF6:isGo Tryz.prog 107=true:=kr_
@[go_sem] theorem cF5:isGo Tryz.prog 108=true:=kr_
@[go_sem] theorem cF4:isGo Tryz.prog 109=true:=kr_
@[go_sem] theorem fr68:Tryz.f68.results.toList=[.tmp 2]:=kr_
@[go_sem] theorem fn68:Tryz.f68.ntmps=60:=kr_
@[go_sem] theorem cF3:isGo Tryz.prog 110=true:=kr_
@[go_sem] theorem fr69:Tryz.f69.results.toList=[.tmp 2]:=kr_
@[go_sem] theorem fn69:Tryz.f69.ntmps=33:=kr_
@[go_sem] theorem cF2:isGo Tryz.prog 111=true:=kr_
@[go_sem] theorem cF1:isGo Tryz.prog 112=true:=kr_
@[go_sem] theorem cF0:isGo Tryz.prog 113=true:=kr_
@[go_sem] theorem fr70:Tryz.f70.results.toList=[.tmp 2,.tmp 3]:=kr_
@[go_sem] theorem fn70:Tryz.f70.ntmps=30:=kr_
@[go_sem] theorem fr71:Tryz.f71.results.toList=[.tmp 6]:=kr_
@[go_sem] theorem fn71:Tryz.f71.ntmps=23:=kr_
@[go_sem] theorem cw4:P5 Tryz.prog 154=some [.int .i64 0,.int .i64 0,.int .i64 0,.string ⟨#[]⟩,.slice none 0 0]:=kr_
@[go_sem] theorem cE9:isGo Tryz.prog 114=true:=kr_
@[go_sem] theorem cE8:isGo Tryz.prog 115=true:=kr_
@[go_sem] theorem fr72:Tryz.f72.results.toList=[.cell 8 101,.tmp 9]:=kr_
@[go_sem] theorem fn72:Tryz.f72.ntmps=91:=kr_
@[go_sem] theorem cy6:aa2 Tryz.prog 154=some ([.int .i64 0,.int .i64 0,.int .i64 0,.string ⟨#[]⟩,.slice none 0 0],[(0,1),(1,4)]):=kr_
@[go_sem] theorem fr73:Tryz.f73.results.toList=[.tmp 6]:=kr_
@[go_sem] theorem fn73:Tryz.f73.ntmps=35:=kr_
@[go_sem] theorem cE7:isGo Tryz.prog 116=true:=kr_
@[go_sem] theorem fr74:Tryz.f74.results.toList=[.tmp 4]:=kr_
@[go_sem] theorem fn74:Tryz.f74.ntmps=28:=kr_
@[go_sem] theorem fr75:Tryz.f75.results.toList=[.tmp 2]:=kr_
@[go_sem] theorem fn75:Tryz.f75.ntmps=24:=kr_
@[go_sem] theorem cE6:isGo Tryz.prog 117=true:=kr_
@[go_sem] theorem fr76:Tryz.f76.results.toList=[.tmp 6]:=kr_
@[go_sem] theorem fn76:Tryz.f76.ntmps=27:=kr_
@[go_sem] theorem fr77:Tryz.f77.results.toList=[.tmp 4]:=kr_
@[go_sem] theorem fn77:Tryz.f77.ntmps=21:=kr_
@[go_sem] theorem cE5:isGo Tryz.prog 118=true:=kr_
@[go_sem] theorem cE4:isGo Tryz.prog 119=true:=kr_
@[go_sem] theorem fr78:Tryz.f78.results.toList=[.tmp 2]:=kr_
@[go_sem] theorem fn78:Tryz.f78.ntmps=10:=kr_
@[go_sem] theorem cE3:isGo Tryz.prog 120=true:=kr_
@[go_sem] theorem fr79:Tryz.f79.results.toList=[.tmp 4]:=kr_
@[go_sem] theorem fn79:Tryz.f79.ntmps=26:=kr_
@[go_sem] theorem fr80:Tryz.f80.results.toList=[.tmp 4]:=kr_
@[go_sem] theorem fn80:Tryz.f80.ntmps=18:=kr_
@[go_sem] theorem fr81:Tryz.f81.results.toList=[.tmp 2]:=kr_
@[go_sem] theorem fn81:Tryz.f81.ntmps=4:=kr_
@[go_sem] theorem fr82:Tryz.f82.results.toList=[.tmp 4]:=kr_
@[go_sem] theorem fn82:Tryz.f82.ntmps=42:=kr_
@[go_sem] theorem tb66:aa2 Tryz.prog 66=some ([.int .i64 0,.int .i64 0,.string ⟨#[]⟩,.slice none 0 0],[(0,1),(1,1),(2,1),(3,1)]):=kr_
@[go_sem] theorem fr83:Tryz.f83.results.toList=[.cell 2 66]:=kr_
@[go_sem] theorem fn83:Tryz.f83.ntmps=29:=kr_
@[go_sem] theorem cE2:isGo Tryz.prog 121=true:=kr_
@[go_sem] theorem fr84:Tryz.f84.results.toList=[.cell 2 95]:=kr_
@[go_sem] theorem fn84:Tryz.f84.ntmps=19:=kr_
@[go_sem] theorem cE1:isGo Tryz.prog 122=true:=kr_
@[go_sem] theorem cE0:isGo Tryz.prog 123=true:=kr_
@[go_sem] theorem cD9:isGo Tryz.prog 124=true:=kr_
@[go_sem] theorem cD8:isGo Tryz.prog 125=true:=kr_
@[go_sem] theorem cD7:isGo Tryz.prog 126=true:=kr_
@[go_sem] theorem fr85:Tryz.f85.results.toList=[.tmp 2]:=kr_
@[go_sem] theorem fn85:Tryz.f85.ntmps=72:=kr_
@[go_sem] theorem cD6:isGo Tryz.prog 127=true:=kr_
@[go_sem] theorem fr86:Tryz.f86.results.toList=[.tmp 2]:=kr_
@[go_sem] theorem fn86:Tryz.f86.ntmps=16:=kr_
@[go_sem] theorem cD5:isGo Tryz.prog 128=true:=kr_
@[go_sem] theorem fr87:Tryz.f87.results.toList=[.tmp 2]:=kr_
@[go_sem] theorem fn87:Tryz.f87.ntmps=9:=kr_
@[go_sem] theorem cD4:isGo Tryz.prog 129=true:=kr_
@[go_sem] theorem fr88:Tryz.f88.results.toList=[.tmp 4]:=kr_
@[go_sem] theorem fn88:Tryz.f88.ntmps=60:=kr_
@[go_sem] theorem fr89:Tryz.f89.results.toList=[.tmp 2,.tmp 3]:=kr_
@[go_sem] theorem fn89:Tryz.f89.ntmps=105:=kr_
@[go_sem] theorem fr90:Tryz.f90.results.toList=[.tmp 6]:=kr_
@[go_sem] theorem fn90:Tryz.f90.ntmps=26:=kr_
@[go_sem] theorem cD3:isGo Tryz.prog 130=true:=kr_
@[go_sem] theorem fr91:Tryz.f91.results.toList=[.cell 4 43]:=kr_
@[go_sem] theorem fn91:Tryz.f91.ntmps=28:=kr_
@[go_sem] theorem cD2:isGo Tryz.prog 131=true:=kr_
@[go_sem] theorem fr92:Tryz.f92.results.toList=[.tmp 4]:=kr_
@[go_sem] theorem fn92:Tryz.f92.ntmps=32:=kr_
@[go_sem] theorem cD1:isGo Tryz.prog 132=true:=kr_
@[go_sem] theorem fr93:Tryz.f93.results.toList=[.tmp 4]:=kr_
@[go_sem] theorem fn93:Tryz.f93.ntmps=83:=kr_
@[go_sem] theorem cD0:isGo Tryz.prog 133=true:=kr_
@[go_sem] theorem fr94:Tryz.f94.results.toList=[.tmp 4]:=kr_
@[go_sem] theorem fn94:Tryz.f94.ntmps=107:=kr_
@[go_sem] theorem ce1:tAgg Tryz.prog 167=some false:=kr_
@[go_sem] theorem ce0:y5 Tryz.prog 167=some 1:=kr_
@[go_sem] theorem tz99:P5 Tryz.prog 99=some [.slice none 0 0]:=kr_
@[go_sem] theorem cC9:isGo Tryz.prog 134=true:=kr_
@[go_sem] theorem fr95:Tryz.f95.results.toList=[.tmp 2]:=kr_
@[go_sem] theorem fn95:Tryz.f95.ntmps=40:=kr_
@[go_sem] theorem cC8:isGo Tryz.prog 136=true:=kr_
@[go_sem] theorem fr96:Tryz.f96.results.toList=[.tmp 4]:=kr_
@[go_sem] theorem fn96:Tryz.f96.ntmps=20:=kr_
@[go_sem] theorem cd9:bF9 Tryz.prog 168=some Go.IntKind.u64:=kr_
@[go_sem] theorem cd8:(Tryz.prog.underlying 168).isSome=true:=kr_
@[go_sem] theorem fr97:Tryz.f97.results.toList=[.tmp 4]:=kr_
@[go_sem] theorem fn97:Tryz.f97.ntmps=26:=kr_
@[go_sem] theorem fr98:Tryz.f98.results.toList=[.tmp 4]:=kr_
@[go_sem] theorem fn98:Tryz.f98.ntmps=12:=kr_
@[go_sem] theorem fr99:Tryz.f99.results.toList=[.tmp 2]:=kr_
@[go_sem] theorem fn99:Tryz.f99.ntmps=6:=kr_
@[go_sem] theorem cd7:tAgg Tryz.prog 169=some false:=kr_
@[go_sem] theorem cd5:y5 Tryz.prog 169=some 1:=kr_
@[go_sem] theorem bV3:ay7 Tryz.prog 169=true:=kr_
@[go_sem] theorem cd6:bj2 Tryz.prog 169=some (false,.bool false):=kr_
@[go_sem] theorem cw3:P5 Tryz.prog 169=some [.map none]:=kr_
@[go_sem] theorem cC7:isGo Tryz.prog 137=true:=kr_
@[go_sem] theorem cC5:isGo Tryz.prog 141=true:=kr_
@[go_sem] theorem cN4:Tryz.f100.results.toList=[.tmp 2]:=kr_
@[go_sem] theorem cU6:Tryz.f100.ntmps=10:=kr_
@[go_sem] theorem cd4:bj2 Tryz.prog 175=some (false,.str []):=kr_
@[go_sem] theorem cd2:p9 Tryz.prog 176=true:=kr_
@[go_sem] theorem cd3:N7 Tryz.prog 176=some 9:=kr_
@[go_sem] theorem cd1:y8 Tryz.prog 176=some (9,1,16):=kr_
@[go_sem] theorem cd0:(Tryz.prog.underlying 176).isSome=true:=kr_
@[go_sem] theorem cC4:isGo Tryz.prog 142=true:=kr_
@[go_sem] theorem cC3:isGo Tryz.prog 143=true:=kr_
@[go_sem] theorem cN3:Tryz.f101.results.toList=[.tmp 2]:=kr_
@[go_sem] theorem cU5:Tryz.f101.ntmps=56:=kr_
@[go_sem] theorem cN2:Tryz.f102.results.toList=[.cell 2 66]:=kr_
@[go_sem] theorem cU4:Tryz.f102.ntmps=25:=kr_
@[go_sem] theorem cC2:isGo Tryz.prog 144=true:=kr_
@[go_sem] theorem cN1:Tryz.f103.results.toList=[.tmp 4]:=kr_
@[go_sem] theorem cU3:Tryz.f103.ntmps=27:=kr_
@[go_sem] theorem cN0:Tryz.f104.results.toList=[.tmp 4]:=kr_
@[go_sem] theorem cU2:Tryz.f104.ntmps=27:=kr_
@[go_sem] theorem cM9:Tryz.f105.results.toList=[.tmp 4]:=kr_
@[go_sem] theorem cU1:Tryz.f105.ntmps=31:=kr_
@[go_sem] theorem cC1:isGo Tryz.prog 145=true:=kr_
@[go_sem] theorem cM8:Tryz.f106.results.toList=[.tmp 2]:=kr_
@[go_sem] theorem cU0:Tryz.f106.ntmps=17:=kr_
@[go_sem] theorem cM7:Tryz.f107.results.toList=[.tmp 6]:=kr_
@[go_sem] theorem cT9:Tryz.f107.ntmps=15:=kr_
@[go_sem] theorem cC0:isGo Tryz.prog 146=true:=kr_
@[go_sem] theorem cB9:isGo Tryz.prog 147=true:=kr_
@[go_sem] theorem cM6:Tryz.f108.results.toList=[.tmp 6]:=kr_
@[go_sem] theorem cT8:Tryz.f108.ntmps=32:=kr_
@[go_sem] theorem cB8:isGo Tryz.prog 148=true:=kr_
@[go_sem] theorem cM5:Tryz.f109.results.toList=[.tmp 2]:=kr_
@[go_sem] theorem cT7:Tryz.f109.ntmps=8:=kr_
@[go_sem] theorem cM4:Tryz.f110.results.toList=[.tmp 4]:=kr_
@[go_sem] theorem cT6:Tryz.f110.ntmps=68:=kr_
@[go_sem] theorem cB7:isGo Tryz.prog 149=true:=kr_
@[go_sem] theorem cM3:Tryz.f111.results.toList=[.tmp 2]:=kr_
@[go_sem] theorem cT5:Tryz.f111.ntmps=10:=kr_
@[go_sem] theorem cM2:Tryz.f112.results.toList=[.tmp 2]:=kr_
@[go_sem] theorem cT4:Tryz.f112.ntmps=99:=kr_
@[go_sem] theorem cB6:isGo Tryz.prog 150=true:=kr_
@[go_sem] theorem cM1:Tryz.f113.results.toList=[.tmp 2]:=kr_
@[go_sem] theorem cT3:Tryz.f113.ntmps=20:=kr_
@[go_sem] theorem cB5:isGo Tryz.prog 151=true:=kr_
@[go_sem] theorem cM0:Tryz.f114.results.toList=[.cell 4 95]:=kr_
@[go_sem] theorem cT2:Tryz.f114.ntmps=48:=kr_
@[go_sem] theorem cB4:isGo Tryz.prog 152=true:=kr_
@[go_sem] theorem cA9:isGo Tryz.prog 153=true:=kr_
@[go_sem] theorem cL9:Tryz.f115.results.toList=[.tmp 2]:=kr_
@[go_sem] theorem cT1:Tryz.f115.ntmps=59:=kr_
@[go_sem] theorem cL8:Tryz.f116.results.toList=[.tmp 4]:=kr_
@[go_sem] theorem cT0:Tryz.f116.ntmps=17:=kr_
@[go_sem] theorem cL7:Tryz.f117.results.toList=[.tmp 4]:=kr_
@[go_sem] theorem cS9:Tryz.f117.ntmps=51:=kr_
@[go_sem] theorem cL6:Tryz.f118.results.toList=[.tmp 4]:=kr_
@[go_sem] theorem cS8:Tryz.f118.ntmps=28:=kr_
@[go_sem] theorem cL5:Tryz.f119.results.toList=[.tmp 2]:=kr_
@[go_sem] theorem cS7:Tryz.f119.ntmps=76:=kr_
@[go_sem] theorem cL4:Tryz.f120.results.toList=[.tmp 4]:=kr_
@[go_sem] theorem cS6:Tryz.f120.ntmps=49:=kr_
@[go_sem] theorem cL3:Tryz.f121.results.toList=[.tmp 2]:=kr_
@[go_sem] theorem cS5:Tryz.f121.ntmps=23:=kr_
@[go_sem] theorem cL2:Tryz.f122.results.toList=[.tmp 2]:=kr_
@[go_sem] theorem cS4:Tryz.f122.ntmps=16:=kr_
@[go_sem] theorem cL1:Tryz.f123.results.toList=[.tmp 4]:=kr_
@[go_sem] theorem cS3:Tryz.f123.ntmps=21:=kr_
@[go_sem] theorem cc9:bj2 Tryz.prog 183=some (false,.int .i64 0):=kr_
@[go_sem] theorem cL0:Tryz.f124.results.toList=[.tmp 4]:=kr_
@[go_sem] theorem cS1:Tryz.f124.ntmps=142:=kr_
@[go_sem] theorem cK9:Tryz.f125.results.toList=[.tmp 4]:=kr_
@[go_sem] theorem cS0:Tryz.f125.ntmps=18:=kr_
@[go_sem] theorem tz4:P5 Tryz.prog 4=some [.bool false]:=kr_
@[go_sem] theorem cK8:Tryz.f126.results.toList=[.tmp 4]:=kr_
@[go_sem] theorem cR9:Tryz.f126.ntmps=10:=kr_
@[go_sem] theorem cA8:isGo Tryz.prog 155=true:=kr_
@[go_sem] theorem cK7:Tryz.f127.results.toList=[.tmp 2]:=kr_
@[go_sem] theorem cR8:Tryz.f127.ntmps=5:=kr_
@[go_sem] theorem cC6:isGo Tryz.prog 139=true:=kr_
@[go_sem] theorem cK6:Tryz.f128.results.toList=[.tmp 2]:=kr_
@[go_sem] theorem cR7:Tryz.f128.ntmps=8:=kr_
@[go_sem] theorem cK5:Tryz.f129.results.toList=[.tmp 4]:=kr_
@[go_sem] theorem cR6:Tryz.f129.ntmps=11:=kr_
@[go_sem] theorem cA7:isGo Tryz.prog 158=true:=kr_
@[go_sem] theorem cK4:Tryz.f130.results.toList=[.cell 4 66]:=kr_
@[go_sem] theorem cR5:Tryz.f130.ntmps=8:=kr_
@[go_sem] theorem cK3:Tryz.f131.results.toList=[.tmp 4]:=kr_
@[go_sem] theorem cR4:Tryz.f131.ntmps=9:=kr_
@[go_sem] theorem cK2:Tryz.f132.results.toList=[.tmp 4]:=kr_
@[go_sem] theorem cR3:Tryz.f132.ntmps=31:=kr_
@[go_sem] theorem cK1:Tryz.f133.results.toList=[.tmp 2]:=kr_
@[go_sem] theorem cR2:Tryz.f133.ntmps=57:=kr_
@[go_sem] theorem cK0:Tryz.f135.results.toList=[.tmp 5]:=kr_
@[go_sem] theorem cR1:Tryz.f135.ntmps=16:=kr_
@[go_sem] theorem cJ9:Tryz.f136.results.toList=[.tmp 4]:=kr_
@[go_sem] theorem cR0:Tryz.f136.ntmps=36:=kr_
@[go_sem] theorem cJ8:Tryz.f137.results.toList=[]:=kr_
@[go_sem] theorem cQ9:Tryz.f137.ntmps=20:=kr_
@[go_sem] theorem cJ7:Tryz.f138.results.toList=[]:=kr_
@[go_sem] theorem cQ8:Tryz.f138.ntmps=16:=kr_
@[go_sem] theorem cJ6:Tryz.f139.results.toList=[]:=kr_
@[go_sem] theorem cQ7:Tryz.f139.ntmps=26:=kr_
@[go_sem] theorem cJ5:Tryz.f140.results.toList=[]:=kr_
@[go_sem] theorem cQ6:Tryz.f140.ntmps=5:=kr_
@[go_sem] theorem cA6:isGo Tryz.prog 164=true:=kr_
@[go_sem] theorem cJ4:Tryz.f141.results.toList=[.tmp 2]:=kr_
@[go_sem] theorem cQ5:Tryz.f141.ntmps=19:=kr_
@[go_sem] theorem cy5:aa2 Tryz.prog 201=some ([.pointer none,.slice none 0 0],[(0,1),(1,1)]):=kr_
@[go_sem] theorem cA5:isGo Tryz.prog 165=true:=kr_
@[go_sem] theorem cA4:isGo Tryz.prog 166=true:=kr_
@[go_sem] theorem cJ3:Tryz.f142.results.toList=[.tmp 2]:=kr_
@[go_sem] theorem cQ4:Tryz.f142.ntmps=14:=kr_
@[go_sem] theorem cJ2:Tryz.f143.results.toList=[.tmp 4]:=kr_
@[go_sem] theorem cQ3:Tryz.f143.ntmps=27:=kr_
@[go_sem] theorem cJ1:Tryz.f144.results.toList=[.tmp 4]:=kr_
@[go_sem] theorem cQ2:Tryz.f144.ntmps=27:=kr_
@[go_sem] theorem cJ0:Tryz.f145.results.toList=[.tmp 2]:=kr_
@[go_sem] theorem cQ1:Tryz.f145.ntmps=44:=kr_
@[go_sem] theorem cI9:Tryz.f146.results.toList=[.tmp 4]:=kr_
@[go_sem] theorem cQ0:Tryz.f146.ntmps=41:=kr_
@[go_sem] theorem cI8:Tryz.f147.results.toList=[.tmp 4]:=kr_
@[go_sem] theorem cP9:Tryz.f147.ntmps=32:=kr_
@[go_sem] theorem cI7:Tryz.f148.results.toList=[.tmp 4]:=kr_
@[go_sem] theorem cP8:Tryz.f148.ntmps=28:=kr_
@[go_sem] theorem cA3:isGo Tryz.prog 167=true:=kr_
@[go_sem] theorem cI6:Tryz.f149.results.toList=[.tmp 2]:=kr_
@[go_sem] theorem cP7:Tryz.f149.ntmps=106:=kr_
@[go_sem] theorem cI5:Tryz.f150.results.toList=[.cell 2 95]:=kr_
@[go_sem] theorem cP6:Tryz.f150.ntmps=30:=kr_
@[go_sem] theorem cA2:isGo Tryz.prog 168=true:=kr_
@[go_sem] theorem cA1:isGo Tryz.prog 169=true:=kr_
@[go_sem] theorem cI4:Tryz.f151.results.toList=[.cell 4 66]:=kr_
@[go_sem] theorem cP5:Tryz.f151.ntmps=36:=kr_
@[go_sem] theorem cI3:Tryz.f152.results.toList=[.tmp 4]:=kr_
@[go_sem] theorem cP4:Tryz.f152.ntmps=9:=kr_
@[go_sem] theorem cI2:Tryz.f153.results.toList=[.tmp 4]:=kr_
@[go_sem] theorem cP3:Tryz.f153.ntmps=27:=kr_
@[go_sem] theorem cI1:Tryz.f154.results.toList=[]:=kr_
@[go_sem] theorem cP2:Tryz.f154.ntmps=26:=kr_
@[go_sem] theorem cI0:Tryz.f155.results.toList=[.tmp 4]:=kr_
@[go_sem] theorem cP1:Tryz.f155.ntmps=10:=kr_
@[go_sem] theorem cH9:Tryz.f156.results.toList=[.tmp 2]:=kr_
@[go_sem] theorem cP0:Tryz.f156.ntmps=5:=kr_
@[go_sem] theorem cH8:Tryz.f157.results.toList=[]:=kr_
@[go_sem] theorem cO9:Tryz.f157.ntmps=3:=kr_
@[go_sem] theorem cA0:isGo Tryz.prog 171=true:=kr_
@[go_sem] theorem cH7:Tryz.f158.results.toList=[.cell 4 66]:=kr_
@[go_sem] theorem cO8:Tryz.f158.ntmps=38:=kr_
@[go_sem] theorem cH6:Tryz.f159.results.toList=[.cell 3 66,.tmp 4]:=kr_
@[go_sem] theorem cO7:Tryz.f159.ntmps=9:=kr_
@[go_sem] theorem cc8:tAgg Tryz.prog 192=some false:=kr_
@[go_sem] theorem cc7:y5 Tryz.prog 192=some 1:=kr_
@[go_sem] theorem cc6:tAgg Tryz.prog 196=some true:=kr_
@[go_sem] theorem cc5:y5 Tryz.prog 196=some 2:=kr_
@[go_sem] theorem bV2:u6 Tryz.prog 196 0=some (0,167):=kr_
@[go_sem] theorem bV1:u6 Tryz.prog 196 1=some (1,192):=kr_
@[go_sem] theorem cz9:isGo Tryz.prog 181=true:=kr_
@[go_sem] theorem cz8:isGo Tryz.prog 182=true:=kr_
@[go_sem] theorem cH5:Tryz.f162.results.toList=[]:=kr_
@[go_sem] theorem cO6:Tryz.f162.ntmps=57:=kr_
@[go_sem] theorem cz7:isGo Tryz.prog 184=true:=kr_
@[go_sem] theorem cz6:isGo Tryz.prog 185=true:=kr_
@[go_sem] theorem cH4:Tryz.f165.results.toList=[]:=kr_
@[go_sem] theorem cO5:Tryz.f165.ntmps=70:=kr_
@[go_sem] theorem cH3:Tryz.f167.results.toList=[.tmp 2]:=kr_
@[go_sem] theorem cO4:Tryz.f167.ntmps=15:=kr_
@[go_sem] theorem cH2:Tryz.f168.results.toList=[.cell 4 66,.tmp 5]:=kr_
@[go_sem] theorem cO3:Tryz.f168.ntmps=22:=kr_
@[go_sem] theorem cH1:Tryz.f169.results.toList=[.cell 4 66]:=kr_
@[go_sem] theorem cO2:Tryz.f169.ntmps=9:=kr_
@[go_sem] theorem cH0:Tryz.f170.results.toList=[]:=kr_
@[go_sem] theorem cO1:Tryz.f170.ntmps=11:=kr_
@[go_sem] theorem cG9:Tryz.f171.results.toList=[.cell 4 66]:=kr_
@[go_sem] theorem cO0:Tryz.f171.ntmps=9:=kr_
@[go_sem] theorem cG8:Tryz.f181.results.toList=[]:=kr_
@[go_sem] theorem cN9:Tryz.f181.ntmps=35:=kr_
@[go_sem] theorem cz5:isGo Tryz.prog 186=true:=kr_
@[go_sem] theorem cG7:Tryz.f182.results.toList=[]:=kr_
@[go_sem] theorem cN8:Tryz.f182.ntmps=177:=kr_
@[go_sem] theorem cz4:isGo Tryz.prog 190=true:=kr_
@[go_sem] theorem cG6:Tryz.f185.results.toList=[.tmp 2]:=kr_
@[go_sem] theorem cN7:Tryz.f185.ntmps=5:=kr_
@[go_sem] theorem cz3:isGo Tryz.prog 191=true:=kr_
@[go_sem] theorem cG5:Tryz.f186.results.toList=[]:=kr_
@[go_sem] theorem cN6:Tryz.f186.ntmps=53:=kr_
@[go_sem] theorem cG4:Tryz.f191.results.toList=[]:=kr_
@[go_sem] theorem cN5:Tryz.f191.ntmps=23:=kr_
end Go.Proofs.YtancdeoodnpimaaGreatDoor
