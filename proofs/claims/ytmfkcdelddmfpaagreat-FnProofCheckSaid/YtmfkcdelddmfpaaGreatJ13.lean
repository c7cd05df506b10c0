import Derived.Test.YtmfkcdelddmfpaaGreatJ12
import Derived.Test.YtmfkcdelddmfpaaGreatProg
import Derived.KernelRfl
namespace Go.Proofs.YtmfkcdelddmfpaaGreat
open Go.Abs
theorem mixed:Tryz.prog.follows .mixedOrders=true:=by kernel_rfl
theorem kr_ {α:Sort _}{a b:α}(h:a=b:=by kernel_rfl):a=b:=h
theorem A8 {p:Prop}(h:p:=by refine ⟨by simp [mkS],by simp [mkS],by simp only [mkS,List.all_cons,List.all_nil,O.refsLt,C.refsLt,C.refsLt1,o5];first | done | rfl | (simp;done),?_⟩;simp [mkS,Abs.get,C.refsLtT,C.refsLt,C.refsLt1]):p:=h
theorem ag8 {p:Prop}(h:p:=by refine ⟨by simp [mkS,h.len],by simp only [mkS,List.length_append,List.length_cons,List.length_nil,h.len,h.tkj,h.tk0,h.tk];first | done | rfl | (simp;done),by simp [mkS,O.refsLt,C.refsLt,C.refsLt1,h.len,h.refs,h.refsj,h.hcaps,h.capsj,h.hcaps2,h.capsj2,o5,O4,-List.all_eq_true],?_⟩;simp [mkS,Abs.get,C.refsLtT,C.refsLt,C.refsLt1,h.len,h.hcaps,h.capsj,h.hcaps2,h.capsj2,-List.all_eq_true]):p:=h
theorem H6 {p:Prop}(h:p:=by refine ⟨by simp [mkS],by simp [mkS],by simp [mkS,O.refsLt,C.refsLt,C.refsLt1],?_⟩;simp [mkS,Abs.get,C.refsLtT,C.refsLt,C.refsLt1]):p:=h
theorem bQ6 {p:Prop}(h:p:=by refine ⟨by simp [mkS,h.len],by simp only [mkS,List.length_append,List.length_cons,List.length_nil,h.len,h.tkj,h.tk0,h.tk];first | done | rfl | (simp;done),by simp [mkS,O.refsLt,C.refsLt,C.refsLt1,h.len,h.refs,h.refsj,o5,O4,-List.all_eq_true],?_⟩;simp [mkS,Abs.get,C.refsLtT,C.refsLt,C.refsLt1,h.len,h.hcaps,h.capsj,-List.all_eq_true]):p:=h
theorem rS_ {f:FuncId}{n n0:Nat}{R:C->List O->Prop}{fn:Func}(hf:Tryz.prog.funcs[f]? = some fn){k:List Item}{s:St}(h:run Tryz.prog f n n0 R fn.results.toList 200 k s)(hk:k.all ai6=true:=by kernel_rfl):AW Tryz.prog f n n0 R k s:=l7 hf mixed 200 k s hk h
theorem aE_ {f:FuncId}{fn:Func}{c:Code}{args:List C}{H:List O}{R:C->List O->Prop}(hf:Tryz.prog.funcs[f]? = some fn)(h:AW Tryz.prog f fn.ntmps H.length R [.code c] ⟨(List.range args.length).zip args,H⟩)(hb:fn.body=some c:=by rfl)(hn:args.length<=fn.ntmps:=by exact Nat.le_of_ble_eq_true rfl):l8 Tryz.prog f args H R:=l8.enter hf hb hn h
@[go_sem] theorem cs4:tAgg Tryz.prog 3=some false:=kr_
@[go_sem] theorem cr9:F4 Tryz.prog 3=some 1:=kr_
@[go_sem] theorem cs3:bI9 Tryz.prog 3=some Go.IntKind.i64:=kr_
@[go_sem] theorem cr8:(Tryz.prog.underlying 3).isSome=true:=kr_
@[go_sem] theorem cr7:tAgg Tryz.prog 4=some false:=kr_
@[go_sem] theorem cr6:F4 Tryz.prog 4=some 1:=kr_
@[go_sem] theorem cr5:Tryz.prog.underlying 4=some .bool:=kr_
@[go_sem] theorem cr4:tAgg Tryz.prog 5=some false:=kr_
@[go_sem] theorem cr2:F4 Tryz.prog 5=some 1:=kr_
@[go_sem] theorem cr3:bI9 Tryz.prog 5=some Go.IntKind.u8:=kr_
@[go_sem] theorem cr1:(Tryz.prog.underlying 5).isSome=true:=kr_
@[go_sem] theorem cr0:tAgg Tryz.prog 9=some false:=kr_
@[go_sem] theorem cq9:F4 Tryz.prog 9=some 1:=kr_
@[go_sem] theorem cq8:H8 Tryz.prog 9=true:=kr_
@[go_sem] theorem cp1:tAgg Tryz.prog 22=some false:=kr_
@[go_sem] theorem co6:F4 Tryz.prog 22=some 1:=kr_
@[go_sem] theorem co8:x8 Tryz.prog 22=true:=kr_
@[go_sem] theorem co9:Q6 Tryz.prog 22=some 5:=kr_
@[go_sem] theorem co7:D8 Tryz.prog 22=some (5,1,1):=kr_
@[go_sem] theorem cp0:aE1 Tryz.prog 22=true:=kr_
@[go_sem] theorem co5:tAgg Tryz.prog 23=some false:=kr_
@[go_sem] theorem co1:F4 Tryz.prog 23=some 1:=kr_
@[go_sem] theorem co3:x8 Tryz.prog 23=true:=kr_
@[go_sem] theorem co4:Q6 Tryz.prog 23=some 81:=kr_
@[go_sem] theorem co2:D8 Tryz.prog 23=some (81,7,104):=kr_
@[go_sem] theorem co0:H8 Tryz.prog 23=false:=kr_
@[go_sem] theorem cn9:(Tryz.prog.underlying 23).isSome=true:=kr_
@[go_sem] theorem cn8:tAgg Tryz.prog 25=some true:=kr_
@[go_sem] theorem cn7:F4 Tryz.prog 25=some 1:=kr_
@[go_sem] theorem cd2:D7 Tryz.prog 25 0=some (0,23):=kr_
@[go_sem] theorem cn6:tAgg Tryz.prog 27=some false:=kr_
@[go_sem] theorem cn2:F4 Tryz.prog 27=some 1:=kr_
@[go_sem] theorem cn4:x8 Tryz.prog 27=true:=kr_
@[go_sem] theorem cn5:Q6 Tryz.prog 27=some 60:=kr_
@[go_sem] theorem cn3:D8 Tryz.prog 27=some (60,4,56):=kr_
@[go_sem] theorem cn1:H8 Tryz.prog 27=false:=kr_
@[go_sem] theorem cn0:(Tryz.prog.underlying 27).isSome=true:=kr_
@[go_sem] theorem cm9:tAgg Tryz.prog 29=some false:=kr_
@[go_sem] theorem cm5:F4 Tryz.prog 29=some 1:=kr_
@[go_sem] theorem cm7:x8 Tryz.prog 29=true:=kr_
@[go_sem] theorem cm8:Q6 Tryz.prog 29=some 31:=kr_
@[go_sem] theorem cm6:D8 Tryz.prog 29=some (31,4,72):=kr_
@[go_sem] theorem cm4:tAgg Tryz.prog 31=some true:=kr_
@[go_sem] theorem cm3:F4 Tryz.prog 31=some 4:=kr_
@[go_sem] theorem cd1:D7 Tryz.prog 31 0=some (0,9):=kr_
@[go_sem] theorem cd0:D7 Tryz.prog 31 1=some (1,3):=kr_
@[go_sem] theorem cc9:D7 Tryz.prog 31 2=some (2,27):=kr_
@[go_sem] theorem cc8:D7 Tryz.prog 31 3=some (3,29):=kr_
@[go_sem] theorem cm2:tAgg Tryz.prog 34=some true:=kr_
@[go_sem] theorem cm1:F4 Tryz.prog 34=some 2:=kr_
@[go_sem] theorem cc7:D7 Tryz.prog 34 0=some (0,9):=kr_
@[go_sem] theorem cc6:D7 Tryz.prog 34 1=some (1,27):=kr_
@[go_sem] theorem cm0:tAgg Tryz.prog 39=some false:=kr_
@[go_sem] theorem cl6:F4 Tryz.prog 39=some 1:=kr_
@[go_sem] theorem cl8:x8 Tryz.prog 39=true:=kr_
@[go_sem] theorem cl9:Q6 Tryz.prog 39=some 34:=kr_
@[go_sem] theorem cl7:D8 Tryz.prog 39=some (34,2,40):=kr_
@[go_sem] theorem cl5:H8 Tryz.prog 39=false:=kr_
@[go_sem] theorem cl4:(Tryz.prog.underlying 39).isSome=true:=kr_
@[go_sem] theorem cl3:tAgg Tryz.prog 60=some true:=kr_
@[go_sem] theorem cl2:F4 Tryz.prog 60=some 4:=kr_
@[go_sem] theorem cc5:D7 Tryz.prog 60 0=some (0,3):=kr_
@[go_sem] theorem cc4:D7 Tryz.prog 60 1=some (1,3):=kr_
@[go_sem] theorem cc3:D7 Tryz.prog 60 2=some (2,9):=kr_
@[go_sem] theorem cc2:D7 Tryz.prog 60 3=some (3,27):=kr_
@[go_sem] theorem cj7:tAgg Tryz.prog 77=some false:=kr_
@[go_sem] theorem cj3:F4 Tryz.prog 77=some 1:=kr_
@[go_sem] theorem cj5:x8 Tryz.prog 77=true:=kr_
@[go_sem] theorem cj6:Q6 Tryz.prog 77=some 79:=kr_
@[go_sem] theorem cj4:D8 Tryz.prog 77=some (79,4,72):=kr_
@[go_sem] theorem cj1:H8 Tryz.prog 77=false:=kr_
@[go_sem] theorem cj0:(Tryz.prog.underlying 77).isSome=true:=kr_
@[go_sem] theorem ci9:tAgg Tryz.prog 79=some true:=kr_
@[go_sem] theorem ci8:F4 Tryz.prog 79=some 4:=kr_
@[go_sem] theorem cc1:D7 Tryz.prog 79 0=some (0,3):=kr_
@[go_sem] theorem cc0:D7 Tryz.prog 79 1=some (1,9):=kr_
@[go_sem] theorem cb9:D7 Tryz.prog 79 2=some (2,27):=kr_
@[go_sem] theorem cb8:D7 Tryz.prog 79 3=some (3,77):=kr_
@[go_sem] theorem ci7:tAgg Tryz.prog 81=some true:=kr_
@[go_sem] theorem ci6:F4 Tryz.prog 81=some 7:=kr_
@[go_sem] theorem cb7:D7 Tryz.prog 81 0=some (0,9):=kr_
@[go_sem] theorem cb6:D7 Tryz.prog 81 1=some (1,3):=kr_
@[go_sem] theorem cb5:D7 Tryz.prog 81 2=some (2,3):=kr_
@[go_sem] theorem cb4:D7 Tryz.prog 81 3=some (3,79):=kr_
@[go_sem] theorem tz25:O6 Tryz.prog 25=some [.slice none 0 0]:=kr_
@[go_sem] theorem ci5:O6 Tryz.prog 31=some [.string ⟨#[]⟩,.int .i64 0,.slice none 0 0,.slice none 0 0]:=kr_
@[go_sem] theorem tz34:O6 Tryz.prog 34=some [.string ⟨#[]⟩,.slice none 0 0]:=kr_
@[go_sem] theorem go4:isGo Tryz.prog 4=true:=kr_
@[go_sem] theorem go5:isGo Tryz.prog 5=true:=kr_
@[go_sem] theorem go6:isGo Tryz.prog 6=true:=kr_
@[go_sem] theorem go7:isGo Tryz.prog 7=true:=kr_
@[go_sem] theorem go8:isGo Tryz.prog 8=true:=kr_
@[go_sem] theorem go9:isGo Tryz.prog 9=true:=kr_
@[go_sem] theorem go10:isGo Tryz.prog 10=true:=kr_
@[go_sem] theorem go11:isGo Tryz.prog 11=true:=kr_
@[go_sem] theorem go12:isGo Tryz.prog 12=true:=kr_
@[go_sem] theorem fr3:Tryz.f3.results.toList=[.tmp 2]:=kr_
@[go_sem] theorem fn3:Tryz.f3.ntmps=85:=kr_
@[go_sem] theorem go13:isGo Tryz.prog 13=true:=kr_
@[go_sem] theorem go14:isGo Tryz.prog 14=true:=kr_
@[go_sem] theorem go15:isGo Tryz.prog 15=true:=kr_
@[go_sem] theorem go16:isGo Tryz.prog 16=true:=kr_
@[go_sem] theorem go17:isGo Tryz.prog 17=true:=kr_
@[go_sem] theorem go18:isGo Tryz.prog 18=true:=kr_
@[go_sem] theorem go19:isGo Tryz.prog 19=true:=kr_
@[go_sem] theorem go20:isGo Tryz.prog 20=true:=kr_
@[go_sem] theorem fr4:Tryz.f4.results.toList=[.cell 6 25]:=kr_
@[go_sem] theorem fn4:Tryz.f4.ntmps=45:=kr_
@[go_sem] theorem go21:isGo Tryz.prog 21=true:=kr_
@[go_sem] theorem fr5:Tryz.f5.results.toList=[.tmp 6]:=kr_
@[go_sem] theorem fn5:Tryz.f5.ntmps=12:=kr_
@[go_sem] theorem tb31:V8 Tryz.prog 31=some ([.string ⟨#[]⟩,.int .i64 0,.slice none 0 0,.slice none 0 0],[(0,1),(1,1),(2,1),(3,1)]):=kr_
@[go_sem] theorem go22:isGo Tryz.prog 22=true:=kr_
@[go_sem] theorem go23:isGo Tryz.prog 23=true:=kr_
@[go_sem] theorem go24:isGo Tryz.prog 24=true:=kr_
@[go_sem] theorem fr6:Tryz.f6.results.toList=[.cell 8 31]:=kr_
@[go_sem] theorem fn6:Tryz.f6.ntmps=83:=kr_
@[go_sem] theorem tb34:V8 Tryz.prog 34=some ([.string ⟨#[]⟩,.slice none 0 0],[(0,1),(1,1)]):=kr_
@[go_sem] theorem go25:isGo Tryz.prog 25=true:=kr_
@[go_sem] theorem go26:isGo Tryz.prog 26=true:=kr_
@[go_sem] theorem fr7:Tryz.f7.results.toList=[.cell 4 34,.tmp 5]:=kr_
@[go_sem] theorem fn7:Tryz.f7.ntmps=15:=kr_
@[go_sem] theorem tz3:O6 Tryz.prog 3=some [.int .i64 0]:=kr_
@[go_sem] theorem go27:isGo Tryz.prog 27=true:=kr_
@[go_sem] theorem fr8:Tryz.f8.results.toList=[.tmp 2]:=kr_
@[go_sem] theorem fn8:Tryz.f8.ntmps=10:=kr_
@[go_sem] theorem go28:isGo Tryz.prog 28=true:=kr_
@[go_sem] theorem go29:isGo Tryz.prog 29=true:=kr_
@[go_sem] theorem go30:isGo Tryz.prog 30=true:=kr_
@[go_sem] theorem fr9:Tryz.f9.results.toList=[.cell 4 34,.tmp 5]:=kr_
@[go_sem] theorem fn9:Tryz.f9.ntmps=18:=kr_
@[go_sem] theorem go31:isGo Tryz.prog 31=true:=kr_
@[go_sem] theorem go32:isGo Tryz.prog 32=true:=kr_
@[go_sem] theorem go33:isGo Tryz.prog 33=true:=kr_
@[go_sem] theorem fr10:Tryz.f10.results.toList=[.tmp 4]:=kr_
@[go_sem] theorem fn10:Tryz.f10.ntmps=17:=kr_
@[go_sem] theorem cl0:x8 Tryz.prog 66=true:=kr_
@[go_sem] theorem cl1:Q6 Tryz.prog 66=some 132:=kr_
@[go_sem] theorem ck9:D8 Tryz.prog 66=some (132,6,120):=kr_
@[go_sem] theorem ck8:(Tryz.prog.underlying 66).isSome=true:=kr_
@[go_sem] theorem ck6:x8 Tryz.prog 69=true:=kr_
@[go_sem] theorem ck7:Q6 Tryz.prog 69=some 39:=kr_
@[go_sem] theorem ck5:D8 Tryz.prog 69=some (39,1,24):=kr_
@[go_sem] theorem ck4:(Tryz.prog.underlying 69).isSome=true:=kr_
@[go_sem] theorem cg0:tAgg Tryz.prog 132=some true:=kr_
@[go_sem] theorem cf9:F4 Tryz.prog 132=some 6:=kr_
@[go_sem] theorem bZ0:D7 Tryz.prog 132 0=some (0,34):=kr_
@[go_sem] theorem bY9:D7 Tryz.prog 132 1=some (2,3):=kr_
@[go_sem] theorem bY8:D7 Tryz.prog 132 2=some (3,27):=kr_
@[go_sem] theorem bY7:D7 Tryz.prog 132 3=some (4,39):=kr_
@[go_sem] theorem bY6:D7 Tryz.prog 132 4=some (5,39):=kr_
@[go_sem] theorem go34:isGo Tryz.prog 34=true:=kr_
@[go_sem] theorem go35:isGo Tryz.prog 35=true:=kr_
@[go_sem] theorem go36:isGo Tryz.prog 36=true:=kr_
@[go_sem] theorem fr11:Tryz.f11.results.toList=[.tmp 6,.tmp 7]:=kr_
@[go_sem] theorem fn11:Tryz.f11.ntmps=38:=kr_
@[go_sem] theorem go37:isGo Tryz.prog 37=true:=kr_
@[go_sem] theorem fr12:Tryz.f12.results.toList=[.tmp 4]:=kr_
@[go_sem] theorem fn12:Tryz.f12.ntmps=17:=kr_
@[go_sem] theorem go38:isGo Tryz.prog 38=true:=kr_
@[go_sem] theorem go39:isGo Tryz.prog 39=true:=kr_
@[go_sem] theorem fr13:Tryz.f13.results.toList=[.tmp 4]:=kr_
@[go_sem] theorem fn13:Tryz.f13.ntmps=17:=kr_
@[go_sem] theorem ck0:x8 Tryz.prog 74=true:=kr_
@[go_sem] theorem ck3:Q6 Tryz.prog 74=some 9:=kr_
@[go_sem] theorem cj9:D8 Tryz.prog 74=some (9,1,16):=kr_
@[go_sem] theorem cj8:(Tryz.prog.underlying 74).isSome=true:=kr_
@[go_sem] theorem tz81:O6 Tryz.prog 81=some [.string ⟨#[]⟩,.int .i64 0,.int .i64 0,.int .i64 0,.string ⟨#[]⟩,.slice none 0 0,.slice none 0 0]:=kr_
@[go_sem] theorem tb25:V8 Tryz.prog 25=some ([.slice none 0 0],[(0,1)]):=kr_
@[go_sem] theorem go40:isGo Tryz.prog 40=true:=kr_
@[go_sem] theorem go41:isGo Tryz.prog 41=true:=kr_
@[go_sem] theorem go42:isGo Tryz.prog 42=true:=kr_
@[go_sem] theorem fr14:Tryz.f14.results.toList=[.cell 2 25,.tmp 3]:=kr_
@[go_sem] theorem fn14:Tryz.f14.ntmps=69:=kr_
@[go_sem] theorem fr15:Tryz.f15.results.toList=[.tmp 2]:=kr_
@[go_sem] theorem fn15:Tryz.f15.ntmps=35:=kr_
@[go_sem] theorem go43:isGo Tryz.prog 43=true:=kr_
@[go_sem] theorem fr16:Tryz.f16.results.toList=[.tmp 2]:=kr_
@[go_sem] theorem fn16:Tryz.f16.ntmps=6:=kr_
@[go_sem] theorem fr17:Tryz.f17.results.toList=[.tmp 4]:=kr_
@[go_sem] theorem fn17:Tryz.f17.ntmps=9:=kr_
@[go_sem] theorem go44:isGo Tryz.prog 44=true:=kr_
@[go_sem] theorem fr18:Tryz.f18.results.toList=[.tmp 2]:=kr_
@[go_sem] theorem fn18:Tryz.f18.ntmps=5:=kr_
@[go_sem] theorem fr19:Tryz.f19.results.toList=[.tmp 2]:=kr_
@[go_sem] theorem fn19:Tryz.f19.ntmps=5:=kr_
@[go_sem] theorem cq5:O6 Tryz.prog 79=some [.int .i64 0,.string ⟨#[]⟩,.slice none 0 0,.slice none 0 0]:=kr_
@[go_sem] theorem tb79:V8 Tryz.prog 79=some ([.int .i64 0,.string ⟨#[]⟩,.slice none 0 0,.slice none 0 0],[(0,1),(1,1),(2,1),(3,1)]):=kr_
@[go_sem] theorem tb81:V8 Tryz.prog 81=some ([.string ⟨#[]⟩,.int .i64 0,.int .i64 0,.int .i64 0,.string ⟨#[]⟩,.slice none 0 0,.slice none 0 0],[(0,1),(1,1),(2,1),(3,4)]):=kr_
@[go_sem] theorem go45:isGo Tryz.prog 45=true:=kr_
@[go_sem] theorem fr20:Tryz.f20.results.toList=[.cell 4 25]:=kr_
@[go_sem] theorem fn20:Tryz.f20.ntmps=98:=kr_
@[go_sem] theorem go46:isGo Tryz.prog 46=true:=kr_
@[go_sem] theorem go47:isGo Tryz.prog 47=true:=kr_
@[go_sem] theorem fr21:Tryz.f21.results.toList=[.tmp 4]:=kr_
@[go_sem] theorem fn21:Tryz.f21.ntmps=25:=kr_
@[go_sem] theorem go48:isGo Tryz.prog 48=true:=kr_
@[go_sem] theorem fr22:Tryz.f22.results.toList=[.tmp 4,.tmp 5,.tmp 6]:=kr_
@[go_sem] theorem fn22:Tryz.f22.ntmps=29:=kr_
@[go_sem] theorem go49:isGo Tryz.prog 49=true:=kr_
@[go_sem] theorem go50:isGo Tryz.prog 50=true:=kr_
@[go_sem] theorem fr23:Tryz.f23.results.toList=[.cell 6 31,.tmp 7]:=kr_
@[go_sem] theorem fn23:Tryz.f23.ntmps=33:=kr_
@[go_sem] theorem fr24:Tryz.f24.results.toList=[.tmp 4]:=kr_
@[go_sem] theorem fn24:Tryz.f24.ntmps=11:=kr_
@[go_sem] theorem go51:isGo Tryz.prog 51=true:=kr_
@[go_sem] theorem fr25:Tryz.f25.results.toList=[.cell 2 34]:=kr_
@[go_sem] theorem fn25:Tryz.f25.ntmps=9:=kr_
@[go_sem] theorem go52:isGo Tryz.prog 52=true:=kr_
@[go_sem] theorem fr26:Tryz.f26.results.toList=[.cell 4 34]:=kr_
@[go_sem] theorem fn26:Tryz.f26.ntmps=20:=kr_
@[go_sem] theorem fr27:Tryz.f27.results.toList=[.tmp 4]:=kr_
@[go_sem] theorem fn27:Tryz.f27.ntmps=33:=kr_
@[go_sem] theorem go53:isGo Tryz.prog 53=true:=kr_
@[go_sem] theorem go54:isGo Tryz.prog 54=true:=kr_
@[go_sem] theorem fr28:Tryz.f28.results.toList=[.tmp 4]:=kr_
@[go_sem] theorem fn28:Tryz.f28.ntmps=17:=kr_
@[go_sem] theorem go55:isGo Tryz.prog 55=true:=kr_
@[go_sem] theorem fr29:Tryz.f29.results.toList=[.tmp 2]:=kr_
@[go_sem] theorem fn29:Tryz.f29.ntmps=24:=kr_
@[go_sem] theorem go56:isGo Tryz.prog 56=true:=kr_
@[go_sem] theorem fr30:Tryz.f30.results.toList=[.cell 4 34]:=kr_
@[go_sem] theorem fn30:Tryz.f30.ntmps=20:=kr_
@[go_sem] theorem go57:isGo Tryz.prog 57=true:=kr_
@[go_sem] theorem go58:isGo Tryz.prog 58=true:=kr_
@[go_sem] theorem go59:isGo Tryz.prog 59=true:=kr_
@[go_sem] theorem go60:isGo Tryz.prog 60=true:=kr_
@[go_sem] theorem fr31:Tryz.f31.results.toList=[.tmp 2]:=kr_
@[go_sem] theorem fn31:Tryz.f31.ntmps=72:=kr_
@[go_sem] theorem fr32:Tryz.f32.results.toList=[.tmp 2]:=kr_
@[go_sem] theorem fn32:Tryz.f32.ntmps=9:=kr_
@[go_sem] theorem ch0:tAgg Tryz.prog 100=some false:=kr_
@[go_sem] theorem cg6:F4 Tryz.prog 100=some 1:=kr_
@[go_sem] theorem cg8:x8 Tryz.prog 100=true:=kr_
@[go_sem] theorem cg9:Q6 Tryz.prog 100=some 77:=kr_
@[go_sem] theorem cg7:D8 Tryz.prog 100=some (77,1,24):=kr_
@[go_sem] theorem cg5:H8 Tryz.prog 100=false:=kr_
@[go_sem] theorem cg3:(Tryz.prog.underlying 100).isSome=true:=kr_
@[go_sem] theorem tz60:O6 Tryz.prog 60=some [.int .i64 0,.int .i64 0,.string ⟨#[]⟩,.slice none 0 0]:=kr_
@[go_sem] theorem go61:isGo Tryz.prog 61=true:=kr_
@[go_sem] theorem go62:isGo Tryz.prog 62=true:=kr_
@[go_sem] theorem go63:isGo Tryz.prog 63=true:=kr_
@[go_sem] theorem go64:isGo Tryz.prog 64=true:=kr_
@[go_sem] theorem go65:isGo Tryz.prog 65=true:=kr_
@[go_sem] theorem fr33:Tryz.f33.results.toList=[.tmp 4]:=kr_
@[go_sem] theorem fn33:Tryz.f33.ntmps=134:=kr_
@[go_sem] theorem go66:isGo Tryz.prog 66=true:=kr_
@[go_sem] theorem go67:isGo Tryz.prog 67=true:=kr_
@[go_sem] theorem go68:isGo Tryz.prog 68=true:=kr_
@[go_sem] theorem fr34:Tryz.f34.results.toList=[.tmp 4,.tmp 5]:=kr_
@[go_sem] theorem fn34:Tryz.f34.ntmps=24:=kr_
@[go_sem] theorem go69:isGo Tryz.prog 69=true:=kr_
@[go_sem] theorem go70:isGo Tryz.prog 70=true:=kr_
@[go_sem] theorem fr35:Tryz.f35.results.toList=[.tmp 2]:=kr_
@[go_sem] theorem fn35:Tryz.f35.ntmps=28:=kr_
@[go_sem] theorem fr36:Tryz.f36.results.toList=[.tmp 2]:=kr_
@[go_sem] theorem fn36:Tryz.f36.ntmps=20:=kr_
@[go_sem] theorem go71:isGo Tryz.prog 71=true:=kr_
@[go_sem] theorem fr37:Tryz.f37.results.toList=[.tmp 4]:=kr_
@[go_sem] theorem fn37:Tryz.f37.ntmps=17:=kr_
@[go_sem] theorem bZ3:D7 Tryz.prog 111 0=some (0,22):=kr_
@[go_sem] theorem bZ2:D7 Tryz.prog 111 1=some (1,3):=kr_
@[go_sem] theorem bZ1:D7 Tryz.prog 111 2=some (2,3):=kr_
@[go_sem] theorem cs7:V8 Tryz.prog 111=some ([.slice none 0 0,.int .i64 0,.int .i64 0],[(0,1),(1,1),(2,1)]):=kr_
@[go_sem] theorem fr38:Tryz.f38.results.toList=[.tmp 2]:=kr_
@[go_sem] theorem fn38:Tryz.f38.ntmps=32:=kr_
@[go_sem] theorem fr39:Tryz.f39.results.toList=[.tmp 2]:=kr_
@[go_sem] theorem fn39:Tryz.f39.ntmps=58:=kr_
@[go_sem] theorem go72:isGo Tryz.prog 72=true:=kr_
@[go_sem] theorem go73:isGo Tryz.prog 73=true:=kr_
@[go_sem] theorem fr40:Tryz.f40.results.toList=[.tmp 2,.tmp 3]:=kr_
@[go_sem] theorem fn40:Tryz.f40.ntmps=99:=kr_
@[go_sem] theorem go74:isGo Tryz.prog 74=true:=kr_
@[go_sem] theorem go75:isGo Tryz.prog 75=true:=kr_
@[go_sem] theorem go76:isGo Tryz.prog 76=true:=kr_
@[go_sem] theorem fr41:Tryz.f41.results.toList=[.cell 2 81,.tmp 3]:=kr_
@[go_sem] theorem fn41:Tryz.f41.ntmps=99:=kr_
@[go_sem] theorem go77:isGo Tryz.prog 77=true:=kr_
@[go_sem] theorem go78:isGo Tryz.prog 78=true:=kr_
@[go_sem] theorem go79:isGo Tryz.prog 79=true:=kr_
@[go_sem] theorem fr42:Tryz.f42.results.toList=[.tmp 2]:=kr_
@[go_sem] theorem fn42:Tryz.f42.ntmps=60:=kr_
@[go_sem] theorem fr43:Tryz.f43.results.toList=[.tmp 4]:=kr_
@[go_sem] theorem fn43:Tryz.f43.ntmps=12:=kr_
@[go_sem] theorem go80:isGo Tryz.prog 80=true:=kr_
@[go_sem] theorem fr44:Tryz.f44.results.toList=[.tmp 4]:=kr_
@[go_sem] theorem fn44:Tryz.f44.ntmps=23:=kr_
@[go_sem] theorem go81:isGo Tryz.prog 81=true:=kr_
@[go_sem] theorem go82:isGo Tryz.prog 82=true:=kr_
@[go_sem] theorem fr45:Tryz.f45.results.toList=[.cell 10 79]:=kr_
@[go_sem] theorem fn45:Tryz.f45.ntmps=87:=kr_
@[go_sem] theorem go83:isGo Tryz.prog 83=true:=kr_
@[go_sem] theorem go84:isGo Tryz.prog 84=true:=kr_
@[go_sem] theorem fr46:Tryz.f46.results.toList=[.tmp 4]:=kr_
@[go_sem] theorem fn46:Tryz.f46.ntmps=50:=kr_
@[go_sem] theorem go85:isGo Tryz.prog 85=true:=kr_
@[go_sem] theorem go86:isGo Tryz.prog 86=true:=kr_
@[go_sem] theorem go87:isGo Tryz.prog 87=true:=kr_
@[go_sem] theorem fr47:Tryz.f47.results.toList=[.cell 6 60]:=kr_
@[go_sem] theorem fn47:Tryz.f47.ntmps=42:=kr_
@[go_sem] theorem go88:isGo Tryz.prog 88=true:=kr_
@[go_sem] theorem go89:isGo Tryz.prog 89=true:=kr_
@[go_sem] theorem fr48:Tryz.f48.results.toList=[.tmp 4,.tmp 5,.tmp 6]:=kr_
@[go_sem] theorem fn48:Tryz.f48.ntmps=23:=kr_
@[go_sem] theorem go90:isGo Tryz.prog 90=true:=kr_
@[go_sem] theorem go91:isGo Tryz.prog 91=true:=kr_
@[go_sem] theorem fr49:Tryz.f49.results.toList=[.tmp 4]:=kr_
@[go_sem] theorem fn49:Tryz.f49.ntmps=37:=kr_
@[go_sem] theorem aD8:O6 Tryz.prog 132=some [.string ⟨#[]⟩,.slice none 0 0,.int .i64 0,.slice none 0 0,.slice none 0 0,.slice none 0 0]:=kr_
@[go_sem] theorem go92:isGo Tryz.prog 92=true:=kr_
@[go_sem] theorem go93:isGo Tryz.prog 93=true:=kr_
@[go_sem] theorem go94:isGo Tryz.prog 94=true:=kr_
@[go_sem] theorem go95:isGo Tryz.prog 95=true:=kr_
@[go_sem] theorem fr50:Tryz.f50.results.toList=[.cell 8 31,.tmp 9]:=kr_
@[go_sem] theorem fn50:Tryz.f50.ntmps=92:=kr_
@[go_sem] theorem go96:isGo Tryz.prog 96=true:=kr_
@[go_sem] theorem fr51:Tryz.f51.results.toList=[.tmp 2]:=kr_
@[go_sem] theorem fn51:Tryz.f51.ntmps=20:=kr_
@[go_sem] theorem fr52:Tryz.f52.results.toList=[.tmp 4]:=kr_
@[go_sem] theorem fn52:Tryz.f52.ntmps=21:=kr_
@[go_sem] theorem fr53:Tryz.f53.results.toList=[.tmp 2]:=kr_
@[go_sem] theorem fn53:Tryz.f53.ntmps=9:=kr_
@[go_sem] theorem cf7:x8 Tryz.prog 136=true:=kr_
@[go_sem] theorem cf8:Q6 Tryz.prog 136=some 138:=kr_
@[go_sem] theorem cf6:D8 Tryz.prog 136=some (138,5,64):=kr_
@[go_sem] theorem cf5:(Tryz.prog.underlying 136).isSome=true:=kr_
@[go_sem] theorem cf4:tAgg Tryz.prog 138=some true:=kr_
@[go_sem] theorem cf3:F4 Tryz.prog 138=some 5:=kr_
@[go_sem] theorem bY5:D7 Tryz.prog 138 0=some (0,3):=kr_
@[go_sem] theorem bY4:D7 Tryz.prog 138 1=some (1,60):=kr_
@[go_sem] theorem cs5:V8 Tryz.prog 138=some ([.int .i64 0,.int .i64 0,.int .i64 0,.string ⟨#[]⟩,.slice none 0 0],[(0,1),(1,4)]):=kr_
@[go_sem] theorem go97:isGo Tryz.prog 97=true:=kr_
@[go_sem] theorem go98:isGo Tryz.prog 98=true:=kr_
@[go_sem] theorem fr54:Tryz.f54.results.toList=[.tmp 4]:=kr_
@[go_sem] theorem fn54:Tryz.f54.ntmps=139:=kr_
@[go_sem] theorem go99:isGo Tryz.prog 99=true:=kr_
@[go_sem] theorem fr55:Tryz.f55.results.toList=[.tmp 2]:=kr_
@[go_sem] theorem fn55:Tryz.f55.ntmps=20:=kr_
@[go_sem] theorem fr56:Tryz.f56.results.toList=[.tmp 4]:=kr_
@[go_sem] theorem fn56:Tryz.f56.ntmps=21:=kr_
@[go_sem] theorem cA3:isGo Tryz.prog 100=true:=kr_
@[go_sem] theorem fr57:Tryz.f57.results.toList=[.tmp 2]:=kr_
@[go_sem] theorem fn57:Tryz.f57.ntmps=16:=kr_
@[go_sem] theorem cf2:by1 Tryz.prog 141=some (false,.int .i64 0):=kr_
@[go_sem] theorem cA2:isGo Tryz.prog 101=true:=kr_
@[go_sem] theorem fr58:Tryz.f58.results.toList=[.tmp 4]:=kr_
@[go_sem] theorem fn58:Tryz.f58.ntmps=142:=kr_
@[go_sem] theorem cf0:x8 Tryz.prog 142=true:=kr_
@[go_sem] theorem cf1:Q6 Tryz.prog 142=some 3:=kr_
@[go_sem] theorem ce9:D8 Tryz.prog 142=some (3,1,8):=kr_
@[go_sem] theorem ce8:(Tryz.prog.underlying 142).isSome=true:=kr_
@[go_sem] theorem cA1:isGo Tryz.prog 102=true:=kr_
@[go_sem] theorem fr59:Tryz.f59.results.toList=[.tmp 4]:=kr_
@[go_sem] theorem fn59:Tryz.f59.ntmps=18:=kr_
@[go_sem] theorem tz4:O6 Tryz.prog 4=some [.bool false]:=kr_
@[go_sem] theorem cA0:isGo Tryz.prog 103=true:=kr_
@[go_sem] theorem fr60:Tryz.f60.results.toList=[.tmp 4]:=kr_
@[go_sem] theorem fn60:Tryz.f60.ntmps=10:=kr_
@[go_sem] theorem cz9:isGo Tryz.prog 105=true:=kr_
@[go_sem] theorem cz8:isGo Tryz.prog 106=true:=kr_
@[go_sem] theorem fr61:Tryz.f61.results.toList=[.tmp 2]:=kr_
@[go_sem] theorem fn61:Tryz.f61.ntmps=9:=kr_
@[go_sem] theorem fr62:Tryz.f62.results.toList=[.tmp 2,.tmp 3]:=kr_
@[go_sem] theorem fn62:Tryz.f62.ntmps=105:=kr_
@[go_sem] theorem cz7:isGo Tryz.prog 107=true:=kr_
@[go_sem] theorem fr63:Tryz.f63.results.toList=[.tmp 4]:=kr_
@[go_sem] theorem fn63:Tryz.f63.ntmps=20:=kr_
@[go_sem] theorem cz6:isGo Tryz.prog 108=true:=kr_
@[go_sem] theorem fr64:Tryz.f64.results.toList=[.cell 4 34]:=kr_
@[go_sem] theorem fn64:Tryz.f64.ntmps=28:=kr_
@[go_sem] theorem cz5:isGo Tryz.prog 109=true:=kr_
@[go_sem] theorem cz4:isGo Tryz.prog 110=true:=kr_
@[go_sem] theorem fr65:Tryz.f65.results.toList=[.tmp 4]:=kr_
@[go_sem] theorem fn65:Tryz.f65.ntmps=83:=kr_
@[go_sem] theorem cz3:isGo Tryz.prog 111=true:=kr_
@[go_sem] theorem fr66:Tryz.f66.results.toList=[.tmp 2]:=kr_
@[go_sem] theorem fn66:Tryz.f66.ntmps=9:=kr_
@[go_sem] theorem cz2:isGo Tryz.prog 112=true:=kr_
@[go_sem] theorem fr67:Tryz.f67.results.toList=[.tmp 2]:=kr_
@[go_sem] theorem fn67:Tryz.f67.ntmps=38:=kr_
@[go_sem] theorem ce6:x8 Tryz.prog 149=true:=kr_
@[go_sem] theorem ce7:Q6 Tryz.prog 149=some 100:=kr_
@[go_sem] theorem ce5:D8 Tryz.prog 149=some (100,1,24):=kr_
@[go_sem] theorem ce4:(Tryz.prog.underlying 149).isSome=true:=kr_
@[go_sem] theorem cs6:V8 Tryz.prog 132=some ([.string ⟨#[]⟩,.slice none 0 0,.int .i64 0,.slice none 0 0,.slice none 0 0,.slice none 0 0],[(0,2),(2,1),(3,1),(4,1),(5,1)]):=kr_
@[go_sem] theorem cz1:isGo Tryz.prog 113=true:=kr_
@[go_sem] theorem cz0:isGo Tryz.prog 114=true:=kr_
@[go_sem] theorem fr68:Tryz.f68.results.toList=[.tmp 4,.tmp 5]:=kr_
@[go_sem] theorem fn68:Tryz.f68.ntmps=185:=kr_
@[go_sem] theorem cy9:isGo Tryz.prog 115=true:=kr_
@[go_sem] theorem cy8:isGo Tryz.prog 116=true:=kr_
@[go_sem] theorem fr69:Tryz.f69.results.toList=[.tmp 4]:=kr_
@[go_sem] theorem fn69:Tryz.f69.ntmps=58:=kr_
@[go_sem] theorem fr70:Tryz.f70.results.toList=[.tmp 4]:=kr_
@[go_sem] theorem fn70:Tryz.f70.ntmps=27:=kr_
@[go_sem] theorem cy7:isGo Tryz.prog 117=true:=kr_
@[go_sem] theorem fr71:Tryz.f71.results.toList=[.tmp 4]:=kr_
@[go_sem] theorem fn71:Tryz.f71.ntmps=27:=kr_
@[go_sem] theorem fr72:Tryz.f72.results.toList=[.tmp 2]:=kr_
@[go_sem] theorem fn72:Tryz.f72.ntmps=21:=kr_
@[go_sem] theorem fr73:Tryz.f73.results.toList=[.tmp 6]:=kr_
@[go_sem] theorem fn73:Tryz.f73.ntmps=15:=kr_
@[go_sem] theorem cy6:isGo Tryz.prog 118=true:=kr_
@[go_sem] theorem cy5:isGo Tryz.prog 119=true:=kr_
@[go_sem] theorem fr74:Tryz.f74.results.toList=[.tmp 2,.tmp 3,.tmp 4]:=kr_
@[go_sem] theorem fn74:Tryz.f74.ntmps=77:=kr_
@[go_sem] theorem fr75:Tryz.f75.results.toList=[.tmp 2]:=kr_
@[go_sem] theorem fn75:Tryz.f75.ntmps=44:=kr_
@[go_sem] theorem cy4:isGo Tryz.prog 120=true:=kr_
@[go_sem] theorem cy3:isGo Tryz.prog 121=true:=kr_
@[go_sem] theorem fr76:Tryz.f76.results.toList=[.cell 4 79,.tmp 5,.tmp 6]:=kr_
@[go_sem] theorem fn76:Tryz.f76.ntmps=152:=kr_
@[go_sem] theorem fr77:Tryz.f77.results.toList=[.tmp 2]:=kr_
@[go_sem] theorem fn77:Tryz.f77.ntmps=17:=kr_
@[go_sem] theorem cy2:isGo Tryz.prog 122=true:=kr_
@[go_sem] theorem cy1:isGo Tryz.prog 123=true:=kr_
@[go_sem] theorem cy0:isGo Tryz.prog 124=true:=kr_
@[go_sem] theorem fr78:Tryz.f78.results.toList=[.tmp 6]:=kr_
@[go_sem] theorem fn78:Tryz.f78.ntmps=32:=kr_
@[go_sem] theorem cx9:isGo Tryz.prog 125=true:=kr_
@[go_sem] theorem fr79:Tryz.f79.results.toList=[.tmp 2]:=kr_
@[go_sem] theorem fn79:Tryz.f79.ntmps=8:=kr_
@[go_sem] theorem fr80:Tryz.f80.results.toList=[.tmp 4]:=kr_
@[go_sem] theorem fn80:Tryz.f80.ntmps=31:=kr_
@[go_sem] theorem cx8:isGo Tryz.prog 126=true:=kr_
@[go_sem] theorem fr81:Tryz.f81.results.toList=[.cell 6 79]:=kr_
@[go_sem] theorem fn81:Tryz.f81.ntmps=54:=kr_
@[go_sem] theorem fr82:Tryz.f82.results.toList=[.cell 6 79]:=kr_
@[go_sem] theorem fn82:Tryz.f82.ntmps=11:=kr_
@[go_sem] theorem cx7:isGo Tryz.prog 127=true:=kr_
@[go_sem] theorem fr83:Tryz.f83.results.toList=[.tmp 4]:=kr_
@[go_sem] theorem fn83:Tryz.f83.ntmps=68:=kr_
@[go_sem] theorem fr84:Tryz.f84.results.toList=[.tmp 4]:=kr_
@[go_sem] theorem fn84:Tryz.f84.ntmps=9:=kr_
@[go_sem] theorem tb60:V8 Tryz.prog 60=some ([.int .i64 0,.int .i64 0,.string ⟨#[]⟩,.slice none 0 0],[(0,1),(1,1),(2,1),(3,1)]):=kr_
@[go_sem] theorem fr85:Tryz.f85.results.toList=[.cell 4 60]:=kr_
@[go_sem] theorem fn85:Tryz.f85.ntmps=9:=kr_
@[go_sem] theorem fr86:Tryz.f86.results.toList=[.cell 2 60]:=kr_
@[go_sem] theorem fn86:Tryz.f86.ntmps=5:=kr_
@[go_sem] theorem cx6:isGo Tryz.prog 128=true:=kr_
@[go_sem] theorem fr87:Tryz.f87.results.toList=[.cell 2 60]:=kr_
@[go_sem] theorem fn87:Tryz.f87.ntmps=19:=kr_
@[go_sem] theorem cx5:isGo Tryz.prog 129=true:=kr_
@[go_sem] theorem cx4:isGo Tryz.prog 130=true:=kr_
@[go_sem] theorem cx3:isGo Tryz.prog 131=true:=kr_
@[go_sem] theorem cx2:isGo Tryz.prog 132=true:=kr_
@[go_sem] theorem fr88:Tryz.f88.results.toList=[.tmp 4,.tmp 5]:=kr_
@[go_sem] theorem fn88:Tryz.f88.ntmps=135:=kr_
@[go_sem] theorem cx1:isGo Tryz.prog 133=true:=kr_
@[go_sem] theorem fr89:Tryz.f89.results.toList=[.tmp 2]:=kr_
@[go_sem] theorem fn89:Tryz.f89.ntmps=27:=kr_
@[go_sem] theorem fr90:Tryz.f90.results.toList=[.tmp 4]:=kr_
@[go_sem] theorem fn90:Tryz.f90.ntmps=11:=kr_
@[go_sem] theorem cx0:isGo Tryz.prog 134=true:=kr_
@[go_sem] theorem cw9:isGo Tryz.prog 135=true:=kr_
@[go_sem] theorem fr91:Tryz.f91.results.toList=[.tmp 2]:=kr_
@[go_sem] theorem fn91:Tryz.f91.ntmps=11:=kr_
@[go_sem] theorem cw8:isGo Tryz.prog 136=true:=kr_
@[go_sem] theorem fr92:Tryz.f92.results.toList=[.tmp 4]:=kr_
@[go_sem] theorem fn92:Tryz.f92.ntmps=19:=kr_
@[go_sem] theorem cw7:isGo Tryz.prog 137=true:=kr_
@[go_sem] theorem fr93:Tryz.f93.results.toList=[.tmp 4]:=kr_
@[go_sem] theorem fn93:Tryz.f93.ntmps=21:=kr_
@[go_sem] theorem fr94:Tryz.f94.results.toList=[.tmp 6]:=kr_
@[go_sem] theorem fn94:Tryz.f94.ntmps=34:=kr_
@[go_sem] theorem fr95:Tryz.f95.results.toList=[.tmp 4]:=kr_
@[go_sem] theorem fn95:Tryz.f95.ntmps=28:=kr_
@[go_sem] theorem fr96:Tryz.f96.results.toList=[.cell 2 60]:=kr_
@[go_sem] theorem fn96:Tryz.f96.ntmps=25:=kr_
@[go_sem] theorem cw6:isGo Tryz.prog 138=true:=kr_
@[go_sem] theorem cw5:isGo Tryz.prog 139=true:=kr_
@[go_sem] theorem fr97:Tryz.f97.results.toList=[.tmp 2,.tmp 3]:=kr_
@[go_sem] theorem fn97:Tryz.f97.ntmps=30:=kr_
@[go_sem] theorem cq7:O6 Tryz.prog 138=some [.int .i64 0,.int .i64 0,.int .i64 0,.string ⟨#[]⟩,.slice none 0 0]:=kr_
@[go_sem] theorem cw4:isGo Tryz.prog 140=true:=kr_
@[go_sem] theorem cw3:isGo Tryz.prog 141=true:=kr_
@[go_sem] theorem fr98:Tryz.f98.results.toList=[.cell 8 132,.tmp 9]:=kr_
@[go_sem] theorem fn98:Tryz.f98.ntmps=91:=kr_
@[go_sem] theorem fr99:Tryz.f99.results.toList=[.cell 2 60]:=kr_
@[go_sem] theorem fn99:Tryz.f99.ntmps=29:=kr_
@[go_sem] theorem cI4:Tryz.f100.results.toList=[.tmp 2]:=kr_
@[go_sem] theorem cQ1:Tryz.f100.ntmps=57:=kr_
@[go_sem] theorem cI3:Tryz.f101.results.toList=[.tmp 2]:=kr_
@[go_sem] theorem cQ0:Tryz.f101.ntmps=15:=kr_
@[go_sem] theorem ce3:tAgg Tryz.prog 167=some false:=kr_
@[go_sem] theorem ce1:F4 Tryz.prog 167=some 1:=kr_
@[go_sem] theorem bY3:az8 Tryz.prog 167=true:=kr_
@[go_sem] theorem ce2:by1 Tryz.prog 167=some (false,.bool false):=kr_
@[go_sem] theorem cq6:O6 Tryz.prog 167=some [.map none]:=kr_
@[go_sem] theorem cw1:isGo Tryz.prog 145=true:=kr_
@[go_sem] theorem cI2:Tryz.f102.results.toList=[.tmp 2]:=kr_
@[go_sem] theorem cP9:Tryz.f102.ntmps=10:=kr_
@[go_sem] theorem cI1:Tryz.f103.results.toList=[]:=kr_
@[go_sem] theorem cP8:Tryz.f103.ntmps=20:=kr_
@[go_sem] theorem cI0:Tryz.f104.results.toList=[]:=kr_
@[go_sem] theorem cP7:Tryz.f104.ntmps=26:=kr_
@[go_sem] theorem cw0:isGo Tryz.prog 146=true:=kr_
@[go_sem] theorem cH9:Tryz.f105.results.toList=[.tmp 2]:=kr_
@[go_sem] theorem cP6:Tryz.f105.ntmps=6:=kr_
@[go_sem] theorem cw2:isGo Tryz.prog 143=true:=kr_
@[go_sem] theorem cH8:Tryz.f106.results.toList=[.tmp 2]:=kr_
@[go_sem] theorem cP5:Tryz.f106.ntmps=8:=kr_
@[go_sem] theorem cv9:isGo Tryz.prog 148=true:=kr_
@[go_sem] theorem cH7:Tryz.f107.results.toList=[.tmp 4]:=kr_
@[go_sem] theorem cP4:Tryz.f107.ntmps=36:=kr_
@[go_sem] theorem cv8:isGo Tryz.prog 149=true:=kr_
@[go_sem] theorem cH6:Tryz.f108.results.toList=[.cell 4 60]:=kr_
@[go_sem] theorem cP3:Tryz.f108.ntmps=8:=kr_
@[go_sem] theorem cH5:Tryz.f109.results.toList=[.tmp 4]:=kr_
@[go_sem] theorem cP2:Tryz.f109.ntmps=9:=kr_
@[go_sem] theorem cH4:Tryz.f110.results.toList=[.tmp 4]:=kr_
@[go_sem] theorem cP1:Tryz.f110.ntmps=31:=kr_
@[go_sem] theorem cv7:isGo Tryz.prog 151=true:=kr_
@[go_sem] theorem cH3:Tryz.f111.results.toList=[.tmp 2]:=kr_
@[go_sem] theorem cP0:Tryz.f111.ntmps=16:=kr_
@[go_sem] theorem cH2:Tryz.f112.results.toList=[.tmp 4]:=kr_
@[go_sem] theorem cO9:Tryz.f112.ntmps=60:=kr_
@[go_sem] theorem cH1:Tryz.f113.results.toList=[.tmp 6]:=kr_
@[go_sem] theorem cO8:Tryz.f113.ntmps=26:=kr_
@[go_sem] theorem cH0:Tryz.f114.results.toList=[.tmp 4]:=kr_
@[go_sem] theorem cO7:Tryz.f114.ntmps=32:=kr_
@[go_sem] theorem ce0:tAgg Tryz.prog 176=some false:=kr_
@[go_sem] theorem cd9:F4 Tryz.prog 176=some 1:=kr_
@[go_sem] theorem cv6:isGo Tryz.prog 152=true:=kr_
@[go_sem] theorem cG9:Tryz.f115.results.toList=[.tmp 4]:=kr_
@[go_sem] theorem cO6:Tryz.f115.ntmps=23:=kr_
@[go_sem] theorem cd8:tAgg Tryz.prog 178=some false:=kr_
@[go_sem] theorem cd7:F4 Tryz.prog 178=some 1:=kr_
@[go_sem] theorem tz39:O6 Tryz.prog 39=some [.slice none 0 0]:=kr_
@[go_sem] theorem cv5:isGo Tryz.prog 154=true:=kr_
@[go_sem] theorem cG8:Tryz.f116.results.toList=[.tmp 2]:=kr_
@[go_sem] theorem cO5:Tryz.f116.ntmps=40:=kr_
@[go_sem] theorem cG7:Tryz.f117.results.toList=[.tmp 4]:=kr_
@[go_sem] theorem cO4:Tryz.f117.ntmps=52:=kr_
@[go_sem] theorem cG6:Tryz.f118.results.toList=[.tmp 2,.tmp 3]:=kr_
@[go_sem] theorem cO3:Tryz.f118.ntmps=65:=kr_
@[go_sem] theorem cG5:Tryz.f119.results.toList=[.tmp 2]:=kr_
@[go_sem] theorem cO2:Tryz.f119.ntmps=44:=kr_
@[go_sem] theorem cG4:Tryz.f120.results.toList=[.tmp 0]:=kr_
@[go_sem] theorem cO1:Tryz.f120.ntmps=2:=kr_
@[go_sem] theorem cv4:isGo Tryz.prog 156=true:=kr_
@[go_sem] theorem cv3:isGo Tryz.prog 157=true:=kr_
@[go_sem] theorem cG3:Tryz.f121.results.toList=[.cell 4 60,.tmp 5,.tmp 6]:=kr_
@[go_sem] theorem cO0:Tryz.f121.ntmps=136:=kr_
@[go_sem] theorem cv2:isGo Tryz.prog 158=true:=kr_
@[go_sem] theorem cG2:Tryz.f122.results.toList=[.tmp 2]:=kr_
@[go_sem] theorem cN9:Tryz.f122.ntmps=10:=kr_
@[go_sem] theorem cG1:Tryz.f123.results.toList=[.tmp 4]:=kr_
@[go_sem] theorem cN8:Tryz.f123.ntmps=41:=kr_
@[go_sem] theorem cG0:Tryz.f124.results.toList=[.tmp 4]:=kr_
@[go_sem] theorem cN7:Tryz.f124.ntmps=32:=kr_
@[go_sem] theorem cF9:Tryz.f125.results.toList=[.tmp 4]:=kr_
@[go_sem] theorem cN6:Tryz.f125.ntmps=28:=kr_
@[go_sem] theorem cF8:Tryz.f126.results.toList=[.cell 2 60]:=kr_
@[go_sem] theorem cN5:Tryz.f126.ntmps=5:=kr_
@[go_sem] theorem cF7:Tryz.f127.results.toList=[.tmp 2]:=kr_
@[go_sem] theorem cN4:Tryz.f127.ntmps=4:=kr_
@[go_sem] theorem cF6:Tryz.f128.results.toList=[.cell 2 60]:=kr_
@[go_sem] theorem cN3:Tryz.f128.ntmps=5:=kr_
@[go_sem] theorem cF5:Tryz.f129.results.toList=[.tmp 2]:=kr_
@[go_sem] theorem cN2:Tryz.f129.ntmps=33:=kr_
@[go_sem] theorem cF4:Tryz.f130.results.toList=[.tmp 6]:=kr_
@[go_sem] theorem cN1:Tryz.f130.ntmps=23:=kr_
@[go_sem] theorem cF3:Tryz.f131.results.toList=[.tmp 6]:=kr_
@[go_sem] theorem cN0:Tryz.f131.ntmps=35:=kr_
@[go_sem] theorem cv0:isGo Tryz.prog 159=true:=kr_
@[go_sem] theorem cF2:Tryz.f132.results.toList=[.tmp 4]:=kr_
@[go_sem] theorem cM9:Tryz.f132.ntmps=28:=kr_
@[go_sem] theorem cu9:isGo Tryz.prog 160=true:=kr_
@[go_sem] theorem cF1:Tryz.f133.results.toList=[.tmp 6]:=kr_
@[go_sem] theorem cM8:Tryz.f133.ntmps=27:=kr_
@[go_sem] theorem cu8:isGo Tryz.prog 161=true:=kr_
@[go_sem] theorem cu7:isGo Tryz.prog 162=true:=kr_
@[go_sem] theorem cF0:Tryz.f134.results.toList=[.tmp 2]:=kr_
@[go_sem] theorem cM7:Tryz.f134.ntmps=10:=kr_
@[go_sem] theorem cu6:isGo Tryz.prog 163=true:=kr_
@[go_sem] theorem cE9:Tryz.f135.results.toList=[.tmp 4]:=kr_
@[go_sem] theorem cM6:Tryz.f135.ntmps=26:=kr_
@[go_sem] theorem cE8:Tryz.f136.results.toList=[.tmp 4]:=kr_
@[go_sem] theorem cM5:Tryz.f136.ntmps=18:=kr_
@[go_sem] theorem cE7:Tryz.f137.results.toList=[.tmp 4]:=kr_
@[go_sem] theorem cM4:Tryz.f137.ntmps=42:=kr_
@[go_sem] theorem cE6:Tryz.f138.results.toList=[.tmp 2]:=kr_
@[go_sem] theorem cM3:Tryz.f138.ntmps=99:=kr_
@[go_sem] theorem cu5:isGo Tryz.prog 164=true:=kr_
@[go_sem] theorem cE5:Tryz.f139.results.toList=[.tmp 2]:=kr_
@[go_sem] theorem cM2:Tryz.f139.ntmps=20:=kr_
@[go_sem] theorem cu4:isGo Tryz.prog 165=true:=kr_
@[go_sem] theorem cE4:Tryz.f140.results.toList=[.cell 4 79]:=kr_
@[go_sem] theorem cM1:Tryz.f140.ntmps=48:=kr_
@[go_sem] theorem cu3:isGo Tryz.prog 166=true:=kr_
@[go_sem] theorem cE3:Tryz.f141.results.toList=[.tmp 2]:=kr_
@[go_sem] theorem cM0:Tryz.f141.ntmps=59:=kr_
@[go_sem] theorem cE2:Tryz.f142.results.toList=[]:=kr_
@[go_sem] theorem cL9:Tryz.f142.ntmps=16:=kr_
@[go_sem] theorem cE1:Tryz.f143.results.toList=[]:=kr_
@[go_sem] theorem cL8:Tryz.f143.ntmps=26:=kr_
@[go_sem] theorem cE0:Tryz.f144.results.toList=[]:=kr_
@[go_sem] theorem cL7:Tryz.f144.ntmps=5:=kr_
@[go_sem] theorem cu2:isGo Tryz.prog 167=true:=kr_
@[go_sem] theorem cD9:Tryz.f145.results.toList=[.tmp 2]:=kr_
@[go_sem] theorem cL6:Tryz.f145.ntmps=19:=kr_
@[go_sem] theorem cD8:Tryz.f146.results.toList=[.tmp 4]:=kr_
@[go_sem] theorem cL5:Tryz.f146.ntmps=107:=kr_
@[go_sem] theorem cD7:Tryz.f147.results.toList=[]:=kr_
@[go_sem] theorem cL4:Tryz.f147.ntmps=3:=kr_
@[go_sem] theorem cD6:Tryz.f148.results.toList=[.tmp 4]:=kr_
@[go_sem] theorem cL3:Tryz.f148.ntmps=11:=kr_
@[go_sem] theorem cu1:isGo Tryz.prog 168=true:=kr_
@[go_sem] theorem cD5:Tryz.f149.results.toList=[.cell 4 60]:=kr_
@[go_sem] theorem cL2:Tryz.f149.ntmps=38:=kr_
@[go_sem] theorem cD4:Tryz.f150.results.toList=[.cell 3 60,.tmp 4]:=kr_
@[go_sem] theorem cL1:Tryz.f150.ntmps=9:=kr_
@[go_sem] theorem cu0:isGo Tryz.prog 169=true:=kr_
@[go_sem] theorem cD3:Tryz.f151.results.toList=[.tmp 2]:=kr_
@[go_sem] theorem cL0:Tryz.f151.ntmps=5:=kr_
@[go_sem] theorem cg2:bI9 Tryz.prog 112=some Go.IntKind.u64:=kr_
@[go_sem] theorem cg1:(Tryz.prog.underlying 112).isSome=true:=kr_
@[go_sem] theorem cD2:Tryz.f152.results.toList=[.tmp 4]:=kr_
@[go_sem] theorem cK9:Tryz.f152.ntmps=26:=kr_
@[go_sem] theorem cD1:Tryz.f153.results.toList=[.tmp 4]:=kr_
@[go_sem] theorem cK8:Tryz.f153.ntmps=12:=kr_
@[go_sem] theorem cD0:Tryz.f155.results.toList=[.tmp 5]:=kr_
@[go_sem] theorem cK7:Tryz.f155.ntmps=16:=kr_
@[go_sem] theorem cC9:Tryz.f156.results.toList=[.cell 2 60,.tmp 3]:=kr_
@[go_sem] theorem cK6:Tryz.f156.ntmps=39:=kr_
@[go_sem] theorem cC8:Tryz.f157.results.toList=[.cell 4 60]:=kr_
@[go_sem] theorem cK5:Tryz.f157.ntmps=20:=kr_
@[go_sem] theorem ct9:isGo Tryz.prog 175=true:=kr_
@[go_sem] theorem cC7:Tryz.f158.results.toList=[.tmp 2]:=kr_
@[go_sem] theorem cK4:Tryz.f158.ntmps=106:=kr_
@[go_sem] theorem cC6:Tryz.f159.results.toList=[.tmp 4]:=kr_
@[go_sem] theorem cK3:Tryz.f159.ntmps=17:=kr_
@[go_sem] theorem cC5:Tryz.f160.results.toList=[.tmp 4]:=kr_
@[go_sem] theorem cK2:Tryz.f160.ntmps=51:=kr_
@[go_sem] theorem cC4:Tryz.f161.results.toList=[.tmp 4]:=kr_
@[go_sem] theorem cK1:Tryz.f161.ntmps=28:=kr_
@[go_sem] theorem cC3:Tryz.f162.results.toList=[.tmp 2]:=kr_
@[go_sem] theorem cK0:Tryz.f162.ntmps=76:=kr_
@[go_sem] theorem cC2:Tryz.f163.results.toList=[.tmp 4]:=kr_
@[go_sem] theorem cJ9:Tryz.f163.ntmps=49:=kr_
@[go_sem] theorem cC1:Tryz.f164.results.toList=[.cell 2 79]:=kr_
@[go_sem] theorem cJ8:Tryz.f164.ntmps=30:=kr_
@[go_sem] theorem ct8:isGo Tryz.prog 176=true:=kr_
@[go_sem] theorem cC0:Tryz.f165.results.toList=[.cell 4 60]:=kr_
@[go_sem] theorem cJ7:Tryz.f165.ntmps=36:=kr_
@[go_sem] theorem cB9:Tryz.f166.results.toList=[.tmp 4]:=kr_
@[go_sem] theorem cJ6:Tryz.f166.ntmps=27:=kr_
@[go_sem] theorem cB8:Tryz.f168.results.toList=[.cell 4 60]:=kr_
@[go_sem] theorem cJ5:Tryz.f168.ntmps=9:=kr_
@[go_sem] theorem cB7:Tryz.f169.results.toList=[.tmp 4]:=kr_
@[go_sem] theorem cJ4:Tryz.f169.ntmps=10:=kr_
@[go_sem] theorem cB6:Tryz.f170.results.toList=[.tmp 2]:=kr_
@[go_sem] theorem cJ3:Tryz.f170.ntmps=5:=kr_
@[go_sem] theorem cd6:tAgg Tryz.prog 194=some false:=kr_
@[go_sem] theorem cd5:F4 Tryz.prog 194=some 1:=kr_
@[go_sem] theorem cd4:tAgg Tryz.prog 198=some true:=kr_
@[go_sem] theorem cd3:F4 Tryz.prog 198=some 2:=kr_
@[go_sem] theorem bY2:D7 Tryz.prog 198 0=some (0,178):=kr_
@[go_sem] theorem bY1:D7 Tryz.prog 198 1=some (1,194):=kr_
@[go_sem] theorem ct7:isGo Tryz.prog 188=true:=kr_
@[go_sem] theorem ct6:isGo Tryz.prog 189=true:=kr_
@[go_sem] theorem cB5:Tryz.f173.results.toList=[]:=kr_
@[go_sem] theorem cJ2:Tryz.f173.ntmps=57:=kr_
@[go_sem] theorem cB4:Tryz.f175.results.toList=[.tmp 2]:=kr_
@[go_sem] theorem cJ1:Tryz.f175.ntmps=15:=kr_
@[go_sem] theorem cA9:Tryz.f176.results.toList=[.cell 4 60,.tmp 5]:=kr_
@[go_sem] theorem cJ0:Tryz.f176.ntmps=22:=kr_
@[go_sem] theorem cA8:Tryz.f178.results.toList=[]:=kr_
@[go_sem] theorem cI9:Tryz.f178.ntmps=11:=kr_
@[go_sem] theorem cA7:Tryz.f188.results.toList=[]:=kr_
@[go_sem] theorem cI8:Tryz.f188.ntmps=35:=kr_
@[go_sem] theorem ct5:isGo Tryz.prog 192=true:=kr_
@[go_sem] theorem cA6:Tryz.f189.results.toList=[]:=kr_
@[go_sem] theorem cI7:Tryz.f189.ntmps=177:=kr_
@[go_sem] theorem ct4:isGo Tryz.prog 204=true:=kr_
@[go_sem] theorem cA5:Tryz.f192.results.toList=[]:=kr_
@[go_sem] theorem cI6:Tryz.f192.ntmps=53:=kr_
@[go_sem] theorem cA4:Tryz.f204.results.toList=[]:=kr_
@[go_sem] theorem cI5:Tryz.f204.ntmps=23:=kr_
end Go.Proofs.YtmfkcdelddmfpaaGreat
