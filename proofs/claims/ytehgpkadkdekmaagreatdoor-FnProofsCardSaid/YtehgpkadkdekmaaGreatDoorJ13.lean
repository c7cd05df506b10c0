import Derived.Test.YtehgpkadkdekmaaGreatDoorJ12
import Derived.Test.YtehgpkadkdekmaaGreatDoorProg
import Derived.KernelRfl
open Go.Proofs.Tryz renaming prog->p_
namespace Go.Proofs.YtehgpkadkdekmaaGreatDoor
open Go.Abs
theorem mixed:p_.follows .mixedOrders=true:=by kernel_rfl
theorem kr_ {α:Sort _}{a b:α}(h:a=b:=by kernel_rfl):a=b:=h
theorem A7 {p:Prop}(h:p:=by refine⟨by simp[mkS],by simp[mkS],by simp only[mkS,List.all_cons,List.all_nil,O.refsLt,C.refsLt,C.refsLt1,l7];first | done | rfl | (simp;done),?_⟩;simp[mkS,Abs.get,C.refsLtT,C.refsLt,C.refsLt1]):p:=h
theorem ai2 {p:Prop}(h:p:=by refine⟨by simp[mkS,h.len],by simp only[mkS,List.length_append,List.length_cons,List.length_nil,h.len,h.tkj,h.tk0,h.tk];first | done | rfl | (simp;done),by simp[mkS,O.refsLt,C.refsLt,C.refsLt1,h.len,h.refs,h.refsj,h.hcaps,h.capsj,h.hcaps2,h.capsj2,l7,O9,-List.all_eq_true],?_⟩;simp[mkS,Abs.get,C.refsLtT,C.refsLt,C.refsLt1,h.len,h.hcaps,h.capsj,h.hcaps2,h.capsj2,-List.all_eq_true]):p:=h
theorem I7 {p:Prop}(h:p:=by refine⟨by simp[mkS],by simp[mkS],by simp[mkS,O.refsLt,C.refsLt,C.refsLt1],?_⟩;simp[mkS,Abs.get,C.refsLtT,C.refsLt,C.refsLt1]):p:=h
theorem bV2 {p:Prop}(h:p:=by refine⟨by simp[mkS,h.len],by simp only[mkS,List.length_append,List.length_cons,List.length_nil,h.len,h.tkj,h.tk0,h.tk];first | done | rfl | (simp;done),by simp[mkS,O.refsLt,C.refsLt,C.refsLt1,h.len,h.refs,h.refsj,l7,O9,-List.all_eq_true],?_⟩;simp[mkS,Abs.get,C.refsLtT,C.refsLt,C.refsLt1,h.len,h.hcaps,h.capsj,-List.all_eq_true]):p:=h
theorem rS_ {f:FuncId}{n n0:Nat}{R:C->List O->Prop}{fn:Func}(hf:p_.funcs[f]? = some fn){k:List Item}{s:St}(h:run p_ f n n0 R fn.results.toList 200 k s)(hk:k.all aj6=true:=by kernel_rfl):AW p_ f n n0 R k s:=l9 hf mixed 200 k s hk h
theorem aE_ {f:FuncId}{fn:Func}{c:Code}{args:List C}{H:List O}{R:C->List O->Prop}(hf:p_.funcs[f]? = some fn)(h:AW p_ f fn.ntmps H.length R [.code c] ⟨(List.range args.length).zip args,H⟩)(hb:fn.body=some c:=by rfl)(hn:args.length<=fn.ntmps:=by exact Nat.le_of_ble_eq_true rfl):ACalls p_ f args H R:=ACalls.enter hf hb hn h
@[go_sem] theorem cy8:tAgg p_ 3=some false:=kr_
@[go_sem] theorem cy6:D9 p_ 3=some 1:=kr_
@[go_sem] theorem cy7:bM5 p_ 3=some Go.IntKind.i64:=kr_
@[go_sem] theorem cy5:(p_.underlying 3).isSome=true:=kr_
@[go_sem] theorem cy4:tAgg p_ 4=some false:=kr_
@[go_sem] theorem cy3:D9 p_ 4=some 1:=kr_
@[go_sem] theorem cy2:tAgg p_ 5=some false:=kr_
@[go_sem] theorem cy0:D9 p_ 5=some 1:=kr_
@[go_sem] theorem cy1:bM5 p_ 5=some Go.IntKind.u8:=kr_
@[go_sem] theorem cx9:(p_.underlying 5).isSome=true:=kr_
@[go_sem] theorem cx8:tAgg p_ 9=some false:=kr_
@[go_sem] theorem cx6:D9 p_ 9=some 1:=kr_
@[go_sem] theorem cx5:F9 p_ 9=true:=kr_
@[go_sem] theorem cx7:q9 p_ 9=false:=kr_
@[go_sem] theorem cx4:(p_.underlying 9).isSome=true:=kr_
@[go_sem] theorem cw3:tAgg p_ 22=some false:=kr_
@[go_sem] theorem cv8:D9 p_ 22=some 1:=kr_
@[go_sem] theorem cw0:q9 p_ 22=true:=kr_
@[go_sem] theorem cw1:Q9 p_ 22=some 5:=kr_
@[go_sem] theorem cv9:D6 p_ 22=some (5,1,1):=kr_
@[go_sem] theorem cw2:aE3 p_ 22=true:=kr_
@[go_sem] theorem cv7:tAgg p_ 23=some false:=kr_
@[go_sem] theorem cv3:D9 p_ 23=some 1:=kr_
@[go_sem] theorem cv5:q9 p_ 23=true:=kr_
@[go_sem] theorem cv6:Q9 p_ 23=some 94:=kr_
@[go_sem] theorem cv4:D6 p_ 23=some (94,7,104):=kr_
@[go_sem] theorem cv2:F9 p_ 23=false:=kr_
@[go_sem] theorem cv0:(p_.underlying 23).isSome=true:=kr_
@[go_sem] theorem cu9:tAgg p_ 25=some true:=kr_
@[go_sem] theorem cu8:D9 p_ 25=some 1:=kr_
@[go_sem] theorem ci8:C8 p_ 25 0=some (0,23):=kr_
@[go_sem] theorem cu7:tAgg p_ 27=some false:=kr_
@[go_sem] theorem cu3:D9 p_ 27=some 1:=kr_
@[go_sem] theorem cu5:q9 p_ 27=true:=kr_
@[go_sem] theorem cu6:Q9 p_ 27=some 47:=kr_
@[go_sem] theorem cu4:D6 p_ 27=some (47,4,56):=kr_
@[go_sem] theorem cu2:F9 p_ 27=false:=kr_
@[go_sem] theorem cu1:(p_.underlying 27).isSome=true:=kr_
@[go_sem] theorem cu0:tAgg p_ 29=some false:=kr_
@[go_sem] theorem ct6:D9 p_ 29=some 1:=kr_
@[go_sem] theorem ct8:q9 p_ 29=true:=kr_
@[go_sem] theorem ct9:Q9 p_ 29=some 33:=kr_
@[go_sem] theorem ct7:D6 p_ 29=some (33,2,40):=kr_
@[go_sem] theorem ct5:F9 p_ 29=false:=kr_
@[go_sem] theorem ct4:(p_.underlying 29).isSome=true:=kr_
@[go_sem] theorem ct3:tAgg p_ 33=some true:=kr_
@[go_sem] theorem ct2:D9 p_ 33=some 2:=kr_
@[go_sem] theorem ci7:C8 p_ 33 0=some (0,9):=kr_
@[go_sem] theorem ci6:C8 p_ 33 1=some (1,27):=kr_
@[go_sem] theorem ct1:tAgg p_ 35=some false:=kr_
@[go_sem] theorem cs7:D9 p_ 35=some 1:=kr_
@[go_sem] theorem cs9:q9 p_ 35=true:=kr_
@[go_sem] theorem ct0:Q9 p_ 35=some 37:=kr_
@[go_sem] theorem cs8:D6 p_ 35=some (37,4,72):=kr_
@[go_sem] theorem cs6:F9 p_ 35=false:=kr_
@[go_sem] theorem cs5:(p_.underlying 35).isSome=true:=kr_
@[go_sem] theorem cs4:tAgg p_ 37=some true:=kr_
@[go_sem] theorem cs3:D9 p_ 37=some 4:=kr_
@[go_sem] theorem ci5:C8 p_ 37 0=some (0,9):=kr_
@[go_sem] theorem ci4:C8 p_ 37 1=some (1,3):=kr_
@[go_sem] theorem ci3:C8 p_ 37 2=some (2,27):=kr_
@[go_sem] theorem ci2:C8 p_ 37 3=some (3,35):=kr_
@[go_sem] theorem cr9:tAgg p_ 47=some true:=kr_
@[go_sem] theorem cr8:D9 p_ 47=some 4:=kr_
@[go_sem] theorem ci1:C8 p_ 47 0=some (0,3):=kr_
@[go_sem] theorem ci0:C8 p_ 47 1=some (1,3):=kr_
@[go_sem] theorem ch9:C8 p_ 47 2=some (2,9):=kr_
@[go_sem] theorem ch8:C8 p_ 47 3=some (3,27):=kr_
@[go_sem] theorem cp6:tAgg p_ 90=some false:=kr_
@[go_sem] theorem cp1:D9 p_ 90=some 1:=kr_
@[go_sem] theorem cp4:q9 p_ 90=true:=kr_
@[go_sem] theorem cp5:Q9 p_ 90=some 92:=kr_
@[go_sem] theorem cp3:D6 p_ 90=some (92,4,72):=kr_
@[go_sem] theorem cp0:F9 p_ 90=false:=kr_
@[go_sem] theorem co9:(p_.underlying 90).isSome=true:=kr_
@[go_sem] theorem co8:tAgg p_ 92=some true:=kr_
@[go_sem] theorem co7:D9 p_ 92=some 4:=kr_
@[go_sem] theorem ch4:C8 p_ 92 0=some (0,3):=kr_
@[go_sem] theorem ch3:C8 p_ 92 1=some (1,9):=kr_
@[go_sem] theorem ch2:C8 p_ 92 2=some (2,27):=kr_
@[go_sem] theorem ch1:C8 p_ 92 3=some (3,90):=kr_
@[go_sem] theorem co6:tAgg p_ 94=some true:=kr_
@[go_sem] theorem co5:D9 p_ 94=some 7:=kr_
@[go_sem] theorem ch0:C8 p_ 94 0=some (0,9):=kr_
@[go_sem] theorem cg9:C8 p_ 94 1=some (1,3):=kr_
@[go_sem] theorem cg8:C8 p_ 94 2=some (2,3):=kr_
@[go_sem] theorem cg7:C8 p_ 94 3=some (3,92):=kr_
@[go_sem] theorem tz25:N8 p_ 25=some [.slice none 0 0]:=kr_
@[go_sem] theorem tz33:N8 p_ 33=some [.string ⟨#[]⟩,.slice none 0 0]:=kr_
@[go_sem] theorem cx1:N8 p_ 37=some [.string ⟨#[]⟩,.int .i64 0,.slice none 0 0,.slice none 0 0]:=kr_
@[go_sem] theorem tz47:N8 p_ 47=some [.int .i64 0,.int .i64 0,.string ⟨#[]⟩,.slice none 0 0]:=kr_
@[go_sem] theorem go4:isGo p_ 4=true:=kr_
@[go_sem] theorem go5:isGo p_ 5=true:=kr_
@[go_sem] theorem go6:isGo p_ 6=true:=kr_
@[go_sem] theorem go7:isGo p_ 7=true:=kr_
@[go_sem] theorem go8:isGo p_ 8=true:=kr_
@[go_sem] theorem go9:isGo p_ 9=true:=kr_
@[go_sem] theorem go10:isGo p_ 10=true:=kr_
@[go_sem] theorem go11:isGo p_ 11=true:=kr_
@[go_sem] theorem go12:isGo p_ 12=true:=kr_
@[go_sem] theorem go13:isGo p_ 13=true:=kr_
@[go_sem] theorem go14:isGo p_ 14=true:=kr_
@[go_sem] theorem go15:isGo p_ 15=true:=kr_
@[go_sem] theorem go16:isGo p_ 16=true:=kr_
@[go_sem] theorem go17:isGo p_ 17=true:=kr_
@[go_sem] theorem fr3:Tryz.f3.results.toList=[.tmp 2]:=kr_
@[go_sem] theorem fn3:Tryz.f3.ntmps=152:=kr_
@[go_sem] theorem go18:isGo p_ 18=true:=kr_
@[go_sem] theorem go19:isGo p_ 19=true:=kr_
@[go_sem] theorem go20:isGo p_ 20=true:=kr_
@[go_sem] theorem go21:isGo p_ 21=true:=kr_
@[go_sem] theorem go22:isGo p_ 22=true:=kr_
@[go_sem] theorem go23:isGo p_ 23=true:=kr_
@[go_sem] theorem go24:isGo p_ 24=true:=kr_
@[go_sem] theorem go25:isGo p_ 25=true:=kr_
@[go_sem] theorem fr4:Tryz.f4.results.toList=[.cell 6 25]:=kr_
@[go_sem] theorem fn4:Tryz.f4.ntmps=45:=kr_
@[go_sem] theorem go26:isGo p_ 26=true:=kr_
@[go_sem] theorem fr5:Tryz.f5.results.toList=[.tmp 6]:=kr_
@[go_sem] theorem fn5:Tryz.f5.ntmps=12:=kr_
@[go_sem] theorem cr7:tAgg p_ 62=some false:=kr_
@[go_sem] theorem cr3:D9 p_ 62=some 1:=kr_
@[go_sem] theorem cr5:q9 p_ 62=true:=kr_
@[go_sem] theorem cr6:Q9 p_ 62=some 109:=kr_
@[go_sem] theorem cr4:D6 p_ 62=some (109,6,120):=kr_
@[go_sem] theorem cr2:(p_.underlying 62).isSome=true:=kr_
@[go_sem] theorem cr1:tAgg p_ 65=some false:=kr_
@[go_sem] theorem cq7:D9 p_ 65=some 1:=kr_
@[go_sem] theorem cq9:q9 p_ 65=true:=kr_
@[go_sem] theorem cr0:Q9 p_ 65=some 29:=kr_
@[go_sem] theorem cq8:D6 p_ 65=some (29,1,24):=kr_
@[go_sem] theorem cq6:(p_.underlying 65).isSome=true:=kr_
@[go_sem] theorem cm9:tAgg p_ 109=some true:=kr_
@[go_sem] theorem cm8:D9 p_ 109=some 6:=kr_
@[go_sem] theorem ce8:C8 p_ 109 0=some (0,33):=kr_
@[go_sem] theorem ce7:C8 p_ 109 1=some (2,3):=kr_
@[go_sem] theorem ce6:C8 p_ 109 2=some (3,27):=kr_
@[go_sem] theorem ce5:C8 p_ 109 3=some (4,29):=kr_
@[go_sem] theorem ce4:C8 p_ 109 4=some (5,29):=kr_
@[go_sem] theorem go27:isGo p_ 27=true:=kr_
@[go_sem] theorem go28:isGo p_ 28=true:=kr_
@[go_sem] theorem go29:isGo p_ 29=true:=kr_
@[go_sem] theorem fr6:Tryz.f6.results.toList=[.tmp 4,.tmp 5,.tmp 6]:=kr_
@[go_sem] theorem fn6:Tryz.f6.ntmps=30:=kr_
@[go_sem] theorem go30:isGo p_ 30=true:=kr_
@[go_sem] theorem go31:isGo p_ 31=true:=kr_
@[go_sem] theorem fr7:Tryz.f7.results.toList=[.tmp 6]:=kr_
@[go_sem] theorem fn7:Tryz.f7.ntmps=27:=kr_
@[go_sem] theorem cq5:tAgg p_ 71=some false:=kr_
@[go_sem] theorem cq3:D9 p_ 71=some 1:=kr_
@[go_sem] theorem cq4:bo3 p_ 71=some (true,.int .i64 0):=kr_
@[go_sem] theorem ch7:C8 p_ 73 0=some (0,62):=kr_
@[go_sem] theorem ch6:C8 p_ 73 1=some (1,65):=kr_
@[go_sem] theorem ch5:C8 p_ 73 2=some (2,71):=kr_
@[go_sem] theorem tb37:R3 p_ 37=some ([.string ⟨#[]⟩,.int .i64 0,.slice none 0 0,.slice none 0 0],[(0,1),(1,1),(2,1),(3,1)]):=kr_
@[go_sem] theorem tb73:R3 p_ 73=some ([.slice none 0 0,.slice none 0 0,.map none],[(0,1),(1,1),(2,1)]):=kr_
@[go_sem] theorem go32:isGo p_ 32=true:=kr_
@[go_sem] theorem go33:isGo p_ 33=true:=kr_
@[go_sem] theorem fr8:Tryz.f8.results.toList=[.cell 6 37,.tmp 7]:=kr_
@[go_sem] theorem fn8:Tryz.f8.ntmps=49:=kr_
@[go_sem] theorem tb33:R3 p_ 33=some ([.string ⟨#[]⟩,.slice none 0 0],[(0,1),(1,1)]):=kr_
@[go_sem] theorem go34:isGo p_ 34=true:=kr_
@[go_sem] theorem go35:isGo p_ 35=true:=kr_
@[go_sem] theorem fr9:Tryz.f9.results.toList=[.cell 4 33,.tmp 5]:=kr_
@[go_sem] theorem fn9:Tryz.f9.ntmps=15:=kr_
@[go_sem] theorem go36:isGo p_ 36=true:=kr_
@[go_sem] theorem go37:isGo p_ 37=true:=kr_
@[go_sem] theorem fr10:Tryz.f10.results.toList=[.tmp 4]:=kr_
@[go_sem] theorem fn10:Tryz.f10.ntmps=17:=kr_
@[go_sem] theorem go38:isGo p_ 38=true:=kr_
@[go_sem] theorem fr11:Tryz.f11.results.toList=[.tmp 4]:=kr_
@[go_sem] theorem fn11:Tryz.f11.ntmps=17:=kr_
@[go_sem] theorem tz3:N8 p_ 3=some [.int .i64 0]:=kr_
@[go_sem] theorem go39:isGo p_ 39=true:=kr_
@[go_sem] theorem fr12:Tryz.f12.results.toList=[.tmp 2]:=kr_
@[go_sem] theorem fn12:Tryz.f12.ntmps=10:=kr_
@[go_sem] theorem fr13:Tryz.f13.results.toList=[.tmp 2]:=kr_
@[go_sem] theorem fn13:Tryz.f13.ntmps=9:=kr_
@[go_sem] theorem cq2:tAgg p_ 81=some false:=kr_
@[go_sem] theorem cq1:D9 p_ 81=some 1:=kr_
@[go_sem] theorem tz27:N8 p_ 27=some [.slice none 0 0]:=kr_
@[go_sem] theorem tz81:N8 p_ 81=some [.nilFunc]:=kr_
@[go_sem] theorem go40:isGo p_ 40=true:=kr_
@[go_sem] theorem go41:isGo p_ 41=true:=kr_
@[go_sem] theorem fr14:Tryz.f14.results.toList=[.tmp 4]:=kr_
@[go_sem] theorem fn14:Tryz.f14.ntmps=18:=kr_
@[go_sem] theorem fr15:Tryz.f15.results.toList=[.tmp 4]:=kr_
@[go_sem] theorem fn15:Tryz.f15.ntmps=52:=kr_
@[go_sem] theorem go42:isGo p_ 42=true:=kr_
@[go_sem] theorem fr16:Tryz.f16.results.toList=[.tmp 8]:=kr_
@[go_sem] theorem fn16:Tryz.f16.ntmps=39:=kr_
@[go_sem] theorem fr17:Tryz.f17.results.toList=[.tmp 4]:=kr_
@[go_sem] theorem fn17:Tryz.f17.ntmps=17:=kr_
@[go_sem] theorem go43:isGo p_ 43=true:=kr_
@[go_sem] theorem go44:isGo p_ 44=true:=kr_
@[go_sem] theorem fr18:Tryz.f18.results.toList=[.tmp 4]:=kr_
@[go_sem] theorem fn18:Tryz.f18.ntmps=17:=kr_
@[go_sem] theorem cp9:q9 p_ 87=true:=kr_
@[go_sem] theorem cq0:Q9 p_ 87=some 9:=kr_
@[go_sem] theorem cp8:D6 p_ 87=some (9,1,16):=kr_
@[go_sem] theorem cp7:(p_.underlying 87).isSome=true:=kr_
@[go_sem] theorem tz94:N8 p_ 94=some [.string ⟨#[]⟩,.int .i64 0,.int .i64 0,.int .i64 0,.string ⟨#[]⟩,.slice none 0 0,.slice none 0 0]:=kr_
@[go_sem] theorem tb25:R3 p_ 25=some ([.slice none 0 0],[(0,1)]):=kr_
@[go_sem] theorem go45:isGo p_ 45=true:=kr_
@[go_sem] theorem go46:isGo p_ 46=true:=kr_
@[go_sem] theorem go47:isGo p_ 47=true:=kr_
@[go_sem] theorem fr19:Tryz.f19.results.toList=[.cell 2 25,.tmp 3]:=kr_
@[go_sem] theorem fn19:Tryz.f19.ntmps=69:=kr_
@[go_sem] theorem fr20:Tryz.f20.results.toList=[.tmp 2]:=kr_
@[go_sem] theorem fn20:Tryz.f20.ntmps=35:=kr_
@[go_sem] theorem go48:isGo p_ 48=true:=kr_
@[go_sem] theorem fr21:Tryz.f21.results.toList=[.tmp 2]:=kr_
@[go_sem] theorem fn21:Tryz.f21.ntmps=6:=kr_
@[go_sem] theorem go49:isGo p_ 49=true:=kr_
@[go_sem] theorem fr22:Tryz.f22.results.toList=[.tmp 4]:=kr_
@[go_sem] theorem fn22:Tryz.f22.ntmps=9:=kr_
@[go_sem] theorem go50:isGo p_ 50=true:=kr_
@[go_sem] theorem fr23:Tryz.f23.results.toList=[.tmp 2]:=kr_
@[go_sem] theorem fn23:Tryz.f23.ntmps=5:=kr_
@[go_sem] theorem fr24:Tryz.f24.results.toList=[.tmp 2]:=kr_
@[go_sem] theorem fn24:Tryz.f24.ntmps=5:=kr_
@[go_sem] theorem tz92:N8 p_ 92=some [.int .i64 0,.string ⟨#[]⟩,.slice none 0 0,.slice none 0 0]:=kr_
@[go_sem] theorem tb92:R3 p_ 92=some ([.int .i64 0,.string ⟨#[]⟩,.slice none 0 0,.slice none 0 0],[(0,1),(1,1),(2,1),(3,1)]):=kr_
@[go_sem] theorem tb94:R3 p_ 94=some ([.string ⟨#[]⟩,.int .i64 0,.int .i64 0,.int .i64 0,.string ⟨#[]⟩,.slice none 0 0,.slice none 0 0],[(0,1),(1,1),(2,1),(3,4)]):=kr_
@[go_sem] theorem go51:isGo p_ 51=true:=kr_
@[go_sem] theorem fr25:Tryz.f25.results.toList=[.cell 4 25]:=kr_
@[go_sem] theorem fn25:Tryz.f25.ntmps=98:=kr_
@[go_sem] theorem go52:isGo p_ 52=true:=kr_
@[go_sem] theorem go53:isGo p_ 53=true:=kr_
@[go_sem] theorem fr26:Tryz.f26.results.toList=[.tmp 4]:=kr_
@[go_sem] theorem fn26:Tryz.f26.ntmps=25:=kr_
@[go_sem] theorem go54:isGo p_ 54=true:=kr_
@[go_sem] theorem go55:isGo p_ 55=true:=kr_
@[go_sem] theorem go56:isGo p_ 56=true:=kr_
@[go_sem] theorem fr27:Tryz.f27.results.toList=[.tmp 4,.tmp 5]:=kr_
@[go_sem] theorem fn27:Tryz.f27.ntmps=24:=kr_
@[go_sem] theorem go57:isGo p_ 57=true:=kr_
@[go_sem] theorem go58:isGo p_ 58=true:=kr_
@[go_sem] theorem fr28:Tryz.f28.results.toList=[.tmp 2]:=kr_
@[go_sem] theorem fn28:Tryz.f28.ntmps=28:=kr_
@[go_sem] theorem fr29:Tryz.f29.results.toList=[.tmp 2]:=kr_
@[go_sem] theorem fn29:Tryz.f29.ntmps=20:=kr_
@[go_sem] theorem go59:isGo p_ 59=true:=kr_
@[go_sem] theorem fr30:Tryz.f30.results.toList=[.tmp 2]:=kr_
@[go_sem] theorem fn30:Tryz.f30.ntmps=15:=kr_
@[go_sem] theorem go60:isGo p_ 60=true:=kr_
@[go_sem] theorem fr31:Tryz.f31.results.toList=[.tmp 4]:=kr_
@[go_sem] theorem fn31:Tryz.f31.ntmps=19:=kr_
@[go_sem] theorem go61:isGo p_ 61=true:=kr_
@[go_sem] theorem go62:isGo p_ 62=true:=kr_
@[go_sem] theorem fr32:Tryz.f32.results.toList=[.tmp 4]:=kr_
@[go_sem] theorem fn32:Tryz.f32.ntmps=47:=kr_
@[go_sem] theorem cg6:N8 p_ 109=some [.string ⟨#[]⟩,.slice none 0 0,.int .i64 0,.slice none 0 0,.slice none 0 0,.slice none 0 0]:=kr_
@[go_sem] theorem go63:isGo p_ 63=true:=kr_
@[go_sem] theorem fr33:Tryz.f33.results.toList=[.cell 4 37]:=kr_
@[go_sem] theorem fn33:Tryz.f33.ntmps=37:=kr_
@[go_sem] theorem fr34:Tryz.f34.results.toList=[.cell 2 33]:=kr_
@[go_sem] theorem fn34:Tryz.f34.ntmps=9:=kr_
@[go_sem] theorem go64:isGo p_ 64=true:=kr_
@[go_sem] theorem fr35:Tryz.f35.results.toList=[.cell 4 33]:=kr_
@[go_sem] theorem fn35:Tryz.f35.ntmps=20:=kr_
@[go_sem] theorem go65:isGo p_ 65=true:=kr_
@[go_sem] theorem go66:isGo p_ 66=true:=kr_
@[go_sem] theorem go67:isGo p_ 67=true:=kr_
@[go_sem] theorem go68:isGo p_ 68=true:=kr_
@[go_sem] theorem fr36:Tryz.f36.results.toList=[.tmp 2]:=kr_
@[go_sem] theorem fn36:Tryz.f36.ntmps=72:=kr_
@[go_sem] theorem cm7:tAgg p_ 116=some false:=kr_
@[go_sem] theorem cm3:D9 p_ 116=some 1:=kr_
@[go_sem] theorem cm5:q9 p_ 116=true:=kr_
@[go_sem] theorem cm6:Q9 p_ 116=some 90:=kr_
@[go_sem] theorem cm4:D6 p_ 116=some (90,1,24):=kr_
@[go_sem] theorem cm2:F9 p_ 116=false:=kr_
@[go_sem] theorem cm1:(p_.underlying 116).isSome=true:=kr_
@[go_sem] theorem go69:isGo p_ 69=true:=kr_
@[go_sem] theorem go70:isGo p_ 70=true:=kr_
@[go_sem] theorem go71:isGo p_ 71=true:=kr_
@[go_sem] theorem go72:isGo p_ 72=true:=kr_
@[go_sem] theorem go73:isGo p_ 73=true:=kr_
@[go_sem] theorem fr37:Tryz.f37.results.toList=[.tmp 4]:=kr_
@[go_sem] theorem fn37:Tryz.f37.ntmps=134:=kr_
@[go_sem] theorem fr38:Tryz.f38.results.toList=[.tmp 4]:=kr_
@[go_sem] theorem fn38:Tryz.f38.ntmps=27:=kr_
@[go_sem] theorem fr39:Tryz.f39.results.toList=[.tmp 4]:=kr_
@[go_sem] theorem fn39:Tryz.f39.ntmps=33:=kr_
@[go_sem] theorem fr40:Tryz.f40.results.toList=[]:=kr_
@[go_sem] theorem fn40:Tryz.f40.ntmps=21:=kr_
@[go_sem] theorem cm0:tAgg p_ 124=some false:=kr_
@[go_sem] theorem cl9:D9 p_ 124=some 1:=kr_
@[go_sem] theorem go74:isGo p_ 74=true:=kr_
@[go_sem] theorem go77:isGo p_ 77=true:=kr_
@[go_sem] theorem go78:isGo p_ 78=true:=kr_
@[go_sem] theorem fr41:Tryz.f41.results.toList=[.tmp 2]:=kr_
@[go_sem] theorem fn41:Tryz.f41.ntmps=41:=kr_
@[go_sem] theorem cl7:q9 p_ 127=true:=kr_
@[go_sem] theorem cl8:Q9 p_ 127=some 131:=kr_
@[go_sem] theorem cl6:D6 p_ 127=some (131,5,64):=kr_
@[go_sem] theorem cl5:(p_.underlying 127).isSome=true:=kr_
@[go_sem] theorem cl3:q9 p_ 129=true:=kr_
@[go_sem] theorem cl4:Q9 p_ 129=some 3:=kr_
@[go_sem] theorem cl2:D6 p_ 129=some (3,1,8):=kr_
@[go_sem] theorem cl1:(p_.underlying 129).isSome=true:=kr_
@[go_sem] theorem cl0:tAgg p_ 131=some true:=kr_
@[go_sem] theorem ck9:D9 p_ 131=some 5:=kr_
@[go_sem] theorem ce3:C8 p_ 131 1=some (1,47):=kr_
@[go_sem] theorem cx3:N8 p_ 131=some [.int .i64 0,.int .i64 0,.int .i64 0,.string ⟨#[]⟩,.slice none 0 0]:=kr_
@[go_sem] theorem go79:isGo p_ 79=true:=kr_
@[go_sem] theorem go80:isGo p_ 80=true:=kr_
@[go_sem] theorem go81:isGo p_ 81=true:=kr_
@[go_sem] theorem go82:isGo p_ 82=true:=kr_
@[go_sem] theorem go83:isGo p_ 83=true:=kr_
@[go_sem] theorem fr42:Tryz.f42.results.toList=[.tmp 4,.tmp 5]:=kr_
@[go_sem] theorem fn42:Tryz.f42.ntmps=77:=kr_
@[go_sem] theorem ce2:C8 p_ 134 0=some (0,22):=kr_
@[go_sem] theorem ce1:C8 p_ 134 1=some (1,3):=kr_
@[go_sem] theorem ce0:C8 p_ 134 2=some (2,3):=kr_
@[go_sem] theorem cz0:R3 p_ 134=some ([.slice none 0 0,.int .i64 0,.int .i64 0],[(0,1),(1,1),(2,1)]):=kr_
@[go_sem] theorem fr43:Tryz.f43.results.toList=[.tmp 2]:=kr_
@[go_sem] theorem fn43:Tryz.f43.ntmps=32:=kr_
@[go_sem] theorem fr44:Tryz.f44.results.toList=[.tmp 2]:=kr_
@[go_sem] theorem fn44:Tryz.f44.ntmps=58:=kr_
@[go_sem] theorem go84:isGo p_ 84=true:=kr_
@[go_sem] theorem go85:isGo p_ 85=true:=kr_
@[go_sem] theorem fr45:Tryz.f45.results.toList=[.tmp 2,.tmp 3]:=kr_
@[go_sem] theorem fn45:Tryz.f45.ntmps=99:=kr_
@[go_sem] theorem go86:isGo p_ 86=true:=kr_
@[go_sem] theorem go87:isGo p_ 87=true:=kr_
@[go_sem] theorem go88:isGo p_ 88=true:=kr_
@[go_sem] theorem fr46:Tryz.f46.results.toList=[.cell 2 94,.tmp 3]:=kr_
@[go_sem] theorem fn46:Tryz.f46.ntmps=99:=kr_
@[go_sem] theorem go89:isGo p_ 89=true:=kr_
@[go_sem] theorem go90:isGo p_ 90=true:=kr_
@[go_sem] theorem go91:isGo p_ 91=true:=kr_
@[go_sem] theorem go92:isGo p_ 92=true:=kr_
@[go_sem] theorem fr47:Tryz.f47.results.toList=[.tmp 2]:=kr_
@[go_sem] theorem fn47:Tryz.f47.ntmps=60:=kr_
@[go_sem] theorem fr48:Tryz.f48.results.toList=[.tmp 4]:=kr_
@[go_sem] theorem fn48:Tryz.f48.ntmps=12:=kr_
@[go_sem] theorem fr49:Tryz.f49.results.toList=[.tmp 4]:=kr_
@[go_sem] theorem fn49:Tryz.f49.ntmps=11:=kr_
@[go_sem] theorem go93:isGo p_ 93=true:=kr_
@[go_sem] theorem fr50:Tryz.f50.results.toList=[.tmp 4]:=kr_
@[go_sem] theorem fn50:Tryz.f50.ntmps=23:=kr_
@[go_sem] theorem go94:isGo p_ 94=true:=kr_
@[go_sem] theorem go95:isGo p_ 95=true:=kr_
@[go_sem] theorem fr51:Tryz.f51.results.toList=[.cell 10 92]:=kr_
@[go_sem] theorem fn51:Tryz.f51.ntmps=87:=kr_
@[go_sem] theorem go96:isGo p_ 96=true:=kr_
@[go_sem] theorem go97:isGo p_ 97=true:=kr_
@[go_sem] theorem fr52:Tryz.f52.results.toList=[.tmp 4]:=kr_
@[go_sem] theorem fn52:Tryz.f52.ntmps=50:=kr_
@[go_sem] theorem go98:isGo p_ 98=true:=kr_
@[go_sem] theorem go99:isGo p_ 99=true:=kr_
@[go_sem] theorem cG4:isGo p_ 100=true:=kr_
@[go_sem] theorem fr53:Tryz.f53.results.toList=[.cell 6 47]:=kr_
@[go_sem] theorem fn53:Tryz.f53.ntmps=42:=kr_
@[go_sem] theorem cG3:isGo p_ 101=true:=kr_
@[go_sem] theorem fr54:Tryz.f54.results.toList=[.tmp 2]:=kr_
@[go_sem] theorem fn54:Tryz.f54.ntmps=9:=kr_
@[go_sem] theorem go76:isGo p_ 76=true:=kr_
@[go_sem] theorem fr55:Tryz.f55.results.toList=[.tmp 2]:=kr_
@[go_sem] theorem fn55:Tryz.f55.ntmps=38:=kr_
@[go_sem] theorem ck5:q9 p_ 151=true:=kr_
@[go_sem] theorem ck6:Q9 p_ 151=some 116:=kr_
@[go_sem] theorem ck4:D6 p_ 151=some (116,1,24):=kr_
@[go_sem] theorem ck3:(p_.underlying 151).isSome=true:=kr_
@[go_sem] theorem cz2:R3 p_ 109=some ([.string ⟨#[]⟩,.slice none 0 0,.int .i64 0,.slice none 0 0,.slice none 0 0,.slice none 0 0],[(0,2),(2,1),(3,1),(4,1),(5,1)]):=kr_
@[go_sem] theorem cG2:isGo p_ 102=true:=kr_
@[go_sem] theorem cG1:isGo p_ 103=true:=kr_
@[go_sem] theorem fr56:Tryz.f56.results.toList=[.tmp 4,.tmp 5]:=kr_
@[go_sem] theorem fn56:Tryz.f56.ntmps=185:=kr_
@[go_sem] theorem cG0:isGo p_ 104=true:=kr_
@[go_sem] theorem fr57:Tryz.f57.results.toList=[.tmp 4]:=kr_
@[go_sem] theorem fn57:Tryz.f57.ntmps=58:=kr_
@[go_sem] theorem fr58:Tryz.f58.results.toList=[.tmp 4]:=kr_
@[go_sem] theorem fn58:Tryz.f58.ntmps=27:=kr_
@[go_sem] theorem cF9:isGo p_ 105=true:=kr_
@[go_sem] theorem fr59:Tryz.f59.results.toList=[.tmp 2]:=kr_
@[go_sem] theorem fn59:Tryz.f59.ntmps=6:=kr_
@[go_sem] theorem ck0:tAgg p_ 154=some false:=kr_
@[go_sem] theorem cj9:D9 p_ 154=some 1:=kr_
@[go_sem] theorem cF8:isGo p_ 106=true:=kr_
@[go_sem] theorem fr60:Tryz.f60.results.toList=[.tmp 4]:=kr_
@[go_sem] theorem fn60:Tryz.f60.ntmps=23:=kr_
@[go_sem] theorem cF7:isGo p_ 108=true:=kr_
@[go_sem] theorem cF6:isGo p_ 109=true:=kr_
@[go_sem] theorem cF5:isGo p_ 110=true:=kr_
@[go_sem] theorem fr61:Tryz.f61.results.toList=[.tmp 2]:=kr_
@[go_sem] theorem fn61:Tryz.f61.ntmps=20:=kr_
@[go_sem] theorem fr62:Tryz.f62.results.toList=[.cell 4 109]:=kr_
@[go_sem] theorem fn62:Tryz.f62.ntmps=56:=kr_
@[go_sem] theorem fr63:Tryz.f63.results.toList=[.tmp 2]:=kr_
@[go_sem] theorem fn63:Tryz.f63.ntmps=20:=kr_
@[go_sem] theorem fr64:Tryz.f64.results.toList=[.tmp 4]:=kr_
@[go_sem] theorem fn64:Tryz.f64.ntmps=21:=kr_
@[go_sem] theorem cF4:isGo p_ 111=true:=kr_
@[go_sem] theorem fr65:Tryz.f65.results.toList=[.tmp 2]:=kr_
@[go_sem] theorem fn65:Tryz.f65.ntmps=16:=kr_
@[go_sem] theorem cj8:bo3 p_ 158=some (false,.int .i64 0):=kr_
@[go_sem] theorem fr66:Tryz.f66.results.toList=[.tmp 4]:=kr_
@[go_sem] theorem fn66:Tryz.f66.ntmps=142:=kr_
@[go_sem] theorem fr67:Tryz.f67.results.toList=[.tmp 4]:=kr_
@[go_sem] theorem fn67:Tryz.f67.ntmps=18:=kr_
@[go_sem] theorem tz4:N8 p_ 4=some [.bool false]:=kr_
@[go_sem] theorem cF3:isGo p_ 112=true:=kr_
@[go_sem] theorem fr68:Tryz.f68.results.toList=[.tmp 4]:=kr_
@[go_sem] theorem fn68:Tryz.f68.ntmps=10:=kr_
@[go_sem] theorem cF2:isGo p_ 114=true:=kr_
@[go_sem] theorem fr69:Tryz.f69.results.toList=[.tmp 2]:=kr_
@[go_sem] theorem fn69:Tryz.f69.ntmps=9:=kr_
@[go_sem] theorem fr70:Tryz.f70.results.toList=[.tmp 2,.tmp 3]:=kr_
@[go_sem] theorem fn70:Tryz.f70.ntmps=105:=kr_
@[go_sem] theorem cF1:isGo p_ 115=true:=kr_
@[go_sem] theorem fr71:Tryz.f71.results.toList=[.tmp 4]:=kr_
@[go_sem] theorem fn71:Tryz.f71.ntmps=20:=kr_
@[go_sem] theorem cF0:isGo p_ 116=true:=kr_
@[go_sem] theorem fr72:Tryz.f72.results.toList=[.cell 4 33]:=kr_
@[go_sem] theorem fn72:Tryz.f72.ntmps=28:=kr_
@[go_sem] theorem cE9:isGo p_ 117=true:=kr_
@[go_sem] theorem fr73:Tryz.f73.results.toList=[.tmp 4]:=kr_
@[go_sem] theorem fn73:Tryz.f73.ntmps=83:=kr_
@[go_sem] theorem fr75:Tryz.f75.results.toList=[.tmp 5]:=kr_
@[go_sem] theorem fn75:Tryz.f75.ntmps=16:=kr_
@[go_sem] theorem cE8:isGo p_ 122=true:=kr_
@[go_sem] theorem fr76:Tryz.f76.results.toList=[.tmp 4]:=kr_
@[go_sem] theorem fn76:Tryz.f76.ntmps=60:=kr_
@[go_sem] theorem fr77:Tryz.f77.results.toList=[.tmp 4]:=kr_
@[go_sem] theorem fn77:Tryz.f77.ntmps=9:=kr_
@[go_sem] theorem tb47:R3 p_ 47=some ([.int .i64 0,.int .i64 0,.string ⟨#[]⟩,.slice none 0 0],[(0,1),(1,1),(2,1),(3,1)]):=kr_
@[go_sem] theorem fr78:Tryz.f78.results.toList=[.cell 2 47]:=kr_
@[go_sem] theorem fn78:Tryz.f78.ntmps=25:=kr_
@[go_sem] theorem cE7:isGo p_ 123=true:=kr_
@[go_sem] theorem fr79:Tryz.f79.results.toList=[.tmp 2]:=kr_
@[go_sem] theorem fn79:Tryz.f79.ntmps=33:=kr_
@[go_sem] theorem fr80:Tryz.f80.results.toList=[.tmp 6]:=kr_
@[go_sem] theorem fn80:Tryz.f80.ntmps=23:=kr_
@[go_sem] theorem cz1:R3 p_ 131=some ([.int .i64 0,.int .i64 0,.int .i64 0,.string ⟨#[]⟩,.slice none 0 0],[(0,1),(1,4)]):=kr_
@[go_sem] theorem fr81:Tryz.f81.results.toList=[.tmp 6]:=kr_
@[go_sem] theorem fn81:Tryz.f81.ntmps=35:=kr_
@[go_sem] theorem cE6:isGo p_ 124=true:=kr_
@[go_sem] theorem fr82:Tryz.f82.results.toList=[.tmp 4]:=kr_
@[go_sem] theorem fn82:Tryz.f82.ntmps=51:=kr_
@[go_sem] theorem cE5:isGo p_ 125=true:=kr_
@[go_sem] theorem fr83:Tryz.f83.results.toList=[.tmp 2]:=kr_
@[go_sem] theorem fn83:Tryz.f83.ntmps=24:=kr_
@[go_sem] theorem fr84:Tryz.f84.results.toList=[.tmp 2]:=kr_
@[go_sem] theorem fn84:Tryz.f84.ntmps=21:=kr_
@[go_sem] theorem fr85:Tryz.f85.results.toList=[.tmp 6]:=kr_
@[go_sem] theorem fn85:Tryz.f85.ntmps=15:=kr_
@[go_sem] theorem cE4:isGo p_ 126=true:=kr_
@[go_sem] theorem cE3:isGo p_ 127=true:=kr_
@[go_sem] theorem fr86:Tryz.f86.results.toList=[.tmp 2,.tmp 3,.tmp 4]:=kr_
@[go_sem] theorem fn86:Tryz.f86.ntmps=77:=kr_
@[go_sem] theorem fr87:Tryz.f87.results.toList=[.tmp 2]:=kr_
@[go_sem] theorem fn87:Tryz.f87.ntmps=44:=kr_
@[go_sem] theorem cE2:isGo p_ 128=true:=kr_
@[go_sem] theorem cE1:isGo p_ 129=true:=kr_
@[go_sem] theorem fr88:Tryz.f88.results.toList=[.cell 4 92,.tmp 5,.tmp 6]:=kr_
@[go_sem] theorem fn88:Tryz.f88.ntmps=152:=kr_
@[go_sem] theorem fr89:Tryz.f89.results.toList=[.tmp 4]:=kr_
@[go_sem] theorem fn89:Tryz.f89.ntmps=21:=kr_
@[go_sem] theorem fr90:Tryz.f90.results.toList=[.tmp 2]:=kr_
@[go_sem] theorem fn90:Tryz.f90.ntmps=17:=kr_
@[go_sem] theorem cE0:isGo p_ 130=true:=kr_
@[go_sem] theorem cD9:isGo p_ 131=true:=kr_
@[go_sem] theorem cD8:isGo p_ 132=true:=kr_
@[go_sem] theorem fr91:Tryz.f91.results.toList=[.tmp 6]:=kr_
@[go_sem] theorem fn91:Tryz.f91.ntmps=32:=kr_
@[go_sem] theorem cD7:isGo p_ 133=true:=kr_
@[go_sem] theorem fr92:Tryz.f92.results.toList=[.tmp 2]:=kr_
@[go_sem] theorem fn92:Tryz.f92.ntmps=8:=kr_
@[go_sem] theorem fr93:Tryz.f93.results.toList=[.tmp 4]:=kr_
@[go_sem] theorem fn93:Tryz.f93.ntmps=31:=kr_
@[go_sem] theorem cD6:isGo p_ 134=true:=kr_
@[go_sem] theorem fr94:Tryz.f94.results.toList=[.cell 6 92]:=kr_
@[go_sem] theorem fn94:Tryz.f94.ntmps=54:=kr_
@[go_sem] theorem fr95:Tryz.f95.results.toList=[.cell 6 92]:=kr_
@[go_sem] theorem fn95:Tryz.f95.ntmps=11:=kr_
@[go_sem] theorem cD5:isGo p_ 135=true:=kr_
@[go_sem] theorem fr96:Tryz.f96.results.toList=[.tmp 4]:=kr_
@[go_sem] theorem fn96:Tryz.f96.ntmps=68:=kr_
@[go_sem] theorem fr97:Tryz.f97.results.toList=[.tmp 4]:=kr_
@[go_sem] theorem fn97:Tryz.f97.ntmps=9:=kr_
@[go_sem] theorem fr98:Tryz.f98.results.toList=[.cell 4 47]:=kr_
@[go_sem] theorem fn98:Tryz.f98.ntmps=9:=kr_
@[go_sem] theorem fr99:Tryz.f99.results.toList=[.cell 2 47]:=kr_
@[go_sem] theorem fn99:Tryz.f99.ntmps=5:=kr_
@[go_sem] theorem cD4:isGo p_ 136=true:=kr_
@[go_sem] theorem cN0:Tryz.f100.results.toList=[.cell 2 47]:=kr_
@[go_sem] theorem cT7:Tryz.f100.ntmps=19:=kr_
@[go_sem] theorem cD3:isGo p_ 137=true:=kr_
@[go_sem] theorem cM9:Tryz.f101.results.toList=[.tmp 2]:=kr_
@[go_sem] theorem cT6:Tryz.f101.ntmps=16:=kr_
@[go_sem] theorem cM8:Tryz.f102.results.toList=[.tmp 6]:=kr_
@[go_sem] theorem cT5:Tryz.f102.ntmps=26:=kr_
@[go_sem] theorem cM7:Tryz.f103.results.toList=[.tmp 4]:=kr_
@[go_sem] theorem cT4:Tryz.f103.ntmps=32:=kr_
@[go_sem] theorem tz29:N8 p_ 29=some [.slice none 0 0]:=kr_
@[go_sem] theorem cM6:Tryz.f104.results.toList=[.tmp 2]:=kr_
@[go_sem] theorem cT3:Tryz.f104.ntmps=40:=kr_
@[go_sem] theorem cM5:Tryz.f105.results.toList=[.tmp 4]:=kr_
@[go_sem] theorem cT2:Tryz.f105.ntmps=107:=kr_
@[go_sem] theorem ck8:bM5 p_ 135=some Go.IntKind.u64:=kr_
@[go_sem] theorem ck7:(p_.underlying 135).isSome=true:=kr_
@[go_sem] theorem cM4:Tryz.f106.results.toList=[.tmp 4]:=kr_
@[go_sem] theorem cT1:Tryz.f106.ntmps=26:=kr_
@[go_sem] theorem cM3:Tryz.f107.results.toList=[.tmp 4]:=kr_
@[go_sem] theorem cT0:Tryz.f107.ntmps=12:=kr_
@[go_sem] theorem cM2:Tryz.f108.results.toList=[.tmp 2]:=kr_
@[go_sem] theorem cS9:Tryz.f108.ntmps=6:=kr_
@[go_sem] theorem cj3:tAgg p_ 183=some false:=kr_
@[go_sem] theorem cj0:D9 p_ 183=some 1:=kr_
@[go_sem] theorem cd7:aA4 p_ 183=true:=kr_
@[go_sem] theorem cj1:bo3 p_ 183=some (false,.bool false):=kr_
@[go_sem] theorem cx2:N8 p_ 183=some [.map none]:=kr_
@[go_sem] theorem cD1:isGo p_ 142=true:=kr_
@[go_sem] theorem cM1:Tryz.f109.results.toList=[.tmp 2]:=kr_
@[go_sem] theorem cS8:Tryz.f109.ntmps=10:=kr_
@[go_sem] theorem ci9:bo3 p_ 187=some (false,.str []):=kr_
@[go_sem] theorem cD0:isGo p_ 143=true:=kr_
@[go_sem] theorem cC9:isGo p_ 144=true:=kr_
@[go_sem] theorem cM0:Tryz.f110.results.toList=[.tmp 2]:=kr_
@[go_sem] theorem cS7:Tryz.f110.ntmps=56:=kr_
@[go_sem] theorem cL9:Tryz.f111.results.toList=[.tmp 2]:=kr_
@[go_sem] theorem cS6:Tryz.f111.ntmps=57:=kr_
@[go_sem] theorem cL8:Tryz.f112.results.toList=[]:=kr_
@[go_sem] theorem cS5:Tryz.f112.ntmps=20:=kr_
@[go_sem] theorem cL7:Tryz.f113.results.toList=[]:=kr_
@[go_sem] theorem cS4:Tryz.f113.ntmps=26:=kr_
@[go_sem] theorem cD2:isGo p_ 140=true:=kr_
@[go_sem] theorem cL6:Tryz.f114.results.toList=[.tmp 2]:=kr_
@[go_sem] theorem cS3:Tryz.f114.ntmps=8:=kr_
@[go_sem] theorem cL5:Tryz.f115.results.toList=[.tmp 4]:=kr_
@[go_sem] theorem cS1:Tryz.f115.ntmps=36:=kr_
@[go_sem] theorem cC8:isGo p_ 146=true:=kr_
@[go_sem] theorem cL4:Tryz.f116.results.toList=[.cell 4 47]:=kr_
@[go_sem] theorem cS0:Tryz.f116.ntmps=8:=kr_
@[go_sem] theorem cL3:Tryz.f117.results.toList=[.tmp 4]:=kr_
@[go_sem] theorem cR9:Tryz.f117.ntmps=31:=kr_
@[go_sem] theorem cj7:tAgg p_ 169=some false:=kr_
@[go_sem] theorem cj6:D9 p_ 169=some 1:=kr_
@[go_sem] theorem cj5:tAgg p_ 173=some true:=kr_
@[go_sem] theorem cj4:D9 p_ 173=some 2:=kr_
@[go_sem] theorem cd9:C8 p_ 173 0=some (0,124):=kr_
@[go_sem] theorem cd8:C8 p_ 173 1=some (1,169):=kr_
@[go_sem] theorem cC7:isGo p_ 157=true:=kr_
@[go_sem] theorem cC6:isGo p_ 158=true:=kr_
@[go_sem] theorem cL2:Tryz.f120.results.toList=[]:=kr_
@[go_sem] theorem cR8:Tryz.f120.ntmps=57:=kr_
@[go_sem] theorem cL1:Tryz.f122.results.toList=[.tmp 4]:=kr_
@[go_sem] theorem cR7:Tryz.f122.ntmps=11:=kr_
@[go_sem] theorem cC5:isGo p_ 159=true:=kr_
@[go_sem] theorem cC4:isGo p_ 160=true:=kr_
@[go_sem] theorem cL0:Tryz.f123.results.toList=[.tmp 2]:=kr_
@[go_sem] theorem cR6:Tryz.f123.ntmps=11:=kr_
@[go_sem] theorem cC3:isGo p_ 161=true:=kr_
@[go_sem] theorem cK9:Tryz.f124.results.toList=[.tmp 4]:=kr_
@[go_sem] theorem cR5:Tryz.f124.ntmps=21:=kr_
@[go_sem] theorem cC2:isGo p_ 162=true:=kr_
@[go_sem] theorem cK8:Tryz.f125.results.toList=[.tmp 2]:=kr_
@[go_sem] theorem cR4:Tryz.f125.ntmps=20:=kr_
@[go_sem] theorem cK7:Tryz.f126.results.toList=[.tmp 2,.tmp 3]:=kr_
@[go_sem] theorem cR3:Tryz.f126.ntmps=65:=kr_
@[go_sem] theorem cK6:Tryz.f127.results.toList=[.tmp 2]:=kr_
@[go_sem] theorem cR2:Tryz.f127.ntmps=44:=kr_
@[go_sem] theorem cK5:Tryz.f128.results.toList=[.tmp 0]:=kr_
@[go_sem] theorem cR1:Tryz.f128.ntmps=2:=kr_
@[go_sem] theorem cC1:isGo p_ 163=true:=kr_
@[go_sem] theorem cC0:isGo p_ 164=true:=kr_
@[go_sem] theorem cK4:Tryz.f129.results.toList=[.cell 4 47,.tmp 5,.tmp 6]:=kr_
@[go_sem] theorem cR0:Tryz.f129.ntmps=136:=kr_
@[go_sem] theorem cB9:isGo p_ 165=true:=kr_
@[go_sem] theorem cK3:Tryz.f130.results.toList=[.tmp 2]:=kr_
@[go_sem] theorem cQ9:Tryz.f130.ntmps=10:=kr_
@[go_sem] theorem cK2:Tryz.f131.results.toList=[.tmp 4]:=kr_
@[go_sem] theorem cQ8:Tryz.f131.ntmps=41:=kr_
@[go_sem] theorem cK1:Tryz.f132.results.toList=[.tmp 4]:=kr_
@[go_sem] theorem cQ7:Tryz.f132.ntmps=32:=kr_
@[go_sem] theorem cK0:Tryz.f133.results.toList=[.tmp 4]:=kr_
@[go_sem] theorem cQ6:Tryz.f133.ntmps=28:=kr_
@[go_sem] theorem cJ9:Tryz.f134.results.toList=[.cell 2 47]:=kr_
@[go_sem] theorem cQ5:Tryz.f134.ntmps=5:=kr_
@[go_sem] theorem cJ8:Tryz.f135.results.toList=[.tmp 2]:=kr_
@[go_sem] theorem cQ4:Tryz.f135.ntmps=4:=kr_
@[go_sem] theorem cJ7:Tryz.f136.results.toList=[.cell 2 47]:=kr_
@[go_sem] theorem cQ3:Tryz.f136.ntmps=5:=kr_
@[go_sem] theorem cB8:isGo p_ 166=true:=kr_
@[go_sem] theorem cJ6:Tryz.f137.results.toList=[.tmp 2]:=kr_
@[go_sem] theorem cQ2:Tryz.f137.ntmps=5:=kr_
@[go_sem] theorem cJ5:Tryz.f138.results.toList=[.tmp 5]:=kr_
@[go_sem] theorem cQ1:Tryz.f138.ntmps=16:=kr_
@[go_sem] theorem cJ4:Tryz.f139.results.toList=[]:=kr_
@[go_sem] theorem cQ0:Tryz.f139.ntmps=16:=kr_
@[go_sem] theorem cJ3:Tryz.f140.results.toList=[]:=kr_
@[go_sem] theorem cP9:Tryz.f140.ntmps=26:=kr_
@[go_sem] theorem cJ2:Tryz.f141.results.toList=[]:=kr_
@[go_sem] theorem cP8:Tryz.f141.ntmps=5:=kr_
@[go_sem] theorem cB7:isGo p_ 168=true:=kr_
@[go_sem] theorem cJ1:Tryz.f142.results.toList=[.tmp 2]:=kr_
@[go_sem] theorem cP7:Tryz.f142.ntmps=19:=kr_
@[go_sem] theorem cy9:R3 p_ 205=some ([.pointer none,.slice none 0 0],[(0,1),(1,1)]):=kr_
@[go_sem] theorem cB6:isGo p_ 169=true:=kr_
@[go_sem] theorem cB5:isGo p_ 170=true:=kr_
@[go_sem] theorem cJ0:Tryz.f143.results.toList=[.tmp 2]:=kr_
@[go_sem] theorem cP6:Tryz.f143.ntmps=14:=kr_
@[go_sem] theorem cI9:Tryz.f144.results.toList=[.tmp 4]:=kr_
@[go_sem] theorem cP5:Tryz.f144.ntmps=27:=kr_
@[go_sem] theorem cI8:Tryz.f145.results.toList=[]:=kr_
@[go_sem] theorem cP4:Tryz.f145.ntmps=3:=kr_
@[go_sem] theorem cB4:isGo p_ 171=true:=kr_
@[go_sem] theorem cI7:Tryz.f146.results.toList=[.cell 4 47]:=kr_
@[go_sem] theorem cP3:Tryz.f146.ntmps=38:=kr_
@[go_sem] theorem cI6:Tryz.f147.results.toList=[.cell 3 47,.tmp 4]:=kr_
@[go_sem] theorem cP2:Tryz.f147.ntmps=9:=kr_
@[go_sem] theorem cI5:Tryz.f157.results.toList=[]:=kr_
@[go_sem] theorem cP1:Tryz.f157.ntmps=35:=kr_
@[go_sem] theorem cA9:isGo p_ 172=true:=kr_
@[go_sem] theorem cI4:Tryz.f158.results.toList=[]:=kr_
@[go_sem] theorem cP0:Tryz.f158.ntmps=177:=kr_
@[go_sem] theorem cA8:isGo p_ 173=true:=kr_
@[go_sem] theorem cA7:isGo p_ 174=true:=kr_
@[go_sem] theorem cI3:Tryz.f159.results.toList=[.tmp 2]:=kr_
@[go_sem] theorem cO9:Tryz.f159.ntmps=10:=kr_
@[go_sem] theorem cA6:isGo p_ 175=true:=kr_
@[go_sem] theorem cI2:Tryz.f160.results.toList=[.tmp 4]:=kr_
@[go_sem] theorem cO8:Tryz.f160.ntmps=26:=kr_
@[go_sem] theorem cI1:Tryz.f161.results.toList=[.tmp 4]:=kr_
@[go_sem] theorem cO7:Tryz.f161.ntmps=42:=kr_
@[go_sem] theorem cI0:Tryz.f162.results.toList=[.cell 2 47]:=kr_
@[go_sem] theorem cO6:Tryz.f162.ntmps=29:=kr_
@[go_sem] theorem cH9:Tryz.f163.results.toList=[.cell 2 47,.tmp 3]:=kr_
@[go_sem] theorem cO5:Tryz.f163.ntmps=39:=kr_
@[go_sem] theorem cH8:Tryz.f164.results.toList=[.cell 4 47]:=kr_
@[go_sem] theorem cO4:Tryz.f164.ntmps=20:=kr_
@[go_sem] theorem cA5:isGo p_ 176=true:=kr_
@[go_sem] theorem cH7:Tryz.f165.results.toList=[.tmp 2]:=kr_
@[go_sem] theorem cO3:Tryz.f165.ntmps=106:=kr_
@[go_sem] theorem cH6:Tryz.f166.results.toList=[.tmp 4]:=kr_
@[go_sem] theorem cO2:Tryz.f166.ntmps=10:=kr_
@[go_sem] theorem cH5:Tryz.f167.results.toList=[.tmp 2]:=kr_
@[go_sem] theorem cO1:Tryz.f167.ntmps=5:=kr_
@[go_sem] theorem cA4:isGo p_ 179=true:=kr_
@[go_sem] theorem cA3:isGo p_ 180=true:=kr_
@[go_sem] theorem cH4:Tryz.f169.results.toList=[]:=kr_
@[go_sem] theorem cO0:Tryz.f169.ntmps=70:=kr_
@[go_sem] theorem cH3:Tryz.f171.results.toList=[.cell 4 47]:=kr_
@[go_sem] theorem cN9:Tryz.f171.ntmps=9:=kr_
@[go_sem] theorem cA2:isGo p_ 181=true:=kr_
@[go_sem] theorem cH2:Tryz.f172.results.toList=[]:=kr_
@[go_sem] theorem cN8:Tryz.f172.ntmps=53:=kr_
@[go_sem] theorem cH1:Tryz.f173.results.toList=[.tmp 4]:=kr_
@[go_sem] theorem cN7:Tryz.f173.ntmps=28:=kr_
@[go_sem] theorem cH0:Tryz.f174.results.toList=[.tmp 2]:=kr_
@[go_sem] theorem cN6:Tryz.f174.ntmps=76:=kr_
@[go_sem] theorem cG9:Tryz.f175.results.toList=[.tmp 4]:=kr_
@[go_sem] theorem cN5:Tryz.f175.ntmps=49:=kr_
@[go_sem] theorem cG8:Tryz.f176.results.toList=[.tmp 2]:=kr_
@[go_sem] theorem cN4:Tryz.f176.ntmps=15:=kr_
@[go_sem] theorem cG7:Tryz.f177.results.toList=[]:=kr_
@[go_sem] theorem cN3:Tryz.f177.ntmps=11:=kr_
@[go_sem] theorem cA1:isGo p_ 185=true:=kr_
@[go_sem] theorem cG6:Tryz.f180.results.toList=[.tmp 2]:=kr_
@[go_sem] theorem cN2:Tryz.f180.ntmps=5:=kr_
@[go_sem] theorem cG5:Tryz.f181.results.toList=[]:=kr_
@[go_sem] theorem cN1:Tryz.f181.ntmps=23:=kr_
end Go.Proofs.YtehgpkadkdekmaaGreatDoor
