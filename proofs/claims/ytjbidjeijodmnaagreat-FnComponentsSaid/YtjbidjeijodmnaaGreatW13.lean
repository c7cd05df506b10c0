import Derived.Test.YtjbidjeijodmnaaGreatW4
import Derived.Test.YtjbidjeijodmnaaGreatA7
import Derived.Test.YtjbidjeijodmnaaGreatP2
namespace Go.Proofs.YtjbidjeijodmnaaGreat
open Go.Abs
set_option maxRecDepth 100000
set_option maxHeartbeats 4000000
set_option linter.unusedSimpArgs false
set_option linter.unusedVariables false
def cOT (t:Gl):Prop:=∀neg ins:Bool,ACalls Tryz.prog 23 [.d (.agg t.enc),.d (.bool neg),.d (.bool ins)] [.hole] fun c H'=>c=.own 0 1∧∃e B,H'=[.tree 1 1 e (strD (t.callsI neg ins)) B none]
theorem cOT_gives {t:Gl} (h:cOT t) (neg ins:Bool):Gives Tryz.prog 23 [.agg t.enc,.bool neg,.bool ins] (.d (.sl (strD (t.callsI neg ins)))):=by
 refine ACalls.frozen (m:=1) (h neg ins) (fun c H' ⟨h1,e,B,h2⟩ _=>?_)
 subst h1 h2;rfl
theorem callsOf_T:∀t:Gl,wtL t.enc≤1048576→cOT t:=by
 intro t
 induction t using Gl.ind' with
 | h t ih =>
  intro hw neg ins
  have hcw:=Gl.cnt_le_wt t
  have hcn:=Gl.cnt_eq t
  have hln:=Gl.callsI_len t neg ins
  have hls:=Gl.callsIs_len neg (ins || decide (t.kind=10)) t.goals
  have hmx:maxLen=9223372036854775807:=rfl
  rw [Gl.callsI_eq] at hln ⊢
  generalize hA:(if t.kind=9∧ins=neg then [t.name] else [])=A at *
  cases neg<;>cases ins<;>(simp only [Bool.true_or,Bool.false_or] at hls hln ⊢)
  ·refine ACalls.enter (fn:=Tryz.f23) Tryz.func23 rfl (by show 3≤_;decide) ?_
   refine run_sound Tryz.func23 mixed 5 _ _ (by kernel_rfl) ?_
   simp only [go_sem,seval,run.eq_1]
   refine AW.adoptB 7 1 9 (by decide) rfl ?_
   refine run_sound Tryz.func23 mixed 200 _ _ (by kernel_rfl) ?_
   simp only [go_sem,seval]
   repeat' (first
    | ((refine br_n (fun hq=>?_) (fun hq=>?_))<;>(try simp only [go_sem,seval,hq]))
    | ((refine ⟨sd,?_⟩)<;>(try simp only [go_sem,seval]))
    | fail)
   ·have hA':A=[t.name]:=by rw [←hA];simp [*]
    refine AW.rng t.goals [1,2,3,25,26] 27 25 (fun p:Nat×List (List UInt8)=>[(7,.own 2 p.1)]) (fun _ p=>[.hole,.box (t.enc.map .d),.buf p.1 1 9 (strD p.2)]) (fun r p=>p.1≤t.goals.length+1 - r.length∧p.2++Gl.callsIs false r (decide (t.kind=10))=A++Gl.callsIs false t.goals (decide (t.kind=10))) (1,[t.name]) rfl (by simp) ⟨by simp,by rw [hA']⟩ (by refine ⟨by simp [mkS,strD_one,strD_nil],by simp [mkS,strD_one,strD_nil],by simp only [mkS,List.all_cons,List.all_nil,O.refsLt,C.refsLt,C.refsLt1,all_dmap];first | done | rfl | (simp;done),?_⟩;simp [mkS,Abs.get,C.refsLtT,C.refsLt,C.refsLt1]) (fun i x r p hxi hdr hlt hm hinv hnext=>?_) (fun p hinv=>?_)
    ·have hx:=List.mem_of_getElem? hxi
     have hxw:=Gl.wt_goals hx
     have hrl:(x :: r).length=t.goals.length - i:=by rw [←hdr];simp
     obtain ⟨hi1,hi2⟩:=hinv
     have hpl:(p.2++Gl.callsIs false (x :: r) (decide (t.kind=10))).length≤t.cnt:=by rw [hi2];exact hln
     simp only [Gl.callsIs,List.length_append] at hpl
     refine run_sound Tryz.func23 mixed 200 _ _ (by kernel_rfl) ?_
     simp only [go_sem,seval,hlt,idx_of hxi,strD_len]
     repeat' (first
      | (simp (disch:=omega) only [wrap_ok])
      | ((refine (cOT_gives (ih x hx (by omega)) _ _).calls rfl ?_)<;>(try simp only [go_sem,seval,hlt]))
      | fail)
     refine ⟨strD_z,by simp only [strD_len];omega,by simp only [strD_len];omega,hnext (p.1+1,p.2++x.callsI false (decide (t.kind=10))) _ ⟨by simp only [List.length_cons] at hi1 hrl;omega,by rw [List.append_assoc];exact hi2⟩ (by refine ⟨by simp [mkS,strD_append],by simp [mkS,strD_append],by simp only [mkS,List.all_cons,List.all_nil,O.refsLt,C.refsLt,C.refsLt1,all_dmap];first | done | rfl | (simp;done),?_⟩;simp [mkS,Abs.get,C.refsLtT,C.refsLt,C.refsLt1])⟩
    ·obtain ⟨hi1,hi2⟩:=hinv
     simp only [Gl.callsIs,List.append_nil] at hi2
     try simp only [hq,Int.reduceEq,decide_false] at hi2
     refine run_sound Tryz.func23 mixed 7 _ _ (by kernel_rfl) ?_
     simp only [go_sem,seval,run.eq_1]
     refine AW.bufT 6 2 rfl rfl (strD_flat _) ?_
     refine AW.place 6 2 0 rfl rfl rfl (by decide) ?_
     rw [hi2]
     refine run_sound Tryz.func23 mixed 200 _ _ (by kernel_rfl) ?_
     simp only [go_sem,seval]
     all_goals exact ⟨_,_,rfl⟩
   ·have hA':A=[]:=by rw [←hA];simp [*]
    refine AW.rng t.goals [1,2,3,25,26] 27 25 (fun p:Nat×List (List UInt8)=>[(7,.own 2 p.1)]) (fun _ p=>[.hole,.box (t.enc.map .d),.buf p.1 1 9 (strD p.2)]) (fun r p=>p.1≤t.goals.length+1 - r.length∧p.2++Gl.callsIs false r (decide (t.kind=10))=A++Gl.callsIs false t.goals (decide (t.kind=10))) (0,[]) rfl (by simp) ⟨by simp,by rw [hA']⟩ (by refine ⟨by simp [mkS,strD_one,strD_nil],by simp [mkS,strD_one,strD_nil],by simp only [mkS,List.all_cons,List.all_nil,O.refsLt,C.refsLt,C.refsLt1,all_dmap];first | done | rfl | (simp;done),?_⟩;simp [mkS,Abs.get,C.refsLtT,C.refsLt,C.refsLt1]) (fun i x r p hxi hdr hlt hm hinv hnext=>?_) (fun p hinv=>?_)
    ·have hx:=List.mem_of_getElem? hxi
     have hxw:=Gl.wt_goals hx
     have hrl:(x :: r).length=t.goals.length - i:=by rw [←hdr];simp
     obtain ⟨hi1,hi2⟩:=hinv
     have hpl:(p.2++Gl.callsIs false (x :: r) (decide (t.kind=10))).length≤t.cnt:=by rw [hi2];exact hln
     simp only [Gl.callsIs,List.length_append] at hpl
     refine run_sound Tryz.func23 mixed 200 _ _ (by kernel_rfl) ?_
     simp only [go_sem,seval,hlt,idx_of hxi,strD_len]
     repeat' (first
      | (simp (disch:=omega) only [wrap_ok])
      | ((refine (cOT_gives (ih x hx (by omega)) _ _).calls rfl ?_)<;>(try simp only [go_sem,seval,hlt]))
      | fail)
     refine ⟨strD_z,by simp only [strD_len];omega,by simp only [strD_len];omega,hnext (p.1+1,p.2++x.callsI false (decide (t.kind=10))) _ ⟨by simp only [List.length_cons] at hi1 hrl;omega,by rw [List.append_assoc];exact hi2⟩ (by refine ⟨by simp [mkS,strD_append],by simp [mkS,strD_append],by simp only [mkS,List.all_cons,List.all_nil,O.refsLt,C.refsLt,C.refsLt1,all_dmap];first | done | rfl | (simp;done),?_⟩;simp [mkS,Abs.get,C.refsLtT,C.refsLt,C.refsLt1])⟩
    ·obtain ⟨hi1,hi2⟩:=hinv
     simp only [Gl.callsIs,List.append_nil] at hi2
     try simp only [hq,Int.reduceEq,decide_false] at hi2
     refine run_sound Tryz.func23 mixed 7 _ _ (by kernel_rfl) ?_
     simp only [go_sem,seval,run.eq_1]
     refine AW.bufT 6 2 rfl rfl (strD_flat _) ?_
     refine AW.place 6 2 0 rfl rfl rfl (by decide) ?_
     rw [hi2]
     refine run_sound Tryz.func23 mixed 200 _ _ (by kernel_rfl) ?_
     simp only [go_sem,seval]
     all_goals exact ⟨_,_,rfl⟩
  ·refine ACalls.enter (fn:=Tryz.f23) Tryz.func23 rfl (by show 3≤_;decide) ?_
   refine run_sound Tryz.func23 mixed 5 _ _ (by kernel_rfl) ?_
   simp only [go_sem,seval,run.eq_1]
   refine AW.adoptB 7 1 9 (by decide) rfl ?_
   refine run_sound Tryz.func23 mixed 200 _ _ (by kernel_rfl) ?_
   simp only [go_sem,seval]
   repeat' (first
    | ((refine br_n (fun hq=>?_) (fun hq=>?_))<;>(try simp only [go_sem,seval,hq]))
    | fail)
   ·have hA':A=[]:=by rw [←hA];simp [*]
    refine AW.rng t.goals [1,2,3,25,26] 27 25 (fun p:Nat×List (List UInt8)=>[(7,.own 2 p.1)]) (fun _ p=>[.hole,.box (t.enc.map .d),.buf p.1 1 9 (strD p.2)]) (fun r p=>p.1≤t.goals.length+1 - r.length∧p.2++Gl.callsIs false r (true)=A++Gl.callsIs false t.goals (true)) (0,[]) rfl (by simp) ⟨by simp,by rw [hA']⟩ (by refine ⟨by simp [mkS,strD_one,strD_nil],by simp [mkS,strD_one,strD_nil],by simp only [mkS,List.all_cons,List.all_nil,O.refsLt,C.refsLt,C.refsLt1,all_dmap];first | done | rfl | (simp;done),?_⟩;simp [mkS,Abs.get,C.refsLtT,C.refsLt,C.refsLt1]) (fun i x r p hxi hdr hlt hm hinv hnext=>?_) (fun p hinv=>?_)
    ·have hx:=List.mem_of_getElem? hxi
     have hxw:=Gl.wt_goals hx
     have hrl:(x :: r).length=t.goals.length - i:=by rw [←hdr];simp
     obtain ⟨hi1,hi2⟩:=hinv
     have hpl:(p.2++Gl.callsIs false (x :: r) (true)).length≤t.cnt:=by rw [hi2];exact hln
     simp only [Gl.callsIs,List.length_append] at hpl
     refine run_sound Tryz.func23 mixed 200 _ _ (by kernel_rfl) ?_
     simp only [go_sem,seval,hlt,idx_of hxi,strD_len]
     repeat' (first
      | (simp (disch:=omega) only [wrap_ok])
      | ((refine (cOT_gives (ih x hx (by omega)) _ _).calls rfl ?_)<;>(try simp only [go_sem,seval,hlt]))
      | fail)
     refine ⟨strD_z,by simp only [strD_len];omega,by simp only [strD_len];omega,hnext (p.1+1,p.2++x.callsI false (true)) _ ⟨by simp only [List.length_cons] at hi1 hrl;omega,by rw [List.append_assoc];exact hi2⟩ (by refine ⟨by simp [mkS,strD_append],by simp [mkS,strD_append],by simp only [mkS,List.all_cons,List.all_nil,O.refsLt,C.refsLt,C.refsLt1,all_dmap];first | done | rfl | (simp;done),?_⟩;simp [mkS,Abs.get,C.refsLtT,C.refsLt,C.refsLt1])⟩
    ·obtain ⟨hi1,hi2⟩:=hinv
     simp only [Gl.callsIs,List.append_nil] at hi2
     try simp only [hq,Int.reduceEq,decide_false] at hi2
     refine run_sound Tryz.func23 mixed 7 _ _ (by kernel_rfl) ?_
     simp only [go_sem,seval,run.eq_1]
     refine AW.bufT 6 2 rfl rfl (strD_flat _) ?_
     refine AW.place 6 2 0 rfl rfl rfl (by decide) ?_
     rw [hi2]
     refine run_sound Tryz.func23 mixed 200 _ _ (by kernel_rfl) ?_
     simp only [go_sem,seval]
     all_goals exact ⟨_,_,rfl⟩
   ·have hA':A=[]:=by rw [←hA];simp [*]
    refine AW.rng t.goals [1,2,3,25,26] 27 25 (fun p:Nat×List (List UInt8)=>[(7,.own 2 p.1)]) (fun _ p=>[.hole,.box (t.enc.map .d),.buf p.1 1 9 (strD p.2)]) (fun r p=>p.1≤t.goals.length+1 - r.length∧p.2++Gl.callsIs false r (true)=A++Gl.callsIs false t.goals (true)) (0,[]) rfl (by simp) ⟨by simp,by rw [hA']⟩ (by refine ⟨by simp [mkS,strD_one,strD_nil],by simp [mkS,strD_one,strD_nil],by simp only [mkS,List.all_cons,List.all_nil,O.refsLt,C.refsLt,C.refsLt1,all_dmap];first | done | rfl | (simp;done),?_⟩;simp [mkS,Abs.get,C.refsLtT,C.refsLt,C.refsLt1]) (fun i x r p hxi hdr hlt hm hinv hnext=>?_) (fun p hinv=>?_)
    ·have hx:=List.mem_of_getElem? hxi
     have hxw:=Gl.wt_goals hx
     have hrl:(x :: r).length=t.goals.length - i:=by rw [←hdr];simp
     obtain ⟨hi1,hi2⟩:=hinv
     have hpl:(p.2++Gl.callsIs false (x :: r) (true)).length≤t.cnt:=by rw [hi2];exact hln
     simp only [Gl.callsIs,List.length_append] at hpl
     refine run_sound Tryz.func23 mixed 200 _ _ (by kernel_rfl) ?_
     simp only [go_sem,seval,hlt,idx_of hxi,strD_len]
     repeat' (first
      | (simp (disch:=omega) only [wrap_ok])
      | ((refine (cOT_gives (ih x hx (by omega)) _ _).calls rfl ?_)<;>(try simp only [go_sem,seval,hlt]))
      | fail)
     refine ⟨strD_z,by simp only [strD_len];omega,by simp only [strD_len];omega,hnext (p.1+1,p.2++x.callsI false (true)) _ ⟨by simp only [List.length_cons] at hi1 hrl;omega,by rw [List.append_assoc];exact hi2⟩ (by refine ⟨by simp [mkS,strD_append],by simp [mkS,strD_append],by simp only [mkS,List.all_cons,List.all_nil,O.refsLt,C.refsLt,C.refsLt1,all_dmap];first | done | rfl | (simp;done),?_⟩;simp [mkS,Abs.get,C.refsLtT,C.refsLt,C.refsLt1])⟩
    ·obtain ⟨hi1,hi2⟩:=hinv
     simp only [Gl.callsIs,List.append_nil] at hi2
     try simp only [hq,Int.reduceEq,decide_false] at hi2
     refine run_sound Tryz.func23 mixed 7 _ _ (by kernel_rfl) ?_
     simp only [go_sem,seval,run.eq_1]
     refine AW.bufT 6 2 rfl rfl (strD_flat _) ?_
     refine AW.place 6 2 0 rfl rfl rfl (by decide) ?_
     rw [hi2]
     refine run_sound Tryz.func23 mixed 200 _ _ (by kernel_rfl) ?_
     simp only [go_sem,seval]
     all_goals exact ⟨_,_,rfl⟩
  ·refine ACalls.enter (fn:=Tryz.f23) Tryz.func23 rfl (by show 3≤_;decide) ?_
   refine run_sound Tryz.func23 mixed 5 _ _ (by kernel_rfl) ?_
   simp only [go_sem,seval,run.eq_1]
   refine AW.adoptB 7 1 9 (by decide) rfl ?_
   refine run_sound Tryz.func23 mixed 200 _ _ (by kernel_rfl) ?_
   simp only [go_sem,seval]
   repeat' (first
    | ((refine br_n (fun hq=>?_) (fun hq=>?_))<;>(try simp only [go_sem,seval,hq]))
    | fail)
   ·have hA':A=[]:=by rw [←hA];simp [*]
    refine AW.rng t.goals [1,2,3,25,26] 27 25 (fun p:Nat×List (List UInt8)=>[(7,.own 2 p.1)]) (fun _ p=>[.hole,.box (t.enc.map .d),.buf p.1 1 9 (strD p.2)]) (fun r p=>p.1≤t.goals.length+1 - r.length∧p.2++Gl.callsIs true r (decide (t.kind=10))=A++Gl.callsIs true t.goals (decide (t.kind=10))) (0,[]) rfl (by simp) ⟨by simp,by rw [hA']⟩ (by refine ⟨by simp [mkS,strD_one,strD_nil],by simp [mkS,strD_one,strD_nil],by simp only [mkS,List.all_cons,List.all_nil,O.refsLt,C.refsLt,C.refsLt1,all_dmap];first | done | rfl | (simp;done),?_⟩;simp [mkS,Abs.get,C.refsLtT,C.refsLt,C.refsLt1]) (fun i x r p hxi hdr hlt hm hinv hnext=>?_) (fun p hinv=>?_)
    ·have hx:=List.mem_of_getElem? hxi
     have hxw:=Gl.wt_goals hx
     have hrl:(x :: r).length=t.goals.length - i:=by rw [←hdr];simp
     obtain ⟨hi1,hi2⟩:=hinv
     have hpl:(p.2++Gl.callsIs true (x :: r) (decide (t.kind=10))).length≤t.cnt:=by rw [hi2];exact hln
     simp only [Gl.callsIs,List.length_append] at hpl
     refine run_sound Tryz.func23 mixed 200 _ _ (by kernel_rfl) ?_
     simp only [go_sem,seval,hlt,idx_of hxi,strD_len]
     repeat' (first
      | (simp (disch:=omega) only [wrap_ok])
      | ((refine (cOT_gives (ih x hx (by omega)) _ _).calls rfl ?_)<;>(try simp only [go_sem,seval,hlt]))
      | fail)
     refine ⟨strD_z,by simp only [strD_len];omega,by simp only [strD_len];omega,hnext (p.1+1,p.2++x.callsI true (decide (t.kind=10))) _ ⟨by simp only [List.length_cons] at hi1 hrl;omega,by rw [List.append_assoc];exact hi2⟩ (by refine ⟨by simp [mkS,strD_append],by simp [mkS,strD_append],by simp only [mkS,List.all_cons,List.all_nil,O.refsLt,C.refsLt,C.refsLt1,all_dmap];first | done | rfl | (simp;done),?_⟩;simp [mkS,Abs.get,C.refsLtT,C.refsLt,C.refsLt1])⟩
    ·obtain ⟨hi1,hi2⟩:=hinv
     simp only [Gl.callsIs,List.append_nil] at hi2
     try simp only [hq,Int.reduceEq,decide_false] at hi2
     refine run_sound Tryz.func23 mixed 7 _ _ (by kernel_rfl) ?_
     simp only [go_sem,seval,run.eq_1]
     refine AW.bufT 6 2 rfl rfl (strD_flat _) ?_
     refine AW.place 6 2 0 rfl rfl rfl (by decide) ?_
     rw [hi2]
     refine run_sound Tryz.func23 mixed 200 _ _ (by kernel_rfl) ?_
     simp only [go_sem,seval]
     all_goals exact ⟨_,_,rfl⟩
   ·have hA':A=[]:=by rw [←hA];simp [*]
    refine AW.rng t.goals [1,2,3,25,26] 27 25 (fun p:Nat×List (List UInt8)=>[(7,.own 2 p.1)]) (fun _ p=>[.hole,.box (t.enc.map .d),.buf p.1 1 9 (strD p.2)]) (fun r p=>p.1≤t.goals.length+1 - r.length∧p.2++Gl.callsIs true r (decide (t.kind=10))=A++Gl.callsIs true t.goals (decide (t.kind=10))) (0,[]) rfl (by simp) ⟨by simp,by rw [hA']⟩ (by refine ⟨by simp [mkS,strD_one,strD_nil],by simp [mkS,strD_one,strD_nil],by simp only [mkS,List.all_cons,List.all_nil,O.refsLt,C.refsLt,C.refsLt1,all_dmap];first | done | rfl | (simp;done),?_⟩;simp [mkS,Abs.get,C.refsLtT,C.refsLt,C.refsLt1]) (fun i x r p hxi hdr hlt hm hinv hnext=>?_) (fun p hinv=>?_)
    ·have hx:=List.mem_of_getElem? hxi
     have hxw:=Gl.wt_goals hx
     have hrl:(x :: r).length=t.goals.length - i:=by rw [←hdr];simp
     obtain ⟨hi1,hi2⟩:=hinv
     have hpl:(p.2++Gl.callsIs true (x :: r) (decide (t.kind=10))).length≤t.cnt:=by rw [hi2];exact hln
     simp only [Gl.callsIs,List.length_append] at hpl
     refine run_sound Tryz.func23 mixed 200 _ _ (by kernel_rfl) ?_
     simp only [go_sem,seval,hlt,idx_of hxi,strD_len]
     repeat' (first
      | (simp (disch:=omega) only [wrap_ok])
      | ((refine (cOT_gives (ih x hx (by omega)) _ _).calls rfl ?_)<;>(try simp only [go_sem,seval,hlt]))
      | fail)
     refine ⟨strD_z,by simp only [strD_len];omega,by simp only [strD_len];omega,hnext (p.1+1,p.2++x.callsI true (decide (t.kind=10))) _ ⟨by simp only [List.length_cons] at hi1 hrl;omega,by rw [List.append_assoc];exact hi2⟩ (by refine ⟨by simp [mkS,strD_append],by simp [mkS,strD_append],by simp only [mkS,List.all_cons,List.all_nil,O.refsLt,C.refsLt,C.refsLt1,all_dmap];first | done | rfl | (simp;done),?_⟩;simp [mkS,Abs.get,C.refsLtT,C.refsLt,C.refsLt1])⟩
    ·obtain ⟨hi1,hi2⟩:=hinv
     simp only [Gl.callsIs,List.append_nil] at hi2
     try simp only [hq,Int.reduceEq,decide_false] at hi2
     refine run_sound Tryz.func23 mixed 7 _ _ (by kernel_rfl) ?_
     simp only [go_sem,seval,run.eq_1]
     refine AW.bufT 6 2 rfl rfl (strD_flat _) ?_
     refine AW.place 6 2 0 rfl rfl rfl (by decide) ?_
     rw [hi2]
     refine run_sound Tryz.func23 mixed 200 _ _ (by kernel_rfl) ?_
     simp only [go_sem,seval]
     all_goals exact ⟨_,_,rfl⟩
  ·refine ACalls.enter (fn:=Tryz.f23) Tryz.func23 rfl (by show 3≤_;decide) ?_
   refine run_sound Tryz.func23 mixed 5 _ _ (by kernel_rfl) ?_
   simp only [go_sem,seval,run.eq_1]
   refine AW.adoptB 7 1 9 (by decide) rfl ?_
   refine run_sound Tryz.func23 mixed 200 _ _ (by kernel_rfl) ?_
   simp only [go_sem,seval]
   repeat' (first
    | ((refine br_n (fun hq=>?_) (fun hq=>?_))<;>(try simp only [go_sem,seval,hq]))
    | ((refine ⟨sd,?_⟩)<;>(try simp only [go_sem,seval]))
    | fail)
   ·have hA':A=[t.name]:=by rw [←hA];simp [*]
    refine AW.rng t.goals [1,2,3,25,26] 27 25 (fun p:Nat×List (List UInt8)=>[(7,.own 2 p.1)]) (fun _ p=>[.hole,.box (t.enc.map .d),.buf p.1 1 9 (strD p.2)]) (fun r p=>p.1≤t.goals.length+1 - r.length∧p.2++Gl.callsIs true r (true)=A++Gl.callsIs true t.goals (true)) (1,[t.name]) rfl (by simp) ⟨by simp,by rw [hA']⟩ (by refine ⟨by simp [mkS,strD_one,strD_nil],by simp [mkS,strD_one,strD_nil],by simp only [mkS,List.all_cons,List.all_nil,O.refsLt,C.refsLt,C.refsLt1,all_dmap];first | done | rfl | (simp;done),?_⟩;simp [mkS,Abs.get,C.refsLtT,C.refsLt,C.refsLt1]) (fun i x r p hxi hdr hlt hm hinv hnext=>?_) (fun p hinv=>?_)
    ·have hx:=List.mem_of_getElem? hxi
     have hxw:=Gl.wt_goals hx
     have hrl:(x :: r).length=t.goals.length - i:=by rw [←hdr];simp
     obtain ⟨hi1,hi2⟩:=hinv
     have hpl:(p.2++Gl.callsIs true (x :: r) (true)).length≤t.cnt:=by rw [hi2];exact hln
     simp only [Gl.callsIs,List.length_append] at hpl
     refine run_sound Tryz.func23 mixed 200 _ _ (by kernel_rfl) ?_
     simp only [go_sem,seval,hlt,idx_of hxi,strD_len]
     repeat' (first
      | (simp (disch:=omega) only [wrap_ok])
      | ((refine (cOT_gives (ih x hx (by omega)) _ _).calls rfl ?_)<;>(try simp only [go_sem,seval,hlt]))
      | fail)
     refine ⟨strD_z,by simp only [strD_len];omega,by simp only [strD_len];omega,hnext (p.1+1,p.2++x.callsI true (true)) _ ⟨by simp only [List.length_cons] at hi1 hrl;omega,by rw [List.append_assoc];exact hi2⟩ (by refine ⟨by simp [mkS,strD_append],by simp [mkS,strD_append],by simp only [mkS,List.all_cons,List.all_nil,O.refsLt,C.refsLt,C.refsLt1,all_dmap];first | done | rfl | (simp;done),?_⟩;simp [mkS,Abs.get,C.refsLtT,C.refsLt,C.refsLt1])⟩
    ·obtain ⟨hi1,hi2⟩:=hinv
     simp only [Gl.callsIs,List.append_nil] at hi2
     try simp only [hq,Int.reduceEq,decide_false] at hi2
     refine run_sound Tryz.func23 mixed 7 _ _ (by kernel_rfl) ?_
     simp only [go_sem,seval,run.eq_1]
     refine AW.bufT 6 2 rfl rfl (strD_flat _) ?_
     refine AW.place 6 2 0 rfl rfl rfl (by decide) ?_
     rw [hi2]
     refine run_sound Tryz.func23 mixed 200 _ _ (by kernel_rfl) ?_
     simp only [go_sem,seval]
     all_goals exact ⟨_,_,rfl⟩
   ·have hA':A=[]:=by rw [←hA];simp [*]
    refine AW.rng t.goals [1,2,3,25,26] 27 25 (fun p:Nat×List (List UInt8)=>[(7,.own 2 p.1)]) (fun _ p=>[.hole,.box (t.enc.map .d),.buf p.1 1 9 (strD p.2)]) (fun r p=>p.1≤t.goals.length+1 - r.length∧p.2++Gl.callsIs true r (true)=A++Gl.callsIs true t.goals (true)) (0,[]) rfl (by simp) ⟨by simp,by rw [hA']⟩ (by refine ⟨by simp [mkS,strD_one,strD_nil],by simp [mkS,strD_one,strD_nil],by simp only [mkS,List.all_cons,List.all_nil,O.refsLt,C.refsLt,C.refsLt1,all_dmap];first | done | rfl | (simp;done),?_⟩;simp [mkS,Abs.get,C.refsLtT,C.refsLt,C.refsLt1]) (fun i x r p hxi hdr hlt hm hinv hnext=>?_) (fun p hinv=>?_)
    ·have hx:=List.mem_of_getElem? hxi
     have hxw:=Gl.wt_goals hx
     have hrl:(x :: r).length=t.goals.length - i:=by rw [←hdr];simp
     obtain ⟨hi1,hi2⟩:=hinv
     have hpl:(p.2++Gl.callsIs true (x :: r) (true)).length≤t.cnt:=by rw [hi2];exact hln
     simp only [Gl.callsIs,List.length_append] at hpl
     refine run_sound Tryz.func23 mixed 200 _ _ (by kernel_rfl) ?_
     simp only [go_sem,seval,hlt,idx_of hxi,strD_len]
     repeat' (first
      | (simp (disch:=omega) only [wrap_ok])
      | ((refine (cOT_gives (ih x hx (by omega)) _ _).calls rfl ?_)<;>(try simp only [go_sem,seval,hlt]))
      | fail)
     refine ⟨strD_z,by simp only [strD_len];omega,by simp only [strD_len];omega,hnext (p.1+1,p.2++x.callsI true (true)) _ ⟨by simp only [List.length_cons] at hi1 hrl;omega,by rw [List.append_assoc];exact hi2⟩ (by refine ⟨by simp [mkS,strD_append],by simp [mkS,strD_append],by simp only [mkS,List.all_cons,List.all_nil,O.refsLt,C.refsLt,C.refsLt1,all_dmap];first | done | rfl | (simp;done),?_⟩;simp [mkS,Abs.get,C.refsLtT,C.refsLt,C.refsLt1])⟩
    ·obtain ⟨hi1,hi2⟩:=hinv
     simp only [Gl.callsIs,List.append_nil] at hi2
     try simp only [hq,Int.reduceEq,decide_false] at hi2
     refine run_sound Tryz.func23 mixed 7 _ _ (by kernel_rfl) ?_
     simp only [go_sem,seval,run.eq_1]
     refine AW.bufT 6 2 rfl rfl (strD_flat _) ?_
     refine AW.place 6 2 0 rfl rfl rfl (by decide) ?_
     rw [hi2]
     refine run_sound Tryz.func23 mixed 200 _ _ (by kernel_rfl) ?_
     simp only [go_sem,seval]
     all_goals exact ⟨_,_,rfl⟩
end Go.Proofs.YtjbidjeijodmnaaGreat
