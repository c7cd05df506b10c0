import Derived.Test.YthilkmjkgpdngaaGreatW4
import Derived.Test.YthilkmjkgpdngaaGreatW5
import Derived.Test.YthilkmjkgpdngaaGreatP1
open Bool renaming and_eq_true→a_,true_and→c_,and_false→f_,and_true→h_
open List renaming mem_of_getElem?→b_,all_nil→d_,eq_nil_of_length_eq_zero→e_,all_cons→g_
namespace Go.Proofs.YthilkmjkgpdngaaGreat
open Go.Abs
set_option maxRecDepth 100000
set_option maxHeartbeats 8000000
set_option linter.unusedSimpArgs false
set_option linter.unusedVariables false
theorem relation_fn (p:Pg) (s:List UInt8):Gives Tryz.prog 61 [.agg p.enc,.str s] (.d (.int .i64 (p.find s))):=by
 refine aE_ Tryz.func61 ?_
 refine rS_ Tryz.func61 ?_
 simp only [go_sem,seval]
 refine AW.rng p.rels [1,8,9] 10 8 (fun _:Unit=>[]) (fun H _=>H) (fun r _=>findR r s ((p.rels.length - r.length:Nat):Int)=p.find s) () rfl (by simp) (by simp [Pg.find]) wk2_ (fun i x r acc hxi hdr hlt hm hinv hnext=>?_) (fun acc hinv=>?_)
 ·have hdl:=drop_len hdr
  have hdl2:p.rels.length - r.length=i+1:=by have:=congrArg List.length hdr;simp at this;omega
  simp only [List.length_cons,hdl,findR] at hinv
  rw [hdl2] at hnext
  refine rS_ Tryz.func61 ?_
  simp only [go_sem,seval,hlt,idx_of hxi]
  repeat' (first
   | ((refine br_n (fun hq=>?_) (fun hq=>?_))<;>(try simp only [go_sem,seval,hq]))
   | (simp (disch:=omega) only [wrap_ok])
   | (refine hnext () _ ?_ wk2_)
   | fail)
  all_goals clear hnext
  ·rw [←hinv];simp [*]
  ·rw [←hinv];simp [*]
 ·simp only [findR] at hinv
  refine rS_ Tryz.func61 ?_
  simp only [go_sem,seval]
  rw [hinv]
theorem l14Find_fn (p:Pg) (s:List UInt8):Gives Tryz.prog 45 [.agg p.enc,.str s] (.d (.int .i64 (p.find s))):=by
 refine aE_ Tryz.func45 ?_
 refine rS_ Tryz.func45 ?_
 simp only [go_sem,seval]
 refine AW.rng p.rels [1,8,9] 10 8 (fun _:Unit=>[]) (fun H _=>H) (fun r _=>findR r s ((p.rels.length - r.length:Nat):Int)=p.find s) () rfl (by simp) (by simp [Pg.find]) wk2_ (fun i x r acc hxi hdr hlt hm hinv hnext=>?_) (fun acc hinv=>?_)
 ·have hdl:=drop_len hdr
  have hdl2:p.rels.length - r.length=i+1:=by have:=congrArg List.length hdr;simp at this;omega
  simp only [List.length_cons,hdl,findR] at hinv
  rw [hdl2] at hnext
  refine rS_ Tryz.func45 ?_
  simp only [go_sem,seval,hlt,idx_of hxi]
  repeat' (first
   | ((refine br_n (fun hq=>?_) (fun hq=>?_))<;>(try simp only [go_sem,seval,hq]))
   | (simp (disch:=omega) only [wrap_ok])
   | (refine hnext () _ ?_ wk2_)
   | fail)
  all_goals clear hnext
  ·rw [←hinv];simp [*]
  ·rw [←hinv];simp [*]
 ·simp only [findR] at hinv
  refine rS_ Tryz.func45 ?_
  simp only [go_sem,seval]
  rw [hinv]
theorem varsBelow_fn (t:Gl) (n:Int) (hs:t.shape=true) (hw:wtL t.enc≤9000000):Gives Tryz.prog 63 [.agg t.enc,.int .i64 n] (.d (.bool (t.varsLt n))):=by
 have hb:t.varsLt n=_:=(below_asc t.vars n).symm
 generalize t.varsLt n=N at hb ⊢
 refine aE_ Tryz.func63 ?_
 refine rS_ Tryz.func63 ?_
 simp only [go_sem,seval]
 repeat' (first
  | ((refine (goalVars_fn _ (by assumption) sd).calls rfl ?_)<;>(try simp only [go_sem,seval]))
  | fail)
 refine AW.rng (ascOf t.vars) [1,8,9] 10 8 (fun _:Unit=>[]) (fun H _=>H) (fun r _=>(r.all fun v=>decide (v<n))=N) () rfl (by simp [intsD]) hb.symm wk2_ (fun i x r acc hxi hdr hlt hm hinv hnext=>?_) (fun acc hinv=>?_)
 ·rw [g_] at hinv
  refine rS_ Tryz.func63 ?_
  simp only [go_sem,seval,hlt,idx_of hxi]
  repeat' (first
   | ((refine br_n (fun hq=>?_) (fun hq=>?_))<;>(try simp only [go_sem,seval,hq]))
   | (simp (disch:=omega) only [wrap_ok])
   | (refine hnext () _ ?_ wk2_)
   | fail)
  all_goals clear hnext
  all_goals first | (rw [←hinv,decide_eq_false (by omega)];rfl) | (rw [←hinv,decide_eq_true (by omega)];rfl)
 ·rw [d_] at hinv
  refine rS_ Tryz.func63 ?_
  simp only [go_sem,seval]
  rw [hinv]
theorem cf1_clo (p:Pg) (gb:List D):Clo Tryz.prog 95 [.ptr 0 0,.ptr 2 0] 3 (fun x:Gl=>D.agg x.enc) (fun b:Bool=>[.box (p.enc.map .d),.box (gb.map .d),.box [.d (.bool b)]]) (fun _=>True) (fun b x=>b && p.fitC x):=by
 refine ⟨by kernel_rfl,rfl,fun _=>rfl,fun a=>by simp only [g_,d_,O.refsLt,all_dmap,C.refsLt,C.refsLt1];rfl,fun a x _=>?_⟩
 have h1:=fun h=>Pg.fitC_other (p:=p) (x:=x) h
 have h2:=fun h hf=>Pg.fitC_neg (p:=p) (x:=x) h hf
 have h3:=fun h hf r hr=>Pg.fitC_at (p:=p) (x:=x) h hf (r:=r) hr
 have hr:=Pg.find_range p x.name
 generalize p.fitC x=N at h1 h2 h3 ⊢
 refine aE_ Tryz.func95 ?_
 refine rS_ Tryz.func95 ?_
 simp only [go_sem,seval]
 repeat' (first
  | ((first | (refine br_n (fun hq=>?_) (fun hq=>?_)) | (refine idx_intro (fun x hx=>have hq:=hx;?_)))<;>(try simp only [go_sem,seval,hq]))
  | ((first
   | (refine (relation_fn _ _).calls rfl ?_)
   | (refine ⟨sd,?_⟩))<;>(try simp only [go_sem,seval]))
  | fail)
 all_goals (refine ⟨by simp only [all_dmap,Bool.and_self],?_⟩;congr 6)
 ·rw [h3 (by assumption) (by assumption) _ hx,decide_eq_false (by assumption),f_]
 ·rw [h3 (by assumption) (by assumption) _ hx,decide_eq_true (by assumption),h_]
 ·rw [h2 (by assumption) (by assumption),f_]
 ·rw [h1 (by assumption),h_]
theorem callsFit_fn (p:Pg) (g:Gl):Gives Tryz.prog 64 [.agg p.enc,.agg g.enc] (.d (.bool (p.callsFit g))):=by
 have e1:=eachGoal_fn (cf1_clo p g.enc) g true (fun _ _=>trivial)
 rw [foldl_all,c_] at e1
 have hc:p.callsFit g=g.subs.all p.fitC:=rfl
 rw [hc]
 generalize g.subs.all p.fitC=N at e1 ⊢
 refine aE_ Tryz.func64 ?_
 refine rS_ Tryz.func64 ?_
 simp only [go_sem,seval]
 repeat' (first
  | ((refine ACalls.mono e1 ?_<;>(rintro c H' ⟨rfl,rfl⟩))<;>(try simp only [go_sem,seval]))
  | fail)
theorem l14Calls_fn (p:Pg):∀(t:Gl),t.shape=true→Gives Tryz.prog 79 [.agg p.enc,.agg t.enc] (.d (.bool (p.callsFit t))):=by
 intro t
 induction t using Gl.ind' with
 | h t ih =>
  intro hs
  have h0:=Pg.callsFit_eq p t
  have h1:=fun h=>Pg.fitC_other (p:=p) (x:=t) h
  have h2:=fun h hf=>Pg.fitC_neg (p:=p) (x:=t) h hf
  have h3:=fun h hf r hr=>Pg.fitC_at (p:=p) (x:=t) h hf (r:=r) hr
  have hr:=Pg.find_range p t.name
  have hg:∀x,x∈t.goals→x.shape=true:=fun x hx=>by
   rw [Gl.shape_eq] at hs;simp only [a_,List.all_eq_true] at hs;exact hs.2 x hx
  have h9:t.kind=9→t.goals=[]:=fun h=>by
   rw [Gl.shape_eq] at hs;simp only [a_] at hs
   have:=Gl.form_inv hs.1.1
   exact e_ (by omega)
  generalize p.callsFit t=N at h0 ⊢
  generalize p.fitC t=M at h0 h1 h2 h3
  refine aE_ Tryz.func79 ?_
  refine rS_ Tryz.func79 ?_
  simp only [go_sem,seval]
  repeat' (first
   | ((first | (refine br_n (fun hq=>?_) (fun hq=>?_)) | (refine idx_intro (fun x hx=>have hq:=hx;?_)))<;>(try simp only [go_sem,seval,hq]))
   | ((first
    | (refine (l14Find_fn _ _).calls rfl ?_)
    | (refine ⟨sd,?_⟩))<;>(try simp only [go_sem,seval]))
   | fail)
  all_goals try (rw [h9 (by assumption),d_,h_] at h0;subst h0)
  ·rw [h3 (by assumption) (by assumption) _ hx]
  ·rw [h2 (by assumption) (by assumption)]
  rw [h1 (by assumption),c_] at h0
  refine AW.rng t.goals [2,30,31] 32 30 (fun _:Unit=>[]) (fun H _=>H) (fun r _=>r.all p.callsFit=N) () rfl (by simp) h0.symm wk2_ (fun i x r acc hxi hdr hlt hm hinv hnext=>?_) (fun acc hinv=>?_)
  ·have hx:=b_ hxi
   have ihx:=ih x hx (hg x hx)
   rw [g_] at hinv
   refine rS_ Tryz.func79 ?_
   simp only [go_sem,seval,hlt,idx_of hxi]
   repeat' (first
    | ((refine br_n (fun hq=>?_) (fun hq=>?_))<;>(try simp only [go_sem,seval,hq]))
    | (simp (disch:=omega) only [wrap_ok])
    | (refine hnext () _ ?_ wk2_)
    | ((refine ihx.calls rfl ?_)<;>(try simp only [go_sem,seval]))
    | fail)
   all_goals clear hnext ihx ih
   all_goals (rw [←hinv];simp [*];done)
  ·rw [d_] at hinv
   refine rS_ Tryz.func79 ?_
   simp only [go_sem,seval]
   rw [hinv]
theorem l14Fits_fn (p:Pg) (g:Gl) (n:Int) (hw:wtL g.enc≤9000000):Gives Tryz.prog 48 [.agg p.enc,.agg g.enc,.int .i64 n] (.d (.bool (p.fits g n))):=by
 have hvw:=Gl.vars_wt g
 have hasc:Asc []:=by simp [Asc]
 have hnil:(g.vars.foldl insA [])=ascOf g.vars:=rfl
 have hN:p.fits g n=(glOk g && (ascOf g.vars).all (fun v=>decide (v<n)) && p.callsFit g):=by rw [below_asc];rfl
 have hlast:=fun {m x}=>below_last (ascOf_asc g.vars) n (m:=m) (x:=x)
 have hal:(ascOf g.vars).length≤0+g.vars.length:=foldA_len
 have hempty:(ascOf g.vars).length=0→(ascOf g.vars).all (fun v=>decide (v<n))=true:=fun h=>by rw [e_ h];rfl
 generalize p.fits g n=N at hN ⊢
 by_cases hok:glOk g=true
 ·have hs:=glOk_shape hok
  generalize hb:p.callsFit g=b at hN
  refine aE_ Tryz.func48 ?_
  refine rS_ Tryz.func48 ?_
  simp only [go_sem,seval,hok,hb]
  repeat' (first
   | ((first | (refine br_n (fun hq=>?_) (fun hq=>?_)) | (refine idx_intro (fun x hx=>have hq:=hx;?_)))<;>(try simp only [go_sem,seval,hnil,hok,hb,hq]))
   | (simp (disch:=omega) only [wrap_ok])
   | ((first
    | (refine (l13Vars_fn g [] hasc (by simp;omega)).calls rfl ?_)
    | (refine (sGoalOk_fn _ sd).calls rfl ?_)
    | (refine (l14Calls_fn _ _ (by assumption)).calls rfl ?_)
    | (refine ⟨sd,?_⟩))<;>(try simp only [go_sem,seval,hnil,hok,hb]))
   | fail)
  all_goals rw [hN]
  ·rw [hq,f_]
  ·rw [hlast (m:=((ascOf g.vars).length - 1:Int).toNat) (by omega) hx,hok];simp [*]
  ·rw [hempty (by omega),hok];simp [*]
 ·simp only [Bool.not_eq_true] at hok
  rw [hN,hok]
  refine aE_ Tryz.func48 ?_
  refine rS_ Tryz.func48 ?_
  simp only [go_sem,seval,hok]
  repeat' (first
   | ((refine (sGoalOk_fn _ sd).calls rfl ?_)<;>(try simp only [go_sem,seval,hok]))
   | fail)
theorem iProgramOk_fn (p:Pg) (hw:wtL p.enc≤9000000):Gives Tryz.prog 30 [.agg p.enc] (.d (.bool (pgOk p))):=by
 have hP:pgOk p=(decide (p.rels.length≤8) && p.okL p.rels):=rfl
 have hwr:∀r,r∈p.rels→wtL r.body.enc≤9000000∧r.name.length≤9000000:=fun r hr=>by
  have:=Pg.wt_rels hr;have:=Rl.wt_body r;omega
 generalize pgOk p=N at hP ⊢
 refine aE_ Tryz.func30 ?_
 refine rS_ Tryz.func30 ?_
 simp only [go_sem,seval]
 repeat' (first
  | ((refine br_n (fun hq=>?_) (fun hq=>?_))<;>(try simp only [go_sem,seval,hq]))
  | fail)
 ·rw [hP,decide_eq_false (by omega)];rfl
 rw [decide_eq_true (by omega),c_] at hP
 refine AW.rng p.rels [1,10,11] 12 10 (fun _:Unit=>[]) (fun H _=>H) (fun r _=>p.okL r=N) () rfl (by simp) hP.symm wk2_ (fun i x r acc hxi hdr hlt hm hinv hnext=>?_) (fun acc hinv=>?_)
 ·have hdl:=drop_len hdr
  obtain ⟨w1,w2⟩:=hwr x (b_ hxi)
  simp only [Pg.okL,hdl] at hinv
  have hM:p.relOk i x=true↔p.find x.name=i∧isRel x.name=true∧(0≤x.arity∧x.arity≤4)∧(0≤x.locals∧x.locals≤8)∧x.body.cnt≤60∧x.body.shape=true∧x.body.varsLt (x.arity+x.locals)=true∧p.callsFit x.body=true:=by
   unfold Pg.relOk
   simp only [a_,decide_eq_true_eq,and_assoc]
  have hgo:glOk x.body=true↔x.body.cnt≤80∧x.body.shape=true:=by unfold glOk;simp
  have hcs:=Gl.count_spec x.body 80
  have hcp:=Gl.cnt_pos x.body
  have hsh:0≤x.body.nodes 60↔x.body.shape=true∧x.body.cnt≤60:=by
   unfold Gl.nodes
   by_cases h:x.body.shape=true∧(x.body.cnt:Int)≤60
   ·rw [if_pos h];exact ⟨fun _=>⟨h.1,by omega⟩,fun _=>by omega⟩
   ·rw [if_neg h];exact ⟨fun h'=>by omega,fun h'=>absurd ⟨h'.1,by omega⟩ h⟩
  obtain ⟨z,hz,hz1⟩:∃z:Int,(if glOk x.body=true then x.body.countF 80 else 0)=z∧(glOk x.body=true→z=x.body.cnt):=⟨_,rfl,fun h=>by rw [if_pos h];have:=(hgo.1 h).1;omega⟩
  have hfi:p.fits x.body (x.arity+x.locals)=true↔glOk x.body=true∧x.body.varsLt (x.arity+x.locals)=true∧p.callsFit x.body=true:=by unfold Pg.fits;simp only [a_,and_assoc]
  generalize p.relOk i x=M at hM hinv
  generalize hb1:p.callsFit x.body=b1 at hM hfi
  generalize hb3:p.fits x.body (x.arity+x.locals)=b3 at hfi
  have hfl:¬M=true→N=false:=fun h=>by rw [←hinv,Bool.eq_false_iff.2 h];rfl
  have htr:M=true→p.okL r=N:=fun h=>by rw [←hinv,h];rfl
  clear hinv
  refine rS_ Tryz.func30 ?_
  simp only [go_sem,seval,hlt,idx_of hxi]
  repeat' (first
   | ((refine br_n (fun hq=>?_) (fun hq=>?_))<;>(try simp only [go_sem,seval,hb1,hb3,hz,hq]))
   | (simp (disch:=omega) only [wrap_ok])
   | (refine hnext () _ ?_ wk2_)
   | ((first
    | (refine (varsBelow_fn _ _ (hsh.1 (by omega)).1 (by omega)).calls rfl ?_)
    | (refine (iIsRelName_fn _ sd).calls rfl ?_)
    | (refine (relation_fn _ _).calls rfl ?_)
    | (refine (goalNodes_fn _ _ sd sd sd).calls rfl ?_)
    | (refine (callsFit_fn _ _).calls rfl ?_))<;>(try simp only [go_sem,seval,hb1,hb3,hz]))
   | fail)
  all_goals clear hnext hz
  all_goals first
   | (rw [hfl (fun h=>by obtain ⟨m1,m2,m3,m4,m5,m6,m7,m8⟩:=hM.1 h;have hg:=hgo.2 ⟨by omega,m6⟩;have hs2:=hsh.2 ⟨m6,m5⟩;have hf2:=hfi.2 ⟨hg,m7,m8⟩;have hz2:=hz1 hg;clear hcs hgo hsh hfi hM hfl htr hz1;first | omega | simp_all)];done)
   | (refine htr (hM.2 ?_);have hs1:=hsh.1 (by omega);exact ⟨by assumption,by assumption,by omega,by omega,hs1.2,hs1.1,by assumption,by assumption⟩)
   | (refine htr (hM.2 ?_);obtain ⟨f1,f2,f3⟩:=hfi.1 (by assumption);obtain ⟨g1,g2⟩:=hgo.1 f1;have hz2:=hz1 f1;exact ⟨by assumption,by assumption,by omega,by omega,by omega,g2,f2,f3⟩)
   | skip
 ·simp only [Pg.okL] at hinv
  refine rS_ Tryz.func30 ?_
  simp only [go_sem,seval]
  rw [hinv]
theorem sProgramOk_fn (p:Pg) (hw:wtL p.enc≤9000000):Gives Tryz.prog 19 [.agg p.enc] (.d (.bool (pgOk p))):=by
 have hP:pgOk p=(decide (p.rels.length≤8) && p.okL p.rels):=rfl
 have hwr:∀r,r∈p.rels→wtL r.body.enc≤9000000∧r.name.length≤9000000:=fun r hr=>by
  have:=Pg.wt_rels hr;have:=Rl.wt_body r;omega
 generalize pgOk p=N at hP ⊢
 refine aE_ Tryz.func19 ?_
 refine rS_ Tryz.func19 ?_
 simp only [go_sem,seval]
 repeat' (first
  | ((refine br_n (fun hq=>?_) (fun hq=>?_))<;>(try simp only [go_sem,seval,hq]))
  | fail)
 ·rw [hP,decide_eq_false (by omega)];rfl
 rw [decide_eq_true (by omega),c_] at hP
 refine AW.rng p.rels [1,10,11] 12 10 (fun _:Unit=>[]) (fun H _=>H) (fun r _=>p.okL r=N) () rfl (by simp) hP.symm wk2_ (fun i x r acc hxi hdr hlt hm hinv hnext=>?_) (fun acc hinv=>?_)
 ·have hdl:=drop_len hdr
  obtain ⟨w1,w2⟩:=hwr x (b_ hxi)
  simp only [Pg.okL,hdl] at hinv
  have hM:p.relOk i x=true↔p.find x.name=i∧isRel x.name=true∧(0≤x.arity∧x.arity≤4)∧(0≤x.locals∧x.locals≤8)∧x.body.cnt≤60∧x.body.shape=true∧x.body.varsLt (x.arity+x.locals)=true∧p.callsFit x.body=true:=by
   unfold Pg.relOk
   simp only [a_,decide_eq_true_eq,and_assoc]
  have hgo:glOk x.body=true↔x.body.cnt≤80∧x.body.shape=true:=by unfold glOk;simp
  have hcs:=Gl.count_spec x.body 80
  have hcp:=Gl.cnt_pos x.body
  have hsh:0≤x.body.nodes 60↔x.body.shape=true∧x.body.cnt≤60:=by
   unfold Gl.nodes
   by_cases h:x.body.shape=true∧(x.body.cnt:Int)≤60
   ·rw [if_pos h];exact ⟨fun _=>⟨h.1,by omega⟩,fun _=>by omega⟩
   ·rw [if_neg h];exact ⟨fun h'=>by omega,fun h'=>absurd ⟨h'.1,by omega⟩ h⟩
  obtain ⟨z,hz,hz1⟩:∃z:Int,(if glOk x.body=true then x.body.countF 80 else 0)=z∧(glOk x.body=true→z=x.body.cnt):=⟨_,rfl,fun h=>by rw [if_pos h];have:=(hgo.1 h).1;omega⟩
  have hfi:p.fits x.body (x.arity+x.locals)=true↔glOk x.body=true∧x.body.varsLt (x.arity+x.locals)=true∧p.callsFit x.body=true:=by unfold Pg.fits;simp only [a_,and_assoc]
  generalize p.relOk i x=M at hM hinv
  generalize hb1:p.callsFit x.body=b1 at hM hfi
  generalize hb3:p.fits x.body (x.arity+x.locals)=b3 at hfi
  have hfl:¬M=true→N=false:=fun h=>by rw [←hinv,Bool.eq_false_iff.2 h];rfl
  have htr:M=true→p.okL r=N:=fun h=>by rw [←hinv,h];rfl
  clear hinv
  refine rS_ Tryz.func19 ?_
  simp only [go_sem,seval,hlt,idx_of hxi]
  repeat' (first
   | ((refine br_n (fun hq=>?_) (fun hq=>?_))<;>(try simp only [go_sem,seval,hb1,hb3,hz,hq]))
   | (simp (disch:=omega) only [wrap_ok])
   | (refine hnext () _ ?_ wk2_)
   | ((first
    | (refine (l14Find_fn _ _).calls rfl ?_)
    | (refine (sIsRelName_fn _ sd).calls rfl ?_)
    | (refine (l01In_fn _ _ _).calls rfl ?_)
    | (refine (l14Fits_fn _ _ _ sd).calls rfl ?_)
    | (refine (sGoalSize_fn _ sd).calls rfl ?_))<;>(try simp only [go_sem,seval,hb1,hb3,hz]))
   | fail)
  all_goals clear hnext hz
  all_goals first
   | (rw [hfl (fun h=>by obtain ⟨m1,m2,m3,m4,m5,m6,m7,m8⟩:=hM.1 h;have hg:=hgo.2 ⟨by omega,m6⟩;have hs2:=hsh.2 ⟨m6,m5⟩;have hf2:=hfi.2 ⟨hg,m7,m8⟩;have hz2:=hz1 hg;clear hcs hgo hsh hfi hM hfl htr hz1;first | omega | simp_all)];done)
   | (refine htr (hM.2 ?_);have hs1:=hsh.1 (by omega);exact ⟨by assumption,by assumption,by omega,by omega,hs1.2,hs1.1,by assumption,by assumption⟩)
   | (refine htr (hM.2 ?_);obtain ⟨f1,f2,f3⟩:=hfi.1 (by assumption);obtain ⟨g1,g2⟩:=hgo.1 f1;have hz2:=hz1 f1;exact ⟨by assumption,by assumption,by omega,by omega,by omega,g2,f2,f3⟩)
   | skip
 ·simp only [Pg.okL] at hinv
  refine rS_ Tryz.func19 ?_
  simp only [go_sem,seval]
  rw [hinv]
end Go.Proofs.YthilkmjkgpdngaaGreat
