import Derived.Test.YtehcdhelbkjaeaaGreatDoorW40
open Bool renaming true_and→a_,false_and→b_,and_eq_true→n_,and_false→p_
open List renaming append_nil→c_,all_cons→d_,mem_of_getElem?→e_,all_nil→f_,map_nil→g_,getElem?_eq_some_iff→h_,getElem?_eq_getElem→i_,length_map→j_,length_cons→m_,all_append→o_,map_cons→q_
open Option renaming isSome_some→k_,getD_some→l_
namespace Go.Proofs.YtehcdhelbkjaeaaGreatDoor
open Go.Abs
set_option maxRecDepth 100000
set_option maxHeartbeats 8000000
set_option linter.unusedSimpArgs false
set_option linter.unusedVariables false
theorem l18Rule_fn (r:Rl) (i:Int) (c:List Gl) (vs:List V) (hg:∀g,g∈c→g.inst vs.length) (hl:(vs.length:Int)=r.arity+r.locals) (ha:0≤r.arity) (hb:0≤r.locals) (hv:vs.length≤1000000) (hc:c.length≤1000000) :
  Gives Tryz.prog 63 [.agg r.enc,.int .i64 i,.sl (c.map Gl.enc),.sl (bdD vs)] (.tup [.d (.agg (ruOf r i vs (clsPre (valAt vs) c)).enc),.d (.bool (clsHolds (valAt vs) c))]):=by
 have hmx:maxLen=9223372036854775807:=rfl
 have hbl:=bdsF_len vs 0
 have hbt:=bdsF_to vs 0
 have hput:∀g,g∈c→Gives Tryz.prog 97 [.agg g.enc,.sl ((bdsF 0 vs).map Bd.enc)] (.d (.agg (g.ins (valAt vs)).enc)):=fun g h=>l13Put_fn vs g (hg g h)
 have hbe:bdD vs=(bdsF 0 vs).map Bd.enc:=rfl
 rw [hbe]
 clear hbe
 generalize hR:(C.tup [.d (.agg (ruOf r i vs (clsPre (valAt vs) c)).enc),.d (.bool (clsHolds (valAt vs) c))])=RES
 refine aE_ Tryz.func63 ?_
 refine run_sound Tryz.func63 mixed 5 _ _ (by kernel_rfl) ?_
 simp only [go_sem,seval,run.eq_1]
 refine AW.adoptGB 2 3 4 89 (by decide) rfl rfl ?_
 refine AW.adoptGB 2 4 2 110 (by decide) rfl rfl ?_
 refine AW.adoptGB 2 5 2 110 (by decide) rfl rfl ?_
 refine rS_ Tryz.func63 ?_
 simp only [go_sem,seval]
 refine AW.rng (bdsF 0 vs) [2,3,4,8,10,18,19] 20 18 (fun p:List Tm=>[]) (fun _ p=>[.box (r.enc.map .d),.box [.d (.str []),.nil0,.d (.int .i64 0),.nil0,.nil0,.nil0],.box [.d (.str []),.nil0,.d (.int .i64 i),.own 3 p.length,.own 4 0,.own 5 0],.grow p.length 4 89 (p.map Tm.enc),.grow 0 2 110 [],.grow 0 2 110 []]) (fun s p=>p++s.map Bd.to=vs.map V.tm) [] rfl (by simp) (by simpa using hbt) wk1_ (fun j x s p hxi hdr hlt hm hinv hnext=>?_) (fun p hinv=>?_)
 ·have hpl:p.length+(s.length+1)=vs.length:=by have:=congrArg List.length hinv;simpa using this
  refine rS_ Tryz.func63 ?_
  simp only [go_sem,seval,hlt,idx_of hxi]
  repeat' (first
   | (simp (disch:=omega) only [wrap_ok])
   | ((refine ⟨sd,?_⟩)<;>(try simp only [go_sem,seval,hlt,idx_of hxi]))
   | fail)
  refine hnext (p++[x.to]) _ (by rw [←hinv];simp) (by refine ⟨by simp [mkS,Bd.enc_eq,Tm.enc_eq],by simp [mkS,Bd.enc_eq,Tm.enc_eq],by simp only [mkS,d_,f_,O.refsLt,C.refsLt,C.refsLt1,all_dmap];first | done | rfl | (simp;done),?_⟩;simp [mkS,Abs.get,C.refsLtT,C.refsLt,C.refsLt1,Bd.enc_eq,Tm.enc_eq])
 ·simp only [g_,c_] at hinv
  subst hinv
  have hvl2:(vs.map V.tm).length=vs.length:=by simp
  have hz4:∀x,x∈(vs.map V.tm).map Tm.enc→x.length=4:=fun x hx=>by obtain ⟨y,_,rfl⟩:=List.mem_map.1 hx;exact Tm.enc_len y
  have hru:∀d,(ruOf r i vs d).enc=[.str r.name,.sl (((vs.map V.tm).take r.arity.toNat).map Tm.enc),.int .i64 i,.sl ((vs.map V.tm).map Tm.enc),.sl (((clsPos (valAt vs) d).map FcV.fc).map Fc.enc),.sl (((clsNeg (valAt vs) d).map FcV.fc).map Fc.enc)]:=fun d=>by rw [Ru.enc_eq];rfl
  simp only [hru] at hR
  clear hru hbt
  generalize vs.map V.tm=TV at *
  refine run_sound Tryz.func63 mixed 6 _ _ (by kernel_rfl) ?_
  simp only [go_sem,seval,run.eq_1]
  refine AW.drawA mixed #[true,true,true,true,true,true,true,true,false,false] [(0,.box (r.enc.map .d)),(2,.box [.d (.str []),.nil0,.d (.int .i64 i),.own 3 TV.length,.own 4 0,.own 5 0])] [] [0,1,2,3,4,5,6,7] [8,9] none (by kernel_rfl) trivial (by simp [holdsB]) ?_
  simp only [go_sem,seval]
  repeat' (first
   | ((refine ⟨sd,?_⟩)<;>(try simp only [go_sem,seval]))
   | fail)
  refine rS_ Tryz.func63 ?_
  simp only [go_sem,seval]
  have hp0:clsPos (valAt vs) []=[]:=rfl
  have hn0:clsNeg (valAt vs) []=[]:=rfl
  generalize hH4:List.map Tm.enc (List.take r.arity.toNat TV)=HD at *
  refine AW.rng c [3,8,10,41,42] 43 41 (fun d:List Gl=>[]) (fun _ d=>[.box (r.enc.map .d),.box [.d (.str []),.nil0,.d (.int .i64 0),.nil0,.nil0,.nil0],.box [.d (.str r.name),.d (.sl HD),.d (.int .i64 i),.own 3 TV.length,.own 4 (clsPos (valAt vs) d).length,.own 5 (clsNeg (valAt vs) d).length],.grow TV.length 4 89 (TV.map Tm.enc),.grow (clsPos (valAt vs) d).length 2 110 (((clsPos (valAt vs) d).map FcV.fc).map Fc.enc),.grow (clsNeg (valAt vs) d).length 2 110 (((clsNeg (valAt vs) d).map FcV.fc).map Fc.enc)]) (fun s d=>d++s=c∧d.all (clsOk1 (valAt vs))=true) [] rfl (by simp) ⟨rfl,rfl⟩ (by refine ⟨by simp [mkS,hp0,hn0],by simp [mkS,hp0,hn0],by simp only [mkS,d_,f_,O.refsLt,C.refsLt,C.refsLt1,all_dmap];first | done | rfl | (simp;done),?_⟩;simp [mkS,Abs.get,C.refsLtT,C.refsLt,C.refsLt1,hp0,hn0]) (fun j g s d hgj hds hlt hm hinv hnext=>?_) (fun d hinv=>?_)
  ·obtain ⟨i1,i2⟩:=hinv
   have hgm:=e_ hgj
   have hgi:=hg g hgm
   have hp:=hput g hgm
   have hpl:=clsPos_len (valAt vs) d
   have hnl:=clsNeg_len (valAt vs) d
   have hdl:d.length+(s.length+1)=c.length:=by rw [←i1];simp
   have hps:=clsPos_snoc (valAt vs) d g
   have hns:=clsNeg_snoc (valAt vs) d g
   have hR2:(g.ins (valAt vs)).enc=[.int .i64 g.kind,.str g.name,.sl ((g.terms.map fun t=>t.V.sub (valAt vs)).map V.enc),.sl ((g.goals.map (Gl.ins (valAt vs))).map Gl.enc)]:=by
    rw [Gl.ins_eq,Gl.enc_eq]
    simp only [Gl.kind,Gl.name,Gl.terms,Gl.goals,List.map_map]
    rfl
   have hcv:∀x:Gl,(FcV.fc (x.callV (valAt vs))).enc=[.str x.name,.sl ((x.terms.map fun t=>t.V.sub (valAt vs)).map V.enc)]:=fun x=>by rw [Fc.enc_eq];simp only [FcV.fc,Gl.callV,enc_tms]
   have hnx:=hnext (d++[g])
   by_cases h9:g.kind=9
   ·have h10:¬g.kind=10:=by omega
    have hok1:clsOk1 (valAt vs) g=true:=by simp [clsOk1,h9]
    rw [if_pos h9] at hps
    rw [if_neg h10,c_] at hns
    rw [hps,hns] at hnx
    rw [hR2] at hp
    refine rS_ Tryz.func63 ?_
    simp only [go_sem,seval,hlt,idx_of hgj]
    repeat' (first
     | (simp (disch:=omega) only [wrap_ok])
     | ((first
      | (refine hp.calls rfl ?_)
      | (refine ⟨sd,?_⟩))<;>(try simp only [go_sem,seval,hlt,idx_of hgj,h9]))
     | fail)
    refine hnx _ ⟨by rw [←i1];simp,by rw [o_,i2];simp [hok1]⟩ (by refine ⟨by simp [mkS,hcv],by simp [mkS,hcv],by simp only [mkS,d_,f_,O.refsLt,C.refsLt,C.refsLt1,all_dmap];first | done | rfl | (simp;done),?_⟩;simp [mkS,Abs.get,C.refsLtT,C.refsLt,C.refsLt1,hcv])
   ·by_cases h10:g.kind=10
    ·obtain ⟨x,hx⟩:=Gl.shape_not hgi.1 h10
     have hok1:clsOk1 (valAt vs) g=true:=by simp [clsOk1,h10]
     rw [if_neg h9,c_] at hps
     rw [if_pos h10,hx] at hns
     simp only [List.head?_cons,Option.toList_some,q_,g_] at hns
     rw [hps,hns] at hnx
     have hRx:(x.ins (valAt vs)).enc=[.int .i64 x.kind,.str x.name,.sl ((x.terms.map fun t=>t.V.sub (valAt vs)).map V.enc),.sl ((x.goals.map (Gl.ins (valAt vs))).map Gl.enc)]:=by
      rw [Gl.ins_eq,Gl.enc_eq]
      simp only [Gl.kind,Gl.name,Gl.terms,Gl.goals,List.map_map]
      rfl
     rw [hR2,hx] at hp
     simp only [q_,g_,hRx] at hp
     refine run_sound Tryz.func63 mixed 18 _ _ (by kernel_rfl) ?_
     simp only [go_sem,seval,run.eq_1,hlt,idx_of hgj,h10,h9]
     repeat' (first
      | ((refine hp.calls rfl ?_)<;>(try simp only [go_sem,seval,hlt,idx_of hgj,h10,h9,run.eq_1]))
      | fail)
     refine AW.drawA mixed #[true,true,true,true,true,true,true,true,true,true,true,true,true,true,true,false,false] [(2,.box [.d (.str r.name),.d (.sl HD),.d (.int .i64 i),.own 3 TV.length,.own 4 (clsPos (valAt vs) d).length,.own 5 (clsNeg (valAt vs) d).length]),(7,.box [.d (.int .i64 10),.d (.str g.name),.d (.sl ((g.terms.map fun t=>t.V.sub (valAt vs)).map V.enc)),.d (.sl [[.int .i64 x.kind,.str x.name,.sl ((x.terms.map fun t=>t.V.sub (valAt vs)).map V.enc),.sl ((x.goals.map (Gl.ins (valAt vs))).map Gl.enc)]])])] [] [0,1,2,3,4,5,6,7,8,9,10,11,12,13,14] [15,16] none (by kernel_rfl) trivial (by simp [holdsB]) ?_
     simp only [go_sem,seval]
     repeat' (first
      | ((refine ⟨sd,?_⟩)<;>(try simp only [go_sem,seval]))
      | fail)
     refine rS_ Tryz.func63 ?_
     simp only [go_sem,seval]
     repeat' (first
      | (simp (disch:=omega) only [wrap_ok])
      | fail)
     refine hnx _ ⟨by rw [←i1];simp,by rw [o_,i2];simp [hok1]⟩ (by refine ⟨by simp [mkS,hcv],by simp [mkS,hcv],by simp only [mkS,d_,f_,O.refsLt,C.refsLt,C.refsLt1,all_dmap];first | done | rfl | (simp;done),?_⟩;simp [mkS,Abs.get,C.refsLtT,C.refsLt,C.refsLt1,hcv])
    ·have htt:=l13TestV_fn g (valAt vs) hgi.1
     rw [if_neg h9,c_] at hps
     rw [if_neg h10,c_] at hns
     rw [hps,hns] at hnx
     cases hb:g.testV (valAt vs) with
     | true =>
      rw [hb] at htt
      have hok1:clsOk1 (valAt vs) g=true:=by simp [clsOk1,hb]
      refine rS_ Tryz.func63 ?_
      simp only [go_sem,seval,hlt,idx_of hgj,h9,h10]
      repeat' (first
       | (simp (disch:=omega) only [wrap_ok])
       | ((first
        | (refine hp.calls rfl ?_)
        | (refine htt.calls rfl ?_))<;>(try simp only [go_sem,seval,hlt,idx_of hgj,h9,h10]))
       | fail)
      refine hnx _ ⟨by rw [←i1];simp,by rw [o_,i2];simp [hok1]⟩ (by refine ⟨by simp [mkS,hcv],by simp [mkS,hcv],by simp only [mkS,d_,f_,O.refsLt,C.refsLt,C.refsLt1,all_dmap];first | done | rfl | (simp;done),?_⟩;simp [mkS,Abs.get,C.refsLtT,C.refsLt,C.refsLt1,hcv])
     | false =>
      rw [hb] at htt
      have hok1:clsOk1 (valAt vs) g=false:=by simp [clsOk1,hb,h9,h10]
      obtain ⟨f1,f2⟩:=clsPre_fail (s:=s) i2 hok1
      rw [i1] at f1 f2
      rw [f1,f2] at hR
      rw [←hR]
      refine rS_ Tryz.func63 ?_
      simp only [go_sem,seval,hlt,idx_of hgj,h9,h10]
      repeat' (first
       | ((first
        | (refine hp.calls rfl ?_)
        | (refine htt.calls rfl ?_))<;>(try simp only [go_sem,seval,hlt,idx_of hgj,h9,h10]))
       | fail)
  ·obtain ⟨i1,i2⟩:=hinv
   rw [c_] at i1
   subst i1
   obtain ⟨f1,f2⟩:=clsPre_all i2
   rw [f1,f2] at hR
   rw [←hR]
   refine rS_ Tryz.func63 ?_
   simp only [go_sem,seval]
theorem l20Ok_fn (p:Pg) (hok:pgOk p=true) (hwp:wtL p.enc≤1048576):∀t:Pf,wtL t.enc≤1048576→Gives Tryz.prog 39 [.agg p.enc,.agg t.enc] (.d (.bool (p.prf t))):=by
 intro t
 induction t using Pf.ind' with
 | h t ih =>
  intro hw
  have hmx:maxLen=9223372036854775807:=rfl
  have hrel:=l14Find_fn p t.rel
  have hrg:=Pg.find_range p t.rel
  rw [Pg.prf_eq]
  by_cases hf:p.find t.rel<0
  ·rw [Pg.prfAt_neg hf]
   generalize p.find t.rel=f at *
   refine aE_ Tryz.func39 ?_
   refine rS_ Tryz.func39 ?_
   simp only [go_sem,seval,hf]
   repeat' (first
    | ((refine hrel.calls rfl ?_)<;>(try simp only [go_sem,seval,hf]))
    | fail)
  ·obtain ⟨r, hr⟩:∃r,p.rels[(p.find t.rel).toNat]? = some r:=⟨_,i_ (by omega)⟩
   have hrm:=e_ hr
   have hre:(p.rels.map Rl.enc)[(p.find t.rel).toNat]? = some r.enc:=by simp [hr]
   rw [Pg.prfAt_at (by omega) hr]
   have hbw:wtL r.body.enc≤1048576:=by have:=Pg.wt_rels hrm;have:=Rl.wt_body r;omega
   have hcl:=sClausesOf_fn r.body hbw
   generalize p.find t.rel=f at *
   have hf0:0≤f:=by omega
   have hf1:f<(p.rels.length:Int):=by omega
   obtain ⟨ha0,ha1,hl0,hl1,hcn,hsh⟩:0≤r.arity∧r.arity≤4∧0≤r.locals∧r.locals≤8∧r.body.cnt≤60∧r.body.shape=true:=by
    unfold pgOk at hok
    simp only [n_] at hok
    obtain ⟨i,hi⟩:=okL_mem hok.2 r hrm
    unfold Pg.relOk at hi
    simp only [n_,decide_eq_true_eq] at hi
    obtain ⟨⟨⟨⟨⟨⟨_,ha⟩,hl⟩,hc⟩,hs⟩,hv⟩,_⟩:=hi
    exact ⟨ha.1,ha.2,hl.1,hl.2,hc,hs⟩
   have hgo:glOk r.body=true:=by unfold glOk;simp only [n_,decide_eq_true_eq];exact ⟨by omega,hsh⟩
   simp only [hgo,true_and] at hcl
   have hwr:IntKind.i64.wrap (r.arity+r.locals)=r.arity+r.locals:=wrap_ok (by omega) (by omega)
   have hir:=fun (Q:List D→Prop)=>idx_of hre Q
   by_cases hlen:(t.values.length:Int)=r.arity+r.locals
   ·obtain ⟨hbi,_⟩:=Pg.body_inst hok hrm (m:=t.values.length) hlen
    rw [decide_eq_true hlen,a_]
    generalize hREST:(decide (r.body.clsS.length≤64) && (decide (0≤t.clause) && (match r.body.clsS[t.clause.toNat]? with
     | none=>false
     | some c=>clsLoop (valAt (t.values.map Tm.V)) c (p.prfs t.kids))))=REST
    generalize hN:(t.values.all Tm.ground && REST)=N
    have hne:((t.values.length:Int) != r.arity+r.locals)=false:=by simp [hlen]
    have hR0:¬(r.body.clsS.length≤64∧0≤t.clause∧t.clause<(r.body.clsS.length:Int))→REST=false:=fun h=>by
     rw [←hREST]
     by_cases h64:r.body.clsS.length≤64
     ·by_cases h0:0≤t.clause
      ·have:r.body.clsS[t.clause.toNat]? = none:=List.getElem?_eq_none (by omega)
       rw [this];simp
      ·rw [decide_eq_false h0,b_,p_]
     ·rw [decide_eq_false h64,b_]
    by_cases h64:r.body.clsS.length≤64
    ·rw [if_pos h64] at hcl
     have hwl:IntKind.i64.wrap ((r.body.clsS.length:Int) - 1)=(r.body.clsS.length:Int) - 1:=wrap_ok (by omega) (by omega)
     by_cases hc:0≤t.clause∧t.clause<(r.body.clsS.length:Int)
     ·obtain ⟨c,hcc⟩:∃c,r.body.clsS[t.clause.toNat]? = some c:=⟨_,i_ (by omega)⟩
      rw [decide_eq_true h64,decide_eq_true hc.1,a_,a_,hcc] at hREST
      dsimp only at hREST
      have hce:(r.body.clsS.map encC)[t.clause.toNat]? = some (encC c):=by simp [hcc]
      have hc0:=hc.1
      have hc3:=hc.2
      have hc4:t.clause≤(r.body.clsS.length:Int) - 1:=by omega
      have hci:=fun (Q:List D→Prop)=>idx_of hce Q
      obtain ⟨hrl,hrow⟩:=Gl.clsS_row r.body c (e_ hcc)
      refine aE_ Tryz.func39 ?_
      refine rS_ Tryz.func39 ?_
      simp only [go_sem,seval,hf,hf0,hf1,hwr,hir,hne]
      repeat' (first
       | ((first
        | (refine hrel.calls rfl ?_)
        | (refine hcl.calls rfl ?_)
        | (refine (l01In_fn _ _ _).calls rfl ?_))<;>(try simp only [go_sem,seval,hf,hf0,hf1,hwr,hir,hne,clsR,l_,k_,hwl,hc0,hc4]))
       | fail)
      refine AW.adopt 8 5 108 (by decide) rfl ?_
      have hkl:t.kids.length≤1048576∧t.values.length≤1048576:=by
       have h1:=sumW_le (t.kids.map Pf.enc) 0
       have h2:=sumW_le (t.values.map Tm.enc) 0
       simp only [sumW,j_] at h1 h2
       simp only [Pf.enc_eq t,wtL,D.wt] at hw;omega
      have hwv:∀x,x∈t.values→wtL x.enc≤1048576:=fun x hx=>by have:=Pf.wt_values hx;omega
      have hvl:(t.values.map Tm.V).length=t.values.length:=by simp
      refine AW.rng t.values [2,3,5,6,63,64] 65 63 (fun w:List V=>[(8,.own 2 w.length)]) (fun _ w=>[.box (p.enc.map .d),.box (t.enc.map .d),.grow w.length 5 108 (bdD w)]) (fun s w=>t.values.all Tm.ground=s.all Tm.ground∧w++s.map Tm.V=t.values.map Tm.V) [] rfl (by simp) ⟨rfl,rfl⟩ (by refine ⟨by simp [mkS,bdD,bdsF],by simp [mkS,bdD,bdsF],by simp only [mkS,d_,f_,O.refsLt,C.refsLt,C.refsLt1,all_dmap];first | done | rfl | (simp;done),?_⟩;simp [mkS,Abs.get,C.refsLtT,C.refsLt,C.refsLt1]) (fun i x s w hxi hdr hlt hm hinv hnext=>?_) (fun w hinv=>?_)
      ·obtain ⟨i1,i2⟩:=hinv
       have hwx:=hwv x (e_ hxi)
       have hwl2:w.length=i:=by
        have h1:=congrArg List.length i2
        have h2:=congrArg List.length hdr
        simp only [List.length_append,j_,m_,List.length_drop] at h1 h2
        omega
       have hil:=(h_.1 hxi).1
       have hbw5:∀y,y∈bdD w→y.length=5:=fun y hy=>by obtain ⟨b,_,rfl⟩:=List.mem_map.1 hy;exact Bd.enc_len b
       have hbln:(bdD w).length=w.length:=by unfold bdD;rw [j_,bdsF_len]
       rw [d_] at i1
       cases hgx:x.ground with
       | false =>
        rw [hgx,b_] at i1
        rw [i1,b_] at hN
        subst hN
        have hgr:=sIsGround_fn x hwx
        rw [hgx] at hgr
        refine rS_ Tryz.func39 ?_
        simp only [go_sem,seval,hlt,idx_of hxi]
        repeat' (first
         | ((refine hgr.calls rfl ?_)<;>(try simp only [go_sem,seval,hlt,idx_of hxi]))
         | fail)
       | true =>
        rw [hgx,a_] at i1
        have hgr:=sIsGround_fn x hwx
        rw [hgx] at hgr
        have hxt:=Tm.V_of (ground_ok hgx)
        have hbs:bdD (w++[x.V])=bdD w++[[.int .i64 (i:Int),.int .i64 x.kind,.int .i64 x.int,.str x.name,.sl (x.args.map Tm.enc)]]:=by
         unfold bdD
         rw [bdsF_snoc,←hxt,List.map_append,q_,g_,Bd.enc_eq]
         simp [hwl2]
        generalize hBD:bdD w=BD at *
        refine rS_ Tryz.func39 ?_
        simp only [go_sem,seval,hlt,idx_of hxi]
        repeat' (first
         | (simp (disch:=omega) only [wrap_ok])
         | ((first
          | (refine hgr.calls rfl ?_)
          | (refine ⟨sd,?_⟩))<;>(try simp only [go_sem,seval,hlt,idx_of hxi]))
         | fail)
        refine hnext (w++[x.V]) _ ⟨i1,by rw [←i2];simp⟩ (by refine ⟨by simp [mkS,hbs,Tm.enc_eq x],by simp [mkS,hbs,Tm.enc_eq x],by simp only [mkS,d_,f_,O.refsLt,C.refsLt,C.refsLt1,all_dmap];first | done | rfl | (simp;done),?_⟩;simp [mkS,Abs.get,C.refsLtT,C.refsLt,C.refsLt1,hbs,Tm.enc_eq x])
      ·obtain ⟨i1,i2⟩:=hinv
       rw [f_] at i1
       rw [i1,a_] at hN
       subst hN
       simp only [g_,c_] at i2
       subst i2
       generalize hvs:t.values.map Tm.V=vs at *
       have hrule:=l18Rule_fn r t.clause c vs (fun g hg=>by have h:=Gl.inst_sub hbi g (hrow g hg);rw [hvl];exact h) (by omega) ha0 hl0 (by omega) (by omega)
       have hloop:=clsLoop_same (valAt vs) c (p.prfs t.kids) (fun g hg h10=>by obtain ⟨x,hx⟩:=Gl.shape_not (Gl.inst_sub hbi g (hrow g hg)).1 h10;rw [hx];simp)
       rw [hREST] at hloop
       have hpre:clsHolds (valAt vs) c=true→clsPre (valAt vs) c=c:=fun h=>(clsPre_all h).1
       have hru:∀d,(ruOf r t.clause vs d).enc=[.str r.name,.sl (((vs.map V.tm).take r.arity.toNat).map Tm.enc),.int .i64 t.clause,.sl ((vs.map V.tm).map Tm.enc),.sl (((clsPos (valAt vs) d).map FcV.fc).map Fc.enc),.sl (((clsNeg (valAt vs) d).map FcV.fc).map Fc.enc)]:=fun d=>by rw [Ru.enc_eq];rfl
       rw [hru] at hrule
       have hNl:(clsNeg (valAt vs) c).length≤1000000:=by have:=clsNeg_len (valAt vs) c;omega
       have hPl:(clsPos (valAt vs) c).length≤1000000:=by have:=clsPos_len (valAt vs) c;omega
       generalize ((vs.map V.tm).take r.arity.toNat).map Tm.enc=D1 at hrule
       generalize (vs.map V.tm).map Tm.enc=D3 at hrule
       generalize hBD:bdD vs=BD at *
       cases hh:clsHolds (valAt vs) c with
       | false =>
        rw [hh,b_] at hloop
        rw [hloop]
        rw [hh] at hrule
        generalize clsPre (valAt vs) c=d at hrule
        refine run_sound Tryz.func39 mixed 6 _ _ (by kernel_rfl) ?_
        simp only [go_sem,seval,run.eq_1,hf0,hf1,hir,hci]
        refine AW.drawA mixed #[true,true,true,true,true,true,true,true,true,true,true,true,true,true,true,true,true,true,false,false] [(0,.box (p.enc.map .d)),(1,.box (t.enc.map .d)),(2,.grow vs.length 5 108 BD)] [] [0,1,2,3,4,5,6,7,8,9,10,11,12,17,13,14,15,16] [18,19] (some (17,11,113,[.string ⟨#[]⟩,.slice none 0 0,.int .i64 0,.slice none 0 0,.slice none 0 0,.slice none 0 0])) (by kernel_rfl) tz113 (by simp [holdsB]) ?_
        simp only [go_sem,seval,hir,hf0,hf1,hci,hc0,hc3,encC_eq]
        repeat' (first
         | ((refine hrule.calls rfl ?_)<;>(try simp only [go_sem,seval,hir,hf0,hf1,hci,hc0,hc3,encC_eq]))
         | fail)
        refine rS_ Tryz.func39 ?_
        simp only [go_sem,seval]
       | true =>
        rw [hh,a_] at hloop
        rw [hh,hpre hh] at hrule
        have hks:(p.prfs t.kids).length=t.kids.length:=by rw [Pg.prfs_eq,j_]
        rw [hks] at hloop
        generalize clsNeg (valAt vs) c=NS at hrule hloop hNl
        generalize clsPos (valAt vs) c=PS at hrule hloop hPl
        generalize clsPre (valAt vs) c=c0 at *
        by_cases hneg:NS=[]
        ·subst hneg
         simp only [decide_true,a_] at hloop
         simp only [g_] at hrule
         by_cases hpl:PS.length=t.kids.length
         ·rw [decide_eq_true hpl,a_] at hloop
          have hnl:((PS.length:Int) != (t.kids.length:Int))=false:=by simp [hpl]
          refine run_sound Tryz.func39 mixed 6 _ _ (by kernel_rfl) ?_
          simp only [go_sem,seval,run.eq_1,hf0,hf1,hir,hci]
          refine AW.drawA mixed #[true,true,true,true,true,true,true,true,true,true,true,true,true,true,true,true,true,true,false,false] [(0,.box (p.enc.map .d)),(1,.box (t.enc.map .d)),(2,.grow vs.length 5 108 BD)] [] [0,1,2,3,4,5,6,7,8,9,10,11,12,17,13,14,15,16] [18,19] (some (17,11,113,[.string ⟨#[]⟩,.slice none 0 0,.int .i64 0,.slice none 0 0,.slice none 0 0,.slice none 0 0])) (by kernel_rfl) tz113 (by simp [holdsB]) ?_
          simp only [go_sem,seval,hir,hf0,hf1,hci,hc0,hc3,encC_eq]
          repeat' (first
           | ((refine hrule.calls rfl ?_)<;>(try simp only [go_sem,seval,hir,hf0,hf1,hci,hc0,hc3,encC_eq]))
           | fail)
          refine rS_ Tryz.func39 ?_
          simp only [go_sem,seval,hnl]
          refine AW.rng t.kids [2,11,115,116] 117 115 (fun _:Unit=>[]) (fun H _=>H) (fun s _=>kidsFit (p.prfs s) (PS.drop (t.kids.length - s.length))=REST) () rfl (by simp) (by rw [Nat.sub_self,List.drop_zero];exact hloop.symm) wk1_ (fun i x s acc hxi hdr hlt hm hinv hnext=>?_) (fun acc hinv=>?_)
          ·have hdl:=congrArg List.length hdr
           simp only [List.length_drop,m_] at hdl
           have hil:=(h_.1 hxi).1
           have hx:=e_ hxi
           have hih:=ih x hx (by have:=Pf.wt_kids hx;omega)
           obtain ⟨f1,hf1'⟩:∃f1,PS[i]? = some f1:=⟨_,i_ (by omega)⟩
           have hdp:PS.drop i=f1 :: PS.drop (i+1):=by
            obtain ⟨h2,h3⟩:=h_.1 hf1'
            rw [←h3];exact List.drop_eq_getElem_cons h2
           have e1:t.kids.length - (s.length+1)=i:=by omega
           have e2:t.kids.length - s.length=i+1:=by omega
           simp only [m_,e1,hdp,Pg.prfs,kidsFit] at hinv
           rw [e2] at hnext
           have hpe:((PS.map FcV.fc).map Fc.enc)[i]? = some f1.fc.enc:=by simp [hf1']
           have hpi:=fun (Q:List D→Prop)=>idx_of hpe Q
           have hipl:(i:Int)<(PS.length:Int):=by omega
           cases hb:p.prf x with
           | false =>
            rw [hb] at hih hinv
            simp only [b_] at hinv
            rw [←hinv]
            refine rS_ Tryz.func39 ?_
            simp only [go_sem,seval,hlt,idx_of hxi]
            repeat' (first
             | ((refine hih.callQ rfl ?_)<;>(try simp only [go_sem,seval,hlt,idx_of hxi,hpi,hipl]))
             | fail)
           | true =>
            have hpf:=l20Head_fn p hok x hb
            rw [hb] at hih hinv
            simp only [a_] at hinv
            have hord:Gives Tryz.prog 64 [.agg (FcV.fc (p.headV x.rel x.values)).enc,.agg f1.fc.enc] (.d (.int .i64 (cmpFact (p.headV x.rel x.values).1 (p.headV x.rel x.values).2 f1.1 f1.2))):=l18Cmp_fn _ _ _ _
            have heq:FcV.eq (p.headV x.rel x.values) f1=decide (cmpFact (p.headV x.rel x.values).1 (p.headV x.rel x.values).2 f1.1 f1.2=0):=rfl
            rw [heq] at hinv
            generalize cmpFact (p.headV x.rel x.values).1 (p.headV x.rel x.values).2 f1.1 f1.2=cf at hord hinv
            generalize FcV.fc (p.headV x.rel x.values)=F1 at hpf hord
            generalize f1.fc=F2 at hpi hord
            by_cases he:cf=0
            ·rw [decide_eq_true he,a_] at hinv
             refine rS_ Tryz.func39 ?_
             simp only [go_sem,seval,hlt,idx_of hxi]
             repeat' (first
              | (simp (disch:=omega) only [wrap_ok])
              | ((first
               | (refine hih.callQ rfl ?_)
               | (refine hpf.callQ rfl ?_)
               | (refine hord.callQ rfl ?_))<;>(try simp only [go_sem,seval,hlt,idx_of hxi,hpi,hipl,he]))
              | fail)
             ·refine hnext () _ hinv wk1_
             all_goals (exfalso;omega)
            ·rw [decide_eq_false he,b_] at hinv
             rw [←hinv]
             refine rS_ Tryz.func39 ?_
             simp only [go_sem,seval,hlt,idx_of hxi]
             repeat' (first
              | ((refine br_n (fun hq=>?_) (fun hq=>?_))<;>(try simp only [go_sem,seval,hlt,idx_of hxi,hpi,hipl,hq]))
              | (simp (disch:=omega) only [wrap_ok])
              | ((first
               | (refine hih.callQ rfl ?_)
               | (refine hpf.callQ rfl ?_)
               | (refine hord.callQ rfl ?_))<;>(try simp only [go_sem,seval,hlt,idx_of hxi,hpi,hipl]))
              | fail)
             all_goals first | rfl | (exfalso;omega) | (exact absurd (by assumption) he)
          ·simp only [Pg.prfs,kidsFit] at hinv
           rw [←hinv]
           refine rS_ Tryz.func39 ?_
           simp only [go_sem,seval]
         ·rw [decide_eq_false hpl,b_] at hloop
          rw [hloop]
          have hnl:((PS.length:Int) != (t.kids.length:Int))=true:=by simp;omega
          refine run_sound Tryz.func39 mixed 6 _ _ (by kernel_rfl) ?_
          simp only [go_sem,seval,run.eq_1,hf0,hf1,hir,hci]
          refine AW.drawA mixed #[true,true,true,true,true,true,true,true,true,true,true,true,true,true,true,true,true,true,false,false] [(0,.box (p.enc.map .d)),(1,.box (t.enc.map .d)),(2,.grow vs.length 5 108 BD)] [] [0,1,2,3,4,5,6,7,8,9,10,11,12,17,13,14,15,16] [18,19] (some (17,11,113,[.string ⟨#[]⟩,.slice none 0 0,.int .i64 0,.slice none 0 0,.slice none 0 0,.slice none 0 0])) (by kernel_rfl) tz113 (by simp [holdsB]) ?_
          simp only [go_sem,seval,hir,hf0,hf1,hci,hc0,hc3,encC_eq]
          repeat' (first
           | ((refine hrule.calls rfl ?_)<;>(try simp only [go_sem,seval,hir,hf0,hf1,hci,hc0,hc3,encC_eq]))
           | fail)
          refine rS_ Tryz.func39 ?_
          simp only [go_sem,seval,hnl]
        ·rw [decide_eq_false hneg,b_] at hloop
         rw [hloop]
         have hnl:0<(NS.length:Int):=by
          have:=List.length_pos_iff.2 hneg
          omega
         refine run_sound Tryz.func39 mixed 6 _ _ (by kernel_rfl) ?_
         simp only [go_sem,seval,run.eq_1,hf0,hf1,hir,hci]
         refine AW.drawA mixed #[true,true,true,true,true,true,true,true,true,true,true,true,true,true,true,true,true,true,false,false] [(0,.box (p.enc.map .d)),(1,.box (t.enc.map .d)),(2,.grow vs.length 5 108 BD)] [] [0,1,2,3,4,5,6,7,8,9,10,11,12,17,13,14,15,16] [18,19] (some (17,11,113,[.string ⟨#[]⟩,.slice none 0 0,.int .i64 0,.slice none 0 0,.slice none 0 0,.slice none 0 0])) (by kernel_rfl) tz113 (by simp [holdsB]) ?_
         simp only [go_sem,seval,hir,hf0,hf1,hci,hc0,hc3,encC_eq]
         repeat' (first
          | ((refine hrule.calls rfl ?_)<;>(try simp only [go_sem,seval,hir,hf0,hf1,hci,hc0,hc3,encC_eq]))
          | fail)
         refine rS_ Tryz.func39 ?_
         simp only [go_sem,seval,hnl]
     ·have hR1:=hR0 (fun h=>hc h.2)
      rw [hR1,p_] at hN
      subst hN
      refine aE_ Tryz.func39 ?_
      refine rS_ Tryz.func39 ?_
      simp only [go_sem,seval,hf,hf0,hf1,hwr,hir,hne]
      repeat' (first
       | ((refine br_n (fun hq=>?_) (fun hq=>?_))<;>(try simp only [go_sem,seval,hf,hf0,hf1,hwr,hir,hne,clsR,l_,k_,hwl,hq]))
       | ((first
        | (refine hrel.calls rfl ?_)
        | (refine hcl.calls rfl ?_)
        | (refine (l01In_fn _ _ _).calls rfl ?_))<;>(try simp only [go_sem,seval,hf,hf0,hf1,hwr,hir,hne,clsR,l_,k_,hwl]))
       | fail)
      all_goals (exfalso;omega)
    ·rw [if_neg h64] at hcl
     have hR1:=hR0 (fun h=>h64 h.1)
     rw [hR1,p_] at hN
     subst hN
     refine aE_ Tryz.func39 ?_
     refine rS_ Tryz.func39 ?_
     simp only [go_sem,seval,hf,hf0,hf1,hwr,hir,hne]
     repeat' (first
      | ((first
       | (refine hrel.calls rfl ?_)
       | (refine hcl.calls rfl ?_))<;>(try simp only [go_sem,seval,hf,hf0,hf1,hwr,hir,hne,clsR,Option.getD_none,Option.isSome_none]))
      | fail)
   ·rw [decide_eq_false hlen,b_]
    refine aE_ Tryz.func39 ?_
    refine rS_ Tryz.func39 ?_
    simp only [go_sem,seval,hf,hf0,hf1,hwr,hlen,hir]
    repeat' (first
     | ((refine br_n (fun hq=>?_) (fun hq=>?_))<;>(try simp only [go_sem,seval,hf,hf0,hf1,hwr,hlen,hir,hq]))
     | ((refine hrel.calls rfl ?_)<;>(try simp only [go_sem,seval,hf,hf0,hf1,hwr,hlen,hir]))
     | fail)
    all_goals exact absurd hq hlen
theorem sProofOk_fn (p:Pg) (t:Pf) (hwp:wtL p.enc≤1048576) (hw:wtL t.enc≤1048576):Gives Tryz.prog 17 [.agg p.enc,.agg t.enc] (.d (.bool (p.prfOk t))):=by
 have hz:decide (0<t.sizeI)=decide (t.cnt≤200):=by
  have:=Pf.cnt_pos t
  unfold Pf.sizeI
  rw [Bool.eq_iff_iff,decide_eq_true_eq,decide_eq_true_eq]
  split<;>omega
 by_cases hok:pgOk p=true
 ·have hp:=l20Ok_fn p hok hwp t hw
  have hP:p.prfOk t=(decide (0<t.sizeI) && p.prf t):=by unfold Pg.prfOk;rw [hok,a_,hz]
  rw [hP]
  clear hP
  generalize p.prf t=b at hp ⊢
  have hsz:=sProofSize_fn t hw
  generalize t.sizeI=z at hz hsz ⊢
  refine aE_ Tryz.func17 ?_
  refine rS_ Tryz.func17 ?_
  simp only [go_sem,seval,hok]
  repeat' (first
   | ((refine br_n (fun hq=>?_) (fun hq=>?_))<;>(try simp only [go_sem,seval,hok,hq]))
   | ((first
    | (refine hp.calls rfl ?_)
    | (refine hsz.calls rfl ?_)
    | (refine (sProgramOk_fn _ sd).calls rfl ?_))<;>(try simp only [go_sem,seval,hok]))
   | fail)
  all_goals first | rfl | (rw [decide_eq_true (by omega)];rfl) | (rw [decide_eq_false (by omega)];rfl) | (rw [decide_eq_true (by omega),a_];done)
 ·simp only [Bool.not_eq_true] at hok
  have hP:p.prfOk t=false:=by unfold Pg.prfOk;rw [hok,b_]
  rw [hP]
  refine aE_ Tryz.func17 ?_
  refine rS_ Tryz.func17 ?_
  simp only [go_sem,seval,hok]
  repeat' (first
   | ((refine (sProgramOk_fn _ sd).calls rfl ?_)<;>(try simp only [go_sem,seval,hok]))
   | fail)
end Go.Proofs.YtehcdhelbkjaeaaGreatDoor
