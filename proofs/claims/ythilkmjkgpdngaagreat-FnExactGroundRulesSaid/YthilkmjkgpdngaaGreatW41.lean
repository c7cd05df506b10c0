import Derived.Test.YthilkmjkgpdngaaGreatW40
open List renaming append_nil→a_,all_cons→b_,all_nil→c_,all_append→d_,map_nil→e_
namespace Go.Proofs.YthilkmjkgpdngaaGreat
open Go.Abs
set_option maxRecDepth 100000
set_option maxHeartbeats 8000000
set_option linter.unusedSimpArgs false
set_option linter.unusedVariables false
theorem l18Rule_fn (r:Rl) (i:Int) (c:List Gl) (vs:List V) (hg:∀g,g∈c→g.inst vs.length) (hl:(vs.length:Int)=r.arity+r.locals) (ha:0≤r.arity) (hb:0≤r.locals) (hv:vs.length≤1000000) (hc:c.length≤1000000) :
  Gives Tryz.prog 23 [.agg r.enc,.int .i64 i,.sl (c.map Gl.enc),.sl (bdD vs)] (.tup [.d (.agg (ruOf r i vs (clsPre (valAt vs) c)).enc),.d (.bool (clsHolds (valAt vs) c))]):=by
 have hmx:maxLen=9223372036854775807:=rfl
 have hbl:=bdsF_len vs 0
 have hbt:=bdsF_to vs 0
 have hput:∀g,g∈c→Gives Tryz.prog 55 [.agg g.enc,.sl ((bdsF 0 vs).map Bd.enc)] (.d (.agg (g.ins (valAt vs)).enc)):=fun g h=>l13Put_fn vs g (hg g h)
 have hbe:bdD vs=(bdsF 0 vs).map Bd.enc:=rfl
 rw [hbe]
 clear hbe
 generalize hR:(C.tup [.d (.agg (ruOf r i vs (clsPre (valAt vs) c)).enc),.d (.bool (clsHolds (valAt vs) c))])=RES
 refine aE_ Tryz.func23 ?_
 refine run_sound Tryz.func23 mixed 5 _ _ (by kernel_rfl) ?_
 simp only [go_sem,seval,run.eq_1]
 refine AW.adoptGB 2 3 4 74 (by decide) rfl rfl ?_
 refine AW.adoptGB 2 4 2 61 (by decide) rfl rfl ?_
 refine AW.adoptGB 2 5 2 61 (by decide) rfl rfl ?_
 refine rS_ Tryz.func23 ?_
 simp only [go_sem,seval]
 refine AW.rng (bdsF 0 vs) [2,3,4,8,10,18,19] 20 18 (fun p:List Tm=>[]) (fun _ p=>[.box (r.enc.map .d),.box [.d (.str []),.nil0,.d (.int .i64 0),.nil0,.nil0,.nil0],.box [.d (.str []),.nil0,.d (.int .i64 i),.own 3 p.length,.own 4 0,.own 5 0],.grow p.length 4 74 (p.map Tm.enc),.grow 0 2 61 [],.grow 0 2 61 []]) (fun s p=>p++s.map Bd.to=vs.map V.tm) [] rfl (by simp) (by simpa using hbt) wk1_ (fun j x s p hxi hdr hlt hm hinv hnext=>?_) (fun p hinv=>?_)
 ·have hpl:p.length+(s.length+1)=vs.length:=by have:=congrArg List.length hinv;simpa using this
  refine rS_ Tryz.func23 ?_
  simp only [go_sem,seval,hlt,idx_of hxi]
  repeat' (first
   | (simp (disch:=omega) only [wrap_ok])
   | ((refine ⟨sd,?_⟩)<;>(try simp only [go_sem,seval,hlt,idx_of hxi]))
   | fail)
  refine hnext (p++[x.to]) _ (by rw [←hinv];simp) (by refine ⟨by simp [mkS,Bd.enc_eq,Tm.enc_eq],by simp [mkS,Bd.enc_eq,Tm.enc_eq],by simp only [mkS,b_,c_,O.refsLt,C.refsLt,C.refsLt1,all_dmap];first | done | rfl | (simp;done),?_⟩;simp [mkS,Abs.get,C.refsLtT,C.refsLt,C.refsLt1,Bd.enc_eq,Tm.enc_eq])
 ·simp only [e_,a_] at hinv
  subst hinv
  have hvl2:(vs.map V.tm).length=vs.length:=by simp
  have hz4:∀x,x∈(vs.map V.tm).map Tm.enc→x.length=4:=fun x hx=>by obtain ⟨y,_,rfl⟩:=List.mem_map.1 hx;exact Tm.enc_len y
  have hru:∀d,(ruOf r i vs d).enc=[.str r.name,.sl (((vs.map V.tm).take r.arity.toNat).map Tm.enc),.int .i64 i,.sl ((vs.map V.tm).map Tm.enc),.sl (((clsPos (valAt vs) d).map FcV.fc).map Fc.enc),.sl (((clsNeg (valAt vs) d).map FcV.fc).map Fc.enc)]:=fun d=>by rw [Ru.enc_eq];rfl
  simp only [hru] at hR
  clear hru hbt
  generalize vs.map V.tm=TV at *
  refine run_sound Tryz.func23 mixed 6 _ _ (by kernel_rfl) ?_
  simp only [go_sem,seval,run.eq_1]
  refine AW.drawA mixed #[true,true,true,true,true,true,true,true,false,false] [(0,.box (r.enc.map .d)),(2,.box [.d (.str []),.nil0,.d (.int .i64 i),.own 3 TV.length,.own 4 0,.own 5 0])] [] [0,1,2,3,4,5,6,7] [8,9] none (by kernel_rfl) trivial (by simp [holdsB]) ?_
  simp only [go_sem,seval]
  repeat' (first
   | ((refine ⟨sd,?_⟩)<;>(try simp only [go_sem,seval]))
   | fail)
  refine rS_ Tryz.func23 ?_
  simp only [go_sem,seval]
  have hp0:clsPos (valAt vs) []=[]:=rfl
  have hn0:clsNeg (valAt vs) []=[]:=rfl
  generalize hH4:List.map Tm.enc (List.take r.arity.toNat TV)=HD at *
  refine AW.rng c [3,8,10,41,42] 43 41 (fun d:List Gl=>[]) (fun _ d=>[.box (r.enc.map .d),.box [.d (.str []),.nil0,.d (.int .i64 0),.nil0,.nil0,.nil0],.box [.d (.str r.name),.d (.sl HD),.d (.int .i64 i),.own 3 TV.length,.own 4 (clsPos (valAt vs) d).length,.own 5 (clsNeg (valAt vs) d).length],.grow TV.length 4 74 (TV.map Tm.enc),.grow (clsPos (valAt vs) d).length 2 61 (((clsPos (valAt vs) d).map FcV.fc).map Fc.enc),.grow (clsNeg (valAt vs) d).length 2 61 (((clsNeg (valAt vs) d).map FcV.fc).map Fc.enc)]) (fun s d=>d++s=c∧d.all (clsOk1 (valAt vs))=true) [] rfl (by simp) ⟨rfl,rfl⟩ (by refine ⟨by simp [mkS,hp0,hn0],by simp [mkS,hp0,hn0],by simp only [mkS,b_,c_,O.refsLt,C.refsLt,C.refsLt1,all_dmap];first | done | rfl | (simp;done),?_⟩;simp [mkS,Abs.get,C.refsLtT,C.refsLt,C.refsLt1,hp0,hn0]) (fun j g s d hgj hds hlt hm hinv hnext=>?_) (fun d hinv=>?_)
  ·obtain ⟨i1,i2⟩:=hinv
   have hgm:=List.mem_of_getElem? hgj
   have hgi:=hg g hgm
   have hp:=hput g hgm
   have hpl:=clsPos_len (valAt vs) d
   have hnl:=clsNeg_len (valAt vs) d
   have hdl:d.length+(s.length+1)=c.length:=by rw [←i1];simp
   have hps:=clsPos_snoc (valAt vs) d g
   have hns:=clsNeg_snoc (valAt vs) d g
   have hR2:(g.ins (valAt vs)).enc=[.int .i64 g.kind,.str g.name,.sl ((g.terms.map fun t=>t.V.sub (valAt vs)).map V.enc),.sl ((g.goals.map (Gl.ins (valAt vs))).map Gl.enc)]:=by
    rw [Gl.ins_eq,Gl.enc_eq]
    simp only [Gl.kind,Gl.name,Gl.terms,Gl.goals,List.map_map]
    rfl
   have hcv:∀x:Gl,(FcV.fc (x.callV (valAt vs))).enc=[.str x.name,.sl ((x.terms.map fun t=>t.V.sub (valAt vs)).map V.enc)]:=fun x=>by rw [Fc.enc_eq];simp only [FcV.fc,Gl.callV,enc_tms]
   have hnx:=hnext (d++[g])
   by_cases h9:g.kind=9
   ·have h10:¬g.kind=10:=by omega
    have hok1:clsOk1 (valAt vs) g=true:=by simp [clsOk1,h9]
    rw [if_pos h9] at hps
    rw [if_neg h10,a_] at hns
    rw [hps,hns] at hnx
    rw [hR2] at hp
    refine rS_ Tryz.func23 ?_
    simp only [go_sem,seval,hlt,idx_of hgj]
    repeat' (first
     | (simp (disch:=omega) only [wrap_ok])
     | ((first
      | (refine hp.calls rfl ?_)
      | (refine ⟨sd,?_⟩))<;>(try simp only [go_sem,seval,hlt,idx_of hgj,h9]))
     | fail)
    refine hnx _ ⟨by rw [←i1];simp,by rw [d_,i2];simp [hok1]⟩ (by refine ⟨by simp [mkS,hcv],by simp [mkS,hcv],by simp only [mkS,b_,c_,O.refsLt,C.refsLt,C.refsLt1,all_dmap];first | done | rfl | (simp;done),?_⟩;simp [mkS,Abs.get,C.refsLtT,C.refsLt,C.refsLt1,hcv])
   ·by_cases h10:g.kind=10
    ·obtain ⟨x,hx⟩:=Gl.shape_not hgi.1 h10
     have hok1:clsOk1 (valAt vs) g=true:=by simp [clsOk1,h10]
     rw [if_neg h9,a_] at hps
     rw [if_pos h10,hx] at hns
     simp only [List.head?_cons,Option.toList_some,List.map_cons,e_] at hns
     rw [hps,hns] at hnx
     have hRx:(x.ins (valAt vs)).enc=[.int .i64 x.kind,.str x.name,.sl ((x.terms.map fun t=>t.V.sub (valAt vs)).map V.enc),.sl ((x.goals.map (Gl.ins (valAt vs))).map Gl.enc)]:=by
      rw [Gl.ins_eq,Gl.enc_eq]
      simp only [Gl.kind,Gl.name,Gl.terms,Gl.goals,List.map_map]
      rfl
     rw [hR2,hx] at hp
     simp only [List.map_cons,e_,hRx] at hp
     refine run_sound Tryz.func23 mixed 18 _ _ (by kernel_rfl) ?_
     simp only [go_sem,seval,run.eq_1,hlt,idx_of hgj,h10,h9]
     repeat' (first
      | ((refine hp.calls rfl ?_)<;>(try simp only [go_sem,seval,hlt,idx_of hgj,h10,h9,run.eq_1]))
      | fail)
     refine AW.drawA mixed #[true,true,true,true,true,true,true,true,true,true,true,true,true,true,true,false,false] [(2,.box [.d (.str r.name),.d (.sl HD),.d (.int .i64 i),.own 3 TV.length,.own 4 (clsPos (valAt vs) d).length,.own 5 (clsNeg (valAt vs) d).length]),(7,.box [.d (.int .i64 10),.d (.str g.name),.d (.sl ((g.terms.map fun t=>t.V.sub (valAt vs)).map V.enc)),.d (.sl [[.int .i64 x.kind,.str x.name,.sl ((x.terms.map fun t=>t.V.sub (valAt vs)).map V.enc),.sl ((x.goals.map (Gl.ins (valAt vs))).map Gl.enc)]])])] [] [0,1,2,3,4,5,6,7,8,9,10,11,12,13,14] [15,16] none (by kernel_rfl) trivial (by simp [holdsB]) ?_
     simp only [go_sem,seval]
     repeat' (first
      | ((refine ⟨sd,?_⟩)<;>(try simp only [go_sem,seval]))
      | fail)
     refine rS_ Tryz.func23 ?_
     simp only [go_sem,seval]
     repeat' (first
      | (simp (disch:=omega) only [wrap_ok])
      | fail)
     refine hnx _ ⟨by rw [←i1];simp,by rw [d_,i2];simp [hok1]⟩ (by refine ⟨by simp [mkS,hcv],by simp [mkS,hcv],by simp only [mkS,b_,c_,O.refsLt,C.refsLt,C.refsLt1,all_dmap];first | done | rfl | (simp;done),?_⟩;simp [mkS,Abs.get,C.refsLtT,C.refsLt,C.refsLt1,hcv])
    ·have htt:=l13TestV_fn g (valAt vs) hgi.1
     rw [if_neg h9,a_] at hps
     rw [if_neg h10,a_] at hns
     rw [hps,hns] at hnx
     cases hb:g.testV (valAt vs) with
     | true =>
      rw [hb] at htt
      have hok1:clsOk1 (valAt vs) g=true:=by simp [clsOk1,hb]
      refine rS_ Tryz.func23 ?_
      simp only [go_sem,seval,hlt,idx_of hgj,h9,h10]
      repeat' (first
       | (simp (disch:=omega) only [wrap_ok])
       | ((first
        | (refine hp.calls rfl ?_)
        | (refine htt.calls rfl ?_))<;>(try simp only [go_sem,seval,hlt,idx_of hgj,h9,h10]))
       | fail)
      refine hnx _ ⟨by rw [←i1];simp,by rw [d_,i2];simp [hok1]⟩ (by refine ⟨by simp [mkS,hcv],by simp [mkS,hcv],by simp only [mkS,b_,c_,O.refsLt,C.refsLt,C.refsLt1,all_dmap];first | done | rfl | (simp;done),?_⟩;simp [mkS,Abs.get,C.refsLtT,C.refsLt,C.refsLt1,hcv])
     | false =>
      rw [hb] at htt
      have hok1:clsOk1 (valAt vs) g=false:=by simp [clsOk1,hb,h9,h10]
      obtain ⟨f1,f2⟩:=clsPre_fail (s:=s) i2 hok1
      rw [i1] at f1 f2
      rw [f1,f2] at hR
      rw [←hR]
      refine rS_ Tryz.func23 ?_
      simp only [go_sem,seval,hlt,idx_of hgj,h9,h10]
      repeat' (first
       | ((first
        | (refine hp.calls rfl ?_)
        | (refine htt.calls rfl ?_))<;>(try simp only [go_sem,seval,hlt,idx_of hgj,h9,h10]))
       | fail)
  ·obtain ⟨i1,i2⟩:=hinv
   rw [a_] at i1
   subst i1
   obtain ⟨f1,f2⟩:=clsPre_all i2
   rw [f1,f2] at hR
   rw [←hR]
   refine rS_ Tryz.func23 ?_
   simp only [go_sem,seval]
end Go.Proofs.YthilkmjkgpdngaaGreat
