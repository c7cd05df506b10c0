import Derived.Test.YtehcdhelbkjaeaaGreatDoorW38
import Derived.Test.YtehcdhelbkjaeaaGreatDoorW17
open List renaming mem_of_getElem?→a_,getElem?_eq_getElem→d_,length_map→g_
open Bool renaming true_and→b_,false_and→c_
open Option renaming isSome_some→e_,getD_some→f_
namespace Go.Proofs.YtehcdhelbkjaeaaGreatDoor
open Go.Abs
set_option maxRecDepth 100000
set_option maxHeartbeats 8000000
set_option linter.unusedSimpArgs false
set_option linter.unusedVariables false
def meaT (t:Pf):Prop:=∀c:Int,0≤c→c≤200→ACalls Tryz.prog 75 [.d (.agg t.enc),.ptr 0 0] [.box [.d (.int .i64 c)]] fun v H'=>v=.d (.int .i64 (t.mea c).1)∧H'=[.box [.d (.int .i64 (t.mea c).2)]]
theorem measure_T:∀t:Pf,wtL t.enc≤1048576→meaT t:=by
 intro t
 induction t using Pf.ind' with
 | h t ih =>
  intro hw c h0 h1
  rw [Pf.mea_eq]
  generalize hM:Pf.meas t.kids 0 (c+1)=M
  refine aE_ Tryz.func75 ?_
  refine rS_ Tryz.func75 ?_
  simp only [go_sem,seval]
  repeat' (first
   | (simp (disch:=omega) only [wrap_ok])
   | fail)
  try simp (disch:=omega) only [wrap_ok]
  refine rS_ Tryz.func75 ?_
  simp only [go_sem,seval]
  refine AW.rng t.kids [1,15,16] 17 15 (fun p:Int×Int=>[(5,.d (.int .i64 p.1))]) (fun _ p=>[.box [.d (.int .i64 p.2)],.box (t.enc.map .d)]) (fun r p=>Pf.meas r p.1 p.2=M∧0≤p.1∧p.1≤1048577∧0≤p.2∧p.2≤2000000) (0,c+1) rfl (by simp) ⟨hM,by simp,by simp,by dsimp only;omega,by dsimp only;omega⟩ wk1_ (fun i x r p hxi hdr hlt hm hinv hnext=>?_) (fun p hinv=>?_)
  ·obtain ⟨h,cc⟩:=p
   obtain ⟨i1,i2,i3,i4,i5⟩:=hinv
   dsimp only at i1 i2 i3 i4 i5 hnext ⊢
   have hxm:=a_ hxi
   have hxw:=Pf.wt_kids hxm
   have hxc:=Pf.cnt_le_wt x
   simp only [Pf.meas] at i1
   by_cases hb:200<cc
   ·rw [if_pos hb] at i1
    subst i1
    refine rS_ Tryz.func75 ?_
    simp only [go_sem,seval,hlt,idx_of hxi,hb]
   ·rw [if_neg (by omega)] at i1
    have hx:=ih x hxm (by omega) cc i4 (by omega)
    have hsp:=Pf.mea_spec x cc
    have hmx2:maxI h (x.mea cc).1=if h<(x.mea cc).1 then (x.mea cc).1 else h:=rfl
    have hmb:0≤maxI h (x.mea cc).1∧maxI h (x.mea cc).1≤1048577:=by rw [hmx2];split<;>omega
    refine rS_ Tryz.func75 ?_
    simp only [go_sem,seval,hlt,idx_of hxi,hb]
    repeat' (first
     | (simp (disch:=omega) only [wrap_ok])
     | ((refine hx.at1 rfl 0 rfl rfl ?_<;>(rintro v o' ⟨rfl,ho⟩;cases ho;refine ⟨rfl,rfl,?_⟩))<;>(try simp only [go_sem,seval,hlt,idx_of hxi,hb,C.at1]))
     | fail)
    refine hnext (maxI h (x.mea cc).1,(x.mea cc).2) _ ⟨i1,hmb.1,hmb.2,by dsimp only;omega,by dsimp only;omega⟩ (by refine ⟨by simp [mkS,hmx2],by simp [mkS,hmx2],by simp only [mkS,List.all_cons,List.all_nil,O.refsLt,C.refsLt,C.refsLt1,all_dmap];first | done | rfl | (simp;done),?_⟩;simp [mkS,Abs.get,C.refsLtT,C.refsLt,C.refsLt1,hmx2])
  ·obtain ⟨h,cc⟩:=p
   obtain ⟨i1,i2,i3,i4,i5⟩:=hinv
   dsimp only at i1 i2 i3 i4 i5 ⊢
   simp only [Pf.meas] at i1
   subst i1
   refine rS_ Tryz.func75 ?_
   simp only [go_sem,seval]
   repeat' (first
    | (simp (disch:=omega) only [wrap_ok])
    | fail)
   all_goals try simp (disch:=omega) only [wrap_ok]
theorem iProofSize_fn (t:Pf) (hw:wtL t.enc≤1048576):Gives Tryz.prog 46 [.agg t.enc] (.d (.int .i64 t.sizeI)):=by
 have hx:=measure_T t hw 0 (by omega) (by omega)
 have hs:=Pf.size_mea t
 generalize t.sizeI=N at hs ⊢
 generalize (t.mea 0).2=c at hx hs
 refine aE_ Tryz.func46 ?_
 refine rS_ Tryz.func46 ?_
 simp only [go_sem,seval]
 repeat' (first
  | ((refine br_n (fun hq=>?_) (fun hq=>?_))<;>(try simp only [go_sem,seval,C.at1,hq]))
  | ((refine hx.at1 rfl 1 rfl rfl ?_<;>(rintro v o' ⟨rfl,ho⟩;cases ho;refine ⟨rfl,rfl,?_⟩))<;>(try simp only [go_sem,seval,C.at1]))
  | fail)
 ·rw [hs,if_pos (by omega)]
 ·rw [hs,if_neg (by omega)]
theorem proofOk_fn (p:Pg) (hok:pgOk p=true) (hwp:wtL p.enc≤1048576):∀t:Pf,wtL t.enc≤1048576→Gives Tryz.prog 47 [.agg p.enc,.agg t.enc] (.d (.bool (p.prf t))):=by
 intro t
 induction t using Pf.ind' with
 | h t ih =>
  intro hw
  have hmx:maxLen=9223372036854775807:=rfl
  have hrel:=relation_fn p t.rel
  have hrg:=Pg.find_range p t.rel
  rw [Pg.prf_eq]
  by_cases hf:p.find t.rel<0
  ·rw [Pg.prfAt_neg hf]
   generalize p.find t.rel=f at *
   refine aE_ Tryz.func47 ?_
   refine rS_ Tryz.func47 ?_
   simp only [go_sem,seval,hf]
   repeat' (first
    | ((refine hrel.calls rfl ?_)<;>(try simp only [go_sem,seval,hf]))
    | fail)
  ·obtain ⟨r, hr⟩:∃r,p.rels[(p.find t.rel).toNat]? = some r:=⟨_,d_ (by omega)⟩
   have hrm:=a_ hr
   have hre:(p.rels.map Rl.enc)[(p.find t.rel).toNat]? = some r.enc:=by simp [hr]
   rw [Pg.prfAt_at (by omega) hr]
   have hbw:wtL r.body.enc≤1048576:=by have:=Pg.wt_rels hrm;have:=Rl.wt_body r;omega
   have hcl:=clausesOf_fn r.body hbw
   rw [Gl.cls_same] at hcl
   generalize p.find t.rel=f at *
   have hf0:0≤f:=by omega
   have hf1:f<(p.rels.length:Int):=by omega
   have hadd:0≤r.arity∧r.arity≤4∧0≤r.locals∧r.locals≤8:=by
    unfold pgOk at hok
    simp only [Bool.and_eq_true] at hok
    obtain ⟨i,hi⟩:=okL_mem hok.2 r hrm
    unfold Pg.relOk at hi
    simp only [Bool.and_eq_true,decide_eq_true_eq] at hi
    omega
   have hwr:IntKind.i64.wrap (r.arity+r.locals)=r.arity+r.locals:=wrap_ok (by omega) (by omega)
   have hir:=fun (Q:List D→Prop)=>idx_of hre Q
   by_cases hlen:(t.values.length:Int)=r.arity+r.locals
   ·obtain ⟨hbi,_⟩:=Pg.body_inst hok hrm (m:=t.values.length) hlen
    rw [decide_eq_true hlen,b_]
    generalize hREST:(decide (r.body.clsS.length≤64) && (decide (0≤t.clause) && (match r.body.clsS[t.clause.toNat]? with
     | none=>false
     | some c=>clsLoop (valAt (t.values.map Tm.V)) c (p.prfs t.kids))))=REST
    generalize hN:(t.values.all Tm.ground && REST)=N
    have hne:((t.values.length:Int) != r.arity+r.locals)=false:=by simp [hlen]
    refine aE_ Tryz.func47 ?_
    refine rS_ Tryz.func47 ?_
    simp only [go_sem,seval,hf,hf0,hf1,hwr,hir,hne]
    repeat' (first
     | ((refine hrel.calls rfl ?_)<;>(try simp only [go_sem,seval,hf,hf0,hf1,hwr,hir,hne]))
     | fail)
    have hwv:∀x,x∈t.values→wtL x.enc≤1048576:=fun x hx=>by have:=Pf.wt_values hx;omega
    refine AW.rng t.values [2,3,5,39,40] 41 39 (fun _:Unit=>[]) (fun H _=>H) (fun s _=>t.values.all Tm.ground=s.all Tm.ground) () rfl (by simp) rfl wk1_ (fun i x s acc hxi hdr hlt hm hinv hnext=>?_) (fun acc hinv=>?_)
    ·have hwx:=hwv x (a_ hxi)
     rw [List.all_cons] at hinv
     refine rS_ Tryz.func47 ?_
     simp only [go_sem,seval,hlt,idx_of hxi]
     repeat' (first
      | ((refine br_n (fun hq=>?_) (fun hq=>?_))<;>(try simp only [go_sem,seval,hlt,idx_of hxi,hq]))
      | (simp (disch:=omega) only [wrap_ok])
      | ((refine (iIsGround_fn _ sd).calls rfl ?_)<;>(try simp only [go_sem,seval,hlt,idx_of hxi]))
      | fail)
     ·rw [←hN,hinv];simp [*]
     ·exact hnext () _ (by rw [hinv];simp [*]) wk1_
    ·rw [List.all_nil] at hinv
     rw [hinv,b_] at hN
     subst hN
     have hev:t.values.map Tm.enc=(t.values.map Tm.V).map V.enc:=by conv=>lhs;rw [grounds_V hinv,enc_tms]
     have hvl:(t.values.map Tm.V).length=t.values.length:=by simp
     generalize hvs:t.values.map Tm.V=vs at *
     by_cases h64:r.body.clsS.length≤64
     ·rw [if_pos h64] at hcl
      rw [decide_eq_true h64,b_] at hREST
      by_cases hc:0≤t.clause∧t.clause<(r.body.clsS.length:Int)
      ·obtain ⟨c,hcc⟩:∃c,r.body.clsS[t.clause.toNat]? = some c:=⟨_,d_ (by omega)⟩
       rw [decide_eq_true hc.1,b_,hcc] at hREST
       dsimp only at hREST
       have hce:(r.body.clsS.map encC)[t.clause.toNat]? = some (encC c):=by simp [hcc]
       have hc1:¬t.clause<0:=by omega
       have hc2:¬(r.body.clsS.length:Int)≤t.clause:=by omega
       have hc0:=hc.1
       have hc3:=hc.2
       have hci:=fun (Q:List D→Prop)=>idx_of hce Q
       have hrow:=(Gl.clsS_row r.body c (a_ hcc)).2
       refine rS_ Tryz.func47 ?_
       simp only [go_sem,seval,hir,hf0,hf1]
       repeat' (first
        | ((refine hcl.calls rfl ?_)<;>(try simp only [go_sem,seval,clsR,f_,e_,hir,hf0,hf1,hc0,hc1,hc2,hc3,hci,encC_eq]))
        | fail)
       refine AW.rng c [2,3,77,78] 79 77 (fun k:Nat=>[(10,.d (.int .i64 k))]) (fun H _=>H) (fun s k=>clsLoop (valAt vs) s ((p.prfs t.kids).drop k)=REST∧k≤t.kids.length) 0 rfl (by simp) ⟨by rw [List.drop_zero];exact hREST,Nat.zero_le _⟩ wk1_ (fun i g s k hgi hdg hgt hmg hinv2 hnx=>?_) (fun k hinv2=>?_)
       ·obtain ⟨j1,j2⟩:=hinv2
        have hkl:t.kids.length≤1048576:=by
         have h1:=sumW_le (t.kids.map Pf.enc) 0
         simp only [sumW,g_] at h1
         simp only [Pf.enc_eq t,wtL,D.wt] at hw;omega
        have hgI:=Gl.inst_sub hbi g (hrow g (a_ hgi))
        rw [←hvl] at hgI
        unfold clsLoop at j1
        by_cases h10:g.kind=10
        ·rw [if_pos h10] at j1
         rw [←j1]
         refine rS_ Tryz.func47 ?_
         simp only [go_sem,seval,hgt,idx_of hgi,h10]
        ·rw [if_neg h10] at j1
         by_cases h9:g.kind=9
         ·rw [if_pos h9] at j1
          by_cases hk:k<t.kids.length
          ·obtain ⟨kd,hkd⟩:∃kd,t.kids[k]? = some kd:=⟨_,d_ hk⟩
           have hdk:(p.prfs t.kids).drop k=(p.prf kd,p.headV kd.rel kd.values) :: (p.prfs t.kids).drop (k+1):=by
            obtain ⟨_,e⟩:=List.getElem?_eq_some_iff.1 hkd
            rw [Pg.prfs_eq,←List.map_drop,List.drop_eq_getElem_cons hk,List.map_cons,e,List.map_drop]
           rw [hdk] at j1
           dsimp only at j1
           have hkm:=a_ hkd
           have hih:=ih kd hkm (by have:=Pf.wt_kids hkm;omega)
           have hke:(t.kids.map Pf.enc)[k]? = some kd.enc:=by simp [hkd]
           have hkz:(k:Int)<(t.kids.length:Int):=by omega
           have hkn:¬(t.kids.length:Int)≤(k:Int):=by omega
           have hki:=fun (Q:List D→Prop)=>idx_of hke Q
           have hcf:=callFact_fn g vs hgI
           rw [←hev] at hcf
           cases hb:p.prf kd with
           | false =>
            rw [hb] at hih j1
            simp only [c_] at j1
            rw [←j1]
            refine rS_ Tryz.func47 ?_
            simp only [go_sem,seval,hgt,idx_of hgi,h10,h9]
            repeat' (first
             | ((refine br_n (fun hq=>?_) (fun hq=>?_))<;>(try simp only [go_sem,seval,hgt,idx_of hgi,h10,h9,hkz,hkn,hki,hq]))
             | ((refine hih.callQ rfl ?_)<;>(try simp only [go_sem,seval,hgt,idx_of hgi,h10,h9,hkz,hkn,hki]))
             | fail)
           | true =>
            have hpf:=proofFact_fn p hok kd hb
            rw [hb] at hih j1
            simp only [b_] at j1
            have hord:Gives Tryz.prog 78 [.agg (FcV.fc (p.headV kd.rel kd.values)).enc,.agg (FcV.fc (g.callV (valAt vs))).enc] (.d (.int .i64 (cmpFact (p.headV kd.rel kd.values).1 (p.headV kd.rel kd.values).2 (g.callV (valAt vs)).1 (g.callV (valAt vs)).2))):=orderFacts_fn _ _ _ _
            have heq:FcV.eq (p.headV kd.rel kd.values) (g.callV (valAt vs))=decide (cmpFact (p.headV kd.rel kd.values).1 (p.headV kd.rel kd.values).2 (g.callV (valAt vs)).1 (g.callV (valAt vs)).2=0):=rfl
            rw [heq] at j1
            generalize cmpFact (p.headV kd.rel kd.values).1 (p.headV kd.rel kd.values).2 (g.callV (valAt vs)).1 (g.callV (valAt vs)).2=cf at hord j1
            generalize FcV.fc (p.headV kd.rel kd.values)=F1 at hpf hord
            generalize FcV.fc (g.callV (valAt vs))=F2 at hcf hord
            by_cases he:cf=0
            ·rw [decide_eq_true he,b_] at j1
             refine rS_ Tryz.func47 ?_
             simp only [go_sem,seval,hgt,idx_of hgi,h10,h9]
             repeat' (first
              | ((refine br_n (fun hq=>?_) (fun hq=>?_))<;>(try simp only [go_sem,seval,hgt,idx_of hgi,h10,h9,hkz,hkn,hki,he,hq]))
              | (simp (disch:=omega) only [wrap_ok])
              | ((first
               | (refine hih.callQ rfl ?_)
               | (refine hpf.callQ rfl ?_)
               | (refine hcf.callQ rfl ?_)
               | (refine hord.callQ rfl ?_))<;>(try simp only [go_sem,seval,hgt,idx_of hgi,h10,h9,hkz,hkn,hki,he]))
              | fail)
             ·refine hnx (k+1) _ ⟨j1,hk⟩ wk1_
             all_goals (exfalso;omega)
            ·rw [decide_eq_false he,c_] at j1
             rw [←j1]
             refine rS_ Tryz.func47 ?_
             simp only [go_sem,seval,hgt,idx_of hgi,h10,h9]
             repeat' (first
              | ((refine br_n (fun hq=>?_) (fun hq=>?_))<;>(try simp only [go_sem,seval,hgt,idx_of hgi,h10,h9,hkz,hkn,hki,hq]))
              | (simp (disch:=omega) only [wrap_ok])
              | ((first
               | (refine hih.callQ rfl ?_)
               | (refine hpf.callQ rfl ?_)
               | (refine hcf.callQ rfl ?_)
               | (refine hord.callQ rfl ?_))<;>(try simp only [go_sem,seval,hgt,idx_of hgi,h10,h9,hkz,hkn,hki]))
              | fail)
             all_goals first | rfl | (exfalso;omega) | (exact absurd (by assumption) he)
          ·have hdk:(p.prfs t.kids).drop k=[]:=List.drop_eq_nil_of_le (by rw [Pg.prfs_eq,g_];omega)
           rw [hdk] at j1
           dsimp only at j1
           rw [←j1]
           have hkn:(t.kids.length:Int)≤(k:Int):=by omega
           refine rS_ Tryz.func47 ?_
           simp only [go_sem,seval,hgt,idx_of hgi,h10,h9,hkn]
         ·rw [if_neg h9] at j1
          have htw:=trueWith_fn g vs hgI
          rw [←hev] at htw
          cases hb:g.testV (valAt vs) with
          | false =>
           rw [hb] at htw j1
           rw [c_] at j1
           rw [←j1]
           refine rS_ Tryz.func47 ?_
           simp only [go_sem,seval,hgt,idx_of hgi,h10,h9]
           repeat' (first
            | ((refine htw.calls rfl ?_)<;>(try simp only [go_sem,seval,hgt,idx_of hgi,h10,h9]))
            | fail)
          | true =>
           rw [hb] at htw j1
           rw [b_] at j1
           refine rS_ Tryz.func47 ?_
           simp only [go_sem,seval,hgt,idx_of hgi,h10,h9]
           repeat' (first
            | (simp (disch:=omega) only [wrap_ok])
            | ((refine htw.calls rfl ?_)<;>(try simp only [go_sem,seval,hgt,idx_of hgi,h10,h9]))
            | fail)
           refine hnx k _ ⟨j1,j2⟩ wk1_
       ·obtain ⟨j1,j2⟩:=hinv2
        unfold clsLoop at j1
        rw [←j1]
        have hl:((p.prfs t.kids).drop k).isEmpty=decide ((k:Int)=t.kids.length):=by
         rw [Bool.eq_iff_iff,List.isEmpty_iff,decide_eq_true_eq,List.drop_eq_nil_iff,Pg.prfs_eq,g_];omega
        rw [hl]
        refine rS_ Tryz.func47 ?_
        simp only [go_sem,seval]
      ·have hR0:REST=false:=by
        rw [←hREST]
        by_cases h0:0≤t.clause
        ·have:r.body.clsS[t.clause.toNat]? = none:=List.getElem?_eq_none (by omega)
         rw [this];simp
        ·rw [decide_eq_false h0,c_]
       rw [hR0]
       refine rS_ Tryz.func47 ?_
       simp only [go_sem,seval,hir,hf0,hf1]
       repeat' (first
        | ((first | (refine br_n (fun hq=>?_) (fun hq=>?_)) | (refine idx_intro (fun x hx=>have hq:=hx;?_)))<;>(try simp only [go_sem,seval,clsR,f_,e_,hir,hf0,hf1,hq]))
        | (simp (disch:=omega) only [wrap_ok])
        | ((first
         | (refine hcl.calls rfl ?_)
         | (refine ⟨sd,?_⟩))<;>(try simp only [go_sem,seval,clsR,f_,e_,hir,hf0,hf1]))
        | fail)
       all_goals first | rfl | (exfalso;omega)
     ·rw [if_neg h64] at hcl
      have hR0:REST=false:=by rw [←hREST,decide_eq_false h64,c_]
      rw [hR0]
      refine rS_ Tryz.func47 ?_
      simp only [go_sem,seval,hir,hf0,hf1]
      repeat' (first
       | ((refine hcl.calls rfl ?_)<;>(try simp only [go_sem,seval,clsR,Option.getD_none,Option.isSome_none,hir,hf0,hf1]))
       | fail)
   ·rw [decide_eq_false hlen,c_]
    refine aE_ Tryz.func47 ?_
    refine rS_ Tryz.func47 ?_
    simp only [go_sem,seval,hf,hf0,hf1,hwr,hlen,hir]
    repeat' (first
     | ((refine br_n (fun hq=>?_) (fun hq=>?_))<;>(try simp only [go_sem,seval,hf,hf0,hf1,hwr,hlen,hir,hq]))
     | ((refine hrel.calls rfl ?_)<;>(try simp only [go_sem,seval,hf,hf0,hf1,hwr,hlen,hir]))
     | fail)
    all_goals exact absurd hq hlen
theorem iProofOk_fn (p:Pg) (t:Pf) (hwp:wtL p.enc≤1048576) (hw:wtL t.enc≤1048576):Gives Tryz.prog 22 [.agg p.enc,.agg t.enc] (.d (.bool (p.prfOk t))):=by
 have hz:decide (0<t.sizeI)=decide (t.cnt≤200):=by
  have:=Pf.cnt_pos t
  unfold Pf.sizeI
  rw [Bool.eq_iff_iff,decide_eq_true_eq,decide_eq_true_eq]
  split<;>omega
 by_cases hok:pgOk p=true
 ·have hp:=proofOk_fn p hok hwp t hw
  have hP:p.prfOk t=(decide (0<t.sizeI) && p.prf t):=by unfold Pg.prfOk;rw [hok,b_,hz]
  rw [hP]
  clear hP
  generalize p.prf t=b at hp ⊢
  have hsz:=iProofSize_fn t hw
  generalize t.sizeI=z at hz hsz ⊢
  refine aE_ Tryz.func22 ?_
  refine rS_ Tryz.func22 ?_
  simp only [go_sem,seval,hok]
  repeat' (first
   | ((refine br_n (fun hq=>?_) (fun hq=>?_))<;>(try simp only [go_sem,seval,hok,hq]))
   | ((first
    | (refine hp.calls rfl ?_)
    | (refine hsz.calls rfl ?_)
    | (refine (iProgramOk_fn _ sd).calls rfl ?_))<;>(try simp only [go_sem,seval,hok]))
   | fail)
  all_goals first | rfl | (rw [decide_eq_true (by omega)];rfl) | (rw [decide_eq_false (by omega)];rfl) | (rw [decide_eq_true (by omega),b_];done)
 ·simp only [Bool.not_eq_true] at hok
  have hP:p.prfOk t=false:=by unfold Pg.prfOk;rw [hok,c_]
  rw [hP]
  refine aE_ Tryz.func22 ?_
  refine rS_ Tryz.func22 ?_
  simp only [go_sem,seval,hok]
  repeat' (first
   | ((refine (iProgramOk_fn _ sd).calls rfl ?_)<;>(try simp only [go_sem,seval,hok]))
   | fail)
end Go.Proofs.YtehcdhelbkjaeaaGreatDoor
