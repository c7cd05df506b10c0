import Derived.Test.YtlajhmoomlgopaaGreatW14
import Derived.Test.YtlajhmoomlgopaaGreatA8
import Derived.Test.YtlajhmoomlgopaaGreatP3
import Derived.Test.YtlajhmoomlgopaaGreatW17
import Derived.Test.YtlajhmoomlgopaaGreatW7
import Derived.Test.YtlajhmoomlgopaaGreatP9
open List renaming all_cons→a_,all_nil→b_,mem_of_getElem?→c_,map_nil→d_,append_nil→f_,map_cons→i_,getElem?_eq_getElem→j_
open Bool renaming not_eq_true→e_,false_eq_true→g_,and_eq_true→h_
namespace Go.Proofs.YtlajhmoomlgopaaGreat
open Go.Abs
set_option maxRecDepth 100000
set_option maxHeartbeats 4000000
set_option linter.unusedSimpArgs false
set_option linter.unusedVariables false
def encL (c:List Gl):List D:=[.sl (c.map Gl.enc)]
theorem encL_eq (c:List Gl):encL c=[.sl (c.map Gl.enc)]:=rfl
def sgl (g:Gl):Bool:=glOk g && !decide (g.kind=7) && !decide (g.kind=8)
def okCl (c:List Gl):Bool:=decide (c.length≤8) && c.all sgl
def cgOk (L:List (List Gl)):Bool:=decide (L.length≤8) && L.all okCl
def mkC (c:List Gl):Gl:=.mk 7 [] [] c
theorem mkC_enc (c:List Gl):(mkC c).enc=[.int .i64 7,.str [],.sl [],.sl (c.map Gl.enc)]:=by rw [Gl.enc_eq];rfl
def cgK (L:List (List Gl)):Int:=if cgOk L=true then 8 else 0
def cgV (L:List (List Gl)):List (List Gl):=if cgOk L=true then L else []
theorem clauseGoal_T (L:List (List Gl)) (hw:∀c,c∈L→∀x,x∈c→wtL x.enc≤1048576):ACalls Tryz.prog 49 [.d (.sl (L.map encL))] [.hole] (fun c H'=>c=.tup [.agg [.d (.int .i64 (cgK L)),.d (.str []),.d (.sl []),.own 0 1],.d (.bool (cgOk L))]∧∃e B,H'=[.tree 1 4 e (((cgV L).map mkC).map Gl.enc) B none]):=by
 have hmx:maxLen=9223372036854775807:=rfl
 unfold cgK cgV
 by_cases h8:L.length≤8
 ·have hg : cgOk L=L.all okCl:=by simp [cgOk,h8]
  have hl8:¬(8:Int)<(L.length:Int):=by omega
  refine aE_ Tryz.func49 ?_
  refine run_sound Tryz.func49 mixed 10 _ _ (by kernel_rfl) ?_
  simp only [go_sem,seval,run.eq_1,hl8]
  refine AW.adoptTB 2 3 4 48 (by decide) rfl rfl ?_
  refine rS_ Tryz.func49 ?_
  simp only [go_sem,seval]
  refine AW.rng L [2,4,15,16] 17 15 (fun p:List (List Gl)×(Nat→Prop)=>[]) (fun _ p=>[.hole,.box [.d (.int .i64 0),.d (.str []),.nil0,.nil0],.box [.d (.int .i64 8),.d (.str []),.nil0,.own 3 p.1.length],.tree p.1.length 4 48 ((p.1.map mkC).map Gl.enc) p.2 none]) (fun r p=>p.1++r=L∧cgOk L=r.all okCl) ([],fun _=>False) rfl (by simp) ⟨rfl,hg⟩ wk1_ (fun i c r p hxi hdr hlt hm hinv hnext=>?_) (fun p hinv=>?_)
  ·obtain ⟨hi1,hi2⟩:=hinv
   have hcm:=c_ hxi
   have hcw:=hw c hcm
   have hpl:p.1.length+(r.length+1)=L.length:=by rw [←hi1];simp
   simp only [a_] at hi2
   by_cases hc8:c.length≤8
   ·have hlc:¬(8:Int)<(c.length:Int):=by omega
    have hok:okCl c=c.all sgl:=by simp [okCl,hc8]
    refine rS_ Tryz.func49 ?_
    simp only [go_sem,seval,hlt,idx_of hxi,encL_eq,hlc]
    refine AW.adoptTB 4 3 4 48 (by decide) rfl rfl ?_
    refine AW.rng c [2,4,7,15,16,17,26,27] 28 26 (fun u:List Gl×(Nat→Prop)=>[]) (fun _ u=>[.hole,.box [.d (.int .i64 0),.d (.str []),.nil0,.nil0],.box [.d (.int .i64 8),.d (.str []),.nil0,.own 3 p.1.length],.tree p.1.length 4 48 ((p.1.map mkC).map Gl.enc) p.2 none,.box [.d (.int .i64 7),.d (.str []),.nil0,.own 5 u.1.length],.tree u.1.length 4 48 (u.1.map Gl.enc) u.2 none]) (fun s u=>u.1++s=c∧okCl c=s.all sgl) ([],fun _=>False) rfl (by simp) ⟨rfl,hok⟩ wk1_ (fun j g s u hgj hds hjt hmj hinu hnxu=>?_) (fun u hinu=>?_)
    ·obtain ⟨hu1,hu2⟩:=hinu
     have hgm:=hcw g (c_ hgj)
     have hul:u.1.length+(s.length+1)=c.length:=by rw [←hu1];simp
     simp only [a_] at hu2
     by_cases hgo:glOk g=true
     ·by_cases h7:g.kind=7
      ·have hbad:cgOk L=false:=by rw [hi2,hu2];simp [sgl,h7]
       refine run_sound Tryz.func49 mixed 15 _ _ (by kernel_rfl) ?_
       simp only [go_sem,seval,run.eq_1,hjt,idx_of hgj,hgo,h7]
       repeat' (first
        | ((refine (iGoalOk_fn _ sd).calls rfl ?_)<;>(try simp only [go_sem,seval,hjt,idx_of hgj,hgo,h7,run.eq_1]))
        | fail)
       rw [hbad]
       refine AW.adoptTB 1 3 4 48 (by decide) rfl rfl ?_
       refine AW.placeB 1 3 7 0 rfl rfl rfl rfl (by decide) ?_
       refine rS_ Tryz.func49 ?_
       simp only [go_sem,seval]
       repeat' (first
        | (exact ⟨_,_,rfl⟩)
        | fail)
      ·by_cases h8g:g.kind=8
       ·have hbad:cgOk L=false:=by rw [hi2,hu2];simp [sgl,h8g]
        refine run_sound Tryz.func49 mixed 15 _ _ (by kernel_rfl) ?_
        simp only [go_sem,seval,run.eq_1,hjt,idx_of hgj,hgo,h7,h8g]
        repeat' (first
         | ((refine (iGoalOk_fn _ sd).calls rfl ?_)<;>(try simp only [go_sem,seval,hjt,idx_of hgj,hgo,h7,h8g,run.eq_1]))
         | fail)
        rw [hbad]
        refine AW.adoptTB 1 3 4 48 (by decide) rfl rfl ?_
        refine AW.placeB 1 3 7 0 rfl rfl rfl rfl (by decide) ?_
        refine rS_ Tryz.func49 ?_
        simp only [go_sem,seval]
        repeat' (first
         | (exact ⟨_,_,rfl⟩)
         | fail)
       ·have hu3:okCl c=s.all sgl:=by rw [hu2];simp [sgl,hgo,h7,h8g]
        have hx:=copyGoal_T g hgm (glOk_shape hgo)
        unfold cpG at hx
        refine AW.hole ?_
        refine AW.hole ?_
        refine run_sound Tryz.func49 mixed 14 _ _ (by kernel_rfl) ?_
        simp only [go_sem,seval,run.eq_1,hjt,idx_of hgj,hgo,h7,h8g]
        repeat' (first
         | ((refine (iGoalOk_fn _ sd).calls rfl ?_)<;>(try simp only [go_sem,seval,hjt,idx_of hgj,hgo,h7,h8g,run.eq_1]))
         | fail)
        refine AW.drawA mixed #[true,true,true,true,true,true,false,false] [(4,.box [.d (.int .i64 7),.d (.str []),.nil0,.own 5 u.1.length]),(8,.box (g.enc.map .d))] [] [0,1,2,3,4,5] [6,7] none (by kernel_rfl) trivial (by simp [holdsB]) ?_
        simp only [go_sem,seval]
        repeat' (first
         | ((first
          | (refine ACalls.fresh (ds:=[.agg g.enc]) (m:=2) hx [6,7] rfl rfl (by simp) (by simp) ?_<;>(rintro c H' ⟨rfl,e2,B2,e3,B3,rfl⟩ _;refine ⟨rfl,rfl,?_⟩))
          | (refine all_intro (fun Bz=>?_))
          | (refine ⟨sd,?_⟩))<;>(try simp only [go_sem,seval]))
         | fail)
        refine rS_ Tryz.func49 ?_
        simp only [go_sem,seval]
        try simp (disch:=omega) only [wrap_ok]
        refine hnxu (u.1++[g],Bz) _ ⟨by simp [←hu1],hu3⟩ (by refine ⟨by simp [mkS,Gl.enc_eq g],by simp [mkS,Gl.enc_eq g],by simp only [mkS,a_,b_,O.refsLt,C.refsLt,C.refsLt1,all_dmap];first | done | rfl | (simp;done),?_⟩;simp [mkS,Abs.get,C.refsLtT,C.refsLt,C.refsLt1])
     ·simp only [e_] at hgo
      have hbad:cgOk L=false:=by rw [hi2,hu2];simp [sgl,hgo]
      refine run_sound Tryz.func49 mixed 15 _ _ (by kernel_rfl) ?_
      simp only [go_sem,seval,run.eq_1,hjt,idx_of hgj,hgo]
      repeat' (first
       | ((refine (iGoalOk_fn _ sd).calls rfl ?_)<;>(try simp only [go_sem,seval,hjt,idx_of hgj,hgo,run.eq_1]))
       | fail)
      rw [hbad]
      refine AW.adoptTB 1 3 4 48 (by decide) rfl rfl ?_
      refine AW.placeB 1 3 7 0 rfl rfl rfl rfl (by decide) ?_
      refine rS_ Tryz.func49 ?_
      simp only [go_sem,seval]
      repeat' (first
       | (exact ⟨_,_,rfl⟩)
       | fail)
    ·obtain ⟨hu1,hu2⟩:=hinu
     simp only [f_] at hu1
     simp only [b_] at hu2
     subst hu1
     refine run_sound Tryz.func49 mixed 5 _ _ (by kernel_rfl) ?_
     simp only [go_sem,seval,run.eq_1]
     refine AW.regT ?_
     simp only [go_sem,seval]
     repeat' (first
      | ((first
       | (refine all_intro (fun Bz=>?_))
       | (refine ⟨sd,?_⟩))<;>(try simp only [go_sem,seval]))
      | fail)
     refine rS_ Tryz.func49 ?_
     simp only [go_sem,seval]
     try simp (disch:=omega) only [wrap_ok]
     refine hnext (p.1++[u.1],Bz) _ ⟨by simp [←hi1],by rw [hi2,hu2];simp⟩ (by refine ⟨by simp [mkS,mkC_enc],by simp [mkS,mkC_enc],by simp only [mkS,a_,b_,O.refsLt,C.refsLt,C.refsLt1,all_dmap];first | done | rfl | (simp;done),?_⟩;simp [mkS,Abs.get,C.refsLtT,C.refsLt,C.refsLt1,mkC_enc])
   ·have hlc:(8:Int)<(c.length:Int):=by omega
    have hbad:cgOk L=false:=by rw [hi2];simp [okCl,hc8]
    refine run_sound Tryz.func49 mixed 15 _ _ (by kernel_rfl) ?_
    simp only [go_sem,seval,run.eq_1,hlt,idx_of hxi,encL_eq,hlc]
    rw [hbad]
    refine AW.adoptTB 1 3 4 48 (by decide) rfl rfl ?_
    refine AW.placeB 1 3 4 0 rfl rfl rfl rfl (by decide) ?_
    refine rS_ Tryz.func49 ?_
    simp only [go_sem,seval]
    repeat' (first
     | (exact ⟨_,_,rfl⟩)
     | fail)
  ·obtain ⟨hi1,hi2⟩:=hinv
   simp only [f_] at hi1
   simp only [b_] at hi2
   rw [hi2]
   simp only [if_true]
   refine run_sound Tryz.func49 mixed 7 _ _ (by kernel_rfl) ?_
   simp only [go_sem,seval,run.eq_1]
   refine AW.placeB 1 3 3 0 rfl rfl rfl rfl (by decide) ?_
   rw [hi1]
   refine rS_ Tryz.func49 ?_
   simp only [go_sem,seval]
   repeat' (first
    | (exact ⟨_,_,rfl⟩)
    | fail)
 ·have hbad:cgOk L=false:=by simp [cgOk,h8]
  have hl8:(8:Int)<(L.length:Int):=by omega
  refine aE_ Tryz.func49 ?_
  refine run_sound Tryz.func49 mixed 8 _ _ (by kernel_rfl) ?_
  simp only [go_sem,seval,run.eq_1,hl8]
  rw [hbad]
  refine AW.adoptTB 1 3 4 48 (by decide) rfl rfl ?_
  refine AW.placeB 1 3 2 0 rfl rfl rfl rfl (by decide) ?_
  refine rS_ Tryz.func49 ?_
  simp only [go_sem,seval]
  repeat' (first
   | (exact ⟨_,_,rfl⟩)
   | fail)
theorem sub_wt {t:Gl} (h:wtL t.enc≤1048576):∀x,x∈t.subs→wtL x.enc≤1048576:=
 Gl.subs_ind (Q:=fun x=>wtL x.enc≤1048576) (fun t ht x hx=>by have:=Gl.wt_goals hx;omega) t h
theorem copyClauses_T (L:List (List Gl)) (hL:L.length≤1000000) (hr:∀c,c∈L→c.length≤2000000) (hg:∀c,c∈L→∀x,x∈c→wtL x.enc≤1048576∧x.shape=true):ACalls Tryz.prog 89 [.d (.sl (L.map encC))] [.hole] (fun c H'=>c=.own 0 1∧∃e B,H'=[.tree 1 1 e (L.map encC) B none]):=by
 have hmx:maxLen=9223372036854775807:=rfl
 refine aE_ Tryz.func89 ?_
 refine run_sound Tryz.func89 mixed 5 _ _ (by kernel_rfl) ?_
 simp only [go_sem,seval,run.eq_1]
 refine AW.adoptT 3 1 46 (by decide) rfl ?_
 refine rS_ Tryz.func89 ?_
 simp only [go_sem,seval]
 refine AW.rng L [10,11] 12 10 (fun p:List (List Gl)×(Nat→Prop)=>[(3,.own 1 p.1.length)]) (fun _ p=>[.hole,.tree p.1.length 1 46 (p.1.map encC) p.2 none]) (fun r p=>p.1++r=L) ([],fun _=>False) rfl (by simp) rfl wk1_ (fun i c r p hxi hdr hlt hm hinv hnext=>?_) (fun p hinv=>?_)
 ·have hcm:=c_ hxi
  have hcl:=hr c hcm
  have hcg:=hg c hcm
  have hpl:p.1.length+(r.length+1)=L.length:=by rw [←hinv];simp
  refine rS_ Tryz.func89 ?_
  simp only [go_sem,seval,hlt,idx_of hxi,encC_eq]
  refine AW.adoptT 6 4 48 (by decide) rfl ?_
  refine AW.rng c [3,10,11,12,17,18] 19 17 (fun u:List Gl×(Nat→Prop)=>[(6,.own 2 u.1.length)]) (fun _ u=>[.hole,.tree p.1.length 1 46 (p.1.map encC) p.2 none,.tree u.1.length 4 48 (u.1.map Gl.enc) u.2 none]) (fun r u=>u.1++r=c) ([],fun _=>False) rfl (by simp) rfl wk1_ (fun j x s u hxj hds hjt hmj hinu hnxu=>?_) (fun u hinu=>?_)
  ·have hxm:=hcg x (c_ hxj)
   have hul:u.1.length+(s.length+1)=c.length:=by rw [←hinu];simp
   have hx:=copyGoal_T x hxm.1 hxm.2
   unfold cpG at hx
   refine AW.hole ?_
   refine AW.hole ?_
   refine run_sound Tryz.func89 mixed 9 _ _ (by kernel_rfl) ?_
   simp only [go_sem,seval,run.eq_1,hjt,idx_of hxj]
   refine AW.regT ?_
   simp only [go_sem,seval]
   repeat' (first
    | ((first
     | (refine ACalls.fresh (ds:=[.agg x.enc]) (m:=2) hx [3,4] rfl rfl (by simp) (by simp) ?_<;>(rintro c H' ⟨rfl,e1,B1,e2,B2,rfl⟩ _;refine ⟨rfl,rfl,?_⟩))
     | (refine all_intro (fun Bz=>?_))
     | (refine ⟨sd,?_⟩))<;>(try simp only [go_sem,seval,hjt,idx_of hxj]))
    | fail)
   refine rS_ Tryz.func89 ?_
   simp only [go_sem,seval]
   try simp (disch:=omega) only [wrap_ok]
   refine hnxu (u.1++[x],Bz) _ (by simp [←hinu]) (by refine ⟨by simp [mkS,Gl.enc_eq x],by simp [mkS,Gl.enc_eq x],by simp only [mkS,a_,b_,O.refsLt,C.refsLt,C.refsLt1,all_dmap];first | done | rfl | (simp;done),?_⟩;simp [mkS,Abs.get,C.refsLtT,C.refsLt,C.refsLt1])
  ·simp only [f_] at hinu
   subst hinu
   refine run_sound Tryz.func89 mixed 5 _ _ (by kernel_rfl) ?_
   simp only [go_sem,seval,run.eq_1]
   refine AW.regT ?_
   simp only [go_sem,seval]
   repeat' (first
    | ((first
     | (refine all_intro (fun Bz=>?_))
     | (refine ⟨sd,?_⟩))<;>(try simp only [go_sem,seval]))
    | fail)
   refine rS_ Tryz.func89 ?_
   simp only [go_sem,seval]
   try simp (disch:=omega) only [wrap_ok]
   refine hnext (p.1++[u.1],Bz) _ (by simp [←hinv]) (by refine ⟨by simp [mkS,encC_eq],by simp [mkS,encC_eq],by simp only [mkS,a_,b_,O.refsLt,C.refsLt,C.refsLt1,all_dmap];first | done | rfl | (simp;done),?_⟩;simp [mkS,Abs.get,C.refsLtT,C.refsLt,C.refsLt1,encC_eq])
 ·simp only [f_] at hinv
  subst hinv
  refine run_sound Tryz.func89 mixed 7 _ _ (by kernel_rfl) ?_
  simp only [go_sem,seval,run.eq_1]
  refine AW.place 2 1 0 rfl rfl rfl (by decide) ?_
  refine rS_ Tryz.func89 ?_
  simp only [go_sem,seval]
  all_goals exact ⟨_,_,rfl⟩
def clsV (t:Gl):List (List Gl):=if glOk t=true∧t.clsS.length≤64 then t.clsS else []
def clsB (t:Gl):Bool:=decide (glOk t=true∧t.clsS.length≤64)
theorem iClausesOf_T (t:Gl) (hw:wtL t.enc≤1048576):ACalls Tryz.prog 48 [.d (.agg t.enc)] [.hole] (fun c H'=>c=.tup [.own 0 1,.d (.bool (clsB t))]∧∃e B,H'=[.tree 1 1 e ((clsV t).map encC) B none]):=by
 have hcw:=Gl.cnt_le_wt t
 unfold clsV clsB
 by_cases hc:glOk t=true∧t.clsS.length≤64
 ·obtain ⟨hok,hl⟩:=hc
  have h1:=clausesOf_fn t hw
  rw [Gl.cls_same,if_pos hl] at h1
  have hrow:=Gl.clsS_row t
  have hsw:=sub_wt hw
  have hss:=Gl.shape_sub (glOk_shape hok)
  have e1:=copyClauses_T t.clsS (by omega) (fun c hc=>by have:=(hrow c hc).1;omega) (fun c hc x hx=>⟨hsw x ((hrow c hc).2 x hx),hss x ((hrow c hc).2 x hx)⟩)
  simp only [if_pos (show glOk t=true∧t.clsS.length≤64 from ⟨hok,hl⟩),decide_eq_true (show glOk t=true∧t.clsS.length≤64 from ⟨hok,hl⟩)]
  refine aE_ Tryz.func48 ?_
  refine rS_ Tryz.func48 ?_
  simp only [go_sem,seval,hok]
  repeat' (first
   | (exact ⟨_,_,rfl⟩)
   | ((first
    | (refine h1.calls rfl ?_)
    | (refine ACalls.fresh (ds:=[.sl (t.clsS.map encC)]) (m:=1) e1 [0] rfl rfl (by simp) (by simp) ?_<;>(rintro c H' ⟨rfl,e,B1,rfl⟩ _;refine ⟨rfl,rfl,?_⟩))
    | (refine (iGoalOk_fn _ sd).calls rfl ?_))<;>(try simp only [go_sem,seval,hok,clsR,Option.getD_some,Option.isSome_some]))
   | fail)
 ·simp only [if_neg hc,decide_eq_false hc,d_]
  by_cases hok:glOk t=true
  ·have h1:=clausesOf_fn t hw
   rw [Gl.cls_same,if_neg (fun h=>hc ⟨hok,h⟩)] at h1
   refine aE_ Tryz.func48 ?_
   refine run_sound Tryz.func48 mixed 15 _ _ (by kernel_rfl) ?_
   simp only [go_sem,seval,run.eq_1,hok]
   repeat' (first
    | ((first
     | (refine h1.calls rfl ?_)
     | (refine (iGoalOk_fn _ sd).calls rfl ?_))<;>(try simp only [go_sem,seval,hok,clsR,Option.getD_none,Option.isSome_none,run.eq_1]))
    | fail)
   refine AW.adoptT 2 1 46 (by decide) rfl ?_
   refine AW.place 2 2 0 rfl rfl rfl (by decide) ?_
   refine rS_ Tryz.func48 ?_
   simp only [go_sem,seval]
   all_goals exact ⟨_,_,rfl⟩
  ·simp only [e_] at hok
   refine aE_ Tryz.func48 ?_
   refine run_sound Tryz.func48 mixed 8 _ _ (by kernel_rfl) ?_
   simp only [go_sem,seval,run.eq_1,hok]
   repeat' (first
    | ((refine (iGoalOk_fn _ sd).calls rfl ?_)<;>(try simp only [go_sem,seval,hok,run.eq_1]))
    | fail)
   refine AW.adoptT 2 1 46 (by decide) rfl ?_
   refine AW.place 2 2 0 rfl rfl rfl (by decide) ?_
   refine rS_ Tryz.func48 ?_
   simp only [go_sem,seval]
   all_goals exact ⟨_,_,rfl⟩
def nfG (g:Gl):Gl:=.mk (cgK (clsV g)) [] [] ((cgV (clsV g)).map mkC)
def nfO (r:Rl):Bool:=clsB r.body && cgOk (clsV r.body)
def nfR (r:Rl):Rl:={ r with body:=nfG r.body }
def nfB (p:Pg):Bool:=pgOk p && p.rels.all nfO && pgOk ⟨p.rels.map nfR⟩
def nfL (p:Pg):List Rl:=if nfB p=true then p.rels.map nfR else []
theorem clsV_wt {g:Gl}:∀c,c∈clsV g→wtR (c.map Gl.enc)≤1+wtL g.enc:=by
 unfold clsV
 split
 ·exact Gl.clsS_wt g
 ·simp
theorem nfG_wt (g:Gl):wtL (nfG g).enc≤16+8 * wtL g.enc:=by
 have key:∀l:List (List Gl),(∀c,c∈l→wtR (c.map Gl.enc)≤1+wtL g.enc)→wtR ((l.map mkC).map Gl.enc)≤l.length * (2+wtL g.enc):=by
  intro l
  induction l with
  | nil=>intro _;simp [wtR]
  | cons c r ih =>
   intro h
   have h1:=ih (fun x hx=>h x (by simp [hx]))
   have h2:=h c (by simp)
   simp only [i_,wtR,mkC_enc,wtL,D.wt,List.length_nil,List.length_cons,Nat.add_mul]
   omega
 unfold nfG
 rw [Gl.enc_eq]
 simp only [Gl.kind,Gl.name,Gl.terms,Gl.goals,d_,wtL,D.wt,wtR,List.length_nil]
 have h1:(cgV (clsV g)).length≤8∧∀c,c∈cgV (clsV g)→c∈clsV g:=by
  unfold cgV
  split
  ·rename_i h
   unfold cgOk at h
   simp only [h_,decide_eq_true_eq] at h
   exact ⟨h.1,fun c hc=>hc⟩
  ·simp
 have h2:=key (cgV (clsV g)) (fun c hc=>clsV_wt c (h1.2 c hc))
 have h3:(cgV (clsV g)).length * (2+wtL g.enc)≤8 * (2+wtL g.enc):=Nat.mul_le_mul_right _ h1.1
 omega
theorem nfR_wt (r:Rl):wtL (nfR r).enc≤16+8 * wtL r.enc:=by
 have h:=nfG_wt r.body
 simp only [Rl.enc_eq,Gl.enc_eq,nfR,wtL,D.wt] at h ⊢
 omega
theorem nfL_wt:∀l:List Rl,wtR ((l.map nfR).map Rl.enc)≤8 * wtR (l.map Rl.enc)+16 * l.length
 | []=>by simp [wtR]
 | r :: q=>by
  have h1:=nfL_wt q
  have h2:=nfR_wt r
  simp only [i_,wtR,List.length_cons]
  omega
theorem nf_wt {p:Pg} (hp:pgOk p=true) (hw:wtL p.enc≤1048576):wtL (Pg.enc ⟨p.rels.map nfR⟩)≤9000000:=by
 have h1:=nfL_wt p.rels
 have h2:p.rels.length≤8:=by
  unfold pgOk at hp
  simp only [h_,decide_eq_true_eq] at hp
  exact hp.1
 simp only [Pg.enc_eq,wtL,D.wt] at hw ⊢
 omega
theorem pgOk_bodies {p:Pg} (h:pgOk p=true):∀r,r∈p.rels→r.body.shape=true:=fun r hr=>by
 unfold pgOk at h
 simp only [h_] at h
 obtain ⟨i,hi⟩:=okL_mem h.2 r hr
 exact relOk_shape hi
theorem iClausesOf_fn (t:Gl) (hw:wtL t.enc≤1048576):Gives Tryz.prog 48 [.agg t.enc] (.tup [.d (.sl ((clsV t).map encC)),.d (.bool (clsB t))]):=by
 refine ACalls.frozen (ds:=[.agg t.enc]) (m:=1) (iClausesOf_T t hw) (fun c H' ⟨h1,e,B,h2⟩ _=>?_)
 subst h1 h2
 rfl
theorem copyProgram_T (p:Pg) (hw:wtL p.enc≤1048576) (hs:∀r,r∈p.rels→r.body.shape=true):ACalls Tryz.prog 47 [.d (.agg p.enc)] [.hole] (fun c H'=>c=.agg [.own 0 1]∧∃e B,H'=[.tree 1 7 e (p.rels.map Rl.enc) B none]):=by
 have hmx:maxLen=9223372036854775807:=rfl
 have hwr:∀r,r∈p.rels→wtL r.body.enc≤1048576:=fun r hr=>by
  have:=Pg.wt_rels hr;have:=Rl.wt_body r;omega
 have hlg0:p.rels.length≤1048576:=by
  have h1:wtR (p.rels.map Rl.enc)≤1048576:=by simpa only [Pg.enc_eq,wtL,D.wt,Nat.add_zero] using hw
  have:=sumW_le (p.rels.map Rl.enc) 0;simp [sumW] at this;omega
 refine aE_ Tryz.func47 ?_
 refine run_sound Tryz.func47 mixed 8 _ _ (by kernel_rfl) ?_
 simp only [go_sem,seval,run.eq_1]
 refine AW.adoptTB 3 0 7 81 (by decide) rfl rfl ?_
 refine rS_ Tryz.func47 ?_
 simp only [go_sem,seval]
 refine AW.rng p.rels [2,3,8,9] 10 8 (fun q:List Rl×(Nat→Prop)=>[]) (fun _ q=>[.hole,.box (p.enc.map .d),.box [.nil0],.box [.own 4 q.1.length],.tree q.1.length 7 81 (q.1.map Rl.enc) q.2 none]) (fun r q=>q.1++r=p.rels) ([],fun _=>False) rfl (by simp) rfl wk1_ (fun i x r q hxi hdr hlt hm hinv hnext=>?_) (fun q hinv=>?_)
 ·have hxm:=c_ hxi
  have hpl:q.1.length+(r.length+1)=p.rels.length:=by rw [←hinv];simp
  have hx:=copyGoal_T x.body (hwr x hxm) (hs x hxm)
  unfold cpG at hx
  refine AW.hole ?_
  refine AW.hole ?_
  refine run_sound Tryz.func47 mixed 9 _ _ (by kernel_rfl) ?_
  simp only [go_sem,seval,run.eq_1,hlt,idx_of hxi]
  refine AW.drawA mixed #[true,true,true,true,true,true,true,true,true,true,true,true,true,true,false,false] [(3,.box [.own 4 q.1.length]),(7,.box (x.enc.map .d))] [] [0,1,2,3,4,5,6,7,8,9,10,11,12,13] [14,15] none (by kernel_rfl) trivial (by simp [holdsB]) ?_
  simp only [go_sem,seval]
  repeat' (first
   | ((first
    | (refine ACalls.fresh (ds:=[.agg x.body.enc]) (m:=2) hx [5,6] rfl rfl (by simp) (by simp) ?_<;>(rintro c H' ⟨rfl,e2,B2,e3,B3,rfl⟩ _;refine ⟨rfl,rfl,?_⟩))
    | (refine all_intro (fun Bz=>?_))
    | (refine ⟨sd,?_⟩))<;>(try simp only [go_sem,seval]))
   | fail)
  refine rS_ Tryz.func47 ?_
  simp only [go_sem,seval]
  try simp (disch:=omega) only [wrap_ok]
  refine hnext (q.1++[x],Bz) _ (by simp [←hinv]) (by refine ⟨by simp [mkS,Rl.enc_eq x],by simp [mkS,Rl.enc_eq x],by simp only [mkS,a_,b_,O.refsLt,C.refsLt,C.refsLt1,all_dmap];first | done | rfl | (simp;done),?_⟩;simp [mkS,Abs.get,C.refsLtT,C.refsLt,C.refsLt1])
 ·simp only [f_] at hinv
  rw [hinv]
  refine run_sound Tryz.func47 mixed 7 _ _ (by kernel_rfl) ?_
  simp only [go_sem,seval,run.eq_1]
  refine AW.placeB 2 0 4 0 rfl rfl rfl rfl (by decide) ?_
  refine rS_ Tryz.func47 ?_
  simp only [go_sem,seval]
  repeat' (first
   | (exact ⟨_,_,rfl⟩)
   | fail)
def nfRows (p:Pg) (i:Nat):List (List D):=((p.rels.take i).map nfR).map Rl.enc++(p.rels.drop i).map Rl.enc
theorem nfRows_len (p:Pg) (i:Nat):(nfRows p i).length=p.rels.length:=by
 simp only [nfRows,List.length_append,List.length_map,List.length_take,List.length_drop];omega
theorem iNormalProgram_T (p:Pg) (hw:wtL p.enc≤1048576):ACalls Tryz.prog 17 [.d (.agg p.enc)] [.hole] (fun c H'=>c=.tup [.agg [.own 0 1],.d (.bool (nfB p))]∧∃e B,H'=[.tree 1 7 e ((nfL p).map Rl.enc) B none]):=by
 have hmx:maxLen=9223372036854775807:=rfl
 have hpk:=iProgramOk_fn p (by omega)
 unfold nfL
 by_cases hp:pgOk p=true
 ·rw [hp] at hpk
  have hcp:=copyProgram_T p hw (pgOk_bodies hp)
  have hwr:∀r,r∈p.rels→wtL r.body.enc≤1048576:=fun r hr=>by
   have:=Pg.wt_rels hr;have:=Rl.wt_body r;omega
  have hnf:nfB p=(p.rels.all nfO && pgOk ⟨p.rels.map nfR⟩):=by unfold nfB;rw [hp];rfl
  have hwn:=nf_wt hp hw
  have hlp:p.rels.length≤8:=by
   have hp':=hp
   unfold pgOk at hp'
   simp only [h_,decide_eq_true_eq] at hp'
   exact hp'.1
  have hk2:=iProgramOk_fn ⟨p.rels.map nfR⟩ hwn
  refine aE_ Tryz.func17 ?_
  refine AW.hole ?_
  refine run_sound Tryz.func17 mixed 13 _ _ (by kernel_rfl) ?_
  simp only [go_sem,seval,run.eq_1]
  repeat' (first
   | ((first
    | (refine hpk.calls rfl ?_)
    | (refine ACalls.fresh (ds:=[.agg p.enc]) (m:=1) hcp [1] rfl rfl (by simp) (by simp) ?_<;>(rintro c H' ⟨rfl,e2,B2,rfl⟩ _;refine ⟨rfl,rfl,?_⟩)))<;>(try simp only [go_sem,seval]))
   | fail)
  simp only [run.eq_1]
  have hr0:p.rels.map Rl.enc=nfRows p 0:=by simp [nfRows]
  rw [hr0]
  refine AW.lp [2,4,18] (fun q:Nat×(Nat→Prop)=>[(19,.d (.int .i64 q.1))]) (fun _ q=>[.hole,.tree 1 7 e2 (nfRows p q.1) q.2 none,.box (p.enc.map .d),.box [.nil0],.box [.own 1 1]]) (fun q=>q.1≤p.rels.length∧(p.rels.take q.1).all nfO=true) (fun q=>p.rels.length - q.1) (0,B2) ⟨Nat.zero_le _,by simp⟩ wk1_ ?_
  rintro ⟨i,B1⟩ ⟨hi,hall⟩ hnext
  dsimp only at hi hall hnext ⊢
  by_cases h:i<p.rels.length
  ·have hlt:(i:Int)<(p.rels.length:Int):=by omega
   have hxi:p.rels[i]? = some p.rels[i]:=j_ h
   have hd:p.rels.drop i=p.rels[i] :: p.rels.drop (i+1):=List.drop_eq_getElem_cons h
   have hnxt:p.rels.take (i+1)=p.rels.take i++[p.rels[i]]:=by rw [List.take_add_one,j_ h];rfl
   have hxm:p.rels[i]∈p.rels:=List.getElem_mem _
   have hrw:nfRows p i=((p.rels.take i).map nfR).map Rl.enc++(p.rels[i]).enc :: (p.rels.drop (i+1)).map Rl.enc:=by unfold nfRows;rw [hd];rfl
   have hrn:nfRows p (i+1)=((p.rels.take i).map nfR).map Rl.enc++(nfR p.rels[i]).enc :: (p.rels.drop (i+1)).map Rl.enc:=by unfold nfRows;rw [hnxt];simp only [List.map_append,i_,d_,List.append_assoc,List.cons_append,List.nil_append]
   have hai:(((p.rels.take i).map nfR).map Rl.enc).length=i:=by simp;omega
   have hll:(((p.rels.take i).map nfR).map Rl.enc++(p.rels[i]).enc :: (p.rels.drop (i+1)).map Rl.enc).length=p.rels.length:=by rw [←hrw,nfRows_len]
   have hnx:=fun B' s'=>hnext (i+1,B') s'
   clear hnext
   simp only [hnxt,hrn,List.all_append,hall,a_,b_,Bool.and_true,Bool.true_and] at hnx
   have hbd:nfO p.rels[i]=false→nfB p=false:=fun h0=>by
    rw [hnf]
    have:p.rels.all nfO=false:=by
     rw [List.all_eq_false]
     exact ⟨_,hxm,by rw [h0];simp⟩
    rw [this];rfl
   rw [hrw]
   clear hrw hrn hnxt hd hr0
   generalize hx:p.rels[i]=x at *
   generalize hA:((p.rels.take i).map nfR).map Rl.enc=A at *
   generalize hZ:(p.rels.drop (i+1)).map Rl.enc=Z at *
   have hcl:=iClausesOf_fn x.body (hwr x hxm)
   have hcg:=clauseGoal_T (clsV x.body) (fun c hc y hy=>by
    have h1:=clsV_wt c hc
    have h2:=wtR_mem (List.mem_map.2 ⟨y,hy,rfl⟩:y.enc∈c.map Gl.enc)
    have h3:=hwr x hxm
    omega)
   rw [Gl.enc_eq] at hcl
   have s1:=fun (y:List D)=>set_split (x:=x.enc) (y:=y) (r:=Z) hai
   have s2:=fun (y y':List D)=>set_split (x:=y) (y:=y') (r:=Z) hai
   have g1:=fun (y:List D)=>at_split (x:=y) (r:=Z) hai
   have xe:=Rl.enc_eq x
   rw [xe] at hll ⊢
   have g2:=fun (y:List D) (Q:List D→Prop)=>idx_of (g1 y) Q
   refine AW.hole ?_
   refine run_sound Tryz.func17 mixed 10 _ _ (by kernel_rfl) ?_
   simp only [go_sem,seval,run.eq_1,hlt,hll,s2,g1,g2]
   refine AW.regT ?_
   simp only [go_sem,seval]
   repeat' (first
    | ((first
     | (refine all_intro (fun Bz=>?_))
     | (refine hcl.calls rfl ?_)
     | (refine ⟨sd,?_⟩))<;>(try simp only [go_sem,seval,hlt,hll,s2,g1,g2]))
    | fail)
   by_cases hcb:clsB x.body=true
   ·by_cases hco:cgOk (clsV x.body)=true
    ·have hox:nfO x=true:=by unfold nfO;rw [hcb,hco];rfl
     have hrx:(nfR x).enc=[.str x.name,.int .i64 x.arity,.int .i64 x.locals,.int .i64 (cgK (clsV x.body)),.str [],.sl [],.sl (((cgV (clsV x.body)).map mkC).map Gl.enc)]:=by rw [Rl.enc_eq];rfl
     rw [hrx] at hnx
     rw [hco] at hcg
     refine rS_ Tryz.func17 ?_
     simp only [go_sem,seval,hcb,hlt,hll,s2,g1,g2]
     repeat' (first
      | (simp (disch:=omega) only [wrap_ok])
      | ((first
       | (refine ACalls.fresh (ds:=[.sl ((clsV x.body).map encL)]) (m:=1) hcg [5] rfl rfl (by simp) (by simp) ?_<;>(rintro c H' ⟨rfl,e3,B3,rfl⟩ _;refine ⟨rfl,rfl,?_⟩))
       | (refine all_intro (fun Bz=>?_))
       | (refine ⟨sd,?_⟩))<;>(try simp only [go_sem,seval,hcb,hlt,hll,s2,g1,g2]))
      | fail)
     try simp (disch:=omega) only [wrap_ok]
     refine hnx Bz _ ⟨by omega,hox⟩ (by omega) (by refine ⟨by simp [mkS,s2],by simp [mkS,s2],by simp only [mkS,a_,b_,O.refsLt,C.refsLt,C.refsLt1,all_dmap];first | done | rfl | (simp;done),?_⟩;simp [mkS,Abs.get,C.refsLtT,C.refsLt,C.refsLt1,s2])
    ·simp only [e_] at hco
     have hbad:=hbd (by unfold nfO;rw [hco];simp)
     rw [hco] at hcg
     refine run_sound Tryz.func17 mixed 13 _ _ (by kernel_rfl) ?_
     simp only [go_sem,seval,run.eq_1,hcb]
     repeat' (first
      | ((refine ACalls.fresh (ds:=[.sl ((clsV x.body).map encL)]) (m:=1) hcg [5] rfl rfl (by simp) (by simp) ?_<;>(rintro c H' ⟨rfl,e3,B3,rfl⟩ _;refine ⟨rfl,rfl,?_⟩))<;>(try simp only [go_sem,seval,hcb,run.eq_1]))
      | fail)
     rw [hbad]
     simp only [g_,if_false,d_]
     refine AW.adoptTB 3 0 7 81 (by decide) rfl rfl ?_
     refine AW.placeB 3 0 7 0 rfl rfl rfl rfl (by decide) ?_
     refine rS_ Tryz.func17 ?_
     simp only [go_sem,seval]
     repeat' (first
      | (exact ⟨_,_,rfl⟩)
      | fail)
   ·simp only [e_] at hcb
    have hbad:=hbd (by unfold nfO;rw [hcb];rfl)
    refine run_sound Tryz.func17 mixed 6 _ _ (by kernel_rfl) ?_
    simp only [go_sem,seval,run.eq_1,hcb]
    rw [hbad]
    simp only [g_,if_false,d_]
    refine AW.adoptTB 3 0 7 81 (by decide) rfl rfl ?_
    refine AW.placeB 3 0 6 0 rfl rfl rfl rfl (by decide) ?_
    refine rS_ Tryz.func17 ?_
    simp only [go_sem,seval]
    repeat' (first
     | (exact ⟨_,_,rfl⟩)
     | fail)
  ·obtain rfl:i=p.rels.length:=by omega
   have hrw:nfRows p p.rels.length=(p.rels.map nfR).map Rl.enc:=by simp only [nfRows,List.take_length,List.drop_length,d_,f_]
   rw [hrw]
   rw [List.take_length] at hall
   rw [hall,Bool.true_and] at hnf
   have hll:((p.rels.map nfR).map Rl.enc).length=p.rels.length:=by simp
   have hbo:∀e0 B0 X,borAll (.hole :: .tree 1 7 e0 ((p.rels.map nfR).map Rl.enc) B0 none :: X) [.agg [.own 1 1]]=some [.agg (Pg.enc ⟨p.rels.map nfR⟩)]:=fun e0 B0 X=>by
    rw [Pg.enc_eq];rfl
   by_cases hk:pgOk ⟨p.rels.map nfR⟩=true
   ·rw [hk] at hk2 hnf
    rw [hnf]
    simp only [if_true]
    refine run_sound Tryz.func17 mixed 12 _ _ (by kernel_rfl) ?_
    simp only [go_sem,seval,run.eq_1,hll]
    repeat' (first
     | ((refine hk2.lend rfl (hbo _ _ _) ?_)<;>(try simp only [go_sem,seval,hll,run.eq_1]))
     | fail)
    refine AW.placeB 3 0 1 0 rfl rfl rfl rfl (by decide) ?_
    refine rS_ Tryz.func17 ?_
    simp only [go_sem,seval]
    repeat' (first
     | (exact ⟨_,_,rfl⟩)
     | fail)
   ·simp only [e_] at hk
    rw [hk] at hk2
    have hbad:nfB p=false:=by rw [hnf,hk]
    refine run_sound Tryz.func17 mixed 11 _ _ (by kernel_rfl) ?_
    simp only [go_sem,seval,run.eq_1,hll]
    repeat' (first
     | ((refine hk2.lend rfl (hbo _ _ _) ?_)<;>(try simp only [go_sem,seval,hll,run.eq_1]))
     | fail)
    rw [hbad]
    simp only [g_,if_false,d_]
    refine AW.adoptTB 3 0 7 81 (by decide) rfl rfl ?_
    refine AW.placeB 3 0 5 0 rfl rfl rfl rfl (by decide) ?_
    refine rS_ Tryz.func17 ?_
    simp only [go_sem,seval]
    repeat' (first
     | (exact ⟨_,_,rfl⟩)
     | fail)
 ·simp only [e_] at hp
  rw [hp] at hpk
  have hbad:nfB p=false:=by unfold nfB;rw [hp];rfl
  refine aE_ Tryz.func17 ?_
  refine AW.hole ?_
  refine run_sound Tryz.func17 mixed 8 _ _ (by kernel_rfl) ?_
  simp only [go_sem,seval,run.eq_1]
  repeat' (first
   | ((refine hpk.calls rfl ?_)<;>(try simp only [go_sem,seval,run.eq_1]))
   | fail)
  rw [hbad]
  simp only [g_,if_false,d_]
  refine AW.adoptTB 3 0 7 81 (by decide) rfl rfl ?_
  refine AW.placeB 3 0 4 0 rfl rfl rfl rfl (by decide) ?_
  refine rS_ Tryz.func17 ?_
  simp only [go_sem,seval]
  repeat' (first
   | (exact ⟨_,_,rfl⟩)
   | fail)
end Go.Proofs.YtlajhmoomlgopaaGreat
