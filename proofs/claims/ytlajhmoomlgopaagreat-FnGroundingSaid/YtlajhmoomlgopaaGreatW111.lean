import Derived.Test.YtlajhmoomlgopaaGreatW107
import Derived.Test.YtlajhmoomlgopaaGreatW8
import Derived.Test.YtlajhmoomlgopaaGreatW9
open List renaming getElem?_eq_some_iff→a_,map_take→b_,map_drop→c_,length_map→d_,append_nil→e_,getElem?_eq_none_iff→f_,length_filter_le→g_
namespace Go.Proofs.YtlajhmoomlgopaaGreat
open Go.Abs
set_option maxRecDepth 100000
set_option maxHeartbeats 8000000
set_option linter.unusedSimpArgs false
set_option linter.unusedVariables false
theorem consequences_fn (rs:List RV) (F:List FcV) (hF:ascC FcV.cmp F) (hl:F.length≤9000000) (hr:rs.length≤2000000):Gives Tryz.prog 41 [.sl (rs.map rvE),.sl (F.map fcE)] (.d (.sl ((nextF rs F F).map fcE))):=by
 have hmx:maxLen=9223372036854775807:=rfl
 have hhf:∀f:FcV,Gives Tryz.prog 46 [.sl (F.map fcE),.agg [.str f.1,.sl (f.2.map V.enc)]] (.d (.bool (decide (f∈F)))):=fun f=>by
  have h:=hasFact_fn F f hl hF
  rw [fcE_eq] at h;exact h
 obtain ⟨RES,hRES⟩:∃RES,nextF rs F F=RES:=⟨_,rfl⟩
 rw [hRES]
 refine aE_ Tryz.func41 ?_
 refine rS_ Tryz.func41 ?_
 simp only [go_sem,seval]
 refine AW.adopt 5 2 37 (by decide) rfl ?_
 refine AW.rng rs [1,14,15] 16 14 (fun L:List FcV=>[(5,.own 0 L.length)]) (fun _ L=>[.grow L.length 2 37 (L.map fcE)]) (fun r L=>∃d,rs=d++r∧L=(d.filter (RV.fires F F)).map RV.head) [] rfl (by simp) ⟨[],rfl,rfl⟩ wk1_ (fun i x r L hxi hdr hlt hm hinv hnext=>?_) (fun L hinv=>?_)
 ·obtain ⟨d,d1,d2⟩:=hinv
  have hLl:L.length≤2000000:=by
   rw [d2,d_]
   have h1:=g_ (RV.fires F F) d
   have h2:=congrArg List.length d1
   simp at h2;omega
  have hfi:x.fires F F=(x.pos.all (fun f=>decide (f∈F)) && x.neg.all (fun f=>!decide (f∈F))):=by
   unfold RV.fires;simp
  have hnext:=fun (L':List FcV) s' (h:L'=L++(if x.fires F F=true then [x.head] else []))=>hnext L' s' ⟨d++[x],by rw [d1];simp,by rw [h,d2,List.filter_append,List.map_append];congr 1;cases hq:x.fires F F<;>simp [hq]⟩
  clear d1 d2
  refine rS_ Tryz.func41 ?_
  simp only [go_sem,seval,hlt,idx_of hxi,rvE_eq]
  refine AW.rng x.pos [1,5,7,14,15,16,21,22] 23 21 (fun b:Bool=>[(8,.d (.bool b))]) (fun _ b=>[.grow L.length 2 37 (L.map fcE),.box [.d (.str x.head.1),.d (.sl (x.head.2.map V.enc)),.d (.int .i64 x.clause),.d (.sl (x.values.map V.enc)),.d (.sl (x.pos.map fcE)),.d (.sl (x.neg.map fcE))]]) (fun r b=>∃d,x.pos=d++r∧b=d.all (fun f=>decide (f∈F))) true rfl (by simp) ⟨[],rfl,rfl⟩ wk1_ (fun j f r1 b hfj hdj hltj hmj hinv hnj=>?_) (fun b hinv=>?_)
  ·obtain ⟨d,d1,d2⟩:=hinv
   have hh:=hhf f
   have hnj:=fun (b':Bool) s' (h:b'=(b && decide (f∈F)))=>hnj b' s' ⟨d++[f],by rw [d1];simp,by rw [h,d2,List.all_append];simp⟩
   clear d1 d2
   generalize decide (f∈F)=q at *
   cases b<;>· (
    refine rS_ Tryz.func41 ?_
    simp only [go_sem,seval,hltj,idx_of hfj,fcE_eq]
    repeat' (first
     | (simp (disch:=omega) only [wrap_ok])
     | ((refine hh.calls rfl ?_)<;>(try simp only [go_sem,seval,hltj,idx_of hfj,fcE_eq]))
     | fail)
    refine hnj _ _ rfl wk1_)
  obtain ⟨d,d1,d2⟩:=hinv
  rw [e_] at d1
  subst d1
  refine rS_ Tryz.func41 ?_
  simp only [go_sem,seval]
  refine AW.rng x.neg [1,5,7,14,15,16,35,36] 37 35 (fun b:Bool=>[(8,.d (.bool b))]) (fun _ b=>[.grow L.length 2 37 (L.map fcE),.box [.d (.str x.head.1),.d (.sl (x.head.2.map V.enc)),.d (.int .i64 x.clause),.d (.sl (x.values.map V.enc)),.d (.sl (x.pos.map fcE)),.d (.sl (x.neg.map fcE))]]) (fun r b=>∃d,x.neg=d++r∧b=(x.pos.all (fun f=>decide (f∈F)) && d.all (fun f=>!decide (f∈F)))) b rfl (by simp) ⟨[],rfl,by rw [d2];simp⟩ wk1_ (fun j f r1 b hfj hdj hltj hmj hinv hnj=>?_) (fun b hinv=>?_)
  ·obtain ⟨d,d1,d3⟩:=hinv
   have hh:=hhf f
   have hnj:=fun (b':Bool) s' (h:b'=(b && !decide (f∈F)))=>hnj b' s' ⟨d++[f],by rw [d1];simp,by rw [h,d3,List.all_append,Bool.and_assoc];simp⟩
   clear d1 d3 d2
   generalize decide (f∈F)=q at *
   cases b<;>· (
    refine rS_ Tryz.func41 ?_
    simp only [go_sem,seval,hltj,idx_of hfj,fcE_eq]
    repeat' (first
     | (simp (disch:=omega) only [wrap_ok])
     | ((refine hh.calls rfl ?_)<;>(try simp only [go_sem,seval,hltj,idx_of hfj,fcE_eq]))
     | fail)
    refine hnj _ _ rfl wk1_)
  obtain ⟨d,d1,d3⟩:=hinv
  rw [e_] at d1
  subst d1
  rw [←hfi] at d3
  clear hfi d2
  cases b with
  | false =>
   refine rS_ Tryz.func41 ?_
   simp only [go_sem,seval]
   repeat' (first
    | (simp (disch:=omega) only [wrap_ok])
    | fail)
   refine hnext L _ (by rw [←d3];simp) wk1_
  | true =>
   have hFe:=fcE_eq x.head
   refine rS_ Tryz.func41 ?_
   simp only [go_sem,seval]
   repeat' (first
    | (simp (disch:=omega) only [wrap_ok])
    | ((refine ⟨sd,?_⟩)<;>(try simp only [go_sem,seval]))
    | fail)
   refine hnext (L++[x.head]) _ (by rw [←d3];simp) (by refine ⟨by simp [mkS,hFe],by simp [mkS,hFe],by simp only [mkS,List.all_cons,List.all_nil,O.refsLt,C.refsLt,C.refsLt1,all_dmap];first | done | rfl | (simp;done),?_⟩;simp [mkS,Abs.get,C.refsLtT,C.refsLt,C.refsLt1,hFe])
 ·obtain ⟨d,d1,d2⟩:=hinv
  rw [e_] at d1
  subst d1
  have hLl:L.length≤2000000:=by
   rw [d2,d_]
   exact Nat.le_trans (g_ _ _) hr
  have hs:=sortFacts_fn L hLl
  rw [show sortC FcV.cmp L=RES from by rw [←hRES,d2];rfl] at hs
  refine AW.readG 5 0 rfl rfl ?_
  refine rS_ Tryz.func41 ?_
  simp only [go_sem,seval]
  repeat' (first
   | ((refine hs.calls rfl ?_)<;>(try simp only [go_sem,seval]))
   | fail)
def vcOpL0 (P:Program) (s:St) (o:Oper) (K:C→List O→Prop):Prop:=
 match o.op with
 | .buildSlice _ 0 _=>vcOpT P s o K
 | _=>vcOpL P s o K
def vcRL0 (P:Program) (n:Nat) (K:St→Prop):List Oper→St→Prop
 | [],⟨σ,H⟩=>K ⟨σ,H⟩
 | o :: rest,⟨σ,H⟩=>okDst n o=true∧o.guard=none∧vcOpL0 P ⟨σ,H⟩ o (kR (vcRL0 P n K rest) ⟨σ,H⟩ o.dst)
attribute [go_sem] vcOpL0.eq_def vcRL0.eq_1 vcRL0.eq_2
def stgD (rs:List RV) (m:Nat):List (List D):=(List.range m).map fun i=>[.sl ((stg rs i).map fcE)]
theorem stgD_1 (rs:List RV):stgD rs 1=[[.sl []]]:=rfl
theorem l18CmpV_fn (a b:FcV):Gives Tryz.prog 135 [.agg [.str a.1,.sl (a.2.map V.enc)],.agg [.str b.1,.sl (b.2.map V.enc)]] (.d (.int .i64 (a.cmp b))):=by
 have h:Gives Tryz.prog 135 [.agg (fcE a),.agg (fcE b)] (.d (.int .i64 (a.cmp b))):=l18Cmp_fn a.1 b.1 a.2 b.2
 rw [fcE_eq,fcE_eq] at h;exact h
theorem l18Insert_fn (l:List FcV) (f:FcV) (ha:ascC FcV.cmp l) (hl:l.length≤1000000):Gives Tryz.prog 95 [.sl (l.map fcE),.agg (fcE f)] (.d (.sl ((insC FcV.cmp l f).map fcE))):=by
 have hmx:maxLen=9223372036854775807:=rfl
 have hmap:∀x:List FcV,(x.map fcE).length=x.length:=fun x=>d_ _
 obtain ⟨RES,hRES⟩:∃RES,insC FcV.cmp l f=RES:=⟨_,rfl⟩
 have hFe:=fcE_eq f
 rw [hRES,hFe]
 refine aE_ Tryz.func95 ?_
 refine rS_ Tryz.func95 ?_
 simp only [go_sem,seval,hmap]
 refine AW.lp [0,3] (fun k:Nat=>[(5,.d (.int .i64 (k:Int)))]) (fun H _=>H) (fun k=>k≤l.length∧∀i y,k≤i→l[i]? = some y→¬y.cmp f<0) (fun k=>k) l.length ⟨Nat.le_refl _,fun i y hi hy=>by have:=(a_.1 hy).1;omega⟩ wk1_ ?_
 intro k hk hnk
 obtain ⟨k1,k2⟩:=hk
 have stop:(∀i y,i<k→l[i]? = some y→y.cmp f<0)→insC FcV.cmp l f=if eqAt FcV.cmp l k f then l else l.take k++f :: l.drop k:=fun h=>insC_at FcV.cmp_lin l f k ha k1 h k2
 by_cases hkz:k=0
 ·have n1:¬(0:Int)<(k:Int):=by omega
  have hst:=stop (fun i y hi=>by omega)
  clear stop hnk
  rw [hRES] at hst
  have hks:(0:Int)≤(k:Int):=by omega
  cases hlk:l[k]? with
  | none =>
   have hkl:k=l.length:=by have:=f_.1 hlk;omega
   have m1:¬(k:Int)<(l.length:Int):=by omega
   have hq:eqAt FcV.cmp l k f=false:=by unfold eqAt;rw [hlk]
   rw [hq,if_neg (by simp)] at hst
   rw [hst]
   refine rS_ Tryz.func95 ?_
   simp only [go_sem,seval,n1,hmap,m1,hks]
   skip
   repeat' (first
    | ((refine ⟨sd,?_⟩)<;>(try simp only [go_sem,seval,n1,hmap,m1,hks]))
    | fail)
   all_goals simp [hFe,b_,c_]
  | some z =>
   have m1:(k:Int)<(l.length:Int):=by have:=(a_.1 hlk).1;omega
   have hz:=l18CmpV_fn z f
   by_cases hzf:z.cmp f=0
   ·have hq:eqAt FcV.cmp l k f=true:=by unfold eqAt;rw [hlk];simp [hzf]
    rw [hq,if_pos rfl] at hst
    rw [hzf] at hz
    rw [hst]
    refine rS_ Tryz.func95 ?_
    simp only [go_sem,seval,n1,hmap,m1,hks,idx_of hlk,fcE_eq]
    skip
    repeat' (first
     | ((refine hz.callQ rfl ?_)<;>(try simp only [go_sem,seval,n1,hmap,m1,hks,idx_of hlk,fcE_eq]))
     | fail)
   ·have hq:eqAt FcV.cmp l k f=false:=by unfold eqAt;rw [hlk];simp [hzf]
    rw [hq,if_neg (by simp)] at hst
    rw [hst]
    refine rS_ Tryz.func95 ?_
    simp only [go_sem,seval,n1,hmap,m1,hks,idx_of hlk,fcE_eq,hzf]
    skip
    repeat' (first
     | ((first
      | (refine hz.callQ rfl ?_)
      | (refine ⟨sd,?_⟩))<;>(try simp only [go_sem,seval,n1,hmap,m1,hks,idx_of hlk,fcE_eq,hzf]))
     | fail)
    all_goals first | (exact absurd (by assumption) hzf) | skip
    all_goals simp [hFe,b_,c_]
 ·obtain ⟨y,hy⟩:∃y,l[k - 1]? = some y:=⟨_,List.getElem?_eq_getElem (by omega)⟩
  have n1:(0:Int)<(k:Int):=by omega
  have w1:IntKind.i64.wrap ((k:Int) - 1)=((k - 1:Nat):Int):=by rw [wrap_ok (by omega) (by omega)];omega
  have n2:((k - 1:Nat):Int)<(l.length:Int):=by omega
  have he:=l18CmpV_fn y f
  by_cases hc:y.cmp f<0
  ·have hc':¬(0:Int)≤y.cmp f:=by omega
   have hst:=stop (fun i z hi hz=>by
    by_cases e:i=k - 1
    ·subst e;rw [hz] at hy;cases hy;exact hc
    ·exact FcV.cmp_lin.tr _ _ _ (ascC_at ha (show i<k - 1 by omega) hz hy) hc)
   clear stop hnk
   rw [hRES] at hst
   have hks:(0:Int)≤(k:Int):=by omega
   cases hlk:l[k]? with
   | none =>
    have hkl:k=l.length:=by have:=f_.1 hlk;omega
    have m1:¬(k:Int)<(l.length:Int):=by omega
    have hq:eqAt FcV.cmp l k f=false:=by unfold eqAt;rw [hlk]
    rw [hq,if_neg (by simp)] at hst
    rw [hst]
    refine rS_ Tryz.func95 ?_
    simp only [go_sem,seval,n1,w1,n2,idx_of hy,hmap,fcE_eq,hc,hc',m1,hks]
    repeat' (first
     | ((first
      | (refine he.callQ rfl ?_)
      | (refine ⟨sd,?_⟩))<;>(try simp only [go_sem,seval,n1,w1,n2,idx_of hy,hmap,fcE_eq,hc,hc',m1,hks]))
     | fail)
    all_goals simp [hFe,b_,c_]
   | some z =>
    have m1:(k:Int)<(l.length:Int):=by have:=(a_.1 hlk).1;omega
    have hz:=l18CmpV_fn z f
    by_cases hzf:z.cmp f=0
    ·have hq:eqAt FcV.cmp l k f=true:=by unfold eqAt;rw [hlk];simp [hzf]
     rw [hq,if_pos rfl] at hst
     rw [hzf] at hz
     rw [hst]
     refine rS_ Tryz.func95 ?_
     simp only [go_sem,seval,n1,w1,n2,idx_of hy,hmap,fcE_eq,hc,hc',m1,hks,idx_of hlk,fcE_eq]
     repeat' (first
      | ((first
       | (refine he.callQ rfl ?_)
       | (refine hz.callQ rfl ?_))<;>(try simp only [go_sem,seval,n1,w1,n2,idx_of hy,hmap,fcE_eq,hc,hc',m1,hks,idx_of hlk,fcE_eq]))
      | fail)
    ·have hq:eqAt FcV.cmp l k f=false:=by unfold eqAt;rw [hlk];simp [hzf]
     rw [hq,if_neg (by simp)] at hst
     rw [hst]
     refine rS_ Tryz.func95 ?_
     simp only [go_sem,seval,n1,w1,n2,idx_of hy,hmap,fcE_eq,hc,hc',m1,hks,idx_of hlk,fcE_eq,hzf]
     repeat' (first
      | ((first
       | (refine he.callQ rfl ?_)
       | (refine hz.callQ rfl ?_)
       | (refine ⟨sd,?_⟩))<;>(try simp only [go_sem,seval,n1,w1,n2,idx_of hy,hmap,fcE_eq,hc,hc',m1,hks,idx_of hlk,fcE_eq,hzf]))
      | fail)
     all_goals first | (exact absurd (by assumption) hzf) | skip
     all_goals simp [hFe,b_,c_]
  ·have hc':(0:Int)≤y.cmp f:=by omega
   refine rS_ Tryz.func95 ?_
   simp only [go_sem,seval,n1,w1,n2,idx_of hy,hmap,fcE_eq,hc,hc']
   repeat' (first
    | ((refine he.callQ rfl ?_)<;>(try simp only [go_sem,seval,n1,w1,n2,idx_of hy,hmap,fcE_eq,hc,hc']))
    | fail)
   refine hnk (k - 1) _ ⟨by omega,fun i z hi hz=>?_⟩ (by omega) wk1_
   by_cases e:i=k - 1
   ·subst e;rw [hz] at hy;cases hy;exact hc
   ·exact k2 i z (by omega) hz
theorem nextF_ext (rs:List RV) {F G:List FcV} (h:∀f,f∈F↔f∈G):nextF rs F F=nextF rs G G:=by
 unfold nextF
 congr 2
 refine List.filter_congr fun r _=>?_
 unfold RV.fires
 simp only [h]
end Go.Proofs.YtlajhmoomlgopaaGreat
