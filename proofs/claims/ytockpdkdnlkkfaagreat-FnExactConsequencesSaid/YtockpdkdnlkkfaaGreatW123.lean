import Derived.Test.YtockpdkdnlkkfaaGreatW108
import Derived.Test.YtockpdkdnlkkfaaGreatW8
import Derived.Test.YtockpdkdnlkkfaaGreatW9
import Derived.Test.YtockpdkdnlkkfaaGreatW10
import Derived.Test.YtockpdkdnlkkfaaGreatP3
import Derived.Test.YtockpdkdnlkkfaaGreatFam
namespace Go.Proofs.YtockpdkdnlkkfaaGreat
open Go.Abs
set_option maxRecDepth 100000
set_option maxHeartbeats 8000000
set_option linter.unusedSimpArgs false
set_option linter.unusedVariables false
theorem consequences_fn (rs:List RV) (F:List FcV) (hF:ascC FcV.cmp F) (hl:F.length≤9000000) (hr:rs.length≤2000000):Gives Tryz.prog 59 [.sl (rs.map rvE),.sl (F.map fcE)] (.d (.sl ((nextF rs F F).map fcE))):=by
 have hmx:maxLen=9223372036854775807:=rfl
 have hhf:∀f:FcV,Gives Tryz.prog 40 [.sl (F.map fcE),.agg [.str f.1,.sl (f.2.map V.enc)]] (.d (.bool (decide (f∈F)))):=fun f=>by
  have h:=hasFact_fn F f hl hF
  rw [fcE_eq] at h;exact h
 obtain ⟨RES,hRES⟩:∃RES,nextF rs F F=RES:=⟨_,rfl⟩
 rw [hRES]
 refine ACalls.enter (fn:=Tryz.f59) Tryz.func59 rfl (by show 2≤_;decide) ?_
 refine run_sound Tryz.func59 mixed 200 _ _ (by kernel_rfl) ?_
 simp only [go_sem,seval]
 refine AW.adopt 5 2 48 (by decide) rfl ?_
 refine AW.rng rs [1,14,15] 16 14 (fun L:List FcV=>[(5,.own 0 L.length)]) (fun _ L=>[.grow L.length 2 48 (L.map fcE)]) (fun r L=>∃d,rs=d++r∧L=(d.filter (RV.fires F F)).map RV.head) [] rfl (by simp) ⟨[],rfl,rfl⟩ (by refine ⟨by simp [mkS],by simp [mkS],by simp only [mkS,List.all_cons,List.all_nil,O.refsLt,C.refsLt,C.refsLt1,all_dmap];first | done | rfl | (simp;done),?_⟩;simp [mkS,Abs.get,C.refsLtT,C.refsLt,C.refsLt1]) (fun i x r L hxi hdr hlt hm hinv hnext=>?_) (fun L hinv=>?_)
 ·obtain ⟨d,d1,d2⟩:=hinv
  have hLl:L.length≤2000000:=by
   rw [d2,List.length_map]
   have h1:=List.length_filter_le (RV.fires F F) d
   have h2:=congrArg List.length d1
   simp at h2;omega
  have hfi:x.fires F F=(x.pos.all (fun f=>decide (f∈F)) && x.neg.all (fun f=>!decide (f∈F))):=by
   unfold RV.fires;simp
  have hnext:=fun (L':List FcV) s' (h:L'=L++(if x.fires F F=true then [x.head] else []))=>hnext L' s' ⟨d++[x],by rw [d1];simp,by rw [h,d2,List.filter_append,List.map_append];congr 1;cases hq:x.fires F F<;>simp [hq]⟩
  clear d1 d2
  refine run_sound Tryz.func59 mixed 200 _ _ (by kernel_rfl) ?_
  simp only [go_sem,seval,hlt,idx_of hxi,rvE_eq]
  refine AW.rng x.pos [1,5,7,14,15,16,21,22] 23 21 (fun b:Bool=>[(8,.d (.bool b))]) (fun _ b=>[.grow L.length 2 48 (L.map fcE),.box [.d (.str x.head.1),.d (.sl (x.head.2.map V.enc)),.d (.int .i64 x.clause),.d (.sl (x.values.map V.enc)),.d (.sl (x.pos.map fcE)),.d (.sl (x.neg.map fcE))]]) (fun r b=>∃d,x.pos=d++r∧b=d.all (fun f=>decide (f∈F))) true rfl (by simp) ⟨[],rfl,rfl⟩ (by refine ⟨by simp [mkS],by simp [mkS],by simp only [mkS,List.all_cons,List.all_nil,O.refsLt,C.refsLt,C.refsLt1,all_dmap];first | done | rfl | (simp;done),?_⟩;simp [mkS,Abs.get,C.refsLtT,C.refsLt,C.refsLt1]) (fun j f r1 b hfj hdj hltj hmj hinv hnj=>?_) (fun b hinv=>?_)
  ·obtain ⟨d,d1,d2⟩:=hinv
   have hh:=hhf f
   have hnj:=fun (b':Bool) s' (h:b'=(b && decide (f∈F)))=>hnj b' s' ⟨d++[f],by rw [d1];simp,by rw [h,d2,List.all_append];simp⟩
   clear d1 d2
   generalize decide (f∈F)=q at *
   cases b<;>· (
    refine run_sound Tryz.func59 mixed 200 _ _ (by kernel_rfl) ?_
    simp only [go_sem,seval,hltj,idx_of hfj,fcE_eq]
    repeat' (first
     | (simp (disch:=omega) only [wrap_ok])
     | ((refine hh.calls rfl ?_)<;>(try simp only [go_sem,seval,hltj,idx_of hfj,fcE_eq]))
     | fail)
    refine hnj _ _ rfl (by refine ⟨by simp [mkS],by simp [mkS],by simp only [mkS,List.all_cons,List.all_nil,O.refsLt,C.refsLt,C.refsLt1,all_dmap];first | done | rfl | (simp;done),?_⟩;simp [mkS,Abs.get,C.refsLtT,C.refsLt,C.refsLt1]))
  obtain ⟨d,d1,d2⟩:=hinv
  rw [List.append_nil] at d1
  subst d1
  refine run_sound Tryz.func59 mixed 200 _ _ (by kernel_rfl) ?_
  simp only [go_sem,seval]
  refine AW.rng x.neg [1,5,7,14,15,16,35,36] 37 35 (fun b:Bool=>[(8,.d (.bool b))]) (fun _ b=>[.grow L.length 2 48 (L.map fcE),.box [.d (.str x.head.1),.d (.sl (x.head.2.map V.enc)),.d (.int .i64 x.clause),.d (.sl (x.values.map V.enc)),.d (.sl (x.pos.map fcE)),.d (.sl (x.neg.map fcE))]]) (fun r b=>∃d,x.neg=d++r∧b=(x.pos.all (fun f=>decide (f∈F)) && d.all (fun f=>!decide (f∈F)))) b rfl (by simp) ⟨[],rfl,by rw [d2];simp⟩ (by refine ⟨by simp [mkS],by simp [mkS],by simp only [mkS,List.all_cons,List.all_nil,O.refsLt,C.refsLt,C.refsLt1,all_dmap];first | done | rfl | (simp;done),?_⟩;simp [mkS,Abs.get,C.refsLtT,C.refsLt,C.refsLt1]) (fun j f r1 b hfj hdj hltj hmj hinv hnj=>?_) (fun b hinv=>?_)
  ·obtain ⟨d,d1,d3⟩:=hinv
   have hh:=hhf f
   have hnj:=fun (b':Bool) s' (h:b'=(b && !decide (f∈F)))=>hnj b' s' ⟨d++[f],by rw [d1];simp,by rw [h,d3,List.all_append,Bool.and_assoc];simp⟩
   clear d1 d3 d2
   generalize decide (f∈F)=q at *
   cases b<;>· (
    refine run_sound Tryz.func59 mixed 200 _ _ (by kernel_rfl) ?_
    simp only [go_sem,seval,hltj,idx_of hfj,fcE_eq]
    repeat' (first
     | (simp (disch:=omega) only [wrap_ok])
     | ((refine hh.calls rfl ?_)<;>(try simp only [go_sem,seval,hltj,idx_of hfj,fcE_eq]))
     | fail)
    refine hnj _ _ rfl (by refine ⟨by simp [mkS],by simp [mkS],by simp only [mkS,List.all_cons,List.all_nil,O.refsLt,C.refsLt,C.refsLt1,all_dmap];first | done | rfl | (simp;done),?_⟩;simp [mkS,Abs.get,C.refsLtT,C.refsLt,C.refsLt1]))
  obtain ⟨d,d1,d3⟩:=hinv
  rw [List.append_nil] at d1
  subst d1
  rw [←hfi] at d3
  clear hfi d2
  cases b with
  | false =>
   refine run_sound Tryz.func59 mixed 200 _ _ (by kernel_rfl) ?_
   simp only [go_sem,seval]
   repeat' (first
    | (simp (disch:=omega) only [wrap_ok])
    | fail)
   refine hnext L _ (by rw [←d3];simp) (by refine ⟨by simp [mkS],by simp [mkS],by simp only [mkS,List.all_cons,List.all_nil,O.refsLt,C.refsLt,C.refsLt1,all_dmap];first | done | rfl | (simp;done),?_⟩;simp [mkS,Abs.get,C.refsLtT,C.refsLt,C.refsLt1])
  | true =>
   have hFe:=fcE_eq x.head
   refine run_sound Tryz.func59 mixed 200 _ _ (by kernel_rfl) ?_
   simp only [go_sem,seval]
   repeat' (first
    | (simp (disch:=omega) only [wrap_ok])
    | ((refine ⟨sd,?_⟩)<;>(try simp only [go_sem,seval]))
    | fail)
   refine hnext (L++[x.head]) _ (by rw [←d3];simp) (by refine ⟨by simp [mkS,hFe],by simp [mkS,hFe],by simp only [mkS,List.all_cons,List.all_nil,O.refsLt,C.refsLt,C.refsLt1,all_dmap];first | done | rfl | (simp;done),?_⟩;simp [mkS,Abs.get,C.refsLtT,C.refsLt,C.refsLt1,hFe])
 ·obtain ⟨d,d1,d2⟩:=hinv
  rw [List.append_nil] at d1
  subst d1
  have hLl:L.length≤2000000:=by
   rw [d2,List.length_map]
   exact Nat.le_trans (List.length_filter_le _ _) hr
  have hs:=sortFacts_fn L hLl
  rw [show sortC FcV.cmp L=RES from by rw [←hRES,d2];rfl] at hs
  refine AW.readG 5 0 rfl rfl ?_
  refine run_sound Tryz.func59 mixed 200 _ _ (by kernel_rfl) ?_
  simp only [go_sem,seval]
  repeat' (first
   | ((refine hs.calls rfl ?_)<;>(try simp only [go_sem,seval]))
   | fail)
def vcOpL0 (P:Program) (s:St) (o:Oper) (K:C→List O→Prop):Prop:=
 match o.op with
 | .buildSlice _ 0 _=>vcOpT P s o K
 | _=>vcOpL P s o K
def vcRL0 (P:Program) (n:Nat) (K:St→Prop):List Oper→St→Prop
 | [],⟨σ,H⟩=>K ⟨σ,H⟩
 | o :: rest,⟨σ,H⟩=>okDst n o=true∧o.guard=none∧vcOpL0 P ⟨σ,H⟩ o (kR (vcRL0 P n K rest) ⟨σ,H⟩ o.dst)
attribute [go_sem] vcOpL0.eq_def vcRL0.eq_1 vcRL0.eq_2
def stgD (rs:List RV) (m:Nat):List (List D):=(List.range m).map fun i=>[.sl ((stg rs i).map fcE)]
theorem stgD_1 (rs:List RV):stgD rs 1=[[.sl []]]:=rfl
theorem l18CmpV_fn (a b:FcV):Gives Tryz.prog 65 [.agg [.str a.1,.sl (a.2.map V.enc)],.agg [.str b.1,.sl (b.2.map V.enc)]] (.d (.int .i64 (a.cmp b))):=by
 have h:Gives Tryz.prog 65 [.agg (fcE a),.agg (fcE b)] (.d (.int .i64 (a.cmp b))):=l18Cmp_fn a.1 b.1 a.2 b.2
 rw [fcE_eq,fcE_eq] at h;exact h
theorem l18Has_fn (l:List FcV) (f:FcV) (hl:l.length≤9000000):Gives Tryz.prog 36 [.sl (l.map fcE),.agg (fcE f)] (.d (.bool (decide (f∈l)))):=by
 obtain ⟨K,hK⟩:∃K,decide (f∈l)=K:=⟨_,rfl⟩
 rw [hK,fcE_eq]
 refine ACalls.enter (fn:=Tryz.f36) Tryz.func36 rfl (by show 2≤_;decide) ?_
 refine run_sound Tryz.func36 mixed 200 _ _ (by kernel_rfl) ?_
 simp only [go_sem,seval]
 refine AW.rng l [3,7,8] 9 7 (fun _:Unit=>[]) (fun H _=>H) (fun r _=>decide (f∈r)=K) () rfl (by simp) hK (by refine ⟨by simp [mkS],by simp [mkS],by simp only [mkS,List.all_cons,List.all_nil,O.refsLt,C.refsLt,C.refsLt1,all_dmap];first | done | rfl | (simp;done),?_⟩;simp [mkS,Abs.get,C.refsLtT,C.refsLt,C.refsLt1]) (fun j y q b hyj hdr2 hlt2 hm2 hinv2 hnext2=>?_) (fun b hinv2=>?_)
 ·have he:=l18CmpV_fn y f
  by_cases hc:y.cmp f=0
  ·have hyf:=(FcV.cmp_lin.zero _ _).1 hc
   rw [hc] at he
   subst hyf
   simp only [List.mem_cons,true_or,decide_true] at hinv2
   rw [←hinv2]
   refine run_sound Tryz.func36 mixed 200 _ _ (by kernel_rfl) ?_
   simp only [go_sem,seval,hlt2,idx_of hyj,fcE_eq]
   repeat' (first
    | ((refine he.calls rfl ?_)<;>(try simp only [go_sem,seval,hlt2,idx_of hyj,fcE_eq]))
    | fail)
  ·have hyf:¬f=y:=fun e=>hc ((FcV.cmp_lin.zero _ _).2 e.symm)
   simp only [List.mem_cons,hyf,false_or] at hinv2
   refine run_sound Tryz.func36 mixed 200 _ _ (by kernel_rfl) ?_
   simp only [go_sem,seval,hlt2,idx_of hyj,fcE_eq,hc]
   repeat' (first
    | (simp (disch:=omega) only [wrap_ok])
    | (refine hnext2 () _ hinv2 (by refine ⟨by simp [mkS],by simp [mkS],by simp only [mkS,List.all_cons,List.all_nil,O.refsLt,C.refsLt,C.refsLt1,all_dmap];first | done | rfl | (simp;done),?_⟩;simp [mkS,Abs.get,C.refsLtT,C.refsLt,C.refsLt1]))
    | ((refine he.calls rfl ?_)<;>(try simp only [go_sem,seval,hlt2,idx_of hyj,fcE_eq,hc]))
    | fail)
   all_goals exact absurd (by assumption) hc
 ·simp only [List.not_mem_nil,decide_false] at hinv2
  rw [←hinv2]
  refine run_sound Tryz.func36 mixed 200 _ _ (by kernel_rfl) ?_
  simp only [go_sem,seval]
theorem l18Insert_fn (l:List FcV) (f:FcV) (ha:ascC FcV.cmp l) (hl:l.length≤1000000):Gives Tryz.prog 89 [.sl (l.map fcE),.agg (fcE f)] (.d (.sl ((insC FcV.cmp l f).map fcE))):=by
 have hmx:maxLen=9223372036854775807:=rfl
 have hmap:∀x:List FcV,(x.map fcE).length=x.length:=fun x=>List.length_map _
 obtain ⟨RES,hRES⟩:∃RES,insC FcV.cmp l f=RES:=⟨_,rfl⟩
 have hFe:=fcE_eq f
 rw [hRES,hFe]
 refine ACalls.enter (fn:=Tryz.f89) Tryz.func89 rfl (by show 2≤_;decide) ?_
 refine run_sound Tryz.func89 mixed 200 _ _ (by kernel_rfl) ?_
 simp only [go_sem,seval,hmap]
 refine AW.lp [0,3] (fun k:Nat=>[(5,.d (.int .i64 (k:Int)))]) (fun H _=>H) (fun k=>k≤l.length∧∀i y,k≤i→l[i]? = some y→¬y.cmp f<0) (fun k=>k) l.length ⟨Nat.le_refl _,fun i y hi hy=>by have:=(List.getElem?_eq_some_iff.1 hy).1;omega⟩ (by refine ⟨by simp [mkS],by simp [mkS],by simp only [mkS,List.all_cons,List.all_nil,O.refsLt,C.refsLt,C.refsLt1,all_dmap];first | done | rfl | (simp;done),?_⟩;simp [mkS,Abs.get,C.refsLtT,C.refsLt,C.refsLt1]) ?_
 intro k hk hnk
 obtain ⟨k1,k2⟩:=hk
 have stop:(∀i y,i<k→l[i]? = some y→y.cmp f<0)→insC FcV.cmp l f=if eqAt FcV.cmp l k f then l else l.take k++f :: l.drop k:=fun h=>insC_at FcV.cmp_lin l f k ha k1 h k2
 by_cases hkz:k=0
 ·have n1:¬(0:Int)<(k:Int):=by omega
  have hst:=stop (fun i y hi=>by omega)
  clear stop hnk
  rw [hRES] at hst
  have hks:(0:Int)≤(k:Int):=by omega
  cases hlk:l[k]? with
  | none =>
   have hkl:k=l.length:=by have:=List.getElem?_eq_none_iff.1 hlk;omega
   have m1:¬(k:Int)<(l.length:Int):=by omega
   have hq:eqAt FcV.cmp l k f=false:=by unfold eqAt;rw [hlk]
   rw [hq,if_neg (by simp)] at hst
   rw [hst]
   refine run_sound Tryz.func89 mixed 200 _ _ (by kernel_rfl) ?_
   simp only [go_sem,seval,n1,hmap,m1,hks]
   skip
   repeat' (first
    | ((refine ⟨sd,?_⟩)<;>(try simp only [go_sem,seval,n1,hmap,m1,hks]))
    | fail)
   all_goals simp [hFe,List.map_take,List.map_drop]
  | some z =>
   have m1:(k:Int)<(l.length:Int):=by have:=(List.getElem?_eq_some_iff.1 hlk).1;omega
   have hz:=l18CmpV_fn z f
   by_cases hzf:z.cmp f=0
   ·have hq:eqAt FcV.cmp l k f=true:=by unfold eqAt;rw [hlk];simp [hzf]
    rw [hq,if_pos rfl] at hst
    rw [hzf] at hz
    rw [hst]
    refine run_sound Tryz.func89 mixed 200 _ _ (by kernel_rfl) ?_
    simp only [go_sem,seval,n1,hmap,m1,hks,idx_of hlk,fcE_eq]
    skip
    repeat' (first
     | ((refine hz.callQ rfl ?_)<;>(try simp only [go_sem,seval,n1,hmap,m1,hks,idx_of hlk,fcE_eq]))
     | fail)
   ·have hq:eqAt FcV.cmp l k f=false:=by unfold eqAt;rw [hlk];simp [hzf]
    rw [hq,if_neg (by simp)] at hst
    rw [hst]
    refine run_sound Tryz.func89 mixed 200 _ _ (by kernel_rfl) ?_
    simp only [go_sem,seval,n1,hmap,m1,hks,idx_of hlk,fcE_eq,hzf]
    skip
    repeat' (first
     | ((first
      | (refine hz.callQ rfl ?_)
      | (refine ⟨sd,?_⟩))<;>(try simp only [go_sem,seval,n1,hmap,m1,hks,idx_of hlk,fcE_eq,hzf]))
     | fail)
    all_goals first | (exact absurd (by assumption) hzf) | skip
    all_goals simp [hFe,List.map_take,List.map_drop]
 ·obtain ⟨y,hy⟩:∃y,l[k - 1]? = some y:=⟨_,List.getElem?_eq_getElem (by omega)⟩
  have n1:(0:Int)<(k:Int):=by omega
  have w1:IntKind.i64.wrap ((k:Int) - 1)=((k - 1:Nat):Int):=by rw [wrap_ok (by omega) (by omega)];omega
  have n2:((k - 1:Nat):Int)<(l.length:Int):=by omega
  have he:=l18CmpV_fn y f
  by_cases hc:y.cmp f<0
  ·have hc':¬(0:Int)≤y.cmp f:=by omega
   have hst:=stop (fun i z hi hz=>by
    by_cases e:i=k - 1
    ·subst e;rw [hz] at hy;cases hy;exact hc
    ·exact FcV.cmp_lin.tr _ _ _ (ascC_at ha (show i<k - 1 by omega) hz hy) hc)
   clear stop hnk
   rw [hRES] at hst
   have hks:(0:Int)≤(k:Int):=by omega
   cases hlk:l[k]? with
   | none =>
    have hkl:k=l.length:=by have:=List.getElem?_eq_none_iff.1 hlk;omega
    have m1:¬(k:Int)<(l.length:Int):=by omega
    have hq:eqAt FcV.cmp l k f=false:=by unfold eqAt;rw [hlk]
    rw [hq,if_neg (by simp)] at hst
    rw [hst]
    refine run_sound Tryz.func89 mixed 200 _ _ (by kernel_rfl) ?_
    simp only [go_sem,seval,n1,w1,n2,idx_of hy,hmap,fcE_eq,hc,hc',m1,hks]
    repeat' (first
     | ((first
      | (refine he.callQ rfl ?_)
      | (refine ⟨sd,?_⟩))<;>(try simp only [go_sem,seval,n1,w1,n2,idx_of hy,hmap,fcE_eq,hc,hc',m1,hks]))
     | fail)
    all_goals simp [hFe,List.map_take,List.map_drop]
   | some z =>
    have m1:(k:Int)<(l.length:Int):=by have:=(List.getElem?_eq_some_iff.1 hlk).1;omega
    have hz:=l18CmpV_fn z f
    by_cases hzf:z.cmp f=0
    ·have hq:eqAt FcV.cmp l k f=true:=by unfold eqAt;rw [hlk];simp [hzf]
     rw [hq,if_pos rfl] at hst
     rw [hzf] at hz
     rw [hst]
     refine run_sound Tryz.func89 mixed 200 _ _ (by kernel_rfl) ?_
     simp only [go_sem,seval,n1,w1,n2,idx_of hy,hmap,fcE_eq,hc,hc',m1,hks,idx_of hlk,fcE_eq]
     repeat' (first
      | ((first
       | (refine he.callQ rfl ?_)
       | (refine hz.callQ rfl ?_))<;>(try simp only [go_sem,seval,n1,w1,n2,idx_of hy,hmap,fcE_eq,hc,hc',m1,hks,idx_of hlk,fcE_eq]))
      | fail)
    ·have hq:eqAt FcV.cmp l k f=false:=by unfold eqAt;rw [hlk];simp [hzf]
     rw [hq,if_neg (by simp)] at hst
     rw [hst]
     refine run_sound Tryz.func89 mixed 200 _ _ (by kernel_rfl) ?_
     simp only [go_sem,seval,n1,w1,n2,idx_of hy,hmap,fcE_eq,hc,hc',m1,hks,idx_of hlk,fcE_eq,hzf]
     repeat' (first
      | ((first
       | (refine he.callQ rfl ?_)
       | (refine hz.callQ rfl ?_)
       | (refine ⟨sd,?_⟩))<;>(try simp only [go_sem,seval,n1,w1,n2,idx_of hy,hmap,fcE_eq,hc,hc',m1,hks,idx_of hlk,fcE_eq,hzf]))
      | fail)
     all_goals first | (exact absurd (by assumption) hzf) | skip
     all_goals simp [hFe,List.map_take,List.map_drop]
  ·have hc':(0:Int)≤y.cmp f:=by omega
   refine run_sound Tryz.func89 mixed 200 _ _ (by kernel_rfl) ?_
   simp only [go_sem,seval,n1,w1,n2,idx_of hy,hmap,fcE_eq,hc,hc']
   repeat' (first
    | ((refine he.callQ rfl ?_)<;>(try simp only [go_sem,seval,n1,w1,n2,idx_of hy,hmap,fcE_eq,hc,hc']))
    | fail)
   refine hnk (k - 1) _ ⟨by omega,fun i z hi hz=>?_⟩ (by omega) (by refine ⟨by simp [mkS],by simp [mkS],by simp only [mkS,List.all_cons,List.all_nil,O.refsLt,C.refsLt,C.refsLt1,all_dmap];first | done | rfl | (simp;done),?_⟩;simp [mkS,Abs.get,C.refsLtT,C.refsLt,C.refsLt1])
   by_cases e:i=k - 1
   ·subst e;rw [hz] at hy;cases hy;exact hc
   ·exact k2 i z (by omega) hz
theorem l19Fires_fn (r:RV) (F G:List FcV) (hF:F.length≤9000000) (hG:G.length≤9000000):Gives Tryz.prog 88 [.agg (rvE r),.sl (F.map fcE),.sl (G.map fcE)] (.d (.bool (r.fires F G))):=by
 obtain ⟨K,hK⟩:∃K,r.fires F G=K:=⟨_,rfl⟩
 rw [hK,rvE_eq]
 unfold RV.fires at hK
 refine ACalls.enter (fn:=Tryz.f88) Tryz.func88 rfl (by show 3≤_;decide) ?_
 refine run_sound Tryz.func88 mixed 200 _ _ (by kernel_rfl) ?_
 simp only [go_sem,seval]
 refine AW.rng r.pos [1,2,3,12,13] 14 12 (fun _:Unit=>[]) (fun H _=>H) (fun q _=>((q.all fun f=>decide (f∈F)) && r.neg.all fun f=>!decide (f∈G))=K) () rfl (by simp) hK (by refine ⟨by simp [mkS],by simp [mkS],by simp only [mkS,List.all_cons,List.all_nil,O.refsLt,C.refsLt,C.refsLt1,all_dmap];first | done | rfl | (simp;done),?_⟩;simp [mkS,Abs.get,C.refsLtT,C.refsLt,C.refsLt1]) (fun j y q b hyj hdr2 hlt2 hm2 hinv2 hnext2=>?_) (fun b hinv2=>?_)
 ·have he:=l18Has_fn F y hF
  rw [fcE_eq] at he
  rw [List.all_cons] at hinv2
  generalize decide (y∈F)=b2 at he hinv2
  cases b2 with
  | true =>
   rw [Bool.true_and] at hinv2
   refine run_sound Tryz.func88 mixed 200 _ _ (by kernel_rfl) ?_
   simp only [go_sem,seval,hlt2,idx_of hyj,fcE_eq]
   repeat' (first
    | (simp (disch:=omega) only [wrap_ok])
    | (refine hnext2 () _ hinv2 (by refine ⟨by simp [mkS],by simp [mkS],by simp only [mkS,List.all_cons,List.all_nil,O.refsLt,C.refsLt,C.refsLt1,all_dmap];first | done | rfl | (simp;done),?_⟩;simp [mkS,Abs.get,C.refsLtT,C.refsLt,C.refsLt1]))
    | ((refine he.calls rfl ?_)<;>(try simp only [go_sem,seval,hlt2,idx_of hyj,fcE_eq]))
    | fail)
  | false =>
   simp only [Bool.false_and] at hinv2
   rw [←hinv2]
   refine run_sound Tryz.func88 mixed 200 _ _ (by kernel_rfl) ?_
   simp only [go_sem,seval,hlt2,idx_of hyj,fcE_eq]
   repeat' (first
    | ((refine he.calls rfl ?_)<;>(try simp only [go_sem,seval,hlt2,idx_of hyj,fcE_eq]))
    | fail)
 ·rw [List.all_nil,Bool.true_and] at hinv2
  refine run_sound Tryz.func88 mixed 200 _ _ (by kernel_rfl) ?_
  simp only [go_sem,seval]
  refine AW.rng r.neg [2,24,25] 26 24 (fun _:Unit=>[]) (fun H _=>H) (fun q _=>(q.all fun f=>!decide (f∈G))=K) () rfl (by simp) hinv2 (by refine ⟨by simp [mkS],by simp [mkS],by simp only [mkS,List.all_cons,List.all_nil,O.refsLt,C.refsLt,C.refsLt1,all_dmap];first | done | rfl | (simp;done),?_⟩;simp [mkS,Abs.get,C.refsLtT,C.refsLt,C.refsLt1]) (fun j y q b hyj hdr2 hlt2 hm2 hinv3 hnext2=>?_) (fun b hinv3=>?_)
  ·have he:=l18Has_fn G y hG
   rw [fcE_eq] at he
   rw [List.all_cons] at hinv3
   generalize decide (y∈G)=b2 at he hinv3
   cases b2 with
   | false =>
    rw [Bool.not_false,Bool.true_and] at hinv3
    refine run_sound Tryz.func88 mixed 200 _ _ (by kernel_rfl) ?_
    simp only [go_sem,seval,hlt2,idx_of hyj,fcE_eq]
    repeat' (first
     | (simp (disch:=omega) only [wrap_ok])
     | (refine hnext2 () _ hinv3 (by refine ⟨by simp [mkS],by simp [mkS],by simp only [mkS,List.all_cons,List.all_nil,O.refsLt,C.refsLt,C.refsLt1,all_dmap];first | done | rfl | (simp;done),?_⟩;simp [mkS,Abs.get,C.refsLtT,C.refsLt,C.refsLt1]))
     | ((refine he.calls rfl ?_)<;>(try simp only [go_sem,seval,hlt2,idx_of hyj,fcE_eq]))
     | fail)
   | true =>
    simp only [Bool.not_true,Bool.false_and] at hinv3
    rw [←hinv3]
    refine run_sound Tryz.func88 mixed 200 _ _ (by kernel_rfl) ?_
    simp only [go_sem,seval,hlt2,idx_of hyj,fcE_eq]
    repeat' (first
     | ((refine he.calls rfl ?_)<;>(try simp only [go_sem,seval,hlt2,idx_of hyj,fcE_eq]))
     | fail)
  ·rw [List.all_nil] at hinv3
   rw [←hinv3]
   refine run_sound Tryz.func88 mixed 200 _ _ (by kernel_rfl) ?_
   simp only [go_sem,seval]
theorem l19Next_fn (rs:List RV) (F G:List FcV) (hF:F.length≤9000000) (hG:G.length≤9000000) (hr:rs.length≤1000000):Gives Tryz.prog 53 [.sl (rs.map rvE),.sl (F.map fcE),.sl (G.map fcE)] (.d (.sl ((nextF rs F G).map fcE))):=by
 obtain ⟨RES,hRES⟩:∃RES,nextF rs F G=RES:=⟨_,rfl⟩
 rw [hRES]
 refine ACalls.enter (fn:=Tryz.f53) Tryz.func53 rfl (by show 3≤_;decide) ?_
 refine run_sound Tryz.func53 mixed 200 _ _ (by kernel_rfl) ?_
 simp only [go_sem,seval]
 refine AW.nilG 7 rfl ?_
 refine AW.rng rs [1,2,11,12] 13 11 (fun L:List FcV=>[(7,.d (.sl (L.map fcE)))]) (fun H _=>H) (fun r L=>∃d,rs=d++r∧L=sortC FcV.cmp ((d.filter (RV.fires F G)).map RV.head)) [] rfl (by simp) ⟨[],rfl,rfl⟩ (by refine ⟨by simp [mkS],by simp [mkS],by simp only [mkS,List.all_cons,List.all_nil,O.refsLt,C.refsLt,C.refsLt1,all_dmap];first | done | rfl | (simp;done),?_⟩;simp [mkS,Abs.get,C.refsLtT,C.refsLt,C.refsLt1]) (fun i x r L hxi hdr hlt hm hinv hnext=>?_) (fun L hinv=>?_)
 ·obtain ⟨d,d1,d2⟩:=hinv
  have hLl:L.length≤1000000:=by
   have h0:=sortC_len (c:=FcV.cmp) ((d.filter (RV.fires F G)).map RV.head)
   rw [←d2,List.length_map] at h0
   have h1:=List.length_filter_le (RV.fires F G) d
   have h2:=congrArg List.length d1
   simp at h2;omega
  have hLa:ascC FcV.cmp L:=by rw [d2];exact sortC_asc FcV.cmp_lin _
  have hfr:=l19Fires_fn x F G hF hG
  have hin:=l18Insert_fn L x.head hLa hLl
  rw [fcE_eq] at hin
  rw [rvE_eq] at hfr
  have hnext:=fun (L':List FcV) s' (h:L'=(if x.fires F G=true then insC FcV.cmp L x.head else L))=>hnext L' s' ⟨d++[x],by rw [d1];simp,by rw [h,d2,List.filter_append,List.map_append];unfold sortC;rw [List.foldl_append];cases hq:x.fires F G<;>simp [hq]⟩
  clear d1 d2
  generalize x.fires F G=b at *
  cases b with
  | true =>
   refine run_sound Tryz.func53 mixed 200 _ _ (by kernel_rfl) ?_
   simp only [go_sem,seval,hlt,idx_of hxi,rvE_eq]
   repeat' (first
    | (simp (disch:=omega) only [wrap_ok])
    | ((first
     | (refine hfr.calls rfl ?_)
     | (refine hin.calls rfl ?_))<;>(try simp only [go_sem,seval,hlt,idx_of hxi,rvE_eq]))
    | fail)
   refine hnext (insC FcV.cmp L x.head) _ rfl (by refine ⟨by simp [mkS],by simp [mkS],by simp only [mkS,List.all_cons,List.all_nil,O.refsLt,C.refsLt,C.refsLt1,all_dmap];first | done | rfl | (simp;done),?_⟩;simp [mkS,Abs.get,C.refsLtT,C.refsLt,C.refsLt1])
  | false =>
   refine run_sound Tryz.func53 mixed 200 _ _ (by kernel_rfl) ?_
   simp only [go_sem,seval,hlt,idx_of hxi,rvE_eq]
   repeat' (first
    | (simp (disch:=omega) only [wrap_ok])
    | ((refine hfr.calls rfl ?_)<;>(try simp only [go_sem,seval,hlt,idx_of hxi,rvE_eq]))
    | fail)
   refine hnext L _ rfl (by refine ⟨by simp [mkS],by simp [mkS],by simp only [mkS,List.all_cons,List.all_nil,O.refsLt,C.refsLt,C.refsLt1,all_dmap];first | done | rfl | (simp;done),?_⟩;simp [mkS,Abs.get,C.refsLtT,C.refsLt,C.refsLt1])
 ·obtain ⟨d,d1,d2⟩:=hinv
  rw [List.append_nil] at d1
  subst d1
  rw [show RES=L from by rw [←hRES,d2];rfl]
  refine run_sound Tryz.func53 mixed 200 _ _ (by kernel_rfl) ?_
  simp only [go_sem,seval]
theorem nextF_ext (rs:List RV) {F G:List FcV} (h:∀f,f∈F↔f∈G):nextF rs F F=nextF rs G G:=by
 unfold nextF
 congr 2
 refine List.filter_congr fun r _=>?_
 unfold RV.fires
 simp only [h]
theorem copyFact_T (rel:List UInt8) (vs:List V) (hl:vs.length≤100000000):ACalls Tryz.prog 102 [.d (.agg [.str rel,.sl (vs.map V.enc)])] [.hole] (fun c H'=>c=.agg [.d (.str rel),.own 0 1]∧∃e B,H'=[.tree 1 4 e (vs.map V.enc) B none]):=by
 have hct:=copyTerms_T vs hl
 unfold cpTs at hct
 refine ACalls.enter (fn:=Tryz.f102) Tryz.func102 rfl (by show 1≤_;decide) ?_
 refine run_sound Tryz.func102 mixed 3 _ _ (by kernel_rfl) ?_
 simp only [go_sem,seval,run.eq_1]
 refine AW.drawA mixed #[true,true,true,true,true,true,false] [(1,.box [.d (.str rel),.d (.sl (vs.map V.enc))])] [] [0,1,2,3,4,5] [6] none (by kernel_rfl) trivial (by simp [holdsB]) ?_
 simp only [go_sem,seval]
 repeat' (first
  | ((refine ACalls.fresh (ds:=[.sl (vs.map V.enc)]) (m:=1) hct [0] rfl rfl (by simp) (by simp) ?_<;>(rintro c H' ⟨rfl,e1,B1,rfl⟩ _;refine ⟨rfl,rfl,?_⟩))<;>(try simp only [go_sem,seval]))
  | fail)
 refine run_sound Tryz.func102 mixed 200 _ _ (by kernel_rfl) ?_
 simp only [go_sem,seval]
 repeat' (first
  | (exact ⟨_,_,rfl⟩)
  | fail)
theorem rvsC_mem {u:List V} {x:Rl} {i:Int} {c:List Gl} {r:RV}:∀m k,r∈rvsC u x i c k m→∃w,rvFine u c (gVals u (x.arity+x.locals).toNat w)=true∧r=rvOf x i c (gVals u (x.arity+x.locals).toNat w)
 | 0,k,h=>by simp [rvsC] at h
 | m+1,k,h=>by
  rw [rvsC_s] at h
  rcases List.mem_append.1 h with h | h
  ·unfold rvK at h
   split at h
   ·rename_i hf
    simp at h
    exact ⟨k,hf,h⟩
   ·simp at h
  ·exact rvsC_mem m (k+1) h
theorem rvsB_mem {u:List V} {x:Rl} {n:Nat} {r:RV}:∀(cs:List (List Gl)) (i:Int),r∈rvsB u x n i cs→∃c,c∈cs∧∃j w,rvFine u c (gVals u (x.arity+x.locals).toNat w)=true∧r=rvOf x j c (gVals u (x.arity+x.locals).toNat w)
 | [],i,h=>by simp [rvsB] at h
 | c :: cs,i,h=>by
  rw [rvsB_s] at h
  rcases List.mem_append.1 h with h | h
  ·obtain ⟨w,h1,h2⟩:=rvsC_mem _ _ h
   exact ⟨c,by simp,i,w,h1,h2⟩
  ·obtain ⟨c',h1,h2⟩:=rvsB_mem cs (i+1) h
   exact ⟨c',by simp [h1],h2⟩
theorem gnd_mem {u:List V} {r:RV}:∀rels:List Rl,r∈Pg.gnd u rels→∃x,x∈rels∧∃c,c∈x.body.clsS∧∃j w,rvFine u c (gVals u (x.arity+x.locals).toNat w)=true∧r=rvOf x j c (gVals u (x.arity+x.locals).toNat w)
 | [],h=>by simp [Pg.gnd] at h
 | x :: xs,h=>by
  rw [show Pg.gnd u (x :: xs)=rvsB u x (x.ways u) 0 x.body.clsS++Pg.gnd u xs from rfl] at h
  rcases List.mem_append.1 h with h | h
  ·obtain ⟨c,h1,h2⟩:=rvsB_mem _ _ h
   exact ⟨x,by simp,c,h1,h2⟩
  ·obtain ⟨y,h1,h2⟩:=gnd_mem xs h
   exact ⟨y,by simp [h1],h2⟩
theorem gr_mem {p:Pg} {u:List V} {rs:List RV} (h:p.gr u=some rs):rs=Pg.gnd u p.rels∧rs.length≤2000:=by
 unfold Pg.gr at h
 split at h
 ·rename_i h2
  obtain rfl:=Option.some.inj h
  exact ⟨rfl,h2.2⟩
 ·cases h
theorem gr_head {p:Pg} {u:List V} {rs:List RV} (hp:pgOk p=true) (hu:Uni u) (h:p.gr u=some rs):∀r,r∈rs→(∀v,v∈r.head.2→v∈u)∧r.head.2.length≤12:=fun r hr=>by
 obtain ⟨rfl,_⟩:=gr_mem h
 obtain ⟨x,hx,c,_,j,w,_,rfl⟩:=gnd_mem _ hr
 obtain ⟨z1,z2,z3,z4⟩:=Pg.dims hp hx
 have hvl:=gVals_len u (x.arity+x.locals).toNat w
 refine ⟨fun v hv=>gVals_mem hu.pos _ _ v (List.mem_of_mem_take hv),?_⟩
 simp only [rvOf,List.length_take];omega
theorem next_head {p:Pg} {u:List V} {rs:List RV} (hp:pgOk p=true) (hu:Uni u) (h:p.gr u=some rs) (F G:List FcV):∀f,f∈nextF rs F G→(∀v,v∈f.2→v∈u)∧f.2.length≤12:=fun f hf=>by
 obtain ⟨r,h1,_,rfl⟩:=nextF_mem.1 hf
 exact gr_head hp hu h r h1
def Fc.toV (f:Fc):FcV:=(f.rel,f.args.map Tm.V)
def csC (o:Option (List FcV)):C:=match o with | some l=>.tup [.d (.sl (l.map fcE)),.d (.bool true)] | none=>.tup [.d (.sl []),.d (.bool false)]
def Pg.csq (p:Pg) (u:List Tm) (fs:List Fc):Option (List FcV):=
 if pgOk p=true∧uniOk u=true∧fs.all p.factFits=true then (p.gr (u.map Tm.V)).map (fun rs=>nextF rs (fs.map Fc.toV) (fs.map Fc.toV)) else none
theorem csC_none:csC none=.tup [.d (.sl []),.d (.bool false)]:=rfl
theorem csC_some (l:List FcV):csC (some l)=.tup [.d (.sl (l.map fcE)),.d (.bool true)]:=rfl
theorem fits_V {p:Pg} {f:Fc} (h:p.factFits f=true):f.enc=fcE (Fc.toV f):=by
 unfold Pg.factFits at h
 split at h
 ·simp only [Bool.and_eq_true] at h
  rw [Fc.enc_eq,fcE_eq]
  unfold Fc.toV
  dsimp only
  conv=>lhs;rw [grounds_V h.2]
  rw [enc_tms]
 ·cases h
theorem fits_Vs {p:Pg} {fs:List Fc} (h:fs.all p.factFits=true):fs.map Fc.enc=(fs.map Fc.toV).map fcE:=by
 rw [List.map_map]
 exact List.map_congr_left fun f hf=>fits_V (List.all_eq_true.1 h f hf)
theorem wtR_mem {l:List (List D)} {x:List D} (h:x∈l):wtL x≤wtR l:=by
 have:=wtL_lt l x h;omega
theorem wtR_len (l:List (List D)):l.length≤wtR l:=by
 have:=sumW_le l 0;simp [sumW] at this;omega
theorem l19FactsOk_fn (p:Pg) (fs:List Fc) (hw:wtL p.enc≤1048576) (hwf:wtR (fs.map Fc.enc)≤1048576):Gives Tryz.prog 51 [.agg p.enc,.sl (fs.map Fc.enc)] (.d (.bool (fs.all fun f=>pgOk p && p.factFits f))):=by
 obtain ⟨K,hK⟩:∃K,(fs.all fun f=>pgOk p && p.factFits f)=K:=⟨_,rfl⟩
 rw [hK]
 refine ACalls.enter (fn:=Tryz.f51) Tryz.func51 rfl (by show 2≤_;decide) ?_
 refine run_sound Tryz.func51 mixed 200 _ _ (by kernel_rfl) ?_
 simp only [go_sem,seval]
 refine AW.rng fs [2,7,8] 9 7 (fun _:Unit=>[]) (fun H _=>H) (fun q _=>(q.all fun f=>pgOk p && p.factFits f)=K) () rfl (by simp) hK (by refine ⟨by simp [mkS],by simp [mkS],by simp only [mkS,List.all_cons,List.all_nil,O.refsLt,C.refsLt,C.refsLt1,all_dmap];first | done | rfl | (simp;done),?_⟩;simp [mkS,Abs.get,C.refsLtT,C.refsLt,C.refsLt1]) (fun j f q b hyj hdr2 hlt2 hm2 hinv2 hnext2=>?_) (fun b hinv2=>?_)
 ·have hfm:=List.mem_of_getElem? hyj
  have hff:=sFactOk_fn p f hw (Nat.le_trans (wtR_mem (List.mem_map.2 ⟨f,hfm,rfl⟩)) hwf)
  rw [Fc.enc_eq] at hff
  rw [List.all_cons] at hinv2
  generalize (pgOk p && p.factFits f)=b2 at hff hinv2
  cases b2 with
  | true =>
   rw [Bool.true_and] at hinv2
   refine run_sound Tryz.func51 mixed 200 _ _ (by kernel_rfl) ?_
   simp only [go_sem,seval,hlt2,idx_of hyj,Fc.enc_eq]
   repeat' (first
    | (simp (disch:=omega) only [wrap_ok])
    | (refine hnext2 () _ hinv2 (by refine ⟨by simp [mkS],by simp [mkS],by simp only [mkS,List.all_cons,List.all_nil,O.refsLt,C.refsLt,C.refsLt1,all_dmap];first | done | rfl | (simp;done),?_⟩;simp [mkS,Abs.get,C.refsLtT,C.refsLt,C.refsLt1]))
    | ((refine hff.calls rfl ?_)<;>(try simp only [go_sem,seval,hlt2,idx_of hyj,Fc.enc_eq]))
    | fail)
  | false =>
   rw [Bool.false_and] at hinv2
   rw [←hinv2]
   refine run_sound Tryz.func51 mixed 200 _ _ (by kernel_rfl) ?_
   simp only [go_sem,seval,hlt2,idx_of hyj,Fc.enc_eq]
   repeat' (first
    | ((refine hff.calls rfl ?_)<;>(try simp only [go_sem,seval,hlt2,idx_of hyj,Fc.enc_eq]))
    | fail)
 ·rw [List.all_nil] at hinv2
  rw [←hinv2]
  refine run_sound Tryz.func51 mixed 200 _ _ (by kernel_rfl) ?_
  simp only [go_sem,seval]
theorem factsOk_all {p:Pg} (h:pgOk p=true) (fs:List Fc):(fs.all fun f=>pgOk p && p.factFits f)=fs.all p.factFits:=by
 rw [h];simp only [Bool.true_and]
theorem oksU_wt {u:List V} (hu:Uni u) {l:List FcV} (h:∀f,f∈l→(∀v,v∈f.2→v∈u)∧f.2.length≤12):∀f,f∈l→wtR (f.2.map V.enc)≤2000000:=fun f hf=>uniwts hu f.2 (h f hf).1 (h f hf).2
theorem sConsequences_D (p:Pg) (u:List Tm) (fs:List Fc) (hw:wtL p.enc≤1048576) (hwu:∀t,t∈u→wtL t.enc≤1048576) (hlu:u.length≤9000000) (hwf:wtR (fs.map Fc.enc)≤1048576):Gives Tryz.prog 24 [.agg p.enc,.sl (u.map Tm.enc),.sl (fs.map Fc.enc)] (csC (Pg.csq p u fs)):=by
 have hmx:maxLen=9223372036854775807:=rfl
 have hgr:=sGroundRules_fn p u hw hwu hlu
 have hfo:=l19FactsOk_fn p fs hw hwf
 have hfl:fs.length≤1048576:=by have:=wtR_len (fs.map Fc.enc);simp at this;omega
 obtain ⟨RES,hRES⟩:∃RES,csC (Pg.csq p u fs)=RES:=⟨_,rfl⟩
 rw [hRES]
 unfold Pg.csq at hRES
 by_cases h12:pgOk p=true∧uniOk u=true
 ·rw [factsOk_all h12.1] at hfo
  unfold Pg.grO at hgr
  rw [if_pos h12] at hgr
  cases hg:p.gr (u.map Tm.V) with
  | none =>
   rw [hg,grC_none] at hgr
   rw [show (if pgOk p=true∧uniOk u=true∧fs.all p.factFits=true then (p.gr (u.map Tm.V)).map (fun rs=>nextF rs (fs.map Fc.toV) (fs.map Fc.toV)) else none)=none from by rw [hg];simp,csC_none] at hRES
   rw [←hRES]
   refine ACalls.enter (fn:=Tryz.f24) Tryz.func24 rfl (by show 3≤_;decide) ?_
   refine run_sound Tryz.func24 mixed 200 _ _ (by kernel_rfl) ?_
   simp only [go_sem,seval]
   repeat' (first
    | ((refine hgr.calls rfl ?_)<;>(try simp only [go_sem,seval]))
    | fail)
  | some rs =>
   rw [hg,grC_some] at hgr
   cases hq:fs.all p.factFits with
   | false =>
    rw [hq] at hfo
    rw [hq,if_neg (fun h=>by cases h.2.2),csC_none] at hRES
    rw [←hRES]
    refine ACalls.enter (fn:=Tryz.f24) Tryz.func24 rfl (by show 3≤_;decide) ?_
    refine run_sound Tryz.func24 mixed 200 _ _ (by kernel_rfl) ?_
    simp only [go_sem,seval]
    repeat' (first
     | ((first
      | (refine hgr.calls rfl ?_)
      | (refine hfo.calls rfl ?_))<;>(try simp only [go_sem,seval]))
     | fail)
   | true =>
    rw [hq] at hfo
    rw [if_pos ⟨h12.1,h12.2,hq⟩,hg,Option.map_some,csC_some] at hRES
    obtain ⟨hu,he⟩:=Uni.of h12.2
    have hfe:=fits_Vs hq
    obtain ⟨_,hrl⟩:=gr_mem hg
    have hfl2:(fs.map Fc.toV).length≤1048576:=by rw [List.length_map];exact hfl
    rw [hfe] at hfo ⊢
    generalize fs.map Fc.toV=F at *
    have hnh:=next_head h12.1 hu hg F F
    have hcq:=l19Next_fn rs F F (by omega) (by omega) (by omega)
    have hnl:=nextF_len rs F F
    have hcf:=l18Copy_V (nextF rs F F) (by omega) (oksU_wt hu hnh)
    generalize nextF rs F F=R2 at *
    rw [←hRES]
    refine ACalls.enter (fn:=Tryz.f24) Tryz.func24 rfl (by show 3≤_;decide) ?_
    refine run_sound Tryz.func24 mixed 200 _ _ (by kernel_rfl) ?_
    simp only [go_sem,seval]
    repeat' (first
     | ((first
      | (refine hgr.calls rfl ?_)
      | (refine hfo.calls rfl ?_)
      | (refine hcq.calls rfl ?_)
      | (refine hcf.calls rfl ?_))<;>(try simp only [go_sem,seval]))
     | fail)
 ·have hno:Pg.grO p u=none:=by unfold Pg.grO;rw [if_neg h12]
  rw [hno,grC_none] at hgr
  rw [if_neg (fun h=>h12 ⟨h.1,h.2.1⟩),csC_none] at hRES
  rw [←hRES]
  refine ACalls.enter (fn:=Tryz.f24) Tryz.func24 rfl (by show 3≤_;decide) ?_
  refine run_sound Tryz.func24 mixed 200 _ _ (by kernel_rfl) ?_
  simp only [go_sem,seval]
  repeat' (first
   | ((refine hgr.calls rfl ?_)<;>(try simp only [go_sem,seval]))
   | fail)
theorem mem_wtR {u:List Tm} (h:wtR (u.map Tm.enc)≤1048576):(∀t,t∈u→wtL t.enc≤1048576)∧u.length≤9000000:=
 ⟨fun t ht=>Nat.le_trans (wtR_mem (List.mem_map.2 ⟨t,ht,rfl⟩)) h,by have:=wtR_len (u.map Tm.enc);simp at this;omega⟩
def allC (o:Option (List RV)):C:=match o with | some rs=>.tup [.d (.sl (rs.map rvE)),.d (.sl (stgD rs (top rs+1))),.d (.bool true)] | none=>.tup [.d (.sl []),.d (.sl []),.d (.bool false)]
theorem allC_some (rs:List RV):allC (some rs)=.tup [.d (.sl (rs.map rvE)),.d (.sl (stgD rs (top rs+1))),.d (.bool true)]:=rfl
theorem allC_none:allC none=.tup [.d (.sl []),.d (.sl []),.d (.bool false)]:=rfl
theorem copyFacts_T (l:List FcV) (hl:l.length≤2000000) (hw:∀x,x∈l→x.2.length≤100000000):ACalls Tryz.prog 58 [.d (.sl (l.map fcE))] [.hole] (fun c H'=>c=.own 0 1∧∃e B,H'=[.tree 1 2 e (l.map fcE) B none]):=by
 have hmx:maxLen=9223372036854775807:=rfl
 refine ACalls.enter (fn:=Tryz.f58) Tryz.func58 rfl (by show 1≤_;decide) ?_
 refine run_sound Tryz.func58 mixed 5 _ _ (by kernel_rfl) ?_
 simp only [go_sem,seval,run.eq_1]
 refine AW.adoptT 3 2 48 (by decide) rfl ?_
 refine run_sound Tryz.func58 mixed 200 _ _ (by kernel_rfl) ?_
 simp only [go_sem,seval]
 refine AW.rng l [7,8] 9 7 (fun p:List FcV×(Nat→Prop)=>[(3,.own 1 p.1.length)]) (fun _ p=>[.hole,.tree p.1.length 2 48 (p.1.map fcE) p.2 none]) (fun r p=>p.1++r=l) ([],fun _=>False) rfl (by simp) rfl (by refine ⟨by simp [mkS],by simp [mkS],by simp only [mkS,List.all_cons,List.all_nil,O.refsLt,C.refsLt,C.refsLt1,all_dmap];first | done | rfl | (simp;done),?_⟩;simp [mkS,Abs.get,C.refsLtT,C.refsLt,C.refsLt1]) (fun i x r p hxi hdr hlt hm hinv hnext=>?_) (fun p hinv=>?_)
 ·have hpl:p.1.length+(r.length+1)=l.length:=by rw [←hinv];simp
  have hx:=copyFact_T x.1 x.2 (hw x (List.mem_of_getElem? hxi))
  have hX:=fcE_eq x
  refine AW.hole ?_
  refine run_sound Tryz.func58 mixed 9 _ _ (by kernel_rfl) ?_
  simp only [go_sem,seval,run.eq_1,hlt,idx_of hxi,fcE_eq]
  refine AW.regT ?_
  simp only [go_sem,seval]
  repeat' (first
   | ((first
    | (refine ACalls.fresh (ds:=[.agg [.str x.1,.sl (x.2.map V.enc)]]) (m:=1) hx [2] rfl rfl (by simp) (by simp) ?_<;>(rintro c H' ⟨rfl,e1,B1,rfl⟩ _;refine ⟨rfl,rfl,?_⟩))
    | (refine all_intro (fun Bz=>?_))
    | (refine ⟨sd,?_⟩))<;>(try simp only [go_sem,seval,hlt,idx_of hxi]))
   | fail)
  refine run_sound Tryz.func58 mixed 200 _ _ (by kernel_rfl) ?_
  simp only [go_sem,seval]
  try simp (disch:=omega) only [wrap_ok]
  refine hnext (p.1++[x],Bz) _ (by simp [←hinv]) (by refine ⟨by simp [mkS,hX],by simp [mkS,hX],by simp only [mkS,List.all_cons,List.all_nil,O.refsLt,C.refsLt,C.refsLt1,all_dmap];first | done | rfl | (simp;done),?_⟩;simp [mkS,Abs.get,C.refsLtT,C.refsLt,C.refsLt1,hX])
 ·simp only [List.append_nil] at hinv
  subst hinv
  refine run_sound Tryz.func58 mixed 7 _ _ (by kernel_rfl) ?_
  simp only [go_sem,seval,run.eq_1]
  refine AW.place 2 1 0 rfl rfl rfl (by decide) ?_
  refine run_sound Tryz.func58 mixed 200 _ _ (by kernel_rfl) ?_
  simp only [go_sem,seval]
  all_goals exact ⟨_,_,rfl⟩
def csR (o:Option (List FcV)) (c:C) (H:List O):Prop:=match o with
 | some l=>c=.tup [.own 0 1,.d (.bool true)]∧∃e B,H=[.tree 1 2 e (l.map fcE) B none]
 | none=>c=.tup [.d (.sl []),.d (.bool false)]∧H=[.hole]
theorem iConsequences_T (p:Pg) (u:List Tm) (fs:List Fc) (hw:wtL p.enc≤1048576) (hwu:∀t,t∈u→wtL t.enc≤1048576) (hlu:u.length≤9000000) (hwf:wtR (fs.map Fc.enc)≤1048576):ACalls Tryz.prog 25 [.d (.agg p.enc),.d (.sl (u.map Tm.enc)),.d (.sl (fs.map Fc.enc))] [.hole] (csR (Pg.csq p u fs)):=by
 have hmx:maxLen=9223372036854775807:=rfl
 have ha:=iProgramOk_fn p (by omega)
 have hb:=iUniverseOk_fn u hwu hlu
 have hfl:fs.length≤1048576:=by have:=wtR_len (fs.map Fc.enc);simp at this;omega
 obtain ⟨RES,hRES⟩:∃RES,Pg.csq p u fs=RES:=⟨_,rfl⟩
 rw [hRES]
 unfold Pg.csq at hRES
 by_cases h1:pgOk p=true
 ·by_cases h2:uniOk u=true
  ·rw [h1] at ha
   rw [h2] at hb
   have hcl:∀d,d=fs→d.all p.factFits=fs.all p.factFits:=fun d e=>by rw [e]
   refine ACalls.enter (fn:=Tryz.f25) Tryz.func25 rfl (by show 3≤_;decide) ?_
   refine run_sound Tryz.func25 mixed 200 _ _ (by kernel_rfl) ?_
   simp only [go_sem,seval]
   repeat' (first
    | ((first
     | (refine ha.calls rfl ?_)
     | (refine hb.calls rfl ?_))<;>(try simp only [go_sem,seval]))
    | fail)
   refine AW.rng fs [1,2,3,20,21] 22 20 (fun _:Unit=>[]) (fun H _=>H) (fun r _=>∃d,fs=d++r∧d.all p.factFits=true) () rfl (by simp) ⟨[],rfl,rfl⟩ (by refine ⟨by simp [mkS],by simp [mkS],by simp only [mkS,List.all_cons,List.all_nil,O.refsLt,C.refsLt,C.refsLt1,all_dmap];first | done | rfl | (simp;done),?_⟩;simp [mkS,Abs.get,C.refsLtT,C.refsLt,C.refsLt1]) (fun j f q b hyj hdr2 hlt2 hm2 hinv2 hnext2=>?_) (fun b hinv2=>?_)
   ·obtain ⟨d,d1,d2⟩:=hinv2
    have hfm:=List.mem_of_getElem? hyj
    have hff:=factFits_fn p f (Nat.le_trans (wtR_mem (List.mem_map.2 ⟨f,hfm,rfl⟩)) hwf)
    rw [Fc.enc_eq] at hff
    cases hq:p.factFits f with
    | true =>
     rw [hq] at hff
     refine run_sound Tryz.func25 mixed 200 _ _ (by kernel_rfl) ?_
     simp only [go_sem,seval,hlt2,idx_of hyj,Fc.enc_eq]
     repeat' (first
      | (simp (disch:=omega) only [wrap_ok])
      | (refine hnext2 () _ ⟨d++[f],by rw [d1];simp,by rw [List.all_append,d2];simp [hq]⟩ (by refine ⟨by simp [mkS],by simp [mkS],by simp only [mkS,List.all_cons,List.all_nil,O.refsLt,C.refsLt,C.refsLt1,all_dmap];first | done | rfl | (simp;done),?_⟩;simp [mkS,Abs.get,C.refsLtT,C.refsLt,C.refsLt1]))
      | ((refine hff.calls rfl ?_)<;>(try simp only [go_sem,seval,hlt2,idx_of hyj,Fc.enc_eq]))
      | fail)
    | false =>
     rw [hq] at hff
     have hn:¬fs.all p.factFits=true:=fun h=>by have:=List.all_eq_true.1 h f hfm;rw [hq] at this;cases this
     rw [if_neg (fun h=>hn h.2.2)] at hRES
     subst hRES;unfold csR;dsimp only
     refine run_sound Tryz.func25 mixed 200 _ _ (by kernel_rfl) ?_
     simp only [go_sem,seval,hlt2,idx_of hyj,Fc.enc_eq]
     repeat' (first
      | ((refine hff.calls rfl ?_)<;>(try simp only [go_sem,seval,hlt2,idx_of hyj,Fc.enc_eq]))
      | fail)
   ·obtain ⟨d,d1,d2⟩:=hinv2
    rw [List.append_nil] at d1
    subst d1
    rw [if_pos ⟨h1,h2,d2⟩] at hRES
    obtain ⟨hu,he⟩:=Uni.of h2
    have hee:u.map Tm.enc=(u.map Tm.V).map V.enc:=by rw [←enc_tms,←he]
    have hfe:=fits_Vs d2
    have hgr:=groundRules_fn p (u.map Tm.V) h1 hw hu
    have hfl2:(fs.map Fc.toV).length≤1048576:=by rw [List.length_map];exact hfl
    rw [hee,hfe]
    generalize fs.map Fc.toV=F at *
    have hso:=sortFacts_fn F (by omega)
    cases hg:p.gr (u.map Tm.V) with
    | none =>
     rw [hg,grC_none] at hgr
     rw [hg,Option.map_none] at hRES
     subst hRES;unfold csR;dsimp only
     refine run_sound Tryz.func25 mixed 200 _ _ (by kernel_rfl) ?_
     simp only [go_sem,seval]
     repeat' (first
      | ((refine hgr.calls rfl ?_)<;>(try simp only [go_sem,seval]))
      | fail)
    | some rs =>
     rw [hg,grC_some] at hgr
     obtain ⟨_,hrl⟩:=gr_mem hg
     have hnh:=next_head h1 hu hg F F
     rw [hg,Option.map_some] at hRES
     have hsl:=sortC_len (c:=FcV.cmp) F
     have hcq:=consequences_fn rs (sortC FcV.cmp F) (sortC_asc FcV.cmp_lin F) (by omega) (by omega)
     rw [nextF_ext rs (F:=sortC FcV.cmp F) (G:=F) (fun f=>sortC_mem FcV.cmp_lin F f)] at hcq
     have hnl:=nextF_len rs F F
     have hcf:=copyFacts_T (nextF rs F F) (by omega) (fun x hx=>by have:=(hnh x hx).2;omega)
     generalize nextF rs F F=R2 at *
     generalize sortC FcV.cmp F=F2 at *
     subst hRES;unfold csR;dsimp only
     refine run_sound Tryz.func25 mixed 200 _ _ (by kernel_rfl) ?_
     simp only [go_sem,seval]
     repeat' (first
      | (exact ⟨_,_,rfl⟩)
      | ((first
       | (refine hgr.calls rfl ?_)
       | (refine hso.calls rfl ?_)
       | (refine hcq.calls rfl ?_)
       | (refine ACalls.fresh (ds:=[.sl (R2.map fcE)]) (m:=1) hcf [0] rfl rfl (by simp) (by simp) ?_<;>(rintro c H' ⟨rfl,e1,B1,rfl⟩ _;refine ⟨rfl,rfl,?_⟩)))<;>(try simp only [go_sem,seval]))
      | fail)
  ·simp only [Bool.not_eq_true] at h2
   rw [h1] at ha
   rw [h2] at hb hRES
   rw [if_neg (fun h=>by cases h.2.1)] at hRES
   subst hRES;unfold csR;dsimp only
   refine ACalls.enter (fn:=Tryz.f25) Tryz.func25 rfl (by show 3≤_;decide) ?_
   refine run_sound Tryz.func25 mixed 200 _ _ (by kernel_rfl) ?_
   simp only [go_sem,seval]
   repeat' (first
    | ((first
     | (refine ha.calls rfl ?_)
     | (refine hb.calls rfl ?_))<;>(try simp only [go_sem,seval]))
    | fail)
 ·simp only [Bool.not_eq_true] at h1
  rw [h1] at ha hRES
  rw [if_neg (fun h=>by cases h.1)] at hRES
  subst hRES;unfold csR;dsimp only
  refine ACalls.enter (fn:=Tryz.f25) Tryz.func25 rfl (by show 3≤_;decide) ?_
  refine run_sound Tryz.func25 mixed 200 _ _ (by kernel_rfl) ?_
  simp only [go_sem,seval]
  repeat' (first
   | ((refine ha.calls rfl ?_)<;>(try simp only [go_sem,seval]))
   | fail)
end Go.Proofs.YtockpdkdnlkkfaaGreat
namespace Go.Abs
def Fc.mcnt (t:Fc):Nat:=1+Tm.mcnts t.args
def Fc.mrk (k:Int) (t:Fc):Fc:=⟨mText k,Tm.mrks (k+1) t.args⟩
def Fc.mcnts:List Fc→Nat
 | []=>0
 | t :: r=>Fc.mcnt t+Fc.mcnts r
def Fc.mrks (k:Int):List Fc→List Fc
 | []=>[]
 | t :: r=>Fc.mrk k t :: Fc.mrks (k+t.mcnt) r
theorem Fc.mrks_len:∀(l:List Fc) (k:Int),(Fc.mrks k l).length=l.length
 | [],_=>rfl
 | t :: r,k=>by simp [Fc.mrks,Fc.mrks_len r]
theorem Fc.mcnts_app:∀(a b:List Fc),Fc.mcnts (a++b)=Fc.mcnts a+Fc.mcnts b
 | [],b=>by simp [Fc.mcnts]
 | t :: a,b=>by simp only [List.cons_append,Fc.mcnts,Fc.mcnts_app a b];omega
theorem Fc.mrks_app:∀(a b:List Fc) (k:Int),Fc.mrks k (a++b)=Fc.mrks k a++Fc.mrks (k+Fc.mcnts a) b
 | [],b,k=>by simp [Fc.mrks,Fc.mcnts]
 | t :: a,b,k=>by
  simp only [List.cons_append,Fc.mrks,Fc.mcnts,Fc.mrks_app a b]
  rw [show k+(t.mcnt:Int)+(Fc.mcnts a:Int)=k+((t.mcnt+Fc.mcnts a:Nat):Int) by omega]
theorem Fc.len_mcnts:∀l:List Fc,l.length≤Fc.mcnts l
 | []=>by simp
 | t :: r=>by have:=Fc.len_mcnts r;simp only [Fc.mcnts,Fc.mcnt,List.length_cons];omega
theorem Fc.mcnts_wt:∀l:List Fc,Fc.mcnts l≤4 * wtR (l.map Fc.enc)
 | []=>by simp [Fc.mcnts]
 | t :: r=>by
  have h1:=Fc.mcnts_wt r
  have h2:=Tm.mcnts_wt t.args
  simp only [Fc.mcnts,Fc.mcnt,List.map_cons,wtR,Fc.enc_eq,wtL,D.wt];omega
theorem Fc.mrks_at:∀(l:List Fc) (k:Int) (i:Nat) (x:Fc),l[i]? = some x→(Fc.mrks k l)[i]? = some (x.mrk (k+Fc.mcnts (l.take i)))
 | [],k,i,x,h=>by simp at h
 | t :: r,k,0,x,h=>by simp at h;subst h;simp [Fc.mrks,Fc.mcnts]
 | t :: r,k,i+1,x,h=>by
  simp only [List.getElem?_cons_succ] at h
  simp only [Fc.mrks,List.getElem?_cons_succ,List.take_succ_cons,Fc.mcnts]
  rw [Fc.mrks_at r _ i x h]
  rw [show k+(t.mcnt:Int)+(Fc.mcnts (r.take i):Int)=k+((t.mcnt+Fc.mcnts (r.take i):Nat):Int) by omega]
end Go.Abs
namespace Go.Proofs.YtockpdkdnlkkfaaGreat
open Go.Abs
def hTT (l:List Tm):Prop:=∀k:Int,0≤k→k+Tm.mcnts l≤1000000000→Gives Tryz.prog 62 [.sl ((Tm.mrks k l).map Tm.enc),.int .i64 k] (.d (.int .i64 (k+Tm.mcnts l)))
theorem heldTermS_T (l:List Tm) (ih:∀x,x∈l→hTT x.args):hTT l:=by
 intro k h0 h1
 have hml:=Tm.mrks_len l k
 have hlm:=Tm.len_mcnts l
 refine ACalls.enter (fn:=Tryz.f62) Tryz.func62 rfl (by show 2≤_;decide) ?_
 refine run_sound Tryz.func62 mixed 200 _ _ (by kernel_rfl) ?_
 simp only [go_sem,seval]
 refine AW.lp [0] (fun i:Nat=>[(5,.d (.int .i64 i)),(1,.d (.int .i64 (k+Tm.mcnts (l.take i))))]) (fun H _=>H) (fun i=>i≤l.length) (fun i=>l.length - i) 0 (Nat.zero_le _) (by refine ⟨by simp [mkS],by simp [mkS],by simp [mkS,O.refsLt],?_⟩;simp [mkS,Abs.get,C.refsLtT,C.refsLt,C.refsLt1,Tm.mcnts]) ?_
 intro i hi hnext
 by_cases h:i<l.length
 ·have hlt:(i:Int)<(l.length:Int):=by omega
  have hxi:l[i]? = some l[i]:=List.getElem?_eq_getElem h
  have hix:=ih l[i] (List.getElem_mem _)
  have hat:=Tm.mrks_at l k i _ hxi
  have hnxt:l.take (i+1)=l.take i++[l[i]]:=by rw [List.take_add_one,List.getElem?_eq_getElem h];rfl
  have hcn:Tm.mcnts (l.take (i+1))=Tm.mcnts (l.take i)+l[i].mcnt:=by rw [hnxt,Tm.mcnts_app];simp [Tm.mcnts]
  have hcl:Tm.mcnts l=Tm.mcnts (l.take i)+(l[i].mcnt+Tm.mcnts (l.drop (i+1))):=by
   conv=>lhs;rw [←List.take_append_drop i l,List.drop_eq_getElem_cons h,Tm.mcnts_app]
   simp [Tm.mcnts]
  have hmc:=Tm.mcnt_eq l[i]
  have hnx:=fun s'=>hnext (i+1) s' h (by omega)
  clear hnext
  simp only [hcn] at hnx
  generalize hx:l[i]=x at *
  generalize hk:k+(Tm.mcnts (l.take i):Int)=kk at *
  generalize hy:x.mrk kk=y at *
  have e2:kk+1+1=kk+2:=by omega
  have e3:kk+1+1+1=kk+3:=by omega
  have ye:y.kind=kk∧y.int=kk+1∧y.name=mText (kk+1+1)∧y.args=Tm.mrks (kk+1+1+1) x.args:=by
   rw [←hy,Tm.mrk_eq,e3,e2];exact ⟨rfl,rfl,rfl,rfl⟩
  have hrec:=hix (kk+1+1+1) (by omega) (by omega)
  have w1:IntKind.i64.wrap (kk+1)=kk+1:=wrap_ok (by omega) (by omega)
  have w2:IntKind.i64.wrap (kk+1+1)=kk+1+1:=wrap_ok (by omega) (by omega)
  have w3:IntKind.i64.wrap (kk+1+1+1)=kk+1+1+1:=wrap_ok (by omega) (by omega)
  refine run_sound Tryz.func62 mixed 200 _ _ (by kernel_rfl) ?_
  simp only [go_sem,seval,hlt,hml,idx_of hat,ye.1,ye.2.1,ye.2.2.1,ye.2.2.2,w1,w2,w3]
  repeat' (first
   | ((refine br_n (fun hq=>?_) (fun hq=>?_))<;>(try simp only [go_sem,seval,hlt,hml,idx_of hat,ye.1,ye.2.1,ye.2.2.1,ye.2.2.2,w1,w2,w3,hq]))
   | (simp (disch:=omega) only [wrap_ok])
   | ((first
    | (refine hrec.calls rfl ?_)
    | (refine (markText_fn _ sd sd).callQ rfl ?_))<;>(try simp only [go_sem,seval,hlt,hml,idx_of hat,ye.1,ye.2.1,ye.2.2.1,ye.2.2.2,w1,w2,w3]))
   | fail)
  all_goals first | (exfalso;omega) | skip
  refine hnx _ ?_
  refine ⟨by simp [mkS],by simp [mkS],by simp [mkS,O.refsLt],?_⟩;simp [mkS,Abs.get,C.refsLtT,C.refsLt,C.refsLt1];omega
 ·obtain rfl:i=l.length:=by omega
  refine run_sound Tryz.func62 mixed 200 _ _ (by kernel_rfl) ?_
  simp only [go_sem,seval,hml,List.take_length]
theorem hTT_args:∀t:Tm,hTT t.args:=by
 intro t
 induction t using Tm.ind' with
 | h t ih=>exact heldTermS_T t.args ih
theorem hTT_all (l:List Tm):hTT l:=heldTermS_T l (fun x _=>hTT_args x)
theorem markFactS_0 (k:Int):Gives Tryz.prog 28 [.sl [],.int .i64 k] (.d (.int .i64 k)):=by
 have z0:((0:Nat):Int)=0:=rfl
 refine ACalls.enter (fn:=Tryz.f28) Tryz.func28 rfl (by show 2≤_;decide) ?_
 refine run_sound Tryz.func28 mixed 200 _ _ (by kernel_rfl) ?_
 simp only [go_sem,seval]
 repeat' (first
  | ((refine AW.loop ?_<;>(refine run_sound Tryz.func28 mixed 200 _ _ (by kernel_rfl) ?_))<;>(try simp only [go_sem,seval,z0]))
  | fail)
 all_goals (exfalso;simp at *)
theorem markFactS_T (l:List Fc) (k:Int) (q e:Nat) (B:Nat→Prop) (h0:0≤k) (h1:k+Fc.mcnts l≤1000000000) :
  ACalls Tryz.prog 28 [.own 0 q,.d (.int .i64 k)] [.tree q 2 e (l.map Fc.enc) B none] fun c H'=>c=.d (.int .i64 (k+Fc.mcnts l))∧∃B',H'=[.tree q 2 e ((Fc.mrks k l).map Fc.enc) B' none]:=by
 have hlm:=Fc.len_mcnts l
 refine ACalls.enter (fn:=Tryz.f28) Tryz.func28 rfl (by show 2≤_;decide) ?_
 refine run_sound Tryz.func28 mixed 200 _ _ (by kernel_rfl) ?_
 simp only [go_sem,seval]
 refine AW.lp [0] (fun p:Nat×(Nat→Prop)=>[(5,.d (.int .i64 p.1)),(1,.d (.int .i64 (k+Fc.mcnts (l.take p.1))))]) (fun _ p=>[.tree q 2 e ((Fc.mrks k (l.take p.1)++l.drop p.1).map Fc.enc) p.2 none]) (fun p=>p.1≤l.length) (fun p=>l.length - p.1) (0,B) (Nat.zero_le _) (by refine ⟨by simp [mkS],by simp [mkS,Fc.mrks],by simp [mkS,O.refsLt],?_⟩;simp [mkS,Abs.get,C.refsLtT,C.refsLt,C.refsLt1,Fc.mcnts]) ?_
 rintro ⟨i,B1⟩ hi hnext
 dsimp only at hi hnext ⊢
 by_cases h:i<l.length
 ·have hlt:(i:Int)<(l.length:Int):=by omega
  have hd:l.drop i=l[i] :: l.drop (i+1):=List.drop_eq_getElem_cons h
  have hll:((Fc.mrks k (l.take i)).map Fc.enc++l[i].enc :: (l.drop (i+1)).map Fc.enc).length=l.length:=by simp [Fc.mrks_len];omega
  have hai:((Fc.mrks k (l.take i)).map Fc.enc).length=i:=by simp [Fc.mrks_len];omega
  have hnxt:l.take (i+1)=l.take i++[l[i]]:=by rw [List.take_add_one,List.getElem?_eq_getElem h];rfl
  have hcn:Fc.mcnts (l.take (i+1))=Fc.mcnts (l.take i)+l[i].mcnt:=by rw [hnxt,Fc.mcnts_app];simp [Fc.mcnts]
  have hcl:Fc.mcnts l=Fc.mcnts (l.take i)+(l[i].mcnt+Fc.mcnts (l.drop (i+1))):=by
   conv=>lhs;rw [←List.take_append_drop i l,hd,Fc.mcnts_app]
   simp [Fc.mcnts]
  have hmr:Fc.mrks k (l.take (i+1))=Fc.mrks k (l.take i)++[l[i].mrk (k+Fc.mcnts (l.take i))]:=by rw [hnxt,Fc.mrks_app];simp [Fc.mrks]
  have hmc:l[i].mcnt=1+Tm.mcnts l[i].args:=rfl
  rw [hd,List.map_append,List.map_cons]
  have hnx:=fun B' s'=>hnext (i+1,B') s' h (by dsimp only;omega)
  clear hnext
  simp only [hmr,hcn,List.map_append,List.map_cons,List.map_nil,Fc.mrk] at hnx
  generalize hx:l[i]=x at *
  generalize hA:(Fc.mrks k (l.take i)).map Fc.enc=A at *
  generalize hZ:(l.drop (i+1)).map Fc.enc=Z at *
  generalize hk:k+(Fc.mcnts (l.take i):Int)=kk at *
  have s1:=fun (y:List D)=>set_split (x:=x.enc) (y:=y) (r:=Z) hai
  have s2:=fun (y y':List D)=>set_split (x:=y) (y:=y') (r:=Z) hai
  have g1:=fun (y:List D)=>at_split (x:=y) (r:=Z) hai
  have xe:=Fc.enc_eq x
  rw [xe] at hll ⊢
  have zk4:∀zk:Nat,x.args.map Tm.enc≠[]→(∀j,j∈x.args→4=zk)→zk=4:=fun zk hne hz=>by
   cases ha:x.args with
   | nil=>simp [ha] at hne
   | cons a r=>exact (hz a (by simp [ha])).symm
  have hrow:∀ks,(Fc.mk (mText kk) ks).enc=[.str (mText kk),.sl (ks.map Tm.enc)]:=fun ks=>by rw [Fc.enc_eq]
  simp only [hrow,List.append_assoc,List.cons_append,List.nil_append] at hnx
  have g2:=fun (y:List D) (Q:List D→Prop)=>idx_of (g1 y) Q
  refine run_sound Tryz.func28 mixed 200 _ _ (by kernel_rfl) ?_
  simp only [go_sem,seval,hlt,hll,s2,g1,g2]
  repeat' (first
   | (refine lend_intro (fun hk0=>?_) (fun hk1 zk e' B2 B3 hzk=>?_)<;>(try simp only [go_sem,seval,hlt,hll,s2,g1,g2]))
   | (simp (disch:=omega) only [wrap_ok])
   | ((first
    | (refine all_intro (fun Bz=>?_))
    | (refine (markTermS_0 _).calls rfl ?_)
    | (refine (markText_fn _ sd sd).calls rfl ?_)
    | (refine ⟨sd,?_⟩))<;>(try simp only [go_sem,seval,hlt,hll,s2,g1,g2]))
   | fail)
  ·have ha:x.args=[]:=by simpa using hk0
   have hm0:Tm.mcnts x.args=0:=by rw [ha];rfl
   rw [ha] at hnx ⊢
   refine hnx Bz _ ?_
   refine ⟨by simp [mkS],by simp [mkS,Tm.mrks],by simp [mkS,O.refsLt],?_⟩;simp [mkS,Abs.get,C.refsLtT,C.refsLt,C.refsLt1];omega
  ·obtain rfl:=zk4 zk hk1 hzk
   refine (mTT_all x.args (kk+1) 0 e' B3 (by omega) (by omega)).at1 rfl 1 rfl rfl ?_
   rintro c o' ⟨rfl,B4,ho⟩
   cases ho
   refine ⟨rfl,rfl,?_⟩
   simp only [go_sem,seval,C.at1]
   try simp (disch:=omega) only [wrap_ok]
   try simp only [go_sem,seval,C.at1]
   refine AW.rejoin 0 1 rfl rfl (by decide) (fun B5=>?_)
   simp only [go_sem,seval,g1,s2]
   refine hnx B5 _ ?_
   refine ⟨by simp [mkS],by simp [mkS];skip,by simp [mkS,O.refsLt],?_⟩;simp [mkS,Abs.get,C.refsLtT,C.refsLt,C.refsLt1];omega
 ·obtain rfl:i=l.length:=by omega
  refine run_sound Tryz.func28 mixed 200 _ _ (by kernel_rfl) ?_
  simp only [go_sem,seval,Fc.mrks_len,List.take_length,List.drop_length]
  repeat' (first
   | (exact ⟨_,rfl⟩)
   | fail)
theorem heldFactS_T (l:List Fc) (k:Int) (h0:0≤k) (h1:k+Fc.mcnts l≤1000000000):Gives Tryz.prog 29 [.sl ((Fc.mrks k l).map Fc.enc),.int .i64 k] (.d (.int .i64 (k+Fc.mcnts l))):=by
 have hml:=Fc.mrks_len l k
 have hlm:=Fc.len_mcnts l
 refine ACalls.enter (fn:=Tryz.f29) Tryz.func29 rfl (by show 2≤_;decide) ?_
 refine run_sound Tryz.func29 mixed 200 _ _ (by kernel_rfl) ?_
 simp only [go_sem,seval]
 refine AW.lp [0] (fun i:Nat=>[(5,.d (.int .i64 i)),(1,.d (.int .i64 (k+Fc.mcnts (l.take i))))]) (fun H _=>H) (fun i=>i≤l.length) (fun i=>l.length - i) 0 (Nat.zero_le _) (by refine ⟨by simp [mkS],by simp [mkS],by simp [mkS,O.refsLt],?_⟩;simp [mkS,Abs.get,C.refsLtT,C.refsLt,C.refsLt1,Fc.mcnts]) ?_
 intro i hi hnext
 by_cases h:i<l.length
 ·have hlt:(i:Int)<(l.length:Int):=by omega
  have hxi:l[i]? = some l[i]:=List.getElem?_eq_getElem h
  have hat:=Fc.mrks_at l k i _ hxi
  have hnxt:l.take (i+1)=l.take i++[l[i]]:=by rw [List.take_add_one,List.getElem?_eq_getElem h];rfl
  have hcn:Fc.mcnts (l.take (i+1))=Fc.mcnts (l.take i)+l[i].mcnt:=by rw [hnxt,Fc.mcnts_app];simp [Fc.mcnts]
  have hcl:Fc.mcnts l=Fc.mcnts (l.take i)+(l[i].mcnt+Fc.mcnts (l.drop (i+1))):=by
   conv=>lhs;rw [←List.take_append_drop i l,List.drop_eq_getElem_cons h,Fc.mcnts_app]
   simp [Fc.mcnts]
  have hmc:l[i].mcnt=1+Tm.mcnts l[i].args:=rfl
  have hnx:=fun s'=>hnext (i+1) s' h (by omega)
  clear hnext
  simp only [hcn] at hnx
  generalize hx:l[i]=x at *
  generalize hk:k+(Fc.mcnts (l.take i):Int)=kk at *
  generalize hy:x.mrk kk=y at *
  have ye:y.rel=mText kk∧y.args=Tm.mrks (kk+1) x.args:=by
   rw [←hy];exact ⟨rfl,rfl⟩
  have hrec:=hTT_all x.args (kk+1) (by omega) (by omega)
  have w1:IntKind.i64.wrap (kk+1)=kk+1:=wrap_ok (by omega) (by omega)
  refine run_sound Tryz.func29 mixed 200 _ _ (by kernel_rfl) ?_
  simp only [go_sem,seval,hlt,hml,idx_of hat,ye.1,ye.2,w1]
  repeat' (first
   | ((refine br_n (fun hq=>?_) (fun hq=>?_))<;>(try simp only [go_sem,seval,hlt,hml,idx_of hat,ye.1,ye.2,w1,hq]))
   | (simp (disch:=omega) only [wrap_ok])
   | ((first
    | (refine hrec.calls rfl ?_)
    | (refine (markText_fn _ sd sd).callQ rfl ?_))<;>(try simp only [go_sem,seval,hlt,hml,idx_of hat,ye.1,ye.2,w1]))
   | fail)
  all_goals first | (exfalso;omega) | skip
  refine hnx _ ?_
  refine ⟨by simp [mkS],by simp [mkS],by simp [mkS,O.refsLt],?_⟩;simp [mkS,Abs.get,C.refsLtT,C.refsLt,C.refsLt1];omega
 ·obtain rfl:i=l.length:=by omega
  refine run_sound Tryz.func29 mixed 200 _ _ (by kernel_rfl) ?_
  simp only [go_sem,seval,hml,List.take_length]
set_option maxRecDepth 100000
set_option maxHeartbeats 8000000
set_option linter.unusedSimpArgs false
set_option linter.unusedVariables false
def toFcT (t:Fc):Prop:=ACalls Tryz.prog 21 [.d (.agg t.enc)] [.hole] fun c H'=>c=.agg [.d (.str t.rel),.own 0 1]∧∃e B,H'=[.tree 1 4 e (t.args.map Tm.enc) B none]
theorem toFact_T (t:Fc) (hw:wtL t.enc≤1048576):toFcT t:=by
 unfold toFcT
 have hwr:wtR (t.args.map Tm.enc)≤1048576:=by rw [Fc.enc_eq] at hw;simp only [wtL,D.wt] at hw;omega
 have hts:=toTermS_T t.args hwr (fun x hx=>toTerm_T x (by have:=wtL_lt (t.args.map Tm.enc) x.enc (List.mem_map.2 ⟨x,hx,rfl⟩);omega))
 rw [Fc.enc_eq]
 refine ACalls.enter (fn:=Tryz.f21) Tryz.func21 rfl (by show 1≤_;decide) ?_
 refine run_sound Tryz.func21 mixed 200 _ _ (by kernel_rfl) ?_
 simp only [go_sem,seval]
 repeat' (first
  | (exact ⟨_,_,rfl⟩)
  | ((refine ACalls.fresh (ds:=[.sl (t.args.map Tm.enc)]) (m:=1) hts [0] rfl rfl (by simp) (by simp) ?_<;>(rintro c H' ⟨rfl,e1,B1,rfl⟩ _;refine ⟨rfl,rfl,?_⟩))<;>(try simp only [go_sem,seval]))
  | fail)
theorem toFactS_T (l:List Fc) (hw:wtR (l.map Fc.enc)≤1048576):ACalls Tryz.prog 14 [.d (.sl (l.map Fc.enc))] [.hole] (fun c H'=>c=.own 0 1∧∃e B,H'=[.tree 1 2 e (l.map Fc.enc) B none]):=by
 have hlen:l.length≤1048576:=by
  have:=sumW_le (l.map Fc.enc) 0;simp [sumW] at this;omega
 have hl:∀x,x∈l→toFcT x:=fun x hx=>toFact_T x (by have:=wtL_lt (l.map Fc.enc) x.enc (List.mem_map.2 ⟨x,hx,rfl⟩);omega)
 have hmx:maxLen=9223372036854775807:=rfl
 refine ACalls.enter (fn:=Tryz.f14) Tryz.func14 rfl (by show 1≤_;decide) ?_
 refine run_sound Tryz.func14 mixed 200 _ _ (by kernel_rfl) ?_
 simp only [go_sem,seval]
 repeat' (first
  | ((refine ⟨sd,?_⟩)<;>(try simp only [go_sem,seval]))
  | fail)
 refine AW.rowT 3 1 rfl rfl (by simp) (by decide) (fun x hx d hd=>by have e:=List.eq_of_mem_replicate hx;subst e;simp at hd;rcases hd with rfl | rfl<;>rfl) ?_
 refine AW.lp [0,3] (fun p:Nat×(Nat→Prop)=>[(4,.d (.int .i64 p.1))]) (fun _ p=>[.hole,.dead,.tree 0 2 48 ((l.map Fc.enc).take p.1++List.replicate ((l.map Fc.enc).length - p.1) [.str [],.sl []]) p.2 none]) (fun p=>p.1≤l.length) (fun p=>l.length - p.1) (0,fun _=>False) (Nat.zero_le _) (by refine ⟨by simp [mkS],by simp [mkS],by simp [mkS,O.refsLt],?_⟩;simp [mkS,Abs.get,C.refsLtT,C.refsLt,C.refsLt1]) ?_
 rintro ⟨i,B⟩ hi hnext
 dsimp only at hi hnext ⊢
 have hL:(l.map Fc.enc).length=l.length:=by simp
 by_cases h:i<l.length
 ·obtain ⟨x,hxi⟩:∃x,l[i]? = some x:=⟨_,List.getElem?_eq_getElem h⟩
  have hlt:(i:Int)<(l.length:Int):=by omega
  have hx:=hl x (List.mem_of_getElem? hxi)
  unfold toFcT at hx
  have hxe:(l.map Fc.enc)[i]? = some x.enc:=by simp [hxi]
  have hrl:((l.map Fc.enc).take i++List.replicate ((l.map Fc.enc).length - i) [D.str [],.sl []]).length=l.length:=by simp;omega
  have hrs:=row_step (z:=[D.str [],.sl []]) (k:=2) hxe rfl
  generalize hr0:(l.map Fc.enc).take i++List.replicate ((l.map Fc.enc).length - i) [D.str [],.sl []]=r0 at hrl hrs ⊢
  refine AW.hole ?_
  refine run_sound Tryz.func14 mixed 200 _ _ (by kernel_rfl) ?_
  simp only [go_sem,seval,hlt,idx_of hxi,hrl]
  repeat' (first
   | (simp (disch:=omega) only [wrap_ok])
   | ((first
    | (refine ACalls.fresh (ds:=[.agg x.enc]) (m:=1) hx [3] rfl rfl (by simp) (by simp) ?_<;>(rintro c H' ⟨rfl,e1,B1,rfl⟩ _;refine ⟨rfl,rfl,?_⟩))
    | (refine ⟨sd,?_⟩))<;>(try simp only [go_sem,seval,hrl,hlt]))
   | fail)
  intro B'
  rw [Fc.enc_eq x] at hrs
  simp only [List.cons_append,List.nil_append] at hrs
  rw [hrs]
  exact hnext (i+1,B') _ h (by omega) (by refine ⟨by simp [mkS],by simp [mkS],by simp [mkS,O.refsLt],?_⟩;simp [mkS,Abs.get,C.refsLtT,C.refsLt,C.refsLt1])
 ·obtain rfl:i=l.length:=by omega
  have hfull:(l.map Fc.enc).take l.length++List.replicate ((l.map Fc.enc).length - l.length) [D.str [],.sl []]=l.map Fc.enc:=by rw [←hL];exact row_all _ _
  rw [hfull]
  refine AW.place 3 2 0 rfl rfl rfl (by decide) ?_
  refine run_sound Tryz.func14 mixed 200 _ _ (by kernel_rfl) ?_
  simp only [go_sem,seval]
  simp [O.refsLt]
theorem eqTm2_fn:∀t:Tm,wtL t.enc≤2000000→Gives Tryz.prog 42 [.agg t.enc,.agg t.enc] (.d (.bool true)):=by
 intro t
 induction t using Tm.ind' with
 | h t ih =>
  intro hw
  have hmx:maxLen=9223372036854775807:=rfl
  have hl:t.args.length≤2000000:=by
   have h1:wtR (t.args.map Tm.enc)≤2000000:=by simp only [Tm.enc_eq t,wtL,D.wt] at hw;omega
   have:=sumW_le (t.args.map Tm.enc) 0;simp [sumW] at this;omega
  rw [Tm.enc_eq t]
  refine eq42 _ _ _ _ (eq17 _ (by rw [List.length_map];omega) (fun x hx=>?_))
  obtain ⟨y,hy,rfl⟩:=List.mem_map.1 hx
  exact ⟨Tm.enc_len y,ih y hy (by have:=wt_args hy;omega)⟩
def smF (f:FcV):Prop:=f.2.length≤12∧wtR (f.2.map V.enc)≤2000000∧∀v,v∈f.2→v.size≤5000
theorem V.mcnt_tm:∀v:V,Tm.mcnt v.tm=3 * v.size
 | .nil=>rfl
 | .var _=>rfl
 | .sym _=>rfl
 | .num _=>rfl
 | .pair a b=>by simp only [V.tm,Tm.mcnt,Tm.mcnts,V.size,V.mcnt_tm a,V.mcnt_tm b];omega
theorem mcnts_small:∀l:List V,(∀v,v∈l→v.size≤5000)→Tm.mcnts (l.map V.tm)≤15000 * l.length
 | [],_=>by simp [Tm.mcnts]
 | v :: r,h=>by
  have h1:=mcnts_small r (fun v hv=>h v (by simp [hv]))
  have h2:=h v (by simp)
  have h3:=V.mcnt_tm v
  simp only [List.map_cons,Tm.mcnts,List.length_cons];omega
theorem mcntF_small:∀l:List FcV,(∀f,f∈l→smF f)→Fc.mcnts (l.map FcV.fc)≤180001 * l.length
 | [],_=>by simp [Fc.mcnts]
 | f :: r,h=>by
  have h1:=mcntF_small r (fun v hv=>h v (by simp [hv]))
  have h2:=h f (by simp)
  have h3:=mcnts_small f.2 h2.2.2
  have h4:=h2.1
  have h5:(FcV.fc f).mcnt=1+Tm.mcnts (f.2.map V.tm):=rfl
  simp only [List.map_cons,Fc.mcnts,List.length_cons];omega
theorem fcE_map (l:List FcV):l.map fcE=(l.map FcV.fc).map Fc.enc:=by rw [List.map_map];rfl
theorem eqFcS_of (l:List FcV) (hm:l.length≤1000000) (hw:∀f,f∈l→smF f):Gives Tryz.prog 18 [.sl (l.map fcE),.sl (l.map fcE)] (.d (.bool true)):=by
 have hmx:maxLen=9223372036854775807:=rfl
 refine eq18 (l.map fcE) (by rw [List.length_map];omega) (fun x hx=>?_)
 obtain ⟨f,hf,rfl⟩:=List.mem_map.1 hx
 refine ⟨fcE_len f,?_⟩
 obtain ⟨h1,h2,_⟩:=hw f hf
 rw [fcE_eq]
 refine eq23 _ _ (eq17 _ (by rw [List.length_map];omega) (fun x hx=>?_))
 obtain ⟨v,hv,rfl⟩:=List.mem_map.1 hx
 refine ⟨V.enc_len v,?_⟩
 have h3:=wtR_mem (l:=f.2.map V.enc) hx
 exact eqTm2_fn v.tm (Nat.le_trans h3 h2)
theorem small_of {u:List V} (hu:Uni u) {l:List FcV} (h:∀f,f∈l→(∀v,v∈f.2→v∈u)∧f.2.length≤12):∀f,f∈l→smF f:=fun f hf=>by
 refine ⟨(h f hf).2,oksU_wt hu h f hf,fun v hv=>?_⟩
 have:=hu.ok v ((h f hf).1 v hv)
 unfold V.ok at this
 simp only [Bool.and_eq_true,decide_eq_true_eq] at this
 exact this.2
theorem csq_small {p:Pg} {u:List Tm} {fs:List Fc} {L:List FcV} (h:Pg.csq p u fs=some L):L.length≤2000∧∀f,f∈L→smF f:=by
 unfold Pg.csq at h
 split at h
 ·rename_i h3
  obtain ⟨hu,_⟩:=Uni.of h3.2.1
  cases hg:p.gr (u.map Tm.V) with
  | none=>rw [hg] at h;cases h
  | some rs =>
   rw [hg,Option.map_some] at h
   cases h
   obtain ⟨_,hrl⟩:=gr_mem hg
   have hnl:=nextF_len rs (fs.map Fc.toV) (fs.map Fc.toV)
   exact ⟨by omega,small_of hu (next_head h3.1 hu hg _ _)⟩
 ·cases h
end Go.Proofs.YtockpdkdnlkkfaaGreat
