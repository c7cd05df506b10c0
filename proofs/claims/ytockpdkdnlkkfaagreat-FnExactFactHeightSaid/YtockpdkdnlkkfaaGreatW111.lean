import Derived.Test.YtockpdkdnlkkfaaGreatW110
namespace Go.Proofs.YtockpdkdnlkkfaaGreat
open Go.Abs
set_option maxRecDepth 100000
set_option maxHeartbeats 8000000
set_option linter.unusedSimpArgs false
set_option linter.unusedVariables false
theorem l18CmpV_fn (a b:FcV):Gives Tryz.prog 65 [.agg [.str a.1,.sl (a.2.map V.enc)],.agg [.str b.1,.sl (b.2.map V.enc)]] (.d (.int .i64 (a.cmp b))):=by
 have h:Gives Tryz.prog 65 [.agg (fcE a),.agg (fcE b)] (.d (.int .i64 (a.cmp b))):=l18Cmp_fn a.1 b.1 a.2 b.2
 rw [fcE_eq,fcE_eq] at h;exact h
theorem l18Has_fn (l:List FcV) (f:FcV) (hl:l.length≤9000000):Gives Tryz.prog 36 [.sl (l.map fcE),.agg (fcE f)] (.d (.bool (decide (f∈l)))):=by
 obtain ⟨K,hK⟩:∃K,decide (f∈l)=K:=⟨_,rfl⟩
 rw [hK,fcE_eq]
 refine ACalls.enter (fn:=Tryz.f36) Tryz.func36 rfl (by show 2≤_;decide) ?_
 refine run_sound Tryz.func36 mixed 200 _ _ (by kernel_rfl) ?_
 simp only [go_sem,seval]
 refine AW.rng l [3,7,8] 9 7 (fun _:Unit=>[]) (fun H _=>H) (fun r _=>decide (f∈r)=K) () rfl (by simp) hK (by refine ⟨by simp [mkS],by simp [mkS],by simp only [mkS,List.all_cons,List.all_nil,O.refsLt,C.refsLt,C.refsLt1,all_dmap];first | done | rfl | (simp;done),?_⟩;simp [mkS,Abs.get,C.refsLtT,C.refsLt,C.refsLt1]) (fun j y q b hyj hdr2 hlt2 hm2 hinv2 hnext2=>?_) (fun b hinv2=>?_)
 ·have he:=l18CmpV_fn y f
  by_cases hc:y.cmp f=0
  ·have hyf:=(FcV.cmp_lin.zero _ _).1 hc
   rw [hc] at he
   subst hyf
   simp only [List.mem_cons,true_or,decide_true] at hinv2
   rw [←hinv2]
   refine run_sound Tryz.func36 mixed 200 _ _ (by kernel_rfl) ?_
   simp only [go_sem,seval,hlt2,idx_of hyj,fcE_eq]
   repeat' (first
    | ((refine he.calls rfl ?_)<;>(try simp only [go_sem,seval,hlt2,idx_of hyj,fcE_eq]))
    | fail)
  ·have hyf:¬f=y:=fun e=>hc ((FcV.cmp_lin.zero _ _).2 e.symm)
   simp only [List.mem_cons,hyf,false_or] at hinv2
   refine run_sound Tryz.func36 mixed 200 _ _ (by kernel_rfl) ?_
   simp only [go_sem,seval,hlt2,idx_of hyj,fcE_eq,hc]
   repeat' (first
    | (simp (disch:=omega) only [wrap_ok])
    | (refine hnext2 () _ hinv2 (by refine ⟨by simp [mkS],by simp [mkS],by simp only [mkS,List.all_cons,List.all_nil,O.refsLt,C.refsLt,C.refsLt1,all_dmap];first | done | rfl | (simp;done),?_⟩;simp [mkS,Abs.get,C.refsLtT,C.refsLt,C.refsLt1]))
    | ((refine he.calls rfl ?_)<;>(try simp only [go_sem,seval,hlt2,idx_of hyj,fcE_eq,hc]))
    | fail)
   all_goals exact absurd (by assumption) hc
 ·simp only [List.not_mem_nil,decide_false] at hinv2
  rw [←hinv2]
  refine run_sound Tryz.func36 mixed 200 _ _ (by kernel_rfl) ?_
  simp only [go_sem,seval]
theorem l18Insert_fn (l:List FcV) (f:FcV) (ha:ascC FcV.cmp l) (hl:l.length≤1000000):Gives Tryz.prog 89 [.sl (l.map fcE),.agg (fcE f)] (.d (.sl ((insC FcV.cmp l f).map fcE))):=by
 have hmx:maxLen=9223372036854775807:=rfl
 have hmap:∀x:List FcV,(x.map fcE).length=x.length:=fun x=>List.length_map _
 obtain ⟨RES,hRES⟩:∃RES,insC FcV.cmp l f=RES:=⟨_,rfl⟩
 have hFe:=fcE_eq f
 rw [hRES,hFe]
 refine ACalls.enter (fn:=Tryz.f89) Tryz.func89 rfl (by show 2≤_;decide) ?_
 refine run_sound Tryz.func89 mixed 200 _ _ (by kernel_rfl) ?_
 simp only [go_sem,seval,hmap]
 refine AW.lp [0,3] (fun k:Nat=>[(5,.d (.int .i64 (k:Int)))]) (fun H _=>H) (fun k=>k≤l.length∧∀i y,k≤i→l[i]? = some y→¬y.cmp f<0) (fun k=>k) l.length ⟨Nat.le_refl _,fun i y hi hy=>by have:=(List.getElem?_eq_some_iff.1 hy).1;omega⟩ (by refine ⟨by simp [mkS],by simp [mkS],by simp only [mkS,List.all_cons,List.all_nil,O.refsLt,C.refsLt,C.refsLt1,all_dmap];first | done | rfl | (simp;done),?_⟩;simp [mkS,Abs.get,C.refsLtT,C.refsLt,C.refsLt1]) ?_
 intro k hk hnk
 obtain ⟨k1,k2⟩:=hk
 have stop:(∀i y,i<k→l[i]? = some y→y.cmp f<0)→insC FcV.cmp l f=if eqAt FcV.cmp l k f then l else l.take k++f :: l.drop k:=fun h=>insC_at FcV.cmp_lin l f k ha k1 h k2
 by_cases hkz:k=0
 ·have n1:¬(0:Int)<(k:Int):=by omega
  have hst:=stop (fun i y hi=>by omega)
  clear stop hnk
  rw [hRES] at hst
  have hks:(0:Int)≤(k:Int):=by omega
  cases hlk:l[k]? with
  | none =>
   have hkl:k=l.length:=by have:=List.getElem?_eq_none_iff.1 hlk;omega
   have m1:¬(k:Int)<(l.length:Int):=by omega
   have hq:eqAt FcV.cmp l k f=false:=by unfold eqAt;rw [hlk]
   rw [hq,if_neg (by simp)] at hst
   rw [hst]
   refine run_sound Tryz.func89 mixed 200 _ _ (by kernel_rfl) ?_
   simp only [go_sem,seval,n1,hmap,m1,hks]
   skip
   repeat' (first
    | ((refine ⟨sd,?_⟩)<;>(try simp only [go_sem,seval,n1,hmap,m1,hks]))
    | fail)
   all_goals simp [hFe,List.map_take,List.map_drop]
  | some z =>
   have m1:(k:Int)<(l.length:Int):=by have:=(List.getElem?_eq_some_iff.1 hlk).1;omega
   have hz:=l18CmpV_fn z f
   by_cases hzf:z.cmp f=0
   ·have hq:eqAt FcV.cmp l k f=true:=by unfold eqAt;rw [hlk];simp [hzf]
    rw [hq,if_pos rfl] at hst
    rw [hzf] at hz
    rw [hst]
    refine run_sound Tryz.func89 mixed 200 _ _ (by kernel_rfl) ?_
    simp only [go_sem,seval,n1,hmap,m1,hks,idx_of hlk,fcE_eq]
    skip
    repeat' (first
     | ((refine hz.callQ rfl ?_)<;>(try simp only [go_sem,seval,n1,hmap,m1,hks,idx_of hlk,fcE_eq]))
     | fail)
   ·have hq:eqAt FcV.cmp l k f=false:=by unfold eqAt;rw [hlk];simp [hzf]
    rw [hq,if_neg (by simp)] at hst
    rw [hst]
    refine run_sound Tryz.func89 mixed 200 _ _ (by kernel_rfl) ?_
    simp only [go_sem,seval,n1,hmap,m1,hks,idx_of hlk,fcE_eq,hzf]
    skip
    repeat' (first
     | ((first
      | (refine hz.callQ rfl ?_)
      | (refine ⟨sd,?_⟩))<;>(try simp only [go_sem,seval,n1,hmap,m1,hks,idx_of hlk,fcE_eq,hzf]))
     | fail)
    all_goals first | (exact absurd (by assumption) hzf) | skip
    all_goals simp [hFe,List.map_take,List.map_drop]
 ·obtain ⟨y,hy⟩:∃y,l[k - 1]? = some y:=⟨_,List.getElem?_eq_getElem (by omega)⟩
  have n1:(0:Int)<(k:Int):=by omega
  have w1:IntKind.i64.wrap ((k:Int) - 1)=((k - 1:Nat):Int):=by rw [wrap_ok (by omega) (by omega)];omega
  have n2:((k - 1:Nat):Int)<(l.length:Int):=by omega
  have he:=l18CmpV_fn y f
  by_cases hc:y.cmp f<0
  ·have hc':¬(0:Int)≤y.cmp f:=by omega
   have hst:=stop (fun i z hi hz=>by
    by_cases e:i=k - 1
    ·subst e;rw [hz] at hy;cases hy;exact hc
    ·exact FcV.cmp_lin.tr _ _ _ (ascC_at ha (show i<k - 1 by omega) hz hy) hc)
   clear stop hnk
   rw [hRES] at hst
   have hks:(0:Int)≤(k:Int):=by omega
   cases hlk:l[k]? with
   | none =>
    have hkl:k=l.length:=by have:=List.getElem?_eq_none_iff.1 hlk;omega
    have m1:¬(k:Int)<(l.length:Int):=by omega
    have hq:eqAt FcV.cmp l k f=false:=by unfold eqAt;rw [hlk]
    rw [hq,if_neg (by simp)] at hst
    rw [hst]
    refine run_sound Tryz.func89 mixed 200 _ _ (by kernel_rfl) ?_
    simp only [go_sem,seval,n1,w1,n2,idx_of hy,hmap,fcE_eq,hc,hc',m1,hks]
    repeat' (first
     | ((first
      | (refine he.callQ rfl ?_)
      | (refine ⟨sd,?_⟩))<;>(try simp only [go_sem,seval,n1,w1,n2,idx_of hy,hmap,fcE_eq,hc,hc',m1,hks]))
     | fail)
    all_goals simp [hFe,List.map_take,List.map_drop]
   | some z =>
    have m1:(k:Int)<(l.length:Int):=by have:=(List.getElem?_eq_some_iff.1 hlk).1;omega
    have hz:=l18CmpV_fn z f
    by_cases hzf:z.cmp f=0
    ·have hq:eqAt FcV.cmp l k f=true:=by unfold eqAt;rw [hlk];simp [hzf]
     rw [hq,if_pos rfl] at hst
     rw [hzf] at hz
     rw [hst]
     refine run_sound Tryz.func89 mixed 200 _ _ (by kernel_rfl) ?_
     simp only [go_sem,seval,n1,w1,n2,idx_of hy,hmap,fcE_eq,hc,hc',m1,hks,idx_of hlk,fcE_eq]
     repeat' (first
      | ((first
       | (refine he.callQ rfl ?_)
       | (refine hz.callQ rfl ?_))<;>(try simp only [go_sem,seval,n1,w1,n2,idx_of hy,hmap,fcE_eq,hc,hc',m1,hks,idx_of hlk,fcE_eq]))
      | fail)
    ·have hq:eqAt FcV.cmp l k f=false:=by unfold eqAt;rw [hlk];simp [hzf]
     rw [hq,if_neg (by simp)] at hst
     rw [hst]
     refine run_sound Tryz.func89 mixed 200 _ _ (by kernel_rfl) ?_
     simp only [go_sem,seval,n1,w1,n2,idx_of hy,hmap,fcE_eq,hc,hc',m1,hks,idx_of hlk,fcE_eq,hzf]
     repeat' (first
      | ((first
       | (refine he.callQ rfl ?_)
       | (refine hz.callQ rfl ?_)
       | (refine ⟨sd,?_⟩))<;>(try simp only [go_sem,seval,n1,w1,n2,idx_of hy,hmap,fcE_eq,hc,hc',m1,hks,idx_of hlk,fcE_eq,hzf]))
      | fail)
     all_goals first | (exact absurd (by assumption) hzf) | skip
     all_goals simp [hFe,List.map_take,List.map_drop]
  ·have hc':(0:Int)≤y.cmp f:=by omega
   refine run_sound Tryz.func89 mixed 200 _ _ (by kernel_rfl) ?_
   simp only [go_sem,seval,n1,w1,n2,idx_of hy,hmap,fcE_eq,hc,hc']
   repeat' (first
    | ((refine he.callQ rfl ?_)<;>(try simp only [go_sem,seval,n1,w1,n2,idx_of hy,hmap,fcE_eq,hc,hc']))
    | fail)
   refine hnk (k - 1) _ ⟨by omega,fun i z hi hz=>?_⟩ (by omega) (by refine ⟨by simp [mkS],by simp [mkS],by simp only [mkS,List.all_cons,List.all_nil,O.refsLt,C.refsLt,C.refsLt1,all_dmap];first | done | rfl | (simp;done),?_⟩;simp [mkS,Abs.get,C.refsLtT,C.refsLt,C.refsLt1])
   by_cases e:i=k - 1
   ·subst e;rw [hz] at hy;cases hy;exact hc
   ·exact k2 i z (by omega) hz
theorem l19Fires_fn (r:RV) (F G:List FcV) (hF:F.length≤9000000) (hG:G.length≤9000000):Gives Tryz.prog 88 [.agg (rvE r),.sl (F.map fcE),.sl (G.map fcE)] (.d (.bool (r.fires F G))):=by
 obtain ⟨K,hK⟩:∃K,r.fires F G=K:=⟨_,rfl⟩
 rw [hK,rvE_eq]
 unfold RV.fires at hK
 refine ACalls.enter (fn:=Tryz.f88) Tryz.func88 rfl (by show 3≤_;decide) ?_
 refine run_sound Tryz.func88 mixed 200 _ _ (by kernel_rfl) ?_
 simp only [go_sem,seval]
 refine AW.rng r.pos [1,2,3,12,13] 14 12 (fun _:Unit=>[]) (fun H _=>H) (fun q _=>((q.all fun f=>decide (f∈F)) && r.neg.all fun f=>!decide (f∈G))=K) () rfl (by simp) hK (by refine ⟨by simp [mkS],by simp [mkS],by simp only [mkS,List.all_cons,List.all_nil,O.refsLt,C.refsLt,C.refsLt1,all_dmap];first | done | rfl | (simp;done),?_⟩;simp [mkS,Abs.get,C.refsLtT,C.refsLt,C.refsLt1]) (fun j y q b hyj hdr2 hlt2 hm2 hinv2 hnext2=>?_) (fun b hinv2=>?_)
 ·have he:=l18Has_fn F y hF
  rw [fcE_eq] at he
  rw [List.all_cons] at hinv2
  generalize decide (y∈F)=b2 at he hinv2
  cases b2 with
  | true =>
   rw [Bool.true_and] at hinv2
   refine run_sound Tryz.func88 mixed 200 _ _ (by kernel_rfl) ?_
   simp only [go_sem,seval,hlt2,idx_of hyj,fcE_eq]
   repeat' (first
    | (simp (disch:=omega) only [wrap_ok])
    | (refine hnext2 () _ hinv2 (by refine ⟨by simp [mkS],by simp [mkS],by simp only [mkS,List.all_cons,List.all_nil,O.refsLt,C.refsLt,C.refsLt1,all_dmap];first | done | rfl | (simp;done),?_⟩;simp [mkS,Abs.get,C.refsLtT,C.refsLt,C.refsLt1]))
    | ((refine he.calls rfl ?_)<;>(try simp only [go_sem,seval,hlt2,idx_of hyj,fcE_eq]))
    | fail)
  | false =>
   simp only [Bool.false_and] at hinv2
   rw [←hinv2]
   refine run_sound Tryz.func88 mixed 200 _ _ (by kernel_rfl) ?_
   simp only [go_sem,seval,hlt2,idx_of hyj,fcE_eq]
   repeat' (first
    | ((refine he.calls rfl ?_)<;>(try simp only [go_sem,seval,hlt2,idx_of hyj,fcE_eq]))
    | fail)
 ·rw [List.all_nil,Bool.true_and] at hinv2
  refine run_sound Tryz.func88 mixed 200 _ _ (by kernel_rfl) ?_
  simp only [go_sem,seval]
  refine AW.rng r.neg [2,24,25] 26 24 (fun _:Unit=>[]) (fun H _=>H) (fun q _=>(q.all fun f=>!decide (f∈G))=K) () rfl (by simp) hinv2 (by refine ⟨by simp [mkS],by simp [mkS],by simp only [mkS,List.all_cons,List.all_nil,O.refsLt,C.refsLt,C.refsLt1,all_dmap];first | done | rfl | (simp;done),?_⟩;simp [mkS,Abs.get,C.refsLtT,C.refsLt,C.refsLt1]) (fun j y q b hyj hdr2 hlt2 hm2 hinv3 hnext2=>?_) (fun b hinv3=>?_)
  ·have he:=l18Has_fn G y hG
   rw [fcE_eq] at he
   rw [List.all_cons] at hinv3
   generalize decide (y∈G)=b2 at he hinv3
   cases b2 with
   | false =>
    rw [Bool.not_false,Bool.true_and] at hinv3
    refine run_sound Tryz.func88 mixed 200 _ _ (by kernel_rfl) ?_
    simp only [go_sem,seval,hlt2,idx_of hyj,fcE_eq]
    repeat' (first
     | (simp (disch:=omega) only [wrap_ok])
     | (refine hnext2 () _ hinv3 (by refine ⟨by simp [mkS],by simp [mkS],by simp only [mkS,List.all_cons,List.all_nil,O.refsLt,C.refsLt,C.refsLt1,all_dmap];first | done | rfl | (simp;done),?_⟩;simp [mkS,Abs.get,C.refsLtT,C.refsLt,C.refsLt1]))
     | ((refine he.calls rfl ?_)<;>(try simp only [go_sem,seval,hlt2,idx_of hyj,fcE_eq]))
     | fail)
   | true =>
    simp only [Bool.not_true,Bool.false_and] at hinv3
    rw [←hinv3]
    refine run_sound Tryz.func88 mixed 200 _ _ (by kernel_rfl) ?_
    simp only [go_sem,seval,hlt2,idx_of hyj,fcE_eq]
    repeat' (first
     | ((refine he.calls rfl ?_)<;>(try simp only [go_sem,seval,hlt2,idx_of hyj,fcE_eq]))
     | fail)
  ·rw [List.all_nil] at hinv3
   rw [←hinv3]
   refine run_sound Tryz.func88 mixed 200 _ _ (by kernel_rfl) ?_
   simp only [go_sem,seval]
theorem l19Next_fn (rs:List RV) (F G:List FcV) (hF:F.length≤9000000) (hG:G.length≤9000000) (hr:rs.length≤1000000):Gives Tryz.prog 53 [.sl (rs.map rvE),.sl (F.map fcE),.sl (G.map fcE)] (.d (.sl ((nextF rs F G).map fcE))):=by
 obtain ⟨RES,hRES⟩:∃RES,nextF rs F G=RES:=⟨_,rfl⟩
 rw [hRES]
 refine ACalls.enter (fn:=Tryz.f53) Tryz.func53 rfl (by show 3≤_;decide) ?_
 refine run_sound Tryz.func53 mixed 200 _ _ (by kernel_rfl) ?_
 simp only [go_sem,seval]
 refine AW.nilG 7 rfl ?_
 refine AW.rng rs [1,2,11,12] 13 11 (fun L:List FcV=>[(7,.d (.sl (L.map fcE)))]) (fun H _=>H) (fun r L=>∃d,rs=d++r∧L=sortC FcV.cmp ((d.filter (RV.fires F G)).map RV.head)) [] rfl (by simp) ⟨[],rfl,rfl⟩ (by refine ⟨by simp [mkS],by simp [mkS],by simp only [mkS,List.all_cons,List.all_nil,O.refsLt,C.refsLt,C.refsLt1,all_dmap];first | done | rfl | (simp;done),?_⟩;simp [mkS,Abs.get,C.refsLtT,C.refsLt,C.refsLt1]) (fun i x r L hxi hdr hlt hm hinv hnext=>?_) (fun L hinv=>?_)
 ·obtain ⟨d,d1,d2⟩:=hinv
  have hLl:L.length≤1000000:=by
   have h0:=sortC_len (c:=FcV.cmp) ((d.filter (RV.fires F G)).map RV.head)
   rw [←d2,List.length_map] at h0
   have h1:=List.length_filter_le (RV.fires F G) d
   have h2:=congrArg List.length d1
   simp at h2;omega
  have hLa:ascC FcV.cmp L:=by rw [d2];exact sortC_asc FcV.cmp_lin _
  have hfr:=l19Fires_fn x F G hF hG
  have hin:=l18Insert_fn L x.head hLa hLl
  rw [fcE_eq] at hin
  rw [rvE_eq] at hfr
  have hnext:=fun (L':List FcV) s' (h:L'=(if x.fires F G=true then insC FcV.cmp L x.head else L))=>hnext L' s' ⟨d++[x],by rw [d1];simp,by rw [h,d2,List.filter_append,List.map_append];unfold sortC;rw [List.foldl_append];cases hq:x.fires F G<;>simp [hq]⟩
  clear d1 d2
  generalize x.fires F G=b at *
  cases b with
  | true =>
   refine run_sound Tryz.func53 mixed 200 _ _ (by kernel_rfl) ?_
   simp only [go_sem,seval,hlt,idx_of hxi,rvE_eq]
   repeat' (first
    | (simp (disch:=omega) only [wrap_ok])
    | ((first
     | (refine hfr.calls rfl ?_)
     | (refine hin.calls rfl ?_))<;>(try simp only [go_sem,seval,hlt,idx_of hxi,rvE_eq]))
    | fail)
   refine hnext (insC FcV.cmp L x.head) _ rfl (by refine ⟨by simp [mkS],by simp [mkS],by simp only [mkS,List.all_cons,List.all_nil,O.refsLt,C.refsLt,C.refsLt1,all_dmap];first | done | rfl | (simp;done),?_⟩;simp [mkS,Abs.get,C.refsLtT,C.refsLt,C.refsLt1])
  | false =>
   refine run_sound Tryz.func53 mixed 200 _ _ (by kernel_rfl) ?_
   simp only [go_sem,seval,hlt,idx_of hxi,rvE_eq]
   repeat' (first
    | (simp (disch:=omega) only [wrap_ok])
    | ((refine hfr.calls rfl ?_)<;>(try simp only [go_sem,seval,hlt,idx_of hxi,rvE_eq]))
    | fail)
   refine hnext L _ rfl (by refine ⟨by simp [mkS],by simp [mkS],by simp only [mkS,List.all_cons,List.all_nil,O.refsLt,C.refsLt,C.refsLt1,all_dmap];first | done | rfl | (simp;done),?_⟩;simp [mkS,Abs.get,C.refsLtT,C.refsLt,C.refsLt1])
 ·obtain ⟨d,d1,d2⟩:=hinv
  rw [List.append_nil] at d1
  subst d1
  rw [show RES=L from by rw [←hRES,d2];rfl]
  refine run_sound Tryz.func53 mixed 200 _ _ (by kernel_rfl) ?_
  simp only [go_sem,seval]
theorem nextF_ext (rs:List RV) {F G:List FcV} (h:∀f,f∈F↔f∈G):nextF rs F F=nextF rs G G:=by
 unfold nextF
 congr 2
 refine List.filter_congr fun r _=>?_
 unfold RV.fires
 simp only [h]
end Go.Proofs.YtockpdkdnlkkfaaGreat
