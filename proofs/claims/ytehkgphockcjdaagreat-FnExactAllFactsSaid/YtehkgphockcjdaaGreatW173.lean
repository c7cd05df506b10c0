import Derived.Test.YtehkgphockcjdaaGreatW108
import Derived.Test.YtehkgphockcjdaaGreatW111
import Derived.Test.YtehkgphockcjdaaGreatW112
import Derived.Test.YtehkgphockcjdaaGreatP16
open List renaming all_cons→a_,all_nil→b_,length_map→c_
namespace Go.Proofs.YtehkgphockcjdaaGreat
open Go.Abs
set_option maxRecDepth 100000
set_option maxHeartbeats 8000000
set_option linter.unusedSimpArgs false
set_option linter.unusedVariables false
def allF (p:Pg) (u:List Tm):Option (List FcV):=if pgOk p=true∧uniOk u=true then allI p (u.map Tm.V) else none
def afC (o:Option (List FcV)):C:=match o with | some l=>.tup [.d (.sl (l.map fcE)),.d (.bool true)] | none=>.tup [.d (.sl []),.d (.bool false)]
theorem afC_none:afC none=.tup [.d (.sl []),.d (.bool false)]:=rfl
theorem afC_some (l:List FcV):afC (some l)=.tup [.d (.sl (l.map fcE)),.d (.bool true)]:=rfl
theorem rngA {n:Nat} (h:n≤4):List.take n [[D.int .i64 0],[D.int .i64 1],[D.int .i64 2],[D.int .i64 3]]=intsD ((List.range n).map fun i:Nat=>(i:Int)):=by
 rcases (show n=0∨n=1∨n=2∨n=3∨n=4 by omega) with rfl | rfl | rfl | rfl | rfl<;>rfl
theorem swaysA {b L:Nat}:∀n k,sways b L n k≤max k (L * b)
 | 0,k=>by simp only [sways];omega
 | n+1,k=>by
  simp only [sways]
  split
  ·have h1:=swaysA (b:=b) (L:=L) n (k * b)
   have h2:k * b≤L * b:=Nat.mul_le_mul_right _ (by assumption)
   omega
  ·omega
theorem rdrop {W k:Nat} (h:k<W):(List.range W).drop k=k :: (List.range W).drop (k+1):=by
 rw [List.drop_eq_getElem_cons (by simpa using h),List.getElem_range]
theorem rdropE {W k:Nat} (h:¬k<W):(List.range W).drop k=[]:=List.drop_eq_nil_of_le (by simp;omega)
theorem sAllFacts_D (p:Pg) (u:List Tm) (hw:wtL p.enc≤1048576) (hwu:∀t,t∈u→wtL t.enc≤1048576) (hlu:u.length≤9000000):Gives Tryz.prog 6 [.agg p.enc,.sl (u.map Tm.enc)] (afC (allF p u)):=by
 have hmx:maxLen=9223372036854775807:=rfl
 have hok:=sProgramOk_fn p (by omega)
 have hun:=sUniverseOk_fn u hwu hlu
 unfold allF
 by_cases hp:pgOk p=true
 ·rw [hp] at hok
  by_cases hq:uniOk u=true
  ·rw [hq] at hun
   rw [if_pos ⟨hp,hq⟩]
   obtain ⟨hu,hue⟩:=Uni.of hq
   rw [←all_same hp hu]
   have hUe:u.map Tm.enc=(u.map Tm.V).map V.enc:=by have h:=congrArg (List.map Tm.enc) hue;rw [enc_tms] at h;exact h
   rw [hUe] at hun ⊢
   generalize u.map Tm.V=U at *
   clear hue hwu hlu hq
   obtain ⟨FIN,hFIN⟩:∃x,(p.rels.flatMap (seqF U)).foldl addF []=x:=⟨_,rfl⟩
   unfold allS
   rw [hFIN]
   have hul:=hu.le
   have hup:=hu.pos
   have hmu:(U.map V.enc).length=U.length:=c_ _
   have hmf:∀l:List FcV,(l.map fcE).length=l.length:=fun l=>c_ _
   refine aE_ Tryz.func6 ?_
   refine rS_ Tryz.func6 ?_
   simp only [go_sem,seval]
   repeat' (first
    | ((first
     | (refine hok.calls rfl ?_)
     | (refine hun.calls rfl ?_))<;>(try simp only [go_sem,seval]))
    | fail)
   refine AW.nilG 6 rfl ?_
   refine rS_ Tryz.func6 ?_
   simp only [go_sem,seval]
   refine AW.rng p.rels [1,24,25] 26 24 (fun F:List FcV=>[(6,.d (.sl (F.map fcE)))]) (fun _ _=>[.box [.d (.sl (p.rels.map Rl.enc))]]) (fun q F=>ascC FcV.cmp F∧F.length≤2001∧(q.flatMap (seqF U)).foldl addF F=FIN∧∀f,f∈F→(∀v,v∈f.2→v∈U)∧f.2.length≤12) [] rfl (by simp) ⟨List.Pairwise.nil,by simp,hFIN,fun f hf=>by cases hf⟩ (by refine ⟨by simp [mkS,Pg.enc_eq],by simp [mkS,Pg.enc_eq],by simp only [mkS,a_,b_,O.refsLt,C.refsLt,C.refsLt1,all_dmap];first | done | rfl | (simp;done),?_⟩;simp [mkS,Abs.get,C.refsLtT,C.refsLt,C.refsLt1]) (fun ii x s F hxi hdr hlt hm hinv hnext=>?_) (fun F hinv=>?_)
   ·obtain ⟨i1,i2,i4,i3⟩:=hinv
    have hxm:=List.mem_of_getElem? hxi
    obtain ⟨z1,z2,z3,z4⟩:=Pg.dims hp hxm
    obtain ⟨a,ha,ha4⟩:∃a:Nat,x.arity=(a:Int)∧a≤4:=⟨x.arity.toNat,by omega,by omega⟩
    have hRe:=Rl.enc_eq x
    rw [ha] at hRe
    have hwy:=l08Ways_fn U.length a 2000 hul (by omega) (by omega)
    have hsw:=swaysA (b:=U.length) (L:=2000) a 1
    have hsw2:sways U.length 2000 a 1≤16000:=by
     have:2000 * U.length≤2000 * 8:=Nat.mul_le_mul_left _ hul
     omega
    clear hsw
    rw [List.flatMap_cons] at i4
    have hsq:seqF U x=(List.range (sways U.length 2000 a 1)).map fun k=>(x.name,gVals U a k):=by
     unfold seqF
     rw [show x.arity.toNat=a by omega]
    rw [hsq] at i4
    generalize sways U.length 2000 a 1=W at *
    have wi:IntKind.i64.wrap ((ii:Int)+1)=(ii:Int)+1:=by rw [wrap_ok (by omega) (by omega)]
    refine rS_ Tryz.func6 ?_
    simp only [go_sem,seval,hlt,idx_of hxi,hRe,ha,hmu]
    repeat' (first
     | ((refine hwy.calls rfl ?_)<;>(try simp only [go_sem,seval,hlt,idx_of hxi,hRe,ha,hmu]))
     | fail)
    refine AW.lp [1,8,9,24,25,26] (fun y:Nat×List FcV=>[(10,.d (.int .i64 (y.1:Int))),(6,.d (.sl (y.2.map fcE)))]) (fun _ _=>[.box [.d (.sl (p.rels.map Rl.enc))],.box (x.enc.map .d)]) (fun y=>y.1≤W∧ascC FcV.cmp y.2∧y.2.length≤2001∧((((List.range W).drop y.1).map fun k=>(x.name,gVals U a k))++s.flatMap (seqF U)).foldl addF y.2=FIN∧∀f,f∈y.2→(∀v,v∈f.2→v∈U)∧f.2.length≤12) (fun y=>W - y.1) (0,F) ⟨Nat.zero_le _,i1,i2,i4,i3⟩ (by refine ⟨by simp [mkS,hRe],by simp [mkS,hRe],by simp only [mkS,a_,b_,O.refsLt,C.refsLt,C.refsLt1,all_dmap];first | done | rfl | (simp;done),?_⟩;simp [mkS,Abs.get,C.refsLtT,C.refsLt,C.refsLt1]) ?_
    rintro ⟨k,F⟩ ⟨j0,j1,j2,j4,j3⟩ hnx
    dsimp only at j0 j1 j2 j3 j4 hnx ⊢
    clear i1 i2 i3 i4
    by_cases hc:k<W∧F.length≤2000
    ·have n1:(k:Int)<(W:Int):=by omega
     have n2:(F.length:Int)≤2000:=by omega
     have wk:IntKind.i64.wrap ((k:Int)+1)=(k:Int)+1:=by rw [wrap_ok (by omega) (by omega)]
     have hvs:=l08Values_fn U a k hup (by omega) (by omega) (by omega)
     have hGl:=gVals_len U a k
     have hGm:=gVals_mem hup a k
     rw [rdrop hc.1,List.map_cons,List.cons_append,List.foldl_cons] at j4
     generalize gVals U a k=G at *
     have hr4:=rngA ha4
     have hbl:(bdD G).length=G.length:=by unfold bdD;rw [c_,bdsF_len]
     refine run_sound Tryz.func6 mixed 10 _ _ (by kernel_rfl) ?_
     simp only [go_sem,seval,run.eq_1,n1,n2,hRe,ha]
     refine AW.adoptGB 2 1 4 62 (by decide) rfl rfl ?_
     refine rS_ Tryz.func6 ?_
     simp only [go_sem,seval,hRe,ha,hr4]
     repeat' (first
      | ((first
       | (refine hvs.calls rfl ?_)
       | (refine ⟨sd,?_⟩))<;>(try simp only [go_sem,seval,hRe,ha,hr4,hbl]))
      | fail)
     refine AW.rng G [1,6,8,9,10,11,24,25,26,54,55] 56 54 (fun vs:List V=>[]) (fun _ vs=>[.box [.d (.sl (p.rels.map Rl.enc))],.box (x.enc.map .d),.box [.d (.str x.name),.own 3 vs.length],.grow vs.length 4 62 (vs.map V.enc)]) (fun r vs=>vs++r=G) [] rfl (by simp [hbl]) rfl (by refine ⟨by simp [mkS,hRe],by simp [mkS,hRe],by simp only [mkS,a_,b_,O.refsLt,C.refsLt,C.refsLt1,all_dmap];first | done | rfl | (simp;done),?_⟩;simp [mkS,Abs.get,C.refsLtT,C.refsLt,C.refsLt1]) (fun jj v s vs hvi hds hjt hm2 hinv2 hn2=>?_) (fun vs hinv2=>?_)
     ·have hbe:(bdD G)[jj]? = some (.int .i64 (jj:Int) :: v.enc):=by
       unfold bdD
       rw [List.getElem?_map,bdsF_at G 0 jj v hvi]
       simp [Bd.enc,V.enc]
      have hVe:=V.enc_eq v
      have hvl:vs.length≤4:=by have:=congrArg List.length hinv2;simp at this;omega
      have wj:IntKind.i64.wrap ((jj:Int)+1)=(jj:Int)+1:=by rw [wrap_ok (by omega) (by omega)]
      refine rS_ Tryz.func6 ?_
      simp only [go_sem,seval,hjt,idx_of hbe,hbl,hVe,wj]
      repeat' (first
       | ((refine ⟨sd,?_⟩)<;>(try simp only [go_sem,seval,hjt,idx_of hbe,hbl,hVe,wj]))
       | fail)
      refine hn2 (vs++[v]) _ (by rw [←hinv2];simp) (by refine ⟨by simp [mkS,hRe,hVe],by simp [mkS,hRe,hVe],by simp only [mkS,a_,b_,O.refsLt,C.refsLt,C.refsLt1,all_dmap];first | done | rfl | (simp;done),?_⟩;simp [mkS,Abs.get,C.refsLtT,C.refsLt,C.refsLt1])
     ·rw [List.append_nil] at hinv2
      subst hinv2
      have hins:=l18Insert_fn F (x.name,vs) j1 (by omega)
      have hadd:addF F (x.name,vs)=insC FcV.cmp F (x.name,vs):=if_pos hc.2
      rw [hadd] at j4
      rw [fcE_eq] at hins
      refine rS_ Tryz.func6 ?_
      simp only [go_sem,seval,hbl,wk]
      repeat' (first
       | ((refine hins.calls rfl ?_)<;>(try simp only [go_sem,seval,hbl,wk]))
       | fail)
      refine hnx (k+1,insC FcV.cmp F (x.name,vs)) _ ⟨by dsimp only;omega,insC_asc FcV.cmp_lin F _ j1,by have:=insF_up (l:=F) (x:=(x.name,vs));dsimp only;omega,j4,fun f hf=>?_⟩ (by dsimp only;omega) (by refine ⟨by simp [mkS,hRe],by simp [mkS,hRe],by simp only [mkS,a_,b_,O.refsLt,C.refsLt,C.refsLt1,all_dmap];first | done | rfl | (simp;done),?_⟩;simp [mkS,Abs.get,C.refsLtT,C.refsLt,C.refsLt1])
      rcases (insC_mem FcV.cmp_lin F _ f).1 hf with rfl | hf
      ·exact ⟨hGm,by dsimp only;omega⟩
      ·exact j3 f hf
    ·by_cases hkW:k<W
     ·have n1:(k:Int)<(W:Int):=by omega
      have hF2:¬F.length≤2000:=fun h=>hc ⟨hkW,h⟩
      have n2:¬(F.length:Int)≤2000:=by omega
      have e1:=addF_stop ((((List.range W).drop k).map fun k=>(x.name,gVals U a k))++s.flatMap (seqF U)) F hF2
      have e2:=addF_stop (s.flatMap (seqF U)) F hF2
      refine rS_ Tryz.func6 ?_
      simp only [go_sem,seval,n1,n2,hmf,wi]
      all_goals refine hnext F _ ⟨j1,j2,e2.trans (e1.symm.trans j4),j3⟩ (by refine ⟨by simp [mkS,Pg.enc_eq],by simp [mkS,Pg.enc_eq],by simp only [mkS,a_,b_,O.refsLt,C.refsLt,C.refsLt1,all_dmap];first | done | rfl | (simp;done),?_⟩;simp [mkS,Abs.get,C.refsLtT,C.refsLt,C.refsLt1])
     ·have n1:¬(k:Int)<(W:Int):=by omega
      rw [rdropE hkW,List.map_nil,List.nil_append] at j4
      refine rS_ Tryz.func6 ?_
      simp only [go_sem,seval,n1,hmf,wi]
      all_goals refine hnext F _ ⟨j1,j2,j4,j3⟩ (by refine ⟨by simp [mkS,Pg.enc_eq],by simp [mkS,Pg.enc_eq],by simp only [mkS,a_,b_,O.refsLt,C.refsLt,C.refsLt1,all_dmap];first | done | rfl | (simp;done),?_⟩;simp [mkS,Abs.get,C.refsLtT,C.refsLt,C.refsLt1])
   ·obtain ⟨i1,i2,i4,i3⟩:=hinv
    rw [List.flatMap_nil,List.foldl_nil] at i4
    subst i4
    by_cases h2:F.length≤2000
    ·have n2:¬(2000:Int)<(F.length:Int):=by omega
     have hcp:=l18Copy_V F (by omega) (fun f hf=>uniwts hu f.2 (i3 f hf).1 (i3 f hf).2)
     rw [if_pos h2,afC_some]
     refine rS_ Tryz.func6 ?_
     simp only [go_sem,seval,hmf,n2]
     repeat' (first
      | ((refine hcp.calls rfl ?_)<;>(try simp only [go_sem,seval,hmf,n2]))
      | fail)
    ·have n2:(2000:Int)<(F.length:Int):=by omega
     rw [if_neg h2,afC_none]
     refine rS_ Tryz.func6 ?_
     simp only [go_sem,seval,hmf,n2]
  ·have hqf:uniOk u=false:=by simpa using hq
   rw [hqf] at hun
   rw [if_neg (fun h=>hq h.2),afC_none]
   refine aE_ Tryz.func6 ?_
   refine rS_ Tryz.func6 ?_
   simp only [go_sem,seval]
   repeat' (first
    | ((first
     | (refine hok.calls rfl ?_)
     | (refine hun.calls rfl ?_))<;>(try simp only [go_sem,seval]))
    | fail)
 ·have hpf:pgOk p=false:=by simpa using hp
  rw [hpf] at hok
  rw [if_neg (fun h=>hp h.1),afC_none]
  refine aE_ Tryz.func6 ?_
  refine rS_ Tryz.func6 ?_
  simp only [go_sem,seval]
  repeat' (first
   | ((refine hok.calls rfl ?_)<;>(try simp only [go_sem,seval]))
   | fail)
end Go.Proofs.YtehkgphockcjdaaGreat
