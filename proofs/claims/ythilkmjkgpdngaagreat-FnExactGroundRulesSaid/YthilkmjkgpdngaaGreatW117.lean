import Derived.Test.YthilkmjkgpdngaaGreatW112
namespace Go.Proofs.YthilkmjkgpdngaaGreat
open Go.Abs
set_option maxRecDepth 100000
set_option maxHeartbeats 8000000
set_option linter.unusedSimpArgs false
set_option linter.unusedVariables false
theorem copyFacts_T (l:List FcV) (hl:l.length≤2000000) (hw:∀x,x∈l→x.2.length≤100000000):ACalls Tryz.prog 35 [.d (.sl (l.map fcE))] [.hole] (fun c H'=>c=.own 0 1∧∃e B,H'=[.tree 1 2 e (l.map fcE) B none]):=by
 have hmx:maxLen=9223372036854775807:=rfl
 refine aE_ Tryz.func35 ?_
 refine run_sound Tryz.func35 mixed 5 _ _ (by kernel_rfl) ?_
 simp only [go_sem,seval,run.eq_1]
 refine AW.adoptT 3 2 61 (by decide) rfl ?_
 refine rS_ Tryz.func35 ?_
 simp only [go_sem,seval]
 refine AW.rng l [7,8] 9 7 (fun p:List FcV×(Nat→Prop)=>[(3,.own 1 p.1.length)]) (fun _ p=>[.hole,.tree p.1.length 2 61 (p.1.map fcE) p.2 none]) (fun r p=>p.1++r=l) ([],fun _=>False) rfl (by simp) rfl wk1_ (fun i x r p hxi hdr hlt hm hinv hnext=>?_) (fun p hinv=>?_)
 ·have hpl:p.1.length+(r.length+1)=l.length:=by rw [←hinv];simp
  have hx:=copyFact_T x.1 x.2 (hw x (List.mem_of_getElem? hxi))
  have hX:=fcE_eq x
  refine AW.hole ?_
  refine run_sound Tryz.func35 mixed 9 _ _ (by kernel_rfl) ?_
  simp only [go_sem,seval,run.eq_1,hlt,idx_of hxi,fcE_eq]
  refine AW.regT ?_
  simp only [go_sem,seval]
  repeat' (first
   | ((first
    | (refine ACalls.fresh (ds:=[.agg [.str x.1,.sl (x.2.map V.enc)]]) (m:=1) hx [2] rfl rfl (by simp) (by simp) ?_<;>(rintro c H' ⟨rfl,e1,B1,rfl⟩ _;refine ⟨rfl,rfl,?_⟩))
    | (refine all_intro (fun Bz=>?_))
    | (refine ⟨sd,?_⟩))<;>(try simp only [go_sem,seval,hlt,idx_of hxi]))
   | fail)
  refine rS_ Tryz.func35 ?_
  simp only [go_sem,seval]
  try simp (disch:=omega) only [wrap_ok]
  refine hnext (p.1++[x],Bz) _ (by simp [←hinv]) (by refine ⟨by simp [mkS,hX],by simp [mkS,hX],by simp only [mkS,List.all_cons,List.all_nil,O.refsLt,C.refsLt,C.refsLt1,all_dmap];first | done | rfl | (simp;done),?_⟩;simp [mkS,Abs.get,C.refsLtT,C.refsLt,C.refsLt1,hX])
 ·simp only [List.append_nil] at hinv
  subst hinv
  refine run_sound Tryz.func35 mixed 7 _ _ (by kernel_rfl) ?_
  simp only [go_sem,seval,run.eq_1]
  refine AW.place 2 1 0 rfl rfl rfl (by decide) ?_
  refine rS_ Tryz.func35 ?_
  simp only [go_sem,seval]
  all_goals exact ⟨_,_,rfl⟩
end Go.Proofs.YthilkmjkgpdngaaGreat
