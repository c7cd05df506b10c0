import Derived.Test.YthilkmjkgpdngaaGreatW4
import Derived.Test.YthilkmjkgpdngaaGreatA7
import Derived.Test.YthilkmjkgpdngaaGreatP2
namespace Go.Proofs.YthilkmjkgpdngaaGreat
open Go.Abs
set_option maxRecDepth 100000
set_option maxHeartbeats 4000000
set_option linter.unusedSimpArgs false
set_option linter.unusedVariables false
def cpT (t:V):Prop:=ACalls Tryz.prog 72 [.d (.agg t.enc)] [.hole] fun c H'=>c=.agg [.d (.int .i64 t.kind),.d (.int .i64 t.int),.d (.str t.name),.own 0 1]∧∃e B,H'=[.tree 1 4 e (t.kids.map V.enc) B none]
theorem copyTerm_T:∀t:V,cpT t:=by
 intro t
 induction t with
 | pair x y ihx ihy =>
  unfold cpT
  refine aE_ Tryz.func72 ?_
  refine AW.hole ?_
  refine AW.hole ?_
  refine run_sound Tryz.func72 mixed 8 _ _ (by kernel_rfl) ?_
  simp only [go_sem,seval,run.eq_1,V.kind,V.int,V.kids]
  all_goals first | (exact absurd hq (by decide)) | skip
  have hk:(V.pair x y).kids=[x,y]:=rfl
  refine AW.drawA mixed #[true,true,true,true,true,true,true,true,true,true,true,true,false] [(3,.box ((V.pair x y).enc.map .d))] [] [0,1,2,3,5,6,7,8,4,9,10,11] [12] none (by kernel_rfl) trivial (by simp [holdsB]) ?_
  simp only [go_sem,seval,hk]
  repeat' (first
   | ((first
    | (refine ACalls.fresh (ds:=[.agg x.enc]) (m:=1) ihx [1] rfl rfl (by simp) (by simp) ?_<;>(rintro c H' ⟨rfl,e1,B1,rfl⟩ _;refine ⟨rfl,rfl,?_⟩))
    | (refine ACalls.fresh (ds:=[.agg y.enc]) (m:=1) ihy [2] rfl rfl (by simp) (by simp) ?_<;>(rintro c H' ⟨rfl,e2,B2,rfl⟩ _;refine ⟨rfl,rfl,?_⟩))
    | (refine all_intro (fun Bz=>?_)))<;>(try simp only [go_sem,seval,hk]))
   | fail)
  refine AW.placeB 4 3 5 0 rfl rfl rfl rfl (by decide) ?_
  refine rS_ Tryz.func72 ?_
  simp only [go_sem,seval]
  refine ⟨rfl,74,Bz,?_⟩
  rw [V.enc_eq x,V.enc_eq y]
 | nil =>
  unfold cpT
  refine aE_ Tryz.func72 ?_
  refine run_sound Tryz.func72 mixed 8 _ _ (by kernel_rfl) ?_
  simp only [go_sem,seval,run.eq_1,V.kind,V.int,V.kids]
  all_goals first | (exact absurd hq (by decide)) | skip
  refine AW.adoptTB 2 3 4 0 (by decide) rfl rfl ?_
  refine AW.placeB 2 3 3 0 rfl rfl rfl rfl (by decide) ?_
  refine rS_ Tryz.func72 ?_
  simp only [go_sem,seval]
  exact ⟨_,_,rfl⟩
 | var n =>
  unfold cpT
  refine aE_ Tryz.func72 ?_
  refine run_sound Tryz.func72 mixed 8 _ _ (by kernel_rfl) ?_
  simp only [go_sem,seval,run.eq_1,V.kind,V.int,V.kids]
  all_goals first | (exact absurd hq (by decide)) | skip
  refine AW.adoptTB 2 3 4 0 (by decide) rfl rfl ?_
  refine AW.placeB 2 3 3 0 rfl rfl rfl rfl (by decide) ?_
  refine rS_ Tryz.func72 ?_
  simp only [go_sem,seval]
  exact ⟨_,_,rfl⟩
 | sym s =>
  unfold cpT
  refine aE_ Tryz.func72 ?_
  refine run_sound Tryz.func72 mixed 8 _ _ (by kernel_rfl) ?_
  simp only [go_sem,seval,run.eq_1,V.kind,V.int,V.kids]
  all_goals first | (exact absurd hq (by decide)) | skip
  refine AW.adoptTB 2 3 4 0 (by decide) rfl rfl ?_
  refine AW.placeB 2 3 3 0 rfl rfl rfl rfl (by decide) ?_
  refine rS_ Tryz.func72 ?_
  simp only [go_sem,seval]
  exact ⟨_,_,rfl⟩
 | num n =>
  unfold cpT
  refine aE_ Tryz.func72 ?_
  refine run_sound Tryz.func72 mixed 8 _ _ (by kernel_rfl) ?_
  simp only [go_sem,seval,run.eq_1,V.kind,V.int,V.kids]
  all_goals first | (exact absurd hq (by decide)) | skip
  refine AW.adoptTB 2 3 4 0 (by decide) rfl rfl ?_
  refine AW.placeB 2 3 3 0 rfl rfl rfl rfl (by decide) ?_
  refine rS_ Tryz.func72 ?_
  simp only [go_sem,seval]
  exact ⟨_,_,rfl⟩
def cpTs (l:List V):Prop:=ACalls Tryz.prog 34 [.d (.sl (l.map V.enc))] [.hole] fun c H'=>c=.own 0 1∧∃e B,H'=[.tree 1 4 e (l.map V.enc) B none]
theorem copyTerms_T (l:List V) (hl:l.length≤100000000):cpTs l:=by
 have hmx:maxLen=9223372036854775807:=rfl
 unfold cpTs
 refine aE_ Tryz.func34 ?_
 refine run_sound Tryz.func34 mixed 5 _ _ (by kernel_rfl) ?_
 simp only [go_sem,seval,run.eq_1]
 refine AW.adoptT 3 4 74 (by decide) rfl ?_
 refine rS_ Tryz.func34 ?_
 simp only [go_sem,seval]
 refine AW.rng l [7,8] 9 7 (fun p:List V×(Nat→Prop)=>[(3,.own 1 p.1.length)]) (fun _ p=>[.hole,.tree p.1.length 4 74 (p.1.map V.enc) p.2 none]) (fun r p=>p.1++r=l) ([],fun _=>False) rfl (by simp) rfl wk1_ (fun i x r p hxi hdr hlt hm hinv hnext=>?_) (fun p hinv=>?_)
 ·have hpl:p.1.length+(r.length+1)=l.length:=by rw [←hinv];simp
  have hx:=copyTerm_T x
  refine AW.hole ?_
  refine run_sound Tryz.func34 mixed 9 _ _ (by kernel_rfl) ?_
  simp only [go_sem,seval,run.eq_1,hlt,idx_of hxi]
  refine AW.regT ?_
  simp only [go_sem,seval]
  repeat' (first
   | ((first
    | (refine ACalls.fresh (ds:=[.agg x.enc]) (m:=1) hx [2] rfl rfl (by simp) (by simp) ?_<;>(rintro c H' ⟨rfl,e1,B1,rfl⟩ _;refine ⟨rfl,rfl,?_⟩))
    | (refine all_intro (fun Bz=>?_))
    | (refine ⟨sd,?_⟩))<;>(try simp only [go_sem,seval,hlt,idx_of hxi]))
   | fail)
  refine rS_ Tryz.func34 ?_
  simp only [go_sem,seval]
  try simp (disch:=omega) only [wrap_ok]
  refine hnext (p.1++[x],Bz) _ (by simp [←hinv]) (by refine ⟨by simp [mkS,V.enc_eq x],by simp [mkS,V.enc_eq x],by simp only [mkS,List.all_cons,List.all_nil,O.refsLt,C.refsLt,C.refsLt1,all_dmap];first | done | rfl | (simp;done),?_⟩;simp [mkS,Abs.get,C.refsLtT,C.refsLt,C.refsLt1])
 ·simp only [List.append_nil] at hinv
  subst hinv
  refine run_sound Tryz.func34 mixed 7 _ _ (by kernel_rfl) ?_
  simp only [go_sem,seval,run.eq_1]
  refine AW.place 2 1 0 rfl rfl rfl (by decide) ?_
  refine rS_ Tryz.func34 ?_
  simp only [go_sem,seval]
  all_goals exact ⟨_,_,rfl⟩
end Go.Proofs.YthilkmjkgpdngaaGreat
