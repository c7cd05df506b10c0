import Derived.Test.YtlajhmoomlgopaaGreatW4
import Derived.Test.YtlajhmoomlgopaaGreatA7
import Derived.Test.YtlajhmoomlgopaaGreatP2
namespace Go.Proofs.YtlajhmoomlgopaaGreat
open Go.Abs
set_option maxRecDepth 100000
set_option maxHeartbeats 4000000
set_option linter.unusedSimpArgs false
set_option linter.unusedVariables false
def cpT (t:V):Prop:=ACalls Tryz.prog 97 [.d (.agg t.enc)] [.hole] fun c H'=>c=.agg [.d (.int .i64 t.kind),.d (.int .i64 t.int),.d (.str t.name),.own 0 1]∧∃e B,H'=[.tree 1 4 e (t.kids.map V.enc) B none]
theorem copyTerm_T:∀t:V,cpT t:=by
 intro t
 induction t with
 | pair x y ihx ihy =>
  unfold cpT
  refine aE_ Tryz.func97 ?_
  refine AW.hole ?_
  refine AW.hole ?_
  refine run_sound Tryz.func97 mixed 8 _ _ (by kernel_rfl) ?_
  simp only [go_sem,seval,run.eq_1,V.kind,V.int,V.kids]
  all_goals first | (exact absurd hq (by decide)) | skip
  have hk:(V.pair x y).kids=[x,y]:=rfl
  refine AW.drawA mixed #[true,true,true,true,true,true,true,true,true,true,true,true,false] [(3,.box ((V.pair x y).enc.map .d))] [] [0,1,2,3,5,6,7,8,4,9,10,11] [12] none (by kernel_rfl) trivial (by simp [holdsB]) ?_
  simp only [go_sem,seval,hk]
  repeat' (first
   | ((first
    | (refine ACalls.fresh (ds:=[.agg x.enc]) (m:=1) ihx [1] rfl rfl (by simp) (by simp) ?_<;>(rintro c H' ⟨rfl,e1,B1,rfl⟩ _;refine ⟨rfl,rfl,?_⟩))
    | (refine ACalls.fresh (ds:=[.agg y.enc]) (m:=1) ihy [2] rfl rfl (by simp) (by simp) ?_<;>(rintro c H' ⟨rfl,e2,B2,rfl⟩ _;refine ⟨rfl,rfl,?_⟩))
    | (refine all_intro (fun Bz=>?_)))<;>(try simp only [go_sem,seval,hk]))
   | fail)
  refine AW.placeB 4 3 5 0 rfl rfl rfl rfl (by decide) ?_
  refine rS_ Tryz.func97 ?_
  simp only [go_sem,seval]
  refine ⟨rfl,85,Bz,?_⟩
  rw [V.enc_eq x,V.enc_eq y]
 | nil =>
  unfold cpT
  refine aE_ Tryz.func97 ?_
  refine run_sound Tryz.func97 mixed 8 _ _ (by kernel_rfl) ?_
  simp only [go_sem,seval,run.eq_1,V.kind,V.int,V.kids]
  all_goals first | (exact absurd hq (by decide)) | skip
  refine AW.adoptTB 2 3 4 0 (by decide) rfl rfl ?_
  refine AW.placeB 2 3 3 0 rfl rfl rfl rfl (by decide) ?_
  refine rS_ Tryz.func97 ?_
  simp only [go_sem,seval]
  exact ⟨_,_,rfl⟩
 | var n =>
  unfold cpT
  refine aE_ Tryz.func97 ?_
  refine run_sound Tryz.func97 mixed 8 _ _ (by kernel_rfl) ?_
  simp only [go_sem,seval,run.eq_1,V.kind,V.int,V.kids]
  all_goals first | (exact absurd hq (by decide)) | skip
  refine AW.adoptTB 2 3 4 0 (by decide) rfl rfl ?_
  refine AW.placeB 2 3 3 0 rfl rfl rfl rfl (by decide) ?_
  refine rS_ Tryz.func97 ?_
  simp only [go_sem,seval]
  exact ⟨_,_,rfl⟩
 | sym s =>
  unfold cpT
  refine aE_ Tryz.func97 ?_
  refine run_sound Tryz.func97 mixed 8 _ _ (by kernel_rfl) ?_
  simp only [go_sem,seval,run.eq_1,V.kind,V.int,V.kids]
  all_goals first | (exact absurd hq (by decide)) | skip
  refine AW.adoptTB 2 3 4 0 (by decide) rfl rfl ?_
  refine AW.placeB 2 3 3 0 rfl rfl rfl rfl (by decide) ?_
  refine rS_ Tryz.func97 ?_
  simp only [go_sem,seval]
  exact ⟨_,_,rfl⟩
 | num n =>
  unfold cpT
  refine aE_ Tryz.func97 ?_
  refine run_sound Tryz.func97 mixed 8 _ _ (by kernel_rfl) ?_
  simp only [go_sem,seval,run.eq_1,V.kind,V.int,V.kids]
  all_goals first | (exact absurd hq (by decide)) | skip
  refine AW.adoptTB 2 3 4 0 (by decide) rfl rfl ?_
  refine AW.placeB 2 3 3 0 rfl rfl rfl rfl (by decide) ?_
  refine rS_ Tryz.func97 ?_
  simp only [go_sem,seval]
  exact ⟨_,_,rfl⟩
def cpTs (l:List V):Prop:=ACalls Tryz.prog 56 [.d (.sl (l.map V.enc))] [.hole] fun c H'=>c=.own 0 1∧∃e B,H'=[.tree 1 4 e (l.map V.enc) B none]
theorem copyTerms_T (l:List V) (hl:l.length≤100000000):cpTs l:=by
 have hmx:maxLen=9223372036854775807:=rfl
 unfold cpTs
 refine aE_ Tryz.func56 ?_
 refine run_sound Tryz.func56 mixed 5 _ _ (by kernel_rfl) ?_
 simp only [go_sem,seval,run.eq_1]
 refine AW.adoptT 3 4 85 (by decide) rfl ?_
 refine rS_ Tryz.func56 ?_
 simp only [go_sem,seval]
 refine AW.rng l [7,8] 9 7 (fun p:List V×(Nat→Prop)=>[(3,.own 1 p.1.length)]) (fun _ p=>[.hole,.tree p.1.length 4 85 (p.1.map V.enc) p.2 none]) (fun r p=>p.1++r=l) ([],fun _=>False) rfl (by simp) rfl wk1_ (fun i x r p hxi hdr hlt hm hinv hnext=>?_) (fun p hinv=>?_)
 ·have hpl:p.1.length+(r.length+1)=l.length:=by rw [←hinv];simp
  have hx:=copyTerm_T x
  refine AW.hole ?_
  refine run_sound Tryz.func56 mixed 9 _ _ (by kernel_rfl) ?_
  simp only [go_sem,seval,run.eq_1,hlt,j5 hxi]
  refine AW.regT ?_
  simp only [go_sem,seval]
  repeat' (first
   | ((first
    | (refine ACalls.fresh (ds:=[.agg x.enc]) (m:=1) hx [2] rfl rfl (by simp) (by simp) ?_<;>(rintro c H' ⟨rfl,e1,B1,rfl⟩ _;refine ⟨rfl,rfl,?_⟩))
    | (refine all_intro (fun Bz=>?_))
    | (refine ⟨sd,?_⟩))<;>(try simp only [go_sem,seval,hlt,j5 hxi]))
   | fail)
  refine rS_ Tryz.func56 ?_
  simp only [go_sem,seval]
  try simp (disch:=omega) only [j6]
  refine hnext (p.1++[x],Bz) _ (by simp [←hinv]) (by refine ⟨by simp [mkS,V.enc_eq x],by simp [mkS,V.enc_eq x],by simp only [mkS,List.all_cons,List.all_nil,O.refsLt,C.refsLt,C.refsLt1,all_dmap];first | done | rfl | (simp;done),?_⟩;simp [mkS,Abs.get,C.refsLtT,C.refsLt,C.refsLt1])
 ·simp only [List.append_nil] at hinv
  subst hinv
  refine run_sound Tryz.func56 mixed 7 _ _ (by kernel_rfl) ?_
  simp only [go_sem,seval,run.eq_1]
  refine AW.place 2 1 0 rfl rfl rfl (by decide) ?_
  refine rS_ Tryz.func56 ?_
  simp only [go_sem,seval]
  all_goals exact ⟨_,_,rfl⟩
def cpG (t:Gl):Prop:=ACalls Tryz.prog 87 [.d (.agg t.enc)] [.hole,.hole] fun c H'=>c=.agg [.d (.int .i64 t.kind),.d (.str t.name),.own 0 1,.own 1 1]∧∃e B e' B',H'=[.tree 1 4 e (t.terms.map Tm.enc) B none,.tree 1 4 e' (t.goals.map Gl.enc) B' none]
theorem copyGoal_T:∀t:Gl,wtL t.enc≤1048576→t.shape=true→cpG t:=by
 intro t
 induction t using Gl.ind' with
 | h t ih =>
  intro hw hs
  have hs':=hs
  rw [Gl.shape_eq] at hs'
  simp only [Bool.and_eq_true] at hs'
  obtain ⟨vs,hvs,_⟩:=tmsOk_of hs'.1.2
  have hgs:∀x,x∈t.goals→x.shape=true:=fun x hx=>by have:=hs'.2;simp only [List.all_eq_true] at this;exact this x hx
  have hmx:maxLen=9223372036854775807:=rfl
  have hwt:wtR (t.terms.map Tm.enc)≤1048576∧wtR (t.goals.map Gl.enc)≤1048576:=by
   simp only [Gl.enc_eq t,wtL,D.wt] at hw;omega
  have hlt0:vs.length≤1048576:=by
   have h1:=sumW_le (t.terms.map Tm.enc) 0;simp [sumW] at h1;have h2:=congrArg List.length hvs;simp at h2;omega
  have hlg0:t.goals.length≤1048576:=by
   have:=sumW_le (t.goals.map Gl.enc) 0;simp [sumW] at this;omega
  have hct:=copyTerms_T vs (by omega)
  unfold cpTs at hct
  have het:t.terms.map Tm.enc=vs.map V.enc:=by rw [hvs];exact enc_tms vs
  rw [←het] at hct
  unfold cpG
  refine aE_ Tryz.func87 ?_
  refine run_sound Tryz.func87 mixed 3 _ _ (by kernel_rfl) ?_
  simp only [go_sem,seval,run.eq_1]
  refine AW.drawA mixed #[true,true,true,true,true,true,true,true,true,false] [(2,.box (t.enc.map .d))] [] [0,1,2,3,4,5,8,6,7] [9] (some (8,3,48,[.int .i64 0,.string ⟨#[]⟩,.slice none 0 0,.slice none 0 0])) (by kernel_rfl) tz48 (by simp [holdsB]) ?_
  simp only [go_sem,seval]
  repeat' (first
   | ((refine ACalls.fresh (ds:=[.sl (t.terms.map Tm.enc)]) (m:=1) hct [0] rfl rfl (by simp) (by simp) ?_<;>(rintro c H' ⟨rfl,e1,B1,rfl⟩ _;refine ⟨rfl,rfl,?_⟩))<;>(try simp only [go_sem,seval]))
   | fail)
  refine AW.adoptTB 4 3 4 48 (by decide) rfl rfl ?_
  refine rS_ Tryz.func87 ?_
  simp only [go_sem,seval]
  refine AW.rng t.goals [2,3,15,16] 17 15 (fun p:List Gl×(Nat→Prop)=>[]) (fun _ p=>[.tree 1 4 e1 (t.terms.map Tm.enc) B1 none,.hole,.box (t.enc.map .d),.box [.d (.int .i64 0),.d (.str []),.nil0,.nil0],.box [.d (.int .i64 t.kind),.d (.str t.name),.own 0 1,.own 5 p.1.length],.tree p.1.length 4 48 (p.1.map Gl.enc) p.2 none]) (fun r p=>p.1++r=t.goals) ([],fun _=>False) rfl (by simp) rfl wk1_ (fun i x r p hxi hdr hlt hm hinv hnext=>?_) (fun p hinv=>?_)
  ·have hxm:=List.mem_of_getElem? hxi
   have hpl:p.1.length+(r.length+1)=t.goals.length:=by rw [←hinv];simp
   have hx:=ih x hxm (by have:=Gl.wt_goals hxm;omega) (hgs x hxm)
   unfold cpG at hx
   refine AW.hole ?_
   refine AW.hole ?_
   refine run_sound Tryz.func87 mixed 9 _ _ (by kernel_rfl) ?_
   simp only [go_sem,seval,run.eq_1,hlt,j5 hxi]
   refine AW.drawA mixed #[true,true,true,true,true,true,false,false] [(4,.box [.d (.int .i64 t.kind),.d (.str t.name),.own 0 1,.own 5 p.1.length]),(8,.box (x.enc.map .d))] [] [0,1,2,3,4,5] [6,7] none (by kernel_rfl) trivial (by simp [holdsB]) ?_
   simp only [go_sem,seval]
   repeat' (first
    | ((first
     | (refine ACalls.fresh (ds:=[.agg x.enc]) (m:=2) hx [6,7] rfl rfl (by simp) (by simp) ?_<;>(rintro c H' ⟨rfl,e2,B2,e3,B3,rfl⟩ _;refine ⟨rfl,rfl,?_⟩))
     | (refine all_intro (fun Bz=>?_))
     | (refine ⟨sd,?_⟩))<;>(try simp only [go_sem,seval]))
    | fail)
   refine rS_ Tryz.func87 ?_
   simp only [go_sem,seval]
   try simp (disch:=omega) only [j6]
   refine hnext (p.1++[x],Bz) _ (by simp [←hinv]) (by refine ⟨by simp [mkS,Gl.enc_eq x],by simp [mkS,Gl.enc_eq x],by simp only [mkS,List.all_cons,List.all_nil,O.refsLt,C.refsLt,C.refsLt1,all_dmap];first | done | rfl | (simp;done),?_⟩;simp [mkS,Abs.get,C.refsLtT,C.refsLt,C.refsLt1])
  ·simp only [List.append_nil] at hinv
   rw [hinv]
   refine run_sound Tryz.func87 mixed 7 _ _ (by kernel_rfl) ?_
   simp only [go_sem,seval,run.eq_1]
   refine AW.placeB 3 3 5 1 rfl rfl rfl rfl (by decide) ?_
   refine rS_ Tryz.func87 ?_
   simp only [go_sem,seval]
   repeat' (first
    | (exact ⟨_,_,_,_,rfl⟩)
    | fail)
end Go.Proofs.YtlajhmoomlgopaaGreat
