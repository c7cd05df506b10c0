import Derived.Test.YtehkgphockcjdaaGreatW4
import Derived.Test.YtehkgphockcjdaaGreatA7
import Derived.Test.YtehkgphockcjdaaGreatP3
namespace Go.Proofs.YtehkgphockcjdaaGreat
open Go.Abs
set_option maxRecDepth 100000
set_option maxHeartbeats 4000000
set_option linter.unusedSimpArgs false
set_option linter.unusedVariables false
def l2T (t:Tm):Prop:=ACalls Tryz.prog 72 [.d (.agg t.enc)] [.hole] fun c H'=>c=.agg [.d (.int .i64 t.kind),.d (.int .i64 t.int),.d (.str t.name),.own 0 1]∧∃e B,H'=[.tree 1 4 e (t.args.map Tm.enc) B none]
theorem l02Copy_T:∀t:Tm,wtL t.enc≤2000000→l2T t:=by
 intro t
 induction t using Tm.ind' with
 | h t ih =>
  intro hw
  have hmx:maxLen=9223372036854775807:=rfl
  have hwr:wtR (t.args.map Tm.enc)≤2000000:=by
   simp only [Tm.enc_eq t,wtL,D.wt] at hw;omega
  have hlg0:t.args.length≤2000000:=by
   have:=sumW_le (t.args.map Tm.enc) 0;simp [sumW] at this;omega
  unfold l2T
  refine aE_ Tryz.func72 ?_
  refine run_sound Tryz.func72 mixed 7 _ _ (by kernel_rfl) ?_
  simp only [go_sem,seval,run.eq_1]
  refine AW.adoptTB 3 3 4 62 (by decide) rfl rfl ?_
  refine rS_ Tryz.func72 ?_
  simp only [go_sem,seval]
  refine AW.rng t.args [2,3,14,15] 16 14 (fun p:List Tm×(Nat→Prop)=>[]) (fun _ p=>[.hole,.box (t.enc.map .d),.box [.d (.int .i64 0),.d (.int .i64 0),.d (.str []),.nil0],.box [.d (.int .i64 t.kind),.d (.int .i64 t.int),.d (.str t.name),.own 4 p.1.length],.tree p.1.length 4 62 (p.1.map Tm.enc) p.2 none]) (fun r p=>p.1++r=t.args) ([],fun _=>False) rfl (by simp) rfl wk3_ (fun i x r p hxi hdr hlt hm hinv hnext=>?_) (fun p hinv=>?_)
  ·have hxm:=List.mem_of_getElem? hxi
   have hpl:p.1.length+(r.length+1)=t.args.length:=by rw [←hinv];simp
   have hx:=ih x hxm (by have:=wt_args hxm;omega)
   unfold l2T at hx
   refine AW.hole ?_
   refine run_sound Tryz.func72 mixed 9 _ _ (by kernel_rfl) ?_
   simp only [go_sem,seval,run.eq_1,hlt,idx_of hxi]
   refine AW.drawA mixed #[true,true,true,true,true,true,false,false] [(3,.box [.d (.int .i64 t.kind),.d (.int .i64 t.int),.d (.str t.name),.own 4 p.1.length]),(6,.box (x.enc.map .d))] [] [0,1,2,3,4,5] [6,7] none (by kernel_rfl) trivial (by simp [holdsB]) ?_
   simp only [go_sem,seval]
   repeat' (first
    | ((first
     | (refine ACalls.fresh (ds:=[.agg x.enc]) (m:=1) hx [5] rfl rfl (by simp) (by simp) ?_<;>(rintro c H' ⟨rfl,e2,B2,rfl⟩ _;refine ⟨rfl,rfl,?_⟩))
     | (refine all_intro (fun Bz=>?_))
     | (refine ⟨sd,?_⟩))<;>(try simp only [go_sem,seval]))
    | fail)
   refine rS_ Tryz.func72 ?_
   simp only [go_sem,seval]
   try simp (disch:=omega) only [wrap_ok]
   refine hnext (p.1++[x],Bz) _ (by simp [←hinv]) (by refine ⟨by simp [mkS,Tm.enc_eq x],by simp [mkS,Tm.enc_eq x],by simp only [mkS,List.all_cons,List.all_nil,O.refsLt,C.refsLt,C.refsLt1,all_dmap];first | done | rfl | (simp;done),?_⟩;simp [mkS,Abs.get,C.refsLtT,C.refsLt,C.refsLt1])
  ·simp only [List.append_nil] at hinv
   rw [hinv]
   refine run_sound Tryz.func72 mixed 7 _ _ (by kernel_rfl) ?_
   simp only [go_sem,seval,run.eq_1]
   refine AW.placeB 2 3 4 0 rfl rfl rfl rfl (by decide) ?_
   refine rS_ Tryz.func72 ?_
   simp only [go_sem,seval]
   repeat' (first
    | (exact ⟨_,_,rfl⟩)
    | fail)
theorem l02CopyAll_T (l:List Tm) (hw:wtR (l.map Tm.enc)≤2000000):ACalls Tryz.prog 48 [.d (.sl (l.map Tm.enc))] [.hole] (fun c H'=>c=.own 0 1∧∃e B,H'=[.tree 1 4 e (l.map Tm.enc) B none]):=by
 have hmx:maxLen=9223372036854775807:=rfl
 have hlen:l.length≤2000000:=by
  have:=sumW_le (l.map Tm.enc) 0;simp [sumW] at this;omega
 have hwl:∀x,x∈l→wtL x.enc≤2000000:=fun x hx=>by have:=wtL_lt (l.map Tm.enc) x.enc (List.mem_map.2 ⟨x,hx,rfl⟩);omega
 refine aE_ Tryz.func48 ?_
 refine run_sound Tryz.func48 mixed 5 _ _ (by kernel_rfl) ?_
 simp only [go_sem,seval,run.eq_1]
 refine AW.adoptT 3 4 62 (by decide) rfl ?_
 refine rS_ Tryz.func48 ?_
 simp only [go_sem,seval]
 refine AW.rng l [7,8] 9 7 (fun p:List Tm×(Nat→Prop)=>[(3,.own 1 p.1.length)]) (fun _ p=>[.hole,.tree p.1.length 4 62 (p.1.map Tm.enc) p.2 none]) (fun r p=>p.1++r=l) ([],fun _=>False) rfl (by simp) rfl wk3_ (fun i x r p hxi hdr hlt hm hinv hnext=>?_) (fun p hinv=>?_)
 ·have hpl:p.1.length+(r.length+1)=l.length:=by rw [←hinv];simp
  have hx:=l02Copy_T x (hwl x (List.mem_of_getElem? hxi))
  unfold l2T at hx
  refine AW.hole ?_
  refine run_sound Tryz.func48 mixed 9 _ _ (by kernel_rfl) ?_
  simp only [go_sem,seval,run.eq_1,hlt,idx_of hxi]
  refine AW.regT ?_
  simp only [go_sem,seval]
  repeat' (first
   | ((first
    | (refine ACalls.fresh (ds:=[.agg x.enc]) (m:=1) hx [2] rfl rfl (by simp) (by simp) ?_<;>(rintro c H' ⟨rfl,e1,B1,rfl⟩ _;refine ⟨rfl,rfl,?_⟩))
    | (refine all_intro (fun Bz=>?_))
    | (refine ⟨sd,?_⟩))<;>(try simp only [go_sem,seval,hlt,idx_of hxi]))
   | fail)
  refine rS_ Tryz.func48 ?_
  simp only [go_sem,seval]
  try simp (disch:=omega) only [wrap_ok]
  refine hnext (p.1++[x],Bz) _ (by simp [←hinv]) (by refine ⟨by simp [mkS,Tm.enc_eq x],by simp [mkS,Tm.enc_eq x],by simp only [mkS,List.all_cons,List.all_nil,O.refsLt,C.refsLt,C.refsLt1,all_dmap];first | done | rfl | (simp;done),?_⟩;simp [mkS,Abs.get,C.refsLtT,C.refsLt,C.refsLt1])
 ·simp only [List.append_nil] at hinv
  subst hinv
  refine run_sound Tryz.func48 mixed 7 _ _ (by kernel_rfl) ?_
  simp only [go_sem,seval,run.eq_1]
  refine AW.place 2 1 0 rfl rfl rfl (by decide) ?_
  refine rS_ Tryz.func48 ?_
  simp only [go_sem,seval]
  all_goals exact ⟨_,_,rfl⟩
end Go.Proofs.YtehkgphockcjdaaGreat
