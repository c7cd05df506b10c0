import Derived.Test.YtehcdhelbkjaeaaGreatDoorW4
import Derived.Test.YtehcdhelbkjaeaaGreatDoorA7
import Derived.Test.YtehcdhelbkjaeaaGreatDoorP3
open List renaming mem_of_getElem?→a_,append_nil→b_,all_cons→c_,all_nil→d_
namespace Go.Proofs.YtehcdhelbkjaeaaGreatDoor
open Go.Abs
set_option maxRecDepth 100000
set_option maxHeartbeats 4000000
set_option linter.unusedSimpArgs false
set_option linter.unusedVariables false
def l2T (t:Tm):Prop:=ACalls Tryz.prog 156 [.d (.agg t.enc)] [.hole] fun c H'=>c=.agg [.d (.int .i64 t.kind),.d (.int .i64 t.int),.d (.str t.name),.own 0 1]∧∃e B,H'=[.tree 1 4 e (t.args.map Tm.enc) B none]
theorem l02Copy_T:∀t:Tm,wtL t.enc≤2000000→l2T t:=by
 intro t
 induction t using Tm.ind' with
 | h t ih =>
  intro hw
  have hmx:maxLen=9223372036854775807:=rfl
  have hwr:wtR (t.args.map Tm.enc)≤2000000:=by
   simp only [Tm.enc_eq t,wtL,D.wt] at hw;omega
  have hlg0:t.args.length≤2000000:=by
   have:=sumW_le (t.args.map Tm.enc) 0;simp [sumW] at this;omega
  unfold l2T
  refine aE_ Tryz.func156 ?_
  refine run_sound Tryz.func156 mixed 7 _ _ (by kernel_rfl) ?_
  simp only [go_sem,seval,run.eq_1]
  refine AW.adoptTB 3 3 4 89 (by decide) rfl rfl ?_
  refine rS_ Tryz.func156 ?_
  simp only [go_sem,seval]
  refine AW.rng t.args [2,3,14,15] 16 14 (fun p:List Tm×(Nat→Prop)=>[]) (fun _ p=>[.hole,.box (t.enc.map .d),.box [.d (.int .i64 0),.d (.int .i64 0),.d (.str []),.nil0],.box [.d (.int .i64 t.kind),.d (.int .i64 t.int),.d (.str t.name),.own 4 p.1.length],.tree p.1.length 4 89 (p.1.map Tm.enc) p.2 none]) (fun r p=>p.1++r=t.args) ([],fun _=>False) rfl (by simp) rfl wk1_ (fun i x r p hxi hdr hlt hm hinv hnext=>?_) (fun p hinv=>?_)
  ·have hxm:=a_ hxi
   have hpl:p.1.length+(r.length+1)=t.args.length:=by rw [←hinv];simp
   have hx:=ih x hxm (by have:=wt_args hxm;omega)
   unfold l2T at hx
   refine AW.hole ?_
   refine run_sound Tryz.func156 mixed 9 _ _ (by kernel_rfl) ?_
   simp only [go_sem,seval,run.eq_1,hlt,idx_of hxi]
   refine AW.drawA mixed #[true,true,true,true,true,true,false,false] [(3,.box [.d (.int .i64 t.kind),.d (.int .i64 t.int),.d (.str t.name),.own 4 p.1.length]),(6,.box (x.enc.map .d))] [] [0,1,2,3,4,5] [6,7] none (by kernel_rfl) trivial (by simp [holdsB]) ?_
   simp only [go_sem,seval]
   repeat' (first
    | ((first
     | (refine ACalls.fresh (ds:=[.agg x.enc]) (m:=1) hx [5] rfl rfl (by simp) (by simp) ?_<;>(rintro c H' ⟨rfl,e2,B2,rfl⟩ _;refine ⟨rfl,rfl,?_⟩))
     | (refine all_intro (fun Bz=>?_))
     | (refine ⟨sd,?_⟩))<;>(try simp only [go_sem,seval]))
    | fail)
   refine rS_ Tryz.func156 ?_
   simp only [go_sem,seval]
   try simp (disch:=omega) only [wrap_ok]
   refine hnext (p.1++[x],Bz) _ (by simp [←hinv]) (by refine ⟨by simp [mkS,Tm.enc_eq x],by simp [mkS,Tm.enc_eq x],by simp only [mkS,c_,d_,O.refsLt,C.refsLt,C.refsLt1,all_dmap];first | done | rfl | (simp;done),?_⟩;simp [mkS,Abs.get,C.refsLtT,C.refsLt,C.refsLt1])
  ·simp only [b_] at hinv
   rw [hinv]
   refine run_sound Tryz.func156 mixed 7 _ _ (by kernel_rfl) ?_
   simp only [go_sem,seval,run.eq_1]
   refine AW.placeB 2 3 4 0 rfl rfl rfl rfl (by decide) ?_
   refine rS_ Tryz.func156 ?_
   simp only [go_sem,seval]
   repeat' (first
    | (exact ⟨_,_,rfl⟩)
    | fail)
theorem l02CopyAll_T (l:List Tm) (hw:wtR (l.map Tm.enc)≤2000000):ACalls Tryz.prog 146 [.d (.sl (l.map Tm.enc))] [.hole] (fun c H'=>c=.own 0 1∧∃e B,H'=[.tree 1 4 e (l.map Tm.enc) B none]):=by
 have hmx:maxLen=9223372036854775807:=rfl
 have hlen:l.length≤2000000:=by
  have:=sumW_le (l.map Tm.enc) 0;simp [sumW] at this;omega
 have hwl:∀x,x∈l→wtL x.enc≤2000000:=fun x hx=>by have:=wtL_lt (l.map Tm.enc) x.enc (List.mem_map.2 ⟨x,hx,rfl⟩);omega
 refine aE_ Tryz.func146 ?_
 refine run_sound Tryz.func146 mixed 5 _ _ (by kernel_rfl) ?_
 simp only [go_sem,seval,run.eq_1]
 refine AW.adoptT 3 4 89 (by decide) rfl ?_
 refine rS_ Tryz.func146 ?_
 simp only [go_sem,seval]
 refine AW.rng l [7,8] 9 7 (fun p:List Tm×(Nat→Prop)=>[(3,.own 1 p.1.length)]) (fun _ p=>[.hole,.tree p.1.length 4 89 (p.1.map Tm.enc) p.2 none]) (fun r p=>p.1++r=l) ([],fun _=>False) rfl (by simp) rfl wk1_ (fun i x r p hxi hdr hlt hm hinv hnext=>?_) (fun p hinv=>?_)
 ·have hpl:p.1.length+(r.length+1)=l.length:=by rw [←hinv];simp
  have hx:=l02Copy_T x (hwl x (a_ hxi))
  unfold l2T at hx
  refine AW.hole ?_
  refine run_sound Tryz.func146 mixed 9 _ _ (by kernel_rfl) ?_
  simp only [go_sem,seval,run.eq_1,hlt,idx_of hxi]
  refine AW.regT ?_
  simp only [go_sem,seval]
  repeat' (first
   | ((first
    | (refine ACalls.fresh (ds:=[.agg x.enc]) (m:=1) hx [2] rfl rfl (by simp) (by simp) ?_<;>(rintro c H' ⟨rfl,e1,B1,rfl⟩ _;refine ⟨rfl,rfl,?_⟩))
    | (refine all_intro (fun Bz=>?_))
    | (refine ⟨sd,?_⟩))<;>(try simp only [go_sem,seval,hlt,idx_of hxi]))
   | fail)
  refine rS_ Tryz.func146 ?_
  simp only [go_sem,seval]
  try simp (disch:=omega) only [wrap_ok]
  refine hnext (p.1++[x],Bz) _ (by simp [←hinv]) (by refine ⟨by simp [mkS,Tm.enc_eq x],by simp [mkS,Tm.enc_eq x],by simp only [mkS,c_,d_,O.refsLt,C.refsLt,C.refsLt1,all_dmap];first | done | rfl | (simp;done),?_⟩;simp [mkS,Abs.get,C.refsLtT,C.refsLt,C.refsLt1])
 ·simp only [b_] at hinv
  subst hinv
  refine run_sound Tryz.func146 mixed 7 _ _ (by kernel_rfl) ?_
  simp only [go_sem,seval,run.eq_1]
  refine AW.place 2 1 0 rfl rfl rfl (by decide) ?_
  refine rS_ Tryz.func146 ?_
  simp only [go_sem,seval]
  all_goals exact ⟨_,_,rfl⟩
def l13T (t:Gl):Prop:=ACalls Tryz.prog 126 [.d (.agg t.enc)] [.hole,.hole] fun c H'=>c=.agg [.d (.int .i64 t.kind),.d (.str t.name),.own 0 1,.own 1 1]∧∃e B e' B',H'=[.tree 1 4 e (t.terms.map Tm.enc) B none,.tree 1 4 e' (t.goals.map Gl.enc) B' none]
theorem l13Copy_T:∀t:Gl,wtL t.enc≤2000000→l13T t:=by
 intro t
 induction t using Gl.ind' with
 | h t ih =>
  intro hw
  have hmx:maxLen=9223372036854775807:=rfl
  have hwt:wtR (t.terms.map Tm.enc)≤2000000∧wtR (t.goals.map Gl.enc)≤2000000:=by
   simp only [Gl.enc_eq t,wtL,D.wt] at hw;omega
  have hlg0:t.goals.length≤2000000:=by
   have:=sumW_le (t.goals.map Gl.enc) 0;simp [sumW] at this;omega
  have hct:=l02CopyAll_T t.terms hwt.1
  unfold l13T
  refine aE_ Tryz.func126 ?_
  refine run_sound Tryz.func126 mixed 3 _ _ (by kernel_rfl) ?_
  simp only [go_sem,seval,run.eq_1]
  refine AW.drawA mixed #[true,true,true,true,true,true,true,true,true,false] [(2,.box (t.enc.map .d))] [] [0,1,2,3,4,5,8,6,7] [9] (some (8,3,81,[.int .i64 0,.string ⟨#[]⟩,.slice none 0 0,.slice none 0 0])) (by kernel_rfl) tz81 (by simp [holdsB]) ?_
  simp only [go_sem,seval]
  repeat' (first
   | ((refine ACalls.fresh (ds:=[.sl (t.terms.map Tm.enc)]) (m:=1) hct [0] rfl rfl (by simp) (by simp) ?_<;>(rintro c H' ⟨rfl,e1,B1,rfl⟩ _;refine ⟨rfl,rfl,?_⟩))<;>(try simp only [go_sem,seval]))
   | fail)
  refine AW.adoptTB 4 3 4 81 (by decide) rfl rfl ?_
  refine rS_ Tryz.func126 ?_
  simp only [go_sem,seval]
  refine AW.rng t.goals [2,3,15,16] 17 15 (fun p:List Gl×(Nat→Prop)=>[]) (fun _ p=>[.tree 1 4 e1 (t.terms.map Tm.enc) B1 none,.hole,.box (t.enc.map .d),.box [.d (.int .i64 0),.d (.str []),.nil0,.nil0],.box [.d (.int .i64 t.kind),.d (.str t.name),.own 0 1,.own 5 p.1.length],.tree p.1.length 4 81 (p.1.map Gl.enc) p.2 none]) (fun r p=>p.1++r=t.goals) ([],fun _=>False) rfl (by simp) rfl wk1_ (fun i x r p hxi hdr hlt hm hinv hnext=>?_) (fun p hinv=>?_)
  ·have hxm:=a_ hxi
   have hpl:p.1.length+(r.length+1)=t.goals.length:=by rw [←hinv];simp
   have hx:=ih x hxm (by have:=Gl.wt_goals hxm;omega)
   unfold l13T at hx
   refine AW.hole ?_
   refine AW.hole ?_
   refine run_sound Tryz.func126 mixed 9 _ _ (by kernel_rfl) ?_
   simp only [go_sem,seval,run.eq_1,hlt,idx_of hxi]
   refine AW.drawA mixed #[true,true,true,true,true,true,false,false] [(4,.box [.d (.int .i64 t.kind),.d (.str t.name),.own 0 1,.own 5 p.1.length]),(8,.box (x.enc.map .d))] [] [0,1,2,3,4,5] [6,7] none (by kernel_rfl) trivial (by simp [holdsB]) ?_
   simp only [go_sem,seval]
   repeat' (first
    | ((first
     | (refine ACalls.fresh (ds:=[.agg x.enc]) (m:=2) hx [6,7] rfl rfl (by simp) (by simp) ?_<;>(rintro c H' ⟨rfl,e2,B2,e3,B3,rfl⟩ _;refine ⟨rfl,rfl,?_⟩))
     | (refine all_intro (fun Bz=>?_))
     | (refine ⟨sd,?_⟩))<;>(try simp only [go_sem,seval]))
    | fail)
   refine rS_ Tryz.func126 ?_
   simp only [go_sem,seval]
   try simp (disch:=omega) only [wrap_ok]
   refine hnext (p.1++[x],Bz) _ (by simp [←hinv]) (by refine ⟨by simp [mkS,Gl.enc_eq x],by simp [mkS,Gl.enc_eq x],by simp only [mkS,c_,d_,O.refsLt,C.refsLt,C.refsLt1,all_dmap];first | done | rfl | (simp;done),?_⟩;simp [mkS,Abs.get,C.refsLtT,C.refsLt,C.refsLt1])
  ·simp only [b_] at hinv
   rw [hinv]
   refine run_sound Tryz.func126 mixed 7 _ _ (by kernel_rfl) ?_
   simp only [go_sem,seval,run.eq_1]
   refine AW.placeB 3 3 5 1 rfl rfl rfl rfl (by decide) ?_
   refine rS_ Tryz.func126 ?_
   simp only [go_sem,seval]
   repeat' (first
    | (exact ⟨_,_,_,_,rfl⟩)
    | fail)
theorem l13Copy_fn (t:Gl) (hw:wtL t.enc≤2000000):Gives Tryz.prog 126 [.agg t.enc] (.d (.agg t.enc)):=by
 have h:=l13Copy_T t hw
 unfold l13T at h
 refine ACalls.frozen (ds:=[.agg t.enc]) (m:=2) h (fun c H' ⟨h1,e,B,e',B',h2⟩ _=>?_)
 subst h1 h2
 rw [Gl.enc_eq t];rfl
theorem l16Copy_fn (l:List Gl) (hl:l.length≤2000000) (hw:∀x,x∈l→wtL x.enc≤2000000):Gives Tryz.prog 95 [.sl (l.map Gl.enc)] (.d (.sl (l.map Gl.enc))):=by
 have hmx:maxLen=9223372036854775807:=rfl
 refine aE_ Tryz.func95 ?_
 refine rS_ Tryz.func95 ?_
 simp only [go_sem,seval]
 refine AW.adopt 3 4 81 (by decide) rfl ?_
 refine AW.rng l [7,8] 9 7 (fun p:Nat×List Gl=>[(3,.own 0 p.1)]) (fun _ p=>[.grow p.1 4 81 (p.2.map Gl.enc)]) (fun r p=>p.2++r=l) (0,[]) rfl (by simp) rfl wk1_ (fun i x r p hxi hdr hlt hm hinv hnext=>?_) (fun p hinv=>?_)
 ·have hxm:=a_ hxi
  have hxw:=hw x hxm
  have hpl:p.2.length+(r.length+1)=l.length:=by rw [←hinv];simp
  refine rS_ Tryz.func95 ?_
  simp only [go_sem,seval,hlt,idx_of hxi]
  repeat' (first
   | (simp (disch:=omega) only [wrap_ok])
   | ((first
    | (refine (l13Copy_fn x hxw).calls rfl ?_)
    | (refine ⟨sd,?_⟩))<;>(try simp only [go_sem,seval,hlt,idx_of hxi]))
   | fail)
  refine hnext (p.1+1,p.2++[x]) _ (by simp [←hinv]) wk1_
 ·simp only [b_] at hinv
  subst hinv
  refine rS_ Tryz.func95 ?_
  simp only [go_sem,seval]
end Go.Proofs.YtehcdhelbkjaeaaGreatDoor
