import Derived.Test.YtifkkdlpbocgjaaGreatW10
import Derived.Test.YtifkkdlpbocgjaaGreatP3
import Derived.Test.YtifkkdlpbocgjaaGreatFam
namespace Go.Proofs.YtifkkdlpbocgjaaGreat
open Go.Abs
set_option maxRecDepth 100000
set_option maxHeartbeats 4000000
set_option linter.unusedSimpArgs false
set_option linter.unusedVariables false
def hTT (l:List Tm):Prop:=∀k:Int,0≤k→k+Tm.mcnts l≤1000000000→Gives Tryz.prog 16 [.sl ((Tm.mrks k l).map Tm.enc),.int .i64 k] (.d (.int .i64 (k+Tm.mcnts l)))
theorem heldTermS_T (l:List Tm) (ih:∀x,x∈l→hTT x.args):hTT l:=by
 intro k h0 h1
 have hml:=Tm.mrks_len l k
 have hlm:=Tm.len_mcnts l
 refine ACalls.enter (fn:=Tryz.f16) Tryz.func16 rfl (by show 2≤_;decide) ?_
 refine run_sound Tryz.func16 mixed 200 _ _ (by kernel_rfl) ?_
 simp only [go_sem,seval]
 refine AW.lp [0] (fun i:Nat=>[(5,.d (.int .i64 i)),(1,.d (.int .i64 (k+Tm.mcnts (l.take i))))]) (fun H _=>H) (fun i=>i≤l.length) (fun i=>l.length - i) 0 (Nat.zero_le _) (by refine ⟨by simp [mkS],by simp [mkS],by simp [mkS,O.refsLt],?_⟩;simp [mkS,Abs.get,C.refsLtT,C.refsLt,C.refsLt1,Tm.mcnts]) ?_
 intro i hi hnext
 by_cases h:i<l.length
 ·have hlt:(i:Int)<(l.length:Int):=by omega
  have hxi:l[i]? = some l[i]:=List.getElem?_eq_getElem h
  have hix:=ih l[i] (List.getElem_mem _)
  have hat:=Tm.mrks_at l k i _ hxi
  have hnxt:l.take (i+1)=l.take i++[l[i]]:=by rw [List.take_add_one,List.getElem?_eq_getElem h];rfl
  have hcn:Tm.mcnts (l.take (i+1))=Tm.mcnts (l.take i)+l[i].mcnt:=by rw [hnxt,Tm.mcnts_app];simp [Tm.mcnts]
  have hcl:Tm.mcnts l=Tm.mcnts (l.take i)+(l[i].mcnt+Tm.mcnts (l.drop (i+1))):=by
   conv=>lhs;rw [←List.take_append_drop i l,List.drop_eq_getElem_cons h,Tm.mcnts_app]
   simp [Tm.mcnts]
  have hmc:=Tm.mcnt_eq l[i]
  have hnx:=fun s'=>hnext (i+1) s' h (by omega)
  clear hnext
  simp only [hcn] at hnx
  generalize hx:l[i]=x at *
  generalize hk:k+(Tm.mcnts (l.take i):Int)=kk at *
  generalize hy:x.mrk kk=y at *
  have e2:kk+1+1=kk+2:=by omega
  have e3:kk+1+1+1=kk+3:=by omega
  have ye:y.kind=kk∧y.int=kk+1∧y.name=mText (kk+1+1)∧y.args=Tm.mrks (kk+1+1+1) x.args:=by
   rw [←hy,Tm.mrk_eq,e3,e2];exact ⟨rfl,rfl,rfl,rfl⟩
  have hrec:=hix (kk+1+1+1) (by omega) (by omega)
  have w1:IntKind.i64.wrap (kk+1)=kk+1:=wrap_ok (by omega) (by omega)
  have w2:IntKind.i64.wrap (kk+1+1)=kk+1+1:=wrap_ok (by omega) (by omega)
  have w3:IntKind.i64.wrap (kk+1+1+1)=kk+1+1+1:=wrap_ok (by omega) (by omega)
  refine run_sound Tryz.func16 mixed 200 _ _ (by kernel_rfl) ?_
  simp only [go_sem,seval,hlt,hml,idx_of hat,ye.1,ye.2.1,ye.2.2.1,ye.2.2.2,w1,w2,w3]
  repeat' (first
   | ((refine br_n (fun hq=>?_) (fun hq=>?_))<;>(try simp only [go_sem,seval,hlt,hml,idx_of hat,ye.1,ye.2.1,ye.2.2.1,ye.2.2.2,w1,w2,w3,hq]))
   | (simp (disch:=omega) only [wrap_ok])
   | ((first
    | (refine hrec.calls rfl ?_)
    | (refine (markText_fn _ sd sd).callQ rfl ?_))<;>(try simp only [go_sem,seval,hlt,hml,idx_of hat,ye.1,ye.2.1,ye.2.2.1,ye.2.2.2,w1,w2,w3]))
   | fail)
  all_goals first | (exfalso;omega) | skip
  refine hnx _ ?_
  refine ⟨by simp [mkS],by simp [mkS],by simp [mkS,O.refsLt],?_⟩;simp [mkS,Abs.get,C.refsLtT,C.refsLt,C.refsLt1];omega
 ·obtain rfl:i=l.length:=by omega
  refine run_sound Tryz.func16 mixed 200 _ _ (by kernel_rfl) ?_
  simp only [go_sem,seval,hml,List.take_length]
theorem hTT_args:∀t:Tm,hTT t.args:=by
 intro t
 induction t using Tm.ind' with
 | h t ih=>exact heldTermS_T t.args ih
theorem hTT_all (l:List Tm):hTT l:=heldTermS_T l (fun x _=>hTT_args x)
theorem eqTm_fn:∀t:Tm,wtL t.enc≤1048576→Gives Tryz.prog 29 [.agg t.enc,.agg t.enc] (.d (.bool true)):=by
 intro t
 induction t using Tm.ind' with
 | h t ih =>
  intro hw
  have hmx:maxLen=9223372036854775807:=rfl
  have hl:t.args.length≤1048576:=by
   have h1:wtR (t.args.map Tm.enc)≤1048576:=by simp only [Tm.enc_eq t,wtL,D.wt] at hw;omega
   have:=sumW_le (t.args.map Tm.enc) 0;simp [sumW] at this;omega
  rw [Tm.enc_eq t]
  refine eq29 _ _ _ _ (eq10 _ (by rw [List.length_map];omega) (fun x hx=>?_))
  obtain ⟨y,hy,rfl⟩:=List.mem_map.1 hx
  exact ⟨Tm.enc_len y,ih y hy (by have:=wt_args hy;omega)⟩
theorem eqTmS_fn (l:List Tm) (hw:wtR (l.map Tm.enc)≤1048576):Gives Tryz.prog 10 [.sl (l.map Tm.enc),.sl (l.map Tm.enc)] (.d (.bool true)):=by
 have hmx:maxLen=9223372036854775807:=rfl
 have hl:l.length≤1048576:=by
  have:=sumW_le (l.map Tm.enc) 0;simp [sumW] at this;omega
 refine eq10 _ (by rw [List.length_map];omega) (fun x hx=>?_)
 obtain ⟨y,hy,rfl⟩:=List.mem_map.1 hx
 exact ⟨Tm.enc_len y,eqTm_fn y (by have:=wtL_lt (l.map Tm.enc) y.enc (List.mem_map.2 ⟨y,hy,rfl⟩);omega)⟩
end Go.Proofs.YtifkkdlpbocgjaaGreat
