import Derived.Test.YtehcdhelbkjaeaaGreatDoorW10
import Derived.Test.YtehcdhelbkjaeaaGreatDoorP3
import Derived.Test.YtehcdhelbkjaeaaGreatDoorFam
import Derived.Test.YtehcdhelbkjaeaaGreatDoorW42
open List renaming getElem?_eq_getElem→a_,mem_map→b_,length_map→c_,drop_eq_getElem_cons→d_,getElem?_cons_succ→e_,take_append_drop→f_
namespace Go.Proofs.YtehcdhelbkjaeaaGreatDoor
open Go.Abs
set_option maxRecDepth 100000
set_option maxHeartbeats 4000000
set_option linter.unusedSimpArgs false
set_option linter.unusedVariables false
def hTT (l:List Tm):Prop:=∀k:Int,0≤k→k+Tm.mcnts l≤1000000000→Gives Tryz.prog 29 [.sl ((Tm.mrks k l).map Tm.enc),.int .i64 k] (.d (.int .i64 (k+Tm.mcnts l)))
theorem heldTermS_T (l:List Tm) (ih:∀x,x∈l→hTT x.args):hTT l:=by
 intro k h0 h1
 have hml:=Tm.mrks_len l k
 have hlm:=Tm.len_mcnts l
 refine aE_ Tryz.func29 ?_
 refine rS_ Tryz.func29 ?_
 simp only [go_sem,seval]
 refine AW.lp [0] (fun i:Nat=>[(5,.d (.int .i64 i)),(1,.d (.int .i64 (k+Tm.mcnts (l.take i))))]) (fun H _=>H) (fun i=>i≤l.length) (fun i=>l.length - i) 0 (Nat.zero_le _) (by refine ⟨by simp [mkS],by simp [mkS],by simp [mkS,O.refsLt],?_⟩;simp [mkS,Abs.get,C.refsLtT,C.refsLt,C.refsLt1,Tm.mcnts]) ?_
 intro i hi hnext
 by_cases h:i<l.length
 ·have hlt:(i:Int)<(l.length:Int):=by omega
  have hxi:l[i]? = some l[i]:=a_ h
  have hix:=ih l[i] (List.getElem_mem _)
  have hat:=Tm.mrks_at l k i _ hxi
  have hnxt:l.take (i+1)=l.take i++[l[i]]:=by rw [List.take_add_one,a_ h];rfl
  have hcn:Tm.mcnts (l.take (i+1))=Tm.mcnts (l.take i)+l[i].mcnt:=by rw [hnxt,Tm.mcnts_app];simp [Tm.mcnts]
  have hcl:Tm.mcnts l=Tm.mcnts (l.take i)+(l[i].mcnt+Tm.mcnts (l.drop (i+1))):=by
   conv=>lhs;rw [←f_ i l,d_ h,Tm.mcnts_app]
   simp [Tm.mcnts]
  have hmc:=Tm.mcnt_eq l[i]
  have hnx:=fun s'=>hnext (i+1) s' h (by omega)
  clear hnext
  simp only [hcn] at hnx
  generalize hx:l[i]=x at *
  generalize hk:k+(Tm.mcnts (l.take i):Int)=kk at *
  generalize hy:x.mrk kk=y at *
  have e2:kk+1+1=kk+2:=by omega
  have e3:kk+1+1+1=kk+3:=by omega
  have ye:y.kind=kk∧y.int=kk+1∧y.name=mText (kk+1+1)∧y.args=Tm.mrks (kk+1+1+1) x.args:=by
   rw [←hy,Tm.mrk_eq,e3,e2];exact ⟨rfl,rfl,rfl,rfl⟩
  have hrec:=hix (kk+1+1+1) (by omega) (by omega)
  have w1:IntKind.i64.wrap (kk+1)=kk+1:=wrap_ok (by omega) (by omega)
  have w2:IntKind.i64.wrap (kk+1+1)=kk+1+1:=wrap_ok (by omega) (by omega)
  have w3:IntKind.i64.wrap (kk+1+1+1)=kk+1+1+1:=wrap_ok (by omega) (by omega)
  refine rS_ Tryz.func29 ?_
  simp only [go_sem,seval,hlt,hml,idx_of hat,ye.1,ye.2.1,ye.2.2.1,ye.2.2.2,w1,w2,w3]
  repeat' (first
   | ((refine br_n (fun hq=>?_) (fun hq=>?_))<;>(try simp only [go_sem,seval,hlt,hml,idx_of hat,ye.1,ye.2.1,ye.2.2.1,ye.2.2.2,w1,w2,w3,hq]))
   | (simp (disch:=omega) only [wrap_ok])
   | ((first
    | (refine hrec.calls rfl ?_)
    | (refine (markText_fn _ sd sd).callQ rfl ?_))<;>(try simp only [go_sem,seval,hlt,hml,idx_of hat,ye.1,ye.2.1,ye.2.2.1,ye.2.2.2,w1,w2,w3]))
   | fail)
  all_goals first | (exfalso;omega) | skip
  refine hnx _ ?_
  refine ⟨by simp [mkS],by simp [mkS],by simp [mkS,O.refsLt],?_⟩;simp [mkS,Abs.get,C.refsLtT,C.refsLt,C.refsLt1];omega
 ·obtain rfl:i=l.length:=by omega
  refine rS_ Tryz.func29 ?_
  simp only [go_sem,seval,hml,List.take_length]
theorem hTT_args:∀t:Tm,hTT t.args:=by
 intro t
 induction t using Tm.ind' with
 | h t ih=>exact heldTermS_T t.args ih
theorem hTT_all (l:List Tm):hTT l:=heldTermS_T l (fun x _=>hTT_args x)
theorem eqTm_fn:∀t:Tm,wtL t.enc≤1048576→Gives Tryz.prog 48 [.agg t.enc,.agg t.enc] (.d (.bool true)):=by
 intro t
 induction t using Tm.ind' with
 | h t ih =>
  intro hw
  have hmx:maxLen=9223372036854775807:=rfl
  have hl:t.args.length≤1048576:=by
   have h1:wtR (t.args.map Tm.enc)≤1048576:=by simp only [Tm.enc_eq t,wtL,D.wt] at hw;omega
   have:=sumW_le (t.args.map Tm.enc) 0;simp [sumW] at this;omega
  rw [Tm.enc_eq t]
  refine eq48 _ _ _ _ (eq23 _ (by rw [c_];omega) (fun x hx=>?_))
  obtain ⟨y,hy,rfl⟩:=b_.1 hx
  exact ⟨Tm.enc_len y,ih y hy (by have:=wt_args hy;omega)⟩
theorem eqTmS_fn (l:List Tm) (hw:wtR (l.map Tm.enc)≤1048576):Gives Tryz.prog 23 [.sl (l.map Tm.enc),.sl (l.map Tm.enc)] (.d (.bool true)):=by
 have hmx:maxLen=9223372036854775807:=rfl
 have hl:l.length≤1048576:=by
  have:=sumW_le (l.map Tm.enc) 0;simp [sumW] at this;omega
 refine eq23 _ (by rw [c_];omega) (fun x hx=>?_)
 obtain ⟨y,hy,rfl⟩:=b_.1 hx
 exact ⟨Tm.enc_len y,eqTm_fn y (by have:=wtL_lt (l.map Tm.enc) y.enc (b_.2 ⟨y,hy,rfl⟩);omega)⟩
theorem Pf.mrks_at:∀(l:List Pf) (k:Int) (i:Nat) (x:Pf),l[i]? = some x→(Pf.mrks k l)[i]? = some (x.mrk (k+Pf.mcnts (l.take i)))
 | [],k,i,x,h=>by simp at h
 | t :: r,k,0,x,h=>by simp at h;subst h;simp [Pf.mrks,Pf.mcnts]
 | t :: r,k,i+1,x,h=>by
  simp only [e_] at h
  simp only [Pf.mrks,e_,List.take_succ_cons,Pf.mcnts]
  rw [Pf.mrks_at r _ i x h]
  rw [show k+(t.mcnt:Int)+(Pf.mcnts (r.take i):Int)=k+((t.mcnt+Pf.mcnts (r.take i):Nat):Int) by omega]
def hPT (l:List Pf):Prop:=∀k:Int,0≤k→k+Pf.mcnts l≤1000000000→Gives Tryz.prog 30 [.sl ((Pf.mrks k l).map Pf.enc),.int .i64 k] (.d (.int .i64 (k+Pf.mcnts l)))
theorem heldProofS_T (l:List Pf) (ih:∀x,x∈l→hPT x.kids):hPT l:=by
 intro k h0 h1
 have hml:=Pf.mrks_len l k
 have hlm:=Pf.len_mcnts l
 refine aE_ Tryz.func30 ?_
 refine rS_ Tryz.func30 ?_
 simp only [go_sem,seval]
 refine AW.lp [0] (fun i:Nat=>[(5,.d (.int .i64 i)),(1,.d (.int .i64 (k+Pf.mcnts (l.take i))))]) (fun H _=>H) (fun i=>i≤l.length) (fun i=>l.length - i) 0 (Nat.zero_le _) (by refine ⟨by simp [mkS],by simp [mkS],by simp [mkS,O.refsLt],?_⟩;simp [mkS,Abs.get,C.refsLtT,C.refsLt,C.refsLt1,Pf.mcnts]) ?_
 intro i hi hnext
 by_cases h:i<l.length
 ·have hlt:(i:Int)<l.length:=by omega
  have hxi:l[i]? = some l[i]:=a_ h
  have hix:=ih l[i] (List.getElem_mem _)
  have hat:=Pf.mrks_at l k i _ hxi
  have hnxt:l.take (i+1)=l.take i++[l[i]]:=by rw [List.take_add_one,a_ h];rfl
  have hcn:Pf.mcnts (l.take (i+1))=Pf.mcnts (l.take i)+l[i].mcnt:=by rw [hnxt,Pf.mcnts_app];simp [Pf.mcnts]
  have hcl:Pf.mcnts l=Pf.mcnts (l.take i)+(l[i].mcnt+Pf.mcnts (l.drop (i+1))):=by
   conv=>lhs;rw [←f_ i l,d_ h,Pf.mcnts_app]
   simp [Pf.mcnts]
  have hmc:=Pf.mcnt_eq l[i]
  have hnx:=fun s'=>hnext (i+1) s' h (by omega)
  clear hnext
  simp only [hcn] at hnx
  generalize hx:l[i]=x at *
  generalize hk:k+(Pf.mcnts (l.take i):Int)=kk at *
  generalize hy:x.mrk kk=y at *
  have e2:kk+1+1=kk+2:=by omega
  have ye:y.rel=mText kk∧y.clause=kk+1∧y.values=Tm.mrks (kk+1+1) x.values∧y.kids=Pf.mrks (kk+1+1+Tm.mcnts x.values) x.kids:=by
   rw [←hy,Pf.mrk_eq,e2];exact ⟨rfl,rfl,rfl,rfl⟩
  have htv:=hTT_all x.values (kk+1+1) (by omega) (by omega)
  have hrec:=hix (kk+1+1+Tm.mcnts x.values) (by omega) (by omega)
  have w1:IntKind.i64.wrap (kk+1)=kk+1:=wrap_ok (by omega) (by omega)
  have w2:IntKind.i64.wrap (kk+1+1)=kk+1+1:=wrap_ok (by omega) (by omega)
  refine rS_ Tryz.func30 ?_
  simp only [go_sem,seval,hlt,hml,idx_of hat,ye.1,ye.2.1,ye.2.2.1,ye.2.2.2,w1,w2]
  repeat' (first
   | ((refine br_n (fun hq=>?_) (fun hq=>?_))<;>(try simp only [go_sem,seval,hlt,hml,idx_of hat,ye.1,ye.2.1,ye.2.2.1,ye.2.2.2,w1,w2,hq]))
   | (simp (disch:=omega) only [wrap_ok])
   | ((first
    | (refine htv.calls rfl ?_)
    | (refine hrec.calls rfl ?_)
    | (refine (markText_fn _ sd sd).callQ rfl ?_))<;>(try simp only [go_sem,seval,hlt,hml,idx_of hat,ye.1,ye.2.1,ye.2.2.1,ye.2.2.2,w1,w2]))
   | fail)
  all_goals first | (exfalso;omega) | skip
  refine hnx _ ?_
  refine ⟨by simp [mkS],by simp [mkS],by simp [mkS,O.refsLt],?_⟩;simp [mkS,Abs.get,C.refsLtT,C.refsLt,C.refsLt1];omega
 ·obtain rfl:i=l.length:=by omega
  refine rS_ Tryz.func30 ?_
  simp only [go_sem,seval,hml,List.take_length]
theorem hPT_kids:∀t:Pf,hPT t.kids:=by
 intro t
 induction t using Pf.ind' with
 | h t ih=>exact heldProofS_T t.kids ih
theorem hPT_all (l:List Pf):hPT l:=heldProofS_T l (fun x _=>hPT_kids x)
theorem heldProof_T (t:Pf) (k:Int) (h0:0≤k) (h1:k+t.mcnt≤1000000000):Gives Tryz.prog 12 [.agg [.str t.rel,.int .i64 t.clause,.sl ((Tm.mrks k t.values).map Tm.enc),.sl ((Pf.mrks (k+Tm.mcnts t.values) t.kids).map Pf.enc)],.int .i64 k] (.d (.int .i64 (k+Tm.mcnts t.values+Pf.mcnts t.kids))):=by
 have hmc:=Pf.mcnt_eq t
 have htv:=hTT_all t.values k (by omega) (by omega)
 have hpk:=hPT_all t.kids (k+Tm.mcnts t.values) (by omega) (by omega)
 refine aE_ Tryz.func12 ?_
 refine rS_ Tryz.func12 ?_
 simp only [go_sem,seval]
 repeat' (first
  | ((refine br_n (fun hq=>?_) (fun hq=>?_))<;>(try simp only [go_sem,seval,hq]))
  | ((first
   | (refine htv.calls rfl ?_)
   | (refine hpk.calls rfl ?_))<;>(try simp only [go_sem,seval]))
  | fail)
 all_goals first | (exfalso;omega) | skip
theorem eqPf_fn:∀t:Pf,wtL t.enc≤1048576→Gives Tryz.prog 8 [.agg t.enc,.agg t.enc] (.d (.bool true)):=by
 intro t
 induction t using Pf.ind' with
 | h t ih =>
  intro hw
  have hmx:maxLen=9223372036854775807:=rfl
  have hwv:wtR (t.values.map Tm.enc)≤1048576:=by
   simp only [Pf.enc_eq t,wtL,D.wt] at hw;omega
  have hl:t.kids.length≤1048576:=by
   have h1:wtR (t.kids.map Pf.enc)≤1048576:=by simp only [Pf.enc_eq t,wtL,D.wt] at hw;omega
   have:=sumW_le (t.kids.map Pf.enc) 0;simp [sumW] at this;omega
  rw [Pf.enc_eq t]
  refine eq8 _ _ _ _ (eqTmS_fn t.values hwv) (eq24 _ (by rw [c_];omega) (fun x hx=>?_))
  obtain ⟨y,hy,rfl⟩:=b_.1 hx
  exact ⟨Pf.enc_len y,ih y hy (by have:=Pf.wt_kids hy;omega)⟩
end Go.Proofs.YtehcdhelbkjaeaaGreatDoor
