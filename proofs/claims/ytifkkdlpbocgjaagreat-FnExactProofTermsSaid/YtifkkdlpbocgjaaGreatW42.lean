import Derived.Test.YtifkkdlpbocgjaaGreatW10
import Derived.Test.YtifkkdlpbocgjaaGreatA7
import Derived.Test.YtifkkdlpbocgjaaGreatP6
namespace Go.Proofs.YtifkkdlpbocgjaaGreat
open Go.Abs
set_option maxRecDepth 100000
set_option maxHeartbeats 4000000
set_option linter.unusedSimpArgs false
set_option linter.unusedVariables false
def toPT (t:Pf):Prop:=ACalls Tryz.prog 8 [.d (.agg t.enc)] [.hole,.hole] fun c H'=>c=.agg [.d (.str t.rel),.d (.int .i64 t.clause),.own 0 1,.own 1 1]∧∃e B e' B',H'=[.tree 1 4 e (t.values.map Tm.enc) B none,.tree 1 4 e' (t.kids.map Pf.enc) B' none]
theorem toProofS_T (l:List Pf) (hw:wtR (l.map Pf.enc)≤1048576) (hl:∀x,x∈l→toPT x):ACalls Tryz.prog 25 [.d (.sl (l.map Pf.enc))] [.hole] (fun c H'=>c=.own 0 1∧∃e B,H'=[.tree 1 4 e (l.map Pf.enc) B none]):=by
 have hlen:l.length≤1048576:=by
  have:=sumW_le (l.map Pf.enc) 0;simp [sumW] at this;omega
 have hmx:maxLen=9223372036854775807:=rfl
 refine ACalls.enter (fn:=Tryz.f25) Tryz.func25 rfl (by show 1≤_;decide) ?_
 refine run_sound Tryz.func25 mixed 200 _ _ (by kernel_rfl) ?_
 simp only [go_sem,seval]
 repeat' (first
  | ((refine ⟨sd,?_⟩)<;>(try simp only [go_sem,seval]))
  | fail)
 refine AW.rowT 3 1 rfl rfl (by simp) (by decide) (fun x hx d hd=>by have e:=List.eq_of_mem_replicate hx;subst e;simp at hd;rcases hd with rfl | rfl | rfl | rfl<;>rfl) ?_
 refine AW.lp [0,3] (fun p:Nat×(Nat→Prop)=>[(4,.d (.int .i64 p.1))]) (fun _ p=>[.hole,.dead,.tree 0 4 39 ((l.map Pf.enc).take p.1++List.replicate ((l.map Pf.enc).length - p.1) [.str [],.int .i64 0,.sl [],.sl []]) p.2 none]) (fun p=>p.1≤l.length) (fun p=>l.length - p.1) (0,fun _=>False) (Nat.zero_le _) (by refine ⟨by simp [mkS],by simp [mkS],by simp [mkS,O.refsLt],?_⟩;simp [mkS,Abs.get,C.refsLtT,C.refsLt,C.refsLt1]) ?_
 rintro ⟨i,B⟩ hi hnext
 dsimp only at hi hnext ⊢
 have hL:(l.map Pf.enc).length=l.length:=by simp
 by_cases h:i<l.length
 ·obtain ⟨x,hxi⟩:∃x,l[i]? = some x:=⟨_,List.getElem?_eq_getElem h⟩
  have hlt:(i:Int)<(l.length:Int):=by omega
  have hx:=hl x (List.mem_of_getElem? hxi)
  have hxe:(l.map Pf.enc)[i]? = some x.enc:=by simp [hxi]
  have hrl:((l.map Pf.enc).take i++List.replicate ((l.map Pf.enc).length - i) [D.str [],.int .i64 0,.sl [],.sl []]).length=l.length:=by simp;omega
  have hrs:=row_step (z:=[D.str [],.int .i64 0,.sl [],.sl []]) (k:=4) hxe rfl
  generalize hr0:(l.map Pf.enc).take i++List.replicate ((l.map Pf.enc).length - i) [D.str [],.int .i64 0,.sl [],.sl []]=r0 at hrl hrs ⊢
  refine AW.hole ?_
  refine AW.hole ?_
  refine run_sound Tryz.func25 mixed 200 _ _ (by kernel_rfl) ?_
  simp only [go_sem,seval,hlt,idx_of hxi,hrl]
  repeat' (first
   | (simp (disch:=omega) only [wrap_ok])
   | ((first
    | (refine ACalls.fresh (ds:=[.agg x.enc]) (m:=2) hx [3,4] rfl rfl (by simp) (by simp) ?_<;>(rintro c H' ⟨rfl,e1,B1,e2,B2,rfl⟩ _;refine ⟨rfl,rfl,?_⟩))
    | (refine ⟨sd,?_⟩))<;>(try simp only [go_sem,seval,hrl,hlt]))
   | fail)
  intro B'
  rw [Pf.enc_eq x] at hrs
  simp only [List.cons_append,List.nil_append] at hrs
  rw [hrs]
  exact hnext (i+1,B') _ h (by omega) (by refine ⟨by simp [mkS],by simp [mkS],by simp [mkS,O.refsLt],?_⟩;simp [mkS,Abs.get,C.refsLtT,C.refsLt,C.refsLt1])
 ·obtain rfl:i=l.length:=by omega
  have hfull:(l.map Pf.enc).take l.length++List.replicate ((l.map Pf.enc).length - l.length) [D.str [],.int .i64 0,.sl [],.sl []]=l.map Pf.enc:=by rw [←hL];exact row_all _ _
  rw [hfull]
  refine AW.place 3 2 0 rfl rfl rfl (by decide) ?_
  refine run_sound Tryz.func25 mixed 200 _ _ (by kernel_rfl) ?_
  simp only [go_sem,seval]
  simp [O.refsLt]
theorem toProof_T:∀t:Pf,wtL t.enc≤1048576→toPT t:=by
 intro t
 induction t using Pf.ind' with
 | h t ih =>
  intro hw
  unfold toPT
  have hwt:wtR (t.values.map Tm.enc)≤1048576:=by
   simp only [Pf.enc_eq t,wtL,D.wt] at hw;omega
  have hwg:wtR (t.kids.map Pf.enc)≤1048576:=by
   simp only [Pf.enc_eq t,wtL,D.wt] at hw;omega
  have ht:=toTermS_T t.values hwt (fun x hx=>toTerm_T x (by have:=Pf.wt_values hx;omega))
  have hg:=toProofS_T t.kids hwg (fun x hx=>ih x hx (by have:=Pf.wt_kids hx;omega))
  refine ACalls.enter (fn:=Tryz.f8) Tryz.func8 rfl (by show 1≤_;decide) ?_
  refine run_sound Tryz.func8 mixed 200 _ _ (by kernel_rfl) ?_
  simp only [go_sem,seval]
  repeat' (first
   | (exact ⟨_,_,_,_,rfl⟩)
   | ((first
    | (refine ACalls.fresh (ds:=[.sl (t.values.map Tm.enc)]) (m:=1) ht [0] rfl rfl (by simp) (by simp) ?_<;>(rintro c H' ⟨rfl,e1,B1,rfl⟩ _;refine ⟨rfl,rfl,?_⟩))
    | (refine ACalls.fresh (ds:=[.sl (t.kids.map Pf.enc)]) (m:=1) hg [1] rfl rfl (by simp) (by simp) ?_<;>(rintro c H' ⟨rfl,e1,B1,rfl⟩ _;refine ⟨rfl,rfl,?_⟩)))<;>(try simp only [go_sem,seval]))
   | fail)
theorem markProofS_0 (k:Int):Gives Tryz.prog 33 [.sl [],.int .i64 k] (.d (.int .i64 k)):=by
 have z0:((0:Nat):Int)=0:=rfl
 refine ACalls.enter (fn:=Tryz.f33) Tryz.func33 rfl (by show 2≤_;decide) ?_
 refine run_sound Tryz.func33 mixed 200 _ _ (by kernel_rfl) ?_
 simp only [go_sem,seval]
 repeat' (first
  | ((refine AW.loop ?_<;>(refine run_sound Tryz.func33 mixed 200 _ _ (by kernel_rfl) ?_))<;>(try simp only [go_sem,seval,z0]))
  | fail)
 all_goals (exfalso;simp at *)
def mPT (l:List Pf):Prop:=∀(k:Int) (q e:Nat) (B:Nat→Prop),0≤k→k+Pf.mcnts l≤1000000000 →
 ACalls Tryz.prog 33 [.own 0 q,.d (.int .i64 k)] [.tree q 4 e (l.map Pf.enc) B none] fun c H'=>c=.d (.int .i64 (k+Pf.mcnts l))∧∃B',H'=[.tree q 4 e ((Pf.mrks k l).map Pf.enc) B' none]
theorem markProofS_T (l:List Pf) (ih:∀x,x∈l→mPT x.kids):mPT l:=by
 intro k q e B h0 h1
 have hlm:=Pf.len_mcnts l
 refine ACalls.enter (fn:=Tryz.f33) Tryz.func33 rfl (by show 2≤_;decide) ?_
 refine run_sound Tryz.func33 mixed 200 _ _ (by kernel_rfl) ?_
 simp only [go_sem,seval]
 refine AW.lp [0] (fun p:Nat×(Nat→Prop)=>[(5,.d (.int .i64 p.1)),(1,.d (.int .i64 (k+Pf.mcnts (l.take p.1))))]) (fun _ p=>[.tree q 4 e ((Pf.mrks k (l.take p.1)++l.drop p.1).map Pf.enc) p.2 none]) (fun p=>p.1≤l.length) (fun p=>l.length - p.1) (0,B) (Nat.zero_le _) (by refine ⟨by simp [mkS],by simp [mkS,Pf.mrks],by simp [mkS,O.refsLt],?_⟩;simp [mkS,Abs.get,C.refsLtT,C.refsLt,C.refsLt1,Pf.mcnts]) ?_
 rintro ⟨i,B1⟩ hi hnext
 dsimp only at hi hnext ⊢
 by_cases h:i<l.length
 ·have hlt:(i:Int)<(l.length:Int):=by omega
  have hd:l.drop i=l[i] :: l.drop (i+1):=List.drop_eq_getElem_cons h
  have hll:((Pf.mrks k (l.take i)).map Pf.enc++l[i].enc :: (l.drop (i+1)).map Pf.enc).length=l.length:=by simp [Pf.mrks_len];omega
  have hai:((Pf.mrks k (l.take i)).map Pf.enc).length=i:=by simp [Pf.mrks_len];omega
  have hnxt:l.take (i+1)=l.take i++[l[i]]:=by rw [List.take_add_one,List.getElem?_eq_getElem h];rfl
  have hcn:Pf.mcnts (l.take (i+1))=Pf.mcnts (l.take i)+l[i].mcnt:=by rw [hnxt,Pf.mcnts_app];simp [Pf.mcnts]
  have hcl:Pf.mcnts l=Pf.mcnts (l.take i)+(l[i].mcnt+Pf.mcnts (l.drop (i+1))):=by
   conv=>lhs;rw [←List.take_append_drop i l,hd,Pf.mcnts_app]
   simp [Pf.mcnts]
  have hix:=ih l[i] (List.getElem_mem _)
  have hmr:Pf.mrks k (l.take (i+1))=Pf.mrks k (l.take i)++[l[i].mrk (k+Pf.mcnts (l.take i))]:=by rw [hnxt,Pf.mrks_app];simp [Pf.mrks]
  have hmc:=Pf.mcnt_eq l[i]
  rw [hd,List.map_append,List.map_cons]
  have hnx:=fun B' s'=>hnext (i+1,B') s' h (by dsimp only;omega)
  clear hnext
  simp only [hmr,hcn,List.map_append,List.map_cons,List.map_nil,Pf.mrk_eq] at hnx
  generalize hx:l[i]=x at *
  generalize hA:(Pf.mrks k (l.take i)).map Pf.enc=A at *
  generalize hZ:(l.drop (i+1)).map Pf.enc=Z at *
  generalize hk:k+(Pf.mcnts (l.take i):Int)=kk at *
  have s1:=fun (y:List D)=>set_split (x:=x.enc) (y:=y) (r:=Z) hai
  have s2:=fun (y y':List D)=>set_split (x:=y) (y:=y') (r:=Z) hai
  have g1:=fun (y:List D)=>at_split (x:=y) (r:=Z) hai
  have xe:=Pf.enc_eq x
  rw [xe] at hll ⊢
  have zk4:∀zk:Nat,x.kids.map Pf.enc≠[]→(∀j,j∈x.kids→4=zk)→zk=4:=fun zk hne hz=>by
   cases ha:x.kids with
   | nil=>simp [ha] at hne
   | cons a r=>exact (hz a (by simp [ha])).symm
  have hrow:∀ts ks,(Pf.mk (mText kk) (kk+1) ts ks).enc=[.str (mText kk),.int .i64 (kk+1),.sl (ts.map Tm.enc),.sl (ks.map Pf.enc)]:=fun ts ks=>by
   rw [Pf.enc_eq];rfl
  have zt4:∀zk:Nat,x.values.map Tm.enc≠[]→(∀j,j∈x.values→4=zk)→zk=4:=fun zk hne hz=>by
   cases ha:x.values with
   | nil=>simp [ha] at hne
   | cons a r=>exact (hz a (by simp [ha])).symm
  simp only [hrow,List.append_assoc,List.cons_append,List.nil_append] at hnx
  have g2:=fun (y:List D) (Q:List D→Prop)=>idx_of (g1 y) Q
  refine run_sound Tryz.func33 mixed 17 _ _ (by kernel_rfl) ?_
  simp only [go_sem,seval,run.eq_1,hlt,hll,s2,g1,g2]
  repeat' (first
   | (refine lend_intro (fun hk0=>?_) (fun hk1 zk e' B2 B3 hzk=>?_)<;>(try simp only [go_sem,seval,hlt,hll,s2,g1,g2,run.eq_1]))
   | (simp (disch:=omega) only [wrap_ok])
   | ((first
    | (refine all_intro (fun Bz=>?_))
    | (refine (markTermS_0 _).calls rfl ?_)
    | (refine (markText_fn _ sd sd).calls rfl ?_)
    | (refine ⟨sd,?_⟩))<;>(try simp only [go_sem,seval,hlt,hll,s2,g1,g2,run.eq_1]))
   | fail)
  ·have ha:x.values=[]:=by simpa using hk0
   have hm0:Tm.mcnts x.values=0:=by rw [ha];rfl
   have e1:kk+1+1=kk+2+((0:Nat):Int):=by omega
   rw [ha] at hnx ⊢
   refine run_sound Tryz.func33 mixed 200 _ _ (by kernel_rfl) ?_
   simp only [go_sem,seval,hlt,hll,s2,g1,g2]
   repeat' (first
    | (refine lend_intro (fun hk0=>?_) (fun hk1 zk e' B2 B3 hzk=>?_)<;>(try simp only [go_sem,seval,hlt,hll,s2,g1,g2]))
    | (simp (disch:=omega) only [wrap_ok])
    | ((first
     | (refine (markProofS_0 _).calls rfl ?_)
     | (refine ⟨sd,?_⟩))<;>(try simp only [go_sem,seval,hlt,hll,s2,g1,g2]))
    | fail)
   ·have hb:x.kids=[]:=by simpa using hk0
    have hn0:Pf.mcnts x.kids=0:=by rw [hb];rfl
    rw [hb] at hnx ⊢
    refine hnx Bz _ ?_
    refine ⟨by simp [mkS],by simp [mkS,Pf.mrks,Tm.mrks,Tm.mcnts,show kk+1+1=kk+2 by omega],by simp [mkS,O.refsLt],?_⟩;simp [mkS,Abs.get,C.refsLtT,C.refsLt,C.refsLt1];omega
   ·obtain rfl:=zk4 zk hk1 hzk
    refine (hix (kk+1+1) 0 e' B3 (by omega) (by omega)).at1 rfl 1 rfl rfl ?_
    rintro c o' ⟨rfl,B4,ho⟩
    cases ho
    refine ⟨rfl,rfl,?_⟩
    simp only [go_sem,seval,C.at1]
    try simp (disch:=omega) only [wrap_ok]
    try simp only [go_sem,seval,C.at1]
    refine AW.rejoin 0 1 rfl rfl (by decide) (fun B5=>?_)
    simp only [go_sem,seval,g1,s2]
    refine hnx B5 _ ?_
    refine ⟨by simp [mkS],by simp [mkS,Pf.mrks,Tm.mrks,Tm.mcnts,show kk+1+1=kk+2 by omega],by simp [mkS,O.refsLt],?_⟩;simp [mkS,Abs.get,C.refsLtT,C.refsLt,C.refsLt1];omega
  ·obtain rfl:=zt4 zk hk1 hzk
   have e1:kk+1+1+(Tm.mcnts x.values:Int)=kk+2+(Tm.mcnts x.values:Int):=by omega
   have e2:kk+1+1=kk+2:=by omega
   refine (mTT_all x.values (kk+1+1) 0 e' B3 (by omega) (by omega)).at1 rfl 1 rfl rfl ?_
   rintro c o' ⟨rfl,B4,ho⟩
   cases ho
   refine ⟨rfl,rfl,?_⟩
   simp only [go_sem,seval,C.at1,run.eq_1]
   refine AW.rejoin 0 1 rfl rfl (by decide) (fun B5=>?_)
   simp only [go_sem,seval,g1,s2]
   refine run_sound Tryz.func33 mixed 200 _ _ (by kernel_rfl) ?_
   simp only [go_sem,seval,hlt,hll,s2,g1,g2]
   repeat' (first
    | (refine lend_intro (fun hk0=>?_) (fun hk1 zk e' B2 B3 hzk=>?_)<;>(try simp only [go_sem,seval,hlt,hll,s2,g1,g2]))
    | (simp (disch:=omega) only [wrap_ok])
    | ((first
     | (refine (markProofS_0 _).calls rfl ?_)
     | (refine ⟨sd,?_⟩))<;>(try simp only [go_sem,seval,hlt,hll,s2,g1,g2]))
    | fail)
   ·have hb:x.kids=[]:=by simpa using hk0
    have hn0:Pf.mcnts x.kids=0:=by rw [hb];rfl
    rw [hb] at hnx ⊢
    refine hnx B5 _ ?_
    refine ⟨by simp [mkS],by simp [mkS,Pf.mrks,Tm.mrks,e2],by simp [mkS,O.refsLt],?_⟩;simp [mkS,Abs.get,C.refsLtT,C.refsLt,C.refsLt1];omega
   ·obtain rfl:=zk4 zk hk1 hzk
    refine (hix (kk+1+1+(Tm.mcnts x.values:Int)) 0 e' B3 (by omega) (by omega)).at1 rfl 2 rfl rfl ?_
    rintro c o' ⟨rfl,B4,ho⟩
    cases ho
    refine ⟨rfl,rfl,?_⟩
    simp only [go_sem,seval,C.at1]
    try simp (disch:=omega) only [wrap_ok]
    try simp only [go_sem,seval,C.at1]
    refine AW.rejoin 0 2 rfl rfl (by decide) (fun B5=>?_)
    simp only [go_sem,seval,g1,s2]
    refine hnx B5 _ ?_
    refine ⟨by simp [mkS],by simp [mkS,Pf.mrks,Tm.mrks,e2],by simp [mkS,O.refsLt],?_⟩;simp [mkS,Abs.get,C.refsLtT,C.refsLt,C.refsLt1];omega
 ·obtain rfl:i=l.length:=by omega
  refine run_sound Tryz.func33 mixed 200 _ _ (by kernel_rfl) ?_
  simp only [go_sem,seval,Pf.mrks_len,List.take_length,List.drop_length]
  repeat' (first
   | (exact ⟨_,rfl⟩)
   | fail)
theorem mPT_kids:∀t:Pf,mPT t.kids:=by
 intro t
 induction t using Pf.ind' with
 | h t ih=>exact markProofS_T t.kids ih
theorem mPT_all (l:List Pf):mPT l:=markProofS_T l (fun x _=>mPT_kids x)
end Go.Proofs.YtifkkdlpbocgjaaGreat
