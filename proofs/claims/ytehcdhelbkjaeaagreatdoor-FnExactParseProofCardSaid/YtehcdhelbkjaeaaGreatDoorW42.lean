import Derived.Test.YtehcdhelbkjaeaaGreatDoorP1
import Derived.Test.YtehcdhelbkjaeaaGreatDoorP5
import Derived.Test.YtehcdhelbkjaeaaGreatDoorW10
import Derived.Test.YtehcdhelbkjaeaaGreatDoorA7
open List renaming map_cons→a_,cons_append→b_
set_option linter.unusedVariables false
set_option linter.unusedSimpArgs false
namespace Go.Abs
mutual
def Pf.mcnt:Pf→Nat
 | .mk _ _ ts gs=>2+Tm.mcnts ts+Pf.mcnts gs
def Pf.mcnts:List Pf→Nat
 | []=>0
 | t :: r=>Pf.mcnt t+Pf.mcnts r
end
theorem Pf.mcnt_eq (t:Pf):t.mcnt=2+Tm.mcnts t.values+Pf.mcnts t.kids:=by cases t;simp only [Pf.mcnt,Pf.values,Pf.kids]
mutual
def Pf.mrk (k:Int):Pf→Pf
 | .mk _ _ ts gs=>.mk (mText k) (k+1) (Tm.mrks (k+2) ts) (Pf.mrks (k+2+Tm.mcnts ts) gs)
def Pf.mrks (k:Int):List Pf→List Pf
 | []=>[]
 | t :: r=>Pf.mrk k t :: Pf.mrks (k+t.mcnt) r
end
theorem Pf.mrk_eq (k:Int) (t:Pf):t.mrk k=.mk (mText k) (k+1) (Tm.mrks (k+2) t.values) (Pf.mrks (k+2+Tm.mcnts t.values) t.kids):=by cases t;simp only [Pf.mrk,Pf.values,Pf.kids]
theorem Pf.mrks_len:∀(l:List Pf) (k:Int),(Pf.mrks k l).length=l.length
 | [],_=>rfl
 | t :: r,k=>by simp [Pf.mrks,Pf.mrks_len r]
theorem Pf.mrks_app:∀(a b:List Pf) (k:Int),Pf.mrks k (a++b)=Pf.mrks k a++Pf.mrks (k+Pf.mcnts a) b
 | [],b,k=>by simp [Pf.mrks,Pf.mcnts]
 | t :: a,b,k=>by
  simp only [b_,Pf.mrks,Pf.mcnts,Pf.mrks_app a b]
  rw [show k+(t.mcnt:Int)+(Pf.mcnts a:Int)=k+((t.mcnt+Pf.mcnts a:Nat):Int) by omega]
theorem Pf.mcnts_app:∀(a b:List Pf),Pf.mcnts (a++b)=Pf.mcnts a+Pf.mcnts b
 | [],b=>by simp [Pf.mcnts]
 | t :: a,b=>by simp only [b_,Pf.mcnts,Pf.mcnts_app a b];omega
theorem Pf.len_mcnts:∀l:List Pf,l.length≤Pf.mcnts l
 | []=>by simp
 | t :: r=>by have:=Pf.len_mcnts r;have:=Pf.mcnt_eq t;simp only [Pf.mcnts,List.length_cons];omega
theorem Pf.mcnt_wt:∀t:Pf,t.mcnt≤3+3 * wtL t.enc:=by
 intro t
 induction t using Pf.ind' with
 | h t ih =>
  have key:∀(l:List Pf),(∀x,x∈l→x∈t.kids)→Pf.mcnts l≤3 * wtR (l.map Pf.enc):=by
   intro l
   induction l with
   | nil=>intro _;simp [Pf.mcnts]
   | cons x r ihr =>
    intro hl
    have h1:=ih x (hl x (by simp))
    have h2:=ihr (fun x hx=>hl x (by simp [hx]))
    simp only [Pf.mcnts,a_,wtR]
    omega
  have h1:=key t.kids (fun x hx=>hx)
  have h2:=Tm.mcnts_wt t.values
  rw [Pf.mcnt_eq]
  simp only [Pf.enc_eq t,wtL,D.wt]
  omega
theorem Pf.mcnts_wt:∀l:List Pf,Pf.mcnts l≤3 * wtR (l.map Pf.enc)
 | []=>by simp [Pf.mcnts]
 | t :: r=>by
  have h1:=Pf.mcnts_wt r
  have h2:=Pf.mcnt_wt t
  simp only [Pf.mcnts,a_,wtR];omega
end Go.Abs
namespace Go.Proofs.YtehcdhelbkjaeaaGreatDoor
open Go.Abs
set_option maxRecDepth 100000
set_option maxHeartbeats 4000000
theorem markProofS_0 (k:Int):Gives Tryz.prog 28 [.sl [],.int .i64 k] (.d (.int .i64 k)):=by
 have z0:((0:Nat):Int)=0:=rfl
 refine aE_ Tryz.func28 ?_
 refine rS_ Tryz.func28 ?_
 simp only [go_sem,seval]
 repeat' (first
  | ((refine AW.loop ?_<;>(refine rS_ Tryz.func28 ?_))<;>(try simp only [go_sem,seval,z0]))
  | fail)
 all_goals (exfalso;simp at *)
def mPT (l:List Pf):Prop:=∀(k:Int) (q e:Nat) (B:Nat→Prop),0≤k→k+Pf.mcnts l≤1000000000 →
 ACalls Tryz.prog 28 [.own 0 q,.d (.int .i64 k)] [.tree q 4 e (l.map Pf.enc) B none] fun c H'=>c=.d (.int .i64 (k+Pf.mcnts l))∧∃B',H'=[.tree q 4 e ((Pf.mrks k l).map Pf.enc) B' none]
theorem markProofS_T (l:List Pf) (ih:∀x,x∈l→mPT x.kids):mPT l:=by
 intro k q e B h0 h1
 have hlm:=Pf.len_mcnts l
 refine aE_ Tryz.func28 ?_
 refine rS_ Tryz.func28 ?_
 simp only [go_sem,seval]
 refine AW.lp [0] (fun p:Nat×(Nat→Prop)=>[(5,.d (.int .i64 p.1)),(1,.d (.int .i64 (k+Pf.mcnts (l.take p.1))))]) (fun _ p=>[.tree q 4 e ((Pf.mrks k (l.take p.1)++l.drop p.1).map Pf.enc) p.2 none]) (fun p=>p.1≤l.length) (fun p=>l.length - p.1) (0,B) (Nat.zero_le _) (by refine ⟨by simp [mkS],by simp [mkS,Pf.mrks],by simp [mkS,O.refsLt],?_⟩;simp [mkS,Abs.get,C.refsLtT,C.refsLt,C.refsLt1,Pf.mcnts]) ?_
 rintro ⟨i,B1⟩ hi hnext
 dsimp only at hi hnext ⊢
 by_cases h:i<l.length
 ·have hlt:(i:Int)<(l.length:Int):=by omega
  have hd:l.drop i=l[i] :: l.drop (i+1):=List.drop_eq_getElem_cons h
  have hll:((Pf.mrks k (l.take i)).map Pf.enc++l[i].enc :: (l.drop (i+1)).map Pf.enc).length=l.length:=by simp [Pf.mrks_len];omega
  have hai:((Pf.mrks k (l.take i)).map Pf.enc).length=i:=by simp [Pf.mrks_len];omega
  have hnxt:l.take (i+1)=l.take i++[l[i]]:=by rw [List.take_add_one,List.getElem?_eq_getElem h];rfl
  have hcn:Pf.mcnts (l.take (i+1))=Pf.mcnts (l.take i)+l[i].mcnt:=by rw [hnxt,Pf.mcnts_app];simp [Pf.mcnts]
  have hcl:Pf.mcnts l=Pf.mcnts (l.take i)+(l[i].mcnt+Pf.mcnts (l.drop (i+1))):=by
   conv=>lhs;rw [←List.take_append_drop i l,hd,Pf.mcnts_app]
   simp [Pf.mcnts]
  have hix:=ih l[i] (List.getElem_mem _)
  have hmr:Pf.mrks k (l.take (i+1))=Pf.mrks k (l.take i)++[l[i].mrk (k+Pf.mcnts (l.take i))]:=by rw [hnxt,Pf.mrks_app];simp [Pf.mrks]
  have hmc:=Pf.mcnt_eq l[i]
  rw [hd,List.map_append,a_]
  have hnx:=fun B' s'=>hnext (i+1,B') s' h (by dsimp only;omega)
  clear hnext
  simp only [hmr,hcn,List.map_append,a_,List.map_nil,Pf.mrk_eq] at hnx
  generalize hx:l[i]=x at *
  generalize hA:(Pf.mrks k (l.take i)).map Pf.enc=A at *
  generalize hZ:(l.drop (i+1)).map Pf.enc=Z at *
  generalize hk:k+(Pf.mcnts (l.take i):Int)=kk at *
  have s1:=fun (y:List D)=>set_split (x:=x.enc) (y:=y) (r:=Z) hai
  have s2:=fun (y y':List D)=>set_split (x:=y) (y:=y') (r:=Z) hai
  have g1:=fun (y:List D)=>at_split (x:=y) (r:=Z) hai
  have xe:=Pf.enc_eq x
  rw [xe] at hll ⊢
  have zk4:∀zk:Nat,x.kids.map Pf.enc≠[]→(∀j,j∈x.kids→4=zk)→zk=4:=fun zk hne hz=>by
   cases ha:x.kids with
   | nil=>simp [ha] at hne
   | cons a r=>exact (hz a (by simp [ha])).symm
  have hrow:∀ts ks,(Pf.mk (mText kk) (kk+1) ts ks).enc=[.str (mText kk),.int .i64 (kk+1),.sl (ts.map Tm.enc),.sl (ks.map Pf.enc)]:=fun ts ks=>by
   rw [Pf.enc_eq];rfl
  have zt4:∀zk:Nat,x.values.map Tm.enc≠[]→(∀j,j∈x.values→4=zk)→zk=4:=fun zk hne hz=>by
   cases ha:x.values with
   | nil=>simp [ha] at hne
   | cons a r=>exact (hz a (by simp [ha])).symm
  simp only [hrow,List.append_assoc,b_,List.nil_append] at hnx
  have g2:=fun (y:List D) (Q:List D→Prop)=>idx_of (g1 y) Q
  refine run_sound Tryz.func28 mixed 17 _ _ (by kernel_rfl) ?_
  simp only [go_sem,seval,run.eq_1,hlt,hll,s2,g1,g2]
  repeat' (first
   | (refine lend_intro (fun hk0=>?_) (fun hk1 zk e' B2 B3 hzk=>?_)<;>(try simp only [go_sem,seval,hlt,hll,s2,g1,g2,run.eq_1]))
   | (simp (disch:=omega) only [wrap_ok])
   | ((first
    | (refine all_intro (fun Bz=>?_))
    | (refine (markTermS_0 _).calls rfl ?_)
    | (refine (markText_fn _ sd sd).calls rfl ?_)
    | (refine ⟨sd,?_⟩))<;>(try simp only [go_sem,seval,hlt,hll,s2,g1,g2,run.eq_1]))
   | fail)
  ·have ha:x.values=[]:=by simpa using hk0
   have hm0:Tm.mcnts x.values=0:=by rw [ha];rfl
   have e1:kk+1+1=kk+2+((0:Nat):Int):=by omega
   rw [ha] at hnx ⊢
   refine rS_ Tryz.func28 ?_
   simp only [go_sem,seval,hlt,hll,s2,g1,g2]
   repeat' (first
    | (refine lend_intro (fun hk0=>?_) (fun hk1 zk e' B2 B3 hzk=>?_)<;>(try simp only [go_sem,seval,hlt,hll,s2,g1,g2]))
    | (simp (disch:=omega) only [wrap_ok])
    | ((first
     | (refine (markProofS_0 _).calls rfl ?_)
     | (refine ⟨sd,?_⟩))<;>(try simp only [go_sem,seval,hlt,hll,s2,g1,g2]))
    | fail)
   ·have hb:x.kids=[]:=by simpa using hk0
    have hn0:Pf.mcnts x.kids=0:=by rw [hb];rfl
    rw [hb] at hnx ⊢
    refine hnx Bz _ ?_
    refine ⟨by simp [mkS],by simp [mkS,Pf.mrks,Tm.mrks,Tm.mcnts,show kk+1+1=kk+2 by omega],by simp [mkS,O.refsLt],?_⟩;simp [mkS,Abs.get,C.refsLtT,C.refsLt,C.refsLt1];omega
   ·obtain rfl:=zk4 zk hk1 hzk
    refine (hix (kk+1+1) 0 e' B3 (by omega) (by omega)).at1 rfl 1 rfl rfl ?_
    rintro c o' ⟨rfl,B4,ho⟩
    cases ho
    refine ⟨rfl,rfl,?_⟩
    simp only [go_sem,seval,C.at1]
    try simp (disch:=omega) only [wrap_ok]
    try simp only [go_sem,seval,C.at1]
    refine AW.rejoin 0 1 rfl rfl (by decide) (fun B5=>?_)
    simp only [go_sem,seval,g1,s2]
    refine hnx B5 _ ?_
    refine ⟨by simp [mkS],by simp [mkS,Pf.mrks,Tm.mrks,Tm.mcnts,show kk+1+1=kk+2 by omega],by simp [mkS,O.refsLt],?_⟩;simp [mkS,Abs.get,C.refsLtT,C.refsLt,C.refsLt1];omega
  ·obtain rfl:=zt4 zk hk1 hzk
   have e1:kk+1+1+(Tm.mcnts x.values:Int)=kk+2+(Tm.mcnts x.values:Int):=by omega
   have e2:kk+1+1=kk+2:=by omega
   refine (mTT_all x.values (kk+1+1) 0 e' B3 (by omega) (by omega)).at1 rfl 1 rfl rfl ?_
   rintro c o' ⟨rfl,B4,ho⟩
   cases ho
   refine ⟨rfl,rfl,?_⟩
   simp only [go_sem,seval,C.at1,run.eq_1]
   refine AW.rejoin 0 1 rfl rfl (by decide) (fun B5=>?_)
   simp only [go_sem,seval,g1,s2]
   refine rS_ Tryz.func28 ?_
   simp only [go_sem,seval,hlt,hll,s2,g1,g2]
   repeat' (first
    | (refine lend_intro (fun hk0=>?_) (fun hk1 zk e' B2 B3 hzk=>?_)<;>(try simp only [go_sem,seval,hlt,hll,s2,g1,g2]))
    | (simp (disch:=omega) only [wrap_ok])
    | ((first
     | (refine (markProofS_0 _).calls rfl ?_)
     | (refine ⟨sd,?_⟩))<;>(try simp only [go_sem,seval,hlt,hll,s2,g1,g2]))
    | fail)
   ·have hb:x.kids=[]:=by simpa using hk0
    have hn0:Pf.mcnts x.kids=0:=by rw [hb];rfl
    rw [hb] at hnx ⊢
    refine hnx B5 _ ?_
    refine ⟨by simp [mkS],by simp [mkS,Pf.mrks,Tm.mrks,e2],by simp [mkS,O.refsLt],?_⟩;simp [mkS,Abs.get,C.refsLtT,C.refsLt,C.refsLt1];omega
   ·obtain rfl:=zk4 zk hk1 hzk
    refine (hix (kk+1+1+(Tm.mcnts x.values:Int)) 0 e' B3 (by omega) (by omega)).at1 rfl 2 rfl rfl ?_
    rintro c o' ⟨rfl,B4,ho⟩
    cases ho
    refine ⟨rfl,rfl,?_⟩
    simp only [go_sem,seval,C.at1]
    try simp (disch:=omega) only [wrap_ok]
    try simp only [go_sem,seval,C.at1]
    refine AW.rejoin 0 2 rfl rfl (by decide) (fun B5=>?_)
    simp only [go_sem,seval,g1,s2]
    refine hnx B5 _ ?_
    refine ⟨by simp [mkS],by simp [mkS,Pf.mrks,Tm.mrks,e2],by simp [mkS,O.refsLt],?_⟩;simp [mkS,Abs.get,C.refsLtT,C.refsLt,C.refsLt1];omega
 ·obtain rfl:i=l.length:=by omega
  refine rS_ Tryz.func28 ?_
  simp only [go_sem,seval,Pf.mrks_len,List.take_length,List.drop_length]
  repeat' (first
   | (exact ⟨_,rfl⟩)
   | fail)
theorem mPT_kids:∀t:Pf,mPT t.kids:=by
 intro t
 induction t using Pf.ind' with
 | h t ih=>exact markProofS_T t.kids ih
theorem mPT_all (l:List Pf):mPT l:=markProofS_T l (fun x _=>mPT_kids x)
theorem markProof_T (t:Pf) (k:Int) (q q' e e':Nat) (B B':Nat→Prop) (h0:0≤k) (h1:k+t.mcnt≤1000000000) :
  ACalls Tryz.prog 11 [.agg [.d (.str t.rel),.d (.int .i64 t.clause),.own 0 q,.own 1 q'],.d (.int .i64 k)] [.tree q 4 e (t.values.map Tm.enc) B none,.tree q' 4 e' (t.kids.map Pf.enc) B' none]
   (fun c H'=>c=.d (.int .i64 (k+Tm.mcnts t.values+Pf.mcnts t.kids))∧∃B1 B2,H'=[.tree q 4 e ((Tm.mrks k t.values).map Tm.enc) B1 none,.tree q' 4 e' ((Pf.mrks (k+Tm.mcnts t.values) t.kids).map Pf.enc) B2 none]):=by
 have hmc:=Pf.mcnt_eq t
 refine aE_ Tryz.func11 ?_
 refine rS_ Tryz.func11 ?_
 simp only [go_sem,seval]
 repeat' (first
  | (exact ⟨_,_,rfl⟩)
  | ((first
   | (refine (mTT_all t.values k q e B (by omega) (by omega)).at1 rfl 0 rfl rfl ?_<;>(rintro c o' ⟨rfl,B4,ho⟩;cases ho;refine ⟨rfl,rfl,?_⟩))
   | (refine (mPT_all t.kids (k+Tm.mcnts t.values) q' e' B' (by omega) (by omega)).at1 rfl 1 rfl rfl ?_<;>(rintro c o' ⟨rfl,B4,ho⟩;cases ho;refine ⟨rfl,rfl,?_⟩)))<;>(try simp only [go_sem,seval,C.at1]))
  | fail)
end Go.Proofs.YtehcdhelbkjaeaaGreatDoor
