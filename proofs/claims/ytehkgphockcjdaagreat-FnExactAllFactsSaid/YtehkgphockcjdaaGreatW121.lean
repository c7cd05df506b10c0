import Derived.Test.YtehkgphockcjdaaGreatW10
import Derived.Test.YtehkgphockcjdaaGreatP3
import Derived.Test.YtehkgphockcjdaaGreatFam
open List renaming getElem?_eq_getElem→a_,drop_eq_getElem_cons→b_,take_append_drop→c_,take_add_one→d_,take_length→e_,cons_append→f_,map_cons→g_,getElem?_cons_succ→h_
namespace Go.Proofs.YtehkgphockcjdaaGreat
open Go.Abs
set_option maxRecDepth 100000
set_option maxHeartbeats 4000000
set_option linter.unusedSimpArgs false
set_option linter.unusedVariables false
end Go.Proofs.YtehkgphockcjdaaGreat
namespace Go.Abs
def Fc.mcnt (t:Fc):Nat:=1+Tm.mcnts t.args
def Fc.mrk (k:Int) (t:Fc):Fc:=⟨mText k,Tm.mrks (k+1) t.args⟩
def Fc.mcnts:List Fc→Nat
 | []=>0
 | t :: r=>Fc.mcnt t+Fc.mcnts r
def Fc.mrks (k:Int):List Fc→List Fc
 | []=>[]
 | t :: r=>Fc.mrk k t :: Fc.mrks (k+t.mcnt) r
theorem Fc.mrks_len:∀(l:List Fc) (k:Int),(Fc.mrks k l).length=l.length
 | [],_=>rfl
 | t :: r,k=>by simp [Fc.mrks,Fc.mrks_len r]
theorem Fc.mcnts_app:∀(a b:List Fc),Fc.mcnts (a++b)=Fc.mcnts a+Fc.mcnts b
 | [],b=>by simp [Fc.mcnts]
 | t :: a,b=>by simp only [f_,Fc.mcnts,Fc.mcnts_app a b];omega
theorem Fc.mrks_app:∀(a b:List Fc) (k:Int),Fc.mrks k (a++b)=Fc.mrks k a++Fc.mrks (k+Fc.mcnts a) b
 | [],b,k=>by simp [Fc.mrks,Fc.mcnts]
 | t :: a,b,k=>by
  simp only [f_,Fc.mrks,Fc.mcnts,Fc.mrks_app a b]
  rw [show k+(t.mcnt:Int)+(Fc.mcnts a:Int)=k+((t.mcnt+Fc.mcnts a:Nat):Int) by omega]
theorem Fc.len_mcnts:∀l:List Fc,l.length≤Fc.mcnts l
 | []=>by simp
 | t :: r=>by have:=Fc.len_mcnts r;simp only [Fc.mcnts,Fc.mcnt,List.length_cons];omega
theorem Fc.mcnts_wt:∀l:List Fc,Fc.mcnts l≤4 * wtR (l.map Fc.enc)
 | []=>by simp [Fc.mcnts]
 | t :: r=>by
  have h1:=Fc.mcnts_wt r
  have h2:=Tm.mcnts_wt t.args
  simp only [Fc.mcnts,Fc.mcnt,g_,wtR,Fc.enc_eq,wtL,D.wt];omega
theorem Fc.mrks_at:∀(l:List Fc) (k:Int) (i:Nat) (x:Fc),l[i]? = some x→(Fc.mrks k l)[i]? = some (x.mrk (k+Fc.mcnts (l.take i)))
 | [],k,i,x,h=>by simp at h
 | t :: r,k,0,x,h=>by simp at h;subst h;simp [Fc.mrks,Fc.mcnts]
 | t :: r,k,i+1,x,h=>by
  simp only [h_] at h
  simp only [Fc.mrks,h_,List.take_succ_cons,Fc.mcnts]
  rw [Fc.mrks_at r _ i x h]
  rw [show k+(t.mcnt:Int)+(Fc.mcnts (r.take i):Int)=k+((t.mcnt+Fc.mcnts (r.take i):Nat):Int) by omega]
end Go.Abs
namespace Go.Proofs.YtehkgphockcjdaaGreat
open Go.Abs
def hTT (l:List Tm):Prop:=∀k:Int,0≤k→k+Tm.mcnts l≤1000000000000→Gives Tryz.prog 38 [.sl ((Tm.mrks k l).map Tm.enc),.int .i64 k] (.d (.int .i64 (k+Tm.mcnts l)))
theorem heldTermS_T (l:List Tm) (ih:∀x,x∈l→hTT x.args):hTT l:=by
 intro k h0 h1
 have hml:=Tm.mrks_len l k
 have hlm:=Tm.len_mcnts l
 refine aE_ Tryz.func38 ?_
 refine rS_ Tryz.func38 ?_
 simp only [go_sem,seval]
 refine AW.lp [0] (fun i:Nat=>[(5,.d (.int .i64 i)),(1,.d (.int .i64 (k+Tm.mcnts (l.take i))))]) (fun H _=>H) (fun i=>i≤l.length) (fun i=>l.length - i) 0 (Nat.zero_le _) (by refine ⟨by simp [mkS],by simp [mkS],by simp [mkS,O.refsLt],?_⟩;simp [mkS,Abs.get,C.refsLtT,C.refsLt,C.refsLt1,Tm.mcnts]) ?_
 intro i hi hnext
 by_cases h:i<l.length
 ·have hlt:(i:Int)<(l.length:Int):=by omega
  have hxi:l[i]? = some l[i]:=a_ h
  have hix:=ih l[i] (List.getElem_mem _)
  have hat:=Tm.mrks_at l k i _ hxi
  have hnxt:l.take (i+1)=l.take i++[l[i]]:=by rw [d_,a_ h];rfl
  have hcn:Tm.mcnts (l.take (i+1))=Tm.mcnts (l.take i)+l[i].mcnt:=by rw [hnxt,Tm.mcnts_app];simp [Tm.mcnts]
  have hcl:Tm.mcnts l=Tm.mcnts (l.take i)+(l[i].mcnt+Tm.mcnts (l.drop (i+1))):=by
   conv=>lhs;rw [←c_ i l,b_ h,Tm.mcnts_app]
   simp [Tm.mcnts]
  have hmc:=Tm.mcnt_eq l[i]
  have hnx:=fun s'=>hnext (i+1) s' h (by omega)
  clear hnext
  simp only [hcn] at hnx
  generalize hx:l[i]=x at *
  generalize hk:k+(Tm.mcnts (l.take i):Int)=kk at *
  generalize hy:x.mrk kk=y at *
  have e2:kk+1+1=kk+2:=by omega
  have e3:kk+1+1+1=kk+3:=by omega
  have ye:y.kind=kk∧y.int=kk+1∧y.name=mText (kk+1+1)∧y.args=Tm.mrks (kk+1+1+1) x.args:=by
   rw [←hy,Tm.mrk_eq,e3,e2];exact ⟨rfl,rfl,rfl,rfl⟩
  have hrec:=hix (kk+1+1+1) (by omega) (by omega)
  have w1:IntKind.i64.wrap (kk+1)=kk+1:=wrap_ok (by omega) (by omega)
  have w2:IntKind.i64.wrap (kk+1+1)=kk+1+1:=wrap_ok (by omega) (by omega)
  have w3:IntKind.i64.wrap (kk+1+1+1)=kk+1+1+1:=wrap_ok (by omega) (by omega)
  refine rS_ Tryz.func38 ?_
  simp only [go_sem,seval,hlt,hml,idx_of hat,ye.1,ye.2.1,ye.2.2.1,ye.2.2.2,w1,w2,w3]
  repeat' (first
   | ((refine br_n (fun hq=>?_) (fun hq=>?_))<;>(try simp only [go_sem,seval,hlt,hml,idx_of hat,ye.1,ye.2.1,ye.2.2.1,ye.2.2.2,w1,w2,w3,hq]))
   | (simp (disch:=omega) only [wrap_ok])
   | ((first
    | (refine hrec.calls rfl ?_)
    | (refine (markText_fn _ sd sd).callQ rfl ?_))<;>(try simp only [go_sem,seval,hlt,hml,idx_of hat,ye.1,ye.2.1,ye.2.2.1,ye.2.2.2,w1,w2,w3]))
   | fail)
  all_goals first | (exfalso;omega) | skip
  refine hnx _ ?_
  refine ⟨by simp [mkS],by simp [mkS],by simp [mkS,O.refsLt],?_⟩;simp [mkS,Abs.get,C.refsLtT,C.refsLt,C.refsLt1];omega
 ·obtain rfl:i=l.length:=by omega
  refine rS_ Tryz.func38 ?_
  simp only [go_sem,seval,hml,e_]
theorem hTT_args:∀t:Tm,hTT t.args:=by
 intro t
 induction t using Tm.ind' with
 | h t ih=>exact heldTermS_T t.args ih
theorem hTT_all (l:List Tm):hTT l:=heldTermS_T l (fun x _=>hTT_args x)
theorem markFactS_0 (k:Int):Gives Tryz.prog 15 [.sl [],.int .i64 k] (.d (.int .i64 k)):=by
 have z0:((0:Nat):Int)=0:=rfl
 refine aE_ Tryz.func15 ?_
 refine rS_ Tryz.func15 ?_
 simp only [go_sem,seval]
 repeat' (first
  | ((refine AW.loop ?_<;>(refine rS_ Tryz.func15 ?_))<;>(try simp only [go_sem,seval,z0]))
  | fail)
 all_goals (exfalso;simp at *)
theorem markFactS_T (l:List Fc) (k:Int) (q e:Nat) (B:Nat→Prop) (h0:0≤k) (h1:k+Fc.mcnts l≤1000000000000) :
  ACalls Tryz.prog 15 [.own 0 q,.d (.int .i64 k)] [.tree q 2 e (l.map Fc.enc) B none] fun c H'=>c=.d (.int .i64 (k+Fc.mcnts l))∧∃B',H'=[.tree q 2 e ((Fc.mrks k l).map Fc.enc) B' none]:=by
 have hlm:=Fc.len_mcnts l
 refine aE_ Tryz.func15 ?_
 refine rS_ Tryz.func15 ?_
 simp only [go_sem,seval]
 refine AW.lp [0] (fun p:Nat×(Nat→Prop)=>[(5,.d (.int .i64 p.1)),(1,.d (.int .i64 (k+Fc.mcnts (l.take p.1))))]) (fun _ p=>[.tree q 2 e ((Fc.mrks k (l.take p.1)++l.drop p.1).map Fc.enc) p.2 none]) (fun p=>p.1≤l.length) (fun p=>l.length - p.1) (0,B) (Nat.zero_le _) (by refine ⟨by simp [mkS],by simp [mkS,Fc.mrks],by simp [mkS,O.refsLt],?_⟩;simp [mkS,Abs.get,C.refsLtT,C.refsLt,C.refsLt1,Fc.mcnts]) ?_
 rintro ⟨i,B1⟩ hi hnext
 dsimp only at hi hnext ⊢
 by_cases h:i<l.length
 ·have hlt:(i:Int)<(l.length:Int):=by omega
  have hd:l.drop i=l[i] :: l.drop (i+1):=b_ h
  have hll:((Fc.mrks k (l.take i)).map Fc.enc++l[i].enc :: (l.drop (i+1)).map Fc.enc).length=l.length:=by simp [Fc.mrks_len];omega
  have hai:((Fc.mrks k (l.take i)).map Fc.enc).length=i:=by simp [Fc.mrks_len];omega
  have hnxt:l.take (i+1)=l.take i++[l[i]]:=by rw [d_,a_ h];rfl
  have hcn:Fc.mcnts (l.take (i+1))=Fc.mcnts (l.take i)+l[i].mcnt:=by rw [hnxt,Fc.mcnts_app];simp [Fc.mcnts]
  have hcl:Fc.mcnts l=Fc.mcnts (l.take i)+(l[i].mcnt+Fc.mcnts (l.drop (i+1))):=by
   conv=>lhs;rw [←c_ i l,hd,Fc.mcnts_app]
   simp [Fc.mcnts]
  have hmr:Fc.mrks k (l.take (i+1))=Fc.mrks k (l.take i)++[l[i].mrk (k+Fc.mcnts (l.take i))]:=by rw [hnxt,Fc.mrks_app];simp [Fc.mrks]
  have hmc:l[i].mcnt=1+Tm.mcnts l[i].args:=rfl
  rw [hd,List.map_append,g_]
  have hnx:=fun B' s'=>hnext (i+1,B') s' h (by dsimp only;omega)
  clear hnext
  simp only [hmr,hcn,List.map_append,g_,List.map_nil,Fc.mrk] at hnx
  generalize hx:l[i]=x at *
  generalize hA:(Fc.mrks k (l.take i)).map Fc.enc=A at *
  generalize hZ:(l.drop (i+1)).map Fc.enc=Z at *
  generalize hk:k+(Fc.mcnts (l.take i):Int)=kk at *
  have s1:=fun (y:List D)=>set_split (x:=x.enc) (y:=y) (r:=Z) hai
  have s2:=fun (y y':List D)=>set_split (x:=y) (y:=y') (r:=Z) hai
  have g1:=fun (y:List D)=>at_split (x:=y) (r:=Z) hai
  have xe:=Fc.enc_eq x
  rw [xe] at hll ⊢
  have zk4:∀zk:Nat,x.args.map Tm.enc≠[]→(∀j,j∈x.args→4=zk)→zk=4:=fun zk hne hz=>by
   cases ha:x.args with
   | nil=>simp [ha] at hne
   | cons a r=>exact (hz a (by simp [ha])).symm
  have hrow:∀ks,(Fc.mk (mText kk) ks).enc=[.str (mText kk),.sl (ks.map Tm.enc)]:=fun ks=>by rw [Fc.enc_eq]
  simp only [hrow,List.append_assoc,f_,List.nil_append] at hnx
  have g2:=fun (y:List D) (Q:List D→Prop)=>idx_of (g1 y) Q
  refine rS_ Tryz.func15 ?_
  simp only [go_sem,seval,hlt,hll,s2,g1,g2]
  repeat' (first
   | (refine lend_intro (fun hk0=>?_) (fun hk1 zk e' B2 B3 hzk=>?_)<;>(try simp only [go_sem,seval,hlt,hll,s2,g1,g2]))
   | (simp (disch:=omega) only [wrap_ok])
   | ((first
    | (refine all_intro (fun Bz=>?_))
    | (refine (markTermS_0 _).calls rfl ?_)
    | (refine (markText_fn _ sd sd).calls rfl ?_)
    | (refine ⟨sd,?_⟩))<;>(try simp only [go_sem,seval,hlt,hll,s2,g1,g2]))
   | fail)
  ·have ha:x.args=[]:=by simpa using hk0
   have hm0:Tm.mcnts x.args=0:=by rw [ha];rfl
   rw [ha] at hnx ⊢
   refine hnx Bz _ ?_
   refine ⟨by simp [mkS],by simp [mkS,Tm.mrks],by simp [mkS,O.refsLt],?_⟩;simp [mkS,Abs.get,C.refsLtT,C.refsLt,C.refsLt1];omega
  ·obtain rfl:=zk4 zk hk1 hzk
   refine (mTT_all x.args (kk+1) 0 e' B3 (by omega) (by omega)).at1 rfl 1 rfl rfl ?_
   rintro c o' ⟨rfl,B4,ho⟩
   cases ho
   refine ⟨rfl,rfl,?_⟩
   simp only [go_sem,seval,C.at1]
   try simp (disch:=omega) only [wrap_ok]
   try simp only [go_sem,seval,C.at1]
   refine AW.rejoin 0 1 rfl rfl (by decide) (fun B5=>?_)
   simp only [go_sem,seval,g1,s2]
   refine hnx B5 _ ?_
   refine ⟨by simp [mkS],by simp [mkS];skip,by simp [mkS,O.refsLt],?_⟩;simp [mkS,Abs.get,C.refsLtT,C.refsLt,C.refsLt1];omega
 ·obtain rfl:i=l.length:=by omega
  refine rS_ Tryz.func15 ?_
  simp only [go_sem,seval,Fc.mrks_len,e_,List.drop_length]
  repeat' (first
   | (exact ⟨_,rfl⟩)
   | fail)
theorem heldFactS_T (l:List Fc) (k:Int) (h0:0≤k) (h1:k+Fc.mcnts l≤1000000000000):Gives Tryz.prog 16 [.sl ((Fc.mrks k l).map Fc.enc),.int .i64 k] (.d (.int .i64 (k+Fc.mcnts l))):=by
 have hml:=Fc.mrks_len l k
 have hlm:=Fc.len_mcnts l
 refine aE_ Tryz.func16 ?_
 refine rS_ Tryz.func16 ?_
 simp only [go_sem,seval]
 refine AW.lp [0] (fun i:Nat=>[(5,.d (.int .i64 i)),(1,.d (.int .i64 (k+Fc.mcnts (l.take i))))]) (fun H _=>H) (fun i=>i≤l.length) (fun i=>l.length - i) 0 (Nat.zero_le _) (by refine ⟨by simp [mkS],by simp [mkS],by simp [mkS,O.refsLt],?_⟩;simp [mkS,Abs.get,C.refsLtT,C.refsLt,C.refsLt1,Fc.mcnts]) ?_
 intro i hi hnext
 by_cases h:i<l.length
 ·have hlt:(i:Int)<(l.length:Int):=by omega
  have hxi:l[i]? = some l[i]:=a_ h
  have hat:=Fc.mrks_at l k i _ hxi
  have hnxt:l.take (i+1)=l.take i++[l[i]]:=by rw [d_,a_ h];rfl
  have hcn:Fc.mcnts (l.take (i+1))=Fc.mcnts (l.take i)+l[i].mcnt:=by rw [hnxt,Fc.mcnts_app];simp [Fc.mcnts]
  have hcl:Fc.mcnts l=Fc.mcnts (l.take i)+(l[i].mcnt+Fc.mcnts (l.drop (i+1))):=by
   conv=>lhs;rw [←c_ i l,b_ h,Fc.mcnts_app]
   simp [Fc.mcnts]
  have hmc:l[i].mcnt=1+Tm.mcnts l[i].args:=rfl
  have hnx:=fun s'=>hnext (i+1) s' h (by omega)
  clear hnext
  simp only [hcn] at hnx
  generalize hx:l[i]=x at *
  generalize hk:k+(Fc.mcnts (l.take i):Int)=kk at *
  generalize hy:x.mrk kk=y at *
  have ye:y.rel=mText kk∧y.args=Tm.mrks (kk+1) x.args:=by
   rw [←hy];exact ⟨rfl,rfl⟩
  have hrec:=hTT_all x.args (kk+1) (by omega) (by omega)
  have w1:IntKind.i64.wrap (kk+1)=kk+1:=wrap_ok (by omega) (by omega)
  refine rS_ Tryz.func16 ?_
  simp only [go_sem,seval,hlt,hml,idx_of hat,ye.1,ye.2,w1]
  repeat' (first
   | ((refine br_n (fun hq=>?_) (fun hq=>?_))<;>(try simp only [go_sem,seval,hlt,hml,idx_of hat,ye.1,ye.2,w1,hq]))
   | (simp (disch:=omega) only [wrap_ok])
   | ((first
    | (refine hrec.calls rfl ?_)
    | (refine (markText_fn _ sd sd).callQ rfl ?_))<;>(try simp only [go_sem,seval,hlt,hml,idx_of hat,ye.1,ye.2,w1]))
   | fail)
  all_goals first | (exfalso;omega) | skip
  refine hnx _ ?_
  refine ⟨by simp [mkS],by simp [mkS],by simp [mkS,O.refsLt],?_⟩;simp [mkS,Abs.get,C.refsLtT,C.refsLt,C.refsLt1];omega
 ·obtain rfl:i=l.length:=by omega
  refine rS_ Tryz.func16 ?_
  simp only [go_sem,seval,hml,e_]
end Go.Proofs.YtehkgphockcjdaaGreat
