import Derived.Test.YthilkmjkgpdngaaGreatW10
namespace Go.Proofs.YthilkmjkgpdngaaGreat
open Go.Abs
set_option maxRecDepth 100000
set_option maxHeartbeats 4000000
set_option linter.unusedSimpArgs false
set_option linter.unusedVariables false
theorem markGoalS_0 (k:Int):Gives Tryz.prog 76 [.sl [],.int .i64 k] (.d (.int .i64 k)):=by
 have z0:((0:Nat):Int)=0:=rfl
 refine aE_ Tryz.func76 ?_
 refine rS_ Tryz.func76 ?_
 simp only [go_sem,seval]
 repeat' (first
  | ((refine AW.loop ?_<;>(refine rS_ Tryz.func76 ?_))<;>(try simp only [go_sem,seval,z0]))
  | fail)
 all_goals (exfalso;simp at *)
def mGT (l:List Gl):Prop:=∀(k:Int) (q e:Nat) (B:Nat→Prop),0≤k→k+Gl.mcnts l≤1000000000 →
 ACalls Tryz.prog 76 [.own 0 q,.d (.int .i64 k)] [.tree q 4 e (l.map Gl.enc) B none] fun c H'=>c=.d (.int .i64 (k+Gl.mcnts l))∧∃B',H'=[.tree q 4 e ((Gl.mrks k l).map Gl.enc) B' none]
theorem markGoalS_T (l:List Gl) (ih:∀x,x∈l→mGT x.goals):mGT l:=by
 intro k q e B h0 h1
 have hlm:=Gl.len_mcnts l
 refine aE_ Tryz.func76 ?_
 refine rS_ Tryz.func76 ?_
 simp only [go_sem,seval]
 refine AW.lp [0] (fun p:Nat×(Nat→Prop)=>[(5,.d (.int .i64 p.1)),(1,.d (.int .i64 (k+Gl.mcnts (l.take p.1))))]) (fun _ p=>[.tree q 4 e ((Gl.mrks k (l.take p.1)++l.drop p.1).map Gl.enc) p.2 none]) (fun p=>p.1≤l.length) (fun p=>l.length - p.1) (0,B) (Nat.zero_le _) (by refine ⟨by simp [mkS],by simp [mkS,Gl.mrks],by simp [mkS,O.refsLt],?_⟩;simp [mkS,Abs.get,C.refsLtT,C.refsLt,C.refsLt1,Gl.mcnts]) ?_
 rintro ⟨i,B1⟩ hi hnext
 dsimp only at hi hnext ⊢
 by_cases h:i<l.length
 ·have hlt:(i:Int)<(l.length:Int):=by omega
  have hd:l.drop i=l[i] :: l.drop (i+1):=List.drop_eq_getElem_cons h
  have hll:((Gl.mrks k (l.take i)).map Gl.enc++l[i].enc :: (l.drop (i+1)).map Gl.enc).length=l.length:=by simp [Gl.mrks_len];omega
  have hai:((Gl.mrks k (l.take i)).map Gl.enc).length=i:=by simp [Gl.mrks_len];omega
  have hnxt:l.take (i+1)=l.take i++[l[i]]:=by rw [List.take_add_one,List.getElem?_eq_getElem h];rfl
  have hcn:Gl.mcnts (l.take (i+1))=Gl.mcnts (l.take i)+l[i].mcnt:=by rw [hnxt,Gl.mcnts_app];simp [Gl.mcnts]
  have hcl:Gl.mcnts l=Gl.mcnts (l.take i)+(l[i].mcnt+Gl.mcnts (l.drop (i+1))):=by
   conv=>lhs;rw [←List.take_append_drop i l,hd,Gl.mcnts_app]
   simp [Gl.mcnts]
  have hix:=ih l[i] (List.getElem_mem _)
  have hmr:Gl.mrks k (l.take (i+1))=Gl.mrks k (l.take i)++[l[i].mrk (k+Gl.mcnts (l.take i))]:=by rw [hnxt,Gl.mrks_app];simp [Gl.mrks]
  have hmc:=Gl.mcnt_eq l[i]
  rw [hd,List.map_append,List.map_cons]
  have hnx:=fun B' s'=>hnext (i+1,B') s' h (by dsimp only;omega)
  clear hnext
  simp only [hmr,hcn,List.map_append,List.map_cons,List.map_nil,Gl.mrk_eq] at hnx
  generalize hx:l[i]=x at *
  generalize hA:(Gl.mrks k (l.take i)).map Gl.enc=A at *
  generalize hZ:(l.drop (i+1)).map Gl.enc=Z at *
  generalize hk:k+(Gl.mcnts (l.take i):Int)=kk at *
  have s1:=fun (y:List D)=>set_split (x:=x.enc) (y:=y) (r:=Z) hai
  have s2:=fun (y y':List D)=>set_split (x:=y) (y:=y') (r:=Z) hai
  have g1:=fun (y:List D)=>at_split (x:=y) (r:=Z) hai
  have xe:=Gl.enc_eq x
  rw [xe] at hll ⊢
  have zk4:∀zk:Nat,x.goals.map Gl.enc≠[]→(∀j,j∈x.goals→4=zk)→zk=4:=fun zk hne hz=>by
   cases ha:x.goals with
   | nil=>simp [ha] at hne
   | cons a r=>exact (hz a (by simp [ha])).symm
  have hrow:∀ts ks,(Gl.mk kk (mText (kk+1)) ts ks).enc=[.int .i64 kk,.str (mText (kk+1)),.sl (ts.map Tm.enc),.sl (ks.map Gl.enc)]:=fun ts ks=>by
   rw [Gl.enc_eq];rfl
  have zt4:∀zk:Nat,x.terms.map Tm.enc≠[]→(∀j,j∈x.terms→4=zk)→zk=4:=fun zk hne hz=>by
   cases ha:x.terms with
   | nil=>simp [ha] at hne
   | cons a r=>exact (hz a (by simp [ha])).symm
  simp only [hrow,List.append_assoc,List.cons_append,List.nil_append] at hnx
  have g2:=fun (y:List D) (Q:List D→Prop)=>idx_of (g1 y) Q
  refine run_sound Tryz.func76 mixed 17 _ _ (by kernel_rfl) ?_
  simp only [go_sem,seval,run.eq_1,hlt,hll,s2,g1,g2]
  repeat' (first
   | (refine lend_intro (fun hk0=>?_) (fun hk1 zk e' B2 B3 hzk=>?_)<;>(try simp only [go_sem,seval,hlt,hll,s2,g1,g2,run.eq_1]))
   | (simp (disch:=omega) only [wrap_ok])
   | ((first
    | (refine all_intro (fun Bz=>?_))
    | (refine (markTermS_0 _).calls rfl ?_)
    | (refine (markText_fn _ sd sd).calls rfl ?_)
    | (refine ⟨sd,?_⟩))<;>(try simp only [go_sem,seval,hlt,hll,s2,g1,g2,run.eq_1]))
   | fail)
  ·have ha:x.terms=[]:=by simpa using hk0
   have hm0:Tm.mcnts x.terms=0:=by rw [ha];rfl
   have e1:kk+1+1=kk+2+((0:Nat):Int):=by omega
   rw [ha] at hnx ⊢
   refine rS_ Tryz.func76 ?_
   simp only [go_sem,seval,hlt,hll,s2,g1,g2]
   repeat' (first
    | (refine lend_intro (fun hk0=>?_) (fun hk1 zk e' B2 B3 hzk=>?_)<;>(try simp only [go_sem,seval,hlt,hll,s2,g1,g2]))
    | (simp (disch:=omega) only [wrap_ok])
    | ((first
     | (refine (markGoalS_0 _).calls rfl ?_)
     | (refine ⟨sd,?_⟩))<;>(try simp only [go_sem,seval,hlt,hll,s2,g1,g2]))
    | fail)
   ·have hb:x.goals=[]:=by simpa using hk0
    have hn0:Gl.mcnts x.goals=0:=by rw [hb];rfl
    rw [hb] at hnx ⊢
    refine hnx Bz _ ?_
    refine ⟨by simp [mkS],by simp [mkS,Gl.mrks,Tm.mrks,Tm.mcnts,show kk+1+1=kk+2 by omega],by simp [mkS,O.refsLt],?_⟩;simp [mkS,Abs.get,C.refsLtT,C.refsLt,C.refsLt1];omega
   ·obtain rfl:=zk4 zk hk1 hzk
    refine (hix (kk+1+1) 0 e' B3 (by omega) (by omega)).at1 rfl 1 rfl rfl ?_
    rintro c o' ⟨rfl,B4,ho⟩
    cases ho
    refine ⟨rfl,rfl,?_⟩
    simp only [go_sem,seval,C.at1]
    try simp (disch:=omega) only [wrap_ok]
    try simp only [go_sem,seval,C.at1]
    refine AW.rejoin 0 1 rfl rfl (by decide) (fun B5=>?_)
    simp only [go_sem,seval,g1,s2]
    refine hnx B5 _ ?_
    refine ⟨by simp [mkS],by simp [mkS,Gl.mrks,Tm.mrks,Tm.mcnts,show kk+1+1=kk+2 by omega],by simp [mkS,O.refsLt],?_⟩;simp [mkS,Abs.get,C.refsLtT,C.refsLt,C.refsLt1];omega
  ·obtain rfl:=zt4 zk hk1 hzk
   have e1:kk+1+1+(Tm.mcnts x.terms:Int)=kk+2+(Tm.mcnts x.terms:Int):=by omega
   have e2:kk+1+1=kk+2:=by omega
   refine (mTT_all x.terms (kk+1+1) 0 e' B3 (by omega) (by omega)).at1 rfl 1 rfl rfl ?_
   rintro c o' ⟨rfl,B4,ho⟩
   cases ho
   refine ⟨rfl,rfl,?_⟩
   simp only [go_sem,seval,C.at1,run.eq_1]
   refine AW.rejoin 0 1 rfl rfl (by decide) (fun B5=>?_)
   simp only [go_sem,seval,g1,s2]
   refine rS_ Tryz.func76 ?_
   simp only [go_sem,seval,hlt,hll,s2,g1,g2]
   repeat' (first
    | (refine lend_intro (fun hk0=>?_) (fun hk1 zk e' B2 B3 hzk=>?_)<;>(try simp only [go_sem,seval,hlt,hll,s2,g1,g2]))
    | (simp (disch:=omega) only [wrap_ok])
    | ((first
     | (refine (markGoalS_0 _).calls rfl ?_)
     | (refine ⟨sd,?_⟩))<;>(try simp only [go_sem,seval,hlt,hll,s2,g1,g2]))
    | fail)
   ·have hb:x.goals=[]:=by simpa using hk0
    have hn0:Gl.mcnts x.goals=0:=by rw [hb];rfl
    rw [hb] at hnx ⊢
    refine hnx B5 _ ?_
    refine ⟨by simp [mkS],by simp [mkS,Gl.mrks,Tm.mrks,e2],by simp [mkS,O.refsLt],?_⟩;simp [mkS,Abs.get,C.refsLtT,C.refsLt,C.refsLt1];omega
   ·obtain rfl:=zk4 zk hk1 hzk
    refine (hix (kk+1+1+(Tm.mcnts x.terms:Int)) 0 e' B3 (by omega) (by omega)).at1 rfl 2 rfl rfl ?_
    rintro c o' ⟨rfl,B4,ho⟩
    cases ho
    refine ⟨rfl,rfl,?_⟩
    simp only [go_sem,seval,C.at1]
    try simp (disch:=omega) only [wrap_ok]
    try simp only [go_sem,seval,C.at1]
    refine AW.rejoin 0 2 rfl rfl (by decide) (fun B5=>?_)
    simp only [go_sem,seval,g1,s2]
    refine hnx B5 _ ?_
    refine ⟨by simp [mkS],by simp [mkS,Gl.mrks,Tm.mrks,e2],by simp [mkS,O.refsLt],?_⟩;simp [mkS,Abs.get,C.refsLtT,C.refsLt,C.refsLt1];omega
 ·obtain rfl:i=l.length:=by omega
  refine rS_ Tryz.func76 ?_
  simp only [go_sem,seval,Gl.mrks_len,List.take_length,List.drop_length]
  repeat' (first
   | (exact ⟨_,rfl⟩)
   | fail)
theorem mGT_goals:∀t:Gl,mGT t.goals:=by
 intro t
 induction t using Gl.ind' with
 | h t ih=>exact markGoalS_T t.goals ih
theorem mGT_all (l:List Gl):mGT l:=markGoalS_T l (fun x _=>mGT_goals x)
end Go.Proofs.YthilkmjkgpdngaaGreat
