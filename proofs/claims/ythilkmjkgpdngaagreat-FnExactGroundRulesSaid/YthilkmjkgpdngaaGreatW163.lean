import Derived.Test.YthilkmjkgpdngaaGreatW121
open List renaming getElem?_eq_getElem→a_,cons_append→b_,drop_eq_getElem_cons→c_,getElem?_cons_succ→d_,take_append_drop→e_
namespace Go.Proofs.YthilkmjkgpdngaaGreat
open Go.Abs
set_option maxRecDepth 100000
set_option maxHeartbeats 4000000
set_option linter.unusedSimpArgs false
set_option linter.unusedVariables false
end Go.Proofs.YthilkmjkgpdngaaGreat
namespace Go.Abs
def Ru.mcnt (t:Ru):Nat:=2+Tm.mcnts t.head.args+Tm.mcnts t.values+Fc.mcnts t.pos+Fc.mcnts t.neg
def Ru.mrk (k:Int) (t:Ru):Ru:=⟨⟨mText k,Tm.mrks (k+1) t.head.args⟩,k+1+Tm.mcnts t.head.args,Tm.mrks (k+1+Tm.mcnts t.head.args+1) t.values,Fc.mrks (k+1+Tm.mcnts t.head.args+1+Tm.mcnts t.values) t.pos,Fc.mrks (k+1+Tm.mcnts t.head.args+1+Tm.mcnts t.values+Fc.mcnts t.pos) t.neg⟩
def Ru.mcnts:List Ru→Nat
 | []=>0
 | t :: r=>Ru.mcnt t+Ru.mcnts r
def Ru.mrks (k:Int):List Ru→List Ru
 | []=>[]
 | t :: r=>Ru.mrk k t :: Ru.mrks (k+t.mcnt) r
theorem Ru.mrks_len:∀(l:List Ru) (k:Int),(Ru.mrks k l).length=l.length
 | [],_=>rfl
 | t :: r,k=>by simp [Ru.mrks,Ru.mrks_len r]
theorem Ru.mcnts_app:∀(a b:List Ru),Ru.mcnts (a++b)=Ru.mcnts a+Ru.mcnts b
 | [],b=>by simp [Ru.mcnts]
 | t :: a,b=>by simp only [b_,Ru.mcnts,Ru.mcnts_app a b];omega
theorem Ru.mrks_app:∀(a b:List Ru) (k:Int),Ru.mrks k (a++b)=Ru.mrks k a++Ru.mrks (k+Ru.mcnts a) b
 | [],b,k=>by simp [Ru.mrks,Ru.mcnts]
 | t :: a,b,k=>by
  simp only [b_,Ru.mrks,Ru.mcnts,Ru.mrks_app a b]
  rw [show k+(t.mcnt:Int)+(Ru.mcnts a:Int)=k+((t.mcnt+Ru.mcnts a:Nat):Int) by omega]
theorem Ru.len_mcnts:∀l:List Ru,l.length≤Ru.mcnts l
 | []=>by simp
 | t :: r=>by have:=Ru.len_mcnts r;simp only [Ru.mcnts,Ru.mcnt,List.length_cons];omega
theorem Ru.mrks_at:∀(l:List Ru) (k:Int) (i:Nat) (x:Ru),l[i]? = some x→(Ru.mrks k l)[i]? = some (x.mrk (k+Ru.mcnts (l.take i)))
 | [],k,i,x,h=>by simp at h
 | t :: r,k,0,x,h=>by simp at h;subst h;simp [Ru.mrks,Ru.mcnts]
 | t :: r,k,i+1,x,h=>by
  simp only [d_] at h
  simp only [Ru.mrks,d_,List.take_succ_cons,Ru.mcnts]
  rw [Ru.mrks_at r _ i x h]
  rw [show k+(t.mcnt:Int)+(Ru.mcnts (r.take i):Int)=k+((t.mcnt+Ru.mcnts (r.take i):Nat):Int) by omega]
theorem AW.via {P:Program} {f:FuncId} {n n0:Nat} {R:C→List O→Prop} {c1 c2:Code} {k:List Item} {s:St} {ι:Type} (canon:ι→St) (hk:∀x s',Weak n0 s' (canon x)→AW P f n n0 R (.code c2 :: k) s')
  (h:(∀x s',Weak n0 s' (canon x)→AW P f n n0 R (.code c2 :: k) s')→AW P f n n0 R (.code c1 :: .code c2 :: k) s):AW P f n n0 R (.code (.seq c1 c2) :: k) s:=AW.seq (h hk)
theorem AW.viaL {P:Program} {f:FuncId} {n n0:Nat} {R:C→List O→Prop} {c1:Code} {k:List Item} {s:St} {ι:Type} (canon:ι→St) (hk:∀x s',Weak n0 s' (canon x)→AW P f n n0 R k s')
  (h:(∀x s',Weak n0 s' (canon x)→AW P f n n0 R k s')→AW P f n n0 R (.code c1 :: k) s):AW P f n n0 R (.code c1 :: k) s:=h hk
end Go.Abs
namespace Go.Proofs.YthilkmjkgpdngaaGreat
open Go.Abs
set_option maxRecDepth 100000
set_option maxHeartbeats 4000000
set_option linter.unusedSimpArgs false
set_option linter.unusedVariables false
theorem heldRuleS_T (l:List Ru) (k:Int) (h0:0≤k) (h1:k+Ru.mcnts l≤1000000000000):Gives Tryz.prog 16 [.sl ((Ru.mrks k l).map Ru.enc),.int .i64 k] (.d (.int .i64 (k+Ru.mcnts l))):=by
 have hml:=Ru.mrks_len l k
 have hlm:=Ru.len_mcnts l
 refine aE_ Tryz.func16 ?_
 refine rS_ Tryz.func16 ?_
 simp only [go_sem,seval]
 refine AW.lp [0] (fun i:Nat=>[(5,.d (.int .i64 i)),(1,.d (.int .i64 (k+Ru.mcnts (l.take i))))]) (fun H _=>H) (fun i=>i≤l.length) (fun i=>l.length - i) 0 (Nat.zero_le _) (by refine ⟨by simp [mkS],by simp [mkS],by simp [mkS,O.refsLt],?_⟩;simp [mkS,Abs.get,C.refsLtT,C.refsLt,C.refsLt1,Ru.mcnts]) ?_
 intro i hi hnext
 by_cases h:i<l.length
 ·have hlt:(i:Int)<(l.length:Int):=by omega
  have hxi:l[i]? = some l[i]:=a_ h
  have hat:=Ru.mrks_at l k i _ hxi
  have hnxt:l.take (i+1)=l.take i++[l[i]]:=by rw [List.take_add_one,a_ h];rfl
  have hcn:Ru.mcnts (l.take (i+1))=Ru.mcnts (l.take i)+l[i].mcnt:=by rw [hnxt,Ru.mcnts_app];simp [Ru.mcnts]
  have hcl:Ru.mcnts l=Ru.mcnts (l.take i)+(l[i].mcnt+Ru.mcnts (l.drop (i+1))):=by
   conv=>lhs;rw [←e_ i l,c_ h,Ru.mcnts_app]
   simp [Ru.mcnts]
  have hmc:l[i].mcnt=2+Tm.mcnts l[i].head.args+Tm.mcnts l[i].values+Fc.mcnts l[i].pos+Fc.mcnts l[i].neg:=rfl
  have hnx:=fun s'=>hnext (i+1) s' h (by omega)
  clear hnext
  simp only [hcn] at hnx
  generalize hx:l[i]=x at *
  generalize hk:k+(Ru.mcnts (l.take i):Int)=kk at *
  generalize hy:x.mrk kk=y at *
  have ye:y.head.rel=mText kk∧y.head.args=Tm.mrks (kk+1) x.head.args∧y.clause=kk+1+Tm.mcnts x.head.args∧y.values=Tm.mrks (kk+1+Tm.mcnts x.head.args+1) x.values∧y.pos=Fc.mrks (kk+1+Tm.mcnts x.head.args+1+Tm.mcnts x.values) x.pos∧y.neg=Fc.mrks (kk+1+Tm.mcnts x.head.args+1+Tm.mcnts x.values+Fc.mcnts x.pos) x.neg:=by
   rw [←hy];exact ⟨rfl,rfl,rfl,rfl,rfl,rfl⟩
  obtain ⟨y1,y2,y3,y4,y5,y6⟩:=ye
  have hr1:=hTT_all x.head.args (kk+1) (by omega) (by omega)
  have hr2:=hTT_all x.values (kk+1+Tm.mcnts x.head.args+1) (by omega) (by omega)
  have hr3:=heldFactS_T x.pos (kk+1+Tm.mcnts x.head.args+1+Tm.mcnts x.values) (by omega) (by omega)
  have hr4:=heldFactS_T x.neg (kk+1+Tm.mcnts x.head.args+1+Tm.mcnts x.values+Fc.mcnts x.pos) (by omega) (by omega)
  have w1:IntKind.i64.wrap (kk+1)=kk+1:=wrap_ok (by omega) (by omega)
  have w2:IntKind.i64.wrap (kk+1+(Tm.mcnts x.head.args:Int)+1)=kk+1+(Tm.mcnts x.head.args:Int)+1:=wrap_ok (by omega) (by omega)
  have w3:IntKind.i64.wrap (kk+1+(Tm.mcnts x.head.args:Int))=kk+1+(Tm.mcnts x.head.args:Int):=wrap_ok (by omega) (by omega)
  refine rS_ Tryz.func16 ?_
  simp only [go_sem,seval,hlt,hml,idx_of hat,y1,y2,y3,y4,y5,y6,w1,w2,w3]
  repeat' (first
   | ((refine br_n (fun hq=>?_) (fun hq=>?_))<;>(try simp only [go_sem,seval,hlt,hml,idx_of hat,y1,y2,y3,y4,y5,y6,w1,w2,w3,hq]))
   | (simp (disch:=omega) only [wrap_ok])
   | ((first
    | (refine hr1.calls rfl ?_)
    | (refine hr2.calls rfl ?_)
    | (refine hr3.calls rfl ?_)
    | (refine hr4.calls rfl ?_)
    | (refine (markText_fn _ sd sd).callQ rfl ?_))<;>(try simp only [go_sem,seval,hlt,hml,idx_of hat,y1,y2,y3,y4,y5,y6,w1,w2,w3]))
   | fail)
  all_goals first | (exfalso;omega) | skip
  refine hnx _ ?_
  refine ⟨by simp [mkS],by simp [mkS],by simp [mkS,O.refsLt],?_⟩;simp [mkS,Abs.get,C.refsLtT,C.refsLt,C.refsLt1];omega
 ·obtain rfl:i=l.length:=by omega
  refine rS_ Tryz.func16 ?_
  simp only [go_sem,seval,hml,List.take_length]
theorem markRuleS_0 (k:Int):Gives Tryz.prog 15 [.sl [],.int .i64 k] (.d (.int .i64 k)):=by
 have z0:((0:Nat):Int)=0:=rfl
 refine aE_ Tryz.func15 ?_
 refine rS_ Tryz.func15 ?_
 simp only [go_sem,seval]
 repeat' (first
  | ((refine AW.loop ?_<;>(refine rS_ Tryz.func15 ?_))<;>(try simp only [go_sem,seval,z0]))
  | fail)
 all_goals (exfalso;simp at *)
theorem markRuleS_T (l:List Ru) (k:Int) (q e:Nat) (B:Nat→Prop) (h0:0≤k) (h1:k+Ru.mcnts l≤1000000000000) :
  ACalls Tryz.prog 15 [.own 0 q,.d (.int .i64 k)] [.tree q 6 e (l.map Ru.enc) B none] fun c H'=>c=.d (.int .i64 (k+Ru.mcnts l))∧∃B',H'=[.tree q 6 e ((Ru.mrks k l).map Ru.enc) B' none]:=by
 have hlm:=Ru.len_mcnts l
 refine aE_ Tryz.func15 ?_
 refine rS_ Tryz.func15 ?_
 simp only [go_sem,seval]
 refine AW.lp [0] (fun p:Nat×(Nat→Prop)=>[(5,.d (.int .i64 p.1)),(1,.d (.int .i64 (k+Ru.mcnts (l.take p.1))))]) (fun _ p=>[.tree q 6 e ((Ru.mrks k (l.take p.1)++l.drop p.1).map Ru.enc) p.2 none]) (fun p=>p.1≤l.length) (fun p=>l.length - p.1) (0,B) (Nat.zero_le _) (by refine ⟨by simp [mkS],by simp [mkS,Ru.mrks],by simp [mkS,O.refsLt],?_⟩;simp [mkS,Abs.get,C.refsLtT,C.refsLt,C.refsLt1,Ru.mcnts]) ?_
 rintro ⟨i,B1⟩ hi hnext
 dsimp only at hi hnext ⊢
 by_cases h:i<l.length
 ·have hlt:(i:Int)<(l.length:Int):=by omega
  have hd:l.drop i=l[i] :: l.drop (i+1):=c_ h
  have hll:((Ru.mrks k (l.take i)).map Ru.enc++l[i].enc :: (l.drop (i+1)).map Ru.enc).length=l.length:=by simp [Ru.mrks_len];omega
  have hai:((Ru.mrks k (l.take i)).map Ru.enc).length=i:=by simp [Ru.mrks_len];omega
  have hnxt:l.take (i+1)=l.take i++[l[i]]:=by rw [List.take_add_one,a_ h];rfl
  have hcn:Ru.mcnts (l.take (i+1))=Ru.mcnts (l.take i)+l[i].mcnt:=by rw [hnxt,Ru.mcnts_app];simp [Ru.mcnts]
  have hcl:Ru.mcnts l=Ru.mcnts (l.take i)+(l[i].mcnt+Ru.mcnts (l.drop (i+1))):=by
   conv=>lhs;rw [←e_ i l,hd,Ru.mcnts_app]
   simp [Ru.mcnts]
  have hmr:Ru.mrks k (l.take (i+1))=Ru.mrks k (l.take i)++[l[i].mrk (k+Ru.mcnts (l.take i))]:=by rw [hnxt,Ru.mrks_app];simp [Ru.mrks]
  have hmc:l[i].mcnt=2+Tm.mcnts l[i].head.args+Tm.mcnts l[i].values+Fc.mcnts l[i].pos+Fc.mcnts l[i].neg:=rfl
  rw [hd,List.map_append,List.map_cons]
  have hnx:=fun B' s'=>hnext (i+1,B') s' h (by dsimp only;omega)
  clear hnext
  simp only [hmr,hcn,List.map_append,List.map_cons,List.map_nil,Ru.mrk] at hnx
  generalize hx:l[i]=x at *
  generalize hA:(Ru.mrks k (l.take i)).map Ru.enc=A at *
  generalize hZ:(l.drop (i+1)).map Ru.enc=Z at *
  generalize hk:k+(Ru.mcnts (l.take i):Int)=kk at *
  have s2:=fun (y y':List D)=>set_split (x:=y) (y:=y') (r:=Z) hai
  have g1:=fun (y:List D)=>at_split (x:=y) (r:=Z) hai
  have xe:=Ru.enc_eq x
  rw [xe] at hll ⊢
  have zt4:∀(al:List Tm) (zk:Nat),al.map Tm.enc≠[]→(∀j,j∈al→4=zk)→zk=4:=fun al zk hne hz=>by
   cases ha:al with
   | nil=>simp [ha] at hne
   | cons a r=>exact (hz a (by simp [ha])).symm
  have zf2:∀(al:List Fc) (zk:Nat),al.map Fc.enc≠[]→(∀j,j∈al→2=zk)→zk=2:=fun al zk hne hz=>by
   cases ha:al with
   | nil=>simp [ha] at hne
   | cons a r=>exact (hz a (by simp [ha])).symm
  simp only [Ru.enc_eq,List.append_assoc,b_,List.nil_append] at hnx
  have g2:=fun (y:List D) (Q:List D→Prop)=>idx_of (g1 y) Q
  have hll2:∀y:List D,(A++y :: Z).length=l.length:=fun y=>by rw [←hll];simp
  refine run_sound Tryz.func15 mixed 11 _ _ (by kernel_rfl) ?_
  simp only [go_sem,seval,run.eq_1,hlt,hll2,s2,g1,g2]
  repeat' (first
   | (simp (disch:=omega) only [wrap_ok])
   | ((first
    | (refine all_intro (fun Bz=>?_))
    | (refine (markText_fn _ sd sd).calls rfl ?_)
    | (refine ⟨sd,?_⟩))<;>(try simp only [go_sem,seval,hlt,hll2,s2,g1,g2,run.eq_1]))
   | fail)
  refine AW.via (fun B=>(⟨[(5,.d (.int .i64 (i:Int))),(1,.d (.int .i64 (kk+1+(Tm.mcnts x.head.args:Int)))),(0,.own 0 q)],[.tree q 6 e (A++[D.str (mText kk),D.sl ((Tm.mrks (kk+1) x.head.args).map Tm.enc),D.int .i64 x.clause,D.sl (x.values.map Tm.enc),D.sl (x.pos.map Fc.enc),D.sl (x.neg.map Fc.enc)] :: Z) B none]⟩:St)) (fun B s' hw=>AW.weaken hw ?_) (fun hkk=>?_)
  rotate_left
  ·refine run_sound Tryz.func15 mixed 1 _ _ (by kernel_rfl) ?_
   simp only [go_sem,seval,run.eq_1,hlt,hll2,s2,g1,g2]
   repeat' (first
    | (refine lend_intro (fun hk0=>?_) (fun hk1 zk e' B2 B3 hzk=>?_)<;>(try simp only [go_sem,seval,hlt,hll2,s2,g1,g2,run.eq_1]))
    | ((first
     | (refine (markTermS_0 _).calls rfl ?_)
     | (refine ⟨sd,?_⟩))<;>(try simp only [go_sem,seval,hlt,hll2,s2,g1,g2,run.eq_1]))
    | fail)
   ·have ha:x.head.args=[]:=by simpa using hk0
    refine hkk Bz _ (by refine ⟨by simp,by simp [ha,Tm.mrks],by simp [O.refsLt],?_⟩;simp [Abs.get,C.refsLtT,C.refsLt,C.refsLt1,ha,Tm.mcnts])
   ·obtain rfl:=zt4 _ zk hk1 hzk
    refine (mTT_all x.head.args (kk+1) 0 e' B3 (by omega) (by omega)).at1 rfl 1 rfl rfl ?_
    rintro c o' ⟨rfl,B4,ho⟩
    cases ho
    refine ⟨rfl,rfl,?_⟩
    simp only [go_sem,seval,C.at1,run.eq_1]
    refine AW.rejoin 0 1 rfl rfl (by decide) (fun B5=>?_)
    simp only [go_sem,seval,g1,s2]
    refine hkk B5 _ (by refine ⟨by simp,by simp,by simp [O.refsLt],?_⟩;simp [Abs.get,C.refsLtT,C.refsLt,C.refsLt1])
  refine run_sound Tryz.func15 mixed 4 _ _ (by kernel_rfl) ?_
  simp only [go_sem,seval,run.eq_1,hlt,hll2,s2,g1,g2]
  repeat' (first
   | (simp (disch:=omega) only [wrap_ok])
   | ((first
    | (refine all_intro (fun Bz=>?_))
    | (refine ⟨sd,?_⟩))<;>(try simp only [go_sem,seval,hlt,hll2,s2,g1,g2,run.eq_1]))
   | fail)
  refine AW.via (fun B=>(⟨[(5,.d (.int .i64 (i:Int))),(1,.d (.int .i64 (kk+1+(Tm.mcnts x.head.args:Int)+1+(Tm.mcnts x.values:Int)))),(0,.own 0 q)],[.tree q 6 e (A++[D.str (mText kk),D.sl ((Tm.mrks (kk+1) x.head.args).map Tm.enc),D.int .i64 (kk+1+(Tm.mcnts x.head.args:Int)),D.sl ((Tm.mrks (kk+1+(Tm.mcnts x.head.args:Int)+1) x.values).map Tm.enc),D.sl (x.pos.map Fc.enc),D.sl (x.neg.map Fc.enc)] :: Z) B none]⟩:St)) (fun B s' hw=>AW.weaken hw ?_) (fun hkk=>?_)
  rotate_left
  ·refine run_sound Tryz.func15 mixed 1 _ _ (by kernel_rfl) ?_
   simp only [go_sem,seval,run.eq_1,hlt,hll2,s2,g1,g2]
   repeat' (first
    | (refine lend_intro (fun hk0=>?_) (fun hk1 zk e' B2 B3 hzk=>?_)<;>(try simp only [go_sem,seval,hlt,hll2,s2,g1,g2,run.eq_1]))
    | ((first
     | (refine (markTermS_0 _).calls rfl ?_)
     | (refine ⟨sd,?_⟩))<;>(try simp only [go_sem,seval,hlt,hll2,s2,g1,g2,run.eq_1]))
    | fail)
   ·have ha:x.values=[]:=by simpa using hk0
    refine hkk Bz _ (by refine ⟨by simp,by simp [ha,Tm.mrks],by simp [O.refsLt],?_⟩;simp [Abs.get,C.refsLtT,C.refsLt,C.refsLt1,ha,Tm.mcnts])
   ·obtain rfl:=zt4 _ zk hk1 hzk
    refine (mTT_all x.values (kk+1+(Tm.mcnts x.head.args:Int)+1) 0 e' B3 (by omega) (by omega)).at1 rfl 1 rfl rfl ?_
    rintro c o' ⟨rfl,B4,ho⟩
    cases ho
    refine ⟨rfl,rfl,?_⟩
    simp only [go_sem,seval,C.at1,run.eq_1]
    refine AW.rejoin 0 1 rfl rfl (by decide) (fun B5=>?_)
    simp only [go_sem,seval,g1,s2]
    refine hkk B5 _ (by refine ⟨by simp,by simp,by simp [O.refsLt],?_⟩;simp [Abs.get,C.refsLtT,C.refsLt,C.refsLt1])
  refine AW.via (fun B=>(⟨[(5,.d (.int .i64 (i:Int))),(1,.d (.int .i64 (kk+1+(Tm.mcnts x.head.args:Int)+1+(Tm.mcnts x.values:Int)+(Fc.mcnts x.pos:Int)))),(0,.own 0 q)],[.tree q 6 e (A++[D.str (mText kk),D.sl ((Tm.mrks (kk+1) x.head.args).map Tm.enc),D.int .i64 (kk+1+(Tm.mcnts x.head.args:Int)),D.sl ((Tm.mrks (kk+1+(Tm.mcnts x.head.args:Int)+1) x.values).map Tm.enc),D.sl ((Fc.mrks (kk+1+(Tm.mcnts x.head.args:Int)+1+(Tm.mcnts x.values:Int)) x.pos).map Fc.enc),D.sl (x.neg.map Fc.enc)] :: Z) B none]⟩:St)) (fun B s' hw=>AW.weaken hw ?_) (fun hkk=>?_)
  rotate_left
  ·refine run_sound Tryz.func15 mixed 1 _ _ (by kernel_rfl) ?_
   simp only [go_sem,seval,run.eq_1,hlt,hll2,s2,g1,g2]
   repeat' (first
    | (refine lend_intro (fun hk0=>?_) (fun hk1 zk e' B2 B3 hzk=>?_)<;>(try simp only [go_sem,seval,hlt,hll2,s2,g1,g2,run.eq_1]))
    | ((first
     | (refine (markFactS_0 _).calls rfl ?_)
     | (refine ⟨sd,?_⟩))<;>(try simp only [go_sem,seval,hlt,hll2,s2,g1,g2,run.eq_1]))
    | fail)
   ·have ha:x.pos=[]:=by simpa using hk0
    refine hkk B _ (by refine ⟨by simp,by simp [ha,Fc.mrks],by simp [O.refsLt],?_⟩;simp [Abs.get,C.refsLtT,C.refsLt,C.refsLt1,ha,Fc.mcnts])
   ·obtain rfl:=zf2 _ zk hk1 hzk
    refine (markFactS_T x.pos (kk+1+(Tm.mcnts x.head.args:Int)+1+(Tm.mcnts x.values:Int)) 0 e' B3 (by omega) (by omega)).at1 rfl 1 rfl rfl ?_
    rintro c o' ⟨rfl,B4,ho⟩
    cases ho
    refine ⟨rfl,rfl,?_⟩
    simp only [go_sem,seval,C.at1,run.eq_1]
    refine AW.rejoin 0 1 rfl rfl (by decide) (fun B5=>?_)
    simp only [go_sem,seval,g1,s2]
    refine hkk B5 _ (by refine ⟨by simp,by simp,by simp [O.refsLt],?_⟩;simp [Abs.get,C.refsLtT,C.refsLt,C.refsLt1])
  refine AW.viaL (fun B=>(⟨[(5,.d (.int .i64 (i:Int))),(1,.d (.int .i64 (kk+1+(Tm.mcnts x.head.args:Int)+1+(Tm.mcnts x.values:Int)+(Fc.mcnts x.pos:Int)+(Fc.mcnts x.neg:Int)))),(0,.own 0 q)],[.tree q 6 e (A++[D.str (mText kk),D.sl ((Tm.mrks (kk+1) x.head.args).map Tm.enc),D.int .i64 (kk+1+(Tm.mcnts x.head.args:Int)),D.sl ((Tm.mrks (kk+1+(Tm.mcnts x.head.args:Int)+1) x.values).map Tm.enc),D.sl ((Fc.mrks (kk+1+(Tm.mcnts x.head.args:Int)+1+(Tm.mcnts x.values:Int)) x.pos).map Fc.enc),D.sl ((Fc.mrks (kk+1+(Tm.mcnts x.head.args:Int)+1+(Tm.mcnts x.values:Int)+(Fc.mcnts x.pos:Int)) x.neg).map Fc.enc)] :: Z) B none]⟩:St)) (fun B s' hw=>AW.weaken hw ?_) (fun hkk=>?_)
  rotate_left
  ·refine run_sound Tryz.func15 mixed 1 _ _ (by kernel_rfl) ?_
   simp only [go_sem,seval,run.eq_1,hlt,hll2,s2,g1,g2]
   repeat' (first
    | (refine lend_intro (fun hk0=>?_) (fun hk1 zk e' B2 B3 hzk=>?_)<;>(try simp only [go_sem,seval,hlt,hll2,s2,g1,g2,run.eq_1]))
    | ((first
     | (refine (markFactS_0 _).calls rfl ?_)
     | (refine ⟨sd,?_⟩))<;>(try simp only [go_sem,seval,hlt,hll2,s2,g1,g2,run.eq_1]))
    | fail)
   ·have ha:x.neg=[]:=by simpa using hk0
    refine hkk B _ (by refine ⟨by simp,by simp [ha,Fc.mrks],by simp [O.refsLt],?_⟩;simp [Abs.get,C.refsLtT,C.refsLt,C.refsLt1,ha,Fc.mcnts])
   ·obtain rfl:=zf2 _ zk hk1 hzk
    refine (markFactS_T x.neg (kk+1+(Tm.mcnts x.head.args:Int)+1+(Tm.mcnts x.values:Int)+(Fc.mcnts x.pos:Int)) 0 e' B3 (by omega) (by omega)).at1 rfl 1 rfl rfl ?_
    rintro c o' ⟨rfl,B4,ho⟩
    cases ho
    refine ⟨rfl,rfl,?_⟩
    simp only [go_sem,seval,C.at1,run.eq_1]
    refine AW.rejoin 0 1 rfl rfl (by decide) (fun B5=>?_)
    simp only [go_sem,seval,g1,s2]
    refine hkk B5 _ (by refine ⟨by simp,by simp,by simp [O.refsLt],?_⟩;simp [Abs.get,C.refsLtT,C.refsLt,C.refsLt1])
  refine rS_ Tryz.func15 ?_
  simp only [go_sem,seval,hlt,hll2,s2,g1,g2]
  repeat' (first
   | (simp (disch:=omega) only [wrap_ok])
   | fail)
  refine hnx B _ ?_
  refine ⟨by simp [mkS],by simp [mkS],by simp [mkS,O.refsLt],?_⟩;simp [mkS,Abs.get,C.refsLtT,C.refsLt,C.refsLt1];omega
 ·obtain rfl:i=l.length:=by omega
  refine rS_ Tryz.func15 ?_
  simp only [go_sem,seval,Ru.mrks_len,List.take_length,List.drop_length]
  repeat' (first
   | (exact ⟨_,rfl⟩)
   | fail)
end Go.Proofs.YthilkmjkgpdngaaGreat
