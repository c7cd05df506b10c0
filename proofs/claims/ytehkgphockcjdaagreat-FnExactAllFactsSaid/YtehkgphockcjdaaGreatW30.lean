import Derived.Test.YtehkgphockcjdaaGreatW10
import Derived.Test.YtehkgphockcjdaaGreatA7
import Derived.Test.YtehkgphockcjdaaGreatP4
open List renaming getElem?_eq_getElem→a_,map_append→b_,map_cons→c_,cons_append→d_,nil_append→e_,drop_eq_getElem_cons→f_,take_append_drop→g_
namespace Go.Proofs.YtehkgphockcjdaaGreat
open Go.Abs
set_option maxRecDepth 100000
set_option maxHeartbeats 4000000
set_option linter.unusedSimpArgs false
set_option linter.unusedVariables false
theorem markGoalS_0 (k:Int):Gives Tryz.prog 61 [.sl [],.int .i64 k] (.d (.int .i64 k)):=by
 have z0:((0:Nat):Int)=0:=rfl
 refine aE_ Tryz.func61 ?_
 refine rS_ Tryz.func61 ?_
 simp only [go_sem,seval]
 repeat' (first
  | ((refine AW.loop ?_<;>(refine rS_ Tryz.func61 ?_))<;>(try simp only [go_sem,seval,z0]))
  | fail)
 all_goals (exfalso;simp at *)
def mGT (l:List Gl):Prop:=∀(k:Int) (q e:Nat) (B:Nat→Prop),0≤k→k+Gl.mcnts l≤1000000000 →
 ACalls Tryz.prog 61 [.own 0 q,.d (.int .i64 k)] [.tree q 4 e (l.map Gl.enc) B none] fun c H'=>c=.d (.int .i64 (k+Gl.mcnts l))∧∃B',H'=[.tree q 4 e ((Gl.mrks k l).map Gl.enc) B' none]
theorem markGoalS_T (l:List Gl) (ih:∀x,x∈l→mGT x.goals):mGT l:=by
 intro k q e B h0 h1
 have hlm:=Gl.len_mcnts l
 refine aE_ Tryz.func61 ?_
 refine rS_ Tryz.func61 ?_
 simp only [go_sem,seval]
 refine AW.lp [0] (fun p:Nat×(Nat→Prop)=>[(5,.d (.int .i64 p.1)),(1,.d (.int .i64 (k+Gl.mcnts (l.take p.1))))]) (fun _ p=>[.tree q 4 e ((Gl.mrks k (l.take p.1)++l.drop p.1).map Gl.enc) p.2 none]) (fun p=>p.1≤l.length) (fun p=>l.length - p.1) (0,B) (Nat.zero_le _) (by refine ⟨by simp [mkS],by simp [mkS,Gl.mrks],by simp [mkS,O.refsLt],?_⟩;simp [mkS,Abs.get,C.refsLtT,C.refsLt,C.refsLt1,Gl.mcnts]) ?_
 rintro ⟨i,B1⟩ hi hnext
 dsimp only at hi hnext ⊢
 by_cases h:i<l.length
 ·have hlt:(i:Int)<(l.length:Int):=by omega
  have hd:l.drop i=l[i] :: l.drop (i+1):=f_ h
  have hll:((Gl.mrks k (l.take i)).map Gl.enc++l[i].enc :: (l.drop (i+1)).map Gl.enc).length=l.length:=by simp [Gl.mrks_len];omega
  have hai:((Gl.mrks k (l.take i)).map Gl.enc).length=i:=by simp [Gl.mrks_len];omega
  have hnxt:l.take (i+1)=l.take i++[l[i]]:=by rw [List.take_add_one,a_ h];rfl
  have hcn:Gl.mcnts (l.take (i+1))=Gl.mcnts (l.take i)+l[i].mcnt:=by rw [hnxt,Gl.mcnts_app];simp [Gl.mcnts]
  have hcl:Gl.mcnts l=Gl.mcnts (l.take i)+(l[i].mcnt+Gl.mcnts (l.drop (i+1))):=by
   conv=>lhs;rw [←g_ i l,hd,Gl.mcnts_app]
   simp [Gl.mcnts]
  have hix:=ih l[i] (List.getElem_mem _)
  have hmr:Gl.mrks k (l.take (i+1))=Gl.mrks k (l.take i)++[l[i].mrk (k+Gl.mcnts (l.take i))]:=by rw [hnxt,Gl.mrks_app];simp [Gl.mrks]
  have hmc:=Gl.mcnt_eq l[i]
  rw [hd,b_,c_]
  have hnx:=fun B' s'=>hnext (i+1,B') s' h (by dsimp only;omega)
  clear hnext
  simp only [hmr,hcn,b_,c_,List.map_nil,Gl.mrk_eq] at hnx
  generalize hx:l[i]=x at *
  generalize hA:(Gl.mrks k (l.take i)).map Gl.enc=A at *
  generalize hZ:(l.drop (i+1)).map Gl.enc=Z at *
  generalize hk:k+(Gl.mcnts (l.take i):Int)=kk at *
  have s1:=fun (y:List D)=>set_split (x:=x.enc) (y:=y) (r:=Z) hai
  have s2:=fun (y y':List D)=>set_split (x:=y) (y:=y') (r:=Z) hai
  have g1:=fun (y:List D)=>at_split (x:=y) (r:=Z) hai
  have xe:=Gl.enc_eq x
  rw [xe] at hll ⊢
  have zk4:∀zk:Nat,x.goals.map Gl.enc≠[]→(∀j,j∈x.goals→4=zk)→zk=4:=fun zk hne hz=>by
   cases ha:x.goals with
   | nil=>simp [ha] at hne
   | cons a r=>exact (hz a (by simp [ha])).symm
  have hrow:∀ts ks,(Gl.mk kk (mText (kk+1)) ts ks).enc=[.int .i64 kk,.str (mText (kk+1)),.sl (ts.map Tm.enc),.sl (ks.map Gl.enc)]:=fun ts ks=>by
   rw [Gl.enc_eq];rfl
  have zt4:∀zk:Nat,x.terms.map Tm.enc≠[]→(∀j,j∈x.terms→4=zk)→zk=4:=fun zk hne hz=>by
   cases ha:x.terms with
   | nil=>simp [ha] at hne
   | cons a r=>exact (hz a (by simp [ha])).symm
  simp only [hrow,List.append_assoc,d_,e_] at hnx
  have g2:=fun (y:List D) (Q:List D→Prop)=>idx_of (g1 y) Q
  refine run_sound Tryz.func61 mixed 17 _ _ (by kernel_rfl) ?_
  simp only [go_sem,seval,run.eq_1,hlt,hll,s2,g1,g2]
  repeat' (first
   | (refine lend_intro (fun hk0=>?_) (fun hk1 zk e' B2 B3 hzk=>?_)<;>(try simp only [go_sem,seval,hlt,hll,s2,g1,g2,run.eq_1]))
   | (simp (disch:=omega) only [wrap_ok])
   | ((first
    | (refine all_intro (fun Bz=>?_))
    | (refine (markTermS_0 _).calls rfl ?_)
    | (refine (markText_fn _ sd sd).calls rfl ?_)
    | (refine ⟨sd,?_⟩))<;>(try simp only [go_sem,seval,hlt,hll,s2,g1,g2,run.eq_1]))
   | fail)
  ·have ha:x.terms=[]:=by simpa using hk0
   have hm0:Tm.mcnts x.terms=0:=by rw [ha];rfl
   have e1:kk+1+1=kk+2+((0:Nat):Int):=by omega
   rw [ha] at hnx ⊢
   refine rS_ Tryz.func61 ?_
   simp only [go_sem,seval,hlt,hll,s2,g1,g2]
   repeat' (first
    | (refine lend_intro (fun hk0=>?_) (fun hk1 zk e' B2 B3 hzk=>?_)<;>(try simp only [go_sem,seval,hlt,hll,s2,g1,g2]))
    | (simp (disch:=omega) only [wrap_ok])
    | ((first
     | (refine (markGoalS_0 _).calls rfl ?_)
     | (refine ⟨sd,?_⟩))<;>(try simp only [go_sem,seval,hlt,hll,s2,g1,g2]))
    | fail)
   ·have hb:x.goals=[]:=by simpa using hk0
    have hn0:Gl.mcnts x.goals=0:=by rw [hb];rfl
    rw [hb] at hnx ⊢
    refine hnx Bz _ ?_
    refine ⟨by simp [mkS],by simp [mkS,Gl.mrks,Tm.mrks,Tm.mcnts,show kk+1+1=kk+2 by omega],by simp [mkS,O.refsLt],?_⟩;simp [mkS,Abs.get,C.refsLtT,C.refsLt,C.refsLt1];omega
   ·obtain rfl:=zk4 zk hk1 hzk
    refine (hix (kk+1+1) 0 e' B3 (by omega) (by omega)).at1 rfl 1 rfl rfl ?_
    rintro c o' ⟨rfl,B4,ho⟩
    cases ho
    refine ⟨rfl,rfl,?_⟩
    simp only [go_sem,seval,C.at1]
    try simp (disch:=omega) only [wrap_ok]
    try simp only [go_sem,seval,C.at1]
    refine AW.rejoin 0 1 rfl rfl (by decide) (fun B5=>?_)
    simp only [go_sem,seval,g1,s2]
    refine hnx B5 _ ?_
    refine ⟨by simp [mkS],by simp [mkS,Gl.mrks,Tm.mrks,Tm.mcnts,show kk+1+1=kk+2 by omega],by simp [mkS,O.refsLt],?_⟩;simp [mkS,Abs.get,C.refsLtT,C.refsLt,C.refsLt1];omega
  ·obtain rfl:=zt4 zk hk1 hzk
   have e1:kk+1+1+(Tm.mcnts x.terms:Int)=kk+2+(Tm.mcnts x.terms:Int):=by omega
   have e2:kk+1+1=kk+2:=by omega
   refine (mTT_all x.terms (kk+1+1) 0 e' B3 (by omega) (by omega)).at1 rfl 1 rfl rfl ?_
   rintro c o' ⟨rfl,B4,ho⟩
   cases ho
   refine ⟨rfl,rfl,?_⟩
   simp only [go_sem,seval,C.at1,run.eq_1]
   refine AW.rejoin 0 1 rfl rfl (by decide) (fun B5=>?_)
   simp only [go_sem,seval,g1,s2]
   refine rS_ Tryz.func61 ?_
   simp only [go_sem,seval,hlt,hll,s2,g1,g2]
   repeat' (first
    | (refine lend_intro (fun hk0=>?_) (fun hk1 zk e' B2 B3 hzk=>?_)<;>(try simp only [go_sem,seval,hlt,hll,s2,g1,g2]))
    | (simp (disch:=omega) only [wrap_ok])
    | ((first
     | (refine (markGoalS_0 _).calls rfl ?_)
     | (refine ⟨sd,?_⟩))<;>(try simp only [go_sem,seval,hlt,hll,s2,g1,g2]))
    | fail)
   ·have hb:x.goals=[]:=by simpa using hk0
    have hn0:Gl.mcnts x.goals=0:=by rw [hb];rfl
    rw [hb] at hnx ⊢
    refine hnx B5 _ ?_
    refine ⟨by simp [mkS],by simp [mkS,Gl.mrks,Tm.mrks,e2],by simp [mkS,O.refsLt],?_⟩;simp [mkS,Abs.get,C.refsLtT,C.refsLt,C.refsLt1];omega
   ·obtain rfl:=zk4 zk hk1 hzk
    refine (hix (kk+1+1+(Tm.mcnts x.terms:Int)) 0 e' B3 (by omega) (by omega)).at1 rfl 2 rfl rfl ?_
    rintro c o' ⟨rfl,B4,ho⟩
    cases ho
    refine ⟨rfl,rfl,?_⟩
    simp only [go_sem,seval,C.at1]
    try simp (disch:=omega) only [wrap_ok]
    try simp only [go_sem,seval,C.at1]
    refine AW.rejoin 0 2 rfl rfl (by decide) (fun B5=>?_)
    simp only [go_sem,seval,g1,s2]
    refine hnx B5 _ ?_
    refine ⟨by simp [mkS],by simp [mkS,Gl.mrks,Tm.mrks,e2],by simp [mkS,O.refsLt],?_⟩;simp [mkS,Abs.get,C.refsLtT,C.refsLt,C.refsLt1];omega
 ·obtain rfl:i=l.length:=by omega
  refine rS_ Tryz.func61 ?_
  simp only [go_sem,seval,Gl.mrks_len,List.take_length,List.drop_length]
  repeat' (first
   | (exact ⟨_,rfl⟩)
   | fail)
theorem mGT_goals:∀t:Gl,mGT t.goals:=by
 intro t
 induction t using Gl.ind' with
 | h t ih=>exact markGoalS_T t.goals ih
theorem mGT_all (l:List Gl):mGT l:=markGoalS_T l (fun x _=>mGT_goals x)
theorem body_wt {t:Rl} (h:wtL t.enc≤1048576):wtL t.body.enc≤1048576:=by have:=Rl.wt_body t;omega
def toRT (t:Rl):Prop:=ACalls Tryz.prog 49 [.d (.agg t.enc)] [.hole,.hole] fun c H'=>c=.agg [.d (.str t.name),.d (.int .i64 t.arity),.d (.int .i64 t.locals),.d (.int .i64 t.body.kind),.d (.str t.body.name),.own 0 1,.own 1 1]∧∃e B e' B',H'=[.tree 1 4 e (t.body.terms.map Tm.enc) B none,.tree 1 4 e' (t.body.goals.map Gl.enc) B' none]
theorem toRel_T (t:Rl) (hw:wtL t.enc≤1048576):toRT t:=by
 unfold toRT
 have hg:=toGoal_T t.body (body_wt hw)
 unfold toGT at hg
 have hge:=Gl.enc_eq t.body
 refine aE_ Tryz.func49 ?_
 refine rS_ Tryz.func49 ?_
 simp only [go_sem,seval]
 repeat' (first
  | (exact ⟨_,_,_,_,rfl⟩)
  | ((refine ACalls.fresh (ds:=[.agg t.body.enc]) (m:=2) hg [0,1] rfl rfl (by simp) (by simp) ?_<;>(rintro c H' ⟨rfl,e1,B1,e2,B2,rfl⟩ _;refine ⟨rfl,rfl,?_⟩))<;>(try simp only [go_sem,seval]))
  | fail)
theorem toRelS_T (l:List Rl) (hw:wtR (l.map Rl.enc)≤1048576):ACalls Tryz.prog 25 [.d (.sl (l.map Rl.enc))] [.hole] (fun c H'=>c=.own 0 1∧∃e B,H'=[.tree 1 7 e (l.map Rl.enc) B none]):=by
 have hlen:l.length≤1048576:=by
  have:=sumW_le (l.map Rl.enc) 0;simp [sumW] at this;omega
 have hl:∀x,x∈l→toRT x:=fun x hx=>toRel_T x (by have:=wtL_lt (l.map Rl.enc) x.enc (List.mem_map.2 ⟨x,hx,rfl⟩);omega)
 have hmx:maxLen=9223372036854775807:=rfl
 refine aE_ Tryz.func25 ?_
 refine rS_ Tryz.func25 ?_
 simp only [go_sem,seval]
 repeat' (first
  | ((refine ⟨sd,?_⟩)<;>(try simp only [go_sem,seval]))
  | fail)
 refine AW.rowT 3 1 rfl rfl (by simp) (by decide) (fun x hx d hd=>by have e:=List.eq_of_mem_replicate hx;subst e;simp at hd;rcases hd with rfl | rfl | rfl | rfl | rfl | rfl | rfl<;>rfl) ?_
 refine AW.lp [0,3] (fun p:Nat×(Nat→Prop)=>[(4,.d (.int .i64 p.1))]) (fun _ p=>[.hole,.dead,.tree 0 7 54 ((l.map Rl.enc).take p.1++List.replicate ((l.map Rl.enc).length - p.1) [.str [],.int .i64 0,.int .i64 0,.int .i64 0,.str [],.sl [],.sl []]) p.2 none]) (fun p=>p.1≤l.length) (fun p=>l.length - p.1) (0,fun _=>False) (Nat.zero_le _) wk4_ ?_
 rintro ⟨i,B⟩ hi hnext
 dsimp only at hi hnext ⊢
 have hL:(l.map Rl.enc).length=l.length:=by simp
 by_cases h:i<l.length
 ·obtain ⟨x,hxi⟩:∃x,l[i]? = some x:=⟨_,a_ h⟩
  have hlt:(i:Int)<(l.length:Int):=by omega
  have hx:=hl x (List.mem_of_getElem? hxi)
  unfold toRT at hx
  have hxe:(l.map Rl.enc)[i]? = some x.enc:=by simp [hxi]
  have hrl:((l.map Rl.enc).take i++List.replicate ((l.map Rl.enc).length - i) [D.str [],.int .i64 0,.int .i64 0,.int .i64 0,.str [],.sl [],.sl []]).length=l.length:=by simp;omega
  have hrs:=row_step (z:=[D.str [],.int .i64 0,.int .i64 0,.int .i64 0,.str [],.sl [],.sl []]) (k:=7) hxe rfl
  generalize hr0:(l.map Rl.enc).take i++List.replicate ((l.map Rl.enc).length - i) [D.str [],.int .i64 0,.int .i64 0,.int .i64 0,.str [],.sl [],.sl []]=r0 at hrl hrs ⊢
  refine AW.hole ?_
  refine AW.hole ?_
  refine rS_ Tryz.func25 ?_
  simp only [go_sem,seval,hlt,idx_of hxi,hrl]
  repeat' (first
   | (simp (disch:=omega) only [wrap_ok])
   | ((first
    | (refine ACalls.fresh (ds:=[.agg x.enc]) (m:=2) hx [3,4] rfl rfl (by simp) (by simp) ?_<;>(rintro c H' ⟨rfl,e1,B1,e2,B2,rfl⟩ _;refine ⟨rfl,rfl,?_⟩))
    | (refine ⟨sd,?_⟩))<;>(try simp only [go_sem,seval,hrl,hlt]))
   | fail)
  intro B'
  rw [Rl.enc_eq x] at hrs
  simp only [d_,e_] at hrs
  rw [hrs]
  exact hnext (i+1,B') _ h (by omega) wk4_
 ·obtain rfl:i=l.length:=by omega
  have hfull:(l.map Rl.enc).take l.length++List.replicate ((l.map Rl.enc).length - l.length) [D.str [],.int .i64 0,.int .i64 0,.int .i64 0,.str [],.sl [],.sl []]=l.map Rl.enc:=by rw [←hL];exact row_all _ _
  rw [hfull]
  refine AW.place 3 2 0 rfl rfl rfl (by decide) ?_
  refine rS_ Tryz.func25 ?_
  simp only [go_sem,seval]
  simp [O.refsLt]
theorem toProgram_T (p:Pg) (hw:wtL p.enc≤1048576):ACalls Tryz.prog 7 [.d (.agg p.enc)] [.hole] (fun c H'=>c=.agg [.own 0 1]∧∃e B,H'=[.tree 1 7 e (p.rels.map Rl.enc) B none]):=by
 have hwr:wtR (p.rels.map Rl.enc)≤1048576:=by simpa only [Pg.enc_eq,wtL,D.wt,Nat.add_zero] using hw
 have ht:=toRelS_T p.rels hwr
 refine aE_ Tryz.func7 ?_
 refine rS_ Tryz.func7 ?_
 simp only [go_sem,seval]
 repeat' (first
  | (exact ⟨_,_,rfl⟩)
  | ((refine ACalls.fresh (ds:=[.sl (p.rels.map Rl.enc)]) (m:=1) ht [0] rfl rfl (by simp) (by simp) ?_<;>(rintro c H' ⟨rfl,e1,B1,rfl⟩ _;refine ⟨rfl,rfl,?_⟩))<;>(try simp only [go_sem,seval]))
  | fail)
theorem markRelS_T (l:List Rl) (k:Int) (q e:Nat) (B:Nat→Prop) (h0:0≤k) (h1:k+Rl.mcnts l≤1000000000) :
  ACalls Tryz.prog 36 [.own 0 q,.d (.int .i64 k)] [.tree q 7 e (l.map Rl.enc) B none] (fun c H'=>c=.d (.int .i64 (k+Rl.mcnts l))∧∃B',H'=[.tree q 7 e ((Rl.mrks k l).map Rl.enc) B' none]):=by
 have hlm:=Rl.len_mcnts l
 refine aE_ Tryz.func36 ?_
 refine rS_ Tryz.func36 ?_
 simp only [go_sem,seval]
 refine AW.lp [0] (fun p:Nat×(Nat→Prop)=>[(5,.d (.int .i64 p.1)),(1,.d (.int .i64 (k+Rl.mcnts (l.take p.1))))]) (fun _ p=>[.tree q 7 e ((Rl.mrks k (l.take p.1)++l.drop p.1).map Rl.enc) p.2 none]) (fun p=>p.1≤l.length) (fun p=>l.length - p.1) (0,B) (Nat.zero_le _) (by refine ⟨by simp [mkS],by simp [mkS,Rl.mrks],by simp [mkS,O.refsLt],?_⟩;simp [mkS,Abs.get,C.refsLtT,C.refsLt,C.refsLt1,Rl.mcnts]) ?_
 rintro ⟨i,B1⟩ hi hnext
 dsimp only at hi hnext ⊢
 by_cases h:i<l.length
 ·have hlt:(i:Int)<(l.length:Int):=by omega
  have hd:l.drop i=l[i] :: l.drop (i+1):=f_ h
  have hll:((Rl.mrks k (l.take i)).map Rl.enc++l[i].enc :: (l.drop (i+1)).map Rl.enc).length=l.length:=by simp [Rl.mrks_len];omega
  have hai:((Rl.mrks k (l.take i)).map Rl.enc).length=i:=by simp [Rl.mrks_len];omega
  have hnxt:l.take (i+1)=l.take i++[l[i]]:=by rw [List.take_add_one,a_ h];rfl
  have hcn:Rl.mcnts (l.take (i+1))=Rl.mcnts (l.take i)+l[i].mcnt:=by rw [hnxt,Rl.mcnts_app];simp [Rl.mcnts]
  have hcl:Rl.mcnts l=Rl.mcnts (l.take i)+(l[i].mcnt+Rl.mcnts (l.drop (i+1))):=by
   conv=>lhs;rw [←g_ i l,hd,Rl.mcnts_app]
   simp [Rl.mcnts]
  have hmr:Rl.mrks k (l.take (i+1))=Rl.mrks k (l.take i)++[l[i].mrk (k+Rl.mcnts (l.take i))]:=by rw [hnxt,Rl.mrks_app];simp [Rl.mrks]
  have hmc:l[i].mcnt=5+Tm.mcnts l[i].body.terms+Gl.mcnts l[i].body.goals:=rfl
  rw [hd,b_,c_]
  have hnx:=fun B' s'=>hnext (i+1,B') s' h (by dsimp only;omega)
  clear hnext
  simp only [hmr,hcn,b_,c_,List.map_nil] at hnx
  generalize hx:l[i]=x at *
  generalize hA:(Rl.mrks k (l.take i)).map Rl.enc=A at *
  generalize hZ:(l.drop (i+1)).map Rl.enc=Z at *
  generalize hk:k+(Rl.mcnts (l.take i):Int)=kk at *
  have s1:=fun (y:List D)=>set_split (x:=x.enc) (y:=y) (r:=Z) hai
  have s2:=fun (y y':List D)=>set_split (x:=y) (y:=y') (r:=Z) hai
  have g1:=fun (y:List D)=>at_split (x:=y) (r:=Z) hai
  have xe:=Rl.enc_eq x
  rw [xe] at hll ⊢
  have zk4:∀zk:Nat,x.body.goals.map Gl.enc≠[]→(∀j,j∈x.body.goals→4=zk)→zk=4:=fun zk hne hz=>by
   cases ha:x.body.goals with
   | nil=>simp [ha] at hne
   | cons a r=>exact (hz a (by simp [ha])).symm
  have zt4:∀zk:Nat,x.body.terms.map Tm.enc≠[]→(∀j,j∈x.body.terms→4=zk)→zk=4:=fun zk hne hz=>by
   cases ha:x.body.terms with
   | nil=>simp [ha] at hne
   | cons a r=>exact (hz a (by simp [ha])).symm
  have hrow:(x.mrk kk).enc=[.str (mText kk),.int .i64 (kk+1),.int .i64 (kk+1+1),.int .i64 (kk+1+1+1),.str (mText (kk+1+1+1+1)),.sl ((Tm.mrks (kk+1+1+1+1+1) x.body.terms).map Tm.enc),.sl ((Gl.mrks (kk+1+1+1+1+1+Tm.mcnts x.body.terms) x.body.goals).map Gl.enc)]:=by
   rw [Rl.enc_eq,show kk+1+1=kk+2 by omega,show kk+2+1=kk+3 by omega,show kk+3+1=kk+4 by omega,show kk+4+1=kk+5 by omega];rfl
  simp only [hrow,List.append_assoc,d_,e_] at hnx
  have g2:=fun (y:List D) (Q:List D→Prop)=>idx_of (g1 y) Q
  refine run_sound Tryz.func36 mixed 29 _ _ (by kernel_rfl) ?_
  simp only [go_sem,seval,run.eq_1,hlt,hll,s2,g1,g2]
  repeat' (first
   | (refine lend_intro (fun hk0=>?_) (fun hk1 zk e' B2 B3 hzk=>?_)<;>(try simp only [go_sem,seval,hlt,hll,s2,g1,g2,run.eq_1]))
   | (simp (disch:=omega) only [wrap_ok])
   | ((first
    | (refine all_intro (fun Bz=>?_))
    | (refine (markTermS_0 _).calls rfl ?_)
    | (refine (markText_fn _ sd sd).calls rfl ?_)
    | (refine ⟨sd,?_⟩))<;>(try simp only [go_sem,seval,hlt,hll,s2,g1,g2,run.eq_1]))
   | fail)
  ·have ha:x.body.terms=[]:=by simpa using hk0
   rw [ha] at hnx hmc ⊢
   refine rS_ Tryz.func36 ?_
   simp only [go_sem,seval,hlt,hll,s2,g1,g2]
   repeat' (first
    | (refine lend_intro (fun hk0=>?_) (fun hk1 zk e' B2 B3 hzk=>?_)<;>(try simp only [go_sem,seval,hlt,hll,s2,g1,g2]))
    | (simp (disch:=omega) only [wrap_ok])
    | ((first
     | (refine (markGoalS_0 _).calls rfl ?_)
     | (refine ⟨sd,?_⟩))<;>(try simp only [go_sem,seval,hlt,hll,s2,g1,g2]))
    | fail)
   ·have hb:x.body.goals=[]:=by simpa using hk0
    rw [hb] at hnx hmc ⊢
    simp only [Tm.mcnts,Gl.mcnts] at hmc
    refine hnx Bz _ ?_
    refine ⟨by simp [mkS],by simp [mkS,Gl.mrks,Tm.mrks,Tm.mcnts],by simp [mkS,O.refsLt],?_⟩;simp [mkS,Abs.get,C.refsLtT,C.refsLt,C.refsLt1];omega
   ·obtain rfl:=zk4 zk hk1 hzk
    simp only [Tm.mcnts] at hmc
    refine (mGT_all x.body.goals (kk+1+1+1+1+1) 0 e' B3 (by omega) (by omega)).at1 rfl 1 rfl rfl ?_
    rintro c o' ⟨rfl,B4,ho⟩
    cases ho
    refine ⟨rfl,rfl,?_⟩
    simp only [go_sem,seval,C.at1]
    try simp (disch:=omega) only [wrap_ok]
    try simp only [go_sem,seval,C.at1]
    refine AW.rejoin 0 1 rfl rfl (by decide) (fun B5=>?_)
    simp only [go_sem,seval,g1,s2]
    refine hnx B5 _ ?_
    refine ⟨by simp [mkS],by simp [mkS,Gl.mrks,Tm.mrks,Tm.mcnts],by simp [mkS,O.refsLt],?_⟩;simp [mkS,Abs.get,C.refsLtT,C.refsLt,C.refsLt1];omega
  ·obtain rfl:=zt4 zk hk1 hzk
   refine (mTT_all x.body.terms (kk+1+1+1+1+1) 0 e' B3 (by omega) (by omega)).at1 rfl 1 rfl rfl ?_
   rintro c o' ⟨rfl,B4,ho⟩
   cases ho
   refine ⟨rfl,rfl,?_⟩
   simp only [go_sem,seval,C.at1,run.eq_1]
   refine AW.rejoin 0 1 rfl rfl (by decide) (fun B5=>?_)
   simp only [go_sem,seval,g1,s2]
   refine rS_ Tryz.func36 ?_
   simp only [go_sem,seval,hlt,hll,s2,g1,g2]
   repeat' (first
    | (refine lend_intro (fun hk0=>?_) (fun hk1 zk e' B2 B3 hzk=>?_)<;>(try simp only [go_sem,seval,hlt,hll,s2,g1,g2]))
    | (simp (disch:=omega) only [wrap_ok])
    | ((first
     | (refine (markGoalS_0 _).calls rfl ?_)
     | (refine ⟨sd,?_⟩))<;>(try simp only [go_sem,seval,hlt,hll,s2,g1,g2]))
    | fail)
   ·have hb:x.body.goals=[]:=by simpa using hk0
    rw [hb] at hnx hmc ⊢
    simp only [Gl.mcnts] at hmc
    refine hnx B5 _ ?_
    refine ⟨by simp [mkS],by simp [mkS,Gl.mrks,Tm.mrks,Tm.mcnts],by simp [mkS,O.refsLt],?_⟩;simp [mkS,Abs.get,C.refsLtT,C.refsLt,C.refsLt1];omega
   ·obtain rfl:=zk4 zk hk1 hzk
    refine (mGT_all x.body.goals (kk+1+1+1+1+1+(Tm.mcnts x.body.terms:Int)) 0 e' B3 (by omega) (by omega)).at1 rfl 2 rfl rfl ?_
    rintro c o' ⟨rfl,B4,ho⟩
    cases ho
    refine ⟨rfl,rfl,?_⟩
    simp only [go_sem,seval,C.at1]
    try simp (disch:=omega) only [wrap_ok]
    try simp only [go_sem,seval,C.at1]
    refine AW.rejoin 0 2 rfl rfl (by decide) (fun B5=>?_)
    simp only [go_sem,seval,g1,s2]
    refine hnx B5 _ ?_
    refine ⟨by simp [mkS],by simp [mkS,Gl.mrks,Tm.mrks,Tm.mcnts],by simp [mkS,O.refsLt],?_⟩;simp [mkS,Abs.get,C.refsLtT,C.refsLt,C.refsLt1];omega
 ·obtain rfl:i=l.length:=by omega
  refine rS_ Tryz.func36 ?_
  simp only [go_sem,seval,Rl.mrks_len,List.take_length,List.drop_length]
  repeat' (first
   | (exact ⟨_,rfl⟩)
   | fail)
theorem markProgram_T (p:Pg) (k:Int) (q e:Nat) (B:Nat→Prop) (h0:0≤k) (h1:k+Rl.mcnts p.rels≤1000000000) :
  ACalls Tryz.prog 13 [.agg [.own 0 q],.d (.int .i64 k)] [.tree q 7 e (p.rels.map Rl.enc) B none] (fun c H'=>c=.d (.int .i64 (k+Rl.mcnts p.rels))∧∃B',H'=[.tree q 7 e ((Rl.mrks k p.rels).map Rl.enc) B' none]):=by
 refine aE_ Tryz.func13 ?_
 refine rS_ Tryz.func13 ?_
 simp only [go_sem,seval]
 repeat' (first
  | (exact ⟨_,rfl⟩)
  | ((refine (markRelS_T p.rels k q e B (by omega) (by omega)).at1 rfl 0 rfl rfl ?_<;>(rintro c o' ⟨rfl,B4,ho⟩;cases ho;refine ⟨rfl,rfl,?_⟩))<;>(try simp only [go_sem,seval,C.at1]))
  | fail)
end Go.Proofs.YtehkgphockcjdaaGreat
