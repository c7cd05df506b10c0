import Derived.Test.YtancdeoodnpimaaGreatDoorJ16
open Nat renaming lt_succ_self->a_
open List renaming getElem?_eq_getElem->b_
namespace Go.Proofs.YtancdeoodnpimaaGreatDoor
open Go.Abs
set_option maxRecDepth 100000
set_option maxHeartbeats 4000000
set_option linter.unusedSimpArgs false
set_option linter.unusedVariables false
theorem bL1 {t:Rl} (h:wtL t.enc<=1048576):wtL t.body.enc<=1048576:=by have:=Rl.wt_body t;omega
def bW2 (t:Rl):Prop:=ACalls Tryz.prog 53 [.d (.agg t.enc)] [.hole,.hole] fun c H'=>c=.agg [.d (.str t.name),.d (.int .i64 t.arity),.d (.int .i64 t.locals),.d (.int .i64 t.body.kind),.d (.str t.body.name),.own 0 1,.own 1 1]/\∃e B e' B',H'=[.tree 1 4 e (t.body.terms.map Tm.enc) B none,.tree 1 4 e' (t.body.goals.map Gl.enc) B' none]
theorem bF6 (t:Rl) (hw:wtL t.enc<=1048576):bW2 t:=by
 unfold bW2;have hg:=bu4 t.body (bL1 hw);unfold bW3 at hg;have hge:=Gl.enc_eq t.body;refine aE_ Tryz.func53 ?_;refine rS_ Tryz.func53 ?_;simp only [go_sem,seval]
 repeat' (first
  | (exact ⟨_,_,_,_,rfl⟩)
  | ((refine ACalls.fresh (ds:=[.agg t.body.enc]) (m:=2) hg [0,1] rfl rfl (by simp) (by simp) ?_<;>(rintro c H' ⟨rfl,e1,B1,e2,B2,rfl⟩ _;refine ⟨rfl,rfl,?_⟩))<;>(try simp only [go_sem,seval]))
  | fail)
theorem bu3 (l:List Rl) (hw:wtR (l.map Rl.enc)<=1048576):ACalls Tryz.prog 26 [.d (.sl (l.map Rl.enc))] [.hole] (fun c H'=>c=.own 0 1/\∃e B,H'=[.tree 1 7 e (l.map Rl.enc) B none]):=by
 have hlen:l.length<=1048576:=by
  have:=D9 (l.map Rl.enc) 0;simp [Y7] at this;omega
 have hl:∀x,x∈l->bW2 x:=fun x hx=>bF6 x (by have:=G7 (l.map Rl.enc) x.enc (List.mem_map.2 ⟨x,hx,rfl⟩);omega);have hmx:maxLen=9223372036854775807:=rfl;refine aE_ Tryz.func26 ?_;refine rS_ Tryz.func26 ?_;simp only [go_sem,seval]
 repeat' (first
  | ((refine ⟨sd,?_⟩)<;>(try simp only [go_sem,seval]))
  | fail)
 refine AW.rowT 3 1 rfl rfl (by simp) (by decide) (fun x hx d hd=>by have e:=List.eq_of_mem_replicate hx;subst e;simp at hd;rcases hd with rfl | rfl | rfl | rfl | rfl | rfl | rfl<;>rfl) ?_;refine AW.lp [0,3] (fun p:Nat×(Nat->Prop)=>[(4,.d (.int .i64 p.1))]) (fun _ p=>[.hole,.dead,.tree 0 7 97 ((l.map Rl.enc).take p.1++List.replicate ((l.map Rl.enc).length - p.1) [.str [],.int .i64 0,.int .i64 0,.int .i64 0,.str [],.sl [],.sl []]) p.2 none]) (fun p=>p.1<=l.length) (fun p=>l.length - p.1) (0,fun _=>False) (Nat.zero_le _) bE4 ?_;rintro ⟨i,B⟩ hi hnext;dsimp only at hi hnext |-;have hL:(l.map Rl.enc).length=l.length:=by simp
 by_cases h:i<l.length
 ·obtain ⟨x,hxi⟩:∃x,l[i]? = some x:=⟨_,b_ h⟩
  have hlt:(i:Int)<(l.length:Int):=by omega
  have hx:=hl x (List.mem_of_getElem? hxi);unfold bW2 at hx;have hxe:(l.map Rl.enc)[i]? = some x.enc:=by simp [hxi]
  have hrl:((l.map Rl.enc).take i++List.replicate ((l.map Rl.enc).length - i) [D.str [],.int .i64 0,.int .i64 0,.int .i64 0,.str [],.sl [],.sl []]).length=l.length:=by simp;omega
  have hrs:=row_step (z:=[D.str [],.int .i64 0,.int .i64 0,.int .i64 0,.str [],.sl [],.sl []]) (k:=7) hxe rfl;generalize hr0:(l.map Rl.enc).take i++List.replicate ((l.map Rl.enc).length - i) [D.str [],.int .i64 0,.int .i64 0,.int .i64 0,.str [],.sl [],.sl []]=r0 at hrl hrs |-;refine AW.hole ?_;refine AW.hole ?_;refine rS_ Tryz.func26 ?_;simp only [go_sem,seval,hlt,j5 hxi,hrl]
  repeat' (first
   | (simp (disch:=omega) only [j6])
   | ((first
    | (refine ACalls.fresh (ds:=[.agg x.enc]) (m:=2) hx [3,4] rfl rfl (by simp) (by simp) ?_<;>(rintro c H' ⟨rfl,e1,B1,e2,B2,rfl⟩ _;refine ⟨rfl,rfl,?_⟩))
    | (refine ⟨sd,?_⟩))<;>(try simp only [go_sem,seval,hrl,hlt]))
   | fail)
  intro B';rw [Rl.enc_eq x] at hrs;simp only [List.cons_append,List.nil_append] at hrs;rw [hrs];exact hnext (i+1,B') _ h (by omega) bE4
 ·obtain rfl:i=l.length:=by omega
  have hfull:(l.map Rl.enc).take l.length++List.replicate ((l.map Rl.enc).length - l.length) [D.str [],.int .i64 0,.int .i64 0,.int .i64 0,.str [],.sl [],.sl []]=l.map Rl.enc:=by rw [<-hL];exact aj9 _ _
  rw [hfull];refine AW.place 3 2 0 rfl rfl rfl (by decide) ?_;refine rS_ Tryz.func26 ?_;simp only [go_sem,seval];simp [O.refsLt]
theorem aO3 (p:Pg) (hw:wtL p.enc<=1048576):ACalls Tryz.prog 8 [.d (.agg p.enc)] [.hole] (fun c H'=>c=.agg [.own 0 1]/\∃e B,H'=[.tree 1 7 e (p.rels.map Rl.enc) B none]):=by
 have hwr:wtR (p.rels.map Rl.enc)<=1048576:=by simpa only [Pg.enc_eq,wtL,D.wt,Nat.add_zero] using hw
 have ht:=bu3 p.rels hwr;refine aE_ Tryz.func8 ?_;refine rS_ Tryz.func8 ?_;simp only [go_sem,seval]
 repeat' (first
  | (exact ⟨_,_,rfl⟩)
  | ((refine ACalls.fresh (ds:=[.sl (p.rels.map Rl.enc)]) (m:=1) ht [0] rfl rfl (by simp) (by simp) ?_<;>(rintro c H' ⟨rfl,e1,B1,rfl⟩ _;refine ⟨rfl,rfl,?_⟩))<;>(try simp only [go_sem,seval]))
  | fail)
theorem bc6 (l:List Rl) (k:Int) (q e:Nat) (B:Nat->Prop) (h0:0<=k) (h1:k+Rl.mcnts l<=1000000000) :
  ACalls Tryz.prog 37 [.own 0 q,.d (.int .i64 k)] [.tree q 7 e (l.map Rl.enc) B none] (fun c H'=>c=.d (.int .i64 (k+Rl.mcnts l))/\∃B',H'=[.tree q 7 e ((Rl.mrks k l).map Rl.enc) B' none]):=by
 have hlm:=Rl.len_mcnts l;refine aE_ Tryz.func37 ?_;refine rS_ Tryz.func37 ?_;simp only [go_sem,seval];refine AW.lp [0] (fun p:Nat×(Nat->Prop)=>[(5,.d (.int .i64 p.1)),(1,.d (.int .i64 (k+Rl.mcnts (l.take p.1))))]) (fun _ p=>[.tree q 7 e ((Rl.mrks k (l.take p.1)++l.drop p.1).map Rl.enc) p.2 none]) (fun p=>p.1<=l.length) (fun p=>l.length - p.1) (0,B) (Nat.zero_le _) (by refine ⟨by simp [mkS],by simp [mkS,Rl.mrks],by simp [mkS,O.refsLt],?_⟩;simp [mkS,Abs.get,C.refsLtT,C.refsLt,C.refsLt1,Rl.mcnts]) ?_;rintro ⟨i,B1⟩ hi hnext;dsimp only at hi hnext |-;by_cases h:i<l.length
 ·have hlt:(i:Int)<(l.length:Int):=by omega
  have hd:l.drop i=l[i] :: l.drop (i+1):=List.drop_eq_getElem_cons h;have hll:((Rl.mrks k (l.take i)).map Rl.enc++l[i].enc :: (l.drop (i+1)).map Rl.enc).length=l.length:=by simp [Rl.mrks_len];omega
  have hai:((Rl.mrks k (l.take i)).map Rl.enc).length=i:=by simp [Rl.mrks_len];omega
  have hnxt:l.take (i+1)=l.take i++[l[i]]:=by rw [List.take_add_one,b_ h];rfl
  have hcn:Rl.mcnts (l.take (i+1))=Rl.mcnts (l.take i)+l[i].mcnt:=by rw [hnxt,Rl.mcnts_app];simp [Rl.mcnts]
  have hcl:Rl.mcnts l=Rl.mcnts (l.take i)+(l[i].mcnt+Rl.mcnts (l.drop (i+1))):=by
   conv=>lhs;rw [<-List.take_append_drop i l,hd,Rl.mcnts_app]
   simp [Rl.mcnts]
  have hmr:Rl.mrks k (l.take (i+1))=Rl.mrks k (l.take i)++[l[i].mrk (k+Rl.mcnts (l.take i))]:=by rw [hnxt,Rl.mrks_app];simp [Rl.mrks]
  have hmc:l[i].mcnt=5+Tm.mcnts l[i].body.terms+Gl.mcnts l[i].body.goals:=rfl;rw [hd,List.map_append,List.map_cons];have hnx:=fun B' s'=>hnext (i+1,B') s' h (by dsimp only;omega);clear hnext;simp only [hmr,hcn,List.map_append,List.map_cons,List.map_nil] at hnx;generalize hx:l[i]=x at *;generalize hA:(Rl.mrks k (l.take i)).map Rl.enc=A at *;generalize hZ:(l.drop (i+1)).map Rl.enc=Z at *;generalize hk:k+(Rl.mcnts (l.take i):Int)=kk at *;have s1:=fun (y:List D)=>N8 (x:=x.enc) (y:=y) (r:=Z) hai;have s2:=fun (y y':List D)=>N8 (x:=y) (y:=y') (r:=Z) hai;have g1:=fun (y:List D)=>ap7 (x:=y) (r:=Z) hai;have xe:=Rl.enc_eq x;rw [xe] at hll |-;have zk4:∀zk:Nat,x.body.goals.map Gl.enc≠[]->(∀j,j∈x.body.goals->4=zk)->zk=4:=fun zk hne hz=>by
   cases ha:x.body.goals with
   | nil=>simp [ha] at hne
   | cons a r=>exact (hz a (by simp [ha])).symm
  have zt4:∀zk:Nat,x.body.terms.map Tm.enc≠[]->(∀j,j∈x.body.terms->4=zk)->zk=4:=fun zk hne hz=>by
   cases ha:x.body.terms with
   | nil=>simp [ha] at hne
   | cons a r=>exact (hz a (by simp [ha])).symm
  have hrow:(x.mrk kk).enc=[.str (T9 kk),.int .i64 (kk+1),.int .i64 (kk+1+1),.int .i64 (kk+1+1+1),.str (T9 (kk+1+1+1+1)),.sl ((Tm.mrks (kk+1+1+1+1+1) x.body.terms).map Tm.enc),.sl ((Gl.mrks (kk+1+1+1+1+1+Tm.mcnts x.body.terms) x.body.goals).map Gl.enc)]:=by
   rw [Rl.enc_eq,show kk+1+1=kk+2 by omega,show kk+2+1=kk+3 by omega,show kk+3+1=kk+4 by omega,show kk+4+1=kk+5 by omega];rfl
  simp only [hrow,List.append_assoc,List.cons_append,List.nil_append] at hnx;have g2:=fun (y:List D) (Q:List D->Prop)=>j5 (g1 y) Q;refine l7 Tryz.func37 mixed 29 _ _ (by kernel_rfl) ?_;simp only [go_sem,seval,run.eq_1,hlt,hll,s2,g1,g2]
  repeat' (first
   | (refine H6 (fun hk0=>?_) (fun hk1 zk e' B2 B3 hzk=>?_)<;>(try simp only [go_sem,seval,hlt,hll,s2,g1,g2,run.eq_1]))
   | (simp (disch:=omega) only [j6])
   | ((first
    | (refine E9 (fun Bz=>?_))
    | (refine (Q8 _).calls rfl ?_)
    | (refine (M4 _ sd sd).calls rfl ?_)
    | (refine ⟨sd,?_⟩))<;>(try simp only [go_sem,seval,hlt,hll,s2,g1,g2,run.eq_1]))
   | fail)
  ·have ha:x.body.terms=[]:=by simpa using hk0
   rw [ha] at hnx hmc |-;refine rS_ Tryz.func37 ?_;simp only [go_sem,seval,hlt,hll,s2,g1,g2]
   repeat' (first
    | (refine H6 (fun hk0=>?_) (fun hk1 zk e' B2 B3 hzk=>?_)<;>(try simp only [go_sem,seval,hlt,hll,s2,g1,g2]))
    | (simp (disch:=omega) only [j6])
    | ((first
     | (refine (Z7 _).calls rfl ?_)
     | (refine ⟨sd,?_⟩))<;>(try simp only [go_sem,seval,hlt,hll,s2,g1,g2]))
    | fail)
   ·have hb:x.body.goals=[]:=by simpa using hk0
    rw [hb] at hnx hmc |-;simp only [Tm.mcnts,Gl.mcnts] at hmc;refine hnx Bz _ ?_;refine ⟨by simp [mkS],by simp [mkS,Gl.mrks,Tm.mrks,Tm.mcnts],by simp [mkS,O.refsLt],?_⟩;simp [mkS,Abs.get,C.refsLtT,C.refsLt,C.refsLt1];omega
   ·obtain rfl:=zk4 zk hk1 hzk
    simp only [Tm.mcnts] at hmc;refine (bn2 x.body.goals (kk+1+1+1+1+1) 0 e' B3 (by omega) (by omega)).at1 rfl 1 rfl rfl ?_;rintro c o' ⟨rfl,B4,ho⟩;cases ho;refine ⟨rfl,rfl,?_⟩;simp only [go_sem,seval,C.at1];try simp (disch:=omega) only [j6]
    try simp only [go_sem,seval,C.at1]
    refine AW.rejoin 0 1 rfl rfl (by decide) (fun B5=>?_);simp only [go_sem,seval,g1,s2];refine hnx B5 _ ?_;refine ⟨by simp [mkS],by simp [mkS,Gl.mrks,Tm.mrks,Tm.mcnts],by simp [mkS,O.refsLt],?_⟩;simp [mkS,Abs.get,C.refsLtT,C.refsLt,C.refsLt1];omega
  ·obtain rfl:=zt4 zk hk1 hzk
   refine (ak6 x.body.terms (kk+1+1+1+1+1) 0 e' B3 (by omega) (by omega)).at1 rfl 1 rfl rfl ?_;rintro c o' ⟨rfl,B4,ho⟩;cases ho;refine ⟨rfl,rfl,?_⟩;simp only [go_sem,seval,C.at1,run.eq_1];refine AW.rejoin 0 1 rfl rfl (by decide) (fun B5=>?_);simp only [go_sem,seval,g1,s2];refine rS_ Tryz.func37 ?_;simp only [go_sem,seval,hlt,hll,s2,g1,g2]
   repeat' (first
    | (refine H6 (fun hk0=>?_) (fun hk1 zk e' B2 B3 hzk=>?_)<;>(try simp only [go_sem,seval,hlt,hll,s2,g1,g2]))
    | (simp (disch:=omega) only [j6])
    | ((first
     | (refine (Z7 _).calls rfl ?_)
     | (refine ⟨sd,?_⟩))<;>(try simp only [go_sem,seval,hlt,hll,s2,g1,g2]))
    | fail)
   ·have hb:x.body.goals=[]:=by simpa using hk0
    rw [hb] at hnx hmc |-;simp only [Gl.mcnts] at hmc;refine hnx B5 _ ?_;refine ⟨by simp [mkS],by simp [mkS,Gl.mrks,Tm.mrks,Tm.mcnts],by simp [mkS,O.refsLt],?_⟩;simp [mkS,Abs.get,C.refsLtT,C.refsLt,C.refsLt1];omega
   ·obtain rfl:=zk4 zk hk1 hzk
    refine (bn2 x.body.goals (kk+1+1+1+1+1+(Tm.mcnts x.body.terms:Int)) 0 e' B3 (by omega) (by omega)).at1 rfl 2 rfl rfl ?_;rintro c o' ⟨rfl,B4,ho⟩;cases ho;refine ⟨rfl,rfl,?_⟩;simp only [go_sem,seval,C.at1];try simp (disch:=omega) only [j6]
    try simp only [go_sem,seval,C.at1]
    refine AW.rejoin 0 2 rfl rfl (by decide) (fun B5=>?_);simp only [go_sem,seval,g1,s2];refine hnx B5 _ ?_;refine ⟨by simp [mkS],by simp [mkS,Gl.mrks,Tm.mrks,Tm.mcnts],by simp [mkS,O.refsLt],?_⟩;simp [mkS,Abs.get,C.refsLtT,C.refsLt,C.refsLt1];omega
 ·obtain rfl:i=l.length:=by omega
  refine rS_ Tryz.func37 ?_;simp only [go_sem,seval,Rl.mrks_len,List.take_length,List.drop_length]
  repeat' (first
   | (exact ⟨_,rfl⟩)
   | fail)
theorem aE5 (p:Pg) (k:Int) (q e:Nat) (B:Nat->Prop) (h0:0<=k) (h1:k+Rl.mcnts p.rels<=1000000000) :
  ACalls Tryz.prog 16 [.agg [.own 0 q],.d (.int .i64 k)] [.tree q 7 e (p.rels.map Rl.enc) B none] (fun c H'=>c=.d (.int .i64 (k+Rl.mcnts p.rels))/\∃B',H'=[.tree q 7 e ((Rl.mrks k p.rels).map Rl.enc) B' none]):=by
 refine aE_ Tryz.func16 ?_;refine rS_ Tryz.func16 ?_;simp only [go_sem,seval]
 repeat' (first
  | (exact ⟨_,rfl⟩)
  | ((refine (bc6 p.rels k q e B (by omega) (by omega)).at1 rfl 0 rfl rfl ?_<;>(rintro c o' ⟨rfl,B4,ho⟩;cases ho;refine ⟨rfl,rfl,?_⟩))<;>(try simp only [go_sem,seval,C.at1]))
  | fail)
theorem cz2 {P:Program} {f:FuncId} {args:List C} {H X:List O} {ds:List D} {b:D} (h:ACalls P f args H fun c H'=>c=.tup [.d (.agg ds),.d b]/\H'=X):ACalls P f args H fun c H'=>c=.tup [.agg (ds.map .d),.d b]/\H'=X:=fun E vs hE hs ha=>(h E vs hE hs ha).mono fun _ _ ⟨v,c,E',H',h1,h2,h3,h4,h5,h6,h7,h8⟩=>by
 subst h7;refine ⟨v,_,E',H',h1,h2,h3,h4,?_,h6,rfl,h8⟩;cases h5 with
 | tup _ us hl hr =>
  refine .tup _ us hl (fun i c w hi hw=>?_);match i with
  | 0 =>
   obtain rfl:=Option.some.inj hi;cases hr 0 _ w rfl hw with
   | d _ _ hd =>
    cases hd with
    | agg _ ws k1 k2 k3 =>
     refine .agg _ ws (by rw [k1,List.length_map]) k2 (fun j c u hj hu=>?_);rw [List.getElem?_map] at hj;obtain ⟨d,hd,rfl⟩:=Option.map_eq_some_iff.1 hj;exact .d _ _ (k3 j d u hd hu)
  | i+1=>exact hr (i+1) c w hi hw
theorem aQ1 (k:Int):Gives Tryz.prog 19 [.agg [.str [],.int .i64 0,.sl [],.sl []],.int .i64 k] (.d (.int .i64 k)):=by
 refine aE_ Tryz.func19 ?_;refine rS_ Tryz.func19 ?_;simp only [go_sem,seval]
 repeat' (first
  | ((first
   | (refine (Q8 _).calls rfl ?_)
   | (refine (ab7 _).calls rfl ?_))<;>(try simp only [go_sem,seval]))
  | fail)
theorem bm9 (r:List UInt8) (l:List Tm) (k:Int) (q e:Nat) (B:Nat->Prop) (h0:0<=k) (h1:k+Tm.mcnts l<=1000000000000):ACalls Tryz.prog 18 [.agg [.d (.str r),.own 0 q],.d (.int .i64 k)] [.tree q 4 e (l.map Tm.enc) B none] (fun c H'=>c=.d (.int .i64 (k+Tm.mcnts l))/\∃B',H'=[.tree q 4 e ((Tm.mrks k l).map Tm.enc) B' none]):=by
 have h:=ak6 l k q e B h0 h1;refine aE_ Tryz.func18 ?_;refine rS_ Tryz.func18 ?_;simp only [go_sem,seval]
 repeat' (first
  | (exact ⟨_,rfl⟩)
  | ((refine h.at1 rfl 0 rfl rfl ?_<;>(rintro c o' ⟨rfl,B4,ho⟩;cases ho;refine ⟨rfl,rfl,?_⟩))<;>(try simp only [go_sem,seval,C.at1]))
  | fail)
theorem at7 (a0:Pg) (a1:List Tm) (a2:Fc) (ha0:Sh Tryz.prog 24 (a0.enc)) (ha1:Sh Tryz.prog 25 [.sl (a1.map Tm.enc)]) (ha2:Sh Tryz.prog 27 (a2.enc)):ACalls Tryz.prog 3 [.d (.agg a0.enc),.d (.sl (a1.map Tm.enc)),.d (.agg a2.enc)] [ae1] (fun c H'=>c=.d (.bool true)/\H'=[ae1]):=by
 have hsza0:=ci1 _ a0.enc (a_ _) ha0;have htoa0:=fun hb=>ch5 _ a0.enc (a_ _) hb ha0;have heqa0:=ck9 _ a0.enc (a_ _) ha0;have hesa1:=shS (by kernel_rfl:leaves Tryz.prog 6 25=some [.sl 57]) ha1;have hsza1:=bG0 _ hesa1.1 hesa1.2;have htoa1:=fun hb=>bF5 _ hb hesa1.2;have heqa1:=bK2 _ hesa1.1 hesa1.2;have hsza2:=ci0 _ a2.enc (a_ _) ha2;have htoa2:=fun hb=>ch4 _ a2.enc (a_ _) hb ha2;have heqa2:=ck8 _ a2.enc (a_ _) ha2;refine aE_ Tryz.func3 ?_;refine AW.hole ?_;refine AW.hole ?_;refine AW.hole ?_;refine AW.hole ?_;refine AW.hole ?_;refine AW.hole ?_;refine AW.hole ?_;refine l7 Tryz.func3 mixed 26 _ _ (by kernel_rfl) ?_;simp only [go_sem,seval,run.eq_1];refine (hsza0 _ (by omega) (by omega)).calls rfl ?_;simp only [go_sem,seval];refine y7 (fun hq=>?_) (fun hq=>?_)
 ·simp only [go_sem,seval]
 simp only [decide_eq_false_iff_not] at hq;have hwa0:=aa3 hq;rw [F4 hwa0];clear hq;simp only [go_sem,seval];refine (hsza1 _ (by omega) (by omega)).calls rfl ?_;simp only [go_sem,seval];refine y7 (fun hq=>?_) (fun hq=>?_)
 ·simp only [go_sem,seval]
 simp only [decide_eq_false_iff_not] at hq;have hwa1:=aa3 hq;rw [F4 hwa1];clear hq;simp only [go_sem,seval];refine (hsza2 _ (by omega) (by omega)).calls rfl ?_;simp only [go_sem,seval];refine y7 (fun hq=>?_) (fun hq=>?_)
 ·simp only [go_sem,seval]
  simp only [run.eq_1];refine rS_ Tryz.func3 ?_;simp only [go_sem,seval]
 simp only [decide_eq_false_iff_not] at hq;have hwa2:=aa3 hq;rw [F4 hwa2];clear hq;simp only [go_sem,seval];have hmx:maxLen=9223372036854775807:=rfl;have hwp:wtL a0.enc<=1048576:=by omega
 have hwu:wtR (a1.map Tm.enc)<=1048576:=by omega
 have hwf:wtL a2.enc<=1048576:=by omega
 have hwr:wtR (a0.rels.map Rl.enc)<=1048576:=by
  simpa only [Pg.enc_eq,wtL,D.wt,Nat.add_zero] using hwp
 have hwa:wtR (a2.args.map Tm.enc)<=1048576:=by
  have h:=hwf;rw [Fc.enc_eq] at h;simp only [wtL,D.wt] at h;omega
 have hx:=aO3 a0 hwp;have hy:=ag6 a1 hwu (fun x hx=>aC8 x (Nat.le_trans (aC3 (List.mem_map.2 ⟨x,hx,rfl⟩)) hwu));have hz:=bu5 a2 hwf;unfold bF7 at hz;have hg:=by7 a0 a1 a2 hwp hwu hwf;have hw0:=bk3 a0 a1 a2 hwp hwu hwf;have hmR:=Rl.mcnts_wt a0.rels;have hmT:=Tm.mcnts_wt a1;have hmA:=Tm.mcnts_wt a2.args;have hmk0:=aE5 a0 1;have hmk1:=ak6 a1 (1+Rl.mcnts a0.rels);have hmk2:=bm9 a2.rel a2.args (1+Rl.mcnts a0.rels+Tm.mcnts a1);have hbf:∀e1 B1 e2 B2 e3 B3 X,R8 (ae1 :: .tree 1 7 e1 (a0.rels.map Rl.enc) B1 none :: .tree 1 4 e2 (a1.map Tm.enc) B2 none :: .tree 1 4 e3 (a2.args.map Tm.enc) B3 none :: X) [.agg [.own 1 1],.own 2 1,.agg [.d (.str a2.rel),.own 3 1]]=some [.agg a0.enc,.sl (a1.map Tm.enc),.agg a2.enc]:=fun e1 B1 e2 B2 e3 B3 X=>by
  rw [Pg.enc_eq a0,Fc.enc_eq a2];rfl
 have hbe0:∀e1 B1 X,R8 (ae1 :: .tree 1 7 e1 (a0.rels.map Rl.enc) B1 none :: X) [.agg [.own 1 1],.d (.agg a0.enc)]=some [.agg a0.enc,.agg a0.enc]:=fun e1 B1 X=>by
  rw [Pg.enc_eq a0];rfl
 have hbe2:∀q1 e1 x1 B1 e2 B2 e3 B3 X,R8 (ae1 :: .tree q1 7 e1 x1 B1 none :: .tree 1 4 e2 (a1.map Tm.enc) B2 none :: .tree 1 4 e3 (a2.args.map Tm.enc) B3 none :: X) [.agg [.d (.str a2.rel),.own 3 1],.d (.agg a2.enc)]=some [.agg a2.enc,.agg a2.enc]:=fun q1 e1 x1 B1 e2 B2 e3 B3 X=>by
  rw [Fc.enc_eq a2];rfl
 have ho2:∀t,bx2 a0 a1 a2=some t->wtL t.enc<=1000000000:=fun t h=>by
  unfold bx2 at h;split at h
  ·rename_i h1
   split at h
   ·rename_i rs hg
    exact bG9 (aR7 (bD9 h1.1) (Uni.of h1.2.1).1 hg).w h
   ·cases h
  ·cases h
 cases ho:bx2 a0 a1 a2 with
 | none =>
  rw [ho,M7] at hw0;rw [ho] at hg;unfold pvR at hg;dsimp only at hg;have hg:=cz2 hg;have hei:=bq9 (.mk [] 0 [] []) (by rw [Pf.enc_eq];simp [Pf.rel,Pf.values,Pf.kids,wtL,D.wt,wtR]);have hh:=au8 (.mk [] 0 [] []) 1 (by omega) (by simp [Pf.mcnt,Tm.mcnts,Pf.mcnts]);rw [show (Pf.mk [] 0 [] []).enc=[.str [],.int .i64 0,.sl [],.sl []] from by rw [Pf.enc_eq];rfl] at hei;simp only [Pf.rel,Pf.clause,Pf.values,Pf.kids,Tm.mrks,Pf.mrks,List.map_nil,Tm.mcnts,Pf.mcnts] at hh;have z1:(1:Int)+((0:Nat):Int)+((0:Nat):Int)=1:=rfl;rw [z1] at hh;simp only [run.eq_1];refine AW.drawA mixed #[true,true,true,true,true,true,true,true,true,true,true,false,false] [(8,.box (a0.enc.map .d)),(9,.box (a2.enc.map .d))] [] [0,2,4,10,1,3,5,6,7,9,8] [11,12] (some (10,8,34,[.string ⟨#[]⟩,.int .i64 0,.slice none 0 0,.slice none 0 0])) (by kernel_rfl) bM6 (by simp [x8]) ?_;simp only [go_sem,seval]
  repeat' (first
   | ((first
    | (refine (htoa0 hwp).calls rfl ?_)
    | (refine (htoa1 hwu).calls rfl ?_)
    | (refine (htoa2 hwf).calls rfl ?_)
    | (refine hw0.calls rfl ?_))<;>(try simp only [go_sem,seval]))
   | fail)
  refine l7 Tryz.func3 mixed 60 _ _ (by kernel_rfl) ?_;simp only [go_sem,seval,run.eq_1];refine ACalls.fresh (ds:=[.agg a0.enc]) (m:=1) hx [1] rfl rfl (by simp) (by simp) ?_;rintro c H' ⟨rfl,e1,B1,rfl⟩ _;refine ⟨rfl,rfl,?_⟩;simp only [go_sem,seval];refine ACalls.fresh (ds:=[.sl (a1.map Tm.enc)]) (m:=1) hy [2] rfl rfl (by simp) (by simp) ?_;rintro c H' ⟨rfl,e2,B2,rfl⟩ _;refine ⟨rfl,rfl,?_⟩;simp only [go_sem,seval];refine ACalls.fresh (ds:=[.agg a2.enc]) (m:=1) hz [3] rfl rfl (by simp) (by simp) ?_;rintro c H' ⟨rfl,e3,B3,rfl⟩ _;refine ⟨rfl,rfl,?_⟩;simp only [go_sem,seval];refine ACalls.freshO (ds:=[.agg a0.enc,.sl (a1.map Tm.enc),.agg a2.enc]) hg [4,5,0] (hbf _ _ _ _ _ _ _) rfl (by simp) rfl rfl ?_;rintro c H' ⟨rfl,rfl⟩ _;refine ⟨rfl,⟨rfl,rfl,rfl,trivial⟩,?_⟩;simp only [go_sem,seval]
  repeat' (first
   | ((refine D5 (fun hq=>?_) (fun hq=>?_))<;>(try simp only [go_sem,seval,hq]))
   | ((first
    | (refine (htoa1 hwu).calls rfl ?_)
    | (refine (htoa0 hwp).callQ rfl ?_)
    | (refine (htoa2 hwf).callQ rfl ?_)
    | (refine heqa0.lendQ rfl (hbe0 _ _ _) ?_)
    | (refine heqa1.lend rfl rfl ?_)
    | (refine heqa2.lendQ rfl (hbe2 _ _ _ _ _ _ _ _ _) ?_)
    | (refine (ACalls.emb (hmk0 1 _ _ (by omega) (by omega)) [1] rfl rfl rfl (by decide) rfl ?_)<;>(rintro c H' ⟨rfl,C0,rfl⟩ _;refine ⟨rfl,rfl,?_⟩))
    | (refine (ACalls.emb (hmk1 1 _ _ (by omega) (by omega)) [2] rfl rfl rfl (by decide) rfl ?_)<;>(rintro c H' ⟨rfl,C1,rfl⟩ _;refine ⟨rfl,rfl,?_⟩))
    | (refine (ACalls.emb (hmk2 1 _ _ (by omega) (by omega)) [3] rfl rfl rfl (by decide) rfl ?_)<;>(rintro c H' ⟨rfl,C2,rfl⟩ _;refine ⟨rfl,rfl,?_⟩))
    | (refine hei.calls rfl ?_)
    | (refine (aQ1 1).calls rfl ?_)
    | (refine hh.calls rfl ?_))<;>(try simp only [go_sem,seval]))
   | fail)
  all_goals first | (exfalso;omega) | skip
  simp only [run.eq_1];refine AW.drawA mixed #[true,true,true,true,true,true,true,true,true,true,true,false,false] [(8,.box (a0.enc.map .d)),(9,.box (a2.enc.map .d))] [] [0,2,4,10,1,3,5,6,7,9,8] [11,12] (some (10,18,34,[.string ⟨#[]⟩,.int .i64 0,.slice none 0 0,.slice none 0 0])) (by kernel_rfl) bM6 (by simp [x8]) ?_;simp only [go_sem,seval]
  repeat' (first
   | ((first
    | (refine (htoa0 hwp).calls rfl ?_)
    | (refine (htoa1 hwu).calls rfl ?_)
    | (refine (htoa2 hwf).calls rfl ?_)
    | (refine ACalls.freshO (ds:=[.agg a0.enc,.sl (a1.map Tm.enc),.agg a2.enc]) hg [6,7,0] rfl rfl (by simp) rfl rfl ?_<;>(rintro c H' ⟨rfl,rfl⟩ _;refine ⟨rfl,⟨rfl,rfl,rfl,trivial⟩,?_⟩)))<;>(try simp only [go_sem,seval]))
   | fail)
  refine rS_ Tryz.func3 ?_;simp only [go_sem,seval]
  repeat' (first
   | ((first
    | (refine hei.calls rfl ?_)
    | (refine hh.calls rfl ?_))<;>(try simp only [go_sem,seval]))
   | fail)
  all_goals first | (exfalso;omega) | skip
 | some t =>
  rw [ho,ao9] at hw0;rw [ho] at hg;unfold pvR at hg;dsimp only at hg;have hwt:=ho2 t ho;have hei:=bq9 t hwt;have hmP:=Pf.mcnt_wt t;have hmc:=Pf.mcnt_eq t;have hh:=au8 t 1 (by omega) (by omega);have hmt:=aQ0 t 1;have hpe:=Pf.enc_eq t;rw [hpe] at hw0;have hbg:∀o0 o1 o2 o3 e2 B2 e3 B3 X,R8 (o0 :: o1 :: o2 :: o3 :: .tree 1 4 e2 (t.values.map Tm.enc) B2 none :: .tree 1 4 e3 (t.kids.map Pf.enc) B3 none :: X) [.agg [.d (.str t.rel),.d (.int .i64 t.clause),.own 4 1,.own 5 1],.d (.agg [.str t.rel,.int .i64 t.clause,.sl (t.values.map Tm.enc),.sl (t.kids.map Pf.enc)])]=some [.agg t.enc,.agg t.enc]:=fun o0 o1 o2 o3 e2 B2 e3 B3 X=>by
   rw [Pf.enc_eq t];rfl
  have hbh:∀o0 o1 o2 o3 o4 o5 e2 B2 e3 B3 X,R8 (o0 :: o1 :: o2 :: o3 :: o4 :: o5 :: .tree 1 4 e2 (t.values.map Tm.enc) B2 none :: .tree 1 4 e3 (t.kids.map Pf.enc) B3 none :: X) [.agg [.d (.str t.rel),.d (.int .i64 t.clause),.own 6 1,.own 7 1],.d (.agg [.str t.rel,.int .i64 t.clause,.sl (t.values.map Tm.enc),.sl (t.kids.map Pf.enc)])]=some [.agg t.enc,.agg t.enc]:=fun o0 o1 o2 o3 o4 o5 e2 B2 e3 B3 X=>by
   rw [Pf.enc_eq t];rfl
  simp only [run.eq_1];refine AW.drawA mixed #[true,true,true,true,true,true,true,true,true,true,true,false,false] [(8,.box (a0.enc.map .d)),(9,.box (a2.enc.map .d))] [] [0,2,4,10,1,3,5,6,7,9,8] [11,12] (some (10,8,34,[.string ⟨#[]⟩,.int .i64 0,.slice none 0 0,.slice none 0 0])) (by kernel_rfl) bM6 (by simp [x8]) ?_;simp only [go_sem,seval]
  repeat' (first
   | ((first
    | (refine (htoa0 hwp).calls rfl ?_)
    | (refine (htoa1 hwu).calls rfl ?_)
    | (refine (htoa2 hwf).calls rfl ?_)
    | (refine hw0.calls rfl ?_))<;>(try simp only [go_sem,seval]))
   | fail)
  refine l7 Tryz.func3 mixed 60 _ _ (by kernel_rfl) ?_;simp only [go_sem,seval,run.eq_1];refine ACalls.fresh (ds:=[.agg a0.enc]) (m:=1) hx [1] rfl rfl (by simp) (by simp) ?_;rintro c H' ⟨rfl,e1,B1,rfl⟩ _;refine ⟨rfl,rfl,?_⟩;simp only [go_sem,seval];refine ACalls.fresh (ds:=[.sl (a1.map Tm.enc)]) (m:=1) hy [2] rfl rfl (by simp) (by simp) ?_;rintro c H' ⟨rfl,e2,B2,rfl⟩ _;refine ⟨rfl,rfl,?_⟩;simp only [go_sem,seval];refine ACalls.fresh (ds:=[.agg a2.enc]) (m:=1) hz [3] rfl rfl (by simp) (by simp) ?_;rintro c H' ⟨rfl,e3,B3,rfl⟩ _;refine ⟨rfl,rfl,?_⟩;simp only [go_sem,seval];refine ACalls.freshO (ds:=[.agg a0.enc,.sl (a1.map Tm.enc),.agg a2.enc]) hg [4,5,0] (hbf _ _ _ _ _ _ _) rfl (by simp) rfl rfl ?_;rintro c H' ⟨e4,B4,e5,B5,rfl,rfl⟩ _;refine ⟨rfl,⟨rfl,rfl,rfl,trivial⟩,?_⟩;simp only [go_sem,seval]
  repeat' (first
   | ((refine D5 (fun hq=>?_) (fun hq=>?_))<;>(try simp only [go_sem,seval,hq]))
   | ((first
    | (refine (htoa1 hwu).calls rfl ?_)
    | (refine (htoa0 hwp).callQ rfl ?_)
    | (refine (htoa2 hwf).callQ rfl ?_)
    | (refine heqa0.lendQ rfl (hbe0 _ _ _) ?_)
    | (refine heqa1.lend rfl rfl ?_)
    | (refine heqa2.lendQ rfl (hbe2 _ _ _ _ _ _ _ _ _) ?_)
    | (refine (ACalls.emb (hmk0 1 _ _ (by omega) (by omega)) [1] rfl rfl rfl (by decide) rfl ?_)<;>(rintro c H' ⟨rfl,C0,rfl⟩ _;refine ⟨rfl,rfl,?_⟩))
    | (refine (ACalls.emb (hmk1 1 _ _ (by omega) (by omega)) [2] rfl rfl rfl (by decide) rfl ?_)<;>(rintro c H' ⟨rfl,C1,rfl⟩ _;refine ⟨rfl,rfl,?_⟩))
    | (refine (ACalls.emb (hmk2 1 _ _ (by omega) (by omega)) [3] rfl rfl rfl (by decide) rfl ?_)<;>(rintro c H' ⟨rfl,C2,rfl⟩ _;refine ⟨rfl,rfl,?_⟩))
    | (refine hei.lend rfl (hbg _ _ _ _ _ _ _ _ _) ?_)
    | (refine (ACalls.emb (hmt 1 1 e4 e5 B4 B5 (by omega) (by omega)) [4,5] rfl rfl rfl (by decide) rfl ?_)<;>(rintro c H' ⟨rfl,B7,B8,rfl⟩ _;refine ⟨rfl,rfl,?_⟩))
    | (refine hh.lend rfl (by simp only [go_sem,seval]) ?_))<;>(try simp only [go_sem,seval]))
   | fail)
  all_goals first | (exfalso;omega) | skip
  simp only [run.eq_1];refine AW.drawA mixed #[true,true,true,true,true,true,true,true,true,true,true,false,false] [(8,.box (a0.enc.map .d)),(9,.box (a2.enc.map .d))] [] [0,2,4,10,1,3,5,6,7,9,8] [11,12] (some (10,18,34,[.string ⟨#[]⟩,.int .i64 0,.slice none 0 0,.slice none 0 0])) (by kernel_rfl) bM6 (by simp [x8]) ?_;simp only [go_sem,seval]
  repeat' (first
   | ((first
    | (refine (htoa0 hwp).calls rfl ?_)
    | (refine (htoa1 hwu).calls rfl ?_)
    | (refine (htoa2 hwf).calls rfl ?_)
    | (refine ACalls.freshO (ds:=[.agg a0.enc,.sl (a1.map Tm.enc),.agg a2.enc]) hg [6,7,0] rfl rfl (by simp) rfl rfl ?_<;>(rintro c H' ⟨e9,B9,e10,B10,rfl,rfl⟩ _;refine ⟨rfl,⟨rfl,rfl,rfl,trivial⟩,?_⟩)))<;>(try simp only [go_sem,seval]))
   | fail)
  refine rS_ Tryz.func3 ?_;simp only [go_sem,seval]
  repeat' (first
   | ((refine D5 (fun hq=>?_) (fun hq=>?_))<;>(try simp only [go_sem,seval,hq]))
   | ((first
    | (refine hei.lend rfl (hbh _ _ _ _ _ _ _ _ _ _ _) ?_)
    | (refine hh.lend rfl (by simp only [go_sem,seval]) ?_))<;>(try simp only [go_sem,seval]))
   | fail)
  all_goals first | (exfalso;omega) | skip
end Go.Proofs.YtancdeoodnpimaaGreatDoor
