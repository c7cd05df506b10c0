import Derived.Test.YtehkgphockcjdaaGreatFx
import Derived.Test.YtehkgphockcjdaaGreatP1
open List renaming getElem?_eq_getElem→a_,cons_append→b_,nil_append→c_,eq_of_mem_replicate→d_
namespace Go.Proofs.YtehkgphockcjdaaGreat
open Go.Abs
set_option maxRecDepth 100000
set_option maxHeartbeats 4000000
set_option linter.unusedSimpArgs false
set_option linter.unusedVariables false
def toTT (t:Tm):Prop:=ACalls Tryz.prog 26 [.d (.agg t.enc)] [.hole] fun c H'=>c=.agg [.d (.int .i64 t.kind),.d (.int .i64 t.int),.d (.str t.name),.own 0 1]∧∃e B,H'=[.tree 1 4 e (t.args.map Tm.enc) B none]
theorem toTermS_T (l:List Tm) (hw:wtR (l.map Tm.enc)≤1048576) (hl:∀x,x∈l→toTT x):ACalls Tryz.prog 8 [.d (.sl (l.map Tm.enc))] [.hole] (fun c H'=>c=.own 0 1∧∃e B,H'=[.tree 1 4 e (l.map Tm.enc) B none]):=by
 have hlen:l.length≤1048576:=by
  have:=sumW_le (l.map Tm.enc) 0;simp [sumW] at this;omega
 have hmx:maxLen=9223372036854775807:=rfl
 refine aE_ Tryz.func8 ?_
 refine rS_ Tryz.func8 ?_
 simp only [go_sem,seval]
 repeat' (first
  | ((refine ⟨sd,?_⟩)<;>(try simp only [go_sem,seval]))
  | fail)
 refine AW.rowT 3 1 rfl rfl (by simp) (by decide) (fun x hx d hd=>by have e:=d_ hx;subst e;simp at hd;rcases hd with rfl | rfl | rfl | rfl<;>rfl) ?_
 refine AW.lp [0,3] (fun p:Nat×(Nat→Prop)=>[(4,.d (.int .i64 p.1))]) (fun _ p=>[.hole,.dead,.tree 0 4 62 ((l.map Tm.enc).take p.1++List.replicate ((l.map Tm.enc).length - p.1) [.int .i64 0,.int .i64 0,.str [],.sl []]) p.2 none]) (fun p=>p.1≤l.length) (fun p=>l.length - p.1) (0,fun _=>False) (Nat.zero_le _) wk4_ ?_
 rintro ⟨i,B⟩ hi hnext
 dsimp only at hi hnext ⊢
 have hL:(l.map Tm.enc).length=l.length:=by simp
 by_cases h:i<l.length
 ·obtain ⟨x,hxi⟩:∃x,l[i]? = some x:=⟨_,a_ h⟩
  have hlt:(i:Int)<(l.length:Int):=by omega
  have hx:=hl x (List.mem_of_getElem? hxi)
  have hxe:(l.map Tm.enc)[i]? = some x.enc:=by simp [hxi]
  have hrl:((l.map Tm.enc).take i++List.replicate ((l.map Tm.enc).length - i) [D.int .i64 0,.int .i64 0,.str [],.sl []]).length=l.length:=by simp;omega
  have hrs:=row_step (z:=[D.int .i64 0,.int .i64 0,.str [],.sl []]) (k:=4) hxe rfl
  generalize hr0:(l.map Tm.enc).take i++List.replicate ((l.map Tm.enc).length - i) [D.int .i64 0,.int .i64 0,.str [],.sl []]=r0 at hrl hrs ⊢
  refine AW.hole ?_
  refine rS_ Tryz.func8 ?_
  simp only [go_sem,seval,hlt,idx_of hxi,hrl]
  repeat' (first
   | (simp (disch:=omega) only [wrap_ok])
   | ((first
    | (refine ACalls.fresh (ds:=[.agg x.enc]) (m:=1) hx [3] rfl rfl (by simp) (by simp) ?_<;>(rintro c H' ⟨rfl,e1,B1,rfl⟩ _;refine ⟨rfl,rfl,?_⟩))
    | (refine ⟨sd,?_⟩))<;>(try simp only [go_sem,seval,hrl,hlt]))
   | fail)
  intro B'
  rw [Tm.enc_eq x] at hrs
  simp only [b_,c_] at hrs
  rw [hrs]
  exact hnext (i+1,B') _ h (by omega) wk4_
 ·obtain rfl:i=l.length:=by omega
  have hfull:(l.map Tm.enc).take l.length++List.replicate ((l.map Tm.enc).length - l.length) [D.int .i64 0,.int .i64 0,.str [],.sl []]=l.map Tm.enc:=by rw [←hL];exact row_all _ _
  rw [hfull]
  refine AW.place 3 2 0 rfl rfl rfl (by decide) ?_
  refine rS_ Tryz.func8 ?_
  simp only [go_sem,seval]
  simp [O.refsLt]
theorem toTerm_T:∀t:Tm,wtL t.enc≤1048576→toTT t:=by
 intro t
 induction t using Tm.ind' with
 | h t ih =>
  intro hw
  unfold toTT
  have hwr:wtR (t.args.map Tm.enc)≤1048576:=by
   simp only [Tm.enc_eq t,wtL,D.wt] at hw;omega
  have ht:=toTermS_T t.args hwr (fun x hx=>ih x hx (by have:=wt_args hx;omega))
  refine aE_ Tryz.func26 ?_
  refine rS_ Tryz.func26 ?_
  simp only [go_sem,seval]
  repeat' (first
   | ((first
    | (refine ACalls.fresh (ds:=[.sl (t.args.map Tm.enc)]) (m:=1) ht [0] rfl rfl (by simp) (by simp) ?_<;>(rintro c H' ⟨rfl,e1,B1,rfl⟩ _;refine ⟨rfl,rfl,?_⟩))
    | (refine ⟨by assumption,?_⟩))<;>(try simp only [go_sem,seval]))
   | fail)
def toGT (t:Gl):Prop:=ACalls Tryz.prog 73 [.d (.agg t.enc)] [.hole,.hole] fun c H'=>c=.agg [.d (.int .i64 t.kind),.d (.str t.name),.own 0 1,.own 1 1]∧∃e B e' B',H'=[.tree 1 4 e (t.terms.map Tm.enc) B none,.tree 1 4 e' (t.goals.map Gl.enc) B' none]
theorem toGoalS_T (l:List Gl) (hw:wtR (l.map Gl.enc)≤1048576) (hl:∀x,x∈l→toGT x):ACalls Tryz.prog 93 [.d (.sl (l.map Gl.enc))] [.hole] (fun c H'=>c=.own 0 1∧∃e B,H'=[.tree 1 4 e (l.map Gl.enc) B none]):=by
 have hlen:l.length≤1048576:=by
  have:=sumW_le (l.map Gl.enc) 0;simp [sumW] at this;omega
 have hmx:maxLen=9223372036854775807:=rfl
 refine aE_ Tryz.func93 ?_
 refine rS_ Tryz.func93 ?_
 simp only [go_sem,seval]
 repeat' (first
  | ((refine ⟨sd,?_⟩)<;>(try simp only [go_sem,seval]))
  | fail)
 refine AW.rowT 3 1 rfl rfl (by simp) (by decide) (fun x hx d hd=>by have e:=d_ hx;subst e;simp at hd;rcases hd with rfl | rfl | rfl | rfl<;>rfl) ?_
 refine AW.lp [0,3] (fun p:Nat×(Nat→Prop)=>[(4,.d (.int .i64 p.1))]) (fun _ p=>[.hole,.dead,.tree 0 4 52 ((l.map Gl.enc).take p.1++List.replicate ((l.map Gl.enc).length - p.1) [.int .i64 0,.str [],.sl [],.sl []]) p.2 none]) (fun p=>p.1≤l.length) (fun p=>l.length - p.1) (0,fun _=>False) (Nat.zero_le _) wk4_ ?_
 rintro ⟨i,B⟩ hi hnext
 dsimp only at hi hnext ⊢
 have hL:(l.map Gl.enc).length=l.length:=by simp
 by_cases h:i<l.length
 ·obtain ⟨x,hxi⟩:∃x,l[i]? = some x:=⟨_,a_ h⟩
  have hlt:(i:Int)<(l.length:Int):=by omega
  have hx:=hl x (List.mem_of_getElem? hxi)
  have hxe:(l.map Gl.enc)[i]? = some x.enc:=by simp [hxi]
  have hrl:((l.map Gl.enc).take i++List.replicate ((l.map Gl.enc).length - i) [D.int .i64 0,.str [],.sl [],.sl []]).length=l.length:=by simp;omega
  have hrs:=row_step (z:=[D.int .i64 0,.str [],.sl [],.sl []]) (k:=4) hxe rfl
  generalize hr0:(l.map Gl.enc).take i++List.replicate ((l.map Gl.enc).length - i) [D.int .i64 0,.str [],.sl [],.sl []]=r0 at hrl hrs ⊢
  refine AW.hole ?_
  refine AW.hole ?_
  refine rS_ Tryz.func93 ?_
  simp only [go_sem,seval,hlt,idx_of hxi,hrl]
  repeat' (first
   | (simp (disch:=omega) only [wrap_ok])
   | ((first
    | (refine ACalls.fresh (ds:=[.agg x.enc]) (m:=2) hx [3,4] rfl rfl (by simp) (by simp) ?_<;>(rintro c H' ⟨rfl,e1,B1,e2,B2,rfl⟩ _;refine ⟨rfl,rfl,?_⟩))
    | (refine ⟨sd,?_⟩))<;>(try simp only [go_sem,seval,hrl,hlt]))
   | fail)
  intro B'
  rw [Gl.enc_eq x] at hrs
  simp only [b_,c_] at hrs
  rw [hrs]
  exact hnext (i+1,B') _ h (by omega) wk4_
 ·obtain rfl:i=l.length:=by omega
  have hfull:(l.map Gl.enc).take l.length++List.replicate ((l.map Gl.enc).length - l.length) [D.int .i64 0,.str [],.sl [],.sl []]=l.map Gl.enc:=by rw [←hL];exact row_all _ _
  rw [hfull]
  refine AW.place 3 2 0 rfl rfl rfl (by decide) ?_
  refine rS_ Tryz.func93 ?_
  simp only [go_sem,seval]
  simp [O.refsLt]
theorem toGoal_T:∀t:Gl,wtL t.enc≤1048576→toGT t:=by
 intro t
 induction t using Gl.ind' with
 | h t ih =>
  intro hw
  unfold toGT
  have hwt:wtR (t.terms.map Tm.enc)≤1048576:=by
   simp only [Gl.enc_eq t,wtL,D.wt] at hw;omega
  have hwg:wtR (t.goals.map Gl.enc)≤1048576:=by
   simp only [Gl.enc_eq t,wtL,D.wt] at hw;omega
  have ht:=toTermS_T t.terms hwt (fun x hx=>toTerm_T x (by have:=Gl.wt_terms hx;omega))
  have hg:=toGoalS_T t.goals hwg (fun x hx=>ih x hx (by have:=Gl.wt_goals hx;omega))
  refine aE_ Tryz.func73 ?_
  refine rS_ Tryz.func73 ?_
  simp only [go_sem,seval]
  repeat' (first
   | (exact ⟨_,_,_,_,rfl⟩)
   | ((first
    | (refine ACalls.fresh (ds:=[.sl (t.terms.map Tm.enc)]) (m:=1) ht [0] rfl rfl (by simp) (by simp) ?_<;>(rintro c H' ⟨rfl,e1,B1,rfl⟩ _;refine ⟨rfl,rfl,?_⟩))
    | (refine ACalls.fresh (ds:=[.sl (t.goals.map Gl.enc)]) (m:=1) hg [1] rfl rfl (by simp) (by simp) ?_<;>(rintro c H' ⟨rfl,e1,B1,rfl⟩ _;refine ⟨rfl,rfl,?_⟩)))<;>(try simp only [go_sem,seval]))
   | fail)
theorem markText_fn (k:Int) (h0:0≤k) (h1:k≤1000000000000):Gives Tryz.prog 37 [.int .i64 k] (.d (.str (mText k))):=by
 have hk:mText k=[109]++(if k≤0 then [48] else digs k.toNat k.toNat []):=rfl
 refine aE_ Tryz.func37 ?_
 refine rS_ Tryz.func37 ?_
 simp only [go_sem,seval]
 repeat' (first
  | ((refine br_n (fun hq=>?_) (fun hq=>?_))<;>(try simp only [go_sem,seval,hq]))
  | fail)
 ·rw [hk,if_pos (by assumption)];rfl
 rw [if_neg (by omega)] at hk
 generalize mText k=N at hk ⊢
 refine AW.lp [] (fun p:Int×List UInt8=>[(0,.d (.int .i64 p.1)),(3,.d (.str p.2))]) (fun H _=>H) (fun p=>0≤p.1∧p.1≤k∧(p.2.length:Int)≤k - p.1∧∀fuel,p.1.toNat≤fuel→[109]++digs fuel p.1.toNat p.2=N) (fun p=>p.1.toNat) (k,[]) ⟨by omega,by omega,by simp,fun fuel hf=>?_⟩ wk2_ ?_
 ·rw [hk,digs_fuel k.toNat fuel k.toNat [] (Nat.le_refl _) hf]
 have hmx:maxLen=9223372036854775807:=rfl
 rintro ⟨m,acc⟩ ⟨i1,i2,i4,i3⟩ hnext
 dsimp only at i1 i2 i3 i4 hnext
 by_cases hm:0<m
 ·have hd0:0≤m.tmod 10∧m.tmod 10<10∧(m.tmod 10).toNat=m.toNat % 10:=by
   rw [Int.tmod_eq_emod_of_nonneg (by omega)];omega
  have hq0:0≤m.tdiv 10∧m.tdiv 10<m∧(m.tdiv 10).toNat=m.toNat / 10:=by
   rw [Int.tdiv_eq_ediv_of_nonneg (by omega)];omega
  have hnx:=i3 (m.toNat) (Nat.le_refl _)
  have hw8:IntKind.u8.wrap (48+m.tmod 10)=48+m.tmod 10:=by
   unfold IntKind.wrap;simp [IntKind.bits,IntKind.signed];omega
  refine rS_ Tryz.func37 ?_
  simp only [go_sem,seval,hm,hw8,bytesOf]
  repeat' (first
   | (simp (disch:=omega) only [wrap_ok])
   | ((refine ⟨sd,?_⟩)<;>(try simp only [go_sem,seval,hm,hw8,bytesOf]))
   | fail)
  refine hnext (m.tdiv 10,UInt8.ofNat (48+m.tmod 10).toNat :: acc) _ ⟨by omega,by omega,by simp only [List.length_cons];omega,fun fuel hf=>?_⟩ (by dsimp only;omega) wk4_
  dsimp only at hf ⊢
  have h3:=i3 (m.toNat+fuel+1) (by omega)
  simp only [digs] at h3
  rw [if_neg (by omega),digs_fuel fuel (m.toNat+fuel) _ _ (by omega) (by omega)] at h3
  rw [←h3,hq0.2.2,show (48+m.tmod 10).toNat=48+m.toNat % 10 by omega]
 ·obtain rfl:m=0:=by omega
  have:=i3 0 (by simp)
  refine rS_ Tryz.func37 ?_
  simp only [go_sem,seval]
  repeat' (first
   | ((refine ⟨sd,?_⟩)<;>(try simp only [go_sem,seval]))
   | fail)
  all_goals (rw [←this];rfl)
theorem markTermS_0 (k:Int):Gives Tryz.prog 14 [.sl [],.int .i64 k] (.d (.int .i64 k)):=by
 have z0:((0:Nat):Int)=0:=rfl
 refine aE_ Tryz.func14 ?_
 refine rS_ Tryz.func14 ?_
 simp only [go_sem,seval]
 repeat' (first
  | ((refine AW.loop ?_<;>(refine rS_ Tryz.func14 ?_))<;>(try simp only [go_sem,seval,z0]))
  | fail)
 all_goals (exfalso;simp at *)
def mTT (l:List Tm):Prop:=∀(k:Int) (q e:Nat) (B:Nat→Prop),0≤k→k+Tm.mcnts l≤1000000000000 →
 ACalls Tryz.prog 14 [.own 0 q,.d (.int .i64 k)] [.tree q 4 e (l.map Tm.enc) B none] fun c H'=>c=.d (.int .i64 (k+Tm.mcnts l))∧∃B',H'=[.tree q 4 e ((Tm.mrks k l).map Tm.enc) B' none]
theorem markTermS_T (l:List Tm) (ih:∀x,x∈l→mTT x.args):mTT l:=by
 intro k q e B h0 h1
 have hlm:=Tm.len_mcnts l
 refine aE_ Tryz.func14 ?_
 refine rS_ Tryz.func14 ?_
 simp only [go_sem,seval]
 refine AW.lp [0] (fun p:Nat×(Nat→Prop)=>[(5,.d (.int .i64 p.1)),(1,.d (.int .i64 (k+Tm.mcnts (l.take p.1))))]) (fun _ p=>[.tree q 4 e ((Tm.mrks k (l.take p.1)++l.drop p.1).map Tm.enc) p.2 none]) (fun p=>p.1≤l.length) (fun p=>l.length - p.1) (0,B) (Nat.zero_le _) (by refine ⟨by simp [mkS],by simp [mkS,Tm.mrks],by simp [mkS,O.refsLt],?_⟩;simp [mkS,Abs.get,C.refsLtT,C.refsLt,C.refsLt1,Tm.mcnts]) ?_
 rintro ⟨i,B1⟩ hi hnext
 dsimp only at hi hnext ⊢
 by_cases h:i<l.length
 ·have hlt:(i:Int)<(l.length:Int):=by omega
  have hd:l.drop i=l[i] :: l.drop (i+1):=List.drop_eq_getElem_cons h
  have hll:((Tm.mrks k (l.take i)).map Tm.enc++l[i].enc :: (l.drop (i+1)).map Tm.enc).length=l.length:=by simp [Tm.mrks_len];omega
  have hai:((Tm.mrks k (l.take i)).map Tm.enc).length=i:=by simp [Tm.mrks_len];omega
  have hnxt:l.take (i+1)=l.take i++[l[i]]:=by rw [List.take_add_one,a_ h];rfl
  have hcn:Tm.mcnts (l.take (i+1))=Tm.mcnts (l.take i)+l[i].mcnt:=by rw [hnxt,Tm.mcnts_app];simp [Tm.mcnts]
  have hcl:Tm.mcnts l=Tm.mcnts (l.take i)+(l[i].mcnt+Tm.mcnts (l.drop (i+1))):=by
   conv=>lhs;rw [←List.take_append_drop i l,hd,Tm.mcnts_app]
   simp [Tm.mcnts]
  have hix:=ih l[i] (List.getElem_mem _)
  have hmr:Tm.mrks k (l.take (i+1))=Tm.mrks k (l.take i)++[l[i].mrk (k+Tm.mcnts (l.take i))]:=by rw [hnxt,Tm.mrks_app];simp [Tm.mrks]
  have hmc:=Tm.mcnt_eq l[i]
  rw [hd,List.map_append,List.map_cons]
  have hnx:=fun B' s'=>hnext (i+1,B') s' h (by dsimp only;omega)
  clear hnext
  simp only [hmr,hcn,List.map_append,List.map_cons,List.map_nil,Tm.mrk_eq] at hnx
  generalize hx:l[i]=x at *
  generalize hA:(Tm.mrks k (l.take i)).map Tm.enc=A at *
  generalize hZ:(l.drop (i+1)).map Tm.enc=Z at *
  generalize hk:k+(Tm.mcnts (l.take i):Int)=kk at *
  have s1:=fun (y:List D)=>set_split (x:=x.enc) (y:=y) (r:=Z) hai
  have s2:=fun (y y':List D)=>set_split (x:=y) (y:=y') (r:=Z) hai
  have g1:=fun (y:List D)=>at_split (x:=y) (r:=Z) hai
  have xe:=Tm.enc_eq x
  rw [xe] at hll ⊢
  have zk4:∀zk:Nat,x.args.map Tm.enc≠[]→(∀j,j∈x.args→4=zk)→zk=4:=fun zk hne hz=>by
   cases ha:x.args with
   | nil=>simp [ha] at hne
   | cons a r=>exact (hz a (by simp [ha])).symm
  have hrow:∀ks,(Tm.mk kk (kk+1) (mText (kk+2)) ks).enc=[.int .i64 kk,.int .i64 (kk+1),.str (mText (kk+1+1)),.sl (ks.map Tm.enc)]:=fun ks=>by
   rw [Tm.enc_eq,show kk+1+1=kk+2 by omega];rfl
  simp only [hrow,List.append_assoc,b_,c_] at hnx
  have g2:=fun (y:List D) (Q:List D→Prop)=>idx_of (g1 y) Q
  refine rS_ Tryz.func14 ?_
  simp only [go_sem,seval,hlt,hll,s2,g1,g2]
  repeat' (first
   | (refine lend_intro (fun hk0=>?_) (fun hk1 zk e' B2 B3 hzk=>?_)<;>(try simp only [go_sem,seval,hlt,hll,s2,g1,g2]))
   | (simp (disch:=omega) only [wrap_ok])
   | ((first
    | (refine all_intro (fun Bz=>?_))
    | (refine (markTermS_0 _).calls rfl ?_)
    | (refine (markText_fn _ sd sd).calls rfl ?_)
    | (refine ⟨sd,?_⟩))<;>(try simp only [go_sem,seval,hlt,hll,s2,g1,g2]))
   | fail)
  ·have ha:x.args=[]:=by simpa using hk0
   have hm0:Tm.mcnts x.args=0:=by rw [ha];rfl
   rw [ha] at hnx ⊢
   refine hnx Bz _ ?_
   refine ⟨by simp [mkS],by simp [mkS,Tm.mrks],by simp [mkS,O.refsLt],?_⟩;simp [mkS,Abs.get,C.refsLtT,C.refsLt,C.refsLt1];omega
  ·obtain rfl:=zk4 zk hk1 hzk
   refine (hix (kk+1+1+1) 0 e' B3 (by omega) (by omega)).at1 rfl 1 rfl rfl ?_
   rintro c o' ⟨rfl,B4,ho⟩
   cases ho
   refine ⟨rfl,rfl,?_⟩
   simp only [go_sem,seval,C.at1]
   try simp (disch:=omega) only [wrap_ok]
   try simp only [go_sem,seval,C.at1]
   refine AW.rejoin 0 1 rfl rfl (by decide) (fun B5=>?_)
   simp only [go_sem,seval,g1,s2]
   refine hnx B5 _ ?_
   refine ⟨by simp [mkS],by simp [mkS];rw [show kk+1+1+1=kk+3 by omega],by simp [mkS,O.refsLt],?_⟩;simp [mkS,Abs.get,C.refsLtT,C.refsLt,C.refsLt1];omega
 ·obtain rfl:i=l.length:=by omega
  refine rS_ Tryz.func14 ?_
  simp only [go_sem,seval,Tm.mrks_len,List.take_length,List.drop_length]
  repeat' (first
   | (exact ⟨_,rfl⟩)
   | fail)
theorem mTT_args:∀t:Tm,mTT t.args:=by
 intro t
 induction t using Tm.ind' with
 | h t ih=>exact markTermS_T t.args ih
theorem mTT_all (l:List Tm):mTT l:=markTermS_T l (fun x _=>mTT_args x)
end Go.Proofs.YtehkgphockcjdaaGreat
