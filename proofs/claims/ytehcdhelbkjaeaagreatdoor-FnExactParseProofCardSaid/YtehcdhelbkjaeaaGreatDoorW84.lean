import Derived.Test.YtehcdhelbkjaeaaGreatDoorW83
open List renaming all_cons→a_,all_nil→b_,getElem?_eq_some_iff→c_
namespace Go.Proofs.YtehcdhelbkjaeaaGreatDoor
open Go.Abs
set_option maxRecDepth 100000
set_option maxHeartbeats 4000000
set_option linter.unusedSimpArgs false
set_option linter.unusedVariables false
theorem take_yes (T:List (List UInt8)) (i:Nat) (s:List UInt8) (hl:T.length≤20000) (hT:T[i]? = some s):ACalls Tryz.prog 41 [.ptr 0 0,.d (.str s)] [.box [.d (.sl (strD T)),.d (.int .i64 i)]] (fun c H'=>c=.d (.bool true)∧H'=[.box [.d (.sl (strD T)),.d (.int .i64 ((i+1:Nat):Int))]]):=by
 have hil:=(c_.1 hT).1
 have n0:(i:Int)<(T.length:Int):=by omega
 have hpk:=peek_R T i hl
 rw [hT] at hpk
 have hw:IntKind.i64.wrap ((i:Int)+1)=((i+1:Nat):Int):=by simp (disch:=omega) only [wrap_ok];omega
 refine aE_ Tryz.func41 ?_
 refine rS_ Tryz.func41 ?_
 simp only [go_sem,seval,strD_len,n0,hw]
 repeat' (first
  | ((refine ⟨_,hpk,?_⟩)<;>(try simp only [go_sem,seval,strD_len,n0,hw]))
  | fail)
theorem take_no (T:List (List UInt8)) (i:Nat) (s:List UInt8) (hl:T.length≤20000) (hs:s≠[]) (hT:T[i]?≠some s):ACalls Tryz.prog 41 [.ptr 0 0,.d (.str s)] [.box [.d (.sl (strD T)),.d (.int .i64 i)]] (fun c H'=>c=.d (.bool false)∧H'=[.box [.d (.sl (strD T)),.d (.int .i64 i)]]):=by
 have hpk:=peek_R T i hl
 have hne:¬(T[i]?.getD [])=s:=fun h=>by
  cases h2:T[i]? with
  | none=>rw [h2] at h;exact hs h.symm
  | some t=>rw [h2] at h hT;exact hT (by rw [←h];rfl)
 generalize (T[i]?.getD [])=p at *
 refine aE_ Tryz.func41 ?_
 refine rS_ Tryz.func41 ?_
 simp only [go_sem,seval,strD_len,hne]
 repeat' (first
  | ((refine ⟨_,hpk,?_⟩)<;>(try simp only [go_sem,seval,strD_len,hne]))
  | fail)
def accC (t:V) (p:Nat):Option (Nat×Nat×(Nat→Prop))→List C
 | none=>[.d (.int .i64 t.kind),.d (.int .i64 t.int),.d (.str t.name),.d (.sl [])]
 | some (Q,_,_)=>[.d (.int .i64 t.kind),.d (.int .i64 t.int),.d (.str t.name),.own p Q]
def accO (t:V):Option (Nat×Nat×(Nat→Prop))→O
 | none=>.dead
 | some (Q,e,B)=>.tree Q 4 e (t.kids.map V.enc) B none
def any4:List D:=List.replicate 4 .any
theorem ACalls.wid {P:Program} {f:FuncId} {args:List C} {H:List O} {K:C→List O→Prop} {r q z e:Nat} {xs:List (List D)} {B:Nat→Prop} {L:Option (Nat×Nat×Nat×Nat)} (hr:H[r]? = some (.tree q z e xs B L)) (h:(∀x,x∈xs→x.length=z)→ACalls P f args H K):ACalls P f args H K:=fun E vs hE hs ha=>h ((hE.obj r _ hr).2.1) E vs hE hs ha
theorem kid4 {x:V} {zk:Nat} (k1:¬x.kids.map V.enc=[]) (hz:∀y,y∈x.kids.map V.enc→y.length=zk):4=zk:=by
 cases hk:x.kids with
 | nil=>rw [hk] at k1;exact absurd rfl k1
 | cons y r =>
  rw [hk] at hz
  have:=hz y.enc (by simp)
  rw [V.enc_len] at this
  exact this
theorem list_T (l:List V) (q e:Nat) (B:Nat→Prop) (hl:l.length≤1048576):ACalls Tryz.prog 105 [.own 1 q] [.hole,.tree q 4 e (l.map V.enc) B none] (tmO id (lst l .nil) [.dead]):=by
 have hmap:(l.map V.enc).length=l.length:=List.length_map _
 refine aE_ Tryz.func105 ?_
 refine run_sound Tryz.func105 mixed 8 _ _ (by kernel_rfl) ?_
 simp only [go_sem,seval,run.eq_1,hmap]
 repeat' (first
  | (simp (disch:=omega) only [wrap_ok])
  | fail)
 refine AW.hole ?_
 refine AW.forget 4 ?_
 refine AW.nilB 3 3 rfl rfl ?_
 refine AW.lp [0,2,3] (fun u:Nat×Option (Nat×Nat×(Nat→Prop))×(Nat→Prop)=>[(4,.d (.int .i64 ((u.1:Int) - 1)))]) (fun _ u=>[.hole,.tree q 4 e ((l.take u.1).map V.enc++List.replicate (l.length - u.1) any4) u.2.2 none,.box [.d (.int .i64 0),.d (.int .i64 0),.d (.str []),.nil0],.box (accC (lst (l.drop u.1) .nil) 4 u.2.1),accO (lst (l.drop u.1) .nil) u.2.1]) (fun u=>u.1≤l.length∧(u.2.1=none→(lst (l.drop u.1) .nil).kids=[])) (fun u=>u.1) (l.length,none,B) ⟨Nat.le_refl _,fun _=>by simp [lst,V.kids]⟩ (by refine ⟨by simp [mkS,lst,accC,accO,V.kind,V.int,V.name],by simp [mkS,lst,accC,accO,V.kind,V.int,V.name],by simp only [mkS,a_,b_,O.refsLt,C.refsLt,C.refsLt1,all_dmap];first | done | rfl | (simp;done),?_⟩;simp [mkS,Abs.get,C.refsLtT,C.refsLt,C.refsLt1]) ?_
 rintro ⟨j,o,B'⟩ ⟨hj,ho⟩ hnext
 dsimp only at hj ho hnext ⊢
 cases j with
 | zero =>
  rw [List.drop_zero] at ho ⊢
  refine AW.forget 1 ?_
  cases o with
  | none =>
   have hk:=ho rfl
   unfold accC accO
   dsimp only
   refine rS_ Tryz.func105 ?_
   simp only [go_sem,seval]
   repeat' (first
    | (exact .inr ⟨hk,rfl,rfl⟩)
    | fail)
  | some o =>
   obtain ⟨Q,e2,B2⟩:=o
   unfold accC accO
   dsimp only
   refine AW.placeB 3 3 4 0 rfl rfl rfl rfl (by decide) ?_
   refine rS_ Tryz.func105 ?_
   simp only [go_sem,seval]
   repeat' (first
    | (exact .inl ⟨e2,B2,rfl,rfl⟩)
    | fail)
 | succ m =>
  have hm1:(m:Int)+1 - 1=m:=by omega
  obtain ⟨x,hx⟩:∃x,l[m]? = some x:=⟨l[m],List.getElem?_eq_getElem hj⟩
  have hdr:lst (l.drop m) .nil=.pair x (lst (l.drop (m+1)) .nil):=by
   obtain ⟨h1,h2⟩:=c_.1 hx
   rw [List.drop_eq_getElem_cons h1,h2];rfl
  have htk:(l.take (m+1)).map V.enc++List.replicate (l.length - (m+1)) any4=(l.take m).map V.enc++x.enc :: List.replicate (l.length - (m+1)) any4:=by
   rw [List.take_add_one,hx];simp
  have hrp:any4 :: List.replicate (l.length - (m+1)) any4=List.replicate (l.length - m) any4:=by
   rw [←List.replicate_succ,show l.length - (m+1)+1=l.length - m from by omega]
  have hw:IntKind.i64.wrap ((m:Int) - 1)=(m:Int) - 1:=by simp (disch:=omega) only [wrap_ok]
  have hnx:=fun o' B3 s'=>hnext (m,o',B3) s'
  clear hnext
  dsimp only at hnx
  rw [hdr] at hnx
  rw [←hrp] at hnx
  rw [htk]
  generalize lst (l.drop (m+1)) .nil=t at *
  have hA:((l.take m).map V.enc).length=m:=by rw [List.length_map,List.length_take];omega
  have hZ:(List.replicate (l.length - (m+1)) any4).length=l.length - (m+1):=List.length_replicate
  generalize (l.take m).map V.enc=A at *
  generalize List.replicate (l.length - (m+1)) any4=Z at *
  have s2:=fun (y y':List D)=>set_split (x:=y) (y:=y') (r:=Z) hA
  have g1:=fun (y:List D)=>at_split (x:=y) (r:=Z) hA
  have g2:=fun (y:List D) (Q:List D→Prop)=>idx_of (g1 y) Q
  have hnil:(x.kids.map V.enc=[])→x.kids=[]:=fun h=>by simpa using h
  refine AW.hole ?_
  cases o with
  | none =>
   have hk:=ho rfl
   unfold accC accO
   dsimp only
   refine run_sound Tryz.func105 mixed 7 _ _ (by kernel_rfl) ?_
   simp only [go_sem,seval,run.eq_1,hm1]
   refine AW.drawM mixed #[true,true,true,true,true,true,false] [(3,.box [.d (.int .i64 t.kind),.d (.int .i64 t.int),.d (.str t.name),.d (.sl [])])] [2,3] [0,1,4,2,3,5] [6] none (by kernel_rfl) trivial (by simp [holdsB]) ?_
   simp only [go_sem,seval,hm1,s2,g1,g2,V.enc_eq x,hA,hZ]
   refine ⟨by omega,by omega,fun B3=>⟨fun k1=>?_,fun k1 zk e' B4=>?_⟩⟩
   ·have hk1:=hnil k1
    repeat' (first
     | ((refine (ACalls.emb (pair_dd x t hk1 hk) [5] rfl rfl rfl (by decide) rfl ?_)<;>(rintro c H' ⟨ez,Bz,rfl,rfl⟩ _;refine ⟨rfl,rfl,?_⟩))<;>(try simp only [go_sem,seval,hm1,tmW,tmF,id_eq]))
     | fail)
    refine AW.placeD 3 3 5 4 rfl rfl rfl rfl (by decide) (fun Q2=>?_)
    refine rS_ Tryz.func105 ?_
    simp only [go_sem,seval]
    try simp only [hw]
    refine hnx (some (Q2,ez,Bz)) B3 _ ⟨by omega,fun h=>by cases h⟩ (by omega) (by refine ⟨by simp [mkS,accC,accO,any4,List.replicate,hw],by simp [mkS,accC,accO,any4,List.replicate,hw],by simp only [mkS,a_,b_,O.refsLt,C.refsLt,C.refsLt1,all_dmap];first | done | rfl | (simp;done),?_⟩;simp [mkS,Abs.get,C.refsLtT,C.refsLt,C.refsLt1])
   ·refine ACalls.wid (r:=6) rfl (fun hz=>?_)
    obtain rfl:=kid4 k1 hz
    repeat' (first
     | ((refine (ACalls.emb (pair_od x t 0 _ _ hk) [5,6] rfl rfl rfl (by decide) rfl ?_)<;>(rintro c H' ⟨ez,Bz,rfl,rfl⟩ _;refine ⟨rfl,rfl,?_⟩))<;>(try simp only [go_sem,seval,hm1,tmW,tmF,id_eq]))
     | fail)
    refine AW.placeD 3 3 5 4 rfl rfl rfl rfl (by decide) (fun Q2=>?_)
    refine rS_ Tryz.func105 ?_
    simp only [go_sem,seval]
    try simp only [hw]
    refine hnx (some (Q2,ez,Bz)) B3 _ ⟨by omega,fun h=>by cases h⟩ (by omega) (by refine ⟨by simp [mkS,accC,accO,any4,List.replicate,hw],by simp [mkS,accC,accO,any4,List.replicate,hw],by simp only [mkS,a_,b_,O.refsLt,C.refsLt,C.refsLt1,all_dmap];first | done | rfl | (simp;done),?_⟩;simp [mkS,Abs.get,C.refsLtT,C.refsLt,C.refsLt1])
  | some o =>
   obtain ⟨Q,e2,B2⟩:=o
   unfold accC accO
   dsimp only
   refine run_sound Tryz.func105 mixed 7 _ _ (by kernel_rfl) ?_
   simp only [go_sem,seval,run.eq_1,hm1]
   refine AW.drawM mixed #[true,true,true,true,true,true,false] [(3,.box [.d (.int .i64 t.kind),.d (.int .i64 t.int),.d (.str t.name),.own 4 Q])] [2,3] [0,1,4,2,3,5] [6] none (by kernel_rfl) trivial (by simp [holdsB]) ?_
   simp only [go_sem,seval,hm1,s2,g1,g2,V.enc_eq x,hA,hZ]
   refine ⟨by omega,by omega,fun B3=>⟨fun k1=>?_,fun k1 zk e' B4=>?_⟩⟩
   ·have hk1:=hnil k1
    repeat' (first
     | ((refine (ACalls.emb (pair_do x t Q _ _ hk1) [5,4] rfl rfl rfl (by decide) rfl ?_)<;>(rintro c H' ⟨ez,Bz,rfl,rfl⟩ _;refine ⟨rfl,rfl,?_⟩))<;>(try simp only [go_sem,seval,hm1,tmW,tmF,id_eq]))
     | fail)
    refine AW.placeD 3 3 5 4 rfl rfl rfl rfl (by decide) (fun Q2=>?_)
    refine rS_ Tryz.func105 ?_
    simp only [go_sem,seval]
    try simp only [hw]
    refine hnx (some (Q2,ez,Bz)) B3 _ ⟨by omega,fun h=>by cases h⟩ (by omega) (by refine ⟨by simp [mkS,accC,accO,any4,List.replicate,hw],by simp [mkS,accC,accO,any4,List.replicate,hw],by simp only [mkS,a_,b_,O.refsLt,C.refsLt,C.refsLt1,all_dmap];first | done | rfl | (simp;done),?_⟩;simp [mkS,Abs.get,C.refsLtT,C.refsLt,C.refsLt1])
   ·refine ACalls.wid (r:=6) rfl (fun hz=>?_)
    obtain rfl:=kid4 k1 hz
    repeat' (first
     | ((refine (ACalls.emb (pair_oo x t 0 _ Q _ _ _) [5,6,4] rfl rfl rfl (by decide) rfl ?_)<;>(rintro c H' ⟨ez,Bz,rfl,rfl⟩ _;refine ⟨rfl,rfl,?_⟩))<;>(try simp only [go_sem,seval,hm1,tmW,tmF,id_eq]))
     | fail)
    refine AW.placeD 3 3 5 4 rfl rfl rfl rfl (by decide) (fun Q2=>?_)
    refine rS_ Tryz.func105 ?_
    simp only [go_sem,seval]
    try simp only [hw]
    refine hnx (some (Q2,ez,Bz)) B3 _ ⟨by omega,fun h=>by cases h⟩ (by omega) (by refine ⟨by simp [mkS,accC,accO,any4,List.replicate,hw],by simp [mkS,accC,accO,any4,List.replicate,hw],by simp only [mkS,a_,b_,O.refsLt,C.refsLt,C.refsLt1,all_dmap];first | done | rfl | (simp;done),?_⟩;simp [mkS,Abs.get,C.refsLtT,C.refsLt,C.refsLt1])
end Go.Proofs.YtehcdhelbkjaeaaGreatDoor
