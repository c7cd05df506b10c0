import Derived.Test.YtehcdhelbkjaeaaGreatDoorW85
open List renaming all_cons→a_,all_nil→b_,getElem?_eq_some_iff→c_,length_map→d_,drop_eq_getElem_cons→e_,getElem?_eq_getElem→f_,length_replicate→g_
namespace Go.Proofs.YtehcdhelbkjaeaaGreatDoor
open Go.Abs
set_option maxRecDepth 100000
set_option maxHeartbeats 4000000
set_option linter.unusedSimpArgs false
set_option linter.unusedVariables false
theorem rdL_item' {T:List (List UInt8)} {n j:Nat} {acc:List V} (h1:T[j]?≠some [41]) (h2:T[j]?≠some [46]):rdL true T (n+1) j acc=match rdT true T n j with | some (v,k)=>rdL true T n k (acc++[v]) | none=>none:=by
 cases hT:T[j]? with
 | none =>
  rw [rdL_none hT]
  cases n with
  | zero=>rfl
  | succ n=>rw [rdT_none hT]
 | some t=>exact rdL_item hT (fun e=>h1 (by rw [hT,e])) (fun e=>h2 (by rw [hT,e]))
def nilB:O:=.box [.d (.int .i64 0),.d (.int .i64 0),.d (.str []),.nil0]
theorem term_list (T:List (List UInt8)) (hTl:T.length≤20000) (n i:Nat) (hi:T[i]? = some [40]) (hn:2 * (T.length - i)+1≤n+1) (ih:∀m,m≤n→∀i,i≤T.length→2 * (T.length - i)+1≤m→tmG T m i):tmG T (n+1) i:=by
 intro te tr pe pr
 have hmx:maxLen=9223372036854775807:=rfl
 have hil:=(c_.1 hi).1
 have hdn:=done_R T i hTl
 have hnd:decide ((i:Int)=(T.length:Int))=false:=by simp;omega
 rw [hnd] at hdn
 have hpk:=peek_R T i hTl
 rw [hi] at hpk
 rw [show ((some [40]).getD ([]:List UInt8))=[40] from rfl] at hpk
 have hw:IntKind.i64.wrap ((i:Int)+1)=((i+1:Nat):Int):=by simp (disch:=omega) only [wrap_ok];omega
 rw [rdT_open hi]
 obtain ⟨R,hR⟩:∃R,rdL true T n (i+1) []=R:=⟨_,rfl⟩
 rw [hR]
 refine aE_ Tryz.func68 ?_
 refine rS_ Tryz.func68 ?_
 simp only [go_sem,seval,hw]
 repeat' (first
  | ((first
   | (refine (ACalls.emb hdn [1] rfl rfl rfl (by decide) rfl ?_)<;>(rintro c H' ⟨rfl,rfl⟩ _;refine ⟨rfl,rfl,?_⟩))
   | (refine (ACalls.emb hpk [1] rfl rfl rfl (by decide) rfl ?_)<;>(rintro c H' ⟨rfl,rfl⟩ _;refine ⟨rfl,rfl,?_⟩)))<;>(try simp only [go_sem,seval,hw]))
  | fail)
 refine AW.adoptT 5 4 89 (by decide) rfl ?_
 refine AW.lp [0,2] (fun u:Nat×Nat×Nat×List V×(Nat→Prop)=>[(5,.own 6 u.2.2.1)]) (fun _ u=>[.hole,.box [.d (.sl (strD T)),.d (.int .i64 (u.2.1:Int))],tabO,synO te pe,ranO tr pr,.box [.d (.int .i64 0),.d (.int .i64 0),.d (.str []),.nil0],.tree u.2.2.1 4 89 (u.2.2.2.1.map V.enc) u.2.2.2.2 none]) (fun u=>u.1≤n∧u.2.1≤T.length∧2 * (T.length - u.2.1)+2≤u.1∧rdL true T u.1 u.2.1 u.2.2.2.1=R∧u.2.2.2.1.length≤u.2.1) (fun u=>T.length - u.2.1) (n,i+1,0,[],fun _=>False) ⟨Nat.le_refl _,by dsimp only;omega,by dsimp only;omega,hR,by simp⟩ wk1_ ?_
 rintro ⟨m,j,q,L,B⟩ ⟨hm,hj,hf,hi2,hL⟩ hnext
 dsimp only at hm hj hf hi2 hL hnext ⊢
 obtain ⟨m,rfl⟩:∃m',m=m'+1:=⟨m - 1,by omega⟩
 have hwj:IntKind.i64.wrap ((j:Int)+1)=((j+1:Nat):Int):=by simp (disch:=omega) only [wrap_ok];omega
 have hmap:∀x:List V,(x.map V.enc).length=x.length:=fun x=>d_ _
 have hnx:=fun j2 L' q' B' s'=>hnext (m,j2,q',L',B') s'
 clear hnext
 dsimp only at hnx
 by_cases h41:T[j]? = some [41]
 ·rw [rdL_end h41] at hi2
  have hty:=take_yes T j [41] hTl h41
  have hlt:=list_T L q 89 B (by omega)
  rw [←hi2]
  refine rS_ Tryz.func68 ?_
  simp only [go_sem,seval]
  repeat' (first
   | (exact .inl ⟨ez,Bz,rfl,rfl⟩)
   | (exact .inr ⟨kz,rfl,rfl⟩)
   | ((first
    | (refine (ACalls.emb hty [1] rfl rfl rfl (by decide) rfl ?_)<;>(rintro c H' ⟨rfl,rfl⟩ _;refine ⟨rfl,rfl,?_⟩))
    | (refine (ACalls.emb hlt [0,6] rfl rfl rfl (by decide) rfl ?_)<;>(rintro c H' (⟨ez,Bz,rfl,rfl⟩ | ⟨kz,rfl,rfl⟩) _<;>refine ⟨rfl,rfl,?_⟩)))<;>(try simp only [go_sem,seval,tmW,tmF,id_eq]))
   | fail)
 ·have htn :=take_no T j [41] hTl (by simp) h41
  have hpj:=peek_R T j hTl
  by_cases h46:T[j]? = some [46]
  ·have hjl:=(c_.1 h46).1
   rw [rdL_dot h46] at hi2
   rw [h46,show ((some [46]).getD ([]:List UInt8))=[46] from rfl] at hpj
   have hdj:=done_R T j hTl
   have hndj:decide ((j:Int)=(T.length:Int))=false:=by simp;omega
   rw [hndj] at hdj
   have hg:=ih m (by omega) (j+1) (by omega) (by omega) te tr pe pr
   cases hr:rdT true T m (j+1) with
   | none =>
    rw [hr] at hi2 hg
    unfold tmR at hg
    dsimp only at hi2 hg
    rw [←hi2]
    refine AW.hole ?_
    refine rS_ Tryz.func68 ?_
    simp only [go_sem,seval,hwj]
    repeat' (first
     | (exact ⟨.nil,_,rfl,rfl,by omega⟩)
     | ((first
      | (refine (ACalls.emb htn [1] rfl rfl rfl (by decide) rfl ?_)<;>(rintro c H' ⟨rfl,rfl⟩ _;refine ⟨rfl,rfl,?_⟩))
      | (refine (ACalls.emb hpj [1] rfl rfl rfl (by decide) rfl ?_)<;>(rintro c H' ⟨rfl,rfl⟩ _;refine ⟨rfl,rfl,?_⟩))
      | (refine (ACalls.emb hdj [1] rfl rfl rfl (by decide) rfl ?_)<;>(rintro c H' ⟨rfl,rfl⟩ _;refine ⟨rfl,rfl,?_⟩))
      | (refine (ACalls.emb hg [7,1,2,3,4] rfl rfl rfl (by decide) rfl ?_)<;>(rintro c H' ⟨v0,k0,rfl,rfl,hkb⟩ _;refine ⟨rfl,rfl,?_⟩)))<;>(try simp only [go_sem,seval,hwj]))
     | fail)
   | some x =>
    obtain ⟨v,j2⟩:=x
    rw [hr] at hi2 hg
    have hb:=(rd_len true T m).1 _ _ _ hr
    unfold tmR tmP at hg
    dsimp only at hi2 hg
    by_cases hL0:L=[]
    ·rw [if_neg (fun h=>h.1 hL0)] at hi2
     have hl0:(L.length:Int)=0:=by rw [hL0];rfl
     rw [←hi2]
     refine AW.hole ?_
     refine rS_ Tryz.func68 ?_
     simp only [go_sem,seval,hwj]
     repeat' (first
      | (exact ⟨.nil,_,rfl,rfl,by omega⟩)
      | ((first
       | (refine (ACalls.emb htn [1] rfl rfl rfl (by decide) rfl ?_)<;>(rintro c H' ⟨rfl,rfl⟩ _;refine ⟨rfl,rfl,?_⟩))
       | (refine (ACalls.emb hpj [1] rfl rfl rfl (by decide) rfl ?_)<;>(rintro c H' ⟨rfl,rfl⟩ _;refine ⟨rfl,rfl,?_⟩))
       | (refine (ACalls.emb hdj [1] rfl rfl rfl (by decide) rfl ?_)<;>(rintro c H' ⟨rfl,rfl⟩ _;refine ⟨rfl,rfl,?_⟩))
       | (refine (ACalls.emb hg [7,1,2,3,4] rfl rfl rfl (by decide) rfl ?_)<;>(rintro c H' (⟨ez,Bz,rfl,rfl⟩ | ⟨kz,rfl,rfl⟩) _<;>refine ⟨rfl,rfl,?_⟩)))<;>(try simp only [go_sem,seval,hwj,hmap,hl0,tmW,tmF,tmP]))
      | fail)
    ·have hl0:¬(L.length:Int)=0:=fun h=>hL0 (List.eq_nil_of_length_eq_zero (by omega))
     by_cases h2:T[j2]? = some [41]
     ·rw [if_pos ⟨hL0,h2⟩] at hi2
      have hty:=take_yes T j2 [41] hTl h2
      rw [←hi2]
      refine AW.hole ?_
      refine rS_ Tryz.func68 ?_
      simp only [go_sem,seval,hwj]
      repeat' (first
       | (simp (disch:=omega) only [wrap_ok])
       | ((first
        | (refine (ACalls.emb htn [1] rfl rfl rfl (by decide) rfl ?_)<;>(rintro c H' ⟨rfl,rfl⟩ _;refine ⟨rfl,rfl,?_⟩))
        | (refine (ACalls.emb hpj [1] rfl rfl rfl (by decide) rfl ?_)<;>(rintro c H' ⟨rfl,rfl⟩ _;refine ⟨rfl,rfl,?_⟩))
        | (refine (ACalls.emb hdj [1] rfl rfl rfl (by decide) rfl ?_)<;>(rintro c H' ⟨rfl,rfl⟩ _;refine ⟨rfl,rfl,?_⟩))
        | (refine (ACalls.emb hg [7,1,2,3,4] rfl rfl rfl (by decide) rfl ?_)<;>(rintro c H' (⟨ez,Bz,rfl,rfl⟩ | ⟨kz,rfl,rfl⟩) _<;>refine ⟨rfl,rfl,?_⟩))
        | (refine (ACalls.emb hty [1] rfl rfl rfl (by decide) rfl ?_)<;>(rintro c H' ⟨rfl,rfl⟩ _;refine ⟨rfl,rfl,?_⟩)))<;>(try simp only [go_sem,seval,hwj,hmap,hl0,tmW,tmF,tmP]))
       | fail)
      ·refine AW.hole ?_
       refine AW.forget 9 ?_
       refine AW.placeD 8 3 7 9 rfl rfl rfl rfl (by decide) (fun Q0=>?_)
       refine AW.lp [2,5,6] (fun u:Nat×Option (Nat×Nat×(Nat→Prop))×(Nat→Prop)=>[(8,.d (.int .i64 ((u.1:Int) - 1)))]) (fun _ u=>[.hole,.box [.d (.sl (strD T)),.d (.int .i64 ((j2+1:Nat):Int))],tabO,synO te pe,ranO tr pr,.box [.d (.int .i64 0),.d (.int .i64 0),.d (.str []),.nil0],.tree q 4 89 ((L.take u.1).map V.enc++List.replicate (L.length - u.1) any4) u.2.2 none,.dead,.box (accC (lst (L.drop u.1) v) 9 u.2.1),accO (lst (L.drop u.1) v) u.2.1]) (fun u=>u.1≤L.length∧(u.2.1=none→(lst (L.drop u.1) v).kids=[])) (fun u=>u.1) (L.length,(some (Q0,ez,Bz)),B) ⟨Nat.le_refl _,(fun h=>by cases h)⟩ (by refine ⟨by simp [mkS,lst,accC,accO],by simp [mkS,lst,accC,accO],by simp only [mkS,a_,b_,O.refsLt,C.refsLt,C.refsLt1,all_dmap];first | done | rfl | (simp;done),?_⟩;simp [mkS,Abs.get,C.refsLtT,C.refsLt,C.refsLt1]) ?_
       rintro ⟨l,o,B'⟩ ⟨hl,ho⟩ hnl
       dsimp only at hl ho hnl ⊢
       cases l with
       | zero =>
        rw [List.drop_zero] at ho ⊢
        cases o with
        | none =>
         have hk:=ho rfl
         unfold accC accO
         dsimp only
         refine rS_ Tryz.func68 ?_
         simp only [go_sem,seval]
         repeat' (first
          | (exact .inr ⟨hk,rfl,rfl⟩)
          | fail)
        | some o =>
         obtain ⟨Q,e2,B2⟩:=o
         unfold accC accO
         dsimp only
         refine AW.placeB 8 3 9 0 rfl rfl rfl rfl (by decide) ?_
         refine rS_ Tryz.func68 ?_
         simp only [go_sem,seval]
         repeat' (first
          | (exact .inl ⟨e2,B2,rfl,rfl⟩)
          | fail)
       | succ l =>
        have hm1:(l:Int)+1 - 1=l:=by omega
        obtain ⟨x,hx⟩:∃x,L[l]? = some x:=⟨L[l],f_ hl⟩
        have hdr:lst (L.drop l) v=.pair x (lst (L.drop (l+1)) v):=by
         obtain ⟨h1,h2⟩:=c_.1 hx
         rw [e_ h1,h2];rfl
        have htk:(L.take (l+1)).map V.enc++List.replicate (L.length - (l+1)) any4=(L.take l).map V.enc++x.enc :: List.replicate (L.length - (l+1)) any4:=by
         rw [List.take_add_one,hx];simp
        have hrp:any4 :: List.replicate (L.length - (l+1)) any4=List.replicate (L.length - l) any4:=by
         rw [←List.replicate_succ,show L.length - (l+1)+1=L.length - l from by omega]
        have hwm:IntKind.i64.wrap ((l:Int) - 1)=(l:Int) - 1:=by simp (disch:=omega) only [wrap_ok]
        have hnl:=fun o' B3 s'=>hnl (l,o',B3) s'
        dsimp only at hnl
        rw [hdr,←hrp] at hnl
        rw [htk]
        generalize lst (L.drop (l+1)) v=t at *
        have hA:((L.take l).map V.enc).length=l:=by rw [d_,List.length_take];omega
        have hZ:(List.replicate (L.length - (l+1)) any4).length=L.length - (l+1):=g_
        generalize (L.take l).map V.enc=A at *
        generalize List.replicate (L.length - (l+1)) any4=Z at *
        have s2:=fun (y y':List D)=>set_split (x:=y) (y:=y') (r:=Z) hA
        have g1:=fun (y:List D)=>at_split (x:=y) (r:=Z) hA
        have g2:=fun (y:List D) (Q:List D→Prop)=>idx_of (g1 y) Q
        have hnil:(x.kids.map V.enc=[])→x.kids=[]:=fun h=>by simpa using h
        refine AW.hole ?_
        cases o with
        | none =>
         have hk:=ho rfl
         unfold accC accO
         dsimp only
         refine run_sound Tryz.func68 mixed 7 _ _ (by kernel_rfl) ?_
         simp only [go_sem,seval,run.eq_1,hm1]
         refine AW.drawM mixed #[true,true,true,true,true,true,false] [(8,.box [.d (.int .i64 t.kind),.d (.int .i64 t.int),.d (.str t.name),.d (.sl [])])] [2,3] [0,1,4,2,3,5] [6] none (by kernel_rfl) trivial (by simp [holdsB]) ?_
         simp only [go_sem,seval,hm1,s2,g1,g2,V.enc_eq x,hA,hZ]
         refine ⟨by omega,by omega,fun B3=>⟨fun k1=>?_,fun k1 zk e' B4=>?_⟩⟩
         ·have hk1:=hnil k1
          repeat' (first
           | ((refine (ACalls.emb (pair_dd x t hk1 hk) [10] rfl rfl rfl (by decide) rfl ?_)<;>(rintro c H' ⟨ez,Bz,rfl,rfl⟩ _;refine ⟨rfl,rfl,?_⟩))<;>(try simp only [go_sem,seval,hm1,tmW,tmF,id_eq]))
           | fail)
          refine AW.placeD 8 3 10 9 rfl rfl rfl rfl (by decide) (fun Q2=>?_)
          refine rS_ Tryz.func68 ?_
          simp only [go_sem,seval]
          try simp only [hwm]
          refine hnl (some (Q2,ez,Bz)) B3 _ ⟨by omega,fun h=>by cases h⟩ (by omega) (by refine ⟨by simp [mkS,accC,accO,any4,List.replicate,hwm],by simp [mkS,accC,accO,any4,List.replicate,hwm],by simp only [mkS,a_,b_,O.refsLt,C.refsLt,C.refsLt1,all_dmap];first | done | rfl | (simp;done),?_⟩;simp [mkS,Abs.get,C.refsLtT,C.refsLt,C.refsLt1])
         ·refine ACalls.wid (r:=11) rfl (fun hz=>?_)
          obtain rfl:=kid4 k1 hz
          repeat' (first
           | ((refine (ACalls.emb (pair_od x t 0 _ _ hk) [10,11] rfl rfl rfl (by decide) rfl ?_)<;>(rintro c H' ⟨ez,Bz,rfl,rfl⟩ _;refine ⟨rfl,rfl,?_⟩))<;>(try simp only [go_sem,seval,hm1,tmW,tmF,id_eq]))
           | fail)
          refine AW.placeD 8 3 10 9 rfl rfl rfl rfl (by decide) (fun Q2=>?_)
          refine rS_ Tryz.func68 ?_
          simp only [go_sem,seval]
          try simp only [hwm]
          refine hnl (some (Q2,ez,Bz)) B3 _ ⟨by omega,fun h=>by cases h⟩ (by omega) (by refine ⟨by simp [mkS,accC,accO,any4,List.replicate,hwm],by simp [mkS,accC,accO,any4,List.replicate,hwm],by simp only [mkS,a_,b_,O.refsLt,C.refsLt,C.refsLt1,all_dmap];first | done | rfl | (simp;done),?_⟩;simp [mkS,Abs.get,C.refsLtT,C.refsLt,C.refsLt1])
        | some o =>
         obtain ⟨Q,e2,B2⟩:=o
         unfold accC accO
         dsimp only
         refine run_sound Tryz.func68 mixed 7 _ _ (by kernel_rfl) ?_
         simp only [go_sem,seval,run.eq_1,hm1]
         refine AW.drawM mixed #[true,true,true,true,true,true,false] [(8,.box [.d (.int .i64 t.kind),.d (.int .i64 t.int),.d (.str t.name),.own 9 Q])] [2,3] [0,1,4,2,3,5] [6] none (by kernel_rfl) trivial (by simp [holdsB]) ?_
         simp only [go_sem,seval,hm1,s2,g1,g2,V.enc_eq x,hA,hZ]
         refine ⟨by omega,by omega,fun B3=>⟨fun k1=>?_,fun k1 zk e' B4=>?_⟩⟩
         ·have hk1:=hnil k1
          repeat' (first
           | ((refine (ACalls.emb (pair_do x t Q _ _ hk1) [10,9] rfl rfl rfl (by decide) rfl ?_)<;>(rintro c H' ⟨ez,Bz,rfl,rfl⟩ _;refine ⟨rfl,rfl,?_⟩))<;>(try simp only [go_sem,seval,hm1,tmW,tmF,id_eq]))
           | fail)
          refine AW.placeD 8 3 10 9 rfl rfl rfl rfl (by decide) (fun Q2=>?_)
          refine rS_ Tryz.func68 ?_
          simp only [go_sem,seval]
          try simp only [hwm]
          refine hnl (some (Q2,ez,Bz)) B3 _ ⟨by omega,fun h=>by cases h⟩ (by omega) (by refine ⟨by simp [mkS,accC,accO,any4,List.replicate,hwm],by simp [mkS,accC,accO,any4,List.replicate,hwm],by simp only [mkS,a_,b_,O.refsLt,C.refsLt,C.refsLt1,all_dmap];first | done | rfl | (simp;done),?_⟩;simp [mkS,Abs.get,C.refsLtT,C.refsLt,C.refsLt1])
         ·refine ACalls.wid (r:=11) rfl (fun hz=>?_)
          obtain rfl:=kid4 k1 hz
          repeat' (first
           | ((refine (ACalls.emb (pair_oo x t 0 _ Q _ _ _) [10,11,9] rfl rfl rfl (by decide) rfl ?_)<;>(rintro c H' ⟨ez,Bz,rfl,rfl⟩ _;refine ⟨rfl,rfl,?_⟩))<;>(try simp only [go_sem,seval,hm1,tmW,tmF,id_eq]))
           | fail)
          refine AW.placeD 8 3 10 9 rfl rfl rfl rfl (by decide) (fun Q2=>?_)
          refine rS_ Tryz.func68 ?_
          simp only [go_sem,seval]
          try simp only [hwm]
          refine hnl (some (Q2,ez,Bz)) B3 _ ⟨by omega,fun h=>by cases h⟩ (by omega) (by refine ⟨by simp [mkS,accC,accO,any4,List.replicate,hwm],by simp [mkS,accC,accO,any4,List.replicate,hwm],by simp only [mkS,a_,b_,O.refsLt,C.refsLt,C.refsLt1,all_dmap];first | done | rfl | (simp;done),?_⟩;simp [mkS,Abs.get,C.refsLtT,C.refsLt,C.refsLt1])
      ·refine AW.hole ?_
       refine AW.forget 9 ?_
       refine AW.forget 7 ?_
       refine AW.lp [2,5,6] (fun u:Nat×Option (Nat×Nat×(Nat→Prop))×(Nat→Prop)=>[(8,.d (.int .i64 ((u.1:Int) - 1)))]) (fun _ u=>[.hole,.box [.d (.sl (strD T)),.d (.int .i64 ((j2+1:Nat):Int))],tabO,synO te pe,ranO tr pr,.box [.d (.int .i64 0),.d (.int .i64 0),.d (.str []),.nil0],.tree q 4 89 ((L.take u.1).map V.enc++List.replicate (L.length - u.1) any4) u.2.2 none,.dead,.box (accC (lst (L.drop u.1) v) 9 u.2.1),accO (lst (L.drop u.1) v) u.2.1]) (fun u=>u.1≤L.length∧(u.2.1=none→(lst (L.drop u.1) v).kids=[])) (fun u=>u.1) (L.length,none,B) ⟨Nat.le_refl _,(fun _=>by simpa [lst] using kz)⟩ (by refine ⟨by simp [mkS,lst,accC,accO],by simp [mkS,lst,accC,accO],by simp only [mkS,a_,b_,O.refsLt,C.refsLt,C.refsLt1,all_dmap];first | done | rfl | (simp;done),?_⟩;simp [mkS,Abs.get,C.refsLtT,C.refsLt,C.refsLt1]) ?_
       rintro ⟨l,o,B'⟩ ⟨hl,ho⟩ hnl
       dsimp only at hl ho hnl ⊢
       cases l with
       | zero =>
        rw [List.drop_zero] at ho ⊢
        cases o with
        | none =>
         have hk:=ho rfl
         unfold accC accO
         dsimp only
         refine rS_ Tryz.func68 ?_
         simp only [go_sem,seval]
         repeat' (first
          | (exact .inr ⟨hk,rfl,rfl⟩)
          | fail)
        | some o =>
         obtain ⟨Q,e2,B2⟩:=o
         unfold accC accO
         dsimp only
         refine AW.placeB 8 3 9 0 rfl rfl rfl rfl (by decide) ?_
         refine rS_ Tryz.func68 ?_
         simp only [go_sem,seval]
         repeat' (first
          | (exact .inl ⟨e2,B2,rfl,rfl⟩)
          | fail)
       | succ l =>
        have hm1:(l:Int)+1 - 1=l:=by omega
        obtain ⟨x,hx⟩:∃x,L[l]? = some x:=⟨L[l],f_ hl⟩
        have hdr:lst (L.drop l) v=.pair x (lst (L.drop (l+1)) v):=by
         obtain ⟨h1,h2⟩:=c_.1 hx
         rw [e_ h1,h2];rfl
        have htk:(L.take (l+1)).map V.enc++List.replicate (L.length - (l+1)) any4=(L.take l).map V.enc++x.enc :: List.replicate (L.length - (l+1)) any4:=by
         rw [List.take_add_one,hx];simp
        have hrp:any4 :: List.replicate (L.length - (l+1)) any4=List.replicate (L.length - l) any4:=by
         rw [←List.replicate_succ,show L.length - (l+1)+1=L.length - l from by omega]
        have hwm:IntKind.i64.wrap ((l:Int) - 1)=(l:Int) - 1:=by simp (disch:=omega) only [wrap_ok]
        have hnl:=fun o' B3 s'=>hnl (l,o',B3) s'
        dsimp only at hnl
        rw [hdr,←hrp] at hnl
        rw [htk]
        generalize lst (L.drop (l+1)) v=t at *
        have hA:((L.take l).map V.enc).length=l:=by rw [d_,List.length_take];omega
        have hZ:(List.replicate (L.length - (l+1)) any4).length=L.length - (l+1):=g_
        generalize (L.take l).map V.enc=A at *
        generalize List.replicate (L.length - (l+1)) any4=Z at *
        have s2:=fun (y y':List D)=>set_split (x:=y) (y:=y') (r:=Z) hA
        have g1:=fun (y:List D)=>at_split (x:=y) (r:=Z) hA
        have g2:=fun (y:List D) (Q:List D→Prop)=>idx_of (g1 y) Q
        have hnil:(x.kids.map V.enc=[])→x.kids=[]:=fun h=>by simpa using h
        refine AW.hole ?_
        cases o with
        | none =>
         have hk:=ho rfl
         unfold accC accO
         dsimp only
         refine run_sound Tryz.func68 mixed 7 _ _ (by kernel_rfl) ?_
         simp only [go_sem,seval,run.eq_1,hm1]
         refine AW.drawM mixed #[true,true,true,true,true,true,false] [(8,.box [.d (.int .i64 t.kind),.d (.int .i64 t.int),.d (.str t.name),.d (.sl [])])] [2,3] [0,1,4,2,3,5] [6] none (by kernel_rfl) trivial (by simp [holdsB]) ?_
         simp only [go_sem,seval,hm1,s2,g1,g2,V.enc_eq x,hA,hZ]
         refine ⟨by omega,by omega,fun B3=>⟨fun k1=>?_,fun k1 zk e' B4=>?_⟩⟩
         ·have hk1:=hnil k1
          repeat' (first
           | ((refine (ACalls.emb (pair_dd x t hk1 hk) [10] rfl rfl rfl (by decide) rfl ?_)<;>(rintro c H' ⟨ez,Bz,rfl,rfl⟩ _;refine ⟨rfl,rfl,?_⟩))<;>(try simp only [go_sem,seval,hm1,tmW,tmF,id_eq]))
           | fail)
          refine AW.placeD 8 3 10 9 rfl rfl rfl rfl (by decide) (fun Q2=>?_)
          refine rS_ Tryz.func68 ?_
          simp only [go_sem,seval]
          try simp only [hwm]
          refine hnl (some (Q2,ez,Bz)) B3 _ ⟨by omega,fun h=>by cases h⟩ (by omega) (by refine ⟨by simp [mkS,accC,accO,any4,List.replicate,hwm],by simp [mkS,accC,accO,any4,List.replicate,hwm],by simp only [mkS,a_,b_,O.refsLt,C.refsLt,C.refsLt1,all_dmap];first | done | rfl | (simp;done),?_⟩;simp [mkS,Abs.get,C.refsLtT,C.refsLt,C.refsLt1])
         ·refine ACalls.wid (r:=11) rfl (fun hz=>?_)
          obtain rfl:=kid4 k1 hz
          repeat' (first
           | ((refine (ACalls.emb (pair_od x t 0 _ _ hk) [10,11] rfl rfl rfl (by decide) rfl ?_)<;>(rintro c H' ⟨ez,Bz,rfl,rfl⟩ _;refine ⟨rfl,rfl,?_⟩))<;>(try simp only [go_sem,seval,hm1,tmW,tmF,id_eq]))
           | fail)
          refine AW.placeD 8 3 10 9 rfl rfl rfl rfl (by decide) (fun Q2=>?_)
          refine rS_ Tryz.func68 ?_
          simp only [go_sem,seval]
          try simp only [hwm]
          refine hnl (some (Q2,ez,Bz)) B3 _ ⟨by omega,fun h=>by cases h⟩ (by omega) (by refine ⟨by simp [mkS,accC,accO,any4,List.replicate,hwm],by simp [mkS,accC,accO,any4,List.replicate,hwm],by simp only [mkS,a_,b_,O.refsLt,C.refsLt,C.refsLt1,all_dmap];first | done | rfl | (simp;done),?_⟩;simp [mkS,Abs.get,C.refsLtT,C.refsLt,C.refsLt1])
        | some o =>
         obtain ⟨Q,e2,B2⟩:=o
         unfold accC accO
         dsimp only
         refine run_sound Tryz.func68 mixed 7 _ _ (by kernel_rfl) ?_
         simp only [go_sem,seval,run.eq_1,hm1]
         refine AW.drawM mixed #[true,true,true,true,true,true,false] [(8,.box [.d (.int .i64 t.kind),.d (.int .i64 t.int),.d (.str t.name),.own 9 Q])] [2,3] [0,1,4,2,3,5] [6] none (by kernel_rfl) trivial (by simp [holdsB]) ?_
         simp only [go_sem,seval,hm1,s2,g1,g2,V.enc_eq x,hA,hZ]
         refine ⟨by omega,by omega,fun B3=>⟨fun k1=>?_,fun k1 zk e' B4=>?_⟩⟩
         ·have hk1:=hnil k1
          repeat' (first
           | ((refine (ACalls.emb (pair_do x t Q _ _ hk1) [10,9] rfl rfl rfl (by decide) rfl ?_)<;>(rintro c H' ⟨ez,Bz,rfl,rfl⟩ _;refine ⟨rfl,rfl,?_⟩))<;>(try simp only [go_sem,seval,hm1,tmW,tmF,id_eq]))
           | fail)
          refine AW.placeD 8 3 10 9 rfl rfl rfl rfl (by decide) (fun Q2=>?_)
          refine rS_ Tryz.func68 ?_
          simp only [go_sem,seval]
          try simp only [hwm]
          refine hnl (some (Q2,ez,Bz)) B3 _ ⟨by omega,fun h=>by cases h⟩ (by omega) (by refine ⟨by simp [mkS,accC,accO,any4,List.replicate,hwm],by simp [mkS,accC,accO,any4,List.replicate,hwm],by simp only [mkS,a_,b_,O.refsLt,C.refsLt,C.refsLt1,all_dmap];first | done | rfl | (simp;done),?_⟩;simp [mkS,Abs.get,C.refsLtT,C.refsLt,C.refsLt1])
         ·refine ACalls.wid (r:=11) rfl (fun hz=>?_)
          obtain rfl:=kid4 k1 hz
          repeat' (first
           | ((refine (ACalls.emb (pair_oo x t 0 _ Q _ _ _) [10,11,9] rfl rfl rfl (by decide) rfl ?_)<;>(rintro c H' ⟨ez,Bz,rfl,rfl⟩ _;refine ⟨rfl,rfl,?_⟩))<;>(try simp only [go_sem,seval,hm1,tmW,tmF,id_eq]))
           | fail)
          refine AW.placeD 8 3 10 9 rfl rfl rfl rfl (by decide) (fun Q2=>?_)
          refine rS_ Tryz.func68 ?_
          simp only [go_sem,seval]
          try simp only [hwm]
          refine hnl (some (Q2,ez,Bz)) B3 _ ⟨by omega,fun h=>by cases h⟩ (by omega) (by refine ⟨by simp [mkS,accC,accO,any4,List.replicate,hwm],by simp [mkS,accC,accO,any4,List.replicate,hwm],by simp only [mkS,a_,b_,O.refsLt,C.refsLt,C.refsLt1,all_dmap];first | done | rfl | (simp;done),?_⟩;simp [mkS,Abs.get,C.refsLtT,C.refsLt,C.refsLt1])
     ·rw [if_neg (fun h=>h2 h.2)] at hi2
      have htm:=take_no T j2 [41] hTl (by simp) h2
      rw [←hi2]
      refine AW.hole ?_
      refine rS_ Tryz.func68 ?_
      simp only [go_sem,seval,hwj]
      repeat' (first
       | (exact ⟨.nil,_,rfl,rfl,by omega⟩)
       | ((first
        | (refine (ACalls.emb htn [1] rfl rfl rfl (by decide) rfl ?_)<;>(rintro c H' ⟨rfl,rfl⟩ _;refine ⟨rfl,rfl,?_⟩))
        | (refine (ACalls.emb hpj [1] rfl rfl rfl (by decide) rfl ?_)<;>(rintro c H' ⟨rfl,rfl⟩ _;refine ⟨rfl,rfl,?_⟩))
        | (refine (ACalls.emb hdj [1] rfl rfl rfl (by decide) rfl ?_)<;>(rintro c H' ⟨rfl,rfl⟩ _;refine ⟨rfl,rfl,?_⟩))
        | (refine (ACalls.emb hg [7,1,2,3,4] rfl rfl rfl (by decide) rfl ?_)<;>(rintro c H' (⟨ez,Bz,rfl,rfl⟩ | ⟨kz,rfl,rfl⟩) _<;>refine ⟨rfl,rfl,?_⟩))
        | (refine (ACalls.emb htm [1] rfl rfl rfl (by decide) rfl ?_)<;>(rintro c H' ⟨rfl,rfl⟩ _;refine ⟨rfl,rfl,?_⟩)))<;>(try simp only [go_sem,seval,hwj,hmap,hl0,tmW,tmF,tmP]))
       | fail)
  ·rw [rdL_item' h41 h46] at hi2
   have hp46:¬(T[j]?.getD [])=[46]:=fun h=>by
    cases h2:T[j]? with
    | none=>rw [h2] at h;cases h
    | some t=>rw [h2] at h h46;exact h46 (by rw [←h];rfl)
   generalize (T[j]?.getD [])=p at *
   have hg:=ih m (by omega) j hj (by omega) te tr pe pr
   cases hr:rdT true T m j with
   | none =>
    rw [hr] at hi2 hg
    unfold tmR at hg
    dsimp only at hi2 hg
    rw [←hi2]
    refine AW.hole ?_
    refine rS_ Tryz.func68 ?_
    simp only [go_sem,seval,hp46]
    repeat' (first
     | (exact ⟨.nil,_,rfl,rfl,by omega⟩)
     | ((first
      | (refine (ACalls.emb htn [1] rfl rfl rfl (by decide) rfl ?_)<;>(rintro c H' ⟨rfl,rfl⟩ _;refine ⟨rfl,rfl,?_⟩))
      | (refine (ACalls.emb hpj [1] rfl rfl rfl (by decide) rfl ?_)<;>(rintro c H' ⟨rfl,rfl⟩ _;refine ⟨rfl,rfl,?_⟩))
      | (refine (ACalls.emb hg [7,1,2,3,4] rfl rfl rfl (by decide) rfl ?_)<;>(rintro c H' ⟨v0,k0,rfl,rfl,hkb⟩ _;refine ⟨rfl,rfl,?_⟩)))<;>(try simp only [go_sem,seval,hp46]))
     | fail)
   | some x =>
    obtain ⟨v,j2⟩:=x
    rw [hr] at hi2 hg
    have hb:=(rd_len true T m).1 _ _ _ hr
    unfold tmR tmP at hg
    dsimp only at hi2 hg
    refine AW.hole ?_
    refine run_sound Tryz.func68 mixed 18 _ _ (by kernel_rfl) ?_
    simp only [go_sem,seval,run.eq_1,hp46]
    repeat' (first
     | ((first
      | (refine (ACalls.emb htn [1] rfl rfl rfl (by decide) rfl ?_)<;>(rintro c H' ⟨rfl,rfl⟩ _;refine ⟨rfl,rfl,?_⟩))
      | (refine (ACalls.emb hpj [1] rfl rfl rfl (by decide) rfl ?_)<;>(rintro c H' ⟨rfl,rfl⟩ _;refine ⟨rfl,rfl,?_⟩))
      | (refine (ACalls.emb hg [7,1,2,3,4] rfl rfl rfl (by decide) rfl ?_)<;>(rintro c H' (⟨ez,Bz,rfl,rfl⟩ | ⟨kz,rfl,rfl⟩) _<;>refine ⟨rfl,rfl,?_⟩)))<;>(try simp only [go_sem,seval,hp46,tmW,tmF,tmP,run.eq_1]))
     | fail)
    ·refine AW.regT ?_
     simp only [go_sem,seval,hmap]
     repeat' (first
      | ((first
       | (refine all_intro (fun Bq=>?_))
       | (refine ⟨sd,?_⟩))<;>(try simp only [go_sem,seval,hmap]))
      | fail)
     refine rS_ Tryz.func68 ?_
     simp only [go_sem,seval]
     refine hnx j2 (L++[v]) (q+1) Bq _ ⟨by omega,by omega,by omega,hi2,by simp;omega⟩ (by omega) (by refine ⟨by simp [mkS,V.enc_eq v],by simp [mkS,V.enc_eq v],by simp only [mkS,a_,b_,O.refsLt,C.refsLt,C.refsLt1,all_dmap];first | done | rfl | (simp;done),?_⟩;simp [mkS,Abs.get,C.refsLtT,C.refsLt,C.refsLt1])
    ·refine AW.regT ?_
     simp only [go_sem,seval,hmap]
     repeat' (first
      | ((first
       | (refine all_intro (fun Bq=>?_))
       | (refine ⟨sd,?_⟩))<;>(try simp only [go_sem,seval,hmap]))
      | fail)
     refine rS_ Tryz.func68 ?_
     simp only [go_sem,seval]
     refine hnx j2 (L++[v]) (q+1) Bq _ ⟨by omega,by omega,by omega,hi2,by simp;omega⟩ (by omega) (by refine ⟨by simp [mkS,V.enc_eq v,kz],by simp [mkS,V.enc_eq v,kz],by simp only [mkS,a_,b_,O.refsLt,C.refsLt,C.refsLt1,all_dmap];first | done | rfl | (simp;done),?_⟩;simp [mkS,Abs.get,C.refsLtT,C.refsLt,C.refsLt1])
end Go.Proofs.YtehcdhelbkjaeaaGreatDoor
