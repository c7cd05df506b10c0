import Derived.Test.YtlajhmoomlgopaaGreatW81
import Derived.Test.YtlajhmoomlgopaaGreatP14
open List renaming length_cons→a_,length_append→b_,getElem?_eq_some_iff→c_,length_nil→d_,all_cons→e_,all_nil→f_,mem_of_getElem?→g_,findIdx_cons→h_,getElem?_eq_getElem→i_
open Nat renaming lt_succ_iff_lt_or_eq→j_
namespace Go.Proofs.YtlajhmoomlgopaaGreat
open Go.Abs
set_option maxRecDepth 100000
set_option maxHeartbeats 4000000
set_option linter.unusedSimpArgs false
set_option linter.unusedVariables false
theorem l15Heads_fn:Gives Tryz.prog 139 [] (.d (.sl (strD headsT))):=by
 refine aE_ Tryz.func139 ?_
 refine rS_ Tryz.func139 ?_
 simp only [go_sem,seval]
 all_goals rfl
theorem l15Read_fn (T:List (List UInt8)) (hTl:T.length≤20000) (hTm:∀t,t∈T→t.length≤100000):∀(n i:Nat) (G:Gl) (J:Nat),i≤T.length→rgT T n i=some (G,J)→Gives Tryz.prog 102 [.sl (strD T),.int .i64 i] (.tup [.d (.agg G.enc),.d (.int .i64 J),.d (.bool true)]):=by
 intro n
 induction n using Nat.strongRecOn with
 | ind n ih =>
  intro i G J hi hR
  have hmx:maxLen=9223372036854775807:=rfl
  obtain ⟨n,rfl⟩:∃n',n=n'+1:=by
   cases n with
   | zero=>rw [rgT] at hR;cases hR
   | succ n=>exact ⟨n,rfl⟩
  cases hTi:T[i]? with
  | none=>rw [rgT,hTi] at hR;cases hR
  | some t =>
   have hil:=(c_.1 hTi).1
   have n0:(i:Int)<(T.length:Int):=by omega
   have hix:=strD_at hTi
   have hw1:IntKind.i64.wrap ((i:Int)+1)=((i+1:Nat):Int):=by simp (disch:=omega) only [j6];omega
   have e0:headT 0=[116,114,117,101]:=rfl
   have e1:headT 1=[102,97,105,108]:=rfl
   have d1:¬([102,97,105,108]:List UInt8)=[116,114,117,101]:=by decide
   have d2:¬([40]:List UInt8)=[116,114,117,101]:=by decide
   have d3:¬([40]:List UInt8)=[102,97,105,108]:=by decide
   rcases rgT_kind hR hTi with ⟨h0,rfl,rfl⟩ | ⟨h0,h1,rfl,rfl⟩ | ⟨h0,h1,h4,w,hw,hL⟩
   ·rw [e0] at h0
    subst h0
    have hE:(Gl.mk 0 [] [] []).enc=[.int .i64 0,.str [],.sl [],.sl []]:=rfl
    rw [hE]
    refine aE_ Tryz.func102 ?_
    refine rS_ Tryz.func102 ?_
    simp only [go_sem,seval,n0,strD_len,j5 hix,hw1]
   ·rw [e1] at h1
    subst h1
    have hE:(Gl.mk 1 [] [] []).enc=[.int .i64 1,.str [],.sl [],.sl []]:=rfl
    rw [hE]
    refine aE_ Tryz.func102 ?_
    refine rS_ Tryz.func102 ?_
    simp only [go_sem,seval,n0,strD_len,j5 hix,hw1,d1]
   ·subst h4
    have hwl:=(c_.1 hw).1
    have hwx:=strD_at hw
    have n2:(i:Int)+1<(T.length:Int):=by omega
    have n3:¬(T.length:Int)≤(i:Int)+1:=by omega
    have hw2:IntKind.i64.wrap ((i:Int)+2)=((i+2:Nat):Int):=by simp (disch:=omega) only [j6];omega
    have hhl:∀x:List (List UInt8),(strD x).length=x.length:=fun x=>strD_len x
    have hwi:((i:Int)+1).toNat=i+1:=by omega
    refine aE_ Tryz.func102 ?_
    refine rS_ Tryz.func102 ?_
    simp only [go_sem,seval,n0,n2,n3,strD_len,j5 hix,j5 hwx,hw1,d2,d3,hwi]
    repeat' (first
     | ((first
      | (refine (l15Heads_fn).calls rfl ?_)
      | (refine ⟨sd,?_⟩))<;>(try simp only [go_sem,seval,n0,n2,n3,strD_len,j5 hix,j5 hwx,hw1,d2,d3,hwi]))
     | fail)
    refine AW.rng headsT [0,1,4,7,63,64] 65 63 (fun s:Int×List UInt8=>[]) (fun _ s=>[.box [.d (.int .i64 0),.d (.str []),.nil0,.nil0],.box [.d (.int .i64 s.1),.d (.str s.2),.nil0,.nil0]]) (fun r s=>hdF w r (headsT.length - r.length) s=hdF w headsT 0 (9,w)) (9,w) rfl (by simp [strD_len]) (by simp) wk1_ (fun k x r s hxk hdr hlt hm hinv hnext=>?_) (fun s hinv=>?_)
    ·have hkl:=congrArg List.length hdr
     simp only [List.length_drop,a_] at hkl
     have hkk:headsT.length - (r.length+1)=k:=by omega
     simp only [hdF,a_,hkk] at hinv
     have hk1:headsT.length - r.length=k+1:=by omega
     have hxx:=strD_at hxk
     by_cases e:x=w
     ·rw [if_pos e] at hinv
      subst e
      refine rS_ Tryz.func102 ?_
      simp only [go_sem,seval,hlt,strD_len,j5 hxx,n2,j5 hwx,hw1,hwi]
      repeat' (first
       | (simp (disch:=omega) only [j6])
       | ((refine ⟨sd,?_⟩)<;>(try simp only [go_sem,seval,hlt,strD_len,j5 hxx,n2,j5 hwx,hw1,hwi]))
       | fail)
      all_goals refine hnext ((k:Int),[]) _ (by rw [hk1];exact hinv) wk1_
     ·rw [if_neg e] at hinv
      refine rS_ Tryz.func102 ?_
      simp only [go_sem,seval,hlt,strD_len,j5 hxx,n2,j5 hwx,hw1,e,hwi]
      repeat' (first
       | (simp (disch:=omega) only [j6])
       | ((refine ⟨sd,?_⟩)<;>(try simp only [go_sem,seval,hlt,strD_len,j5 hxx,n2,j5 hwx,hw1,e,hwi]))
       | fail)
      all_goals refine hnext s _ (by rw [hk1];exact hinv) wk1_
    ·simp only [hdF] at hinv
     subst hinv
     have hge:(headG w).kind=(hdF w headsT 0 (9,w)).1∧(headG w).name=(hdF w headsT 0 (9,w)).2∧(headG w).terms=[]∧(headG w).goals=[]:=⟨rfl,rfl,rfl,rfl⟩
     generalize hdF w headsT 0 (9,w)=s at hge ⊢
     generalize headG w=g0 at hL hge
     refine AW.adoptGB 1 2 4 85 (by decide) rfl rfl ?_
     refine AW.adoptGB 1 3 4 48 (by decide) rfl rfl ?_
     have hw2':IntKind.i64.wrap ((i:Int)+2)=((i+2:Nat):Int):=hw2
     refine rS_ Tryz.func102 ?_
     simp only [go_sem,seval,hw2]
     refine AW.lp [0,4,7] (fun u:Nat×Nat×Gl×Nat×Nat=>[(1,.d (.int .i64 (u.2.1:Int)))]) (fun _ u=>[.box [.d (.int .i64 0),.d (.str []),.nil0,.nil0],.box [.d (.int .i64 u.2.2.1.kind),.d (.str u.2.2.1.name),.own 2 u.2.2.2.1,.own 3 u.2.2.2.2],.grow u.2.2.2.1 4 85 (u.2.2.1.terms.map Tm.enc),.grow u.2.2.2.2 4 48 (u.2.2.1.goals.map Gl.enc)]) (fun u=>u.1≤n∧u.2.1≤T.length∧rgL T u.1 u.2.1 u.2.2.1=some (G,J)∧u.2.2.1.terms.length+u.2.2.1.goals.length≤u.2.1) (fun u=>u.1) (n,i+2,g0,0,0) ⟨Nat.le_refl _,by dsimp only;omega,hL,by dsimp only;rw [hge.2.2.1,hge.2.2.2];simp⟩ (by refine ⟨by simp [mkS,hge.1,hge.2.1,hge.2.2.1,hge.2.2.2],by simp [mkS,hge.1,hge.2.1,hge.2.2.1,hge.2.2.2],by simp only [mkS,e_,f_,O.refsLt,C.refsLt,C.refsLt1,all_dmap];first | done | rfl | (simp;done),?_⟩;simp [mkS,Abs.get,C.refsLtT,C.refsLt,C.refsLt1,hge.1,hge.2.1,hge.2.2.1,hge.2.2.2]) ?_
     rintro ⟨m,j,g,q1,q2⟩ ⟨hm,hj,hrl,hgl⟩ hnext
     dsimp only at hm hj hrl hgl hnext ⊢
     obtain ⟨m,rfl⟩:∃m',m=m'+1:=by
      cases m with
      | zero=>rw [rgL] at hrl;cases hrl
      | succ m=>exact ⟨m,rfl⟩
     obtain ⟨t,hTj,hk⟩:=rgL_kind hrl
     have hjl:=(c_.1 hTj).1
     have hjx:=strD_at hTj
     have m1:(j:Int)<(T.length:Int):=by omega
     have hwj:IntKind.i64.wrap ((j:Int)+1)=((j+1:Nat):Int):=by simp (disch:=omega) only [j6];omega
     have hnx:=fun m' j' g' a b s'=>hnext (m',j',g',a,b) s'
     clear hnext
     rcases hk with ⟨h41,hk1,rfl,rfl⟩ | ⟨h41,hne,x,k,h1,h2⟩ | ⟨h41,hne,v,k,h1,h2⟩
     ·subst h41
      rw [Gl.enc_eq]
      refine run_sound Tryz.func102 mixed 6 _ _ (by kernel_rfl) ?_
      simp only [go_sem,seval,run.eq_1,m1,strD_len,j5 hjx,hwj,hk1]
      refine AW.drawA mixed #[true,true,true,true,true,true,true,true,true,true,true,true,true,true,true] [(1,.box [.d (.int .i64 G.kind),.d (.str G.name),.own 2 q1,.own 3 q2])] [] [0,1,2,3,4,5,6,7,8,9,10,11,12,13,14] [] none (by kernel_rfl) trivial (by simp [holdsB]) ?_
      simp only [go_sem,seval,m1,hwj,hk1,strD_len]
      refine rS_ Tryz.func102 ?_
      simp only [go_sem,seval]
     ·have hr:=ih m (by omega) j x k hj h1
      have hb:=(rg_len T m).1 _ _ _ h1
      have hXe:x.enc=[.int .i64 x.kind,.str x.name,.sl (x.terms.map Tm.enc),.sl (x.goals.map Gl.enc)]:=Gl.enc_eq x
      have e1:(g.addG x).kind=g.kind:=rfl
      have e2:(g.addG x).name=g.name:=rfl
      have e3:(g.addG x).terms=g.terms:=rfl
      have e4:(g.addG x).goals=g.goals++[x]:=rfl
      unfold Gl.nest at hne
      simp only [Bool.or_eq_true,decide_eq_true_eq] at hne
      rcases (show g.kind=7∨(¬g.kind=7∧g.kind=8)∨(¬g.kind=7∧¬g.kind=8∧g.kind=10) by omega) with k7 | ⟨k7,k8⟩ | ⟨k7,k8,k10⟩
      ·refine rS_ Tryz.func102 ?_
       simp only [go_sem,seval,m1,strD_len,j5 hjx,h41,k7]
       repeat' (first
        | ((first
         | (refine hr.calls rfl ?_)
         | (refine ⟨sd,?_⟩))<;>(try simp only [go_sem,seval,m1,strD_len,j5 hjx,h41,k7]))
        | fail)
       all_goals refine hnx m k (g.addG x) q1 (q2+1) _ ⟨by dsimp only;omega,hb.2,h2,by rw [e3,e4,b_];dsimp only [a_,d_];omega⟩ (by dsimp only;omega) (by refine ⟨by simp [mkS,e1,e2,e3,e4,hXe,k7],by simp [mkS,e1,e2,e3,e4,hXe,k7],by simp only [mkS,e_,f_,O.refsLt,C.refsLt,C.refsLt1,all_dmap];first | done | rfl | (simp;done),?_⟩;simp [mkS,Abs.get,C.refsLtT,C.refsLt,C.refsLt1,e1,e2,e3,e4,hXe,k7])
      ·refine rS_ Tryz.func102 ?_
       simp only [go_sem,seval,m1,strD_len,j5 hjx,h41,k7,k8]
       repeat' (first
        | ((first
         | (refine hr.calls rfl ?_)
         | (refine ⟨sd,?_⟩))<;>(try simp only [go_sem,seval,m1,strD_len,j5 hjx,h41,k7,k8]))
        | fail)
       all_goals refine hnx m k (g.addG x) q1 (q2+1) _ ⟨by dsimp only;omega,hb.2,h2,by rw [e3,e4,b_];dsimp only [a_,d_];omega⟩ (by dsimp only;omega) (by refine ⟨by simp [mkS,e1,e2,e3,e4,hXe,k8],by simp [mkS,e1,e2,e3,e4,hXe,k8],by simp only [mkS,e_,f_,O.refsLt,C.refsLt,C.refsLt1,all_dmap];first | done | rfl | (simp;done),?_⟩;simp [mkS,Abs.get,C.refsLtT,C.refsLt,C.refsLt1,e1,e2,e3,e4,hXe,k8])
      ·refine rS_ Tryz.func102 ?_
       simp only [go_sem,seval,m1,strD_len,j5 hjx,h41,k7,k8,k10]
       repeat' (first
        | ((first
         | (refine hr.calls rfl ?_)
         | (refine ⟨sd,?_⟩))<;>(try simp only [go_sem,seval,m1,strD_len,j5 hjx,h41,k7,k8,k10]))
        | fail)
       all_goals refine hnx m k (g.addG x) q1 (q2+1) _ ⟨by dsimp only;omega,hb.2,h2,by rw [e3,e4,b_];dsimp only [a_,d_];omega⟩ (by dsimp only;omega) (by refine ⟨by simp [mkS,e1,e2,e3,e4,hXe,k10],by simp [mkS,e1,e2,e3,e4,hXe,k10],by simp only [mkS,e_,f_,O.refsLt,C.refsLt,C.refsLt1,all_dmap];first | done | rfl | (simp;done),?_⟩;simp [mkS,Abs.get,C.refsLtT,C.refsLt,C.refsLt1,e1,e2,e3,e4,hXe,k10])
     ·have hg:=l03Read_fn T hTl hTm (2 * (T.length - j)+1) j hj (Nat.le_refl _)
      have hr:=rdG_some h1 hg
      have hb:=(rd_len false T _).1 _ _ _ h1
      have hXe:v.enc=[.int .i64 v.kind,.int .i64 v.int,.str v.name,.sl (v.kids.map V.enc)]:=V.enc_eq v
      have hVe:v.tm.enc=v.enc:=rfl
      have e1:(g.addT v.tm).kind=g.kind:=rfl
      have e2:(g.addT v.tm).name=g.name:=rfl
      have e3:(g.addT v.tm).terms=g.terms++[v.tm]:=rfl
      have e4:(g.addT v.tm).goals=g.goals:=rfl
      unfold Gl.nest at hne
      simp only [Bool.or_eq_false_iff,decide_eq_false_iff_not] at hne
      obtain ⟨⟨k7,k8⟩,k10⟩:=hne
      refine rS_ Tryz.func102 ?_
      simp only [go_sem,seval,m1,strD_len,j5 hjx,h41,k7,k8,k10]
      repeat' (first
       | ((first
        | (refine hr.calls rfl ?_)
        | (refine ⟨sd,?_⟩))<;>(try simp only [go_sem,seval,m1,strD_len,j5 hjx,h41,k7,k8,k10]))
       | fail)
      all_goals refine hnx m k (g.addT v.tm) (q1+1) q2 _ ⟨by dsimp only;omega,hb.2.1,h2,by rw [e3,e4,b_];dsimp only [a_,d_];omega⟩ (by dsimp only;omega) (by refine ⟨by simp [mkS,e1,e2,e3,e4,hXe,hVe],by simp [mkS,e1,e2,e3,e4,hXe,hVe],by simp only [mkS,e_,f_,O.refsLt,C.refsLt,C.refsLt1,all_dmap];first | done | rfl | (simp;done),?_⟩;simp [mkS,Abs.get,C.refsLtT,C.refsLt,C.refsLt1,e1,e2,e3,e4,hXe,hVe])
set_option maxHeartbeats 8000000
theorem formatN_fn (k:Nat) (hk:k≤20000):Gives Tryz.prog 101 [.int .i64 (k:Int)] (.d (.str (dec (k:Int)))):=spec_FormatInt_pos _ (by omega) (by omega)
theorem fidx_some {x:List UInt8}:∀(l:List (List UInt8)) (k:Nat),(∀i y,i<k→l[i]? = some y→y≠x)→l[k]? = some x→l.findIdx (fun y=>y == x)=k
 | [],k,_,h=>by simp at h
 | y :: r,0,_,h=>by
  simp at h;subst h
  simp [h_]
 | y :: r,k+1,hn,h=>by
  have h0:=hn 0 y (by omega) rfl
  have ih:=fidx_some r k (fun i z hi hz=>hn (i+1) z (by omega) (by simpa using hz)) (by simpa using h)
  rw [h_]
  have:(y == x)=false:=by simpa using h0
  rw [this]
  simp [ih]
theorem fidx_none {x:List UInt8}:∀(l:List (List UInt8)),(∀(i:Nat) y,l[i]? = some y→y≠x)→l.findIdx (fun y=>y == x)=l.length
 | [],_=>rfl
 | y :: r,hn=>by
  have h0:=hn 0 y rfl
  have ih:=fidx_none r (fun i z hz=>hn (i+1) z (by simpa using hz))
  rw [h_]
  have:(y == x)=false:=by simpa using h0
  rw [this]
  simp [ih]
theorem l15Number_fn (T:List (List UInt8)) (hTl:T.length≤20000) (hTm:∀t,t∈T→t≠[]∧t.length≤100000) (R:List (List UInt8)) (c:Nat) (hR:nbT T [] []=some (R,c)):Gives Tryz.prog 100 [.sl (strD T)] (.tup [.d (.sl (strD R)),.d (.int .i64 c),.d (.bool true)]):=by
 have hmx:maxLen=9223372036854775807:=rfl
 refine aE_ Tryz.func100 ?_
 refine rS_ Tryz.func100 ?_
 simp only [go_sem,seval,strD_len]
 refine AW.adopt 5 1 9 (by decide) rfl ?_
 refine AW.adopt 6 1 9 (by decide) rfl ?_
 refine AW.rng T [14,15] 16 14 (fun u:List (List UInt8)×List (List UInt8)×Nat×Nat=>[(5,.own 0 u.2.2.1),(6,.own 1 u.2.2.2)]) (fun _ u=>[.grow u.2.2.1 1 9 (strD u.1),.grow u.2.2.2 1 9 (strD u.2.1)]) (fun r u=>nbT r u.1 u.2.1=some (R,c)∧u.1.length+r.length≤T.length∧u.2.1.length+r.length≤T.length) ([],[],0,0) rfl (by simp [strD_len]) ⟨hR,by simp,by simp⟩ (by refine ⟨by simp [mkS,strD],by simp [mkS,strD],by simp only [mkS,e_,f_,O.refsLt,C.refsLt,C.refsLt1,all_dmap];first | done | rfl | (simp;done),?_⟩;simp [mkS,Abs.get,C.refsLtT,C.refsLt,C.refsLt1]) (fun i x r u hxi hdr hlt hm hinv hnext=>?_) (fun u hinv=>?_)
 ·obtain ⟨ns,out,q1,q2⟩:=u
  obtain ⟨i1,i2,i3⟩:=hinv
  dsimp only [a_] at i1 i2 i3 hnext ⊢
  have hnx:=fun a b q q' s'=>hnext (a,b,q,q') s'
  clear hnext
  have hxm:=hTm x (g_ hxi)
  have hxx:=strD_at hxi
  obtain ⟨b,rs,hxc⟩:∃b rs,x=b :: rs:=by
   cases x with
   | nil=>exact absurd rfl hxm.1
   | cons b rs=>exact ⟨b,rs,rfl⟩
  have g1:(0:Int)<(x.length:Int):=by rw [hxc,a_];omega
  have g3:x.drop 1=x.tail:=by rw [hxc];rfl
  have g4:(((x[0]?).getD 0).toNat:Int)=b.toNat:=by rw [hxc];rfl
  have g5:(1:Int)≤(x.length:Int):=by omega
  have hhd:x.head? = some b:=by rw [hxc];rfl
  have htl:x.tail.length≤100000:=by have:=hxm.2;rw [List.length_tail];omega
  simp only [nbT] at i1
  by_cases h63:b=63
  ·have g2:(((x[0]?).getD 0).toNat:Int)=63:=by rw [g4,h63];rfl
   rw [if_neg (by rw [hhd,h63];simp)] at i1
   by_cases hnb:nbB x.tail=true
   ·rw [if_pos hnb] at i1
    have hn:=sIsName_fn x.tail (by omega)
    have hp:=sParseInt_fn x.tail (by omega)
    have hdone:∀(k:Nat),k≤ns.length→k=ns.findIdx (fun y=>y == x)→Gives Tryz.prog 101 [.int .i64 (k:Int)] (.d (.str (dec (k:Int)))):=fun k hk _=>formatN_fn k (by omega)
    have hpv:∃(nv:Int) (ok:Bool),Gives Tryz.prog 137 [.str x.tail] (.tup [.d (.int .i64 nv),.d (.bool ok)])∧(ok && (decide (0≤nv) && decide (nv≤100000)))=inR (pInt x.tail):=by
     cases hpi:pInt x.tail with
     | none=>exact ⟨0,false,by rw [pIC_none hpi] at hp;exact hp,rfl⟩
     | some n=>exact ⟨n,true,by rw [pIC_some hpi] at hp;exact hp,by simp [inR]⟩
    obtain ⟨nv,ok,hpg,hpe⟩:=hpv
    have hin:=l01In_fn nv 0 100000
    unfold nbB at hnb
    rw [←hpe] at hnb
    clear hp hpe
    generalize (decide (0≤nv) && decide (nv≤100000))=inb at hin hnb
    obtain ⟨K,hK⟩:∃K,ns.findIdx (fun y=>y == x)=K:=⟨_,rfl⟩
    rw [hK] at i1
    cases hN:isName x.tail with
    | true =>
     rw [hN] at hn
     refine rS_ Tryz.func100 ?_
     simp only [go_sem,seval,hlt,strD_len,j5 hxx,g1,g2,g3,g5]
     repeat' (first
      | ((first
       | (refine hpg.calls rfl ?_)
       | (refine hn.calls rfl ?_))<;>(try simp only [go_sem,seval,hlt,strD_len,j5 hxx,g1,g2,g3,g5]))
      | fail)
     refine AW.lp [5,6,8,14,15,16] (fun k:Nat=>[(11,.d (.int .i64 (k:Int)))]) (fun H _=>H) (fun k=>k≤ns.length∧∀i y,i<k→ns[i]? = some y→y≠x) (fun k=>ns.length - k) 0 ⟨Nat.zero_le _,fun i y hi=>by omega⟩ wk1_ ?_
     rintro k ⟨hk1,hk2⟩ hnk
     by_cases hkl:k<ns.length
     ·obtain ⟨y,hy⟩:∃y,ns[k]? = some y:=⟨_,i_ hkl⟩
      have hyx:=strD_at hy
      have m1:(k:Int)<(ns.length:Int):=by omega
      by_cases hxy:y=x
      ·subst hxy
       have hKk:K=k:=by rw [←hK];exact fidx_some ns k hk2 hy
       have hmem:y∈ns:=g_ hy
       rw [if_pos hmem,hKk] at i1
       have m2:¬(k:Int)=(ns.length:Int):=by omega
       have hf:=formatN_fn k (by omega)
       have hdl:=dec_len (n:=(k:Int)) (by omega) (by omega)
       refine rS_ Tryz.func100 ?_
       simp only [go_sem,seval,m1,m2,strD_len,j5 hyx]
       repeat' (first
        | (simp (disch:=omega) only [j6])
        | ((first
         | (refine hf.calls rfl ?_)
         | (refine ⟨sd,?_⟩))<;>(try simp only [go_sem,seval,m1,m2,strD_len,j5 hyx]))
        | fail)
       all_goals refine hnx ns (out++[63 :: dec (k:Nat)]) q1 (q2+1) _ ⟨i1,by dsimp only;omega,by dsimp only;rw [b_];dsimp only [a_,d_];omega⟩ (by refine ⟨by simp [mkS,strD_append,strD_one],by simp [mkS,strD_append,strD_one],by simp only [mkS,e_,f_,O.refsLt,C.refsLt,C.refsLt1,all_dmap];first | done | rfl | (simp;done),?_⟩;simp [mkS,Abs.get,C.refsLtT,C.refsLt,C.refsLt1])
      ·have wk:IntKind.i64.wrap ((k:Int)+1)=((k+1:Nat):Int):=by simp (disch:=omega) only [j6];omega
       refine rS_ Tryz.func100 ?_
       simp only [go_sem,seval,m1,strD_len,j5 hyx,hxy,wk]
       all_goals refine hnk (k+1) _ ⟨hkl,fun i z hi hz=>?_⟩ (by omega) wk1_
       rcases j_.1 hi with h' | rfl
       ·exact hk2 i z h' hz
       ·rw [hy] at hz;cases hz;exact hxy
     ·obtain rfl:k=ns.length:=by omega
      have hKk:K=ns.length:=by rw [←hK];exact fidx_none ns (fun i z hz=>hk2 i z (c_.1 hz).1 hz)
      have hmem:¬x∈ns:=fun h=>by
       obtain ⟨i,hi⟩:=List.getElem?_of_mem h
       exact hk2 i x (c_.1 hi).1 hi rfl
      rw [if_neg hmem,hKk] at i1
      have m1:¬(ns.length:Int)<(ns.length:Int):=by omega
      have hf:=formatN_fn ns.length (by omega)
      have hdl:=dec_len (n:=(ns.length:Int)) (by omega) (by omega)
      refine rS_ Tryz.func100 ?_
      simp only [go_sem,seval,m1,strD_len]
      repeat' (first
       | (simp (disch:=omega) only [j6])
       | ((first
        | (refine hf.calls rfl ?_)
        | (refine ⟨sd,?_⟩))<;>(try simp only [go_sem,seval,m1,strD_len]))
       | fail)
      all_goals refine hnx (ns++[x]) (out++[63 :: dec (ns.length:Nat)]) (q1+1) (q2+1) _ ⟨i1,by dsimp only;rw [b_];dsimp only [a_,d_];omega,by dsimp only;rw [b_];dsimp only [a_,d_];omega⟩ (by refine ⟨by simp [mkS,strD_append,strD_one],by simp [mkS,strD_append,strD_one],by simp only [mkS,e_,f_,O.refsLt,C.refsLt,C.refsLt1,all_dmap];first | done | rfl | (simp;done),?_⟩;simp [mkS,Abs.get,C.refsLtT,C.refsLt,C.refsLt1])
    | false =>
     rw [hN] at hn hnb
     simp only [Bool.false_or,Bool.and_eq_true] at hnb
     obtain ⟨rfl,rfl⟩:=hnb
     refine rS_ Tryz.func100 ?_
     simp only [go_sem,seval,hlt,strD_len,j5 hxx,g1,g2,g3,g5]
     repeat' (first
      | ((first
       | (refine hpg.calls rfl ?_)
       | (refine hn.calls rfl ?_)
       | (refine hin.calls rfl ?_))<;>(try simp only [go_sem,seval,hlt,strD_len,j5 hxx,g1,g2,g3,g5]))
      | fail)
     refine AW.lp [5,6,8,14,15,16] (fun k:Nat=>[(11,.d (.int .i64 (k:Int)))]) (fun H _=>H) (fun k=>k≤ns.length∧∀i y,i<k→ns[i]? = some y→y≠x) (fun k=>ns.length - k) 0 ⟨Nat.zero_le _,fun i y hi=>by omega⟩ wk1_ ?_
     rintro k ⟨hk1,hk2⟩ hnk
     by_cases hkl:k<ns.length
     ·obtain ⟨y,hy⟩:∃y,ns[k]? = some y:=⟨_,i_ hkl⟩
      have hyx:=strD_at hy
      have m1:(k:Int)<(ns.length:Int):=by omega
      by_cases hxy:y=x
      ·subst hxy
       have hKk:K=k:=by rw [←hK];exact fidx_some ns k hk2 hy
       have hmem:y∈ns:=g_ hy
       rw [if_pos hmem,hKk] at i1
       have m2:¬(k:Int)=(ns.length:Int):=by omega
       have hf:=formatN_fn k (by omega)
       have hdl:=dec_len (n:=(k:Int)) (by omega) (by omega)
       refine rS_ Tryz.func100 ?_
       simp only [go_sem,seval,m1,m2,strD_len,j5 hyx]
       repeat' (first
        | (simp (disch:=omega) only [j6])
        | ((first
         | (refine hf.calls rfl ?_)
         | (refine ⟨sd,?_⟩))<;>(try simp only [go_sem,seval,m1,m2,strD_len,j5 hyx]))
        | fail)
       all_goals refine hnx ns (out++[63 :: dec (k:Nat)]) q1 (q2+1) _ ⟨i1,by dsimp only;omega,by dsimp only;rw [b_];dsimp only [a_,d_];omega⟩ (by refine ⟨by simp [mkS,strD_append,strD_one],by simp [mkS,strD_append,strD_one],by simp only [mkS,e_,f_,O.refsLt,C.refsLt,C.refsLt1,all_dmap];first | done | rfl | (simp;done),?_⟩;simp [mkS,Abs.get,C.refsLtT,C.refsLt,C.refsLt1])
      ·have wk:IntKind.i64.wrap ((k:Int)+1)=((k+1:Nat):Int):=by simp (disch:=omega) only [j6];omega
       refine rS_ Tryz.func100 ?_
       simp only [go_sem,seval,m1,strD_len,j5 hyx,hxy,wk]
       all_goals refine hnk (k+1) _ ⟨hkl,fun i z hi hz=>?_⟩ (by omega) wk1_
       rcases j_.1 hi with h' | rfl
       ·exact hk2 i z h' hz
       ·rw [hy] at hz;cases hz;exact hxy
     ·obtain rfl:k=ns.length:=by omega
      have hKk:K=ns.length:=by rw [←hK];exact fidx_none ns (fun i z hz=>hk2 i z (c_.1 hz).1 hz)
      have hmem:¬x∈ns:=fun h=>by
       obtain ⟨i,hi⟩:=List.getElem?_of_mem h
       exact hk2 i x (c_.1 hi).1 hi rfl
      rw [if_neg hmem,hKk] at i1
      have m1:¬(ns.length:Int)<(ns.length:Int):=by omega
      have hf:=formatN_fn ns.length (by omega)
      have hdl:=dec_len (n:=(ns.length:Int)) (by omega) (by omega)
      refine rS_ Tryz.func100 ?_
      simp only [go_sem,seval,m1,strD_len]
      repeat' (first
       | (simp (disch:=omega) only [j6])
       | ((first
        | (refine hf.calls rfl ?_)
        | (refine ⟨sd,?_⟩))<;>(try simp only [go_sem,seval,m1,strD_len]))
       | fail)
      all_goals refine hnx (ns++[x]) (out++[63 :: dec (ns.length:Nat)]) (q1+1) (q2+1) _ ⟨i1,by dsimp only;rw [b_];dsimp only [a_,d_];omega,by dsimp only;rw [b_];dsimp only [a_,d_];omega⟩ (by refine ⟨by simp [mkS,strD_append,strD_one],by simp [mkS,strD_append,strD_one],by simp only [mkS,e_,f_,O.refsLt,C.refsLt,C.refsLt1,all_dmap];first | done | rfl | (simp;done),?_⟩;simp [mkS,Abs.get,C.refsLtT,C.refsLt,C.refsLt1])
   ·rw [if_neg hnb] at i1;cases i1
  ·have g2:¬(((x[0]?).getD 0).toNat:Int)=63:=by
    rw [g4];exact fun h=>h63 ((u8_is (n:=63) (by omega)).2 h)
   have g6:((((x[0]?).getD 0).toNat:Int) != 63)=true:=by simp [g2]
   rw [if_pos (by rw [hhd];intro h;exact h63 (Option.some.inj h))] at i1
   refine rS_ Tryz.func100 ?_
   simp only [go_sem,seval,hlt,strD_len,j5 hxx,g1,g6]
   repeat' (first
    | (simp (disch:=omega) only [j6])
    | ((refine ⟨sd,?_⟩)<;>(try simp only [go_sem,seval,hlt,strD_len,j5 hxx,g1,g6]))
    | fail)
   all_goals refine hnx ns (out++[x]) q1 (q2+1) _ ⟨i1,by dsimp only;omega,by dsimp only;rw [b_];dsimp only [a_,d_];omega⟩ (by refine ⟨by simp [mkS,strD_append,strD_one],by simp [mkS,strD_append,strD_one],by simp only [mkS,e_,f_,O.refsLt,C.refsLt,C.refsLt1,all_dmap];first | done | rfl | (simp;done),?_⟩;simp [mkS,Abs.get,C.refsLtT,C.refsLt,C.refsLt1])
 ·obtain ⟨ns,out,q1,q2⟩:=u
  obtain ⟨i1,i2,i3⟩:=hinv
  dsimp only at i1 i2 i3 ⊢
  simp only [nbT] at i1
  cases i1
  refine rS_ Tryz.func100 ?_
  simp only [go_sem,seval,strD_len]
end Go.Proofs.YtlajhmoomlgopaaGreat
