import Derived.Test.YtehcdhelbkjaeaaGreatDoorW86
import Derived.Test.YtehcdhelbkjaeaaGreatDoorP16
open List renaming getElem?_eq_some_iff→a_,mem_of_getElem?→b_,getElem?_eq_none_iff→d_,all_cons→e_,all_nil→f_
open Option renaming getD_some→c_
namespace Go.Proofs.YtehcdhelbkjaeaaGreatDoor
open Go.Abs
set_option maxRecDepth 100000
set_option maxHeartbeats 4000000
set_option linter.unusedSimpArgs false
set_option linter.unusedVariables false
theorem term_G (T:List (List UInt8)) (hTl:T.length≤20000) (hTm:∀t,t∈T→t≠[]∧t.length≤100000):∀n i,i≤T.length→2 * (T.length - i)+1≤n→tmG T n i:=by
 intro n
 induction n using Nat.strongRecOn with
 | ind n ih =>
  intro i hi hf
  obtain ⟨n,rfl⟩:∃n',n=n'+1:=⟨n - 1,by omega⟩
  cases hTi:T[i]? with
  | none =>
   intro te tr pe pr
   have hil:=d_.1 hTi
   have hdn:=done_R T i hTl
   have hnd:decide ((i:Int)=(T.length:Int))=true:=by simp;omega
   rw [hnd] at hdn
   rw [rdT_none hTi]
   refine aE_ Tryz.func68 ?_
   refine rS_ Tryz.func68 ?_
   simp only [go_sem,seval]
   repeat' (first
    | (exact ⟨.nil,_,rfl,rfl,by omega⟩)
    | ((refine (ACalls.emb hdn [1] rfl rfl rfl (by decide) rfl ?_)<;>(rintro c H' ⟨rfl,rfl⟩ _;refine ⟨rfl,rfl,?_⟩))<;>(try simp only [go_sem,seval]))
    | fail)
  | some t =>
   by_cases h40:t=[40]
   ·subst h40
    exact term_list T hTl n i hTi hf (fun m hm i hi hf=>ih m (by omega) i hi hf)
   ·exact term_atom T hTl n i t hTi (hTm t (b_ hTi)) h40
theorem okTerm_R (T:List (List UInt8)) (hTl:T.length≤20000) (hTm:∀t,t∈T→t≠[]∧t.length≤100000) (i:Nat) (hi:i≤T.length) (te tr:TypeId) (pe pr:Value):ACalls Tryz.prog 44 [.ptr 1 0] [.hole,.box [.d (.sl (strD T)),.d (.int .i64 (i:Int))],tabO,synO te pe,ranO tr pr] (tmR T [tabO,synO te pe,ranO tr pr] (rdO true T i)):=by
 have hg:=term_G T hTl hTm (2 * T.length+1) i hi (by omega) te tr pe pr
 cases hr:rdT true T (2 * T.length+1) i with
 | none =>
  have hro:rdO true T i=none:=by unfold rdO;rw [hr]
  rw [hr] at hg
  rw [hro]
  unfold tmR at hg
  dsimp only at hg
  refine aE_ Tryz.func44 ?_
  refine rS_ Tryz.func44 ?_
  simp only [go_sem,seval]
  repeat' (first
   | (exact ⟨.nil,_,rfl,rfl,by omega⟩)
   | ((refine (ACalls.emb hg [0,1,2,3,4] rfl rfl rfl (by decide) rfl ?_)<;>(rintro c H' ⟨v0,k0,rfl,rfl,hkb⟩ _;refine ⟨rfl,rfl,?_⟩))<;>(try simp only [go_sem,seval]))
   | fail)
 | some x =>
  obtain ⟨v,j⟩:=x
  rw [hr] at hg
  unfold tmR tmP at hg
  dsimp only at hg
  have hto:Gives Tryz.prog 69 [.agg v.enc] (.d (.bool (tmOk v.tm))):=iTermOk_fn v.tm (by have:=(rd_len true T _).1 _ _ _ hr;have h2:=V.wt_low v ((rd_low true T _).1 _ _ _ hr);unfold V.enc at h2;omega)
  rw [tmOk_V,V.enc_eq v] at hto
  by_cases hok:v.ok=true
  ·have hro:rdO true T i=some (v,j):=by unfold rdO;rw [hr];simp only [if_pos hok]
   rw [hok] at hto
   rw [hro]
   refine aE_ Tryz.func44 ?_
   refine AW.hole ?_
   refine run_sound Tryz.func44 mixed 10 _ _ (by kernel_rfl) ?_
   simp only [go_sem,seval,run.eq_1]
   repeat' (first
    | ((first
     | (refine (ACalls.emb hg [5,1,2,3,4] rfl rfl rfl (by decide) rfl ?_)<;>(rintro c H' (⟨ez,Bz,rfl,rfl⟩ | ⟨kz,rfl,rfl⟩) _<;>refine ⟨rfl,rfl,?_⟩))
     | (refine hto.lend rfl (by first | (simp only [go_sem,seval];done) | (simp only [go_sem,seval,kz];done)) ?_))<;>(try simp only [go_sem,seval,tmW,tmF,tmP,run.eq_1]))
    | fail)
   ·refine AW.placeB 7 3 5 0 rfl rfl rfl rfl (by decide) ?_
    refine rS_ Tryz.func44 ?_
    simp only [go_sem,seval]
    repeat' (first
     | (exact .inl ⟨ez,Bz,rfl,rfl⟩)
     | fail)
   ·refine rS_ Tryz.func44 ?_
    simp only [go_sem,seval]
    repeat' (first
     | (exact .inr ⟨kz,rfl,rfl⟩)
     | fail)
  ·have hokf:v.ok=false:=by simpa using hok
   have hro:rdO true T i=none:=by unfold rdO;rw [hr];simp only [if_neg hok]
   have hjb:=(rd_len true T _).1 _ _ _ hr
   rw [hokf] at hto
   rw [hro]
   refine aE_ Tryz.func44 ?_
   refine AW.hole ?_
   refine rS_ Tryz.func44 ?_
   simp only [go_sem,seval]
   repeat' (first
    | (exact ⟨.nil,_,rfl,rfl,by omega⟩)
    | ((first
     | (refine (ACalls.emb hg [5,1,2,3,4] rfl rfl rfl (by decide) rfl ?_)<;>(rintro c H' (⟨ez,Bz,rfl,rfl⟩ | ⟨kz,rfl,rfl⟩) _<;>refine ⟨rfl,rfl,?_⟩))
     | (refine hto.lend rfl (by first | (simp only [go_sem,seval];done) | (simp only [go_sem,seval,kz];done)) ?_))<;>(try simp only [go_sem,seval,tmW,tmF,tmP]))
    | fail)
theorem number_no (T:List (List UInt8)) (hTl:T.length≤20000) (hTm:∀t,t∈T→t≠[]∧t.length≤100000) (i:Nat) (hn:pInt (T[i]?.getD [])=none) (te tr:TypeId) (pe pr:Value):ACalls Tryz.prog 43 [.ptr 0 0] [.box [.d (.sl (strD T)),.d (.int .i64 (i:Int))],tabO,synO te pe,ranO tr pr] (fun c H'=>c=.tup [.d (.int .i64 0),.d (.bool false)]∧H'=[.box [.d (.sl (strD T)),.d (.int .i64 (i:Int))],tabO,synO te pe,ranO tr pr]):=by
 have hpk:=peek_R T i hTl
 have hl:(T[i]?.getD []).length≤1048576:=by
  cases h:T[i]? with
  | none=>simp
  | some t=>have:=(hTm t (b_ h)).2;simp only [c_];omega
 have hp:=iParseInt_R (T[i]?.getD []) hl te tr pe pr
 unfold loO at hp
 rw [pIC_none hn] at hp
 generalize (T[i]?.getD [])=t at *
 refine aE_ Tryz.func43 ?_
 refine rS_ Tryz.func43 ?_
 simp only [go_sem,seval]
 repeat' (first
  | ((first
   | (refine (ACalls.emb hpk [0] rfl rfl rfl (by decide) rfl ?_)<;>(rintro c H' ⟨rfl,rfl⟩ _;refine ⟨rfl,rfl,?_⟩))
   | (refine (ACalls.emb hp [1,2,3] rfl rfl rfl (by decide) rfl ?_)<;>(rintro c H' ⟨rfl,rfl⟩ _;refine ⟨rfl,rfl,?_⟩)))<;>(try simp only [go_sem,seval]))
  | fail)
theorem pInt_nil:pInt []=none:=rfl
theorem number_yes (T:List (List UInt8)) (hTl:T.length≤20000) (hTm:∀t,t∈T→t≠[]∧t.length≤100000) (i:Nat) (n:Int) (hn:pInt (T[i]?.getD [])=some n) (te tr:TypeId) (pe pr:Value):ACalls Tryz.prog 43 [.ptr 0 0] [.box [.d (.sl (strD T)),.d (.int .i64 (i:Int))],tabO,synO te pe,ranO tr pr] (fun c H'=>c=.tup [.d (.int .i64 n),.d (.bool true)]∧H'=[.box [.d (.sl (strD T)),.d (.int .i64 ((i+1:Nat):Int))],tabO,synO te pe,ranO tr pr]):=by
 have hpk:=peek_R T i hTl
 cases h:T[i]? with
 | none=>rw [h,Option.getD_none,pInt_nil] at hn;cases hn
 | some t =>
  have hil:=(a_.1 h).1
  rw [h,c_] at hn hpk
  have hp:=iParseInt_R t (by have:=(hTm t (b_ h)).2;omega) te tr pe pr
  unfold loO at hp
  rw [pIC_some hn] at hp
  have hdn:=done_R T i hTl
  have hnd:decide ((i:Int)=(T.length:Int))=false:=by simp;omega
  rw [hnd] at hdn
  have hw:IntKind.i64.wrap ((i:Int)+1)=((i+1:Nat):Int):=by simp (disch:=omega) only [wrap_ok];omega
  refine aE_ Tryz.func43 ?_
  refine rS_ Tryz.func43 ?_
  simp only [go_sem,seval,hw]
  repeat' (first
   | ((first
    | (refine (ACalls.emb hpk [0] rfl rfl rfl (by decide) rfl ?_)<;>(rintro c H' ⟨rfl,rfl⟩ _;refine ⟨rfl,rfl,?_⟩))
    | (refine (ACalls.emb hp [1,2,3] rfl rfl rfl (by decide) rfl ?_)<;>(rintro c H' ⟨rfl,rfl⟩ _;refine ⟨rfl,rfl,?_⟩))
    | (refine (ACalls.emb hdn [0] rfl rfl rfl (by decide) rfl ?_)<;>(rintro c H' ⟨rfl,rfl⟩ _;refine ⟨rfl,rfl,?_⟩)))<;>(try simp only [go_sem,seval,hw]))
   | fail)
def prR (T:List (List UInt8)) (lo:List O) (o:Option (Pf×Nat)) (c:C) (H:List O):Prop:=match o with
 | some (t,j)=>∃e B e' B',c=.tup [.agg [.d (.str t.rel),.d (.int .i64 t.clause),.own 0 1,.own 1 1],.d (.bool true)]∧H=.tree 1 4 e (t.values.map Tm.enc) B none :: .tree 1 4 e' (t.kids.map Pf.enc) B' none :: .box [.d (.sl (strD T)),.d (.int .i64 (j:Int))] :: lo
 | none=>∃k:Nat,c=.tup [.d (.agg [.str [],.int .i64 0,.sl [],.sl []]),.d (.bool false)]∧H=.hole :: .hole :: .box [.d (.sl (strD T)),.d (.int .i64 (k:Int))] :: lo∧k≤T.length
def prG (T:List (List UInt8)) (n i:Nat):Prop:=∀(te tr:TypeId) (pe pr:Value),ACalls Tryz.prog 20 [.ptr 2 0] [.hole,.hole,.box [.d (.sl (strD T)),.d (.int .i64 (i:Int))],tabO,synO te pe,ranO tr pr] (prR T [tabO,synO te pe,ranO tr pr] (rdP T n i))
theorem proof_G (T:List (List UInt8)) (hTl:T.length≤20000) (hTm:∀t,t∈T→t≠[]∧t.length≤100000):∀n i,i≤T.length→2 * (T.length - i)+1≤n→prG T n i:=by
 intro n
 induction n using Nat.strongRecOn with
 | ind n ih =>
  intro i hi hf te tr pe pr
  obtain ⟨n,rfl⟩:∃n',n=n'+1:=⟨n - 1,by omega⟩
  have hmx:maxLen=9223372036854775807:=rfl
  obtain ⟨R,hR⟩:∃x,rdP T (n+1) i=x:=⟨_,rfl⟩
  rw [hR]
  rw [rdP] at hR
  by_cases h40:T[i]? = some [40]
  ·have hil:=(a_.1 h40).1
   have ht0:=take_yes T i [40] hTl h40
   have hd1:=done_R T (i+1) hTl
   have hp1:=peek_R T (i+1) hTl
   rw [if_pos h40] at hR
   cases h1:T[i+1]? with
   | none =>
    rw [h1] at hR
    dsimp only at hR
    have hl1:=d_.1 h1
    rw [show decide (((i+1:Nat):Int)=(T.length:Int))=true from by simp;omega] at hd1
    rw [←hR]
    refine aE_ Tryz.func20 ?_
    refine rS_ Tryz.func20 ?_
    simp only [go_sem,seval]
    repeat' (first
     | (exact ⟨i+1,rfl,rfl,by omega⟩)
     | ((first
      | (refine (ACalls.emb ht0 [2] rfl rfl rfl (by decide) rfl ?_)<;>(rintro c H' ⟨rfl,rfl⟩ _;refine ⟨rfl,rfl,?_⟩))
      | (refine (ACalls.emb hd1 [2] rfl rfl rfl (by decide) rfl ?_)<;>(rintro c H' ⟨rfl,rfl⟩ _;refine ⟨rfl,rfl,?_⟩)))<;>(try simp only [go_sem,seval]))
     | fail)
   | some rel =>
    have hl1:=(a_.1 h1).1
    rw [h1] at hR
    dsimp only at hR
    rw [show decide (((i+1:Nat):Int)=(T.length:Int))=false from by simp;omega] at hd1
    rw [h1,c_] at hp1
    have hw1:IntKind.i64.wrap (((i+1:Nat):Int)+1)=((i+2:Nat):Int):=by simp (disch:=omega) only [wrap_ok];omega
    cases h2:pInt (T[i+2]?.getD []) with
    | none =>
     rw [h2] at hR
     dsimp only at hR
     have hn:=number_no T hTl hTm (i+2) h2 te tr pe pr
     rw [←hR]
     refine aE_ Tryz.func20 ?_
     refine rS_ Tryz.func20 ?_
     simp only [go_sem,seval,hw1]
     repeat' (first
      | (exact ⟨i+2,rfl,rfl,by omega⟩)
      | (simp (disch:=omega) only [wrap_ok])
      | ((first
       | (refine (ACalls.emb ht0 [2] rfl rfl rfl (by decide) rfl ?_)<;>(rintro c H' ⟨rfl,rfl⟩ _;refine ⟨rfl,rfl,?_⟩))
       | (refine (ACalls.emb hd1 [2] rfl rfl rfl (by decide) rfl ?_)<;>(rintro c H' ⟨rfl,rfl⟩ _;refine ⟨rfl,rfl,?_⟩))
       | (refine (ACalls.emb hp1 [2] rfl rfl rfl (by decide) rfl ?_)<;>(rintro c H' ⟨rfl,rfl⟩ _;refine ⟨rfl,rfl,?_⟩))
       | (refine (ACalls.emb hn [2,3,4,5] rfl rfl rfl (by decide) rfl ?_)<;>(rintro c H' ⟨rfl,rfl⟩ _;refine ⟨rfl,rfl,?_⟩)))<;>(try simp only [go_sem,seval,hw1]))
      | fail)
    | some c =>
     rw [h2] at hR
     dsimp only at hR
     have hn:=number_yes T hTl hTm (i+2) c h2 te tr pe pr
     have hl2:i+2<T.length:=by
      cases h:T[i+2]? with
      | none=>rw [h,Option.getD_none,pInt_nil] at h2;cases h2
      | some t=>exact (a_.1 h).1
     by_cases h3:T[i+3]? = some [40]
     ·have hl3:=(a_.1 h3).1
      have ht3:=take_yes T (i+3) [40] hTl h3
      rw [if_pos h3] at hR
      refine aE_ Tryz.func20 ?_
      refine rS_ Tryz.func20 ?_
      simp only [go_sem,seval,hw1]
      repeat' (first
       | (simp (disch:=omega) only [wrap_ok])
       | ((first
        | (refine (ACalls.emb ht0 [2] rfl rfl rfl (by decide) rfl ?_)<;>(rintro c H' ⟨rfl,rfl⟩ _;refine ⟨rfl,rfl,?_⟩))
        | (refine (ACalls.emb hd1 [2] rfl rfl rfl (by decide) rfl ?_)<;>(rintro c H' ⟨rfl,rfl⟩ _;refine ⟨rfl,rfl,?_⟩))
        | (refine (ACalls.emb hp1 [2] rfl rfl rfl (by decide) rfl ?_)<;>(rintro c H' ⟨rfl,rfl⟩ _;refine ⟨rfl,rfl,?_⟩))
        | (refine (ACalls.emb hn [2,3,4,5] rfl rfl rfl (by decide) rfl ?_)<;>(rintro c H' ⟨rfl,rfl⟩ _;refine ⟨rfl,rfl,?_⟩))
        | (refine (ACalls.emb ht3 [2] rfl rfl rfl (by decide) rfl ?_)<;>(rintro c H' ⟨rfl,rfl⟩ _;refine ⟨rfl,rfl,?_⟩)))<;>(try simp only [go_sem,seval,hw1]))
       | fail)
      refine AW.adoptTB 7 2 4 89 (by decide) rfl rfl ?_
      refine AW.adoptTB 7 3 4 29 (by decide) rfl rfl ?_
      refine AW.lp [0,2,4] (fun u:Nat×Nat×Nat×List V×(Nat→Prop)=>[]) (fun _ u=>[.hole,.hole,.box [.d (.sl (strD T)),.d (.int .i64 (u.2.1:Int))],tabO,synO te pe,ranO tr pr,.box [.d (.str []),.d (.int .i64 0),.nil0,.nil0],.box [.d (.str rel),.d (.int .i64 c),.own 8 u.2.2.1,.own 9 0],.tree u.2.2.1 4 89 (u.2.2.2.1.map V.enc) u.2.2.2.2 none,.tree 0 4 29 [] (fun _=>False) none]) (fun u=>i+4≤u.2.1∧u.2.1≤T.length∧T.length - u.2.1+1≤u.1∧u.2.2.2.1.length+4≤u.2.1∧(match rdVs T u.1 u.2.1 u.2.2.2.1 with | none=>none | some (vs,j)=>rdK T n j rel c vs [])=R) (fun u=>T.length - u.2.1) (T.length+1,i+3+1,0,[],fun _=>False) ⟨by dsimp only;omega,by dsimp only;omega,by dsimp only;omega,by simp,hR⟩ wk1_ ?_
      rintro ⟨m,j,q,L,B⟩ ⟨b1,b2,b3,b4,b5⟩ hnext
      dsimp only at b1 b2 b3 b4 b5 hnext ⊢
      obtain ⟨m,rfl⟩:∃m',m=m'+1:=⟨m - 1,by omega⟩
      have hnx:=fun j2 L' q' B' s'=>hnext (m,j2,q',L',B') s'
      clear hnext
      dsimp only at hnx
      have hmap:∀x:List V,(x.map V.enc).length=x.length:=fun x=>List.length_map _
      rw [rdVs] at b5
      by_cases hc:T[j]? = some [41]
      ·have hjl:=(a_.1 hc).1
       rw [if_pos hc] at b5
       dsimp only at b5
       clear hnx
       have htc:=take_yes T j [41] hTl hc
       refine rS_ Tryz.func20 ?_
       simp only [go_sem,seval]
       repeat' (first
        | ((refine (ACalls.emb htc [2] rfl rfl rfl (by decide) rfl ?_)<;>(rintro c H' ⟨rfl,rfl⟩ _;refine ⟨rfl,rfl,?_⟩))<;>(try simp only [go_sem,seval]))
        | fail)
       refine AW.lp [0,2,4] (fun u:Nat×Nat×Nat×List Pf×(Nat→Prop)=>[]) (fun _ u=>[.hole,.hole,.box [.d (.sl (strD T)),.d (.int .i64 (u.2.1:Int))],tabO,synO te pe,ranO tr pr,.box [.d (.str []),.d (.int .i64 0),.nil0,.nil0],.box [.d (.str rel),.d (.int .i64 c),.own 8 q,.own 9 u.2.2.1],.tree q 4 89 (L.map V.enc) B none,.tree u.2.2.1 4 29 (u.2.2.2.1.map Pf.enc) u.2.2.2.2 none]) (fun u=>u.2.1≤T.length∧u.1≤n∧2 * (T.length - u.2.1)+2≤u.1∧u.2.2.2.1.length≤u.2.1∧rdK T u.1 u.2.1 rel c L u.2.2.2.1=R) (fun u=>T.length - u.2.1) (n,j+1,0,[],fun _=>False) ⟨by dsimp only;omega,Nat.le_refl _,by dsimp only;omega,by simp,b5⟩ wk1_ ?_
       rintro ⟨m,j,q2,K,B2⟩ ⟨d1,d2,d3,d4,d5⟩ hnext
       dsimp only at d1 d2 d3 d4 d5 hnext ⊢
       obtain ⟨m,rfl⟩:∃m',m=m'+1:=⟨m - 1,by omega⟩
       have hnx:=fun j2 K' q' B' s'=>hnext (m,j2,q',K',B') s'
       clear hnext
       dsimp only at hnx
       have hmapP:∀x:List Pf,(x.map Pf.enc).length=x.length:=fun x=>List.length_map _
       rw [rdK] at d5
       by_cases hc2:T[j]? = some [41]
       ·rw [if_pos hc2] at d5
        have htc2:=take_yes T j [41] hTl hc2
        have hvm:(L.map V.tm).map Tm.enc=L.map V.enc:=by rw [List.map_map];rfl
        rw [←d5]
        refine run_sound Tryz.func20 mixed 5 _ _ (by kernel_rfl) ?_
        simp only [go_sem,seval,run.eq_1]
        repeat' (first
         | ((refine (ACalls.emb htc2 [2] rfl rfl rfl (by decide) rfl ?_)<;>(rintro c H' ⟨rfl,rfl⟩ _;refine ⟨rfl,rfl,?_⟩))<;>(try simp only [go_sem,seval,run.eq_1]))
         | fail)
        refine AW.placeB 7 2 8 0 rfl rfl rfl rfl (by decide) ?_
        refine AW.placeB 7 3 9 1 rfl rfl rfl rfl (by decide) ?_
        refine rS_ Tryz.func20 ?_
        simp only [go_sem,seval]
        repeat' (first
         | (exact ⟨_,_,_,_,rfl,by rw [show (Pf.mk rel c (L.map V.tm) K).values=L.map V.tm from rfl,hvm];rfl⟩)
         | fail)
       ·rw [if_neg hc2] at d5
        have htn2:=take_no T j [41] hTl (by simp) hc2
        have hg:=ih m (by omega) j d1 (by omega) te tr pe pr
        cases hr:rdP T m j with
        | none =>
         rw [hr] at d5 hg
         unfold prR at hg
         dsimp only at d5 hg
         rw [←d5]
         refine AW.hole ?_
         refine AW.hole ?_
         refine rS_ Tryz.func20 ?_
         simp only [go_sem,seval]
         repeat' (first
          | (exact ⟨k0,rfl,rfl,hkb⟩)
          | ((first
           | (refine (ACalls.emb htn2 [2] rfl rfl rfl (by decide) rfl ?_)<;>(rintro c H' ⟨rfl,rfl⟩ _;refine ⟨rfl,rfl,?_⟩))
           | (refine (ACalls.emb hg [10,11,2,3,4,5] rfl rfl rfl (by decide) rfl ?_)<;>(rintro c H' ⟨k0,rfl,rfl,hkb⟩ _;refine ⟨rfl,rfl,?_⟩)))<;>(try simp only [go_sem,seval]))
          | fail)
        | some x =>
         obtain ⟨t,j2⟩:=x
         rw [hr] at d5 hg
         have hb:=(rdP_wt T m).1 _ _ _ hr
         unfold prR at hg
         dsimp only at d5 hg
         refine AW.hole ?_
         refine AW.hole ?_
         refine run_sound Tryz.func20 mixed 13 _ _ (by kernel_rfl) ?_
         simp only [go_sem,seval,run.eq_1]
         repeat' (first
          | ((first
           | (refine (ACalls.emb htn2 [2] rfl rfl rfl (by decide) rfl ?_)<;>(rintro c H' ⟨rfl,rfl⟩ _;refine ⟨rfl,rfl,?_⟩))
           | (refine (ACalls.emb hg [10,11,2,3,4,5] rfl rfl rfl (by decide) rfl ?_)<;>(rintro c H' ⟨e1,B3,e2,B4,rfl,rfl⟩ _;refine ⟨rfl,rfl,?_⟩)))<;>(try simp only [go_sem,seval,run.eq_1]))
          | fail)
         refine AW.regT ?_
         simp only [go_sem,seval,hmapP]
         repeat' (first
          | ((first
           | (refine all_intro (fun Bq=>?_))
           | (refine ⟨sd,?_⟩))<;>(try simp only [go_sem,seval,hmapP]))
          | fail)
         refine rS_ Tryz.func20 ?_
         simp only [go_sem,seval]
         refine hnx j2 (K++[t]) (q2+1) Bq _ ⟨by omega,by omega,by omega,by simp;omega,d5⟩ (by omega) (by refine ⟨by simp [mkS,Pf.enc_eq t],by simp [mkS,Pf.enc_eq t],by simp only [mkS,e_,f_,O.refsLt,C.refsLt,C.refsLt1,all_dmap];first | done | rfl | (simp;done),?_⟩;simp [mkS,Abs.get,C.refsLtT,C.refsLt,C.refsLt1])
      ·rw [if_neg hc] at b5
       have htn:=take_no T j [41] hTl (by simp) hc
       have hg:=okTerm_R T hTl hTm j b2 te tr pe pr
       rw [rdO_big] at hg
       cases hr:rdO false T j with
       | none =>
        rw [hr] at b5 hg
        unfold tmR at hg
        dsimp only at b5 hg
        rw [←b5]
        refine AW.hole ?_
        refine rS_ Tryz.func20 ?_
        simp only [go_sem,seval]
        repeat' (first
         | (exact ⟨k0,rfl,rfl,hkb⟩)
         | ((first
          | (refine (ACalls.emb htn [2] rfl rfl rfl (by decide) rfl ?_)<;>(rintro c H' ⟨rfl,rfl⟩ _;refine ⟨rfl,rfl,?_⟩))
          | (refine (ACalls.emb hg [10,2,3,4,5] rfl rfl rfl (by decide) rfl ?_)<;>(rintro c H' ⟨v0,k0,rfl,rfl,hkb⟩ _;refine ⟨rfl,rfl,?_⟩)))<;>(try simp only [go_sem,seval]))
         | fail)
       | some x =>
        obtain ⟨v,j2⟩:=x
        rw [hr] at b5 hg
        have hb:=rdO_len hr
        unfold tmR tmP at hg
        dsimp only at b5 hg
        refine AW.hole ?_
        refine run_sound Tryz.func20 mixed 13 _ _ (by kernel_rfl) ?_
        simp only [go_sem,seval,run.eq_1]
        repeat' (first
         | ((first
          | (refine (ACalls.emb htn [2] rfl rfl rfl (by decide) rfl ?_)<;>(rintro c H' ⟨rfl,rfl⟩ _;refine ⟨rfl,rfl,?_⟩))
          | (refine (ACalls.emb hg [10,2,3,4,5] rfl rfl rfl (by decide) rfl ?_)<;>(rintro c H' (⟨ez,Bz,rfl,rfl⟩ | ⟨kz,rfl,rfl⟩) _<;>refine ⟨rfl,rfl,?_⟩)))<;>(try simp only [go_sem,seval,hmap,tmW,tmF,tmP,run.eq_1]))
         | fail)
        ·refine AW.regT ?_
         simp only [go_sem,seval,hmap]
         repeat' (first
          | ((first
           | (refine all_intro (fun Bq=>?_))
           | (refine ⟨sd,?_⟩))<;>(try simp only [go_sem,seval,hmap]))
          | fail)
         refine rS_ Tryz.func20 ?_
         simp only [go_sem,seval]
         refine hnx j2 (L++[v]) (q+1) Bq _ ⟨by omega,by omega,by omega,by simp;omega,b5⟩ (by omega) (by refine ⟨by simp [mkS,V.enc_eq v],by simp [mkS,V.enc_eq v],by simp only [mkS,e_,f_,O.refsLt,C.refsLt,C.refsLt1,all_dmap];first | done | rfl | (simp;done),?_⟩;simp [mkS,Abs.get,C.refsLtT,C.refsLt,C.refsLt1])
        ·refine AW.regT ?_
         simp only [go_sem,seval,hmap]
         repeat' (first
          | ((first
           | (refine all_intro (fun Bq=>?_))
           | (refine ⟨sd,?_⟩))<;>(try simp only [go_sem,seval,hmap]))
          | fail)
         refine rS_ Tryz.func20 ?_
         simp only [go_sem,seval]
         refine hnx j2 (L++[v]) (q+1) Bq _ ⟨by omega,by omega,by omega,by simp;omega,b5⟩ (by omega) (by refine ⟨by simp [mkS,V.enc_eq v,kz],by simp [mkS,V.enc_eq v,kz],by simp only [mkS,e_,f_,O.refsLt,C.refsLt,C.refsLt1,all_dmap];first | done | rfl | (simp;done),?_⟩;simp [mkS,Abs.get,C.refsLtT,C.refsLt,C.refsLt1])
     ·have ht3:=take_no T (i+3) [40] hTl (by simp) h3
      rw [if_neg h3] at hR
      rw [←hR]
      refine aE_ Tryz.func20 ?_
      refine rS_ Tryz.func20 ?_
      simp only [go_sem,seval,hw1]
      repeat' (first
       | (exact ⟨i+3,rfl,rfl,by omega⟩)
       | (simp (disch:=omega) only [wrap_ok])
       | ((first
        | (refine (ACalls.emb ht0 [2] rfl rfl rfl (by decide) rfl ?_)<;>(rintro c H' ⟨rfl,rfl⟩ _;refine ⟨rfl,rfl,?_⟩))
        | (refine (ACalls.emb hd1 [2] rfl rfl rfl (by decide) rfl ?_)<;>(rintro c H' ⟨rfl,rfl⟩ _;refine ⟨rfl,rfl,?_⟩))
        | (refine (ACalls.emb hp1 [2] rfl rfl rfl (by decide) rfl ?_)<;>(rintro c H' ⟨rfl,rfl⟩ _;refine ⟨rfl,rfl,?_⟩))
        | (refine (ACalls.emb hn [2,3,4,5] rfl rfl rfl (by decide) rfl ?_)<;>(rintro c H' ⟨rfl,rfl⟩ _;refine ⟨rfl,rfl,?_⟩))
        | (refine (ACalls.emb ht3 [2] rfl rfl rfl (by decide) rfl ?_)<;>(rintro c H' ⟨rfl,rfl⟩ _;refine ⟨rfl,rfl,?_⟩)))<;>(try simp only [go_sem,seval,hw1]))
       | fail)
  ·have ht0:=take_no T i [40] hTl (by simp) h40
   rw [if_neg h40] at hR
   rw [←hR]
   refine aE_ Tryz.func20 ?_
   refine rS_ Tryz.func20 ?_
   simp only [go_sem,seval]
   repeat' (first
    | (exact ⟨i,rfl,rfl,hi⟩)
    | ((refine (ACalls.emb ht0 [2] rfl rfl rfl (by decide) rfl ?_)<;>(rintro c H' ⟨rfl,rfl⟩ _;refine ⟨rfl,rfl,?_⟩))<;>(try simp only [go_sem,seval]))
    | fail)
end Go.Proofs.YtehcdhelbkjaeaaGreatDoor
