import Derived.Test.YtehcdhelbkjaeaaGreatDoorW81
import Derived.Test.YtehcdhelbkjaeaaGreatDoorP16
open List renaming length_cons→a_,length_append→b_,all_cons→c_,all_nil→d_,mem_cons→e_,getElem?_eq_getElem→f_,mem_map→g_
namespace Go.Proofs.YtehcdhelbkjaeaaGreatDoor
open Go.Abs
set_option maxRecDepth 100000
set_option maxHeartbeats 4000000
set_option linter.unusedSimpArgs false
set_option linter.unusedVariables false
def ptC (o:Option (List V)):C:=match o with | some l=>.tup [.d (.sl (l.map V.enc)),.d (.bool true)] | none=>.tup [.d (.sl []),.d (.bool false)]
theorem ptC_none:ptC none=.tup [.d (.sl []),.d (.bool false)]:=rfl
theorem ptC_some (l:List V):ptC (some l)=.tup [.d (.sl (l.map V.enc)),.d (.bool true)]:=rfl
theorem rd_wt {big:Bool} {T:List (List UInt8)} (hTl:T.length≤20000) {n i:Nat} {v:V} {j:Nat} (h:rdT big T n i=some (v,j)):wtL v.enc≤1048576:=by
 have h1:=(rd_len big T n).1 _ _ _ h
 have h2:=V.wt_low v ((rd_low big T n).1 _ _ _ h)
 omega
theorem l03ReadAll_fn (T:List (List UInt8)) (hTl:T.length≤20000) (hTm:∀t,t∈T→t.length≤100000):Gives Tryz.prog 36 [.sl (strD T)] (ptC (rdA T (T.length+1) 0)):=by
 have hmx:maxLen=9223372036854775807:=rfl
 obtain ⟨R,hR⟩:∃R,rdA T (T.length+1) 0=R:=⟨_,rfl⟩
 rw [hR]
 refine aE_ Tryz.func36 ?_
 refine rS_ Tryz.func36 ?_
 simp only [go_sem,seval]
 refine AW.adopt 4 4 89 (by decide) rfl ?_
 refine AW.lp [0] (fun u:Nat×Nat×Nat×List V=>[(5,.d (.int .i64 u.2.1)),(4,.own 0 u.2.2.1)]) (fun _ u=>[.grow u.2.2.1 4 89 (u.2.2.2.map V.enc)]) (fun u=>u.2.1≤T.length∧T.length - u.2.1+1≤u.1∧(match rdA T u.1 u.2.1 with | some l=>some (u.2.2.2++l) | none=>none)=R∧u.2.2.2.length≤u.2.1) (fun u=>T.length - u.2.1) (T.length+1,0,0,[]) ⟨Nat.zero_le _,by dsimp only;omega,by dsimp only;rw [hR];cases R<;>rfl,by simp⟩ wk1_ ?_
 rintro ⟨m,j,q,L⟩ ⟨hj,hf,hi2,hL⟩ hnext
 dsimp only at hj hf hi2 hL hnext ⊢
 obtain ⟨m,rfl⟩:∃m',m=m'+1:=⟨m - 1,by omega⟩
 have hmap:∀x:List V,(x.map V.enc).length=x.length:=fun x=>List.length_map _
 by_cases h:j<T.length
 ·have n1:(j:Int)<(T.length:Int):=by omega
  have hg:=l03Read_fn T hTl hTm (2 * T.length+1) j (by omega) (by omega)
  rw [rdA_step h] at hi2
  cases hr:rdT false T (2 * T.length+1) j with
  | none =>
   have hro:rdO false T j=none:=by unfold rdO;rw [hr]
   obtain ⟨k,hk⟩:=rdG_none hr hg
   rw [hro] at hi2
   rw [←hi2,ptC_none]
   refine rS_ Tryz.func36 ?_
   simp only [go_sem,seval,n1,strD_len]
   repeat' (first
    | ((refine hk.calls rfl ?_)<;>(try simp only [go_sem,seval,n1,strD_len]))
    | fail)
  | some x =>
   obtain ⟨v,j2⟩:=x
   have hk:=rdG_some hr hg
   have hto:Gives Tryz.prog 55 [.agg v.enc] (.d (.bool (tmOk v.tm))):=sTermOk_fn v.tm (by have:=rd_wt hTl hr;unfold V.enc at this;omega)
   rw [tmOk_V] at hto
   have hb:=(rd_len false T _).1 _ _ _ hr
   by_cases hok:v.ok=true
   ·have hro:rdO false T j=some (v,j2):=by unfold rdO;rw [hr];simp only [if_pos hok]
    rw [hro] at hi2
    rw [hok] at hto
    refine rS_ Tryz.func36 ?_
    simp only [go_sem,seval,n1,strD_len]
    repeat' (first
     | ((first
      | (refine hk.calls rfl ?_)
      | (refine hto.calls rfl ?_)
      | (refine ⟨sd,?_⟩))<;>(try simp only [go_sem,seval,n1,strD_len,hmap]))
     | fail)
    refine hnext (m,j2,q+1,L++[v]) _ ⟨by dsimp only;omega,by dsimp only;omega,?_,by simp;omega⟩ (by dsimp only;omega) wk1_
    dsimp only at hi2 ⊢
    rw [←hi2]
    cases rdA T m j2<;>simp
   ·have hokf:v.ok=false:=by simpa using hok
    have hro:rdO false T j=none:=by unfold rdO;rw [hr];simp only [if_neg hok]
    rw [hro] at hi2
    rw [hokf] at hto
    rw [←hi2,ptC_none]
    refine rS_ Tryz.func36 ?_
    simp only [go_sem,seval,n1,strD_len]
    repeat' (first
     | ((first
      | (refine hk.calls rfl ?_)
      | (refine hto.calls rfl ?_))<;>(try simp only [go_sem,seval,n1,strD_len,hmap]))
     | fail)
 ·rw [rdA_end (by omega)] at hi2
  have n1:¬(j:Int)<(T.length:Int):=by omega
  rw [←hi2,ptC_some,List.append_nil]
  refine rS_ Tryz.func36 ?_
  simp only [go_sem,seval,n1,strD_len]
theorem strD_cut (T:List (List UInt8)) (a k:Nat):((strD T).take (a+k)).drop a=strD ((T.drop a).take k):=by
 unfold strD
 rw [←List.map_take,←List.map_drop,List.take_drop]
def liV (T:List (List UInt8)) (i:Nat):Option Nat:=if T[i]? = some [40] then clo 0 (T.drop (i+1)) else none
def liC (T:List (List UInt8)) (i:Nat):C:=match liV T i with
 | some k=>.tup [.d (.sl (strD ((T.drop (i+1)).take k))),.d (.int .i64 ((i+1+(k+1):Nat):Int)),.d (.bool true)]
 | none=>.tup [.d (.sl []),.d (.int .i64 (i:Int)),.d (.bool false)]
theorem liC_none {T:List (List UInt8)} {i:Nat} (h:liV T i=none):liC T i=.tup [.d (.sl []),.d (.int .i64 (i:Int)),.d (.bool false)]:=by unfold liC;rw [h]
theorem liC_some {T:List (List UInt8)} {i k:Nat} (h:liV T i=some k):liC T i=.tup [.d (.sl (strD ((T.drop (i+1)).take k))),.d (.int .i64 ((i+1+(k+1):Nat):Int)),.d (.bool true)]:=by unfold liC;rw [h]
theorem l27List_fn (T:List (List UInt8)) (hTl:T.length≤20000) (i:Nat) (hi:i≤T.length):Gives Tryz.prog 34 [.sl (strD T),.int .i64 i] (liC T i):=by
 have hmx:maxLen=9223372036854775807:=rfl
 by_cases h40:T[i]? = some [40]
 ·have hil:=(List.getElem?_eq_some_iff.1 h40).1
  have n0:¬(T.length:Int)≤(i:Int):=by omega
  have hix:=strD_at h40
  have hl:liV T i=clo 0 (T.drop (i+1)):=if_pos h40
  obtain ⟨R,hR⟩:∃R,liC T i=R:=⟨_,rfl⟩
  rw [hR]
  refine aE_ Tryz.func34 ?_
  refine rS_ Tryz.func34 ?_
  simp only [go_sem,seval,n0,strD_len,idx_of hix]
  repeat' (first
   | ((refine ⟨sd,?_⟩)<;>(try simp only [go_sem,seval,n0,strD_len,idx_of hix]))
   | fail)
  refine AW.lp [0,1] (fun u:Nat×Nat=>[(8,.d (.int .i64 u.1)),(7,.d (.int .i64 u.2))]) (fun H _=>H) (fun u=>i≤u.1∧u.1≤T.length∧u.2≤u.1∧((u.1=i∧u.2=0)∨(∃d,u.2=d+1∧i<u.1∧(clo d (T.drop u.1)).map (·+(u.1 - (i+1)))=clo 0 (T.drop (i+1))))) (fun u=>T.length - u.1) (i,0) ⟨Nat.le_refl _,hi,Nat.zero_le _,.inl ⟨rfl,rfl⟩⟩ wk1_ ?_
  rintro ⟨k,e⟩ ⟨h1,h2,h3,hinv⟩ hnext
  dsimp only at h1 h2 h3 hinv hnext ⊢
  have hnx:=fun k' e' s'=>hnext (k',e') s'
  clear hnext
  dsimp only at hnx
  by_cases hk:k<T.length
  ·obtain ⟨t,ht⟩:∃t,T[k]? = some t:=⟨_,f_ hk⟩
   have hkx:=strD_at ht
   have n1:(k:Int)<(T.length:Int):=by omega
   have hw:IntKind.i64.wrap ((k:Int)+1)=((k+1:Nat):Int):=by simp (disch:=omega) only [wrap_ok];omega
   have he:IntKind.i64.wrap ((e:Int)+1)=((e+1:Nat):Int):=by simp (disch:=omega) only [wrap_ok];omega
   rcases hinv with ⟨rfl,rfl⟩ | ⟨d,rfl,hik,hc⟩
   ·rw [h40] at ht
    cases ht
    have z1:IntKind.i64.wrap 1=1:=by simp (disch:=omega) only [wrap_ok]
    refine rS_ Tryz.func34 ?_
    simp only [go_sem,seval,n1,strD_len,idx_of hkx,hw,z1]
    all_goals first | (exfalso;omega) | skip
    refine hnx (k+1) 1 _ ⟨by omega,by omega,by omega,.inr ⟨0,rfl,by omega,?_⟩⟩ (by omega) wk1_
    rw [show k+1 - (k+1)=0 by omega]
    cases clo 0 (T.drop (k+1))<;>rfl
   ·have hu:IntKind.i64.wrap ((d:Int)+1+1)=(d:Int)+1+1:=by simp (disch:=omega) only [wrap_ok]
    have add:∀o:Option Nat,(o.map (·+1)).map (·+(k - (i+1)))=o.map (·+(k+1 - (i+1))):=fun o=>by
     cases o with
     | none=>rfl
     | some x=>simp only [Option.map_some,Option.some.injEq];omega
    by_cases t40:t=[40]
    ·subst t40
     rw [clo_step ht,if_pos rfl,add] at hc
     have nz:¬(d:Int)+1+1=0:=by omega
     refine rS_ Tryz.func34 ?_
     simp only [go_sem,seval,n1,strD_len,idx_of hkx,hw,hu,nz]
     all_goals first | (exfalso;omega) | skip
     refine hnx (k+1) (d+1+1) _ ⟨by omega,by omega,by omega,.inr ⟨d+1,rfl,by omega,hc⟩⟩ (by omega) wk1_
    ·by_cases t41:t=[41]
     ·subst t41
      rw [clo_step ht,if_neg (by decide),if_pos rfl] at hc
      cases d with
      | zero =>
       simp only [Option.map_some] at hc
       have hlv:=hl.trans hc.symm
       have hRR:=liC_some hlv
       rw [hR,show ((i+1+(0+(k - (i+1))+1):Nat):Int)=((k+1:Nat):Int) by omega,show 0+(k - (i+1))=k - (i+1) by omega,←strD_cut T (i+1) (k - (i+1)),show i+1+(k - (i+1))=k by omega] at hRR
       have hwi:IntKind.i64.wrap ((i:Int)+1)=((i+1:Nat):Int):=by simp (disch:=omega) only [wrap_ok];omega
       have z0:IntKind.i64.wrap 0=0:=by simp (disch:=omega) only [wrap_ok]
       have hin:((i:Int)+1).toNat=i+1:=by omega
       have hsw:∀x,x∈strD T→x.length=1:=fun x hx=>by
        obtain ⟨y,_,rfl⟩:=g_.1 hx;rfl
       rw [hRR]
       refine rS_ Tryz.func34 ?_
       simp only [go_sem,seval,n1,strD_len,idx_of hkx,hw,z0,hwi,hin]
       repeat' (first
        | ((refine ⟨sd,?_⟩)<;>(try simp only [go_sem,seval,n1,strD_len,idx_of hkx,hw,z0,hwi,hin]))
        | fail)
       all_goals omega
      | succ d =>
       dsimp only at hc
       rw [add] at hc
       have hs:IntKind.i64.wrap ((d:Int)+1+1 - 1)=(d:Int)+1:=by simp (disch:=omega) only [wrap_ok];omega
       have nz:¬(d:Int)+1=0:=by omega
       refine rS_ Tryz.func34 ?_
       simp only [go_sem,seval,n1,strD_len,idx_of hkx,hw,hs,nz]
       all_goals first | (exfalso;omega) | skip
       refine hnx (k+1) (d+1) _ ⟨by omega,by omega,by omega,.inr ⟨d,rfl,by omega,hc⟩⟩ (by omega) wk1_
     ·rw [clo_step ht,if_neg t40,if_neg t41,add] at hc
      refine rS_ Tryz.func34 ?_
      simp only [go_sem,seval,n1,strD_len,idx_of hkx,hw,t40,t41]
      repeat' (first
       | ((refine br_n (fun hq=>?_) (fun hq=>?_))<;>(try simp only [go_sem,seval,n1,strD_len,idx_of hkx,hw,t40,t41,hq]))
       | (simp (disch:=omega) only [wrap_ok])
       | ((refine ⟨sd,?_⟩)<;>(try simp only [go_sem,seval,n1,strD_len,idx_of hkx,hw,t40,t41]))
       | fail)
      all_goals first | (exfalso;omega) | skip
      refine hnx (k+1) (d+1) _ ⟨by omega,by omega,by omega,.inr ⟨d,rfl,by omega,hc⟩⟩ (by omega) wk1_
  ·have n1:¬(k:Int)<(T.length:Int):=by omega
   have hRR:R=.tup [.d (.sl []),.d (.int .i64 (i:Int)),.d (.bool false)]:=by
    rw [←hR]
    refine liC_none ?_
    rcases hinv with ⟨rfl,_⟩ | ⟨d,_,_,hc⟩
    ·omega
    ·rw [clo_end (by omega)] at hc
     rw [hl,←hc];rfl
   rw [hRR]
   refine rS_ Tryz.func34 ?_
   simp only [go_sem,seval,n1,strD_len]
 ·have hl:liV T i=none:=if_neg h40
  rw [liC_none hl]
  by_cases hk:i<T.length
  ·obtain ⟨t,ht⟩:∃t,T[i]? = some t:=⟨_,f_ hk⟩
   have hkx:=strD_at ht
   have n0:¬(T.length:Int)≤(i:Int):=by omega
   have t40:¬t=[40]:=fun e=>h40 (by rw [ht,e])
   refine aE_ Tryz.func34 ?_
   refine rS_ Tryz.func34 ?_
   simp only [go_sem,seval,n0,strD_len,idx_of hkx,t40]
   all_goals omega
  ·have n0:(T.length:Int)≤(i:Int):=by omega
   refine aE_ Tryz.func34 ?_
   refine rS_ Tryz.func34 ?_
   simp only [go_sem,seval,n0,strD_len]
def ssD (L:List (List (List UInt8))):List (List D):=L.map fun w=>[.sl (strD w)]
theorem ssD_len (L:List (List (List UInt8))):(ssD L).length=L.length:=by simp [ssD]
theorem ssD_at {L:List (List (List UInt8))} {i:Nat} {w:List (List UInt8)} (h:L[i]? = some w):(ssD L)[i]? = some [.sl (strD w)]:=by simp [ssD,h]
theorem ssD_snoc (L:List (List (List UInt8))) (w:List (List UInt8)):ssD (L++[w])=ssD L++[[.sl (strD w)]]:=by simp [ssD]
def lssC (o:Option (List (List (List UInt8)))):C:=match o with | some L=>.tup [.d (.sl (ssD L)),.d (.bool true)] | none=>.tup [.d (.sl []),.d (.bool false)]
theorem lssC_none:lssC none=.tup [.d (.sl []),.d (.bool false)]:=rfl
theorem lssC_some (L:List (List (List UInt8))):lssC (some L)=.tup [.d (.sl (ssD L)),.d (.bool true)]:=rfl
theorem l27Lists_fn (T:List (List UInt8)) (hTl:T.length≤20000):Gives Tryz.prog 15 [.sl (strD T)] (lssC (lsl (T.length+1) T)):=by
 have hmx:maxLen=9223372036854775807:=rfl
 obtain ⟨R,hR⟩:∃R,lsl (T.length+1) T=R:=⟨_,rfl⟩
 rw [hR]
 refine aE_ Tryz.func15 ?_
 refine rS_ Tryz.func15 ?_
 simp only [go_sem,seval]
 refine AW.adopt 4 1 42 (by decide) rfl ?_
 refine AW.lp [0] (fun u:Nat×Nat×Nat×List (List (List UInt8))=>[(5,.d (.int .i64 u.2.1)),(4,.own 0 u.2.2.1)]) (fun _ u=>[.grow u.2.2.1 1 42 (ssD u.2.2.2)]) (fun u=>u.2.1≤T.length∧T.length - u.2.1+1≤u.1∧(match lsl u.1 (T.drop u.2.1) with | some l=>some (u.2.2.2++l) | none=>none)=R∧u.2.2.2.length≤u.2.1) (fun u=>T.length - u.2.1) (T.length+1,0,0,[]) ⟨Nat.zero_le _,by dsimp only;omega,by dsimp only;rw [List.drop_zero,hR];cases R<;>rfl,by simp⟩ (by refine ⟨by simp [mkS,ssD],by simp [mkS,ssD],by simp only [mkS,c_,d_,O.refsLt,C.refsLt,C.refsLt1,all_dmap];first | done | rfl | (simp;done),?_⟩;simp [mkS,Abs.get,C.refsLtT,C.refsLt,C.refsLt1]) ?_
 rintro ⟨m,j,q,L⟩ ⟨hj,hf,hi2,hL⟩ hnext
 dsimp only at hj hf hi2 hL hnext ⊢
 obtain ⟨m,rfl⟩:∃m',m=m'+1:=⟨m - 1,by omega⟩
 by_cases h:j<T.length
 ·have n1:(j:Int)<(T.length:Int):=by omega
  have hg:=l27List_fn T hTl j hj
  rw [lsl_step h] at hi2
  have hlv:liV T j=if T[j]? = some [40] then clo 0 (T.drop (j+1)) else none:=rfl
  cases hv:liV T j with
  | none =>
   have hRn:R=none:=by
    rw [←hi2]
    split
    ·rename_i l hl
     split at hl
     ·rename_i h40
      rw [if_pos h40] at hlv
      rw [hlv] at hv
      rw [hv] at hl
      cases hl
     ·cases hl
    ·rfl
   rw [liC_none hv] at hg
   rw [hRn,lssC_none]
   refine rS_ Tryz.func15 ?_
   simp only [go_sem,seval,n1,strD_len]
   repeat' (first
    | ((refine hg.calls rfl ?_)<;>(try simp only [go_sem,seval,n1,strD_len]))
    | fail)
  | some k =>
   have h40:T[j]? = some [40]:=by
    by_cases e:T[j]? = some [40]
    ·exact e
    ·rw [if_neg e] at hlv;rw [hlv] at hv;cases hv
   rw [if_pos h40] at hi2 hlv
   rw [hlv] at hv
   rw [hv] at hi2
   rw [liC_some (hlv.trans hv)] at hg
   dsimp only at hi2
   have hkl:=(clo_inv _ _ _ hv).2.2
   rw [List.length_drop] at hkl
   have hse:=ssD_snoc L ((T.drop (j+1)).take k)
   generalize (T.drop (j+1)).take k=w at *
   refine rS_ Tryz.func15 ?_
   simp only [go_sem,seval,n1,strD_len]
   repeat' (first
    | ((first
     | (refine hg.calls rfl ?_)
     | (refine ⟨sd,?_⟩))<;>(try simp only [go_sem,seval,n1,strD_len,ssD_len]))
    | fail)
   refine hnext (m,j+1+(k+1),q+1,L++[w]) _ ⟨by dsimp only;omega,by dsimp only;omega,?_,by simp;omega⟩ (by dsimp only;omega) (by refine ⟨by simp [mkS,hse],by simp [mkS,hse],by simp only [mkS,c_,d_,O.refsLt,C.refsLt,C.refsLt1,all_dmap];first | done | rfl | (simp;done),?_⟩;simp [mkS,Abs.get,C.refsLtT,C.refsLt,C.refsLt1])
   dsimp only
   rw [←hi2]
   cases lsl m (T.drop (j+1+(k+1)))<;>simp
 ·have n1:¬(j:Int)<(T.length:Int):=by omega
  rw [lsl_end (by omega)] at hi2
  rw [←hi2,lssC_some,List.append_nil]
  refine rS_ Tryz.func15 ?_
  simp only [go_sem,seval,n1,strD_len]
theorem unl_mem:∀{L:List (List (List UInt8))} {w:List (List UInt8)},w∈L→(∀t,t∈w→t∈unl L)∧w.length+2≤(unl L).length
 | [],w,h=>by cases h
 | x :: L,w,h=>by
  rcases e_.1 h with rfl | h
  ·refine ⟨fun t ht=>?_,?_⟩
   ·simp only [unl,e_,List.mem_append];exact .inr (.inl ht)
   ·simp only [unl,a_,b_];omega
  ·obtain ⟨h1,h2⟩:=unl_mem h
   refine ⟨fun t ht=>?_,?_⟩
   ·simp only [unl,e_,List.mem_append];exact .inr (.inr (.inr (h1 t ht)))
   ·simp only [unl,a_,b_];omega
theorem unl_len:∀L:List (List (List UInt8)),2 * L.length≤(unl L).length
 | []=>by simp
 | w :: r=>by
  have:=unl_len r
  simp only [unl,a_,b_];omega
def deG (n:Nat) (w:List (List UInt8)):Prop:=ACalls Tryz.prog 16 [.d (.sl (strD w))] [] (fun c H'=>∃(pr:Pf) (b:Bool),c=.tup [.d (.agg pr.enc),.d (.bool b)]∧H'=[]∧derO n w=if b=true then some pr else none)
theorem nilPf:(Pf.mk [] 0 [] []).enc=[.str [],.int .i64 0,.sl [],.sl []]:=by rw [Pf.enc_eq];rfl
theorem l27Derive_fn:∀(n:Nat) (w:List (List UInt8)),w.length+1≤n→w.length≤20000→(∀t,t∈w→t.length≤100000)→deG n w:=by
 intro n
 induction n using Nat.strongRecOn with
 | ind n ih =>
  intro w hn hwl hwm
  obtain ⟨n,rfl⟩:∃n',n=n'+1:=⟨n - 1,by omega⟩
  have hmx:maxLen=9223372036854775807:=rfl
  unfold deG
  match w with
  | [] =>
   have hd:derO (n+1) []=none:=by simp [derO]
   have n0:((strD ([]:List (List UInt8))).length:Int)<2:=by simp [strD]
   rw [hd]
   refine aE_ Tryz.func16 ?_
   refine rS_ Tryz.func16 ?_
   simp only [go_sem,seval,n0]
   repeat' (first
    | (exact ⟨.mk [] 0 [] [],false,by rw [nilPf],rfl⟩)
    | fail)
  | [t] =>
   have hd:derO (n+1) [t]=none:=by simp [derO]
   have n0:((strD [t]).length:Int)<2:=by simp [strD]
   rw [hd]
   refine aE_ Tryz.func16 ?_
   refine rS_ Tryz.func16 ?_
   simp only [go_sem,seval,n0]
   repeat' (first
    | (exact ⟨.mk [] 0 [] [],false,by rw [nilPf],rfl⟩)
    | fail)
  | rel :: c :: r =>
   obtain ⟨DO,hDO⟩:∃x,derO (n+1) (rel :: c :: r)=x:=⟨_,rfl⟩
   rw [hDO]
   rw [derO] at hDO
   simp only [a_] at hn hwl
   have hrm:∀t,t∈r→t.length≤100000:=fun t ht=>hwm t (by simp [ht])
   have hp:=sParseInt_fn c (by have:=hwm c (by simp);omega)
   have hls:=l27Lists_fn r (by omega)
   obtain ⟨T,hT⟩:∃T,rel :: c :: r=T:=⟨_,rfl⟩
   have g0:T[0]? = some rel:=by rw [←hT];rfl
   have g1:T[1]? = some c:=by rw [←hT];rfl
   have g2:(strD T).drop 2=strD r:=by rw [←hT];rfl
   have g3:T.length=r.length+2:=by rw [←hT];rfl
   rw [hT]
   clear hwm hT
   have hsw:∀x,x∈strD T→x.length=1:=fun x hx=>by
    obtain ⟨y,_,rfl⟩:=g_.1 hx;rfl
   have hT2:(2:Int)≤(T.length:Int):=by omega
   have n0:¬(T.length:Int)<2:=by omega
   have x0:=strD_at g0
   have x1:=strD_at g1
   cases hk:pInt c with
   | none =>
    rw [hk] at hDO
    dsimp only at hDO
    rw [pIC_none hk] at hp
    rw [←hDO]
    cases hl:lsl (r.length+1) r with
    | none =>
     rw [hl,lssC_none] at hls
     refine aE_ Tryz.func16 ?_
     refine rS_ Tryz.func16 ?_
     simp only [go_sem,seval,n0,strD_len,idx_of x0,idx_of x1,g2]
     repeat' (first
      | (exact ⟨.mk [] 0 [] [],false,by rw [nilPf],rfl⟩)
      | ((first
       | (refine hp.calls rfl ?_)
       | (refine hls.calls rfl ?_)
       | (refine ⟨sd,?_⟩))<;>(try simp only [go_sem,seval,n0,strD_len,idx_of x0,idx_of x1,g2]))
      | fail)
    | some L =>
     rw [hl,lssC_some] at hls
     refine aE_ Tryz.func16 ?_
     refine rS_ Tryz.func16 ?_
     simp only [go_sem,seval,n0,strD_len,idx_of x0,idx_of x1,g2]
     repeat' (first
      | (exact ⟨.mk [] 0 [] [],false,by rw [nilPf],rfl⟩)
      | ((first
       | (refine hp.calls rfl ?_)
       | (refine hls.calls rfl ?_)
       | (refine ⟨sd,?_⟩))<;>(try simp only [go_sem,seval,n0,strD_len,idx_of x0,idx_of x1,g2]))
      | fail)
   | some k =>
    rw [hk] at hDO
    rw [pIC_some hk] at hp
    cases hl:lsl (r.length+1) r with
    | none =>
     rw [hl] at hDO
     dsimp only at hDO
     rw [hl,lssC_none] at hls
     rw [←hDO]
     refine aE_ Tryz.func16 ?_
     refine rS_ Tryz.func16 ?_
     simp only [go_sem,seval,n0,strD_len,idx_of x0,idx_of x1,g2]
     repeat' (first
      | (exact ⟨.mk [] 0 [] [],false,by rw [nilPf],rfl⟩)
      | ((first
       | (refine hp.calls rfl ?_)
       | (refine hls.calls rfl ?_)
       | (refine ⟨sd,?_⟩))<;>(try simp only [go_sem,seval,n0,strD_len,idx_of x0,idx_of x1,g2]))
      | fail)
    | some L =>
     rw [hl] at hDO
     rw [hl,lssC_some] at hls
     cases L with
     | nil =>
      dsimp only at hDO
      rw [←hDO]
      refine aE_ Tryz.func16 ?_
      refine rS_ Tryz.func16 ?_
      simp only [go_sem,seval,n0,strD_len,idx_of x0,idx_of x1,g2]
      repeat' (first
       | (exact ⟨.mk [] 0 [] [],false,by rw [nilPf],rfl⟩)
       | ((first
        | (refine hp.calls rfl ?_)
        | (refine hls.calls rfl ?_)
        | (refine ⟨sd,?_⟩))<;>(try simp only [go_sem,seval,n0,strD_len,idx_of x0,idx_of x1,g2,ssD]))
       | fail)
     | cons p0 ps =>
      dsimp only at hDO
      obtain ⟨e1,_⟩:=lsl_un _ _ _ hl
      obtain ⟨m1,m2⟩:=unl_mem (L:=p0 :: ps) (w:=p0) (by simp)
      have hul:(unl ps).length+p0.length+2=r.length:=by rw [e1];simp only [unl,a_,b_];omega
      have hpm:∀w,w∈ps→(∀t,t∈w→t.length≤100000)∧w.length+2≤(unl ps).length:=fun w hw=>by
       obtain ⟨a1,_⟩:=unl_mem (L:=p0 :: ps) (w:=w) (by simp [hw])
       exact ⟨fun t ht=>hrm t (by rw [e1];exact a1 t ht),(unl_mem hw).2⟩
      have hpl:=unl_len ps
      have hra:=l03ReadAll_fn p0 (by omega) (fun t ht=>hrm t (by rw [e1];exact m1 t ht))
      obtain ⟨vs,b0,hv1,hv2⟩:∃(vs:List V) (b0:Bool),ptC (rdA p0 (p0.length+1) 0)=.tup [.d (.sl (vs.map V.enc)),.d (.bool b0)]∧rdA p0 (p0.length+1) 0=if b0=true then some vs else none:=by
       cases rdA p0 (p0.length+1) 0 with
       | none=>exact ⟨[],false,rfl,rfl⟩
       | some vs=>exact ⟨vs,true,rfl,rfl⟩
      rw [hv1] at hra
      rw [hv2] at hDO
      have i0:∀(Q:List D→Prop),(∀x,(ssD (p0 :: ps))[0]? = some x→Q x)=Q [.sl (strD p0)]:=fun Q=>by simp [ssD]
      have g5:(ssD (p0 :: ps)).drop 1=ssD ps:=rfl
      have g6:¬((p0 :: ps).length:Int)=0:=by simp only [a_];omega
      have g7:(1:Int)≤((p0 :: ps).length:Int):=by simp only [a_];omega
      have g8:(ssD (p0 :: ps))[0]? = some [.sl (strD p0)]:=rfl
      have g9:(ssD (p0 :: ps)).length=(p0 :: ps).length:=ssD_len _
      have hsw2:∀x,x∈ssD (p0 :: ps)→x.length=1:=fun x hx=>by
       obtain ⟨y,_,rfl⟩:=g_.1 hx;rfl
      generalize p0 :: ps=L at *
      refine aE_ Tryz.func16 ?_
      refine rS_ Tryz.func16 ?_
      simp only [go_sem,seval,n0,strD_len,idx_of x0,idx_of x1,g2]
      repeat' (first
       | ((first
        | (refine hp.calls rfl ?_)
        | (refine hls.calls rfl ?_)
        | (refine hra.calls rfl ?_)
        | (refine ⟨sd,?_⟩))<;>(try simp only [go_sem,seval,n0,strD_len,idx_of x0,idx_of x1,g2,g5,g6,g7,idx_of g8,g9]))
       | fail)
      obtain ⟨R2,hR2⟩:∃x,(if b0=true then derL n ps else none)=x:=⟨_,rfl⟩
      have hDO2:DO=R2.map (fun ks=>Pf.mk rel k (vs.map V.tm) ks):=by
       rw [←hDO,←hR2]
       cases b0<;>cases derL n ps<;>rfl
      have hpe:∀K:List Pf,(Pf.mk rel k (vs.map V.tm) K).enc=[.str rel,.int .i64 k,.sl (vs.map V.enc),.sl (K.map Pf.enc)]:=fun K=>by
       rw [Pf.enc_eq]
       simp only [Pf.rel,Pf.clause,Pf.values,Pf.kids,List.map_map]
       rfl
      refine AW.adoptGB 1 3 4 29 (by decide) rfl rfl ?_
      refine rS_ Tryz.func16 ?_
      simp only [go_sem,seval,g5,g7,g9,ssD_len]
      refine AW.rng ps [2,10,58,59] 60 58 (fun u:Nat×List Pf×Bool=>[(9,.d (.bool u.2.2))]) (fun _ u=>[.box [.d (.str []),.d (.int .i64 0),.nil0,.nil0],.box [.d (.str rel),.d (.int .i64 k),.d (.sl (vs.map V.enc)),.own 2 u.2.1.length],.grow u.2.1.length 4 29 (u.2.1.map Pf.enc)]) (fun s u=>(unl s).length≤u.1∧u.1≤n∧u.2.1.length+s.length=ps.length∧(∀w,w∈s→w∈ps)∧(if u.2.2=true then (match derL u.1 s with | some ks=>some (u.2.1++ks) | none=>none) else none)=R2) (n,[],b0) rfl (by simp [ssD]) ⟨by dsimp only;omega,Nat.le_refl _,by simp,fun w h=>h,by dsimp only;rw [←hR2];cases derL n ps<;>simp⟩ wk1_ (fun i x s u hxi hdr hlt hm hinv hnext=>?_) (fun u hinv=>?_)
      ·obtain ⟨m,K,b⟩:=u
       obtain ⟨q1,q2,q3,q4,q5⟩:=hinv
       dsimp only at q1 q2 q3 q5 hnext ⊢
       simp only [unl,a_,b_] at q1 q3
       obtain ⟨m,rfl⟩:∃m',m=m'+1:=⟨m - 1,by omega⟩
       have hxm:=hpm x (q4 x (by simp))
       have hg:=ih m (by omega) x (by omega) (by omega) hxm.1
       unfold deG at hg
       rw [derL] at q5
       have hxi2:=ssD_at hxi
       have hnx:=fun K' b' s'=>hnext (m,K',b') s'
       clear hnext
       cases b with
       | false =>
        refine rS_ Tryz.func16 ?_
        simp only [go_sem,seval,hlt,idx_of hxi2,ssD_len]
        repeat' (first
         | (simp (disch:=omega) only [wrap_ok])
         | ((first
          | (refine (ACalls.emb hg [] rfl rfl rfl (by decide) rfl ?_)<;>(rintro c H' ⟨pr,b,rfl,rfl,hd⟩ _;refine ⟨rfl,rfl,?_⟩))
          | (refine ⟨sd,?_⟩))<;>(try simp only [go_sem,seval,hlt,idx_of hxi2,ssD_len]))
         | fail)
        refine hnx (K++[pr]) false _ ⟨by omega,by omega,by simp;omega,fun w h=>q4 w (by simp [h]),q5⟩ (by refine ⟨by simp [mkS,ssD_len],by simp [mkS,ssD_len],by simp only [mkS,c_,d_,O.refsLt,C.refsLt,C.refsLt1,all_dmap];first | done | rfl | (simp;done),?_⟩;simp [mkS,Abs.get,C.refsLtT,C.refsLt,C.refsLt1])
       | true =>
        refine rS_ Tryz.func16 ?_
        simp only [go_sem,seval,hlt,idx_of hxi2,ssD_len]
        repeat' (first
         | (simp (disch:=omega) only [wrap_ok])
         | ((first
          | (refine (ACalls.emb hg [] rfl rfl rfl (by decide) rfl ?_)<;>(rintro c H' ⟨pr,b,rfl,rfl,hd⟩ _;refine ⟨rfl,rfl,?_⟩))
          | (refine ⟨sd,?_⟩))<;>(try simp only [go_sem,seval,hlt,idx_of hxi2,ssD_len]))
         | fail)
        refine hnx (K++[pr]) b _ ⟨by omega,by omega,by simp;omega,fun w h=>q4 w (by simp [h]),?_⟩ (by refine ⟨by simp [mkS,ssD_len],by simp [mkS,ssD_len],by simp only [mkS,c_,d_,O.refsLt,C.refsLt,C.refsLt1,all_dmap];first | done | rfl | (simp;done),?_⟩;simp [mkS,Abs.get,C.refsLtT,C.refsLt,C.refsLt1])
        rw [←q5,hd]
        cases b
        ·rfl
        ·cases derL m s<;>simp
      ·obtain ⟨m,K,b⟩:=u
       obtain ⟨q1,q2,q3,q4,q5⟩:=hinv
       dsimp only at q5 ⊢
       have hfin:DO=if b=true then some (.mk rel k (vs.map V.tm) K) else none:=by
        rw [hDO2,←q5]
        have hd0:derL m []=some []:=by cases m<;>rw [derL]
        rw [hd0]
        cases b
        ·rfl
        ·simp
       refine rS_ Tryz.func16 ?_
       simp only [go_sem,seval,ssD_len]
       repeat' (first
        | (exact ⟨.mk rel k (vs.map V.tm) K,b,by rw [hpe],hfin⟩)
        | fail)
end Go.Proofs.YtehcdhelbkjaeaaGreatDoor
