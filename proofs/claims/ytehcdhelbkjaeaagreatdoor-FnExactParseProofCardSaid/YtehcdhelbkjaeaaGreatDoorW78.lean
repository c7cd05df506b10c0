import Derived.Test.YtehcdhelbkjaeaaGreatDoorW77
open List renaming all_cons→a_,all_nil→b_,getElem?_eq_none→e_
open Nat renaming lt_succ_iff_lt_or_eq→c_,le_refl→d_
namespace Go.Proofs.YtehcdhelbkjaeaaGreatDoor
open Go.Abs
set_option maxRecDepth 100000
set_option maxHeartbeats 4000000
set_option linter.unusedSimpArgs false
set_option linter.unusedVariables false
theorem iTokens_fn (s:List UInt8) (hm:s.length≤1048576):Gives Tryz.prog 19 [.str s] (tkC (tokV s)):=by
 have hmx:maxLen=9223372036854775807:=rfl
 have htl:=toks_len _ s (d_ _)
 by_cases h0:s.length≤100000
 ·have n0 : ¬(100000:Int)<(s.length:Int):=by omega
  refine aE_ Tryz.func19 ?_
  refine rS_ Tryz.func19 ?_
  simp only [go_sem,seval,n0]
  refine AW.lp [0] (fun k:Nat=>[(4,.d (.int .i64 k))]) (fun H _=>H) (fun k=>k≤s.length∧∀j,j<k→∀c,s[j]? = some c→okB c=true) (fun k=>s.length - k) 0 ⟨Nat.zero_le _,by omega⟩ (by refine ⟨by simp [mkS,strD],by simp [mkS,strD],by simp only [mkS,a_,b_,O.refsLt,C.refsLt,C.refsLt1,all_dmap];first | done | rfl | (simp;done),?_⟩;simp [mkS,Abs.get,C.refsLtT,C.refsLt,C.refsLt1]) ?_
  rintro k ⟨hk,hall⟩ hnk
  dsimp only at hk hall hnk ⊢
  by_cases hkl:k<s.length
  ·have hlt:(k:Int)<(s.length:Int):=by omega
   obtain ⟨c,hc,hb⟩:=byte_at hkl
   have hw:=w1nat h0 hkl
   have hnx:=fun (ho:okB c=true) s'=>hnk (k+1) s' ⟨by omega,fun j hj d hd=>by
    rcases c_.1 hj with h' | rfl
    ·exact hall j h' d hd
    ·rw [hc] at hd;cases hd;exact ho⟩ (by omega)
   clear hnk
   have hok:=ok_is (c:=c)
   have hbad:okB c=false→tokV s=none:=fun h=>by unfold tokV;rw [if_neg];rintro ⟨_,h2,_⟩;rw [bad_okB hc h] at h2;cases h2
   rw [hok] at hbad hnx
   obtain ⟨b,hbb⟩:∃b:Int,(c.toNat:Int)=b:=⟨_,rfl⟩
   have hb0:0≤b∧b≤255:=by have:=UInt8.toNat_lt c;omega
   rw [hbb] at hb hbad hnx
   clear hok hc hbb hall
   refine rS_ Tryz.func19 ?_
   simp only [go_sem,seval,hlt,hb]
   repeat' (first
    | ((refine br_n (fun hq=>?_) (fun hq=>?_))<;>(try simp only [go_sem,seval,hlt,hb,hw,hq]))
    | (refine hnx (by simp;omega) _ wk1_)
    | fail)
   all_goals (rw [hbad (by simp;omega)];rfl)
  ·obtain rfl:k=s.length:=by omega
   have hok:=all_okB hall
   clear hall hnk
   have hT:=tkV_end h0 hok
   refine rS_ Tryz.func19 ?_
   simp only [go_sem,seval]
   refine AW.adopt 5 1 9 (by decide) rfl ?_
   refine AW.lp [0] (fun u:Nat×Nat×List (List UInt8)=>[(6,.d (.int .i64 u.1)),(5,.own 0 u.2.1)]) (fun _ u=>[.grow u.2.1 1 9 (strD u.2.2)]) (fun u=>u.1≤s.length∧u.2.2++toks (s.drop u.1)=toks s) (fun u=>s.length - u.1) (0,0,[]) ⟨Nat.zero_le _,by simp⟩ (by refine ⟨by simp [mkS,strD],by simp [mkS,strD],by simp only [mkS,a_,b_,O.refsLt,C.refsLt,C.refsLt1,all_dmap];first | done | rfl | (simp;done),?_⟩;simp [mkS,Abs.get,C.refsLtT,C.refsLt,C.refsLt1]) ?_
   rintro ⟨i,q,L⟩ ⟨hi,hinv⟩ hnext
   dsimp only at hi hinv hnext ⊢
   have hLl:L.length≤100000:=by have:=congrArg List.length hinv;simp at this;omega
   by_cases h:i<s.length
   ·have hlt:(i:Int)<(s.length:Int):=by omega
    obtain ⟨c,hc,hb⟩:=byte_at h
    have hw:=w1nat h0 h
    have hnx:=fun k q' L' s'=>hnext (k,q',L') s'
    clear hnext
    dsimp only at hnx
    have h1:=one_at hc
    by_cases h59:(c.toNat:Int)=59
    ·have hc59:c=59:=(u8_is (n:=59) (by omega)).2 h59
     refine rS_ Tryz.func19 ?_
     simp only [go_sem,seval,hlt,hb,h59,hw]
     refine AW.lp [0,5] (fun k:Nat=>[(6,.d (.int .i64 k))]) (fun H _=>H) (fun k=>i≤k∧k≤s.length∧∀j,i≤j→j<k→∀c,s[j]? = some c→noNl c=true) (fun k=>s.length - k) i ⟨by omega,by omega,by omega⟩ wk1_ ?_
     rintro k ⟨hik,hk,hall⟩ hnk
     dsimp only at hik hk hall hnk ⊢
     have hstep:(∀c,s[k]? = some c→noNl c=false)→i<k∧L++toks (s.drop k)=toks s:=fun he=>by
      rw [hc59] at hc
      have hlt:i<k:=by
       rcases Nat.lt_or_ge i k with h' | h'
       ·exact h'
       ·have hj:k=i:=by omega
        rw [hj] at he
        have:=he _ hc
        cases this
      refine ⟨hlt,?_⟩
      rw [←hinv,toks_com hc (by omega) hk hall he]
     by_cases hkl:k<s.length
     ·have hlk:(k:Int)<(s.length:Int):=by omega
      obtain ⟨c2,hc2,hb2⟩:=byte_at hkl
      have hw2:=w1nat h0 hkl
      by_cases h10:(c2.toNat:Int)=10
      ·obtain ⟨g1,g2⟩:=hstep (fun d hd=>by rw [hc2] at hd;cases hd;rw [nl_is];simp [h10])
       refine rS_ Tryz.func19 ?_
       simp only [go_sem,seval,hlk,hb2,h10]
       refine hnx k q L _ ⟨hk,g2⟩ (by omega) wk1_
      ·have hne:((c2.toNat:Int) != 10)=true:=by simp [h10]
       refine rS_ Tryz.func19 ?_
       simp only [go_sem,seval,hlk,hb2,hne,hw2]
       refine hnk (k+1) _ ⟨by omega,by omega,fun j h1 h2 d hd=>?_⟩ (by omega) wk1_
       rcases c_.1 h2 with h' | rfl
       ·exact hall j h1 h' d hd
       ·rw [hc2] at hd;cases hd;rw [nl_is];simp [h10]
     ·obtain rfl:k=s.length:=by omega
      obtain ⟨g1,g2⟩:=hstep (fun d hd=>by rw [e_ (d_ _)] at hd;cases hd)
      refine rS_ Tryz.func19 ?_
      simp only [go_sem,seval]
      refine hnx s.length q L _ ⟨by omega,g2⟩ (by omega) wk1_
    ·by_cases hpar:(c.toNat:Int)=40∨(c.toNat:Int)=41
     ·have hcp:c=40∨c=41:=hpar.imp (fun h=>(u8_is (n:=40) (by omega)).2 h) (fun h=>(u8_is (n:=41) (by omega)).2 h)
      have ht:=toks_par hc hcp
      rw [ht] at hinv
      have hLl2:=congrArg List.length hinv
      simp only [List.length_append,List.length_cons] at hLl2
      have hl1:=toks_len _ (s.drop (i+1)) (d_ _)
      rcases hpar with hpp | hpp
      ·have hp:(c.toNat:Int)=40:=hpp
       refine rS_ Tryz.func19 ?_
       simp only [go_sem,seval,hlt,hb,hw,hp]
       repeat' (first
        | ((refine ⟨sd,?_⟩)<;>(try simp only [go_sem,seval,hlt,hb,hw,hp,h1,strD_len]))
        | fail)
       refine hnx (i+1) (q+1) (L++[[c]]) _ ⟨by omega,by rw [←hinv];simp⟩ (by omega) (by refine ⟨by simp [mkS,strD_append,strD_one,h1],by simp [mkS,strD_append,strD_one,h1],by simp only [mkS,a_,b_,O.refsLt,C.refsLt,C.refsLt1,all_dmap];first | done | rfl | (simp;done),?_⟩;simp [mkS,Abs.get,C.refsLtT,C.refsLt,C.refsLt1])
      ·have hp:(c.toNat:Int)=41:=hpp
       refine rS_ Tryz.func19 ?_
       simp only [go_sem,seval,hlt,hb,hw,hp]
       repeat' (first
        | ((refine ⟨sd,?_⟩)<;>(try simp only [go_sem,seval,hlt,hb,hw,hp,h1,strD_len]))
        | fail)
       refine hnx (i+1) (q+1) (L++[[c]]) _ ⟨by omega,by rw [←hinv];simp⟩ (by omega) (by refine ⟨by simp [mkS,strD_append,strD_one,h1],by simp [mkS,strD_append,strD_one,h1],by simp only [mkS,a_,b_,O.refsLt,C.refsLt,C.refsLt1,all_dmap];first | done | rfl | (simp;done),?_⟩;simp [mkS,Abs.get,C.refsLtT,C.refsLt,C.refsLt1])
     ·by_cases hsp:(c.toNat:Int)=32∨(c.toNat:Int)=10
      ·have hcp:c=32∨c=10:=hsp.imp (fun h=>(u8_is (n:=32) (by omega)).2 h) (fun h=>(u8_is (n:=10) (by omega)).2 h)
       have ht:=toks_sp hc hcp
       rw [ht] at hinv
       rcases hsp with hpp | hpp
       ·have hp:(c.toNat:Int)=32:=hpp
        refine rS_ Tryz.func19 ?_
        simp only [go_sem,seval,hlt,hb,hw,hp]
        refine hnx (i+1) q L _ ⟨by omega,hinv⟩ (by omega) wk1_
       ·have hp:(c.toNat:Int)=10:=hpp
        refine rS_ Tryz.func19 ?_
        simp only [go_sem,seval,hlt,hb,hw,hp]
        refine hnx (i+1) q L _ ⟨by omega,hinv⟩ (by omega) wk1_
      ·have h40:¬(c.toNat:Int)=40:=fun h=>hpar (.inl h)
       have h41:¬(c.toNat:Int)=41:=fun h=>hpar (.inr h)
       have h32:¬(c.toNat:Int)=32:=fun h=>hsp (.inl h)
       have h10:¬(c.toNat:Int)=10:=fun h=>hsp (.inr h)
       have hbk:isBr c=false:=by rw [←brI_eq];unfold brI;simp [h40,h41,h32,h10,h59]
       refine rS_ Tryz.func19 ?_
       simp only [go_sem,seval,hlt,hb,h59,h40,h41,h32,h10,hw]
       refine AW.lp [0,5,6] (fun k:Nat=>[(8,.d (.int .i64 k))]) (fun H _=>H) (fun k=>i≤k∧k≤s.length∧∀j,i≤j→j<k→∀c,s[j]? = some c→noBr c=true) (fun k=>s.length - k) i ⟨by omega,by omega,by omega⟩ wk1_ ?_
       rintro k ⟨hik,hk,hall⟩ hnk
       dsimp only at hik hk hall hnk ⊢
       have hstep:(∀c,s[k]? = some c→noBr c=false)→i<k∧(L++[(s.take k).drop i])++toks (s.drop k)=toks s∧L.length+1≤100000:=fun he=>by
        have hlt:i<k:=by
         rcases Nat.lt_or_ge i k with h' | h'
         ·exact h'
         ·have hj:k=i:=by omega
          rw [hj] at he
          have h3:=he _ hc
          unfold noBr at h3
          rw [hbk] at h3
          cases h3
        rw [toks_word hc hbk hlt hk hall he] at hinv
        have:=congrArg List.length hinv
        simp only [List.length_append,List.length_cons] at this
        exact ⟨hlt,by rw [←hinv];simp,by omega⟩
       by_cases hkl:k<s.length
       ·have hlk:(k:Int)<(s.length:Int):=by omega
        obtain ⟨c2,hc2,hb2⟩:=byte_at hkl
        have hw2:=w1nat h0 hkl
        have hbr2:=brI_eq c2
        have hss:isBr c2=true→_:=fun h3=>hstep (fun d hd=>by rw [hc2] at hd;cases hd;unfold noBr;rw [h3];rfl)
        have hkk:isBr c2=false→∀j,i≤j→j<k+1→∀c,s[j]? = some c→noBr c=true:=fun h3 j h1 h2 d hd=>by
         rcases c_.1 h2 with h' | rfl
         ·exact hall j h1 h' d hd
         ·rw [hc2] at hd;cases hd;unfold noBr;rw [h3];rfl
        rw [←hbr2] at hss hkk
        clear hbr2 hstep hc2 hall
        generalize (c2.toNat:Int)=b2 at hss hkk hb2
        unfold brI at hss hkk
        have hLl3:L.length+1≤100001:=by omega
        refine rS_ Tryz.func19 ?_
        simp only [go_sem,seval,hlk,hb2]
        repeat' (first
         | ((refine br_n (fun hq=>?_) (fun hq=>?_))<;>(try simp only [go_sem,seval,hlk,hb2,hw2,strD_len,hq]))
         | (refine hnk (k+1) _ ⟨by omega,by omega,hkk (by simp;omega)⟩ (by omega) wk1_)
         | ((refine ⟨sd,?_⟩)<;>(try simp only [go_sem,seval,hlk,hb2,hw2,strD_len]))
         | fail)
        all_goals
         obtain ⟨g1,g2,g3⟩:=hss (by simp;omega)
         refine hnx k (q+1) (L++[(s.take k).drop i]) _ ⟨hk,g2⟩ (by omega) (by refine ⟨by simp [mkS,strD_append,strD_one],by simp [mkS,strD_append,strD_one],by simp only [mkS,a_,b_,O.refsLt,C.refsLt,C.refsLt1,all_dmap];first | done | rfl | (simp;done),?_⟩;simp [mkS,Abs.get,C.refsLtT,C.refsLt,C.refsLt1])
       ·obtain rfl:k=s.length:=by omega
        obtain ⟨g1,hs1,hs2⟩:=hstep (fun d hd=>by rw [e_ (d_ _)] at hd;cases hd)
        refine rS_ Tryz.func19 ?_
        simp only [go_sem,seval]
        repeat' (first
         | ((refine ⟨sd,?_⟩)<;>(try simp only [go_sem,seval,strD_len]))
         | fail)
        refine hnx s.length (q+1) (L++[(s.take s.length).drop i]) _ ⟨by omega,hs1⟩ (by omega) (by refine ⟨by simp [mkS,strD_append,strD_one],by simp [mkS,strD_append,strD_one],by simp only [mkS,a_,b_,O.refsLt,C.refsLt,C.refsLt1,all_dmap];first | done | rfl | (simp;done),?_⟩;simp [mkS,Abs.get,C.refsLtT,C.refsLt,C.refsLt1])
   ·obtain rfl:i=s.length:=by omega
    rw [toks_done (d_ _),List.append_nil] at hinv
    by_cases hT2:(toks s).length≤20000
    ·have n2:¬(20000:Int)<(L.length:Int):=by rw [hinv];omega
     rw [hT,if_pos hT2,←hinv]
     refine rS_ Tryz.func19 ?_
     simp only [go_sem,seval,n2,strD_len]
     all_goals rfl
    ·have n2:(20000:Int)<(L.length:Int):=by rw [hinv];omega
     rw [hT,if_neg hT2]
     refine rS_ Tryz.func19 ?_
     simp only [go_sem,seval,n2,strD_len]
     all_goals rfl
 ·have n0:(100000:Int)<(s.length:Int):=by omega
  rw [show tokV s=none from by unfold tokV;rw [if_neg];rintro ⟨h,_⟩;exact h0 h]
  refine aE_ Tryz.func19 ?_
  refine rS_ Tryz.func19 ?_
  simp only [go_sem,seval,n0]
  all_goals rfl
end Go.Proofs.YtehcdhelbkjaeaaGreatDoor
