import Derived.Test.YtehcdhelbkjaeaaGreatDoorW1
import Derived.Test.YtehcdhelbkjaeaaGreatDoorA9
import Derived.Test.YtehcdhelbkjaeaaGreatDoorP10
open List renaming all_cons→a_,all_nil→b_,getElem?_eq_none→e_
open Nat renaming lt_succ_iff_lt_or_eq→c_,le_refl→d_
namespace Go.Proofs.YtehcdhelbkjaeaaGreatDoor
open Go.Abs
set_option maxRecDepth 100000
set_option maxHeartbeats 4000000
set_option linter.unusedSimpArgs false
set_option linter.unusedVariables false
theorem l01Break_fn (b:Int):Gives Tryz.prog 32 [.int .u8 b] (.d (.bool (brI b))):=by
 unfold brI
 refine aE_ Tryz.func32 ?_
 refine rS_ Tryz.func32 ?_
 simp only [go_sem,seval]
 repeat' (first
  | ((refine br_n (fun hq=>?_) (fun hq=>?_))<;>(try simp only [go_sem,seval,hq]))
  | fail)
 all_goals (simp_all;try omega)
theorem w1nat {i:Nat} {s:List UInt8} (hs:s.length≤100000) (hi:i<s.length):IntKind.i64.wrap ((i:Int)+1)=((i+1:Nat):Int):=by simp (disch:=omega) only [wrap_ok];omega
theorem tkV_end {s:List UInt8} (h0:s.length≤100000) (h:s.all okB=true):tokV s=if (toks s).length≤20000 then some (toks s) else none:=by
 unfold tokV;simp [h0,h]
theorem sTokens_fn (s:List UInt8) (hm:s.length≤1048576):Gives Tryz.prog 14 [.str s] (tkC (tokV s)):=by
 have hmx:maxLen=9223372036854775807:=rfl
 have htl:=toks_len _ s (d_ _)
 by_cases h0:s.length≤100000
 ·have n0:¬(100000:Int)<(s.length:Int):=by omega
  refine aE_ Tryz.func14 ?_
  refine rS_ Tryz.func14 ?_
  simp only [go_sem,seval,n0]
  refine AW.adopt 4 1 9 (by decide) rfl ?_
  refine AW.lp [0] (fun u:Nat×Nat×List (List UInt8)=>[(5,.d (.int .i64 u.1)),(4,.own 0 u.2.1)]) (fun _ u=>[.grow u.2.1 1 9 (strD u.2.2)]) (fun u=>u.1≤s.length∧u.2.2++toks (s.drop u.1)=toks s) (fun u=>s.length - u.1) (0,0,[]) ⟨Nat.zero_le _,by simp⟩ (by refine ⟨by simp [mkS,strD],by simp [mkS,strD],by simp only [mkS,a_,b_,O.refsLt,C.refsLt,C.refsLt1,all_dmap];first | done | rfl | (simp;done),?_⟩;simp [mkS,Abs.get,C.refsLtT,C.refsLt,C.refsLt1]) ?_
  rintro ⟨i,q,L⟩ ⟨hi,hinv⟩ hnext
  dsimp only at hi hinv hnext ⊢
  have hLl:L.length≤100000:=by have:=congrArg List.length hinv;simp at this;omega
  by_cases h:i<s.length
  ·have hlt:(i:Int)<(s.length:Int):=by omega
   obtain ⟨c,hc,hb⟩:=byte_at h
   have hw:=w1nat h0 h
   have hnx:=fun k q' L' s'=>hnext (k,q',L') s'
   clear hnext
   dsimp only at hnx
   have hbr:=brI_eq c
   by_cases h59:(c.toNat:Int)=59
   ·have hc59:c=59:=(u8_is (n:=59) (by omega)).2 h59
    refine rS_ Tryz.func14 ?_
    simp only [go_sem,seval,hlt,hb,h59,hw]
    refine AW.lp [0,4] (fun k:Nat=>[(6,.d (.int .i64 k))]) (fun H _=>H) (fun k=>i<k∧k≤s.length∧∀j,i<j→j<k→∀c,s[j]? = some c→noNl c=true) (fun k=>s.length - k) (i+1) ⟨by omega,by omega,by omega⟩ wk1_ ?_
    rintro k ⟨hik,hk,hall⟩ hnk
    dsimp only at hik hk hall hnk ⊢
    have hstep:(∀c,s[k]? = some c→noNl c=false)→L++toks (s.drop k)=toks s:=fun he=>by
     rw [hc59] at hc
     rw [←hinv,toks_com hc (by omega) hk (fun j h1 h2 d hd=>by
      rcases Nat.lt_or_ge i j with h3 | h3
      ·exact hall j h3 h2 d hd
      ·have hj:j=i:=by omega
       rw [hj,hc] at hd;cases hd;rfl) he]
    by_cases hkl:k<s.length
    ·have hlk:(k:Int)<(s.length:Int):=by omega
     obtain ⟨c2,hc2,hb2⟩:=byte_at hkl
     have hw2:=w1nat h0 hkl
     by_cases h10:(c2.toNat:Int)=10
     ·refine rS_ Tryz.func14 ?_
      simp only [go_sem,seval,hlk,hb2,h10]
      refine hnx k q L _ ⟨hk,hstep (fun d hd=>by rw [hc2] at hd;cases hd;rw [nl_is];simp [h10])⟩ (by omega) wk1_
     ·have hne:((c2.toNat:Int) != 10)=true:=by simp [h10]
      refine rS_ Tryz.func14 ?_
      simp only [go_sem,seval,hlk,hb2,hne,hw2]
      refine hnk (k+1) _ ⟨by omega,by omega,fun j h1 h2 d hd=>?_⟩ (by omega) wk1_
      rcases c_.1 h2 with h' | rfl
      ·exact hall j h1 h' d hd
      ·rw [hc2] at hd;cases hd;rw [nl_is];simp [h10]
    ·obtain rfl:k=s.length:=by omega
     refine rS_ Tryz.func14 ?_
     simp only [go_sem,seval]
     refine hnx s.length q L _ ⟨by omega,hstep (fun d hd=>by rw [e_ (d_ _)] at hd;cases hd)⟩ (by omega) wk1_
   ·by_cases hbk:isBr c=true
    ·by_cases hpar:(c.toNat:Int)=40∨(c.toNat:Int)=41
     ·have hcp:c=40∨c=41:=hpar.imp (fun h=>(u8_is (n:=40) (by omega)).2 h) (fun h=>(u8_is (n:=41) (by omega)).2 h)
      have ht:=toks_par hc hcp
      rw [ht] at hinv
      have h1:=one_at hc
      have hLl2:=congrArg List.length hinv
      simp only [List.length_append,List.length_cons] at hLl2
      have hl1:=toks_len _ (s.drop (i+1)) (d_ _)
      rw [hbk] at hbr
      have b40:brI 40=true:=rfl
      have b41:brI 41=true:=rfl
      rcases hpar with hp | hp
      ·refine rS_ Tryz.func14 ?_
       simp only [go_sem,seval,hlt,hb,h59,hw,hbr,hp,b40,b41]
       repeat' (first
        | ((first
         | (refine (l01Break_fn _).calls rfl ?_)
         | (refine ⟨sd,?_⟩))<;>(try simp only [go_sem,seval,hlt,hb,h59,hw,hbr,hp,b40,b41,h1,strD_len]))
        | fail)
       refine hnx (i+1) (q+1) (L++[[c]]) _ ⟨by omega,by rw [←hinv];simp⟩ (by omega) (by refine ⟨by simp [mkS,strD_append,strD_one,h1],by simp [mkS,strD_append,strD_one,h1],by simp only [mkS,a_,b_,O.refsLt,C.refsLt,C.refsLt1,all_dmap];first | done | rfl | (simp;done),?_⟩;simp [mkS,Abs.get,C.refsLtT,C.refsLt,C.refsLt1])
      ·refine rS_ Tryz.func14 ?_
       simp only [go_sem,seval,hlt,hb,h59,hw,hbr,hp,b40,b41]
       repeat' (first
        | ((first
         | (refine (l01Break_fn _).calls rfl ?_)
         | (refine ⟨sd,?_⟩))<;>(try simp only [go_sem,seval,hlt,hb,h59,hw,hbr,hp,b40,b41,h1,strD_len]))
        | fail)
       refine hnx (i+1) (q+1) (L++[[c]]) _ ⟨by omega,by rw [←hinv];simp⟩ (by omega) (by refine ⟨by simp [mkS,strD_append,strD_one,h1],by simp [mkS,strD_append,strD_one,h1],by simp only [mkS,a_,b_,O.refsLt,C.refsLt,C.refsLt1,all_dmap];first | done | rfl | (simp;done),?_⟩;simp [mkS,Abs.get,C.refsLtT,C.refsLt,C.refsLt1])
     ·have hsp:c=32∨c=10:=by
       rw [←brI_eq] at hbk
       unfold brI at hbk
       simp only [Bool.or_eq_true,decide_eq_true_eq] at hbk
       rcases hbk with (((h | h) | h) | h) | h
       ·exact .inl ((u8_is (n:=32) (by omega)).2 h)
       ·exact .inr ((u8_is (n:=10) (by omega)).2 h)
       ·exact absurd (.inl h) hpar
       ·exact absurd (.inr h) hpar
       ·exact absurd h h59
      have ht:=toks_sp hc hsp
      rw [ht] at hinv
      have h40:¬(c.toNat:Int)=40:=fun h=>hpar (.inl h)
      have h41:¬(c.toNat:Int)=41:=fun h=>hpar (.inr h)
      rw [hbk] at hbr
      refine rS_ Tryz.func14 ?_
      simp only [go_sem,seval,hlt,hb,h59,hw,hbr,h40,h41]
      repeat' (first
       | ((refine (l01Break_fn _).calls rfl ?_)<;>(try simp only [go_sem,seval,hlt,hb,h59,hw,hbr,h40,h41]))
       | fail)
      refine hnx (i+1) q L _ ⟨by omega,hinv⟩ (by omega) wk1_
    ·rw [Bool.not_eq_true] at hbk
     rw [hbk] at hbr
     refine rS_ Tryz.func14 ?_
     simp only [go_sem,seval,hlt,hb,h59,hw,hbr]
     repeat' (first
      | ((refine (l01Break_fn _).calls rfl ?_)<;>(try simp only [go_sem,seval,hlt,hb,h59,hw,hbr]))
      | fail)
     refine AW.lp [0,4,5] (fun k:Nat=>[(6,.d (.int .i64 k))]) (fun H _=>H) (fun k=>i<k∧k≤s.length∧∀j,i≤j→j<k→∀c,s[j]? = some c→noBr c=true) (fun k=>s.length - k) (i+1) ⟨by omega,by omega,fun j h1 h2 d hd=>by have hj:j=i:=(by omega);rw [hj,hc] at hd;cases hd;unfold noBr;rw [hbk];rfl⟩ wk1_ ?_
     rintro k ⟨hik,hk,hall⟩ hnk
     dsimp only at hik hk hall hnk ⊢
     have hstep:(∀c,s[k]? = some c→noBr c=false)→(L++[(s.take k).drop i])++toks (s.drop k)=toks s∧L.length+1≤100000:=fun he=>by
      rw [toks_word hc hbk hik hk hall he] at hinv
      have:=congrArg List.length hinv
      simp only [List.length_append,List.length_cons] at this
      exact ⟨by rw [←hinv];simp,by omega⟩
     by_cases hkl:k<s.length
     ·have hlk:(k:Int)<(s.length:Int):=by omega
      obtain ⟨c2,hc2,hb2⟩:=byte_at hkl
      have hw2:=w1nat h0 hkl
      have hbr2:=brI_eq c2
      cases hk2:isBr c2 with
      | true =>
       rw [hk2] at hbr2
       obtain ⟨hs1,hs2⟩:=hstep (fun d hd=>by rw [hc2] at hd;cases hd;unfold noBr;rw [hk2];rfl)
       refine rS_ Tryz.func14 ?_
       simp only [go_sem,seval,hlk,hb2,hbr2]
       repeat' (first
        | ((first
         | (refine (l01Break_fn _).calls rfl ?_)
         | (refine ⟨sd,?_⟩))<;>(try simp only [go_sem,seval,hlk,hb2,hbr2,strD_len]))
        | fail)
       refine hnx k (q+1) (L++[(s.take k).drop i]) _ ⟨hk,hs1⟩ (by omega) (by refine ⟨by simp [mkS,strD_append,strD_one],by simp [mkS,strD_append,strD_one],by simp only [mkS,a_,b_,O.refsLt,C.refsLt,C.refsLt1,all_dmap];first | done | rfl | (simp;done),?_⟩;simp [mkS,Abs.get,C.refsLtT,C.refsLt,C.refsLt1])
      | false =>
       rw [hk2] at hbr2
       refine rS_ Tryz.func14 ?_
       simp only [go_sem,seval,hlk,hb2,hbr2,hw2]
       repeat' (first
        | ((refine (l01Break_fn _).calls rfl ?_)<;>(try simp only [go_sem,seval,hlk,hb2,hbr2,hw2]))
        | fail)
       refine hnk (k+1) _ ⟨by omega,by omega,fun j h1 h2 d hd=>?_⟩ (by omega) wk1_
       rcases c_.1 h2 with h' | rfl
       ·exact hall j h1 h' d hd
       ·rw [hc2] at hd;cases hd;unfold noBr;rw [hk2];rfl
     ·obtain rfl:k=s.length:=by omega
      obtain ⟨hs1,hs2⟩:=hstep (fun d hd=>by rw [e_ (d_ _)] at hd;cases hd)
      refine rS_ Tryz.func14 ?_
      simp only [go_sem,seval]
      repeat' (first
       | ((refine ⟨sd,?_⟩)<;>(try simp only [go_sem,seval,strD_len]))
       | fail)
      refine hnx s.length (q+1) (L++[(s.take s.length).drop i]) _ ⟨by omega,hs1⟩ (by omega) (by refine ⟨by simp [mkS,strD_append,strD_one],by simp [mkS,strD_append,strD_one],by simp only [mkS,a_,b_,O.refsLt,C.refsLt,C.refsLt1,all_dmap];first | done | rfl | (simp;done),?_⟩;simp [mkS,Abs.get,C.refsLtT,C.refsLt,C.refsLt1])
  ·obtain rfl:i=s.length:=by omega
   rw [toks_done (d_ _),List.append_nil] at hinv
   refine rS_ Tryz.func14 ?_
   simp only [go_sem,seval]
   refine AW.lp [0,4] (fun k:Nat=>[(7,.d (.int .i64 k))]) (fun H _=>H) (fun k=>k≤s.length∧∀j,j<k→∀c,s[j]? = some c→okB c=true) (fun k=>s.length - k) 0 ⟨Nat.zero_le _,by omega⟩ (by refine ⟨by simp [mkS,strD],by simp [mkS,strD],by simp only [mkS,a_,b_,O.refsLt,C.refsLt,C.refsLt1,all_dmap];first | done | rfl | (simp;done),?_⟩;simp [mkS,Abs.get,C.refsLtT,C.refsLt,C.refsLt1]) ?_
   rintro k ⟨hk,hall⟩ hnk
   dsimp only at hk hall hnk ⊢
   by_cases hkl:k<s.length
   ·have hlt:(k:Int)<(s.length:Int):=by omega
    obtain ⟨c,hc,hb⟩:=byte_at hkl
    have hw:=w1nat h0 hkl
    have hnx:=fun (ho:okB c=true) s'=>hnk (k+1) s' ⟨by omega,fun j hj d hd=>by
     rcases c_.1 hj with h' | rfl
     ·exact hall j h' d hd
     ·rw [hc] at hd;cases hd;exact ho⟩ (by omega)
    clear hnk
    have hok:=ok_is (c:=c)
    have hbad:okB c=false→tokV s=none:=fun h=>by unfold tokV;rw [if_neg];rintro ⟨_,h2,_⟩;rw [bad_okB hc h] at h2;cases h2
    rw [hok] at hbad hnx
    obtain ⟨b,hbb⟩:∃b:Int,(c.toNat:Int)=b:=⟨_,rfl⟩
    have hb0:0≤b∧b≤255:=by have:=UInt8.toNat_lt c;omega
    rw [hbb] at hb hbad hnx
    clear hok hc hbb hall
    refine rS_ Tryz.func14 ?_
    simp only [go_sem,seval,hlt,hb]
    repeat' (first
     | ((refine br_n (fun hq=>?_) (fun hq=>?_))<;>(try simp only [go_sem,seval,hlt,hb,hw,hq]))
     | (simp (disch:=omega) only [wrap_ok])
     | (refine hnx (by simp;omega) _ wk1_)
     | ((refine (l01In_fn _ _ _).calls rfl ?_)<;>(try simp only [go_sem,seval,hlt,hb,hw]))
     | fail)
    all_goals (rw [hbad (by simp;omega)];rfl)
   ·obtain rfl:k=s.length:=by omega
    have hok:=all_okB hall
    clear hall hnk
    have hT:=tkV_end h0 hok
    by_cases hT2:(toks s).length≤20000
    ·have n2:¬(20000:Int)<(L.length:Int):=by rw [hinv];omega
     rw [hT,if_pos hT2,←hinv]
     refine rS_ Tryz.func14 ?_
     simp only [go_sem,seval,n2,strD_len]
     all_goals rfl
    ·have n2:(20000:Int)<(L.length:Int):=by rw [hinv];omega
     rw [hT,if_neg hT2]
     refine rS_ Tryz.func14 ?_
     simp only [go_sem,seval,n2,strD_len]
     all_goals rfl
 ·have n0:(100000:Int)<(s.length:Int):=by omega
  rw [show tokV s=none from by unfold tokV;rw [if_neg];rintro ⟨h,_⟩;exact h0 h]
  refine aE_ Tryz.func14 ?_
  refine rS_ Tryz.func14 ?_
  simp only [go_sem,seval,n0]
  all_goals rfl
end Go.Proofs.YtehcdhelbkjaeaaGreatDoor
