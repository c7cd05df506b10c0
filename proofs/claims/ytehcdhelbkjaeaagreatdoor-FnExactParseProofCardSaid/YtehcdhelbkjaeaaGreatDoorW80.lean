import Derived.Test.YtehcdhelbkjaeaaGreatDoorW79p
open Int renaming tmod_eq_emod_of_nonneg→a_,tdiv_eq_ediv_of_nonneg→b_
open Bool renaming and_eq_false_iff→c_
namespace Go.Proofs.YtehcdhelbkjaeaaGreatDoor
open Go.Abs
set_option maxRecDepth 100000
set_option maxHeartbeats 4000000
set_option linter.unusedSimpArgs false
set_option linter.unusedVariables false
theorem spec_FormatInt_pos (n:Int) (h0:0≤n) (h1:n≤9223372036854775807):Gives Tryz.prog 53 [.int .i64 n] (.d (.str (dec n))):=by
 have hmx:maxLen=9223372036854775807:=rfl
 refine aE_ Tryz.func53 ?_
 refine rS_ Tryz.func53 ?_
 simp only [go_sem,seval]
 repeat' (first
  | ((refine br_n (fun hq=>?_) (fun hq=>?_))<;>(try simp only [go_sem,seval,hq]))
  | (simp (disch:=omega) only [wrap_ok])
  | ((refine ⟨sd,?_⟩)<;>(try simp only [go_sem,seval]))
  | fail)
 ·exfalso;omega
 ·exfalso;omega
 refine AW.lp [] (fun p:Int×List UInt8=>[(0,.d (.int .i64 p.1)),(3,.d (.str p.2))]) (fun H _=>H) (fun p=>0≤p.1∧p.1≤n∧(p.2.length:Int)≤n - p.1∧Lib.decDigits p.1.toNat++p.2=dec n) (fun p=>p.1.toNat) (n,[]) ⟨by omega,by omega,by simp,by simp [dec_pos h0]⟩ wk2_ ?_
 rintro ⟨m,acc⟩ ⟨i1,i2,i4,i3⟩ hnext
 dsimp only at i1 i2 i3 i4 hnext
 have hacc:acc.length≤21:=by
  have h3:=congrArg List.length i3
  have h4:=dec_len64 (n:=n) (by omega) (by omega)
  rw [List.length_append] at h3
  omega
 by_cases hm:9<m
 ·have hd0:0≤m.tmod 10∧m.tmod 10<10∧(m.tmod 10).toNat=m.toNat % 10:=by
   rw [a_ (by omega)];omega
  have hq0:0≤m.tdiv 10∧m.tdiv 10<m∧(m.tdiv 10).toNat=m.toNat / 10:=by
   rw [b_ (by omega)];omega
  have hw8:IntKind.u8.wrap (48+m.tmod 10)=48+m.tmod 10:=by
   unfold IntKind.wrap;simp [IntKind.bits,IntKind.signed];omega
  refine rS_ Tryz.func53 ?_
  simp only [go_sem,seval,hm,hw8,bytesOf]
  repeat' (first
   | (simp (disch:=omega) only [wrap_ok])
   | ((refine ⟨sd,?_⟩)<;>(try simp only [go_sem,seval,hm,hw8,bytesOf]))
   | fail)
  refine hnext (m.tdiv 10,UInt8.ofNat (48+m.tmod 10).toNat :: acc) _ ⟨by omega,by omega,by simp only [List.length_cons];omega,?_⟩ (by dsimp only;omega) wk3_
  dsimp only
  rw [←i3,hq0.2.2,Lib.decDigits.eq_def m.toNat,dif_neg (by omega),show (48+m.tmod 10).toNat=48+m.toNat % 10 by omega]
  simp
 ·have hw8:IntKind.u8.wrap (48+m)=48+m:=by
   unfold IntKind.wrap;simp [IntKind.bits,IntKind.signed];omega
  rw [Lib.decDigits.eq_def,dif_pos (by omega)] at i3
  refine rS_ Tryz.func53 ?_
  simp only [go_sem,seval,hm,hw8,bytesOf]
  repeat' (first
   | (simp (disch:=omega) only [wrap_ok])
   | ((refine ⟨sd,?_⟩)<;>(try simp only [go_sem,seval,hm,hw8,bytesOf]))
   | fail)
  all_goals (rw [←i3,show (48+m).toNat=48+m.toNat by omega];rfl)
theorem spec_FormatInt_neg:∀(k:Nat) (n:Int),n<0→-9223372036854775808≤n→n.natAbs≤k→Gives Tryz.prog 53 [.int .i64 n] (.d (.str (dec n))):=by
 intro k
 induction k with
 | zero=>intro n h0 h1 hk;omega
 | succ k ih =>
  intro n h0 h1 hk
  have hmx:maxLen=9223372036854775807:=rfl
  obtain ⟨m,hm⟩:∃m:Nat,n=-(m:Int):=⟨n.natAbs,by omega⟩
  have e1:n.tdiv 10=-((m / 10:Nat):Int):=by rw [hm,Int.neg_tdiv,b_ (by omega)];omega
  have e2:n.tmod 10=-((m % 10:Nat):Int):=by rw [hm,Int.neg_tmod,a_ (by omega)];omega
  have hl:=dec_len64 (n:=n.tdiv 10) (by omega) (by omega)
  have hw:IntKind.i64.wrap (n.tdiv 10)=n.tdiv 10:=by
   unfold IntKind.wrap;simp [IntKind.bits,IntKind.signed];omega
  by_cases h9:-10<n
  ·have hw8:IntKind.u8.wrap (48 - n)=48 - n:=by
    unfold IntKind.wrap;simp [IntKind.bits,IntKind.signed];omega
   have hz:n.tdiv 10=0:=by omega
   rw [dec_low h0 h9]
   refine aE_ Tryz.func53 ?_
   refine rS_ Tryz.func53 ?_
   simp only [go_sem,seval,h0,hw,hw8,bytesOf]
   repeat' (first
    | ((refine br_n (fun hq=>?_) (fun hq=>?_))<;>(try simp only [go_sem,seval,h0,hw,hw8,bytesOf,hq]))
    | (simp (disch:=omega) only [wrap_ok])
    | ((refine ⟨sd,?_⟩)<;>(try simp only [go_sem,seval,h0,hw,hw8,bytesOf]))
    | fail)
   all_goals first | (exfalso;omega) | rfl
  ·have hw8:IntKind.u8.wrap (48 - n.tmod 10)=48 - n.tmod 10:=by
    unfold IntKind.wrap;simp [IntKind.bits,IntKind.signed];omega
   have hz:¬n.tdiv 10=0:=by omega
   rw [dec_step h0 (by omega)]
   have hrec:=ih (n.tdiv 10) (by omega) (by omega) (by omega)
   generalize dec (n.tdiv 10)=N at hrec hl ⊢
   refine aE_ Tryz.func53 ?_
   refine rS_ Tryz.func53 ?_
   simp only [go_sem,seval,h0,hw,hw8,bytesOf]
   repeat' (first
    | ((refine br_n (fun hq=>?_) (fun hq=>?_))<;>(try simp only [go_sem,seval,h0,hw,hw8,bytesOf,hq]))
    | (simp (disch:=omega) only [wrap_ok])
    | ((first
     | (refine hrec.callQ rfl ?_)
     | (refine ⟨sd,?_⟩))<;>(try simp only [go_sem,seval,h0,hw,hw8,bytesOf]))
    | fail)
   all_goals first | (exfalso;omega) | rfl
theorem spec_FormatInt_64 (n:Int) (h0:-9223372036854775808≤n) (h1:n≤9223372036854775807):Gives Tryz.prog 53 [.int .i64 n] (.d (.str (dec n))):=by
 by_cases h:n<0
 ·exact spec_FormatInt_neg _ n h h0 (Nat.le_refl _)
 ·exact spec_FormatInt_pos n (by omega) h1
theorem sParseInt_fn (l:List UInt8) (hl:l.length≤1048576):Gives Tryz.prog 35 [.str l] (pIC l):=by
 have hmx:maxLen=9223372036854775807:=rfl
 by_cases hneg:∃T,l=45 :: T
 ·obtain ⟨T,hT⟩:=hneg
  have hTn:∀n,pInt l=some n→T=Lib.decDigits n.natAbs:=fun n hn=>(pInt_negD hT hn).2
  have hng:∀n,pInt l=some n→n<0:=fun n hn=>(pInt_negD hT hn).1
  have g1:(l.length:Int)=(T.length:Int)+1:=by rw [hT];simp
  have g2:((l[0]?.getD 0).toNat:Int)=45:=by rw [hT];rfl
  have g3:l.drop 1=T:=by rw [hT];rfl
  have g4:(0:Int)<(l.length:Int):=by omega
  have hlen:(T.length<1∨19<T.length)→pInt l=none:=fun h=>by
   cases hp:pInt l with
   | none=>rfl
   | some n =>
    exfalso
    obtain ⟨_,b0,b1⟩:=pInt_some hp
    have h1:=digs_len (u:=n.natAbs) (by omega)
    rw [←hTn n hp] at h1;omega
  by_cases hln:1≤T.length∧T.length≤19
  ·have n1:¬(T.length:Int)<1:=by omega
   have n2:¬(19:Int)<(T.length:Int):=by omega
   refine aE_ Tryz.func35 ?_
   refine rS_ Tryz.func35 ?_
   simp only [go_sem,seval,g4,g2,g3,n1,n2]
   repeat' (first
    | ((refine ⟨sd,?_⟩)<;>(try simp only [go_sem,seval,g4,g2,g3,n1,n2]))
    | fail)
   refine AW.lp [0,4,5] (fun u:Nat×Int=>[(7,.d (.int .i64 u.1)),(6,.d (.int .i64 u.2))]) (fun H _=>H) (fun u=>u.1≤T.length∧Rdg l T u.1 u.2) (fun u=>T.length - u.1) (0,0) ⟨Nat.zero_le _,⟨by decide,by decide,fun n hn=>by simp [digV]⟩⟩ wk1_ ?_
   rintro ⟨i,acc⟩ ⟨hi,hR⟩ hnext
   dsimp only at hi hR hnext ⊢
   have hlo:=hR.lo
   have hhi:=hR.hi
   by_cases h:i<T.length
   ·have hlt:(i:Int)<(T.length:Int):=by omega
    obtain ⟨c,hc,hb⟩:=byte_at h
    have hbad:=hR.bad hTn hc
    have hnx:=hR.next hTn hc
    have hw1:IntKind.i64.wrap ((i:Int)+1)=((i+1:Nat):Int):=by simp (disch:=omega) only [wrap_ok];omega
    have hd0:0≤(c.toNat:Int)∧(c.toNat:Int)≤255:=by have:=UInt8.toNat_lt c;omega
    generalize (c.toNat:Int)=b at hb hbad hnx hd0
    have hw2:IntKind.i64.wrap (b - 48)=b - 48:=by simp (disch:=omega) only [wrap_ok]
    have hw3:0≤b - 48→b - 48≤9→IntKind.i64.wrap (-9223372036854775808+(b - 48))=-9223372036854775808+(b - 48):=fun _ _=>by simp (disch:=omega) only [wrap_ok]
    by_cases hdg:(0:Int)≤b - 48∧b - 48≤9
    ·have hw3:=hw3 hdg.1 hdg.2
     have hdg1:=hdg.1
     have hdg2:=hdg.2
     have hqn:=quo_neg (x:=-9223372036854775808+(b - 48)) (by omega)
     have hw4:IntKind.i64.wrap ((-9223372036854775808+(b - 48)).tdiv 10)=(-9223372036854775808+(b - 48)).tdiv 10:=by rw [hqn];simp (disch:=omega) only [wrap_ok]
     by_cases hq:acc<(-9223372036854775808+(b - 48)).tdiv 10
     ·rw [pIC_none (hbad (.inr hq))]
      refine rS_ Tryz.func35 ?_
      simp only [go_sem,seval,hlt,hb,hw2,hdg1,hdg2,hw3,hw4,hq]
      repeat' (first
       | (simp (disch:=omega) only [wrap_ok])
       | ((refine (l01In_fn _ _ _).calls rfl ?_)<;>(try simp only [go_sem,seval,hlt,hb,hw2,hdg1,hdg2,hw3,hw4,hq]))
       | fail)
     ·have hnx:=hnx hdg1 hdg2 hq
      have hq2:=hq
      rw [hqn] at hq2
      have hw5:IntKind.i64.wrap (acc * 10)=acc * 10:=by simp (disch:=omega) only [wrap_ok]
      have hw6:IntKind.i64.wrap (acc * 10 - (b - 48))=acc * 10 - (b - 48):=by simp (disch:=omega) only [wrap_ok]
      refine rS_ Tryz.func35 ?_
      simp only [go_sem,seval,hlt,hb,hw2,hdg1,hdg2,hw3,hw4,hq,hw5,hw6,hw1]
      repeat' (first
       | (simp (disch:=omega) only [wrap_ok])
       | ((refine (l01In_fn _ _ _).calls rfl ?_)<;>(try simp only [go_sem,seval,hlt,hb,hw2,hdg1,hdg2,hw3,hw4,hq,hw5,hw6,hw1]))
       | fail)
      refine hnext (i+1,acc * 10 - (b - 48)) _ ⟨by dsimp only;omega,hnx⟩ (by dsimp only;omega) wk1_
    ·have hdf:(decide (0≤b - 48) && decide (b - 48≤9))=false:=by simp only [c_,decide_eq_false_iff_not];omega
     rw [pIC_none (hbad (.inl hdg))]
     refine rS_ Tryz.func35 ?_
     simp only [go_sem,seval,hlt,hb,hw2,hdf]
     repeat' (first
      | (simp (disch:=omega) only [wrap_ok])
      | ((refine (l01In_fn _ _ _).calls rfl ?_)<;>(try simp only [go_sem,seval,hlt,hb,hw2,hdf]))
      | fail)
     all_goals first | (exfalso;omega) | skip
   ·obtain rfl:i=T.length:=by omega
    have hdn:=hR.done hTn
    clear hnext hR
    have hdec:=spec_FormatInt_64 acc hlo (by omega)
    by_cases he:dec acc=l
    ·have hp:pInt l=some acc:=by rw [←he];exact pInt_dec hlo (by omega)
     rw [pIC_some hp]
     refine rS_ Tryz.func35 ?_
     simp only [go_sem,seval,he]
     repeat' (first
      | ((refine hdec.calls rfl ?_)<;>(try simp only [go_sem,seval,he]))
      | fail)
    ·have hp:pInt l=none:=by
      cases hp:pInt l with
      | none=>rfl
      | some n =>
       exfalso
       have h1:=hdn n hp
       have h2:=hng n hp
       have h3:=(pInt_some hp).1
       rw [show acc=n from by omega] at he
       exact he h3
     rw [pIC_none hp]
     refine rS_ Tryz.func35 ?_
     simp only [go_sem,seval,he]
     repeat' (first
      | ((refine hdec.calls rfl ?_)<;>(try simp only [go_sem,seval,he]))
      | fail)
  ·rw [pIC_none (hlen (by omega))]
   refine aE_ Tryz.func35 ?_
   refine rS_ Tryz.func35 ?_
   simp only [go_sem,seval,g4,g2,g3]
   repeat' (first
    | ((refine br_n (fun hq=>?_) (fun hq=>?_))<;>(try simp only [go_sem,seval,g4,g2,g3,hq]))
    | ((refine ⟨sd,?_⟩)<;>(try simp only [go_sem,seval,g4,g2,g3]))
    | fail)
   all_goals first | (exfalso;omega) | skip
 ·have hno:∀T,l≠45 :: T:=fun T h=>hneg ⟨T,h⟩
  obtain ⟨T,hT⟩:∃T,l=T:=⟨l,rfl⟩
  have hTn:∀n,pInt l=some n→T=Lib.decDigits n.natAbs:=fun n hn=>by rw [←hT];exact (pInt_posD hno hn).2
  have hng:∀n,pInt l=some n→0≤n:=fun n hn=>(pInt_posD hno hn).1
  have g1:(l.length:Int)=(T.length:Int):=by rw [hT]
  have hlen:(T.length<1∨19<T.length)→pInt l=none:=fun h=>by
   cases hp:pInt l with
   | none=>rfl
   | some n =>
    exfalso
    obtain ⟨_,b0,b1⟩:=pInt_some hp
    have h1:=digs_len (u:=n.natAbs) (by omega)
    rw [←hTn n hp] at h1;omega
  by_cases hln:1≤T.length∧T.length≤19
  ·have n1:¬(T.length:Int)<1:=by omega
   have n2:¬(19:Int)<(T.length:Int):=by omega
   have g4:(0:Int)<(l.length:Int):=by omega
   have g2:¬((l[0]?.getD 0).toNat:Int)=45:=by
    cases l with
    | nil=>simp at g4
    | cons c r =>
     intro h
     have hc:c=45:=(u8_is (n:=45) (by omega)).2 (by simpa using h)
     exact hno r (by rw [hc])
   have g3:D.str l=D.str T:=by rw [hT]
   rw [show ([D.str l]:List D)=[D.str T] from by rw [hT]] at *
   rw [hT] at g2 g4
   refine aE_ Tryz.func35 ?_
   refine rS_ Tryz.func35 ?_
   simp only [go_sem,seval,g4,g2,n1,n2]
   refine AW.lp [0,4,5] (fun u:Nat×Int=>[(7,.d (.int .i64 u.1)),(6,.d (.int .i64 u.2))]) (fun H _=>H) (fun u=>u.1≤T.length∧Rdg l T u.1 u.2) (fun u=>T.length - u.1) (0,0) ⟨Nat.zero_le _,⟨by decide,by decide,fun n hn=>by simp [digV]⟩⟩ wk1_ ?_
   rintro ⟨i,acc⟩ ⟨hi,hR⟩ hnext
   dsimp only at hi hR hnext ⊢
   have hlo:=hR.lo
   have hhi:=hR.hi
   by_cases h:i<T.length
   ·have hlt:(i:Int)<(T.length:Int):=by omega
    obtain ⟨c,hc,hb⟩:=byte_at h
    have hbad:=hR.bad hTn hc
    have hnx:=hR.next hTn hc
    have hw1:IntKind.i64.wrap ((i:Int)+1)=((i+1:Nat):Int):=by simp (disch:=omega) only [wrap_ok];omega
    have hd0:0≤(c.toNat:Int)∧(c.toNat:Int)≤255:=by have:=UInt8.toNat_lt c;omega
    generalize (c.toNat:Int)=b at hb hbad hnx hd0
    have hw2:IntKind.i64.wrap (b - 48)=b - 48:=by simp (disch:=omega) only [wrap_ok]
    have hw3:0≤b - 48→b - 48≤9→IntKind.i64.wrap (-9223372036854775808+(b - 48))=-9223372036854775808+(b - 48):=fun _ _=>by simp (disch:=omega) only [wrap_ok]
    by_cases hdg:(0:Int)≤b - 48∧b - 48≤9
    ·have hw3:=hw3 hdg.1 hdg.2
     have hdg1:=hdg.1
     have hdg2:=hdg.2
     have hqn:=quo_neg (x:=-9223372036854775808+(b - 48)) (by omega)
     have hw4:IntKind.i64.wrap ((-9223372036854775808+(b - 48)).tdiv 10)=(-9223372036854775808+(b - 48)).tdiv 10:=by rw [hqn];simp (disch:=omega) only [wrap_ok]
     by_cases hq:acc<(-9223372036854775808+(b - 48)).tdiv 10
     ·rw [pIC_none (hbad (.inr hq))]
      refine rS_ Tryz.func35 ?_
      simp only [go_sem,seval,hlt,hb,hw2,hdg1,hdg2,hw3,hw4,hq]
      repeat' (first
       | (simp (disch:=omega) only [wrap_ok])
       | ((refine (l01In_fn _ _ _).calls rfl ?_)<;>(try simp only [go_sem,seval,hlt,hb,hw2,hdg1,hdg2,hw3,hw4,hq]))
       | fail)
     ·have hnx:=hnx hdg1 hdg2 hq
      have hq2:=hq
      rw [hqn] at hq2
      have hw5:IntKind.i64.wrap (acc * 10)=acc * 10:=by simp (disch:=omega) only [wrap_ok]
      have hw6:IntKind.i64.wrap (acc * 10 - (b - 48))=acc * 10 - (b - 48):=by simp (disch:=omega) only [wrap_ok]
      refine rS_ Tryz.func35 ?_
      simp only [go_sem,seval,hlt,hb,hw2,hdg1,hdg2,hw3,hw4,hq,hw5,hw6,hw1]
      repeat' (first
       | (simp (disch:=omega) only [wrap_ok])
       | ((refine (l01In_fn _ _ _).calls rfl ?_)<;>(try simp only [go_sem,seval,hlt,hb,hw2,hdg1,hdg2,hw3,hw4,hq,hw5,hw6,hw1]))
       | fail)
      refine hnext (i+1,acc * 10 - (b - 48)) _ ⟨by dsimp only;omega,hnx⟩ (by dsimp only;omega) wk1_
    ·have hdf:(decide (0≤b - 48) && decide (b - 48≤9))=false:=by simp only [c_,decide_eq_false_iff_not];omega
     rw [pIC_none (hbad (.inl hdg))]
     refine rS_ Tryz.func35 ?_
     simp only [go_sem,seval,hlt,hb,hw2,hdf]
     repeat' (first
      | (simp (disch:=omega) only [wrap_ok])
      | ((refine (l01In_fn _ _ _).calls rfl ?_)<;>(try simp only [go_sem,seval,hlt,hb,hw2,hdf]))
      | fail)
     all_goals first | (exfalso;omega) | skip
   ·obtain rfl:i=T.length:=by omega
    have hdn:=hR.done hTn
    clear hnext hR
    by_cases hmin:acc=-9223372036854775808
    ·have hp:pInt l=none:=by
      cases hp:pInt l with
      | none=>rfl
      | some n =>
       exfalso
       have h1:=hdn n hp
       have h2:=hng n hp
       obtain ⟨_,b0,b1⟩:=pInt_some hp
       omega
     rw [pIC_none hp]
     refine rS_ Tryz.func35 ?_
     simp only [go_sem,seval,hmin]
    ·have hwn:IntKind.i64.wrap (0 - acc)=0 - acc:=by simp (disch:=omega) only [wrap_ok]
     have hdec:=spec_FormatInt_64 (0 - acc) (by omega) (by omega)
     by_cases he:dec (0 - acc)=T
     ·have hp:pInt l=some (0 - acc):=by rw [hT,←he];exact pInt_dec (by omega) (by omega)
      rw [pIC_some hp]
      refine rS_ Tryz.func35 ?_
      simp only [go_sem,seval,he,hmin,hwn]
      repeat' (first
       | ((refine hdec.calls rfl ?_)<;>(try simp only [go_sem,seval,he,hmin,hwn]))
       | fail)
     ·have hp:pInt l=none:=by
       cases hp:pInt l with
       | none=>rfl
       | some n =>
        exfalso
        have h1:=hdn n hp
        have h2:=hng n hp
        have h3:=(pInt_some hp).1
        rw [show 0 - acc=n from by omega,←hT] at he
        exact he h3
      rw [pIC_none hp]
      refine rS_ Tryz.func35 ?_
      simp only [go_sem,seval,he,hmin,hwn]
      repeat' (first
       | ((refine hdec.calls rfl ?_)<;>(try simp only [go_sem,seval,he,hmin,hwn]))
       | fail)
  ·rw [pIC_none (hlen (by omega))]
   have hlen2:l.length<1∨19<l.length:=by omega
   by_cases g4:(0:Int)<(l.length:Int)
   ·have g2:¬((l[0]?.getD 0).toNat:Int)=45:=by
     cases l with
     | nil=>simp at g4
     | cons c r =>
      intro h
      have hc:c=45:=(u8_is (n:=45) (by omega)).2 (by simpa using h)
      exact hno r (by rw [hc])
    refine aE_ Tryz.func35 ?_
    refine rS_ Tryz.func35 ?_
    simp only [go_sem,seval,g4,g2]
    repeat' (first
     | ((refine br_n (fun hq=>?_) (fun hq=>?_))<;>(try simp only [go_sem,seval,g4,g2,hq]))
     | fail)
    all_goals first | (exfalso;omega) | skip
   ·refine aE_ Tryz.func35 ?_
    refine rS_ Tryz.func35 ?_
    simp only [go_sem,seval,g4]
    repeat' (first
     | ((refine br_n (fun hq=>?_) (fun hq=>?_))<;>(try simp only [go_sem,seval,g4,hq]))
     | fail)
    all_goals first | (exfalso;omega) | skip
end Go.Proofs.YtehcdhelbkjaeaaGreatDoor
