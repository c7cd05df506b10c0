import Derived.Test.YtehcdhelbkjaeaaGreatDoorW166
import Derived.Test.YtehcdhelbkjaeaaGreatDoorW39
import Derived.Test.YtehcdhelbkjaeaaGreatDoorW165
import Derived.Test.YtehcdhelbkjaeaaGreatDoorW41
import Derived.Test.YtehcdhelbkjaeaaGreatDoorW167
import Derived.Test.YtehcdhelbkjaeaaGreatDoorW30
import Derived.Test.YtehcdhelbkjaeaaGreatDoorFam
open Nat renaming lt_succ_self→a_
namespace Go.Proofs.YtehcdhelbkjaeaaGreatDoor
open Go.Abs
set_option maxRecDepth 100000
set_option maxHeartbeats 4000000
set_option linter.unusedSimpArgs false
set_option linter.unusedVariables false
def ppR (o:Option Pf) (lo:List O) (c:C) (H:List O):Prop:=match o with
 | some t=>∃e B e' B',c=.tup [.agg [.d (.str t.rel),.d (.int .i64 t.clause),.own 0 1,.own 1 1],.d (.bool true)]∧H=.tree 1 4 e (t.values.map Tm.enc) B none :: .tree 1 4 e' (t.kids.map Pf.enc) B' none :: lo
 | none=>c=.tup [.d (.agg [.str [],.int .i64 0,.sl [],.sl []]),.d (.bool false)]∧H=.hole :: .hole :: lo
theorem iParseProof_T (p:Pg) (s:List UInt8) (hwp:wtL p.enc≤1048576) (hs:s.length≤1048576) (te tr:TypeId) (pe pr:Value) (q e:Nat) (B:Nat→Prop):ACalls Tryz.prog 7 [.agg [.own 5 q],.d (.str s)] [.hole,.hole,tabO,synO te pe,ranO tr pr,.tree q 7 e (p.rels.map Rl.enc) B none] (ppR (ppI p s) [tabO,synO te pe,ranO tr pr,.tree q 7 e (p.rels.map Rl.enc) B none]):=by
 have ht:=iTokens_fn s hs
 obtain ⟨RES,hRES⟩:∃x,ppI p s=x:=⟨_,rfl⟩
 rw [hRES]
 unfold ppI at hRES
 cases hT:tokV s with
 | none =>
  rw [hT] at ht hRES
  unfold tkC at ht
  dsimp only at ht hRES
  rw [←hRES]
  refine aE_ Tryz.func7 ?_
  refine rS_ Tryz.func7 ?_
  simp only [go_sem,seval]
  repeat' (first
   | (exact ⟨rfl,rfl⟩)
   | ((refine ht.calls rfl ?_)<;>(try simp only [go_sem,seval]))
   | fail)
 | some T =>
  rw [hT] at ht hRES
  unfold tkC at ht
  dsimp only at ht hRES
  obtain ⟨k1,k2⟩:=tokV_mem hT
  have kb:=tokV_bys hT
  have hg:=proof_G T k1 k2 (2 * T.length+2) 0 (Nat.zero_le _) (by omega) te tr pe pr
  obtain ⟨PI,hPI⟩:∃x,pfI T=x:=⟨_,rfl⟩
  rw [hPI] at hRES
  have hwt:∀t,PI=some t→wtL t.enc≤1048576:=fun t h=>pfI_wt (hPI.trans h) k1 kb
  unfold pfI at hPI
  cases hr:rdP T (2 * T.length+2) 0 with
  | none =>
   rw [hr] at hg hPI
   unfold prR at hg
   dsimp only at hg hPI
   rw [←hPI] at hRES
   dsimp only at hRES
   rw [←hRES]
   refine aE_ Tryz.func7 ?_
   refine AW.hole ?_
   refine AW.hole ?_
   refine rS_ Tryz.func7 ?_
   simp only [go_sem,seval]
   repeat' (first
    | (exact ⟨rfl,rfl⟩)
    | ((first
     | (refine ht.calls rfl ?_)
     | (refine (ACalls.emb hg [6,7,10,2,3,4] rfl rfl rfl (by decide) rfl ?_)<;>(rintro c H' ⟨k0,rfl,rfl,hkb⟩ _;refine ⟨rfl,rfl,?_⟩)))<;>(try simp only [go_sem,seval]))
    | fail)
  | some x =>
   obtain ⟨t,j⟩:=x
   rw [hr] at hg hPI
   unfold prR at hg
   dsimp only at hg hPI
   have hdn:=done_R T j k1
   by_cases hj:j=T.length
   ·rw [if_pos hj] at hPI
    rw [show decide ((j:Int)=(T.length:Int))=true from by simp;omega] at hdn
    have hok:=iProofOk_fn p t hwp (hwt t hPI.symm)
    rw [←hPI] at hRES
    dsimp only at hRES
    rw [Pg.enc_eq p,Pf.enc_eq t] at hok
    by_cases hk:p.prfOk t=true
    ·rw [if_pos hk] at hRES
     rw [hk] at hok
     rw [←hRES]
     refine aE_ Tryz.func7 ?_
     refine AW.hole ?_
     refine AW.hole ?_
     refine run_sound Tryz.func7 mixed 18 _ _ (by kernel_rfl) ?_
     simp only [go_sem,seval,run.eq_1]
     repeat' (first
      | ((first
       | (refine ht.calls rfl ?_)
       | (refine (ACalls.emb hg [6,7,10,2,3,4] rfl rfl rfl (by decide) rfl ?_)<;>(rintro c H' ⟨e1,B1,e2,B2,rfl,rfl⟩ _;refine ⟨rfl,rfl,?_⟩))
       | (refine (ACalls.emb hdn [10] rfl rfl rfl (by decide) rfl ?_)<;>(rintro c H' ⟨rfl,rfl⟩ _;refine ⟨rfl,rfl,?_⟩))
       | (refine hok.lend rfl (by first | (simp only [go_sem,seval];done)) ?_))<;>(try simp only [go_sem,seval,run.eq_1]))
      | fail)
     refine AW.placeB 11 2 6 0 rfl rfl rfl rfl (by decide) ?_
     refine AW.placeB 11 3 7 1 rfl rfl rfl rfl (by decide) ?_
     refine rS_ Tryz.func7 ?_
     simp only [go_sem,seval]
     repeat' (first
      | (exact ⟨_,_,_,_,rfl,rfl⟩)
      | fail)
    ·rw [if_neg hk] at hRES
     have hkf:p.prfOk t=false:=by simpa using hk
     rw [hkf] at hok
     rw [←hRES]
     refine aE_ Tryz.func7 ?_
     refine AW.hole ?_
     refine AW.hole ?_
     refine rS_ Tryz.func7 ?_
     simp only [go_sem,seval]
     repeat' (first
      | (exact ⟨rfl,rfl⟩)
      | ((first
       | (refine ht.calls rfl ?_)
       | (refine (ACalls.emb hg [6,7,10,2,3,4] rfl rfl rfl (by decide) rfl ?_)<;>(rintro c H' ⟨e1,B1,e2,B2,rfl,rfl⟩ _;refine ⟨rfl,rfl,?_⟩))
       | (refine (ACalls.emb hdn [10] rfl rfl rfl (by decide) rfl ?_)<;>(rintro c H' ⟨rfl,rfl⟩ _;refine ⟨rfl,rfl,?_⟩))
       | (refine hok.lend rfl (by first | (simp only [go_sem,seval];done)) ?_))<;>(try simp only [go_sem,seval]))
      | fail)
   ·rw [if_neg hj] at hPI
    rw [show decide ((j:Int)=(T.length:Int))=false from by simp;omega] at hdn
    rw [←hPI] at hRES
    dsimp only at hRES
    rw [←hRES]
    refine aE_ Tryz.func7 ?_
    refine AW.hole ?_
    refine AW.hole ?_
    refine rS_ Tryz.func7 ?_
    simp only [go_sem,seval]
    repeat' (first
     | (exact ⟨rfl,rfl⟩)
     | ((first
      | (refine ht.calls rfl ?_)
      | (refine (ACalls.emb hg [6,7,10,2,3,4] rfl rfl rfl (by decide) rfl ?_)<;>(rintro c H' ⟨e1,B1,e2,B2,rfl,rfl⟩ _;refine ⟨rfl,rfl,?_⟩))
      | (refine (ACalls.emb hdn [10] rfl rfl rfl (by decide) rfl ?_)<;>(rintro c H' ⟨rfl,rfl⟩ _;refine ⟨rfl,rfl,?_⟩)))<;>(try simp only [go_sem,seval]))
     | fail)
def pfC (o:Option Pf):C:=match o with | some pr=>.tup [.d (.agg pr.enc),.d (.bool true)] | none=>.tup [.d (.agg [.str [],.int .i64 0,.sl [],.sl []]),.d (.bool false)]
theorem pfC_none:pfC none=.tup [.d (.agg [.str [],.int .i64 0,.sl [],.sl []]),.d (.bool false)]:=rfl
theorem pfC_some (pr:Pf):pfC (some pr)=.tup [.d (.agg pr.enc),.d (.bool true)]:=rfl
theorem sParseProof_fn (p:Pg) (s:List UInt8) (hwp:wtL p.enc≤1048576) (hs:s.length≤1048576):Gives Tryz.prog 5 [.agg p.enc,.str s] (pfC (ppS p s)):=by
 have ht:=sTokens_fn s hs
 obtain ⟨RES,hRES⟩:∃x,pfC (ppS p s)=x:=⟨_,rfl⟩
 rw [hRES]
 unfold ppS at hRES
 cases hT:tokV s with
 | none =>
  rw [hT] at ht hRES
  unfold tkC at ht
  dsimp only at ht hRES
  have hl:=l27Lists_fn [] (by simp)
  have e0:lsl (([]:List (List UInt8)).length+1) []=some []:=by rw [List.length_nil,lsl]
  rw [e0,lssC_some,strD_nil] at hl
  rw [←hRES,pfC_none]
  refine aE_ Tryz.func5 ?_
  refine rS_ Tryz.func5 ?_
  simp only [go_sem,seval]
  repeat' (first
   | ((first
    | (refine ht.calls rfl ?_)
    | (refine hl.calls rfl ?_))<;>(try simp only [go_sem,seval,ssD]))
   | fail)
 | some T =>
  rw [hT] at ht hRES
  unfold tkC at ht
  dsimp only at ht hRES
  obtain ⟨k1,k2⟩:=tokV_mem hT
  have kb:=tokV_bys hT
  have hl:=l27Lists_fn T k1
  obtain ⟨PS,hPS⟩:∃x,pfS T=x:=⟨_,rfl⟩
  rw [hPS] at hRES
  have hwt:∀pr,PS=some pr→wtL pr.enc≤1048576:=fun pr h=>pfS_wt (hPS.trans h) k1 kb
  unfold pfS at hPS
  cases hL:lsl (T.length+1) T with
  | none =>
   rw [hL,lssC_none] at hl
   rw [hL] at hPS
   dsimp only at hPS
   rw [←hPS] at hRES
   dsimp only at hRES
   rw [←hRES,pfC_none]
   refine aE_ Tryz.func5 ?_
   refine rS_ Tryz.func5 ?_
   simp only [go_sem,seval]
   repeat' (first
    | ((first
     | (refine ht.calls rfl ?_)
     | (refine hl.calls rfl ?_))<;>(try simp only [go_sem,seval]))
    | fail)
  | some L =>
   rw [hL,lssC_some] at hl
   rw [hL] at hPS
   match L,hL,hl,hPS with
   | [],hL,hl,hPS =>
    dsimp only at hPS
    rw [←hPS] at hRES
    dsimp only at hRES
    rw [←hRES,pfC_none]
    refine aE_ Tryz.func5 ?_
    refine rS_ Tryz.func5 ?_
    simp only [go_sem,seval]
    repeat' (first
     | ((first
      | (refine ht.calls rfl ?_)
      | (refine hl.calls rfl ?_))<;>(try simp only [go_sem,seval,ssD]))
     | fail)
   | w1 :: w2 :: r,hL,hl,hPS =>
    dsimp only at hPS
    rw [←hPS] at hRES
    dsimp only at hRES
    rw [←hRES,pfC_none]
    have hne:(((w1 :: w2 :: r).length:Int) != 1)=true:=by simp;omega
    have hln:=ssD_len (w1 :: w2 :: r)
    generalize w1 :: w2 :: r=L at *
    refine aE_ Tryz.func5 ?_
    refine rS_ Tryz.func5 ?_
    simp only [go_sem,seval,hln,hne]
    repeat' (first
     | ((first
      | (refine ht.calls rfl ?_)
      | (refine hl.calls rfl ?_))<;>(try simp only [go_sem,seval,hln,hne]))
     | fail)
   | [w],hL,hl,hPS =>
    dsimp only at hPS
    obtain ⟨e1,_⟩:=lsl_un _ _ _ hL
    obtain ⟨m1,m2⟩:=unl_mem (L:=[w]) (w:=w) (by simp)
    have hg:=l27Derive_fn (w.length+1) w (Nat.le_refl _) (by rw [←e1] at m2;omega) (fun t ht=>by have:=(k2 t (by rw [e1];exact m1 t ht)).2;omega)
    unfold deG at hg
    rw [hPS] at hg
    have hcase:∀(pr:Pf) (b:Bool),PS=(if b=true then some pr else none)→(b=false∧RES=.tup [.d (.agg [.str [],.int .i64 0,.sl [],.sl []]),.d (.bool false)])∨(b=true∧Gives Tryz.prog 17 [.agg p.enc,.agg pr.enc] (.d (.bool false))∧RES=.tup [.d (.agg [.str [],.int .i64 0,.sl [],.sl []]),.d (.bool false)])∨(b=true∧Gives Tryz.prog 17 [.agg p.enc,.agg pr.enc] (.d (.bool true))∧RES=.tup [.d (.agg pr.enc),.d (.bool true)]):=fun pr b h=>by
     cases b with
     | false=>exact .inl ⟨rfl,by rw [←hRES,h];rfl⟩
     | true =>
      rw [if_pos rfl] at h
      have hok:=sProofOk_fn p pr hwp (hwt pr h)
      by_cases hk:p.prfOk pr=true
      ·rw [hk] at hok
       exact .inr (.inr ⟨rfl,hok,by rw [←hRES,h];dsimp only;rw [if_pos hk,pfC_some]⟩)
      ·have hkf:p.prfOk pr=false:=by simpa using hk
       rw [hkf] at hok
       exact .inr (.inl ⟨rfl,hok,by rw [←hRES,h];dsimp only;rw [if_neg hk,pfC_none]⟩)
    clear hRES
    have g1:(ssD [w])[0]? = some [.sl (strD w)]:=rfl
    have g2:(ssD [w]).length=1:=rfl
    generalize ssD [w]=SL at *
    refine aE_ Tryz.func5 ?_
    refine rS_ Tryz.func5 ?_
    simp only [go_sem,seval,g2,idx_of g1]
    repeat' (first
     | ((first
      | (refine ht.calls rfl ?_)
      | (refine hl.calls rfl ?_)
      | (refine (ACalls.emb hg [] rfl rfl rfl (by decide) rfl ?_)<;>(rintro c H' ⟨pr,b,rfl,rfl,hd⟩ _;refine ⟨rfl,rfl,?_⟩;obtain ⟨rfl,rfl⟩ | ⟨rfl,hP,rfl⟩ | ⟨rfl,hP,rfl⟩:=hcase pr b hd))
      | (refine hP.calls rfl ?_))<;>(try simp only [go_sem,seval,g2,idx_of g1]))
     | fail)
theorem markProof_0 (k:Int):Gives Tryz.prog 11 [.agg [.str [],.int .i64 0,.sl [],.sl []],.int .i64 k] (.d (.int .i64 k)):=by
 refine aE_ Tryz.func11 ?_
 refine rS_ Tryz.func11 ?_
 simp only [go_sem,seval]
 repeat' (first
  | ((first
   | (refine (markTermS_0 _).calls rfl ?_)
   | (refine (markProofS_0 _).calls rfl ?_))<;>(try simp only [go_sem,seval]))
  | fail)
theorem lawFnExactParseProof (a0:Pg) (a1:List UInt8) (ha0:Sh Tryz.prog 24 (a0.enc)) (ha1:a1.length≤maxLen) (te tr:TypeId) (pe pr:Value):ACalls Tryz.prog 3 [.d (.agg a0.enc),.d (.str a1)] [tabO,synO te pe,ranO tr pr] (fun c H'=>c=.d (.bool true)∧H'=[tabO,synO te pe,ranO tr pr]):=by
 have hsza0:=szc24 _ a0.enc (a_ _) ha0
 have htoa0:=fun hb=>toc24 _ a0.enc (a_ _) hb ha0
 have heqa0:=eqc24 _ a0.enc (a_ _) ha0
 refine aE_ Tryz.func3 ?_
 refine AW.hole ?_
 refine AW.hole ?_
 refine AW.hole ?_
 refine AW.hole ?_
 refine AW.hole ?_
 refine AW.hole ?_
 refine run_sound Tryz.func3 mixed 60 _ _ (by kernel_rfl) ?_
 simp only [go_sem,seval,run.eq_1]
 refine br_intro (fun hq=>?_) (fun hq=>?_)
 ·simp only [go_sem,seval]
 simp only [decide_eq_false_iff_not,Int.not_lt] at hq
 have hsa1:a1.length≤1048576:=by omega
 clear hq
 try simp only [go_sem,seval]
 refine (hsza0 _ (by omega) (by omega)).calls rfl ?_
 simp only [go_sem,seval]
 refine br_intro (fun hq=>?_) (fun hq=>?_)
 ·simp only [go_sem,seval]
 simp only [decide_eq_false_iff_not] at hq
 have hwa0:=szr_ge hq
 rw [szr_pos hwa0]
 clear hq
 simp only [go_sem,seval]
 have hmx:maxLen=9223372036854775807:=rfl
 have hwp:wtL a0.enc≤1048576:=by omega
 have hwr:wtR (a0.rels.map Rl.enc)≤1048576:=by
  simpa only [Pg.enc_eq,wtL,D.wt,Nat.add_zero] using hwp
 have hx:=toProgram_T a0 hwp
 have hw0:=sParseProof_fn a0 a1 hwp hsa1
 rw [pp_same] at hw0
 have hg:=fun q e B=>iParseProof_T a0 a1 hwp hsa1 te tr pe pr q e B
 have hmR:=Rl.mcnts_wt a0.rels
 have hmk:=markProgram_T a0 1
 have ho2:∀t,ppI a0 a1=some t→wtL t.enc≤1048576:=fun t h=>by
  unfold ppI at h
  split at h
  ·rename_i T hT
   split at h
   ·rename_i t' ht
    split at h
    ·cases h;exact pfI_wt ht (tokV_mem hT).1 (tokV_bys hT)
    ·cases h
   ·cases h
  ·cases h
 cases ho:ppI a0 a1 with
 | none =>
  rw [ho,pfC_none] at hw0
  rw [ho] at hg
  unfold ppR at hg
  dsimp only at hg
  have hei:=eqPf_fn (.mk [] 0 [] []) (by rw [Pf.enc_eq];simp [Pf.rel,Pf.values,Pf.kids,wtL,D.wt,wtR])
  have hh:=heldProof_T (.mk [] 0 [] []) 1 (by omega) (by simp [Pf.mcnt,Tm.mcnts,Pf.mcnts])
  rw [show (Pf.mk [] 0 [] []).enc=[.str [],.int .i64 0,.sl [],.sl []] from by rw [Pf.enc_eq];rfl] at hei
  simp only [Pf.rel,Pf.clause,Pf.values,Pf.kids,Tm.mrks,Pf.mrks,List.map_nil,Tm.mcnts,Pf.mcnts] at hh
  have z1:(1:Int)+((0:Nat):Int)+((0:Nat):Int)=1:=rfl
  rw [z1] at hh
  have hbe0:∀e1 B1 X,borAll (tabO :: synO te pe :: ranO tr pr :: .tree 1 7 e1 (a0.rels.map Rl.enc) B1 none :: X) [.agg [.own 3 1],.d (.agg a0.enc)]=some [.agg a0.enc,.agg a0.enc]:=fun e1 B1 X=>by
   rw [Pg.enc_eq a0];rfl
  refine (htoa0 hwp).calls rfl ?_
  simp only [go_sem,seval]
  refine hw0.calls rfl ?_
  simp only [go_sem,seval]
  refine ACalls.fresh (ds:=[.agg a0.enc]) (m:=1) hx [3] rfl rfl (by simp) (by simp) ?_
  rintro c H' ⟨rfl,e1,B1,rfl⟩ _
  refine ⟨rfl,rfl,?_⟩
  simp only [go_sem,seval]
  refine ACalls.emb (hg 1 e1 B1) [4,5,0,1,2,3] rfl rfl rfl (by decide) rfl ?_
  rintro c H' ⟨rfl,rfl⟩ _
  refine ⟨rfl,rfl,?_⟩
  simp only [go_sem,seval]
  repeat' (first
   | ((refine br_n (fun hq=>?_) (fun hq=>?_))<;>(try simp only [go_sem,seval,run.eq_1,hq]))
   | ((first
    | (refine hei.calls rfl ?_)
    | (refine (htoa0 hwp).callQ rfl ?_)
    | (refine heqa0.lendQ rfl (hbe0 _ _ _) ?_)
    | (refine (ACalls.emb (hmk 1 e1 B1 (by omega) (by omega)) [3] rfl rfl rfl (by decide) rfl ?_)<;>(rintro c H' ⟨rfl,B5,rfl⟩ _;refine ⟨rfl,rfl,?_⟩))
    | (refine (markProof_0 1).calls rfl ?_)
    | (refine hh.calls rfl ?_))<;>(try simp only [go_sem,seval,run.eq_1]))
   | fail)
  all_goals first | (exfalso;omega) | skip
  refine rS_ Tryz.func3 ?_
  simp only [go_sem,seval]
  repeat' (first
   | ((first
    | (refine ACalls.fresh (ds:=[.agg a0.enc]) (m:=1) hx [6] rfl rfl (by simp) (by simp) ?_<;>(rintro c H' ⟨rfl,e6,B6,rfl⟩ _;refine ⟨rfl,rfl,?_⟩))
    | (refine (ACalls.emb (hg 1 e6 B6) [7,8,0,1,2,6] rfl rfl rfl (by decide) rfl ?_)<;>(rintro c H' ⟨rfl,rfl⟩ _;refine ⟨rfl,rfl,?_⟩))
    | (refine hei.calls rfl ?_)
    | (refine hh.calls rfl ?_))<;>(try simp only [go_sem,seval]))
   | fail)
  all_goals first | (exfalso;omega) | skip
 | some t =>
  rw [ho,pfC_some] at hw0
  rw [ho] at hg
  unfold ppR at hg
  dsimp only at hg
  have hwt:=ho2 t ho
  have hei:=eqPf_fn t hwt
  have hmP:=Pf.mcnt_wt t
  have hmc:=Pf.mcnt_eq t
  have hh:=heldProof_T t 1 (by omega) (by omega)
  have hmt:=markProof_T t 1
  have hbe0:∀e1 B1 X,borAll (tabO :: synO te pe :: ranO tr pr :: .tree 1 7 e1 (a0.rels.map Rl.enc) B1 none :: X) [.agg [.own 3 1],.d (.agg a0.enc)]=some [.agg a0.enc,.agg a0.enc]:=fun e1 B1 X=>by
   rw [Pg.enc_eq a0];rfl
  have hbg:∀e1 B1 xs e2 B2 e3 B3 X,borAll (tabO :: synO te pe :: ranO tr pr :: .tree 1 7 e1 xs B1 none :: .tree 1 4 e2 (t.values.map Tm.enc) B2 none :: .tree 1 4 e3 (t.kids.map Pf.enc) B3 none :: X) [.agg [.d (.str t.rel),.d (.int .i64 t.clause),.own 4 1,.own 5 1],.d (.agg t.enc)]=some [.agg t.enc,.agg t.enc]:=fun e1 B1 xs e2 B2 e3 B3 X=>by
   rw [Pf.enc_eq t];rfl
  have hbh:∀o0 o1 o2 o3 o4 o5 o6 e2 B2 e3 B3 X,borAll (o0 :: o1 :: o2 :: o3 :: o4 :: o5 :: o6 :: .tree 1 4 e2 (t.values.map Tm.enc) B2 none :: .tree 1 4 e3 (t.kids.map Pf.enc) B3 none :: X) [.agg [.d (.str t.rel),.d (.int .i64 t.clause),.own 7 1,.own 8 1],.d (.agg t.enc)]=some [.agg t.enc,.agg t.enc]:=fun o0 o1 o2 o3 o4 o5 o6 e2 B2 e3 B3 X=>by
   rw [Pf.enc_eq t];rfl
  refine (htoa0 hwp).calls rfl ?_
  simp only [go_sem,seval]
  refine hw0.calls rfl ?_
  simp only [go_sem,seval]
  refine ACalls.fresh (ds:=[.agg a0.enc]) (m:=1) hx [3] rfl rfl (by simp) (by simp) ?_
  rintro c H' ⟨rfl,e1,B1,rfl⟩ _
  refine ⟨rfl,rfl,?_⟩
  simp only [go_sem,seval]
  refine ACalls.emb (hg 1 e1 B1) [4,5,0,1,2,3] rfl rfl rfl (by decide) rfl ?_
  rintro c H' ⟨e2,B2,e3,B3,rfl,rfl⟩ _
  refine ⟨rfl,rfl,?_⟩
  simp only [go_sem,seval]
  repeat' (first
   | ((refine br_n (fun hq=>?_) (fun hq=>?_))<;>(try simp only [go_sem,seval,run.eq_1,hq]))
   | ((first
    | (refine hei.lend rfl (hbg _ _ _ _ _ _ _ _) ?_)
    | (refine (htoa0 hwp).callQ rfl ?_)
    | (refine heqa0.lendQ rfl (hbe0 _ _ _) ?_)
    | (refine (ACalls.emb (hmk 1 e1 B1 (by omega) (by omega)) [3] rfl rfl rfl (by decide) rfl ?_)<;>(rintro c H' ⟨rfl,B5,rfl⟩ _;refine ⟨rfl,rfl,?_⟩))
    | (refine (ACalls.emb (hmt 1 1 e2 e3 B2 B3 (by omega) (by omega)) [4,5] rfl rfl rfl (by decide) rfl ?_)<;>(rintro c H' ⟨rfl,B7,B8,rfl⟩ _;refine ⟨rfl,rfl,?_⟩))
    | (refine hh.lend rfl (by simp only [go_sem,seval]) ?_))<;>(try simp only [go_sem,seval,run.eq_1]))
   | fail)
  all_goals first | (exfalso;omega) | skip
  refine rS_ Tryz.func3 ?_
  simp only [go_sem,seval]
  repeat' (first
   | ((refine br_n (fun hq=>?_) (fun hq=>?_))<;>(try simp only [go_sem,seval,hq]))
   | ((first
    | (refine ACalls.fresh (ds:=[.agg a0.enc]) (m:=1) hx [6] rfl rfl (by simp) (by simp) ?_<;>(rintro c H' ⟨rfl,e6,B6,rfl⟩ _;refine ⟨rfl,rfl,?_⟩))
    | (refine (ACalls.emb (hg 1 e6 B6) [7,8,0,1,2,6] rfl rfl rfl (by decide) rfl ?_)<;>(rintro c H' ⟨e9,B9,e10,B10,rfl,rfl⟩ _;refine ⟨rfl,rfl,?_⟩))
    | (refine hei.lend rfl (hbh _ _ _ _ _ _ _ _ _ _ _ _) ?_)
    | (refine hh.lend rfl (by simp only [go_sem,seval]) ?_))<;>(try simp only [go_sem,seval]))
   | fail)
  all_goals first | (exfalso;omega) | skip
end Go.Proofs.YtehcdhelbkjaeaaGreatDoor
