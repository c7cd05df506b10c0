import Derived.Test.YthilkmjkgpdngaaGreatW164
import Derived.Test.YthilkmjkgpdngaaGreatW30
import Derived.Test.YthilkmjkgpdngaaGreatFam
open Nat renaming lt_succ_self→a_
namespace Go.Proofs.YthilkmjkgpdngaaGreat
open Go.Abs
set_option maxRecDepth 100000
set_option maxHeartbeats 4000000
set_option linter.unusedSimpArgs false
set_option linter.unusedVariables false
theorem lawFnExactGroundRules (a0:Pg) (a1:List Tm) (ha0:Sh Tryz.prog 24 (a0.enc)) (ha1:Sh Tryz.prog 25 [.sl (a1.map Tm.enc)]):Gives Tryz.prog 3 [.agg a0.enc,.sl (a1.map Tm.enc)] (.d (.bool true)):=by
 have hsza0:=szc24 _ a0.enc (a_ _) ha0
 have htoa0:=fun hb=>toc24 _ a0.enc (a_ _) hb ha0
 have heqa0:=eqc24 _ a0.enc (a_ _) ha0
 have hesa1:=shS (by kernel_rfl:leaves Tryz.prog 6 25=some [.sl 47]) ha1
 have hsza1:=szs25 _ hesa1.1 hesa1.2
 have htoa1:=fun hb=>tos25 _ hb hesa1.2
 have heqa1:=eqs25 _ hesa1.1 hesa1.2
 refine aE_ Tryz.func3 ?_
 refine AW.hole ?_
 refine AW.hole ?_
 refine AW.hole ?_
 refine AW.hole ?_
 refine rS_ Tryz.func3 ?_
 simp only [go_sem,seval]
 refine (hsza0 _ (by omega) (by omega)).calls rfl ?_
 simp only [go_sem,seval]
 refine br_intro (fun hq=>?_) (fun hq=>?_)
 ·simp only [go_sem,seval]
 simp only [decide_eq_false_iff_not] at hq
 have hwa0:=szr_ge hq
 rw [szr_pos hwa0]
 clear hq
 simp only [go_sem,seval]
 refine (hsza1 _ (by omega) (by omega)).calls rfl ?_
 simp only [go_sem,seval]
 refine br_intro (fun hq=>?_) (fun hq=>?_)
 ·simp only [go_sem,seval]
 simp only [decide_eq_false_iff_not] at hq
 have hwa1:=szr_ge hq
 rw [szr_pos hwa1]
 clear hq
 simp only [go_sem,seval]
 have hmx:maxLen=9223372036854775807:=rfl
 have hwp:wtL a0.enc≤1048576:=by omega
 have hwu:wtR (a1.map Tm.enc)≤1048576:=by omega
 have hwr:wtR (a0.rels.map Rl.enc)≤1048576:=by
  simpa only [Pg.enc_eq,wtL,D.wt,Nat.add_zero] using hwp
 have hx:=toProgram_T a0 hwp
 have hy:=toTermS_T a1 hwu (fun x hx=>toTerm_T x (Nat.le_trans (wtR_mem (List.mem_map.2 ⟨x,hx,rfl⟩)) hwu))
 have hg:=iGroundRules_T a0 a1 hwp hwu
 have hw0:=sGroundRules_fn a0 a1 hwp (mem_wtR hwu).1 (mem_wtR hwu).2
 have hmR:=Rl.mcnts_wt a0.rels
 have hmT:=Tm.mcnts_wt a1
 have hmk0:=markProgram_T a0 1
 have hmk1:=mTT_all a1 (1+Rl.mcnts a0.rels)
 have hbf:∀e1 B1 e2 B2 X,borAll (.tree 1 7 e1 (a0.rels.map Rl.enc) B1 none :: .tree 1 4 e2 (a1.map Tm.enc) B2 none :: X) [.agg [.own 0 1],.own 1 1]=some [.agg a0.enc,.sl (a1.map Tm.enc)]:=fun e1 B1 e2 B2 X=>by
  rw [Pg.enc_eq a0];rfl
 have hbe0:∀e1 B1 X,borAll (.tree 1 7 e1 (a0.rels.map Rl.enc) B1 none :: X) [.agg [.own 0 1],.d (.agg a0.enc)]=some [.agg a0.enc,.agg a0.enc]:=fun e1 B1 X=>by
  rw [Pg.enc_eq a0];rfl
 refine (htoa0 hwp).calls rfl ?_
 simp only [go_sem,seval]
 refine (htoa1 hwu).calls rfl ?_
 simp only [go_sem,seval]
 cases ho:Pg.grO a0 a1 with
 | none =>
  rw [ho] at hg
  unfold grT at hg
  rw [ho,grC_none] at hw0
  dsimp only at hg
  have hei:=eqRuS_of [] (by simp) (fun x hx=>by cases hx)
  have hh:=heldRuleS_T [] 1 (by omega) (by simp [Ru.mcnts])
  simp only [Ru.mrks,List.map_nil,Ru.mcnts] at hh hei
  have z1:(1:Int)+((0:Nat):Int)=1:=rfl
  rw [z1] at hh
  refine hw0.calls rfl ?_
  simp only [go_sem,seval]
  refine ACalls.fresh (ds:=[.agg a0.enc]) (m:=1) hx [0] rfl rfl (by simp) (by simp) ?_
  rintro c H' ⟨rfl,e1,B1,rfl⟩ _
  refine ⟨rfl,rfl,?_⟩
  simp only [go_sem,seval]
  refine ACalls.fresh (ds:=[.sl (a1.map Tm.enc)]) (m:=1) hy [1] rfl rfl (by simp) (by simp) ?_
  rintro c H' ⟨rfl,e2,B2,rfl⟩ _
  refine ⟨rfl,rfl,?_⟩
  simp only [go_sem,seval]
  refine ACalls.fresh (ds:=[.agg a0.enc,.sl (a1.map Tm.enc)]) (m:=1) hg [2] (hbf _ _ _ _ _) rfl (by simp) (by simp) ?_
  rintro c H' ⟨rfl,rfl⟩ _
  refine ⟨rfl,rfl,?_⟩
  simp only [go_sem,seval]
  repeat' (first
   | ((refine br_n (fun hq=>?_) (fun hq=>?_))<;>(try simp only [go_sem,seval,hq]))
   | ((first
    | (refine hei.calls rfl ?_)
    | (refine (markRuleS_0 1).calls rfl ?_)
    | (refine hh.calls rfl ?_)
    | (refine ACalls.fresh (ds:=[.agg a0.enc,.sl (a1.map Tm.enc)]) (m:=1) hg [3] rfl rfl (by simp) (by simp) ?_<;>(rintro c H' ⟨rfl,rfl⟩ _;refine ⟨rfl,rfl,?_⟩))
    | (refine (htoa0 hwp).callQ rfl ?_)
    | (refine (htoa0 hwp).calls rfl ?_)
    | (refine (htoa1 hwu).calls rfl ?_)
    | (refine heqa0.lendQ rfl (hbe0 _ _ _) ?_)
    | (refine heqa1.lend rfl rfl ?_)
    | (refine (ACalls.emb (hmk0 1 _ _ (by omega) (by omega)) [0] rfl rfl rfl (by decide) rfl ?_)<;>(rintro c H' ⟨rfl,C0,rfl⟩ _;refine ⟨rfl,rfl,?_⟩))
    | (refine (ACalls.emb (hmk1 1 _ _ (by omega) (by omega)) [1] rfl rfl rfl (by decide) rfl ?_)<;>(rintro c H' ⟨rfl,C1,rfl⟩ _;refine ⟨rfl,rfl,?_⟩)))<;>(try simp only [go_sem,seval]))
   | fail)
  all_goals first | (exfalso;omega) | skip
 | some L =>
  obtain ⟨hL,hsm⟩:=grO_small ho
  have hei:=eqRuS_of L (by omega) hsm
  have hmc:=mcntR_small L hsm
  rw [ho] at hg
  unfold grT at hg
  rw [ho,grC_some] at hw0
  dsimp only at hg
  simp only [rvE_map] at hg hei hw0
  generalize L.map RV.ru=M at *
  have hmg:=markRuleS_T M 1
  have hh:=heldRuleS_T M 1 (by omega) (by omega)
  refine hw0.calls rfl ?_
  simp only [go_sem,seval]
  refine ACalls.fresh (ds:=[.agg a0.enc]) (m:=1) hx [0] rfl rfl (by simp) (by simp) ?_
  rintro c H' ⟨rfl,e1,B1,rfl⟩ _
  refine ⟨rfl,rfl,?_⟩
  simp only [go_sem,seval]
  refine ACalls.fresh (ds:=[.sl (a1.map Tm.enc)]) (m:=1) hy [1] rfl rfl (by simp) (by simp) ?_
  rintro c H' ⟨rfl,e2,B2,rfl⟩ _
  refine ⟨rfl,rfl,?_⟩
  simp only [go_sem,seval]
  refine ACalls.fresh (ds:=[.agg a0.enc,.sl (a1.map Tm.enc)]) (m:=1) hg [2] (hbf _ _ _ _ _) rfl (by simp) (by simp) ?_
  rintro c H' ⟨rfl,e4,B4,rfl⟩ _
  refine ⟨rfl,rfl,?_⟩
  simp only [go_sem,seval]
  repeat' (first
   | ((refine br_n (fun hq=>?_) (fun hq=>?_))<;>(try simp only [go_sem,seval,hq]))
   | ((first
    | (refine (htoa0 hwp).callQ rfl ?_)
    | (refine (htoa0 hwp).calls rfl ?_)
    | (refine (htoa1 hwu).calls rfl ?_)
    | (refine heqa0.lendQ rfl (hbe0 _ _ _) ?_)
    | (refine heqa1.lend rfl rfl ?_)
    | (refine (ACalls.emb (hmk0 1 _ _ (by omega) (by omega)) [0] rfl rfl rfl (by decide) rfl ?_)<;>(rintro c H' ⟨rfl,C0,rfl⟩ _;refine ⟨rfl,rfl,?_⟩))
    | (refine (ACalls.emb (hmk1 1 _ _ (by omega) (by omega)) [1] rfl rfl rfl (by decide) rfl ?_)<;>(rintro c H' ⟨rfl,C1,rfl⟩ _;refine ⟨rfl,rfl,?_⟩))
    | (refine hei.lend rfl rfl ?_)
    | (refine hh.lend rfl rfl ?_)
    | (refine (ACalls.emb (hmg 1 _ _ (by omega) (by omega)) [2] rfl rfl rfl (by decide) rfl ?_)<;>(rintro c H' ⟨rfl,C3,rfl⟩ _;refine ⟨rfl,rfl,?_⟩))
    | (refine ACalls.fresh (ds:=[.agg a0.enc,.sl (a1.map Tm.enc)]) (m:=1) hg [3] rfl rfl (by simp) (by simp) ?_<;>(rintro c H' ⟨rfl,e9,B9,rfl⟩ _;refine ⟨rfl,rfl,?_⟩)))<;>(try simp only [go_sem,seval]))
   | fail)
  all_goals first | (exfalso;omega) | skip
end Go.Proofs.YthilkmjkgpdngaaGreat
