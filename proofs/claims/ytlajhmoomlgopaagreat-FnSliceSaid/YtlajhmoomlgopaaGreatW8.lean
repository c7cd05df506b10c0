import Derived.Test.YtlajhmoomlgopaaGreatW7
open List renaming all_cons→a_,all_nil→b_
namespace Go.Proofs.YtlajhmoomlgopaaGreat
open Go.Abs
set_option maxRecDepth 100000
set_option maxHeartbeats 8000000
set_option linter.unusedSimpArgs false
set_option linter.unusedVariables false
theorem iFindRel_fn (p:Pg) (s:List UInt8) (hw:wtL p.enc≤1048576):Gives Tryz.prog 52 [.agg p.enc,.str s] (.d (.int .i64 (if pgOk p then p.find s else -1))):=by
 refine aE_ Tryz.func52 ?_
 refine rS_ Tryz.func52 ?_
 simp only [go_sem,seval]
 repeat' (first
  | ((refine br_n (fun hq=>?_) (fun hq=>?_))<;>(try simp only [go_sem,seval,hq]))
  | ((first
   | (refine (iProgramOk_fn _ sd).calls rfl ?_)
   | (refine (relation_fn _ _).calls rfl ?_))<;>(try simp only [go_sem,seval]))
  | fail)
 all_goals simp [*]
theorem neg1_fn (k:Int):Gives Tryz.prog 131 [.int .i64 k] (.d (.bool (decide (k=10)))):=by
 refine aE_ Tryz.func131 ?_
 refine rS_ Tryz.func131 ?_
 simp only [go_sem,seval]
theorem hk1_clo (gb:List D) (f:FuncId) (q:Int→Bool) (hgo:isGo Tryz.prog f=true) (hf:∀k,Gives Tryz.prog f [.int .i64 k] (.d (.bool (q k)))):Clo Tryz.prog 165 [.ptr 2 0,.ptr 1 0] 3 (fun x:Gl=>D.agg x.enc) (fun b:Bool=>[.box (gb.map .d),.box [.fn f []],.box [.d (.bool b)]]) (fun _=>True) (fun b x=>b || q x.kind):=by
 refine ⟨by kernel_rfl,rfl,fun _=>rfl,fun a=>by simp only [a_,b_,O.refsLt,all_dmap,C.refsLt,C.refsLt1];rfl,fun a x _=>?_⟩
 refine aE_ Tryz.func165 ?_
 refine rS_ Tryz.func165 ?_
 simp only [go_sem,seval,hgo]
 repeat' (first
  | ((refine br_n (fun hq=>?_) (fun hq=>?_))<;>(try simp only [go_sem,seval,hgo,hq]))
  | ((refine (hf _).calls rfl ?_)<;>(try simp only [go_sem,seval,hgo]))
  | fail)
 all_goals simp only [all_dmap,Bool.false_or,Bool.true_or]
theorem hasKind_fn (g:Gl) (f:FuncId) (q:Int→Bool) (hgo:isGo Tryz.prog f=true) (hf:∀k,Gives Tryz.prog f [.int .i64 k] (.d (.bool (q k)))):ACalls Tryz.prog 130 [.d (.agg g.enc),.fn f []] [] (fun c H'=>c=.d (.bool (g.subs.any fun x=>q x.kind))∧H'=[]):=by
 have e1:=eachGoal_fn (hk1_clo g.enc f q hgo hf) g false (fun _ _=>trivial)
 rw [foldl_any,Bool.false_or] at e1
 generalize (g.subs.any fun x=>q x.kind)=N at e1 ⊢
 refine aE_ Tryz.func130 ?_
 refine rS_ Tryz.func130 ?_
 simp only [go_sem,seval]
 repeat' (first
  | ((refine ACalls.mono e1 ?_<;>(rintro c H' ⟨rfl,rfl⟩))<;>(try simp only [go_sem,seval]))
  | fail)
theorem negative_fn (g:Gl):Gives Tryz.prog 90 [.agg g.enc] (.d (.bool (!g.only false))):=by
 rw [←Gl.only_neg]
 have e1:=hasKind_fn g 131 (fun k=>decide (k=10)) (by kernel_rfl) neg1_fn
 generalize (g.subs.any fun x=>decide (x.kind=10))=N at e1 ⊢
 refine aE_ Tryz.func90 ?_
 refine rS_ Tryz.func90 ?_
 simp only [go_sem,seval]
 repeat' (first
  | ((refine e1.frame (X:=[_]) rfl rfl ?_<;>(rintro c H' ⟨rfl,rfl⟩ _))<;>(try simp only [go_sem,seval]))
  | fail)
theorem positive_fn (p:Pg):Gives Tryz.prog 50 [.agg p.enc] (.d (.bool (p.rels.all fun r=>r.body.only false))):=by
 refine aE_ Tryz.func50 ?_
 refine rS_ Tryz.func50 ?_
 simp only [go_sem,seval]
 refine AW.rng p.rels [6,7] 8 6 (fun _:Unit=>[]) (fun H _=>H) (fun r _=>(r.all fun r=>r.body.only false)=p.rels.all fun r=>r.body.only false) () rfl (by simp) rfl wk3_ (fun i x r acc hxi hdr hlt hm hinv hnext=>?_) (fun acc hinv=>?_)
 ·rw [a_] at hinv
  refine rS_ Tryz.func50 ?_
  simp only [go_sem,seval,hlt,j5 hxi]
  repeat' (first
   | ((refine br_n (fun hq=>?_) (fun hq=>?_))<;>(try simp only [go_sem,seval,hq]))
   | (simp (disch:=omega) only [j6])
   | (refine hnext () _ ?_ wk3_)
   | ((refine (negative_fn _).calls rfl ?_)<;>(try simp only [go_sem,seval]))
   | fail)
  all_goals clear hnext
  all_goals (rw [←hinv];simp_all;done)
 ·rw [b_] at hinv
  refine rS_ Tryz.func50 ?_
  simp only [go_sem,seval]
  rw [←hinv]
theorem iIsPositive_fn (p:Pg) (hw:wtL p.enc≤1048576):Gives Tryz.prog 18 [.agg p.enc] (.d (.bool (p.all false))):=by
 have hp:p.all false=(pgOk p && p.rels.all fun r=>r.body.only false):=rfl
 rw [hp]
 refine aE_ Tryz.func18 ?_
 refine rS_ Tryz.func18 ?_
 simp only [go_sem,seval]
 repeat' (first
  | ((refine br_n (fun hq=>?_) (fun hq=>?_))<;>(try simp only [go_sem,seval,hq]))
  | ((first
   | (refine (iProgramOk_fn _ sd).calls rfl ?_)
   | (refine (positive_fn _).calls rfl ?_))<;>(try simp only [go_sem,seval]))
  | fail)
 all_goals simp [*]
theorem l14Only_fn (pu:Bool):∀(t:Gl),Gives Tryz.prog 107 [.agg t.enc,.bool pu] (.d (.bool (t.only pu))):=by
 intro t
 induction t using Gl.ind' with
 | h t ih =>
  have h0:=Gl.only_eq pu t
  have h1:Gl.onlyK pu t.kind=(decide (t.kind≠10) && !(pu && (decide (3≤t.kind) && decide (t.kind≤6)))):=rfl
  rw [h1] at h0
  clear h1
  generalize t.only pu=N at h0 ⊢
  refine aE_ Tryz.func107 ?_
  refine rS_ Tryz.func107 ?_
  simp only [go_sem,seval]
  refine AW.rng t.goals [1,2,8,9] 10 8 (fun _:Unit=>[]) (fun H _=>H) (fun r _=>r.all (Gl.only pu)=t.goals.all (Gl.only pu)) () rfl (by simp) rfl wk3_ (fun i x r acc hxi hdr hlt hm hinv hnext=>?_) (fun acc hinv=>?_)
  ·have ihx:=ih x (List.mem_of_getElem? hxi)
   rw [a_] at hinv
   refine rS_ Tryz.func107 ?_
   simp only [go_sem,seval,hlt,j5 hxi]
   repeat' (first
    | ((refine br_n (fun hq=>?_) (fun hq=>?_))<;>(try simp only [go_sem,seval,hq]))
    | (simp (disch:=omega) only [j6])
    | (refine hnext () _ ?_ wk3_)
    | ((refine ihx.calls rfl ?_)<;>(try simp only [go_sem,seval]))
    | fail)
   all_goals clear hnext ihx ih
   all_goals first | (rw [h0,←hinv];simp [*];done) | (rw [←hinv];simp [*];done)
  ·rw [b_] at hinv
   rw [←hinv,Bool.true_and] at h0
   clear hinv ih
   refine rS_ Tryz.func107 ?_
   simp only [go_sem,seval]
   repeat' (first
    | ((refine br_n (fun hq=>?_) (fun hq=>?_))<;>(try simp only [go_sem,seval,hq]))
    | ((refine (l01In_fn _ _ _).calls rfl ?_)<;>(try simp only [go_sem,seval]))
    | fail)
   all_goals (rw [h0];clear h0;simp_all)
theorem l14All_fn (pu:Bool) (p:Pg) (hw:wtL p.enc≤1048576):Gives Tryz.prog 63 [.agg p.enc,.bool pu] (.d (.bool (p.all pu))):=by
 have hp:p.all pu=(pgOk p && p.rels.all fun r=>r.body.only pu):=rfl
 rw [hp]
 by_cases hok:pgOk p=true
 ·rw [hok,Bool.true_and]
  refine aE_ Tryz.func63 ?_
  refine rS_ Tryz.func63 ?_
  simp only [go_sem,seval,hok]
  repeat' (first
   | ((refine (sProgramOk_fn _ sd).calls rfl ?_)<;>(try simp only [go_sem,seval,hok]))
   | fail)
  refine AW.rng p.rels [1,11,12] 13 11 (fun _:Unit=>[]) (fun H _=>H) (fun r _=>(r.all fun r=>r.body.only pu)=p.rels.all fun r=>r.body.only pu) () rfl (by simp) rfl wk3_ (fun i x r acc hxi hdr hlt hm hinv hnext=>?_) (fun acc hinv=>?_)
  ·rw [a_] at hinv
   refine rS_ Tryz.func63 ?_
   simp only [go_sem,seval,hlt,j5 hxi]
   repeat' (first
    | ((refine br_n (fun hq=>?_) (fun hq=>?_))<;>(try simp only [go_sem,seval,hq]))
    | (simp (disch:=omega) only [j6])
    | (refine hnext () _ ?_ wk3_)
    | ((refine (l14Only_fn _ _).calls rfl ?_)<;>(try simp only [go_sem,seval]))
    | fail)
   all_goals clear hnext
   all_goals (rw [←hinv];simp_all;done)
  ·rw [b_] at hinv
   refine rS_ Tryz.func63 ?_
   simp only [go_sem,seval]
   rw [←hinv]
 ·simp only [Bool.not_eq_true] at hok
  rw [hok]
  refine aE_ Tryz.func63 ?_
  refine rS_ Tryz.func63 ?_
  simp only [go_sem,seval,hok]
  repeat' (first
   | ((refine (sProgramOk_fn _ sd).calls rfl ?_)<;>(try simp only [go_sem,seval,hok]))
   | fail)
theorem sIsPositive_fn (p:Pg) (hw:wtL p.enc≤1048576):Gives Tryz.prog 29 [.agg p.enc] (.d (.bool (p.all false))):=by
 refine aE_ Tryz.func29 ?_
 refine rS_ Tryz.func29 ?_
 simp only [go_sem,seval]
 repeat' (first
  | ((refine (l14All_fn _ _ sd).calls rfl ?_)<;>(try simp only [go_sem,seval]))
  | fail)
theorem sIsPure_fn (p:Pg) (hw:wtL p.enc≤1048576):Gives Tryz.prog 30 [.agg p.enc] (.d (.bool (p.all true))):=by
 refine aE_ Tryz.func30 ?_
 refine rS_ Tryz.func30 ?_
 simp only [go_sem,seval]
 repeat' (first
  | ((refine (l14All_fn _ _ sd).calls rfl ?_)<;>(try simp only [go_sem,seval]))
  | fail)
end Go.Proofs.YtlajhmoomlgopaaGreat
