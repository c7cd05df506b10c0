import Derived.Test.YtjbidjeijodmnaaGreatW1
namespace Go.Proofs.YtjbidjeijodmnaaGreat
open Go.Abs
set_option maxRecDepth 100000
set_option maxHeartbeats 4000000
set_option linter.unusedSimpArgs false
set_option linter.unusedVariables false
theorem l02Shape_fn:∀(t:Tm),wtL t.enc≤9000000→Gives Tryz.prog 100 [.agg t.enc] (.d (.bool (t.v?.isSome))):=by
 intro t
 induction t using Tm.ind' with
 | h t ih =>
  intro hw
  have hn:=name_wt t
  have bd:=shape_bad t
  have lf:=shape_leaf t
  have pr:=shape_pair t
  by_cases h2:t.args.length=2
  ·obtain ⟨a,b,hab⟩:∃a b,t.args=[a,b]:=by
    match h:t.args,h2 with
    | [a,b],_=>exact ⟨a,b,rfl⟩
   have ia:=ih a (by simp [hab])
   have ib:=ih b (by simp [hab])
   have wa:=wt_args (t:=t) (x:=a) (by simp [hab])
   have wb:=wt_args (t:=t) (x:=b) (by simp [hab])
   generalize t.v?.isSome=N at bd lf pr ⊢
   refine ACalls.enter (fn:=Tryz.f100) Tryz.func100 rfl (by show 1≤_;decide) ?_
   refine run_sound Tryz.func100 mixed 200 _ _ (by kernel_rfl) ?_
   simp only [go_sem,seval]
   repeat' (first
    | ((refine br_n (fun hq=>?_) (fun hq=>?_))<;>(try simp only [go_sem,seval,hab,hq]))
    | ((first
     | (refine (ia (by omega)).calls rfl ?_)
     | (refine (ib (by omega)).calls rfl ?_))<;>(try simp only [go_sem,seval,hab]))
    | fail)
   all_goals clear ia ib
   all_goals try clear ih
   all_goals try clear hnext
   all_goals first
    | (simp_all;done)
    | (simp_all;omega)
    | (simp_all;split<;>simp_all<;>omega)
    | (exfalso;omega)
    | assumption
  ·generalize t.v?.isSome=N at bd lf pr ⊢
   refine ACalls.enter (fn:=Tryz.f100) Tryz.func100 rfl (by show 1≤_;decide) ?_
   refine run_sound Tryz.func100 mixed 200 _ _ (by kernel_rfl) ?_
   simp only [go_sem,seval]
   repeat' (first
    | ((first | (refine br_n (fun hq=>?_) (fun hq=>?_)) | (refine idx_intro (fun x hx=>have hq:=hx;?_)))<;>(try simp only [go_sem,seval,hq]))
    | ((first
     | (refine (l01In_fn _ _ _).calls rfl ?_)
     | (refine (sIsName_fn _ sd).calls rfl ?_))<;>(try simp only [go_sem,seval]))
    | fail)
   all_goals try clear ih
   all_goals try clear hnext
   all_goals first
    | (simp_all;done)
    | (simp_all;omega)
    | (simp_all;split<;>simp_all<;>omega)
    | (exfalso;omega)
    | assumption
theorem sTermOk_fn (t:Tm) (hw:wtL t.enc≤9000000):Gives Tryz.prog 109 [.agg t.enc] (.d (.bool (tmOk t))):=by
 have hc:=count_ok t
 generalize tmOk t=N at hc ⊢
 refine ACalls.enter (fn:=Tryz.f109) Tryz.func109 rfl (by show 1≤_;decide) ?_
 refine run_sound Tryz.func109 mixed 200 _ _ (by kernel_rfl) ?_
 simp only [go_sem,seval]
 repeat' (first
  | ((refine br_n (fun hq=>?_) (fun hq=>?_))<;>(try simp only [go_sem,seval,hq]))
  | ((first
   | (refine (l02Shape_fn _ sd).calls rfl ?_)
   | (refine (l02Count_fn _ _ sd sd sd).calls rfl ?_))<;>(try simp only [go_sem,seval]))
  | fail)
 all_goals first
  | (rw [←hc,decide_eq_false (by omega)];rfl)
  | (simp_all;done)
theorem l02AllOk_fn (l:List Tm) (hl:∀t,t∈l→wtL t.enc≤9000000):Gives Tryz.prog 101 [.sl (l.map Tm.enc)] (.d (.bool (l.all tmOk))):=by
 refine ACalls.enter (fn:=Tryz.f101) Tryz.func101 rfl (by show 1≤_;decide) ?_
 refine run_sound Tryz.func101 mixed 200 _ _ (by kernel_rfl) ?_
 simp only [go_sem,seval]
 refine AW.rng l [5,6] 7 5 (fun _:Unit=>[]) (fun H _=>H) (fun r _=>r.all tmOk=l.all tmOk) () rfl (by simp) rfl (by refine ⟨by simp [mkS],by simp [mkS],by simp [mkS,O.refsLt,C.refsLt,C.refsLt1],?_⟩;simp [mkS,Abs.get,C.refsLtT,C.refsLt,C.refsLt1]) (fun i x r acc hxi hdr hlt hm hinv hnext=>?_) (fun acc hinv=>?_)
 ·have hw:=hl x (List.mem_of_getElem? hxi)
  refine run_sound Tryz.func101 mixed 200 _ _ (by kernel_rfl) ?_
  simp only [go_sem,seval,hlt,idx_of hxi]
  repeat' (first
   | ((refine br_n (fun hq=>?_) (fun hq=>?_))<;>(try simp only [go_sem,seval,hq]))
   | (simp (disch:=omega) only [wrap_ok])
   | (refine hnext () _ ?_ (by refine ⟨by simp [mkS],by simp [mkS],by simp [mkS,O.refsLt,C.refsLt,C.refsLt1],?_⟩;simp [mkS,Abs.get,C.refsLtT,C.refsLt,C.refsLt1]))
   | ((refine (sTermOk_fn _ sd).calls rfl ?_)<;>(try simp only [go_sem,seval]))
   | fail)
  all_goals try clear ih
  all_goals try clear hnext
  all_goals first
   | (simp_all;done)
   | (simp_all;omega)
   | (simp_all;split<;>simp_all<;>omega)
   | (exfalso;omega)
   | assumption
 ·refine run_sound Tryz.func101 mixed 200 _ _ (by kernel_rfl) ?_
  simp only [go_sem,seval]
  simp_all
end Go.Proofs.YtjbidjeijodmnaaGreat
