import Derived.Test.YtjbidjeijodmnaaGreatW4
import Derived.Test.YtjbidjeijodmnaaGreatA7
import Derived.Test.YtjbidjeijodmnaaGreatP2
import Derived.Test.YtjbidjeijodmnaaGreatW13
namespace Go.Proofs.YtjbidjeijodmnaaGreat
open Go.Abs
set_option maxRecDepth 100000
set_option maxHeartbeats 4000000
set_option linter.unusedSimpArgs false
set_option linter.unusedVariables false
end Go.Proofs.YtjbidjeijodmnaaGreat
namespace Go.Proofs.YtjbidjeijodmnaaGreat
open Go.Abs
set_option maxRecDepth 100000
set_option maxHeartbeats 4000000
set_option linter.unusedSimpArgs false
set_option linter.unusedVariables false
end Go.Proofs.YtjbidjeijodmnaaGreat
namespace Go.Proofs.YtjbidjeijodmnaaGreat
open Go.Abs
set_option maxRecDepth 100000
set_option maxHeartbeats 4000000
set_option linter.unusedSimpArgs false
set_option linter.unusedVariables false
theorem iCallsOf_T (t:Gl) (neg:Bool) (hw:wtL t.enc≤1048576):ACalls Tryz.prog 9 [.d (.agg t.enc),.d (.bool neg)] [.hole] (fun c H'=>c=.own 0 1∧∃e B,H'=[.tree 1 1 e (strD (if glOk t then t.callsI neg false else [])) B none]):=by
 by_cases hok:glOk t=true
 ·have e1:=callsOf_T t hw neg false
  rw [if_pos hok]
  refine ACalls.enter (fn:=Tryz.f9) Tryz.func9 rfl (by show 2≤_;decide) ?_
  refine run_sound Tryz.func9 mixed 200 _ _ (by kernel_rfl) ?_
  simp only [go_sem,seval,hok]
  repeat' (first
   | (exact ⟨_,_,rfl⟩)
   | ((first
    | (refine ACalls.fresh (ds:=[.agg t.enc,.bool neg,.bool false]) (m:=1) e1 [0] rfl rfl (by simp) (by simp) ?_<;>(rintro c H' ⟨rfl,e,B1,rfl⟩ _;refine ⟨rfl,rfl,?_⟩))
    | (refine (iGoalOk_fn _ sd).calls rfl ?_))<;>(try simp only [go_sem,seval,hok]))
   | fail)
 ·simp only [Bool.not_eq_true] at hok
  rw [if_neg (by simp [hok])]
  refine ACalls.enter (fn:=Tryz.f9) Tryz.func9 rfl (by show 2≤_;decide) ?_
  refine run_sound Tryz.func9 mixed 8 _ _ (by kernel_rfl) ?_
  simp only [go_sem,seval,run.eq_1,hok]
  repeat' (first
   | ((refine (iGoalOk_fn _ sd).calls rfl ?_)<;>(try simp only [go_sem,seval,hok,run.eq_1]))
   | fail)
  refine AW.adoptT 4 1 9 (by decide) rfl ?_
  refine AW.place 4 2 0 rfl rfl rfl (by decide) ?_
  refine run_sound Tryz.func9 mixed 200 _ _ (by kernel_rfl) ?_
  simp only [go_sem,seval]
  all_goals exact ⟨_,_,rfl⟩
end Go.Proofs.YtjbidjeijodmnaaGreat
