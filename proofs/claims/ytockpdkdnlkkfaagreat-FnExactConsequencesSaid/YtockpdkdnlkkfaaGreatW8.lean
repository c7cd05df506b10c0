import Derived.Test.YtockpdkdnlkkfaaGreatW7
namespace Go.Proofs.YtockpdkdnlkkfaaGreat
open Go.Abs
set_option maxRecDepth 100000
set_option maxHeartbeats 8000000
set_option linter.unusedSimpArgs false
set_option linter.unusedVariables false
theorem sFindRel_fn (p:Pg) (s:List UInt8) (hw:wtL p.enc≤1048576):Gives Tryz.prog 75 [.agg p.enc,.str s] (.d (.int .i64 (if pgOk p then p.find s else -1))):=by
 refine ACalls.enter (fn:=Tryz.f75) Tryz.func75 rfl (by show 2≤_;decide) ?_
 refine run_sound Tryz.func75 mixed 200 _ _ (by kernel_rfl) ?_
 simp only [go_sem,seval]
 repeat' (first
  | ((refine br_n (fun hq=>?_) (fun hq=>?_))<;>(try simp only [go_sem,seval,hq]))
  | ((first
   | (refine (sProgramOk_fn _ sd).calls rfl ?_)
   | (refine (l14Find_fn _ _).calls rfl ?_))<;>(try simp only [go_sem,seval]))
  | fail)
 all_goals simp [*]
end Go.Proofs.YtockpdkdnlkkfaaGreat
