import Derived.Test.YtockpdkdnlkkfaaGreatW113
import Derived.Test.YtockpdkdnlkkfaaGreatFam
namespace Go.Proofs.YtockpdkdnlkkfaaGreat
open Go.Abs
set_option maxRecDepth 100000
set_option maxHeartbeats 4000000
set_option linter.unusedSimpArgs false
set_option linter.unusedVariables false
theorem lawFnExactIsModel (a0:Pg) (a1:List Tm) (a2:List Fc) (ha0:Sh Tryz.prog 24 (a0.enc)) (ha1:Sh Tryz.prog 25 [.sl (a1.map Tm.enc)]) (ha2:Sh Tryz.prog 26 [.sl (a2.map Fc.enc)]):Gives Tryz.prog 3 [.agg a0.enc,.sl (a1.map Tm.enc),.sl (a2.map Fc.enc)] (.d (.bool true)):=by
 have hsza0:=szc24 _ a0.enc (Nat.lt_succ_self _) ha0
 have htoa0:=fun hb=>toc24 _ a0.enc (Nat.lt_succ_self _) hb ha0
 have heqa0:=eqc24 _ a0.enc (Nat.lt_succ_self _) ha0
 have hesa1:=shS (by kernel_rfl:leaves Tryz.prog 6 25=some [.sl 65]) ha1
 have hsza1:=szs25 _ hesa1.1 hesa1.2
 have htoa1:=fun hb=>tos25 _ hb hesa1.2
 have heqa1:=eqs25 _ hesa1.1 hesa1.2
 have hesa2:=shS (by kernel_rfl:leaves Tryz.prog 6 26=some [.sl 44]) ha2
 have hsza2:=szs26 _ hesa2.1 hesa2.2
 have htoa2:=fun hb=>tos26 _ hb hesa2.2
 have heqa2:=eqs26 _ hesa2.1 hesa2.2
 refine ACalls.enter (fn:=Tryz.f3) Tryz.func3 rfl (by show 3≤_;decide) ?_
 refine run_sound Tryz.func3 mixed 200 _ _ (by kernel_rfl) ?_
 simp only [go_sem,seval]
 refine (hsza0 _ (by omega) (by omega)).calls rfl ?_
 simp only [go_sem,seval]
 refine br_intro (fun hq=>?_) (fun hq=>?_)
 ·simp only [go_sem,seval]
 simp only [decide_eq_false_iff_not] at hq
 have hwa0:=szr_ge hq
 rw [szr_pos hwa0]
 clear hq
 simp only [go_sem,seval]
 refine (hsza1 _ (by omega) (by omega)).calls rfl ?_
 simp only [go_sem,seval]
 refine br_intro (fun hq=>?_) (fun hq=>?_)
 ·simp only [go_sem,seval]
 simp only [decide_eq_false_iff_not] at hq
 have hwa1:=szr_ge hq
 rw [szr_pos hwa1]
 clear hq
 simp only [go_sem,seval]
 refine (hsza2 _ (by omega) (by omega)).calls rfl ?_
 simp only [go_sem,seval]
 refine br_intro (fun hq=>?_) (fun hq=>?_)
 ·simp only [go_sem,seval]
 simp only [decide_eq_false_iff_not] at hq
 have hwa2:=szr_ge hq
 rw [szr_pos hwa2]
 clear hq
 simp only [go_sem,seval]
 repeat' (first
  | ((first
   | (refine (htoa0 (by omega)).calls rfl ?_)
   | (refine (htoa0 (by omega)).callQ rfl ?_)
   | (refine heqa0.callQ rfl ?_)
   | (refine (htoa1 (by omega)).calls rfl ?_)
   | (refine heqa1.calls rfl ?_)
   | (refine (htoa2 (by omega)).calls rfl ?_)
   | (refine heqa2.calls rfl ?_)
   | (refine (sIsModel_L _ _ _ sd sd sd).calls rfl ?_)
   | (refine (iIsModel_L _ _ _ sd sd sd).calls rfl ?_))<;>(try simp only [go_sem,seval]))
  | fail)
 all_goals try clear ih
 all_goals try clear hnext
 all_goals first
  | (simp_all;done)
  | (simp_all;omega)
  | (simp_all;split<;>simp_all<;>omega)
  | (exfalso;omega)
  | assumption
end Go.Proofs.YtockpdkdnlkkfaaGreat
