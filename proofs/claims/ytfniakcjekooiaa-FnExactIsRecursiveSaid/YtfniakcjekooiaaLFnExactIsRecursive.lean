import Derived.Test.YtfniakcjekooiaaW69
import Derived.Test.YtfniakcjekooiaaFam
namespace Go.Proofs.Ytfniakcjekooiaa
open Go.Abs
set_option maxRecDepth 100000
set_option maxHeartbeats 4000000
set_option linter.unusedSimpArgs false
set_option linter.unusedVariables false
theorem lawFnExactIsRecursive (a0 : Pg) (a1 : List UInt8) (ha0 : Sh Try.prog 24 (a0.enc)) (ha1 : a1.length ≤ maxLen) : Gives Try.prog 3 [.agg a0.enc, .str a1] (.d (.bool true)) := by
 have hsza0 := szc24 _ a0.enc (Nat.lt_succ_self _) ha0
 have htoa0 := fun hb => toc24 _ a0.enc (Nat.lt_succ_self _) hb ha0
 have heqa0 := eqc24 _ a0.enc (Nat.lt_succ_self _) ha0
 refine ACalls.enter (fn := Try.f3) Try.func3 rfl (by show 2 ≤ _; decide) ?_
 refine run_sound Try.func3 mixed 200 _ _ (by kernel_rfl) ?_
 simp only [go_sem, seval]
 refine br_intro (fun hq => ?_) (fun hq => ?_)
 ·simp only [go_sem, seval]
 simp only [decide_eq_false_iff_not, Int.not_lt] at hq
 have hsa1 : a1.length ≤ 1048576 := by omega
 clear hq
 try simp only [go_sem, seval]
 refine (hsza0 _ (by omega) (by omega)).calls rfl ?_
 simp only [go_sem, seval]
 refine br_intro (fun hq => ?_) (fun hq => ?_)
 ·simp only [go_sem, seval]
 simp only [decide_eq_false_iff_not] at hq
 have hwa0 := szr_ge hq
 rw [szr_pos hwa0]
 clear hq
 simp only [go_sem, seval]
 repeat' (first
  | ((first | (refine br_n (fun hq => ?_) (fun hq => ?_)) | (refine idx_intro (fun x hx => have hq := hx; ?_))) <;> (try simp only [go_sem, seval, hq]))
  | (simp (disch := omega) only [wrap_ok])
  | ((first
   | (refine (htoa0 (by omega)).calls rfl ?_)
   | (refine (htoa0 (by omega)).callQ rfl ?_)
   | (refine heqa0.calls rfl ?_)
   | (refine heqa0.callQ rfl ?_)
   | (refine (sIsRecursive_fn _ _ sd).calls rfl ?_)
   | (refine (sIsRecursive_fn _ _ sd).callQ rfl ?_)
   | (refine (iIsRecursive_fn _ _ sd).calls rfl ?_)
   | (refine (iIsRecursive_fn _ _ sd).callQ rfl ?_)
   | (refine ⟨sd, ?_⟩)
   | (refine ⟨by assumption, ?_⟩)) <;> (try simp only [go_sem, seval]))
  | assumption)
 all_goals try clear ih
 all_goals try clear hnext
 all_goals first
  | (simp_all; done)
  | (simp_all; omega)
  | (simp_all; split <;> simp_all <;> omega)
  | (exfalso; omega)
  | assumption
end Go.Proofs.Ytfniakcjekooiaa
