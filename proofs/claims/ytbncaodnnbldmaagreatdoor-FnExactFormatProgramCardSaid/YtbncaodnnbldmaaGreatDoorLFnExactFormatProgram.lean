import Derived.Test.YtbncaodnnbldmaaGreatDoorW59
import Derived.Test.YtbncaodnnbldmaaGreatDoorFam
namespace Go.Proofs.YtbncaodnnbldmaaGreatDoor
open Go.Abs
set_option maxRecDepth 100000
set_option maxHeartbeats 4000000
set_option linter.unusedSimpArgs false
set_option linter.unusedVariables false
theorem lawFnExactFormatProgram (a0 : Pg) (ha0 : Sh Tryz.prog 24 (a0.enc)) : ACalls Tryz.prog 3 [.d (.agg a0.enc)] [tabO] (fun c H' => c = .d (.bool true) ∧ H' = [tabO]) := by
 have hsza0 := szc24 _ a0.enc (Nat.lt_succ_self _) ha0
 have htoa0 := fun hb => toc24 _ a0.enc (Nat.lt_succ_self _) hb ha0
 have heqa0 := eqc24 _ a0.enc (Nat.lt_succ_self _) ha0
 refine ACalls.enter (fn := Tryz.f3) Tryz.func3 rfl (by show 1 ≤ _; decide) ?_
 refine run_sound Tryz.func3 mixed 200 _ _ (by kernel_rfl) ?_
 simp only [go_sem, seval]
 refine (hsza0 _ (by omega) (by omega)).calls rfl ?_
 simp only [go_sem, seval]
 refine br_intro (fun hq => ?_) (fun hq => ?_)
 ·simp only [go_sem, seval]
 simp only [decide_eq_false_iff_not] at hq
 have hwa0 := szr_ge hq
 rw [szr_pos hwa0]
 clear hq
 simp only [go_sem, seval]
 repeat' (first
  | ((first | (refine br_n (fun hq => ?_) (fun hq => ?_)) | (refine idx_intro (fun x hx => have hq := hx; ?_))) <;> (try simp only [go_sem, seval, all_dmap, hq]))
  | (simp (disch := omega) only [wrap_ok])
  | ((first
   | (refine (htoa0 (by omega)).calls rfl ?_)
   | (refine (htoa0 (by omega)).callQ rfl ?_)
   | (refine heqa0.calls rfl ?_)
   | (refine heqa0.callQ rfl ?_)
   | (refine (spec_FormatProgram_fn a0 (by omega)).calls rfl ?_)
   | (refine (impl_FormatProgram_fn a0 (by omega)).frame (X := [_, _]) rfl rfl ?_ <;> (rintro c H' ⟨rfl, rfl⟩ _))
   | (refine ⟨sd, ?_⟩)
   | (refine ⟨by assumption, ?_⟩)) <;> (try simp only [go_sem, seval, all_dmap]))
  | assumption)
 all_goals try clear ih
 all_goals try clear hnext
 all_goals first
  | (simp_all; done)
  | (simp_all; omega)
  | (simp_all; split <;> simp_all <;> omega)
  | (exfalso; omega)
  | assumption
end Go.Proofs.YtbncaodnnbldmaaGreatDoor
