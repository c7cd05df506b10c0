import Derived.Test.YtbncaodnnbldmaaGreatDoorW60
import Derived.Test.YtbncaodnnbldmaaGreatDoorFam
namespace Go.Proofs.YtbncaodnnbldmaaGreatDoor
open Go.Abs
set_option maxRecDepth 100000
set_option maxHeartbeats 4000000
set_option linter.unusedSimpArgs false
set_option linter.unusedVariables false
theorem lawFnExactFormatProof (a0 : Pg) (a1 : Pf) (ha0 : Sh Tryz.prog 24 (a0.enc)) (ha1 : Sh Tryz.prog 36 (a1.enc)) : ACalls Tryz.prog 4 [.d (.agg a0.enc), .d (.agg a1.enc)] [tabO] (fun c H' => c = .d (.bool true) ∧ H' = [tabO]) := by
 have hsza0 := szc24 _ a0.enc (Nat.lt_succ_self _) ha0
 have htoa0 := fun hb => toc24 _ a0.enc (Nat.lt_succ_self _) hb ha0
 have heqa0 := eqc24 _ a0.enc (Nat.lt_succ_self _) ha0
 have hsza1 := szc36 _ a1.enc (Nat.lt_succ_self _) ha1
 have htoa1 := fun hb => toc36 _ a1.enc (Nat.lt_succ_self _) hb ha1
 have heqa1 := eqc36 _ a1.enc (Nat.lt_succ_self _) ha1
 refine ACalls.enter (fn := Tryz.f4) Tryz.func4 rfl (by show 2 ≤ _; decide) ?_
 refine run_sound Tryz.func4 mixed 200 _ _ (by kernel_rfl) ?_
 simp only [go_sem, seval]
 refine (hsza0 _ (by omega) (by omega)).calls rfl ?_
 simp only [go_sem, seval]
 refine br_intro (fun hq => ?_) (fun hq => ?_)
 ·simp only [go_sem, seval]
 simp only [decide_eq_false_iff_not] at hq
 have hwa0 := szr_ge hq
 rw [szr_pos hwa0]
 clear hq
 simp only [go_sem, seval]
 refine (hsza1 _ (by omega) (by omega)).calls rfl ?_
 simp only [go_sem, seval]
 refine br_intro (fun hq => ?_) (fun hq => ?_)
 ·simp only [go_sem, seval]
 simp only [decide_eq_false_iff_not] at hq
 have hwa1 := szr_ge hq
 rw [szr_pos hwa1]
 clear hq
 simp only [go_sem, seval]
 repeat' (first
  | ((first | (refine br_n (fun hq => ?_) (fun hq => ?_)) | (refine idx_intro (fun x hx => have hq := hx; ?_))) <;> (try simp only [go_sem, seval, all_dmap, hq]))
  | (simp (disch := omega) only [wrap_ok])
  | ((first
   | (refine (htoa0 (by omega)).calls rfl ?_)
   | (refine (htoa0 (by omega)).callQ rfl ?_)
   | (refine heqa0.calls rfl ?_)
   | (refine heqa0.callQ rfl ?_)
   | (refine (htoa1 (by omega)).calls rfl ?_)
   | (refine (htoa1 (by omega)).callQ rfl ?_)
   | (refine heqa1.calls rfl ?_)
   | (refine heqa1.callQ rfl ?_)
   | (refine (spec_FormatProof_fn a0 a1 (by omega) (by omega)).callQ rfl ?_)
   | (refine tabQ (impl_FormatProof_fn a0 a1 (by omega) (by omega)) (X := [_, _]) rfl ?_)
   | (refine tabQ (impl_FormatProof_fn a0 a1 (by omega) (by omega)) (X := [_, _, _]) rfl ?_)
   | (refine tabQ (impl_FormatProof_fn a0 a1 (by omega) (by omega)) (X := [_, _, _, _]) rfl ?_)
   | (refine (impl_FormatProof_fn a0 a1 (by omega) (by omega)).frame (X := [_, _, _, _]) rfl rfl ?_ <;> (rintro c H' ⟨rfl, rfl⟩ _))
   | (refine ⟨sd, ?_⟩)
   | (refine ⟨by assumption, ?_⟩)) <;> (try simp only [go_sem, seval, all_dmap]))
  | assumption)
 all_goals try clear ih
 all_goals try clear hnext
 all_goals first
  | (simp_all; done)
  | (simp_all; omega)
  | (simp_all; split <;> simp_all <;> omega)
  | (exfalso; omega)
  | assumption
end Go.Proofs.YtbncaodnnbldmaaGreatDoor
