import Derived.Test.YtbncaodnnbldmaaDoorW58
import Derived.Test.YtbncaodnnbldmaaDoorFam
namespace Go.Proofs.YtbncaodnnbldmaaDoor
open Go.Abs
set_option maxRecDepth 100000
set_option maxHeartbeats 4000000
set_option linter.unusedSimpArgs false
set_option linter.unusedVariables false
theorem lawFnExactFormatFact (a0 : Fc) (ha0 : Sh Tryd.prog 36 (a0.enc)) : ACalls Tryd.prog 4 [.d (.agg a0.enc)] [tabO] (fun c H' => c = .d (.bool true) ∧ H' = [tabO]) := by
 have hsza0 := szc36 _ a0.enc (Nat.lt_succ_self _) ha0
 have htoa0 := fun hb => toc36 _ a0.enc (Nat.lt_succ_self _) hb ha0
 have heqa0 := eqc36 _ a0.enc (Nat.lt_succ_self _) ha0
 refine ACalls.enter (fn := Tryd.f4) Tryd.func4 rfl (by show 1 ≤ _; decide) ?_
 refine run_sound Tryd.func4 mixed 200 _ _ (by kernel_rfl) ?_
 simp only [go_sem, seval]
 refine (hsza0 _ (by omega) (by omega)).calls rfl ?_
 simp only [go_sem, seval]
 refine br_intro (fun hq => ?_) (fun hq => ?_)
 ·simp only [go_sem, seval]
 simp only [decide_eq_false_iff_not] at hq
 have hwa0 := szr_ge hq
 rw [szr_pos hwa0]
 clear hq
 simp only [go_sem, seval]
 repeat' (first
  | ((first | (refine br_n (fun hq => ?_) (fun hq => ?_)) | (refine idx_intro (fun x hx => have hq := hx; ?_))) <;> (try simp only [go_sem, seval, all_dmap, hq]))
  | (simp (disch := omega) only [wrap_ok])
  | ((first
   | (refine (htoa0 (by omega)).calls rfl ?_)
   | (refine (htoa0 (by omega)).callQ rfl ?_)
   | (refine heqa0.calls rfl ?_)
   | (refine heqa0.callQ rfl ?_)
   | (refine (spec_FormatFact_fn a0 (by omega)).calls rfl ?_)
   | (refine (impl_FormatFact_fn a0 (by omega)).frame (X := [_, _]) rfl rfl ?_ <;> (rintro c H' ⟨rfl, rfl⟩ _))
   | (refine ⟨sd, ?_⟩)
   | (refine ⟨by assumption, ?_⟩)) <;> (try simp only [go_sem, seval, all_dmap]))
  | assumption)
 all_goals try clear ih
 all_goals try clear hnext
 all_goals first
  | (simp_all; done)
  | (simp_all; omega)
  | (simp_all; split <;> simp_all <;> omega)
  | (exfalso; omega)
  | assumption
end Go.Proofs.YtbncaodnnbldmaaDoor
