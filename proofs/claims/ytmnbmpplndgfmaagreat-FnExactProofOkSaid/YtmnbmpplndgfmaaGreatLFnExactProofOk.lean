/- The law FnExactProofOk: both texts answer alike on every input. -/
import Derived.Test.YtmnbmpplndgfmaaGreatW39
import Derived.Test.YtmnbmpplndgfmaaGreatW41
import Derived.Test.YtmnbmpplndgfmaaGreatFam
namespace Go.Proofs.YtmnbmpplndgfmaaGreat
open Go.Abs
set_option maxRecDepth 100000
set_option maxHeartbeats 4000000
set_option linter.unusedSimpArgs false
set_option linter.unusedVariables false

theorem lawFnExactProofOk (a0 : Pg) (a1 : Pf) (ha0 : Sh Tryz.prog 24 (a0.enc)) (ha1 : Sh Tryz.prog 53 (a1.enc)) : Gives Tryz.prog 6 [.agg a0.enc, .agg a1.enc] (.d (.bool true)) := by
  have hsza0 := szc24 _ a0.enc (Nat.lt_succ_self _) ha0
  have htoa0 := fun hb => toc24 _ a0.enc (Nat.lt_succ_self _) hb ha0
  have heqa0 := eqc24 _ a0.enc (Nat.lt_succ_self _) ha0
  have hsza1 := szc53 _ a1.enc (Nat.lt_succ_self _) ha1
  have htoa1 := fun hb => toc53 _ a1.enc (Nat.lt_succ_self _) hb ha1
  have heqa1 := eqc53 _ a1.enc (Nat.lt_succ_self _) ha1
  refine ACalls.enter (fn := Tryz.f6) Tryz.func6 rfl (by show 2 ≤ _; decide) ?_
  refine run_sound Tryz.func6 mixed 200 _ _ (by kernel_rfl) ?_
  simp only [go_sem, seval]
  refine (hsza0 _ (by omega) (by omega)).calls rfl ?_
  simp only [go_sem, seval]
  refine br_intro (fun hq => ?_) (fun hq => ?_)
  · simp only [go_sem, seval]
  simp only [decide_eq_false_iff_not] at hq
  have hwa0 := szr_ge hq
  rw [szr_pos hwa0]
  clear hq
  simp only [go_sem, seval]
  refine (hsza1 _ (by omega) (by omega)).calls rfl ?_
  simp only [go_sem, seval]
  refine br_intro (fun hq => ?_) (fun hq => ?_)
  · simp only [go_sem, seval]
  simp only [decide_eq_false_iff_not] at hq
  have hwa1 := szr_ge hq
  rw [szr_pos hwa1]
  clear hq
  simp only [go_sem, seval]
  repeat' (first
    | ((first | (refine br_intro (fun hq => ?_) (fun hq => ?_) <;> (try simp only [decide_eq_true_eq, decide_eq_false_iff_not, bne_iff_ne, beq_iff_eq, beq_eq_false_iff_ne, bne_eq_false_iff_eq, Bool.not_eq_true, Bool.not_eq_false, ne_eq, Decidable.not_not, Int.not_lt, Int.not_le, Bool.not_eq_eq_eq_not, Bool.not_true, Bool.not_false, gt_iff_lt, ge_iff_le, Bool.and_eq_true, Bool.or_eq_true, Bool.or_eq_false_iff, Bool.and_eq_false_imp] at hq)) | (refine idx_intro (fun x hx => have hq := hx; ?_))) <;> (try simp only [go_sem, seval, hq]))
    | (simp (disch := omega) only [wrap_ok])
    | ((first
      | (refine (htoa0 (by omega)).calls rfl ?_)
      | (refine (htoa0 (by omega)).callQ rfl ?_)
      | (refine heqa0.calls rfl ?_)
      | (refine heqa0.callQ rfl ?_)
      | (refine (htoa1 (by omega)).calls rfl ?_)
      | (refine (htoa1 (by omega)).callQ rfl ?_)
      | (refine heqa1.calls rfl ?_)
      | (refine heqa1.callQ rfl ?_)
      | (refine (sProofOk_fn _ _ (by first | omega | assumption | (simp; done) | (simp; omega)) (by first | omega | assumption | (simp; done) | (simp; omega))).calls rfl ?_)
      | (refine (sProofOk_fn _ _ (by first | omega | assumption | (simp; done) | (simp; omega)) (by first | omega | assumption | (simp; done) | (simp; omega))).callQ rfl ?_)
      | (refine (iProofOk_fn _ _ (by first | omega | assumption | (simp; done) | (simp; omega)) (by first | omega | assumption | (simp; done) | (simp; omega))).calls rfl ?_)
      | (refine (iProofOk_fn _ _ (by first | omega | assumption | (simp; done) | (simp; omega)) (by first | omega | assumption | (simp; done) | (simp; omega))).callQ rfl ?_)
      | (refine ⟨by first | omega | assumption | (simp; done) | (simp; omega), ?_⟩)) <;> (try simp only [go_sem, seval]))
    | assumption)
  all_goals try clear ih
  all_goals try clear hnext
  all_goals first
    | (simp_all; done)
    | (simp_all; omega)
    | (simp_all; split <;> simp_all <;> omega)
    | (exfalso; omega)
    | assumption
end Go.Proofs.YtmnbmpplndgfmaaGreat

