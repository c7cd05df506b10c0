import Derived.Test.YtbncaodnnbldmaaDoorW56
namespace Go.Proofs.YtbncaodnnbldmaaDoor
open Go.Abs
set_option maxRecDepth 100000
set_option maxHeartbeats 4000000
set_option linter.unusedSimpArgs false
set_option linter.unusedVariables false
theorem spec_FormatGoal_fn (g : Gl) (hw : wtL g.enc ≤ 1048576) : Gives Tryd.prog 6 [.agg g.enc] (.d (.str (if glOk g = true then g.txt else []))) := by
 by_cases hg : glOk g = true
 ·have hs := glOk_shape hg
  have hc : g.cnt ≤ 80 := by unfold glOk at hg; simp at hg; exact hg.1
  rw [if_pos hg]
  refine ACalls.enter (fn := Tryd.f6) Tryd.func6 rfl (by show 1 ≤ _; decide) ?_
  refine run_sound Tryd.func6 mixed 200 _ _ (by kernel_rfl) ?_
  simp only [go_sem, seval, hg]
  repeat' (first
   | ((first | (refine br_n (fun hq => ?_) (fun hq => ?_)) | (refine idx_intro (fun x hx => have hq := hx; ?_))) <;> (try simp only [go_sem, seval, hg, hq]))
   | (simp (disch := omega) only [wrap_ok])
   | ((first
    | (refine (l15Format_fn g hs hc hw).calls rfl ?_)
    | (refine (sGoalOk_fn _ sd).calls rfl ?_)
    | (refine ⟨sd, ?_⟩)
    | (refine ⟨by assumption, ?_⟩)) <;> (try simp only [go_sem, seval, hg]))
   | assumption)
 ·rw [if_neg hg]
  simp only [Bool.not_eq_true] at hg
  refine ACalls.enter (fn := Tryd.f6) Tryd.func6 rfl (by show 1 ≤ _; decide) ?_
  refine run_sound Tryd.func6 mixed 200 _ _ (by kernel_rfl) ?_
  simp only [go_sem, seval, hg]
  repeat' (first
   | ((first | (refine br_n (fun hq => ?_) (fun hq => ?_)) | (refine idx_intro (fun x hx => have hq := hx; ?_))) <;> (try simp only [go_sem, seval, hg, hq]))
   | (simp (disch := omega) only [wrap_ok])
   | ((first
    | (refine (sGoalOk_fn _ sd).calls rfl ?_)
    | (refine ⟨sd, ?_⟩)
    | (refine ⟨by assumption, ?_⟩)) <;> (try simp only [go_sem, seval, hg]))
   | assumption)
end Go.Proofs.YtbncaodnnbldmaaDoor
