import Derived.Test.YtbncaodnnbldmaaDoorW57
import Derived.Test.YtbncaodnnbldmaaDoorW5
namespace Go.Proofs.YtbncaodnnbldmaaDoor
open Go.Abs
set_option maxRecDepth 100000
set_option maxHeartbeats 4000000
set_option linter.unusedSimpArgs false
set_option linter.unusedVariables false
theorem sGoalVars_fn (t : Gl) (hw : wtL t.enc ≤ 1048576) : Gives Tryd.prog 25 [.agg t.enc] (.d (.sl (intsD (if glOk t then ascOf t.vars else [])))) := by
 have hvw := Gl.vars_wt t
 have hasc : Asc [] := by simp [Asc]
 have hnil : (t.vars.foldl insA []) = ascOf t.vars := rfl
 refine ACalls.enter (fn := Tryd.f25) Tryd.func25 rfl (by show 1 ≤ _; decide) ?_
 refine run_sound Tryd.func25 mixed 200 _ _ (by kernel_rfl) ?_
 simp only [go_sem, seval]
 repeat' (first
  | ((first | (refine br_n (fun hq => ?_) (fun hq => ?_)) | (refine idx_intro (fun x hx => have hq := hx; ?_))) <;> (try simp only [go_sem, seval, hnil, hq]))
  | (simp (disch := omega) only [wrap_ok])
  | ((first
   | (refine (l13Vars_fn t [] hasc (by simp; omega)).calls rfl ?_)
   | (refine (sGoalOk_fn _ sd).calls rfl ?_)
   | (refine (l13Vars_fn _ _ (by assumption) sd).calls rfl ?_)
   | (refine ⟨sd, ?_⟩)
   | (refine ⟨by assumption, ?_⟩)) <;> (try simp only [go_sem, seval, hnil]))
  | assumption)
 all_goals (simp [*]; try rfl)
theorem spec_FormatFact_fn (f : Fc) (hw : wtL f.enc ≤ 1048576) : Gives Tryd.prog 11 [.agg f.enc] (.d (.str (Fc.txt f))) := by
 have hv := sGoalVars_fn f.gl (by rw [gl_wt]; exact hw)
 have hf := spec_FormatGoal_fn f.gl (by rw [gl_wt]; exact hw)
 have ha := asc_nil f.gl.vars
 have ht : Fc.txt f = if glOk f.gl = true ∧ f.gl.vars = [] then f.gl.txt else [] := rfl
 rw [gl_enc] at hv hf
 generalize Fc.txt f = N at ht ⊢
 by_cases hg : glOk f.gl = true
 ·rw [if_pos hg] at hv hf
  by_cases h0 : f.gl.vars = []
  ·rw [if_pos ⟨hg, h0⟩] at ht
   rw [ha.2 h0] at hv
   subst ht
   refine ACalls.enter (fn := Tryd.f11) Tryd.func11 rfl (by show 1 ≤ _; decide) ?_
   refine run_sound Tryd.func11 mixed 200 _ _ (by kernel_rfl) ?_
   simp only [go_sem, seval, Fc.enc_eq]
   repeat' (first
    | ((first | (refine br_n (fun hq => ?_) (fun hq => ?_)) | (refine idx_intro (fun x hx => have hq := hx; ?_))) <;> (try simp only [go_sem, seval, Fc.enc_eq, hq]))
    | (simp (disch := omega) only [wrap_ok])
    | ((first
     | (refine hv.calls rfl ?_)
     | (refine hf.calls rfl ?_)
     | (refine ⟨sd, ?_⟩)
     | (refine ⟨by assumption, ?_⟩)) <;> (try simp only [go_sem, seval, Fc.enc_eq]))
    | assumption)
  ·rw [if_neg (fun h => h0 h.2)] at ht
   have hl : 0 < (ascOf f.gl.vars).length := List.length_pos_iff.2 (fun e => h0 (ha.1 e))
   subst ht
   refine ACalls.enter (fn := Tryd.f11) Tryd.func11 rfl (by show 1 ≤ _; decide) ?_
   refine run_sound Tryd.func11 mixed 200 _ _ (by kernel_rfl) ?_
   simp only [go_sem, seval, Fc.enc_eq]
   repeat' (first
    | ((first | (refine br_n (fun hq => ?_) (fun hq => ?_)) | (refine idx_intro (fun x hx => have hq := hx; ?_))) <;> (try simp only [go_sem, seval, Fc.enc_eq, intsD_len, hq]))
    | (simp (disch := omega) only [wrap_ok])
    | ((first
     | (refine hv.calls rfl ?_)
     | (refine ⟨sd, ?_⟩)
     | (refine ⟨by assumption, ?_⟩)) <;> (try simp only [go_sem, seval, Fc.enc_eq, intsD_len]))
    | assumption)
   all_goals (exfalso; omega)
 ·rw [if_neg hg] at hv hf
  rw [if_neg (fun h => hg h.1)] at ht
  subst ht
  refine ACalls.enter (fn := Tryd.f11) Tryd.func11 rfl (by show 1 ≤ _; decide) ?_
  refine run_sound Tryd.func11 mixed 200 _ _ (by kernel_rfl) ?_
  simp only [go_sem, seval, Fc.enc_eq]
  repeat' (first
   | ((first | (refine br_n (fun hq => ?_) (fun hq => ?_)) | (refine idx_intro (fun x hx => have hq := hx; ?_))) <;> (try simp only [go_sem, seval, Fc.enc_eq, hq]))
   | (simp (disch := omega) only [wrap_ok])
   | ((first
    | (refine hv.calls rfl ?_)
    | (refine hf.calls rfl ?_)
    | (refine ⟨sd, ?_⟩)
    | (refine ⟨by assumption, ?_⟩)) <;> (try simp only [go_sem, seval, Fc.enc_eq]))
   | assumption)
theorem impl_FormatFact_fn (f : Fc) (hw : wtL f.enc ≤ 1048576) : ACalls Tryd.prog 13 [.d (.agg f.enc)] [tabO] (fun c H' => c = .d (.str (Fc.txt f)) ∧ H' = [tabO]) := by
 have ha := asc_nil f.gl.vars
 have ht : Fc.txt f = if glOk f.gl = true ∧ f.gl.vars = [] then f.gl.txt else [] := rfl
 have hw' : wtL f.gl.enc ≤ 1048576 := by rw [gl_wt]; exact hw
 have ho := iGoalOk_fn f.gl hw'
 rw [gl_enc] at ho
 generalize Fc.txt f = N at ht ⊢
 by_cases hg : glOk f.gl = true
 ·rw [hg] at ho
  have hv := goalVars_fn f.gl (glOk_shape hg) hw'
  have hc : f.gl.cnt ≤ 80 := by unfold glOk at hg; simp at hg; exact hg.1
  have hx := goalText_fn f.gl (glOk_shape hg) hc hw'
  rw [gl_enc] at hv hx
  by_cases h0 : f.gl.vars = []
  ·rw [if_pos ⟨hg, h0⟩] at ht
   rw [ha.2 h0] at hv
   subst ht
   refine ACalls.enter (fn := Tryd.f13) Tryd.func13 rfl (by show 1 ≤ _; decide) ?_
   refine run_sound Tryd.func13 mixed 200 _ _ (by kernel_rfl) ?_
   simp only [go_sem, seval, Fc.enc_eq]
   repeat' (first
    | ((first | (refine br_n (fun hq => ?_) (fun hq => ?_)) | (refine idx_intro (fun x hx => have hq := hx; ?_))) <;> (try simp only [go_sem, seval, Fc.enc_eq, hq]))
    | (simp (disch := omega) only [wrap_ok])
    | ((first
     | (refine ho.calls rfl ?_)
     | (refine hv.calls rfl ?_)
     | (refine hx.frame (X := [_, _]) rfl rfl ?_ <;> (rintro c H' ⟨rfl, rfl⟩ _))
     | (refine (iGoalOk_fn _ sd).calls rfl ?_)
     | (refine (goalVars_fn _ (by assumption) sd).calls rfl ?_)
     | (refine ⟨sd, ?_⟩)
     | (refine ⟨by assumption, ?_⟩)) <;> (try simp only [go_sem, seval, Fc.enc_eq]))
    | assumption)
  ·rw [if_neg (fun h => h0 h.2)] at ht
   have hl : 0 < (ascOf f.gl.vars).length := List.length_pos_iff.2 (fun e => h0 (ha.1 e))
   subst ht
   refine ACalls.enter (fn := Tryd.f13) Tryd.func13 rfl (by show 1 ≤ _; decide) ?_
   refine run_sound Tryd.func13 mixed 200 _ _ (by kernel_rfl) ?_
   simp only [go_sem, seval, Fc.enc_eq]
   repeat' (first
    | ((first | (refine br_n (fun hq => ?_) (fun hq => ?_)) | (refine idx_intro (fun x hx => have hq := hx; ?_))) <;> (try simp only [go_sem, seval, Fc.enc_eq, intsD_len, hq]))
    | (simp (disch := omega) only [wrap_ok])
    | ((first
     | (refine ho.calls rfl ?_)
     | (refine hv.calls rfl ?_)
     | (refine (iGoalOk_fn _ sd).calls rfl ?_)
     | (refine (goalVars_fn _ (by assumption) sd).calls rfl ?_)
     | (refine ⟨sd, ?_⟩)
     | (refine ⟨by assumption, ?_⟩)) <;> (try simp only [go_sem, seval, Fc.enc_eq, intsD_len]))
    | assumption)
   all_goals (exfalso; omega)
 ·simp only [Bool.not_eq_true] at hg
  rw [hg] at ho
  rw [if_neg (fun h => by rw [hg] at h; cases h.1)] at ht
  subst ht
  refine ACalls.enter (fn := Tryd.f13) Tryd.func13 rfl (by show 1 ≤ _; decide) ?_
  refine run_sound Tryd.func13 mixed 200 _ _ (by kernel_rfl) ?_
  simp only [go_sem, seval, Fc.enc_eq]
  repeat' (first
   | ((first | (refine br_n (fun hq => ?_) (fun hq => ?_)) | (refine idx_intro (fun x hx => have hq := hx; ?_))) <;> (try simp only [go_sem, seval, Fc.enc_eq, hq]))
   | (simp (disch := omega) only [wrap_ok])
   | ((first
    | (refine ho.calls rfl ?_)
    | (refine (iGoalOk_fn _ sd).calls rfl ?_)
    | (refine (goalVars_fn _ (by assumption) sd).calls rfl ?_)
    | (refine ⟨sd, ?_⟩)
    | (refine ⟨by assumption, ?_⟩)) <;> (try simp only [go_sem, seval, Fc.enc_eq]))
   | assumption)
end Go.Proofs.YtbncaodnnbldmaaDoor
