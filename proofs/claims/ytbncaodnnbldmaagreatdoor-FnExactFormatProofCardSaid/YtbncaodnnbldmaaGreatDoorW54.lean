import Derived.Test.YtbncaodnnbldmaaGreatDoorW52
import Derived.Test.YtbncaodnnbldmaaGreatDoorW53
import Derived.Test.YtbncaodnnbldmaaGreatDoorW4
namespace Go.Proofs.YtbncaodnnbldmaaGreatDoor
open Go.Abs
set_option maxRecDepth 100000
set_option maxHeartbeats 4000000
set_option linter.unusedSimpArgs false
set_option linter.unusedVariables false
theorem FormatTerm_fn (t : Tm) (hw : wtL t.enc ≤ 1048576) : ACalls Tryz.prog 21 [.d (.agg t.enc)] [tabO] (fun c H' => c = .d (.str (if tmOk t = true then t.V.txt else [])) ∧ H' = [tabO]) := by
 refine ACalls.enter (fn := Tryz.f21) Tryz.func21 rfl (by show 1 ≤ _; decide) ?_
 refine run_sound Tryz.func21 mixed 8 _ _ (by kernel_rfl) ?_
 simp only [go_sem, seval, run.eq_1]
 repeat' (first
  | ((first | (refine br_n (fun hq => ?_) (fun hq => ?_)) | (refine idx_intro (fun x hx => have hq := hx; ?_))) <;> (try simp only [go_sem, seval, run.eq_1, hq]))
  | (simp (disch := omega) only [wrap_ok])
  | ((first
   | (refine (iTermOk_fn _ sd).calls rfl ?_)
   | (refine ⟨sd, ?_⟩)
   | (refine ⟨by assumption, ?_⟩)) <;> (try simp only [go_sem, seval, run.eq_1]))
  | assumption)
 ·refine run_sound Tryz.func21 mixed 200 _ _ (by kernel_rfl) ?_
  simp only [go_sem, seval]
  repeat' (first
   | ((first | (refine br_n (fun hq => ?_) (fun hq => ?_)) | (refine idx_intro (fun x hx => have hq := hx; ?_))) <;> (try simp only [go_sem, seval, hq]))
   | (simp (disch := omega) only [wrap_ok])
   | ((first
    | (refine (iTermOk_fn _ sd).calls rfl ?_)
    | (refine ⟨sd, ?_⟩)
    | (refine ⟨by assumption, ?_⟩)) <;> (try simp only [go_sem, seval]))
   | assumption)
 obtain ⟨v, rfl, hv⟩ := tmOk_of (t := t) (by simp_all)
 have hv2 : v.fine = true ∧ v.size ≤ 5000 := by simpa [V.ok] using hv
 have hN := V.txt_len hv
 have hne := V.txt_ne hv2.1
 have hV : v.tm.V = v := by simp [Tm.V, V.v?_tm v hv2.1]
 rw [hV]
 refine AW.newBld 5 rfl rfl rfl rfl (by decide) rfl rfl (by decide) ?_ ?_
 ·simp only [go_sem, seval]
 simp only [go_sem, seval]
 refine run_sound Tryz.func21 mixed 200 _ _ (by kernel_rfl) ?_
 simp only [go_sem, seval, all_dmap]
 repeat' (first
  | ((first | (refine br_n (fun hq => ?_) (fun hq => ?_)) | (refine idx_intro (fun x hx => have hq := hx; ?_))) <;> (try simp only [go_sem, seval, all_dmap, hq]))
  | (simp (disch := omega) only [wrap_ok])
  | ((first
   | (refine (writeTerm_fn 5000 v hv2.2 (by decide) hv2.1 _ _ (by simp; omega)).frame (X := []) rfl (refs3 _ _ _ _) ?_ <;> (rintro c H' ⟨rfl, rfl⟩ _))
   | (refine bstr_calls bstr_exact rfl hne ?_)
   | (refine (iTermOk_fn _ sd).calls rfl ?_)
   | (refine ⟨sd, ?_⟩)
   | (refine ⟨by assumption, ?_⟩)) <;> (try simp only [go_sem, seval, all_dmap]))
  | assumption)
end Go.Proofs.YtbncaodnnbldmaaGreatDoor
