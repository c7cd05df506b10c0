import Derived.Test.YtbncaodnnbldmaaGreatW37
namespace Go.Proofs.YtbncaodnnbldmaaGreat
open Go.Abs
set_option maxRecDepth 100000
set_option maxHeartbeats 4000000
set_option linter.unusedSimpArgs false
set_option linter.unusedVariables false
theorem l21Goal_fn (p : Pg) (g : Gl) (n : Int) (hg : wtL g.enc ≤ 1048576) : Gives Tryz.prog 47 [.agg p.enc, .agg g.enc, .int .i64 n] (.d (.bool (p.fits g n && g.only false))) := by
 refine ACalls.enter (fn := Tryz.f47) Tryz.func47 rfl (by show 3 ≤ _; decide) ?_
 refine run_sound Tryz.func47 mixed 200 _ _ (by kernel_rfl) ?_
 simp only [go_sem, seval]
 repeat' (first
  | ((first | (refine br_n (fun hq => ?_) (fun hq => ?_)) | (refine idx_intro (fun x hx => have hq := hx; ?_))) <;> (try simp only [go_sem, seval, hq]))
  | (simp (disch := omega) only [wrap_ok])
  | ((first
   | (refine (l14Fits_fn _ _ _ sd).calls rfl ?_)
   | (refine (l14Only_fn _ _).calls rfl ?_)
   | (refine ⟨sd, ?_⟩)
   | (refine ⟨by assumption, ?_⟩)) <;> (try simp only [go_sem, seval]))
  | assumption)
 all_goals first | rfl | (simp_all; done)
theorem l21Pause_fn (n : Int) (g : Gl) : Gives Tryz.prog 48 [.agg [.int .i64 n, .sl [], .sl [], .sl [], .sl [], .sl []], .agg g.enc] (.d (.agg (strmD 2 n g))) := by
 rw [Gl.enc_eq]
 refine ACalls.enter (fn := Tryz.f48) Tryz.func48 rfl (by show 2 ≤ _; decide) ?_
 refine run_sound Tryz.func48 mixed 200 _ _ (by kernel_rfl) ?_
 simp only [go_sem, seval]
 repeat' (first
  | ((first | (refine br_n (fun hq => ?_) (fun hq => ?_)) | (refine idx_intro (fun x hx => have hq := hx; ?_))) <;> (try simp only [go_sem, seval, hq]))
  | (simp (disch := omega) only [wrap_ok])
  | ((first
   | (refine ⟨sd, ?_⟩)
   | (refine ⟨by assumption, ?_⟩)) <;> (try simp only [go_sem, seval]))
  | assumption)
 all_goals rfl
theorem sStartStream_fn (p : Pg) (g : Gl) (n : Int) (hw : wtL p.enc ≤ 1048576) (hg : wtL g.enc ≤ 1048576) : Gives Tryz.prog 14 [.agg p.enc, .agg g.enc, .int .i64 n] (.tup [.d (.agg (strmD (ssK (ssB p g n)) (ssN (ssB p g n) n) (ssG (ssB p g n) g))), .d (.bool (ssB p g n))]) := by
 have hf : ssB p g n = (p.all false && (decide (0 ≤ n) && decide (n ≤ 100000)) && (p.fits g n && g.only false)) := by
  unfold ssB
  cases p.all false <;> cases p.fits g n <;> cases g.only false <;> simp
 have hp := l21Pause_fn n g
 have hc := l13Copy_fn g hg
 generalize ssB p g n = N at hf ⊢
 generalize ha : p.all false = a at *
 generalize hb : (decide (0 ≤ n) && decide (n ≤ 100000)) = b at *
 generalize hd : (p.fits g n && g.only false) = d at *
 have hb' := l01In_fn n 0 100000
 rw [hb] at hb'
 have ha' := sIsPositive_fn p hw
 rw [ha] at ha'
 have hd' := l21Goal_fn p g n hg
 rw [hd] at hd'
 subst hf
 refine ACalls.enter (fn := Tryz.f14) Tryz.func14 rfl (by show 3 ≤ _; decide) ?_
 cases a <;> cases b <;> cases d <;> simp only [Bool.and_true, Bool.and_false, Bool.true_and, Bool.false_and, Bool.and_self, ssK, ssN, ssG, if_true, Bool.false_eq_true, if_false]
 all_goals (
  refine run_sound Tryz.func14 mixed 200 _ _ (by kernel_rfl) ?_
  simp only [go_sem, seval]
  repeat' (first
   | ((first | (refine br_n (fun hq => ?_) (fun hq => ?_)) | (refine idx_intro (fun x hx => have hq := hx; ?_))) <;> (try simp only [go_sem, seval, hq]))
   | (simp (disch := omega) only [wrap_ok])
   | ((first
    | (refine ha'.calls rfl ?_)
    | (refine hb'.calls rfl ?_)
    | (refine hd'.calls rfl ?_)
    | (refine hc.calls rfl ?_)
    | (refine hp.calls rfl ?_)
    | (refine (sIsPositive_fn _ sd).calls rfl ?_)
    | (refine (l01In_fn _ _ _).calls rfl ?_)
    | (refine (l21Goal_fn _ _ _ sd).calls rfl ?_)
    | (refine (l13Copy_fn _ sd).calls rfl ?_)
    | (refine ⟨sd, ?_⟩)
    | (refine ⟨by assumption, ?_⟩)) <;> (try simp only [go_sem, seval]))
   | assumption)
  )
 all_goals first | rfl | exact ⟨rfl, Nat.le_refl _, rfl⟩
end Go.Proofs.YtbncaodnnbldmaaGreat
