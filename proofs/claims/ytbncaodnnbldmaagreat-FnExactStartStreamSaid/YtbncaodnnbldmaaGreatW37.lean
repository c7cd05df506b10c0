import Derived.Test.YtbncaodnnbldmaaGreatW8
import Derived.Test.YtbncaodnnbldmaaGreatW14
import Derived.Test.YtbncaodnnbldmaaGreatW20
namespace Go.Proofs.YtbncaodnnbldmaaGreat
open Go.Abs
set_option maxRecDepth 100000
set_option maxHeartbeats 4000000
set_option linter.unusedSimpArgs false
set_option linter.unusedVariables false
def ssB (p : Pg) (g : Gl) (n : Int) : Bool := decide (0 ≤ n) && decide (n ≤ 100000) && p.all false && p.fits g n && g.only false
def ssG (ok : Bool) (g : Gl) : Gl := if ok = true then g else .mk 0 [] [] []
def ssK (ok : Bool) : Int := if ok = true then 2 else 0
def ssN (ok : Bool) (n : Int) : Int := if ok = true then n else 0
def strmD (k n : Int) (g : Gl) : List D := [.int .i64 k, .int .i64 n, .sl [], .sl [], .sl [], .sl [], .sl [], .int .i64 g.kind, .str g.name, .sl (g.terms.map Tm.enc), .sl (g.goals.map Gl.enc), .sl []]
def strmC (k n : Int) (g : Gl) : List C := [.d (.int .i64 k), .d (.int .i64 n), .d (.sl []), .d (.sl []), .d (.sl []), .d (.sl []), .d (.sl []), .d (.int .i64 g.kind), .d (.str g.name), .own 0 1, .own 1 1, .d (.sl [])]
theorem canStart_fn (p : Pg) (g : Gl) (n : Int) (hw : wtL p.enc ≤ 1048576) (hg : wtL g.enc ≤ 1048576) : Gives Tryz.prog 52 [.agg p.enc, .agg g.enc, .int .i64 n] (.d (.bool (ssB p g n))) := by
 have hf : ssB p g n = (decide (0 ≤ n) && decide (n ≤ 100000) && p.all false && (glOk g && g.varsLt n && p.callsFit g) && g.only false) := rfl
 generalize ssB p g n = N at hf ⊢
 by_cases hok : glOk g = true
 ·have hs := glOk_shape hok
  refine ACalls.enter (fn := Tryz.f52) Tryz.func52 rfl (by show 3 ≤ _; decide) ?_
  refine run_sound Tryz.func52 mixed 200 _ _ (by kernel_rfl) ?_
  simp only [go_sem, seval, hok]
  repeat' (first
   | ((first | (refine br_n (fun hq => ?_) (fun hq => ?_)) | (refine idx_intro (fun x hx => have hq := hx; ?_))) <;> (try simp only [go_sem, seval, hok, hq]))
   | (simp (disch := omega) only [wrap_ok])
   | ((first
    | (refine (iGoalOk_fn _ sd).calls rfl ?_)
    | (refine (iIsPositive_fn _ sd).calls rfl ?_)
    | (refine (fits_fn _ _ _ (by assumption) sd).calls rfl ?_)
    | (refine (negative_fn _).calls rfl ?_)
    | (refine ⟨sd, ?_⟩)
    | (refine ⟨by assumption, ?_⟩)) <;> (try simp only [go_sem, seval, hok]))
   | assumption)
  all_goals (rw [hf]; clear hf; generalize p.all false = a at *; generalize g.varsLt n = b at *; generalize p.callsFit g = c at *; generalize g.only false = d at *; clear hw hg hs; cases a <;> cases b <;> cases c <;> cases d <;> first | (exfalso; omega) | (simp; done) | (simp; omega) | (simp [*]; done) | (simp at hq; done) | (simp_all; done))
 ·simp only [Bool.not_eq_true] at hok
  refine ACalls.enter (fn := Tryz.f52) Tryz.func52 rfl (by show 3 ≤ _; decide) ?_
  refine run_sound Tryz.func52 mixed 200 _ _ (by kernel_rfl) ?_
  simp only [go_sem, seval, hok]
  repeat' (first
   | ((first | (refine br_n (fun hq => ?_) (fun hq => ?_)) | (refine idx_intro (fun x hx => have hq := hx; ?_))) <;> (try simp only [go_sem, seval, hok, hq]))
   | (simp (disch := omega) only [wrap_ok])
   | ((first
    | (refine (iGoalOk_fn _ sd).calls rfl ?_)
    | (refine (iIsPositive_fn _ sd).calls rfl ?_)
    | (refine (fits_fn _ _ _ (by assumption) sd).calls rfl ?_)
    | (refine (negative_fn _).calls rfl ?_)
    | (refine ⟨sd, ?_⟩)
    | (refine ⟨by assumption, ?_⟩)) <;> (try simp only [go_sem, seval, hok]))
   | assumption)
  all_goals (rw [hf]; simp [*])
theorem newState_fn (n : Int) (h0 : 0 ≤ n) (h1 : n ≤ 100000) : Gives Tryz.prog 53 [.int .i64 n] (.d (.agg [.int .i64 n, .sl [], .sl [], .sl [], .sl []])) := by
 have e1 : ¬ n < 0 := by omega
 have e2 : ¬ 100000 < n := by omega
 refine ACalls.enter (fn := Tryz.f53) Tryz.func53 rfl (by show 1 ≤ _; decide) ?_
 refine run_sound Tryz.func53 mixed 200 _ _ (by kernel_rfl) ?_
 simp only [go_sem, seval, e1, e2]
 repeat' (first
  | ((first | (refine br_n (fun hq => ?_) (fun hq => ?_)) | (refine idx_intro (fun x hx => have hq := hx; ?_))) <;> (try simp only [go_sem, seval, e1, e2, hq]))
  | (simp (disch := omega) only [wrap_ok])
  | ((first
   | (refine ⟨sd, ?_⟩)
   | (refine ⟨by assumption, ?_⟩)) <;> (try simp only [go_sem, seval, e1, e2]))
  | assumption)
 all_goals rfl
theorem startStream_T (p : Pg) (g : Gl) (n : Int) (hw : wtL p.enc ≤ 1048576) (hg : wtL g.enc ≤ 1048576) : ACalls Tryz.prog 16 [.d (.agg p.enc), .d (.agg g.enc), .d (.int .i64 n)] [.hole, .hole] (fun c H' => c = .tup [.agg (strmC (ssK (ssB p g n)) (ssN (ssB p g n) n) (ssG (ssB p g n) g)), .d (.bool (ssB p g n))] ∧ ∃ e B e' B', H' = [.tree 1 4 e ((ssG (ssB p g n) g).terms.map Tm.enc) B none, .tree 1 4 e' ((ssG (ssB p g n) g).goals.map Gl.enc) B' none]) := by
 have hcs := canStart_fn p g n hw hg
 by_cases hok : ssB p g n = true
 ·rw [hok] at hcs ⊢
  unfold ssB at hok
  simp only [Bool.and_eq_true, decide_eq_true_eq] at hok
  obtain ⟨⟨⟨⟨h0, h1⟩, hp⟩, hfit⟩, hon⟩ := hok
  have hgo : glOk g = true := by
   unfold Pg.fits at hfit
   simp only [Bool.and_eq_true] at hfit
   exact hfit.1.1
  have hx := copyGoal_T g hg (glOk_shape hgo)
  unfold cpG at hx
  have hns := newState_fn n h0 h1
  simp only [ssG, ssK, ssN, if_true, strmC]
  refine ACalls.enter (fn := Tryz.f16) Tryz.func16 rfl (by show 3 ≤ _; decide) ?_
  refine run_sound Tryz.func16 mixed 8 _ _ (by kernel_rfl) ?_
  simp only [go_sem, seval, run.eq_1]
  repeat' (first
   | ((first | (refine br_n (fun hq => ?_) (fun hq => ?_)) | (refine idx_intro (fun x hx => have hq := hx; ?_))) <;> (try simp only [go_sem, seval, run.eq_1, hq]))
   | (simp (disch := omega) only [wrap_ok])
   | ((first
    | (refine hcs.calls rfl ?_)
    | (refine (canStart_fn _ _ _ sd sd).calls rfl ?_)
    | (refine (canStart_fn _ _ _ sd sd).callQ rfl ?_)
    | (refine ⟨sd, ?_⟩)
    | (refine ⟨by assumption, ?_⟩)) <;> (try simp only [go_sem, seval, run.eq_1]))
   | assumption)
  refine AW.drawA mixed #[true, true, true, true, true, true, false, false] [(2, .box (p.enc.map .d)), (3, .box (g.enc.map .d))] [] [0, 3, 1, 2, 4, 5] [6, 7] none (by kernel_rfl) trivial (by simp [holdsB]) ?_
  simp only [go_sem, seval]
  repeat' (first
   | ((first | (refine br_n (fun hq => ?_) (fun hq => ?_)) | (refine idx_intro (fun x hx => have hq := hx; ?_))) <;> (try simp only [go_sem, seval, hq]))
   | (simp (disch := omega) only [wrap_ok])
   | ((first
    | (refine hns.calls rfl ?_)
    | (refine hns.callQ rfl ?_)
    | (refine ACalls.fresh (ds := [.agg g.enc]) (m := 2) hx [0, 1] rfl rfl (by simp) (by simp) ?_ <;> (rintro c H' ⟨rfl, e2, B2, e3, B3, rfl⟩ _; refine ⟨rfl, rfl, ?_⟩))
    | (refine (canStart_fn _ _ _ sd sd).calls rfl ?_)
    | (refine (canStart_fn _ _ _ sd sd).callQ rfl ?_)
    | (refine ⟨sd, ?_⟩)
    | (refine ⟨by assumption, ?_⟩)) <;> (try simp only [go_sem, seval]))
   | assumption)
  refine run_sound Tryz.func16 mixed 200 _ _ (by kernel_rfl) ?_
  simp only [go_sem, seval]
  repeat' (first
   | (exact ⟨_, _, _, _, rfl⟩)
   | ((first | (refine br_n (fun hq => ?_) (fun hq => ?_)) | (refine idx_intro (fun x hx => have hq := hx; ?_))) <;> (try simp only [go_sem, seval, hq]))
   | (simp (disch := omega) only [wrap_ok])
   | ((first
    | (refine (canStart_fn _ _ _ sd sd).calls rfl ?_)
    | (refine (canStart_fn _ _ _ sd sd).callQ rfl ?_)
    | (refine ⟨sd, ?_⟩)
    | (refine ⟨by assumption, ?_⟩)) <;> (try simp only [go_sem, seval]))
   | assumption)
 ·simp only [Bool.not_eq_true] at hok
  rw [hok] at hcs ⊢
  simp only [ssG, ssK, ssN, Bool.false_eq_true, if_false, strmC]
  refine ACalls.enter (fn := Tryz.f16) Tryz.func16 rfl (by show 3 ≤ _; decide) ?_
  refine run_sound Tryz.func16 mixed 8 _ _ (by kernel_rfl) ?_
  simp only [go_sem, seval, run.eq_1]
  repeat' (first
   | ((first | (refine br_n (fun hq => ?_) (fun hq => ?_)) | (refine idx_intro (fun x hx => have hq := hx; ?_))) <;> (try simp only [go_sem, seval, run.eq_1, hq]))
   | (simp (disch := omega) only [wrap_ok])
   | ((first
    | (refine hcs.calls rfl ?_)
    | (refine (canStart_fn _ _ _ sd sd).calls rfl ?_)
    | (refine (canStart_fn _ _ _ sd sd).callQ rfl ?_)
    | (refine ⟨sd, ?_⟩)
    | (refine ⟨by assumption, ?_⟩)) <;> (try simp only [go_sem, seval, run.eq_1]))
   | assumption)
  refine AW.adoptTB 4 9 4 140 (by decide) rfl rfl ?_
  refine AW.adoptTB 4 10 4 52 (by decide) rfl rfl ?_
  refine AW.placeB 4 9 5 0 rfl rfl rfl rfl (by decide) ?_
  refine AW.placeB 4 10 6 1 rfl rfl rfl rfl (by decide) ?_
  refine run_sound Tryz.func16 mixed 200 _ _ (by kernel_rfl) ?_
  simp only [go_sem, seval]
  repeat' (first
   | ((first | (refine br_n (fun hq => ?_) (fun hq => ?_)) | (refine idx_intro (fun x hx => have hq := hx; ?_))) <;> (try simp only [go_sem, seval, hq]))
   | (simp (disch := omega) only [wrap_ok])
   | ((first
    | (refine (canStart_fn _ _ _ sd sd).calls rfl ?_)
    | (refine (canStart_fn _ _ _ sd sd).callQ rfl ?_)
    | (refine ⟨sd, ?_⟩)
    | (refine ⟨by assumption, ?_⟩)) <;> (try simp only [go_sem, seval]))
   | assumption)
  exact ⟨rfl, _, _, _, _, rfl⟩
end Go.Proofs.YtbncaodnnbldmaaGreat
