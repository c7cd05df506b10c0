import Derived.Test.YtbncaodnnbldmaaGreatW7
namespace Go.Proofs.YtbncaodnnbldmaaGreat
open Go.Abs
set_option maxRecDepth 100000
set_option maxHeartbeats 8000000
set_option linter.unusedSimpArgs false
set_option linter.unusedVariables false
theorem neg1_fn (k : Int) : Gives Tryz.prog 137 [.int .i64 k] (.d (.bool (decide (k = 10)))) := by
 refine ACalls.enter (fn := Tryz.f137) Tryz.func137 rfl (by show 1 ≤ _; decide) ?_
 refine run_sound Tryz.func137 mixed 200 _ _ (by kernel_rfl) ?_
 simp only [go_sem, seval]
 repeat' (first
  | ((first | (refine br_n (fun hq => ?_) (fun hq => ?_)) | (refine idx_intro (fun x hx => have hq := hx; ?_))) <;> (try simp only [go_sem, seval, hq]))
  | (simp (disch := omega) only [wrap_ok])
  | ((first
   | (refine ⟨sd, ?_⟩)
   | (refine ⟨by assumption, ?_⟩)) <;> (try simp only [go_sem, seval]))
  | assumption)
theorem hk1_clo (gb : List D) (f : FuncId) (q : Int → Bool) (hgo : isGo Tryz.prog f = true) (hf : ∀ k, Gives Tryz.prog f [.int .i64 k] (.d (.bool (q k)))) : Clo Tryz.prog 161 [.ptr 2 0, .ptr 1 0] 3 (fun x : Gl => D.agg x.enc) (fun b : Bool => [.box (gb.map .d), .box [.fn f []], .box [.d (.bool b)]]) (fun _ => True) (fun b x => b || q x.kind) := by
 refine ⟨by kernel_rfl, rfl, fun _ => rfl, fun a => by simp only [List.all_cons, List.all_nil, O.refsLt, all_dmap, C.refsLt, C.refsLt1]; rfl, fun a x _ => ?_⟩
 refine ACalls.enter (fn := Tryz.f161) Tryz.func161 rfl (by show 3 ≤ _; decide) ?_
 refine run_sound Tryz.func161 mixed 200 _ _ (by kernel_rfl) ?_
 simp only [go_sem, seval, hgo]
 repeat' (first
  | ((first | (refine br_n (fun hq => ?_) (fun hq => ?_)) | (refine idx_intro (fun x hx => have hq := hx; ?_))) <;> (try simp only [go_sem, seval, hgo, hq]))
  | (simp (disch := omega) only [wrap_ok])
  | ((first
   | (refine (hf _).calls rfl ?_)
   | (refine ⟨sd, ?_⟩)
   | (refine ⟨by assumption, ?_⟩)) <;> (try simp only [go_sem, seval, hgo]))
  | assumption)
 all_goals simp only [all_dmap, Bool.false_or, Bool.true_or]
theorem hasKind_fn (g : Gl) (f : FuncId) (q : Int → Bool) (hgo : isGo Tryz.prog f = true) (hf : ∀ k, Gives Tryz.prog f [.int .i64 k] (.d (.bool (q k)))) : ACalls Tryz.prog 136 [.d (.agg g.enc), .fn f []] [] (fun c H' => c = .d (.bool (g.subs.any fun x => q x.kind)) ∧ H' = []) := by
 have e1 := eachGoal_fn (hk1_clo g.enc f q hgo hf) g false (fun _ _ => trivial)
 rw [foldl_any, Bool.false_or] at e1
 generalize (g.subs.any fun x => q x.kind) = N at e1 ⊢
 refine ACalls.enter (fn := Tryz.f136) Tryz.func136 rfl (by show 2 ≤ _; decide) ?_
 refine run_sound Tryz.func136 mixed 200 _ _ (by kernel_rfl) ?_
 simp only [go_sem, seval]
 repeat' (first
  | ((first | (refine br_n (fun hq => ?_) (fun hq => ?_)) | (refine idx_intro (fun x hx => have hq := hx; ?_))) <;> (try simp only [go_sem, seval, hq]))
  | (simp (disch := omega) only [wrap_ok])
  | ((first
   | (refine ACalls.mono e1 ?_ <;> (rintro c H' ⟨rfl, rfl⟩))
   | (refine ⟨sd, ?_⟩)
   | (refine ⟨by assumption, ?_⟩)) <;> (try simp only [go_sem, seval]))
  | assumption)
theorem negative_fn (g : Gl) : Gives Tryz.prog 104 [.agg g.enc] (.d (.bool (!g.only false))) := by
 rw [← Gl.only_neg]
 have e1 := hasKind_fn g 137 (fun k => decide (k = 10)) (by kernel_rfl) neg1_fn
 generalize (g.subs.any fun x => decide (x.kind = 10)) = N at e1 ⊢
 refine ACalls.enter (fn := Tryz.f104) Tryz.func104 rfl (by show 1 ≤ _; decide) ?_
 refine run_sound Tryz.func104 mixed 200 _ _ (by kernel_rfl) ?_
 simp only [go_sem, seval]
 repeat' (first
  | ((first | (refine br_n (fun hq => ?_) (fun hq => ?_)) | (refine idx_intro (fun x hx => have hq := hx; ?_))) <;> (try simp only [go_sem, seval, hq]))
  | (simp (disch := omega) only [wrap_ok])
  | ((first
   | (refine e1.frame (X := [_]) rfl rfl ?_ <;> (rintro c H' ⟨rfl, rfl⟩ _))
   | (refine ⟨sd, ?_⟩)
   | (refine ⟨by assumption, ?_⟩)) <;> (try simp only [go_sem, seval]))
  | assumption)
theorem positive_fn (p : Pg) : Gives Tryz.prog 135 [.agg p.enc] (.d (.bool (p.rels.all fun r => r.body.only false))) := by
 refine ACalls.enter (fn := Tryz.f135) Tryz.func135 rfl (by show 1 ≤ _; decide) ?_
 refine run_sound Tryz.func135 mixed 200 _ _ (by kernel_rfl) ?_
 simp only [go_sem, seval]
 refine AW.rng p.rels [6, 7] 8 6 (fun _ : Unit => []) (fun H _ => H) (fun r _ => (r.all fun r => r.body.only false) = p.rels.all fun r => r.body.only false) () rfl (by simp) rfl (by refine ⟨by simp [mkS], by simp [mkS], by simp [mkS, O.refsLt, C.refsLt, C.refsLt1], ?_⟩; simp [mkS, Abs.get, C.refsLtT, C.refsLt, C.refsLt1]) (fun i x r acc hxi hdr hlt hm hinv hnext => ?_) (fun acc hinv => ?_)
 ·rw [List.all_cons] at hinv
  refine run_sound Tryz.func135 mixed 200 _ _ (by kernel_rfl) ?_
  simp only [go_sem, seval, hlt, idx_of hxi]
  repeat' (first
   | ((first | (refine br_n (fun hq => ?_) (fun hq => ?_)) | (refine idx_intro (fun x hx => have hq := hx; ?_))) <;> (try simp only [go_sem, seval, hq]))
   | (simp (disch := omega) only [wrap_ok])
   | (refine hnext () _ ?_ (by refine ⟨by simp [mkS], by simp [mkS], by simp [mkS, O.refsLt, C.refsLt, C.refsLt1], ?_⟩; simp [mkS, Abs.get, C.refsLtT, C.refsLt, C.refsLt1]))
   | ((first
    | (refine (negative_fn _).calls rfl ?_)
    | (refine ⟨sd, ?_⟩)
    | (refine ⟨by assumption, ?_⟩)) <;> (try simp only [go_sem, seval]))
   | assumption)
  all_goals clear hnext
  all_goals (rw [← hinv]; simp_all; done)
 ·rw [List.all_nil] at hinv
  refine run_sound Tryz.func135 mixed 200 _ _ (by kernel_rfl) ?_
  simp only [go_sem, seval]
  rw [← hinv]
theorem iIsPositive_fn (p : Pg) (hw : wtL p.enc ≤ 1048576) : Gives Tryz.prog 102 [.agg p.enc] (.d (.bool (p.all false))) := by
 have hp : p.all false = (pgOk p && p.rels.all fun r => r.body.only false) := rfl
 rw [hp]
 refine ACalls.enter (fn := Tryz.f102) Tryz.func102 rfl (by show 1 ≤ _; decide) ?_
 refine run_sound Tryz.func102 mixed 200 _ _ (by kernel_rfl) ?_
 simp only [go_sem, seval]
 repeat' (first
  | ((first | (refine br_n (fun hq => ?_) (fun hq => ?_)) | (refine idx_intro (fun x hx => have hq := hx; ?_))) <;> (try simp only [go_sem, seval, hq]))
  | (simp (disch := omega) only [wrap_ok])
  | ((first
   | (refine (iProgramOk_fn _ sd).calls rfl ?_)
   | (refine (positive_fn _).calls rfl ?_)
   | (refine ⟨sd, ?_⟩)
   | (refine ⟨by assumption, ?_⟩)) <;> (try simp only [go_sem, seval]))
  | assumption)
 all_goals simp [*]
theorem l14Only_fn (pu : Bool) : ∀ (t : Gl), Gives Tryz.prog 99 [.agg t.enc, .bool pu] (.d (.bool (t.only pu))) := by
 intro t
 induction t using Gl.ind' with
 | h t ih =>
  have h0 := Gl.only_eq pu t
  have h1 : Gl.onlyK pu t.kind = (decide (t.kind ≠ 10) && !(pu && (decide (3 ≤ t.kind) && decide (t.kind ≤ 6)))) := rfl
  rw [h1] at h0
  clear h1
  generalize t.only pu = N at h0 ⊢
  refine ACalls.enter (fn := Tryz.f99) Tryz.func99 rfl (by show 2 ≤ _; decide) ?_
  refine run_sound Tryz.func99 mixed 200 _ _ (by kernel_rfl) ?_
  simp only [go_sem, seval]
  refine AW.rng t.goals [1, 2, 8, 9] 10 8 (fun _ : Unit => []) (fun H _ => H) (fun r _ => r.all (Gl.only pu) = t.goals.all (Gl.only pu)) () rfl (by simp) rfl (by refine ⟨by simp [mkS], by simp [mkS], by simp [mkS, O.refsLt, C.refsLt, C.refsLt1], ?_⟩; simp [mkS, Abs.get, C.refsLtT, C.refsLt, C.refsLt1]) (fun i x r acc hxi hdr hlt hm hinv hnext => ?_) (fun acc hinv => ?_)
  ·have ihx := ih x (List.mem_of_getElem? hxi)
   rw [List.all_cons] at hinv
   refine run_sound Tryz.func99 mixed 200 _ _ (by kernel_rfl) ?_
   simp only [go_sem, seval, hlt, idx_of hxi]
   repeat' (first
    | ((first | (refine br_n (fun hq => ?_) (fun hq => ?_)) | (refine idx_intro (fun x hx => have hq := hx; ?_))) <;> (try simp only [go_sem, seval, hq]))
    | (simp (disch := omega) only [wrap_ok])
    | (refine hnext () _ ?_ (by refine ⟨by simp [mkS], by simp [mkS], by simp [mkS, O.refsLt, C.refsLt, C.refsLt1], ?_⟩; simp [mkS, Abs.get, C.refsLtT, C.refsLt, C.refsLt1]))
    | ((first
     | (refine ihx.calls rfl ?_)
     | (refine (l01In_fn _ _ _).calls rfl ?_)
     | (refine ⟨sd, ?_⟩)
     | (refine ⟨by assumption, ?_⟩)) <;> (try simp only [go_sem, seval]))
    | assumption)
   all_goals clear hnext ihx ih
   all_goals first | (rw [h0, ← hinv]; simp [*]; done) | (rw [← hinv]; simp [*]; done)
  ·rw [List.all_nil] at hinv
   rw [← hinv, Bool.true_and] at h0
   clear hinv ih
   refine run_sound Tryz.func99 mixed 200 _ _ (by kernel_rfl) ?_
   simp only [go_sem, seval]
   repeat' (first
    | ((first | (refine br_n (fun hq => ?_) (fun hq => ?_)) | (refine idx_intro (fun x hx => have hq := hx; ?_))) <;> (try simp only [go_sem, seval, hq]))
    | (simp (disch := omega) only [wrap_ok])
    | ((first
     | (refine (l01In_fn _ _ _).calls rfl ?_)
     | (refine ⟨sd, ?_⟩)
     | (refine ⟨by assumption, ?_⟩)) <;> (try simp only [go_sem, seval]))
    | assumption)
   all_goals (rw [h0]; clear h0; simp_all)
theorem l14All_fn (pu : Bool) (p : Pg) (hw : wtL p.enc ≤ 1048576) : Gives Tryz.prog 98 [.agg p.enc, .bool pu] (.d (.bool (p.all pu))) := by
 have hp : p.all pu = (pgOk p && p.rels.all fun r => r.body.only pu) := rfl
 rw [hp]
 by_cases hok : pgOk p = true
 ·rw [hok, Bool.true_and]
  refine ACalls.enter (fn := Tryz.f98) Tryz.func98 rfl (by show 2 ≤ _; decide) ?_
  refine run_sound Tryz.func98 mixed 200 _ _ (by kernel_rfl) ?_
  simp only [go_sem, seval, hok]
  repeat' (first
   | ((first | (refine br_n (fun hq => ?_) (fun hq => ?_)) | (refine idx_intro (fun x hx => have hq := hx; ?_))) <;> (try simp only [go_sem, seval, hok, hq]))
   | (simp (disch := omega) only [wrap_ok])
   | ((first
    | (refine (sProgramOk_fn _ sd).calls rfl ?_)
    | (refine (l14Only_fn _ _).calls rfl ?_)
    | (refine ⟨sd, ?_⟩)
    | (refine ⟨by assumption, ?_⟩)) <;> (try simp only [go_sem, seval, hok]))
   | assumption)
  refine AW.rng p.rels [1, 11, 12] 13 11 (fun _ : Unit => []) (fun H _ => H) (fun r _ => (r.all fun r => r.body.only pu) = p.rels.all fun r => r.body.only pu) () rfl (by simp) rfl (by refine ⟨by simp [mkS], by simp [mkS], by simp [mkS, O.refsLt, C.refsLt, C.refsLt1], ?_⟩; simp [mkS, Abs.get, C.refsLtT, C.refsLt, C.refsLt1]) (fun i x r acc hxi hdr hlt hm hinv hnext => ?_) (fun acc hinv => ?_)
  ·rw [List.all_cons] at hinv
   refine run_sound Tryz.func98 mixed 200 _ _ (by kernel_rfl) ?_
   simp only [go_sem, seval, hlt, idx_of hxi]
   repeat' (first
    | ((first | (refine br_n (fun hq => ?_) (fun hq => ?_)) | (refine idx_intro (fun x hx => have hq := hx; ?_))) <;> (try simp only [go_sem, seval, hq]))
    | (simp (disch := omega) only [wrap_ok])
    | (refine hnext () _ ?_ (by refine ⟨by simp [mkS], by simp [mkS], by simp [mkS, O.refsLt, C.refsLt, C.refsLt1], ?_⟩; simp [mkS, Abs.get, C.refsLtT, C.refsLt, C.refsLt1]))
    | ((first
     | (refine (sProgramOk_fn _ sd).calls rfl ?_)
     | (refine (l14Only_fn _ _).calls rfl ?_)
     | (refine ⟨sd, ?_⟩)
     | (refine ⟨by assumption, ?_⟩)) <;> (try simp only [go_sem, seval]))
    | assumption)
   all_goals clear hnext
   all_goals (rw [← hinv]; simp_all; done)
  ·rw [List.all_nil] at hinv
   refine run_sound Tryz.func98 mixed 200 _ _ (by kernel_rfl) ?_
   simp only [go_sem, seval]
   rw [← hinv]
 ·simp only [Bool.not_eq_true] at hok
  rw [hok]
  refine ACalls.enter (fn := Tryz.f98) Tryz.func98 rfl (by show 2 ≤ _; decide) ?_
  refine run_sound Tryz.func98 mixed 200 _ _ (by kernel_rfl) ?_
  simp only [go_sem, seval, hok]
  repeat' (first
   | ((first | (refine br_n (fun hq => ?_) (fun hq => ?_)) | (refine idx_intro (fun x hx => have hq := hx; ?_))) <;> (try simp only [go_sem, seval, hok, hq]))
   | (simp (disch := omega) only [wrap_ok])
   | ((first
    | (refine (sProgramOk_fn _ sd).calls rfl ?_)
    | (refine (l14Only_fn _ _).calls rfl ?_)
    | (refine ⟨sd, ?_⟩)
    | (refine ⟨by assumption, ?_⟩)) <;> (try simp only [go_sem, seval, hok]))
   | assumption)
theorem sIsPositive_fn (p : Pg) (hw : wtL p.enc ≤ 1048576) : Gives Tryz.prog 45 [.agg p.enc] (.d (.bool (p.all false))) := by
 refine ACalls.enter (fn := Tryz.f45) Tryz.func45 rfl (by show 1 ≤ _; decide) ?_
 refine run_sound Tryz.func45 mixed 200 _ _ (by kernel_rfl) ?_
 simp only [go_sem, seval]
 repeat' (first
  | ((first | (refine br_n (fun hq => ?_) (fun hq => ?_)) | (refine idx_intro (fun x hx => have hq := hx; ?_))) <;> (try simp only [go_sem, seval, hq]))
  | (simp (disch := omega) only [wrap_ok])
  | ((first
   | (refine (l14All_fn _ _ sd).calls rfl ?_)
   | (refine ⟨sd, ?_⟩)
   | (refine ⟨by assumption, ?_⟩)) <;> (try simp only [go_sem, seval]))
  | assumption)
end Go.Proofs.YtbncaodnnbldmaaGreat
