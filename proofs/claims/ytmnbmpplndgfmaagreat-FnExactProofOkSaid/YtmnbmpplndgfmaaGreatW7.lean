/- Programs: which are valid, both texts. -/
import Derived.Test.YtmnbmpplndgfmaaGreatW4
import Derived.Test.YtmnbmpplndgfmaaGreatW5
import Derived.Test.YtmnbmpplndgfmaaGreatP1
namespace Go.Proofs.YtmnbmpplndgfmaaGreat
open Go.Abs
set_option maxRecDepth 100000
set_option maxHeartbeats 8000000
set_option linter.unusedSimpArgs false
set_option linter.unusedVariables false

theorem relation_fn (p : Pg) (s : List UInt8) : Gives Tryz.prog 78 [.agg p.enc, .str s] (.d (.int .i64 (p.find s))) := by
  refine ACalls.enter (fn := Tryz.f78) Tryz.func78 rfl (by show 2 ≤ _; decide) ?_
  refine run_sound Tryz.func78 mixed 200 _ _ (by kernel_rfl) ?_
  simp only [go_sem, seval]
  refine AW.rng p.rels [1, 8, 9] 10 8 (fun _ : Unit => []) (fun H _ => H) (fun r _ => findR r s ((p.rels.length - r.length : Nat) : Int) = p.find s) () rfl (by simp) (by simp [Pg.find]) (by refine ⟨by simp [mkS], by simp [mkS], by simp [mkS, O.refsLt, C.refsLt, C.refsLt1], ?_⟩; simp [mkS, Abs.get, C.refsLtT, C.refsLt, C.refsLt1]) (fun i x r acc hxi hdr hlt hm hinv hnext => ?_) (fun acc hinv => ?_)
  · have hdl := drop_len hdr
    have hdl2 : p.rels.length - r.length = i + 1 := by have := congrArg List.length hdr; simp at this; omega
    simp only [List.length_cons, hdl, findR] at hinv
    rw [hdl2] at hnext
    refine run_sound Tryz.func78 mixed 200 _ _ (by kernel_rfl) ?_
    simp only [go_sem, seval, hlt, idx_of hxi]
    repeat' (first
      | ((first | (refine br_intro (fun hq => ?_) (fun hq => ?_) <;> (try simp only [decide_eq_true_eq, decide_eq_false_iff_not, bne_iff_ne, beq_iff_eq, beq_eq_false_iff_ne, bne_eq_false_iff_eq, Bool.not_eq_true, Bool.not_eq_false, ne_eq, Decidable.not_not, Int.not_lt, Int.not_le, Bool.not_eq_eq_eq_not, Bool.not_true, Bool.not_false, gt_iff_lt, ge_iff_le, Bool.and_eq_true, Bool.or_eq_true, Bool.or_eq_false_iff, Bool.and_eq_false_imp] at hq)) | (refine idx_intro (fun x hx => have hq := hx; ?_))) <;> (try simp only [go_sem, seval, hq]))
      | (simp (disch := omega) only [wrap_ok])
      | (refine hnext () _ ?_ (by refine ⟨by simp [mkS], by simp [mkS], by simp [mkS, O.refsLt, C.refsLt, C.refsLt1], ?_⟩; simp [mkS, Abs.get, C.refsLtT, C.refsLt, C.refsLt1]))
      | ((first
        | (refine ⟨by first | omega | assumption | (simp; done) | (simp; omega), ?_⟩)) <;> (try simp only [go_sem, seval]))
      | assumption)
    all_goals clear hnext
    · rw [← hinv]; simp [*]
    · rw [← hinv]; simp [*]
  · simp only [findR] at hinv
    refine run_sound Tryz.func78 mixed 200 _ _ (by kernel_rfl) ?_
    simp only [go_sem, seval]
    rw [hinv]

theorem l14Find_fn (p : Pg) (s : List UInt8) : Gives Tryz.prog 146 [.agg p.enc, .str s] (.d (.int .i64 (p.find s))) := by
  refine ACalls.enter (fn := Tryz.f146) Tryz.func146 rfl (by show 2 ≤ _; decide) ?_
  refine run_sound Tryz.func146 mixed 200 _ _ (by kernel_rfl) ?_
  simp only [go_sem, seval]
  refine AW.rng p.rels [1, 8, 9] 10 8 (fun _ : Unit => []) (fun H _ => H) (fun r _ => findR r s ((p.rels.length - r.length : Nat) : Int) = p.find s) () rfl (by simp) (by simp [Pg.find]) (by refine ⟨by simp [mkS], by simp [mkS], by simp [mkS, O.refsLt, C.refsLt, C.refsLt1], ?_⟩; simp [mkS, Abs.get, C.refsLtT, C.refsLt, C.refsLt1]) (fun i x r acc hxi hdr hlt hm hinv hnext => ?_) (fun acc hinv => ?_)
  · have hdl := drop_len hdr
    have hdl2 : p.rels.length - r.length = i + 1 := by have := congrArg List.length hdr; simp at this; omega
    simp only [List.length_cons, hdl, findR] at hinv
    rw [hdl2] at hnext
    refine run_sound Tryz.func146 mixed 200 _ _ (by kernel_rfl) ?_
    simp only [go_sem, seval, hlt, idx_of hxi]
    repeat' (first
      | ((first | (refine br_intro (fun hq => ?_) (fun hq => ?_) <;> (try simp only [decide_eq_true_eq, decide_eq_false_iff_not, bne_iff_ne, beq_iff_eq, beq_eq_false_iff_ne, bne_eq_false_iff_eq, Bool.not_eq_true, Bool.not_eq_false, ne_eq, Decidable.not_not, Int.not_lt, Int.not_le, Bool.not_eq_eq_eq_not, Bool.not_true, Bool.not_false, gt_iff_lt, ge_iff_le, Bool.and_eq_true, Bool.or_eq_true, Bool.or_eq_false_iff, Bool.and_eq_false_imp] at hq)) | (refine idx_intro (fun x hx => have hq := hx; ?_))) <;> (try simp only [go_sem, seval, hq]))
      | (simp (disch := omega) only [wrap_ok])
      | (refine hnext () _ ?_ (by refine ⟨by simp [mkS], by simp [mkS], by simp [mkS, O.refsLt, C.refsLt, C.refsLt1], ?_⟩; simp [mkS, Abs.get, C.refsLtT, C.refsLt, C.refsLt1]))
      | ((first
        | (refine ⟨by first | omega | assumption | (simp; done) | (simp; omega), ?_⟩)) <;> (try simp only [go_sem, seval]))
      | assumption)
    all_goals clear hnext
    · rw [← hinv]; simp [*]
    · rw [← hinv]; simp [*]
  · simp only [findR] at hinv
    refine run_sound Tryz.func146 mixed 200 _ _ (by kernel_rfl) ?_
    simp only [go_sem, seval]
    rw [hinv]

theorem varsBelow_fn (t : Gl) (n : Int) (hs : t.shape = true) (hw : wtL t.enc ≤ 1048576) : Gives Tryz.prog 154 [.agg t.enc, .int .i64 n] (.d (.bool (t.varsLt n))) := by
  have hb : t.varsLt n = _ := (below_asc t.vars n).symm
  generalize t.varsLt n = N at hb ⊢
  refine ACalls.enter (fn := Tryz.f154) Tryz.func154 rfl (by show 2 ≤ _; decide) ?_
  refine run_sound Tryz.func154 mixed 200 _ _ (by kernel_rfl) ?_
  simp only [go_sem, seval]
  repeat' (first
    | ((first | (refine br_intro (fun hq => ?_) (fun hq => ?_) <;> (try simp only [decide_eq_true_eq, decide_eq_false_iff_not, bne_iff_ne, beq_iff_eq, beq_eq_false_iff_ne, bne_eq_false_iff_eq, Bool.not_eq_true, Bool.not_eq_false, ne_eq, Decidable.not_not, Int.not_lt, Int.not_le, Bool.not_eq_eq_eq_not, Bool.not_true, Bool.not_false, gt_iff_lt, ge_iff_le, Bool.and_eq_true, Bool.or_eq_true, Bool.or_eq_false_iff, Bool.and_eq_false_imp] at hq)) | (refine idx_intro (fun x hx => have hq := hx; ?_))) <;> (try simp only [go_sem, seval, hq]))
    | (simp (disch := omega) only [wrap_ok])
    | ((first
      | (refine (goalVars_fn _ (by assumption) (by first | omega | assumption | (simp; done) | (simp; omega))).calls rfl ?_)
      | (refine (goalVars_fn _ (by assumption) (by first | omega | assumption | (simp; done) | (simp; omega))).callQ rfl ?_)
      | (refine ⟨by first | omega | assumption | (simp; done) | (simp; omega), ?_⟩)) <;> (try simp only [go_sem, seval]))
    | assumption)
  refine AW.rng (ascOf t.vars) [1, 8, 9] 10 8 (fun _ : Unit => []) (fun H _ => H) (fun r _ => (r.all fun v => decide (v < n)) = N) () rfl (by simp [intsD]) hb.symm (by refine ⟨by simp [mkS], by simp [mkS], by simp [mkS, O.refsLt, C.refsLt, C.refsLt1], ?_⟩; simp [mkS, Abs.get, C.refsLtT, C.refsLt, C.refsLt1]) (fun i x r acc hxi hdr hlt hm hinv hnext => ?_) (fun acc hinv => ?_)
  · rw [List.all_cons] at hinv
    refine run_sound Tryz.func154 mixed 200 _ _ (by kernel_rfl) ?_
    simp only [go_sem, seval, hlt, idx_of hxi]
    repeat' (first
      | ((first | (refine br_intro (fun hq => ?_) (fun hq => ?_) <;> (try simp only [decide_eq_true_eq, decide_eq_false_iff_not, bne_iff_ne, beq_iff_eq, beq_eq_false_iff_ne, bne_eq_false_iff_eq, Bool.not_eq_true, Bool.not_eq_false, ne_eq, Decidable.not_not, Int.not_lt, Int.not_le, Bool.not_eq_eq_eq_not, Bool.not_true, Bool.not_false, gt_iff_lt, ge_iff_le, Bool.and_eq_true, Bool.or_eq_true, Bool.or_eq_false_iff, Bool.and_eq_false_imp] at hq)) | (refine idx_intro (fun x hx => have hq := hx; ?_))) <;> (try simp only [go_sem, seval, hq]))
      | (simp (disch := omega) only [wrap_ok])
      | (refine hnext () _ ?_ (by refine ⟨by simp [mkS], by simp [mkS], by simp [mkS, O.refsLt, C.refsLt, C.refsLt1], ?_⟩; simp [mkS, Abs.get, C.refsLtT, C.refsLt, C.refsLt1]))
      | ((first
        | (refine (goalVars_fn _ (by assumption) (by first | omega | assumption | (simp; done) | (simp; omega))).calls rfl ?_)
        | (refine (goalVars_fn _ (by assumption) (by first | omega | assumption | (simp; done) | (simp; omega))).callQ rfl ?_)
        | (refine ⟨by first | omega | assumption | (simp; done) | (simp; omega), ?_⟩)) <;> (try simp only [go_sem, seval]))
      | assumption)
    all_goals clear hnext
    all_goals first | (rw [← hinv, decide_eq_false (by omega)]; rfl) | (rw [← hinv, decide_eq_true (by omega)]; rfl)
  · rw [List.all_nil] at hinv
    refine run_sound Tryz.func154 mixed 200 _ _ (by kernel_rfl) ?_
    simp only [go_sem, seval]
    rw [hinv]

theorem cf1_clo (p : Pg) (gb : List D) : Clo Tryz.prog 219 [.ptr 0 0, .ptr 2 0] 3 (fun x : Gl => D.agg x.enc) (fun b : Bool => [.box (p.enc.map .d), .box (gb.map .d), .box [.d (.bool b)]]) (fun _ => True) (fun b x => b && p.fitC x) := by
  refine ⟨by kernel_rfl, rfl, fun _ => rfl, fun a => by simp only [List.all_cons, List.all_nil, O.refsLt, all_dmap, C.refsLt, C.refsLt1]; rfl, fun a x _ => ?_⟩
  have h1 := fun h => Pg.fitC_other (p := p) (x := x) h
  have h2 := fun h hf => Pg.fitC_neg (p := p) (x := x) h hf
  have h3 := fun h hf r hr => Pg.fitC_at (p := p) (x := x) h hf (r := r) hr
  have hr := Pg.find_range p x.name
  generalize p.fitC x = N at h1 h2 h3 ⊢
  refine ACalls.enter (fn := Tryz.f219) Tryz.func219 rfl (by show 3 ≤ _; decide) ?_
  refine run_sound Tryz.func219 mixed 200 _ _ (by kernel_rfl) ?_
  simp only [go_sem, seval]
  repeat' (first
    | ((first | (refine br_intro (fun hq => ?_) (fun hq => ?_) <;> (try simp only [decide_eq_true_eq, decide_eq_false_iff_not, bne_iff_ne, beq_iff_eq, beq_eq_false_iff_ne, bne_eq_false_iff_eq, Bool.not_eq_true, Bool.not_eq_false, ne_eq, Decidable.not_not, Int.not_lt, Int.not_le, Bool.not_eq_eq_eq_not, Bool.not_true, Bool.not_false, gt_iff_lt, ge_iff_le, Bool.and_eq_true, Bool.or_eq_true, Bool.or_eq_false_iff, Bool.and_eq_false_imp] at hq)) | (refine idx_intro (fun x hx => have hq := hx; ?_))) <;> (try simp only [go_sem, seval, hq]))
    | (simp (disch := omega) only [wrap_ok])
    | ((first
      | (refine (relation_fn _ _).calls rfl ?_)
      | (refine (relation_fn _ _).callQ rfl ?_)
      | (refine ⟨by first | omega | assumption | (simp; done) | (simp; omega), ?_⟩)) <;> (try simp only [go_sem, seval]))
    | assumption)
  all_goals (refine ⟨by simp only [all_dmap, Bool.and_self], ?_⟩; congr 6)
  · rw [h3 (by assumption) (by assumption) _ hx, decide_eq_false (by assumption), Bool.and_false]
  · rw [h3 (by assumption) (by assumption) _ hx, decide_eq_true (by assumption), Bool.and_true]
  · rw [h2 (by assumption) (by assumption), Bool.and_false]
  · rw [h1 (by assumption), Bool.and_true]

theorem callsFit_fn (p : Pg) (g : Gl) : Gives Tryz.prog 155 [.agg p.enc, .agg g.enc] (.d (.bool (p.callsFit g))) := by
  have e1 := eachGoal_fn (cf1_clo p g.enc) g true (fun _ _ => trivial)
  rw [foldl_all, Bool.true_and] at e1
  have hc : p.callsFit g = g.subs.all p.fitC := rfl
  rw [hc]
  generalize g.subs.all p.fitC = N at e1 ⊢
  refine ACalls.enter (fn := Tryz.f155) Tryz.func155 rfl (by show 2 ≤ _; decide) ?_
  refine run_sound Tryz.func155 mixed 200 _ _ (by kernel_rfl) ?_
  simp only [go_sem, seval]
  repeat' (first
    | ((first | (refine br_intro (fun hq => ?_) (fun hq => ?_) <;> (try simp only [decide_eq_true_eq, decide_eq_false_iff_not, bne_iff_ne, beq_iff_eq, beq_eq_false_iff_ne, bne_eq_false_iff_eq, Bool.not_eq_true, Bool.not_eq_false, ne_eq, Decidable.not_not, Int.not_lt, Int.not_le, Bool.not_eq_eq_eq_not, Bool.not_true, Bool.not_false, gt_iff_lt, ge_iff_le, Bool.and_eq_true, Bool.or_eq_true, Bool.or_eq_false_iff, Bool.and_eq_false_imp] at hq)) | (refine idx_intro (fun x hx => have hq := hx; ?_))) <;> (try simp only [go_sem, seval, hq]))
    | (simp (disch := omega) only [wrap_ok])
    | ((first
      | (refine ACalls.mono e1 ?_ <;> (rintro c H' ⟨rfl, rfl⟩))
      | (refine ⟨by first | omega | assumption | (simp; done) | (simp; omega), ?_⟩)) <;> (try simp only [go_sem, seval]))
    | assumption)

theorem l14Calls_fn (p : Pg) : ∀ (t : Gl), t.shape = true → Gives Tryz.prog 227 [.agg p.enc, .agg t.enc] (.d (.bool (p.callsFit t))) := by
  intro t
  induction t using Gl.ind' with
  | h t ih =>
    intro hs
    have h0 := Pg.callsFit_eq p t
    have h1 := fun h => Pg.fitC_other (p := p) (x := t) h
    have h2 := fun h hf => Pg.fitC_neg (p := p) (x := t) h hf
    have h3 := fun h hf r hr => Pg.fitC_at (p := p) (x := t) h hf (r := r) hr
    have hr := Pg.find_range p t.name
    have hg : ∀ x, x ∈ t.goals → x.shape = true := fun x hx => by
      rw [Gl.shape_eq] at hs; simp only [Bool.and_eq_true, List.all_eq_true] at hs; exact hs.2 x hx
    have h9 : t.kind = 9 → t.goals = [] := fun h => by
      rw [Gl.shape_eq] at hs; simp only [Bool.and_eq_true] at hs
      have := Gl.form_inv hs.1.1
      exact List.eq_nil_of_length_eq_zero (by omega)
    generalize p.callsFit t = N at h0 ⊢
    generalize p.fitC t = M at h0 h1 h2 h3
    refine ACalls.enter (fn := Tryz.f227) Tryz.func227 rfl (by show 2 ≤ _; decide) ?_
    refine run_sound Tryz.func227 mixed 200 _ _ (by kernel_rfl) ?_
    simp only [go_sem, seval]
    repeat' (first
      | ((first | (refine br_intro (fun hq => ?_) (fun hq => ?_) <;> (try simp only [decide_eq_true_eq, decide_eq_false_iff_not, bne_iff_ne, beq_iff_eq, beq_eq_false_iff_ne, bne_eq_false_iff_eq, Bool.not_eq_true, Bool.not_eq_false, ne_eq, Decidable.not_not, Int.not_lt, Int.not_le, Bool.not_eq_eq_eq_not, Bool.not_true, Bool.not_false, gt_iff_lt, ge_iff_le, Bool.and_eq_true, Bool.or_eq_true, Bool.or_eq_false_iff, Bool.and_eq_false_imp] at hq)) | (refine idx_intro (fun x hx => have hq := hx; ?_))) <;> (try simp only [go_sem, seval, hq]))
      | (simp (disch := omega) only [wrap_ok])
      | ((first
        | (refine (l14Find_fn _ _).calls rfl ?_)
        | (refine (l14Find_fn _ _).callQ rfl ?_)
        | (refine ⟨by first | omega | assumption | (simp; done) | (simp; omega), ?_⟩)) <;> (try simp only [go_sem, seval]))
      | assumption)
    all_goals try (rw [h9 (by assumption), List.all_nil, Bool.and_true] at h0; subst h0)
    · rw [h3 (by assumption) (by assumption) _ hx]
    · rw [h2 (by assumption) (by assumption)]
    rw [h1 (by assumption), Bool.true_and] at h0
    refine AW.rng t.goals [2, 30, 31] 32 30 (fun _ : Unit => []) (fun H _ => H) (fun r _ => r.all p.callsFit = N) () rfl (by simp) h0.symm (by refine ⟨by simp [mkS], by simp [mkS], by simp [mkS, O.refsLt, C.refsLt, C.refsLt1], ?_⟩; simp [mkS, Abs.get, C.refsLtT, C.refsLt, C.refsLt1]) (fun i x r acc hxi hdr hlt hm hinv hnext => ?_) (fun acc hinv => ?_)
    · have hx := List.mem_of_getElem? hxi
      have ihx := ih x hx (hg x hx)
      rw [List.all_cons] at hinv
      refine run_sound Tryz.func227 mixed 200 _ _ (by kernel_rfl) ?_
      simp only [go_sem, seval, hlt, idx_of hxi]
      repeat' (first
        | ((first | (refine br_intro (fun hq => ?_) (fun hq => ?_) <;> (try simp only [decide_eq_true_eq, decide_eq_false_iff_not, bne_iff_ne, beq_iff_eq, beq_eq_false_iff_ne, bne_eq_false_iff_eq, Bool.not_eq_true, Bool.not_eq_false, ne_eq, Decidable.not_not, Int.not_lt, Int.not_le, Bool.not_eq_eq_eq_not, Bool.not_true, Bool.not_false, gt_iff_lt, ge_iff_le, Bool.and_eq_true, Bool.or_eq_true, Bool.or_eq_false_iff, Bool.and_eq_false_imp] at hq)) | (refine idx_intro (fun x hx => have hq := hx; ?_))) <;> (try simp only [go_sem, seval, hq]))
        | (simp (disch := omega) only [wrap_ok])
        | (refine hnext () _ ?_ (by refine ⟨by simp [mkS], by simp [mkS], by simp [mkS, O.refsLt, C.refsLt, C.refsLt1], ?_⟩; simp [mkS, Abs.get, C.refsLtT, C.refsLt, C.refsLt1]))
        | ((first
          | (refine ihx.calls rfl ?_)
          | (refine (l14Find_fn _ _).calls rfl ?_)
          | (refine (l14Find_fn _ _).callQ rfl ?_)
          | (refine ⟨by first | omega | assumption | (simp; done) | (simp; omega), ?_⟩)) <;> (try simp only [go_sem, seval]))
        | assumption)
      all_goals clear hnext ihx ih
      all_goals (rw [← hinv]; simp [*]; done)
    · rw [List.all_nil] at hinv
      refine run_sound Tryz.func227 mixed 200 _ _ (by kernel_rfl) ?_
      simp only [go_sem, seval]
      rw [hinv]

theorem l14Fits_fn (p : Pg) (g : Gl) (n : Int) (hw : wtL g.enc ≤ 1048576) : Gives Tryz.prog 166 [.agg p.enc, .agg g.enc, .int .i64 n] (.d (.bool (p.fits g n))) := by
  have hvw := Gl.vars_wt g
  have hasc : Asc [] := by simp [Asc]
  have hnil : (g.vars.foldl insA []) = ascOf g.vars := rfl
  have hN : p.fits g n = (glOk g && (ascOf g.vars).all (fun v => decide (v < n)) && p.callsFit g) := by rw [below_asc]; rfl
  have hlast := fun {m x} => below_last (ascOf_asc g.vars) n (m := m) (x := x)
  have hal : (ascOf g.vars).length ≤ 0 + g.vars.length := foldA_len
  have hempty : (ascOf g.vars).length = 0 → (ascOf g.vars).all (fun v => decide (v < n)) = true := fun h => by rw [List.eq_nil_of_length_eq_zero h]; rfl
  generalize p.fits g n = N at hN ⊢
  by_cases hok : glOk g = true
  · have hs := glOk_shape hok
    generalize hb : p.callsFit g = b at hN
    refine ACalls.enter (fn := Tryz.f166) Tryz.func166 rfl (by show 3 ≤ _; decide) ?_
    refine run_sound Tryz.func166 mixed 200 _ _ (by kernel_rfl) ?_
    simp only [go_sem, seval, hok, hb]
    repeat' (first
      | ((first | (refine br_intro (fun hq => ?_) (fun hq => ?_) <;> (try simp only [decide_eq_true_eq, decide_eq_false_iff_not, bne_iff_ne, beq_iff_eq, beq_eq_false_iff_ne, bne_eq_false_iff_eq, Bool.not_eq_true, Bool.not_eq_false, ne_eq, Decidable.not_not, Int.not_lt, Int.not_le, Bool.not_eq_eq_eq_not, Bool.not_true, Bool.not_false, gt_iff_lt, ge_iff_le, Bool.and_eq_true, Bool.or_eq_true, Bool.or_eq_false_iff, Bool.and_eq_false_imp] at hq)) | (refine idx_intro (fun x hx => have hq := hx; ?_))) <;> (try simp only [go_sem, seval, hnil, hok, hb, hq]))
      | (simp (disch := omega) only [wrap_ok])
      | ((first
        | (refine (l13Vars_fn g [] hasc (by simp; omega)).calls rfl ?_)
        | (refine (sGoalOk_fn _ (by first | omega | assumption | (simp; done) | (simp; omega))).calls rfl ?_)
        | (refine (sGoalOk_fn _ (by first | omega | assumption | (simp; done) | (simp; omega))).callQ rfl ?_)
        | (refine (l14Calls_fn _ _ (by assumption)).calls rfl ?_)
        | (refine (l14Calls_fn _ _ (by assumption)).callQ rfl ?_)
        | (refine (l13Vars_fn _ _ (by assumption) (by first | omega | assumption | (simp; done) | (simp; omega))).calls rfl ?_)
        | (refine (l13Vars_fn _ _ (by assumption) (by first | omega | assumption | (simp; done) | (simp; omega))).callQ rfl ?_)
        | (refine ⟨by first | omega | assumption | (simp; done) | (simp; omega), ?_⟩)) <;> (try simp only [go_sem, seval, hnil, hok, hb]))
      | assumption)
    all_goals rw [hN]
    · rw [hq, Bool.and_false]
    · rw [hlast (m := ((ascOf g.vars).length - 1 : Int).toNat) (by omega) hx, hok]; simp [*]
    · rw [hempty (by omega), hok]; simp [*]
  · simp only [Bool.not_eq_true] at hok
    rw [hN, hok]
    refine ACalls.enter (fn := Tryz.f166) Tryz.func166 rfl (by show 3 ≤ _; decide) ?_
    refine run_sound Tryz.func166 mixed 200 _ _ (by kernel_rfl) ?_
    simp only [go_sem, seval, hok]
    repeat' (first
      | ((first | (refine br_intro (fun hq => ?_) (fun hq => ?_) <;> (try simp only [decide_eq_true_eq, decide_eq_false_iff_not, bne_iff_ne, beq_iff_eq, beq_eq_false_iff_ne, bne_eq_false_iff_eq, Bool.not_eq_true, Bool.not_eq_false, ne_eq, Decidable.not_not, Int.not_lt, Int.not_le, Bool.not_eq_eq_eq_not, Bool.not_true, Bool.not_false, gt_iff_lt, ge_iff_le, Bool.and_eq_true, Bool.or_eq_true, Bool.or_eq_false_iff, Bool.and_eq_false_imp] at hq)) | (refine idx_intro (fun x hx => have hq := hx; ?_))) <;> (try simp only [go_sem, seval, hok, hq]))
      | (simp (disch := omega) only [wrap_ok])
      | ((first
        | (refine (sGoalOk_fn _ (by first | omega | assumption | (simp; done) | (simp; omega))).calls rfl ?_)
        | (refine (sGoalOk_fn _ (by first | omega | assumption | (simp; done) | (simp; omega))).callQ rfl ?_)
        | (refine (l14Calls_fn _ _ (by assumption)).calls rfl ?_)
        | (refine (l14Calls_fn _ _ (by assumption)).callQ rfl ?_)
        | (refine (l13Vars_fn _ _ (by assumption) (by first | omega | assumption | (simp; done) | (simp; omega))).calls rfl ?_)
        | (refine (l13Vars_fn _ _ (by assumption) (by first | omega | assumption | (simp; done) | (simp; omega))).callQ rfl ?_)
        | (refine ⟨by first | omega | assumption | (simp; done) | (simp; omega), ?_⟩)) <;> (try simp only [go_sem, seval, hok]))
      | assumption)

theorem iProgramOk_fn (p : Pg) (hw : wtL p.enc ≤ 1048576) : Gives Tryz.prog 76 [.agg p.enc] (.d (.bool (pgOk p))) := by
  have hP : pgOk p = (decide (p.rels.length ≤ 8) && p.okL p.rels) := rfl
  have hwr : ∀ r, r ∈ p.rels → wtL r.body.enc ≤ 1048576 ∧ r.name.length ≤ 1048576 := fun r hr => by
    have := Pg.wt_rels hr; have := Rl.wt_body r; omega
  generalize pgOk p = N at hP ⊢
  refine ACalls.enter (fn := Tryz.f76) Tryz.func76 rfl (by show 1 ≤ _; decide) ?_
  refine run_sound Tryz.func76 mixed 200 _ _ (by kernel_rfl) ?_
  simp only [go_sem, seval]
  repeat' (first
    | ((first | (refine br_intro (fun hq => ?_) (fun hq => ?_) <;> (try simp only [decide_eq_true_eq, decide_eq_false_iff_not, bne_iff_ne, beq_iff_eq, beq_eq_false_iff_ne, bne_eq_false_iff_eq, Bool.not_eq_true, Bool.not_eq_false, ne_eq, Decidable.not_not, Int.not_lt, Int.not_le, Bool.not_eq_eq_eq_not, Bool.not_true, Bool.not_false, gt_iff_lt, ge_iff_le, Bool.and_eq_true, Bool.or_eq_true, Bool.or_eq_false_iff, Bool.and_eq_false_imp] at hq)) | (refine idx_intro (fun x hx => have hq := hx; ?_))) <;> (try simp only [go_sem, seval, hq]))
    | (simp (disch := omega) only [wrap_ok])
    | ((first
      | (refine (relation_fn _ _).calls rfl ?_)
      | (refine (relation_fn _ _).callQ rfl ?_)
      | (refine (iIsRelName_fn _ (by first | omega | assumption | (simp; done) | (simp; omega))).calls rfl ?_)
      | (refine (iIsRelName_fn _ (by first | omega | assumption | (simp; done) | (simp; omega))).callQ rfl ?_)
      | (refine (goalNodes_fn _ _ (by first | omega | assumption | (simp; done) | (simp; omega)) (by first | omega | assumption | (simp; done) | (simp; omega)) (by first | omega | assumption | (simp; done) | (simp; omega))).calls rfl ?_)
      | (refine (goalNodes_fn _ _ (by first | omega | assumption | (simp; done) | (simp; omega)) (by first | omega | assumption | (simp; done) | (simp; omega)) (by first | omega | assumption | (simp; done) | (simp; omega))).callQ rfl ?_)
      | (refine (varsBelow_fn _ _ (by assumption) (by first | omega | assumption | (simp; done) | (simp; omega))).calls rfl ?_)
      | (refine (varsBelow_fn _ _ (by assumption) (by first | omega | assumption | (simp; done) | (simp; omega))).callQ rfl ?_)
      | (refine (callsFit_fn _ _).calls rfl ?_)
      | (refine (callsFit_fn _ _).callQ rfl ?_)
      | (refine ⟨by first | omega | assumption | (simp; done) | (simp; omega), ?_⟩)) <;> (try simp only [go_sem, seval]))
    | assumption)
  · rw [hP, decide_eq_false (by omega)]; rfl
  rw [decide_eq_true (by omega), Bool.true_and] at hP
  refine AW.rng p.rels [1, 10, 11] 12 10 (fun _ : Unit => []) (fun H _ => H) (fun r _ => p.okL r = N) () rfl (by simp) hP.symm (by refine ⟨by simp [mkS], by simp [mkS], by simp [mkS, O.refsLt, C.refsLt, C.refsLt1], ?_⟩; simp [mkS, Abs.get, C.refsLtT, C.refsLt, C.refsLt1]) (fun i x r acc hxi hdr hlt hm hinv hnext => ?_) (fun acc hinv => ?_)
  · have hdl := drop_len hdr
    obtain ⟨w1, w2⟩ := hwr x (List.mem_of_getElem? hxi)
    simp only [Pg.okL, hdl] at hinv
    have hM : p.relOk i x = true ↔ p.find x.name = i ∧ isRel x.name = true ∧ (0 ≤ x.arity ∧ x.arity ≤ 4) ∧ (0 ≤ x.locals ∧ x.locals ≤ 8) ∧ x.body.cnt ≤ 60 ∧ x.body.shape = true ∧ x.body.varsLt (x.arity + x.locals) = true ∧ p.callsFit x.body = true := by
      unfold Pg.relOk
      simp only [Bool.and_eq_true, decide_eq_true_eq, and_assoc]
    have hgo : glOk x.body = true ↔ x.body.cnt ≤ 80 ∧ x.body.shape = true := by unfold glOk; simp
    have hcs := Gl.count_spec x.body 80
    have hcp := Gl.cnt_pos x.body
    have hsh : 0 ≤ x.body.nodes 60 ↔ x.body.shape = true ∧ x.body.cnt ≤ 60 := by
      unfold Gl.nodes
      by_cases h : x.body.shape = true ∧ (x.body.cnt : Int) ≤ 60
      · rw [if_pos h]; exact ⟨fun _ => ⟨h.1, by omega⟩, fun _ => by omega⟩
      · rw [if_neg h]; exact ⟨fun h' => by omega, fun h' => absurd ⟨h'.1, by omega⟩ h⟩
    obtain ⟨z, hz, hz1⟩ : ∃ z : Int, (if glOk x.body = true then x.body.countF 80 else 0) = z ∧ (glOk x.body = true → z = x.body.cnt) := ⟨_, rfl, fun h => by rw [if_pos h]; have := (hgo.1 h).1; omega⟩
    have hfi : p.fits x.body (x.arity + x.locals) = true ↔ glOk x.body = true ∧ x.body.varsLt (x.arity + x.locals) = true ∧ p.callsFit x.body = true := by unfold Pg.fits; simp only [Bool.and_eq_true, and_assoc]
    generalize p.relOk i x = M at hM hinv
    generalize hb1 : p.callsFit x.body = b1 at hM hfi
    generalize hb3 : p.fits x.body (x.arity + x.locals) = b3 at hfi
    have hfl : ¬ M = true → N = false := fun h => by rw [← hinv, Bool.eq_false_iff.2 h]; rfl
    have htr : M = true → p.okL r = N := fun h => by rw [← hinv, h]; rfl
    clear hinv
    refine run_sound Tryz.func76 mixed 200 _ _ (by kernel_rfl) ?_
    simp only [go_sem, seval, hlt, idx_of hxi]
    repeat' (first
      | ((first | (refine br_intro (fun hq => ?_) (fun hq => ?_) <;> (try simp only [decide_eq_true_eq, decide_eq_false_iff_not, bne_iff_ne, beq_iff_eq, beq_eq_false_iff_ne, bne_eq_false_iff_eq, Bool.not_eq_true, Bool.not_eq_false, ne_eq, Decidable.not_not, Int.not_lt, Int.not_le, Bool.not_eq_eq_eq_not, Bool.not_true, Bool.not_false, gt_iff_lt, ge_iff_le, Bool.and_eq_true, Bool.or_eq_true, Bool.or_eq_false_iff, Bool.and_eq_false_imp] at hq)) | (refine idx_intro (fun x hx => have hq := hx; ?_))) <;> (try simp only [go_sem, seval, hb1, hb3, hz, hq]))
      | (simp (disch := omega) only [wrap_ok])
      | (refine hnext () _ ?_ (by refine ⟨by simp [mkS], by simp [mkS], by simp [mkS, O.refsLt, C.refsLt, C.refsLt1], ?_⟩; simp [mkS, Abs.get, C.refsLtT, C.refsLt, C.refsLt1]))
      | ((first
        | (refine (varsBelow_fn _ _ (hsh.1 (by omega)).1 (by omega)).calls rfl ?_)
        | (refine (relation_fn _ _).calls rfl ?_)
        | (refine (relation_fn _ _).callQ rfl ?_)
        | (refine (iIsRelName_fn _ (by first | omega | assumption | (simp; done) | (simp; omega))).calls rfl ?_)
        | (refine (iIsRelName_fn _ (by first | omega | assumption | (simp; done) | (simp; omega))).callQ rfl ?_)
        | (refine (goalNodes_fn _ _ (by first | omega | assumption | (simp; done) | (simp; omega)) (by first | omega | assumption | (simp; done) | (simp; omega)) (by first | omega | assumption | (simp; done) | (simp; omega))).calls rfl ?_)
        | (refine (goalNodes_fn _ _ (by first | omega | assumption | (simp; done) | (simp; omega)) (by first | omega | assumption | (simp; done) | (simp; omega)) (by first | omega | assumption | (simp; done) | (simp; omega))).callQ rfl ?_)
        | (refine (varsBelow_fn _ _ (by assumption) (by first | omega | assumption | (simp; done) | (simp; omega))).calls rfl ?_)
        | (refine (varsBelow_fn _ _ (by assumption) (by first | omega | assumption | (simp; done) | (simp; omega))).callQ rfl ?_)
        | (refine (callsFit_fn _ _).calls rfl ?_)
        | (refine (callsFit_fn _ _).callQ rfl ?_)
        | (refine ⟨by first | omega | assumption | (simp; done) | (simp; omega), ?_⟩)) <;> (try simp only [go_sem, seval, hb1, hb3, hz]))
      | assumption)
    all_goals clear hnext hz
    all_goals first
      | (rw [hfl (fun h => by obtain ⟨m1, m2, m3, m4, m5, m6, m7, m8⟩ := hM.1 h; have hg := hgo.2 ⟨by omega, m6⟩; have hs2 := hsh.2 ⟨m6, m5⟩; have hf2 := hfi.2 ⟨hg, m7, m8⟩; have hz2 := hz1 hg; clear hcs hgo hsh hfi hM hfl htr hz1; first | omega | simp_all)]; done)
      | (refine htr (hM.2 ?_); have hs1 := hsh.1 (by omega); exact ⟨by assumption, by assumption, by omega, by omega, hs1.2, hs1.1, by assumption, by assumption⟩)
      | (refine htr (hM.2 ?_); obtain ⟨f1, f2, f3⟩ := hfi.1 (by assumption); obtain ⟨g1, g2⟩ := hgo.1 f1; have hz2 := hz1 f1; exact ⟨by assumption, by assumption, by omega, by omega, by omega, g2, f2, f3⟩)
      | skip
  · simp only [Pg.okL] at hinv
    refine run_sound Tryz.func76 mixed 200 _ _ (by kernel_rfl) ?_
    simp only [go_sem, seval]
    rw [hinv]

theorem sProgramOk_fn (p : Pg) (hw : wtL p.enc ≤ 1048576) : Gives Tryz.prog 93 [.agg p.enc] (.d (.bool (pgOk p))) := by
  have hP : pgOk p = (decide (p.rels.length ≤ 8) && p.okL p.rels) := rfl
  have hwr : ∀ r, r ∈ p.rels → wtL r.body.enc ≤ 1048576 ∧ r.name.length ≤ 1048576 := fun r hr => by
    have := Pg.wt_rels hr; have := Rl.wt_body r; omega
  generalize pgOk p = N at hP ⊢
  refine ACalls.enter (fn := Tryz.f93) Tryz.func93 rfl (by show 1 ≤ _; decide) ?_
  refine run_sound Tryz.func93 mixed 200 _ _ (by kernel_rfl) ?_
  simp only [go_sem, seval]
  repeat' (first
    | ((first | (refine br_intro (fun hq => ?_) (fun hq => ?_) <;> (try simp only [decide_eq_true_eq, decide_eq_false_iff_not, bne_iff_ne, beq_iff_eq, beq_eq_false_iff_ne, bne_eq_false_iff_eq, Bool.not_eq_true, Bool.not_eq_false, ne_eq, Decidable.not_not, Int.not_lt, Int.not_le, Bool.not_eq_eq_eq_not, Bool.not_true, Bool.not_false, gt_iff_lt, ge_iff_le, Bool.and_eq_true, Bool.or_eq_true, Bool.or_eq_false_iff, Bool.and_eq_false_imp] at hq)) | (refine idx_intro (fun x hx => have hq := hx; ?_))) <;> (try simp only [go_sem, seval, hq]))
    | (simp (disch := omega) only [wrap_ok])
    | ((first
      | (refine (l01In_fn _ _ _).calls rfl ?_)
      | (refine (l01In_fn _ _ _).callQ rfl ?_)
      | (refine (l14Find_fn _ _).calls rfl ?_)
      | (refine (l14Find_fn _ _).callQ rfl ?_)
      | (refine (sIsRelName_fn _ (by first | omega | assumption | (simp; done) | (simp; omega))).calls rfl ?_)
      | (refine (sIsRelName_fn _ (by first | omega | assumption | (simp; done) | (simp; omega))).callQ rfl ?_)
      | (refine (l14Fits_fn _ _ _ (by first | omega | assumption | (simp; done) | (simp; omega))).calls rfl ?_)
      | (refine (l14Fits_fn _ _ _ (by first | omega | assumption | (simp; done) | (simp; omega))).callQ rfl ?_)
      | (refine (sGoalSize_fn _ (by first | omega | assumption | (simp; done) | (simp; omega))).calls rfl ?_)
      | (refine (sGoalSize_fn _ (by first | omega | assumption | (simp; done) | (simp; omega))).callQ rfl ?_)
      | (refine ⟨by first | omega | assumption | (simp; done) | (simp; omega), ?_⟩)) <;> (try simp only [go_sem, seval]))
    | assumption)
  · rw [hP, decide_eq_false (by omega)]; rfl
  rw [decide_eq_true (by omega), Bool.true_and] at hP
  refine AW.rng p.rels [1, 10, 11] 12 10 (fun _ : Unit => []) (fun H _ => H) (fun r _ => p.okL r = N) () rfl (by simp) hP.symm (by refine ⟨by simp [mkS], by simp [mkS], by simp [mkS, O.refsLt, C.refsLt, C.refsLt1], ?_⟩; simp [mkS, Abs.get, C.refsLtT, C.refsLt, C.refsLt1]) (fun i x r acc hxi hdr hlt hm hinv hnext => ?_) (fun acc hinv => ?_)
  · have hdl := drop_len hdr
    obtain ⟨w1, w2⟩ := hwr x (List.mem_of_getElem? hxi)
    simp only [Pg.okL, hdl] at hinv
    have hM : p.relOk i x = true ↔ p.find x.name = i ∧ isRel x.name = true ∧ (0 ≤ x.arity ∧ x.arity ≤ 4) ∧ (0 ≤ x.locals ∧ x.locals ≤ 8) ∧ x.body.cnt ≤ 60 ∧ x.body.shape = true ∧ x.body.varsLt (x.arity + x.locals) = true ∧ p.callsFit x.body = true := by
      unfold Pg.relOk
      simp only [Bool.and_eq_true, decide_eq_true_eq, and_assoc]
    have hgo : glOk x.body = true ↔ x.body.cnt ≤ 80 ∧ x.body.shape = true := by unfold glOk; simp
    have hcs := Gl.count_spec x.body 80
    have hcp := Gl.cnt_pos x.body
    have hsh : 0 ≤ x.body.nodes 60 ↔ x.body.shape = true ∧ x.body.cnt ≤ 60 := by
      unfold Gl.nodes
      by_cases h : x.body.shape = true ∧ (x.body.cnt : Int) ≤ 60
      · rw [if_pos h]; exact ⟨fun _ => ⟨h.1, by omega⟩, fun _ => by omega⟩
      · rw [if_neg h]; exact ⟨fun h' => by omega, fun h' => absurd ⟨h'.1, by omega⟩ h⟩
    obtain ⟨z, hz, hz1⟩ : ∃ z : Int, (if glOk x.body = true then x.body.countF 80 else 0) = z ∧ (glOk x.body = true → z = x.body.cnt) := ⟨_, rfl, fun h => by rw [if_pos h]; have := (hgo.1 h).1; omega⟩
    have hfi : p.fits x.body (x.arity + x.locals) = true ↔ glOk x.body = true ∧ x.body.varsLt (x.arity + x.locals) = true ∧ p.callsFit x.body = true := by unfold Pg.fits; simp only [Bool.and_eq_true, and_assoc]
    generalize p.relOk i x = M at hM hinv
    generalize hb1 : p.callsFit x.body = b1 at hM hfi
    generalize hb3 : p.fits x.body (x.arity + x.locals) = b3 at hfi
    have hfl : ¬ M = true → N = false := fun h => by rw [← hinv, Bool.eq_false_iff.2 h]; rfl
    have htr : M = true → p.okL r = N := fun h => by rw [← hinv, h]; rfl
    clear hinv
    refine run_sound Tryz.func93 mixed 200 _ _ (by kernel_rfl) ?_
    simp only [go_sem, seval, hlt, idx_of hxi]
    repeat' (first
      | ((first | (refine br_intro (fun hq => ?_) (fun hq => ?_) <;> (try simp only [decide_eq_true_eq, decide_eq_false_iff_not, bne_iff_ne, beq_iff_eq, beq_eq_false_iff_ne, bne_eq_false_iff_eq, Bool.not_eq_true, Bool.not_eq_false, ne_eq, Decidable.not_not, Int.not_lt, Int.not_le, Bool.not_eq_eq_eq_not, Bool.not_true, Bool.not_false, gt_iff_lt, ge_iff_le, Bool.and_eq_true, Bool.or_eq_true, Bool.or_eq_false_iff, Bool.and_eq_false_imp] at hq)) | (refine idx_intro (fun x hx => have hq := hx; ?_))) <;> (try simp only [go_sem, seval, hb1, hb3, hz, hq]))
      | (simp (disch := omega) only [wrap_ok])
      | (refine hnext () _ ?_ (by refine ⟨by simp [mkS], by simp [mkS], by simp [mkS, O.refsLt, C.refsLt, C.refsLt1], ?_⟩; simp [mkS, Abs.get, C.refsLtT, C.refsLt, C.refsLt1]))
      | ((first
        | (refine (varsBelow_fn _ _ (hsh.1 (by omega)).1 (by omega)).calls rfl ?_)
        | (refine (l01In_fn _ _ _).calls rfl ?_)
        | (refine (l01In_fn _ _ _).callQ rfl ?_)
        | (refine (l14Find_fn _ _).calls rfl ?_)
        | (refine (l14Find_fn _ _).callQ rfl ?_)
        | (refine (sIsRelName_fn _ (by first | omega | assumption | (simp; done) | (simp; omega))).calls rfl ?_)
        | (refine (sIsRelName_fn _ (by first | omega | assumption | (simp; done) | (simp; omega))).callQ rfl ?_)
        | (refine (l14Fits_fn _ _ _ (by first | omega | assumption | (simp; done) | (simp; omega))).calls rfl ?_)
        | (refine (l14Fits_fn _ _ _ (by first | omega | assumption | (simp; done) | (simp; omega))).callQ rfl ?_)
        | (refine (sGoalSize_fn _ (by first | omega | assumption | (simp; done) | (simp; omega))).calls rfl ?_)
        | (refine (sGoalSize_fn _ (by first | omega | assumption | (simp; done) | (simp; omega))).callQ rfl ?_)
        | (refine ⟨by first | omega | assumption | (simp; done) | (simp; omega), ?_⟩)) <;> (try simp only [go_sem, seval, hb1, hb3, hz]))
      | assumption)
    all_goals clear hnext hz
    all_goals first
      | (rw [hfl (fun h => by obtain ⟨m1, m2, m3, m4, m5, m6, m7, m8⟩ := hM.1 h; have hg := hgo.2 ⟨by omega, m6⟩; have hs2 := hsh.2 ⟨m6, m5⟩; have hf2 := hfi.2 ⟨hg, m7, m8⟩; have hz2 := hz1 hg; clear hcs hgo hsh hfi hM hfl htr hz1; first | omega | simp_all)]; done)
      | (refine htr (hM.2 ?_); have hs1 := hsh.1 (by omega); exact ⟨by assumption, by assumption, by omega, by omega, hs1.2, hs1.1, by assumption, by assumption⟩)
      | (refine htr (hM.2 ?_); obtain ⟨f1, f2, f3⟩ := hfi.1 (by assumption); obtain ⟨g1, g2⟩ := hgo.1 f1; have hz2 := hz1 f1; exact ⟨by assumption, by assumption, by omega, by omega, by omega, g2, f2, f3⟩)
      | skip
  · simp only [Pg.okL] at hinv
    refine run_sound Tryz.func93 mixed 200 _ _ (by kernel_rfl) ?_
    simp only [go_sem, seval]
    rw [hinv]
end Go.Proofs.YtmnbmpplndgfmaaGreat

