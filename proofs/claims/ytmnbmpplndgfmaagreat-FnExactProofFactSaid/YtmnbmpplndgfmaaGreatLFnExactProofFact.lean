/- The law FnExactProofFact: both texts answer alike on every input. -/
import Derived.Test.YtmnbmpplndgfmaaGreatW43
import Derived.Test.YtmnbmpplndgfmaaGreatW30
import Derived.Test.YtmnbmpplndgfmaaGreatW42
import Derived.Test.YtmnbmpplndgfmaaGreatW24
import Derived.Test.YtmnbmpplndgfmaaGreatFam
namespace Go.Proofs.YtmnbmpplndgfmaaGreat
open Go.Abs
set_option maxRecDepth 100000
set_option maxHeartbeats 4000000
set_option linter.unusedSimpArgs false
set_option linter.unusedVariables false

theorem eqTm_fn : ∀ t : Tm, wtL t.enc ≤ 1048576 → Gives Tryz.prog 82 [.agg t.enc, .agg t.enc] (.d (.bool true)) := by
  intro t
  induction t using Tm.ind' with
  | h t ih =>
    intro hw
    have hmx : maxLen = 9223372036854775807 := rfl
    have hl : t.args.length ≤ 1048576 := by
      have h1 : wtR (t.args.map Tm.enc) ≤ 1048576 := by simp only [Tm.enc_eq t, wtL, D.wt] at hw; omega
      have := sumW_le (t.args.map Tm.enc) 0; simp [sumW] at this; omega
    rw [Tm.enc_eq t]
    refine eq82 _ _ _ _ (eq21 _ (by rw [List.length_map]; omega) (fun x hx => ?_))
    obtain ⟨y, hy, rfl⟩ := List.mem_map.1 hx
    exact ⟨Tm.enc_len y, ih y hy (by have := wt_args hy; omega)⟩
theorem eqTmS_fn (l : List Tm) (hw : wtR (l.map Tm.enc) ≤ 1048576) : Gives Tryz.prog 21 [.sl (l.map Tm.enc), .sl (l.map Tm.enc)] (.d (.bool true)) := by
  have hmx : maxLen = 9223372036854775807 := rfl
  have hl : l.length ≤ 1048576 := by
    have := sumW_le (l.map Tm.enc) 0; simp [sumW] at this; omega
  refine eq21 _ (by rw [List.length_map]; omega) (fun x hx => ?_)
  obtain ⟨y, hy, rfl⟩ := List.mem_map.1 hx
  exact ⟨Tm.enc_len y, eqTm_fn y (by have := wtL_lt (l.map Tm.enc) y.enc (List.mem_map.2 ⟨y, hy, rfl⟩); omega)⟩
theorem eqFc_fn (r : List UInt8) (l : List Tm) (hw : wtR (l.map Tm.enc) ≤ 1048576) : Gives Tryz.prog 50 [.agg [.str r, .sl (l.map Tm.enc)], .agg [.str r, .sl (l.map Tm.enc)]] (.d (.bool true)) := by
  have h := eqTmS_fn l hw
  refine ACalls.enter (fn := Tryz.f50) Tryz.func50 rfl (by show 2 ≤ _; decide) ?_
  refine run_sound Tryz.func50 mixed 200 _ _ (by kernel_rfl) ?_
  simp only [go_sem, seval]
  repeat' (first
    | ((first | (refine br_n (fun hq => ?_) (fun hq => ?_)) | (refine idx_intro (fun x hx => have hq := hx; ?_))) <;> (try simp only [go_sem, seval, hq]))
    | (simp (disch := omega) only [wrap_ok])
    | ((first
      | (refine h.calls rfl ?_)
      | (refine ⟨sd, ?_⟩)
      | (refine ⟨by assumption, ?_⟩)) <;> (try simp only [go_sem, seval]))
    | assumption)
theorem heldFc_fn (r : List UInt8) (l : List Tm) (k : Int) (h0 : 0 ≤ k) (h1 : k + Tm.mcnts l ≤ 1000000000) : Gives Tryz.prog 53 [.agg [.str r, .sl ((Tm.mrks k l).map Tm.enc)], .int .i64 k] (.d (.int .i64 (k + Tm.mcnts l))) := by
  have h := hTT_all l k h0 h1
  refine ACalls.enter (fn := Tryz.f53) Tryz.func53 rfl (by show 2 ≤ _; decide) ?_
  refine run_sound Tryz.func53 mixed 200 _ _ (by kernel_rfl) ?_
  simp only [go_sem, seval]
  repeat' (first
    | ((first | (refine br_n (fun hq => ?_) (fun hq => ?_)) | (refine idx_intro (fun x hx => have hq := hx; ?_))) <;> (try simp only [go_sem, seval, hq]))
    | (simp (disch := omega) only [wrap_ok])
    | ((first
      | (refine h.calls rfl ?_)
      | (refine ⟨sd, ?_⟩)
      | (refine ⟨by assumption, ?_⟩)) <;> (try simp only [go_sem, seval]))
    | assumption)
  all_goals first | (exfalso; omega) | skip
theorem markFc_T (r : List UInt8) (l : List Tm) (k : Int) (q0 z0 e0 q1 z1 e1 q2 z2 e2 : Nat) (xs0 xs1 xs2 : List (List D)) (B0 B1 B2 : Nat → Prop) (q e : Nat) (B : Nat → Prop) (h0 : 0 ≤ k) (h1 : k + Tm.mcnts l ≤ 1000000000) : ACalls Tryz.prog 52 [.agg [.d (.str r), .own 3 q], .d (.int .i64 k)] [.tree q0 z0 e0 xs0 B0 none, .tree q1 z1 e1 xs1 B1 none, .tree q2 z2 e2 xs2 B2 none, .tree q 4 e (l.map Tm.enc) B none] (fun c H' => c = .d (.int .i64 (k + Tm.mcnts l)) ∧ ∃ B', H' = [.tree q0 z0 e0 xs0 B0 none, .tree q1 z1 e1 xs1 B1 none, .tree q2 z2 e2 xs2 B2 none, .tree q 4 e ((Tm.mrks k l).map Tm.enc) B' none]) := by
  have h := mTT_all l k q e B h0 h1
  refine ACalls.enter (fn := Tryz.f52) Tryz.func52 rfl (by show 2 ≤ _; decide) ?_
  refine run_sound Tryz.func52 mixed 200 _ _ (by kernel_rfl) ?_
  simp only [go_sem, seval]
  repeat' (first
    | (exact ⟨_, rfl⟩)
    | ((first | (refine br_n (fun hq => ?_) (fun hq => ?_)) | (refine idx_intro (fun x hx => have hq := hx; ?_))) <;> (try simp only [go_sem, seval, C.at1, hq]))
    | (simp (disch := omega) only [wrap_ok])
    | ((first
      | (refine h.at1 rfl 3 rfl rfl ?_ <;> (rintro c o' ⟨rfl, B4, ho⟩; cases ho; refine ⟨rfl, rfl, ?_⟩))
      | (refine ⟨sd, ?_⟩)
      | (refine ⟨by assumption, ?_⟩)) <;> (try simp only [go_sem, seval, C.at1]))
    | assumption)
theorem markProof_T2 (t : Pf) (k : Int) (q0 z0 e0 : Nat) (xs0 : List (List D)) (B0 : Nat → Prop) (q q' e e' : Nat) (B B' : Nat → Prop) (h0 : 0 ≤ k) (h1 : k + t.mcnt ≤ 1000000000) :
    ACalls Tryz.prog 51 [.agg [.d (.str t.rel), .d (.int .i64 t.clause), .own 1 q, .own 2 q'], .d (.int .i64 k)] [.tree q0 z0 e0 xs0 B0 none, .tree q 4 e (t.values.map Tm.enc) B none, .tree q' 4 e' (t.kids.map Pf.enc) B' none]
      (fun c H' => c = .d (.int .i64 (k + Tm.mcnts t.values + Pf.mcnts t.kids)) ∧ ∃ B1 B2, H' = [.tree q0 z0 e0 xs0 B0 none, .tree q 4 e ((Tm.mrks k t.values).map Tm.enc) B1 none, .tree q' 4 e' ((Pf.mrks (k + Tm.mcnts t.values) t.kids).map Pf.enc) B2 none]) := by
  have hmc := Pf.mcnt_eq t
  refine ACalls.enter (fn := Tryz.f51) Tryz.func51 rfl (by show 2 ≤ _; decide) ?_
  refine run_sound Tryz.func51 mixed 200 _ _ (by kernel_rfl) ?_
  simp only [go_sem, seval]
  repeat' (first
    | (exact ⟨_, _, rfl⟩)
    | ((first | (refine br_n (fun hq => ?_) (fun hq => ?_)) | (refine idx_intro (fun x hx => have hq := hx; ?_))) <;> (try simp only [go_sem, seval, C.at1, hq]))
    | (simp (disch := omega) only [wrap_ok])
    | ((first
      | (refine (mTT_all t.values k q e B (by omega) (by omega)).at1 rfl 1 rfl rfl ?_ <;> (rintro c o' ⟨rfl, B4, ho⟩; cases ho; refine ⟨rfl, rfl, ?_⟩))
      | (refine (mPT_all t.kids (k + Tm.mcnts t.values) q' e' B' (by omega) (by omega)).at1 rfl 2 rfl rfl ?_ <;> (rintro c o' ⟨rfl, B4, ho⟩; cases ho; refine ⟨rfl, rfl, ?_⟩))
      | (refine ⟨sd, ?_⟩)
      | (refine ⟨by assumption, ?_⟩)) <;> (try simp only [go_sem, seval, C.at1]))
    | assumption)
theorem lawFnExactProofFact (a0 : Pg) (a1 : Pf) (ha0 : Sh Tryz.prog 24 (a0.enc)) (ha1 : Sh Tryz.prog 53 (a1.enc)) : Gives Tryz.prog 9 [.agg a0.enc, .agg a1.enc] (.d (.bool true)) := by
  have hsza0 := szc24 _ a0.enc (Nat.lt_succ_self _) ha0
  have htoa0 := fun hb => toc24 _ a0.enc (Nat.lt_succ_self _) hb ha0
  have heqa0 := eqc24 _ a0.enc (Nat.lt_succ_self _) ha0
  have hsza1 := szc53 _ a1.enc (Nat.lt_succ_self _) ha1
  have htoa1 := fun hb => toc53 _ a1.enc (Nat.lt_succ_self _) hb ha1
  have heqa1 := eqc53 _ a1.enc (Nat.lt_succ_self _) ha1
  refine ACalls.enter (fn := Tryz.f9) Tryz.func9 rfl (by show 2 ≤ _; decide) ?_
  refine AW.hole ?_
  refine AW.hole ?_
  refine AW.hole ?_
  refine AW.hole ?_
  refine AW.hole ?_
  refine run_sound Tryz.func9 mixed 19 _ _ (by kernel_rfl) ?_
  simp only [go_sem, seval, run.eq_1]
  refine (hsza0 _ (by omega) (by omega)).calls rfl ?_
  simp only [go_sem, seval]
  refine br_intro (fun hq => ?_) (fun hq => ?_)
  · simp only [go_sem, seval]
  simp only [decide_eq_false_iff_not] at hq
  have hwa0 := szr_ge hq
  rw [szr_pos hwa0]
  clear hq
  simp only [go_sem, seval]
  refine (hsza1 _ (by omega) (by omega)).calls rfl ?_
  simp only [go_sem, seval]
  refine br_intro (fun hq => ?_) (fun hq => ?_)
  · simp only [go_sem, seval]
    simp only [run.eq_1]
    refine run_sound Tryz.func9 mixed 200 _ _ (by kernel_rfl) ?_
    simp only [go_sem, seval]
  simp only [decide_eq_false_iff_not] at hq
  have hwa1 := szr_ge hq
  rw [szr_pos hwa1]
  clear hq
  simp only [go_sem, seval]
  have hmx : maxLen = 9223372036854775807 := rfl
  have hwp : wtL a0.enc ≤ 1048576 := by omega
  have hwt : wtL a1.enc ≤ 1048576 := by omega
  have hwr : wtR (a0.rels.map Rl.enc) ≤ 1048576 := by
    simpa only [Pg.enc_eq, wtL, D.wt, Nat.add_zero] using hwp
  have hx := toProgram_T a0 hwp
  have hy := toProof_T a1 hwt
  unfold toPT at hy
  have hg := iProofFact_T a0 a1 hwp hwt
  have hw0 := sProofFact_fn a0 a1 hwp hwt
  have hmR := Rl.mcnts_wt a0.rels
  have hmP := Pf.mcnt_wt a1
  have hmc := Pf.mcnt_eq a1
  have hA : wtR ((pfA a0 a1).map Tm.enc) ≤ 1048576 := by
    unfold pfA
    split
    · rename_i h
      have := (head_wt (prfOk_inv h).2).2.2
      simp only [Pf.enc_eq a1, wtL, D.wt] at hwt
      omega
    · simp [wtR]
  have hmA := Tm.mcnts_wt (pfA a0 a1)
  generalize pfA a0 a1 = A at hg hw0 hA hmA
  generalize pfR a0 a1 = R at hg hw0
  generalize a0.prfOk a1 = ok at hg hw0
  have hei := eqFc_fn R A hA
  have hmk := markProgram_T a0 1
  have hmk2 := fun q0 e0 B0 => markProof_T2 a1 (1 + Rl.mcnts a0.rels) q0 7 e0 ((Rl.mrks 1 a0.rels).map Rl.enc) B0
  have hmi := fun q0 z0 e0 q1 z1 e1 q2 z2 e2 xs0 xs1 xs2 B0 B1 B2 q e B => markFc_T R A 1 q0 z0 e0 q1 z1 e1 q2 z2 e2 xs0 xs1 xs2 B0 B1 B2 q e B (by omega) (by omega)
  have hhd := heldFc_fn R A 1 (by omega) (by omega)
  simp only [run.eq_1]
  refine AW.drawA mixed #[true, true, true, true, true, true, true, true, true, false, false] [(5, .box (a0.enc.map .d)), (6, .box (a1.enc.map .d))] [] [0, 2, 8, 1, 3, 4, 5, 7, 6] [9, 10] (some (8, 6, 91, [.string ⟨#[]⟩, .slice none 0 0])) (by kernel_rfl) tz91 (by simp [holdsB]) ?_
  simp only [go_sem, seval]
  repeat' (first
    | ((first | (refine br_n (fun hq => ?_) (fun hq => ?_)) | (refine idx_intro (fun x hx => have hq := hx; ?_))) <;> (try simp only [go_sem, seval, hq]))
    | (simp (disch := omega) only [wrap_ok])
    | ((first
      | (refine (htoa0 hwp).calls rfl ?_)
      | (refine (htoa1 hwt).calls rfl ?_)
      | (refine hw0.calls rfl ?_)
      | (refine ⟨sd, ?_⟩)
      | (refine ⟨by assumption, ?_⟩)) <;> (try simp only [go_sem, seval]))
    | assumption)
  refine run_sound Tryz.func9 mixed 51 _ _ (by kernel_rfl) ?_
  simp only [go_sem, seval, run.eq_1]
  refine ACalls.fresh (ds := [.agg a0.enc]) (m := 1) hx [0] rfl rfl (by simp) (by simp) ?_
  rintro c H' ⟨rfl, e1, B1, rfl⟩ _
  refine ⟨rfl, rfl, ?_⟩
  simp only [go_sem, seval]
  refine ACalls.fresh (ds := [.agg a1.enc]) (m := 2) hy [1, 2] rfl rfl (by simp) (by simp) ?_
  rintro c H' ⟨rfl, e2, B2, e3, B3, rfl⟩ _
  refine ⟨rfl, rfl, ?_⟩
  simp only [go_sem, seval]
  have hbf : ∀ e1 B1 e2 B2 e3 B3 X, borAll (.tree 1 7 e1 (a0.rels.map Rl.enc) B1 none :: .tree 1 4 e2 (a1.values.map Tm.enc) B2 none :: .tree 1 4 e3 (a1.kids.map Pf.enc) B3 none :: X) [.agg [.own 0 1], .agg [.d (.str a1.rel), .d (.int .i64 a1.clause), .own 1 1, .own 2 1]] = some [.agg a0.enc, .agg a1.enc] := fun e1 B1 e2 B2 e3 B3 X => by
    rw [Pg.enc_eq a0, Pf.enc_eq a1]; rfl
  have hbe0 : ∀ e1 B1 e2 B2 e3 B3 X, borAll (.tree 1 7 e1 (a0.rels.map Rl.enc) B1 none :: .tree 1 4 e2 (a1.values.map Tm.enc) B2 none :: .tree 1 4 e3 (a1.kids.map Pf.enc) B3 none :: X) [.agg [.own 0 1], .d (.agg a0.enc)] = some [.agg a0.enc, .agg a0.enc] := fun e1 B1 e2 B2 e3 B3 X => by
    rw [Pg.enc_eq a0]; rfl
  have hbe1 : ∀ e1 B1 e2 B2 e3 B3 X, borAll (.tree 1 7 e1 (a0.rels.map Rl.enc) B1 none :: .tree 1 4 e2 (a1.values.map Tm.enc) B2 none :: .tree 1 4 e3 (a1.kids.map Pf.enc) B3 none :: X) [.agg [.d (.str a1.rel), .d (.int .i64 a1.clause), .own 1 1, .own 2 1], .d (.agg a1.enc)] = some [.agg a1.enc, .agg a1.enc] := fun e1 B1 e2 B2 e3 B3 X => by
    rw [Pf.enc_eq a1]; rfl
  refine ACalls.fresh (ds := [.agg a0.enc, .agg a1.enc]) (m := 1) hg [3] (hbf _ _ _ _ _ _ _) rfl (by simp) (by simp) ?_
  rintro c H' ⟨rfl, e4, B4, rfl⟩ _
  refine ⟨rfl, rfl, ?_⟩
  simp only [go_sem, seval]
  refine hei.lend rfl (by simp only [go_sem, seval]) ?_
  simp only [go_sem, seval]
  refine (htoa0 hwp).callQ rfl ?_
  simp only [go_sem, seval]
  refine heqa0.lendQ rfl (hbe0 _ _ _ _ _ _ _) ?_
  simp only [go_sem, seval]
  refine (htoa1 hwt).callQ rfl ?_
  simp only [go_sem, seval]
  refine heqa1.lendQ rfl (hbe1 _ _ _ _ _ _ _) ?_
  simp only [go_sem, seval]
  refine ((hmk 1 _ _ (by omega) (by omega)).frame (X := [_, _, _, _, _, _, _, _, _, _]) rfl rfl ?_)
  rintro c H' ⟨rfl, B5, rfl⟩ _
  simp only [go_sem, seval]
  refine ((hmk2 1 _ _ 1 1 _ _ _ _ (by omega) (by omega)).frame (X := [_, _, _, _, _, _, _, _]) rfl rfl ?_)
  rintro c H' ⟨rfl, B6, B7, rfl⟩ _
  simp only [go_sem, seval]
  repeat' (first
    | ((first | (refine br_n (fun hq => ?_) (fun hq => ?_)) | (refine idx_intro (fun x hx => have hq := hx; ?_))) <;> (try simp only [go_sem, seval, hq]))
    | (simp (disch := omega) only [wrap_ok])
    | ((first
      | (refine hei.lend rfl (by simp only [go_sem, seval]) ?_)
      | (refine hhd.lend rfl (by simp only [go_sem, seval]) ?_)
      | (refine ((hmi _ _ _ _ _ _ _ _ _ _ _ _ _ _ _ 1 _ _).frame (X := [_, _, _, _, _, _, _]) rfl rfl ?_) <;> (rintro c H' ⟨rfl, B8, rfl⟩ _))
      | (refine ⟨sd, ?_⟩)
      | (refine ⟨by assumption, ?_⟩)) <;> (try simp only [go_sem, seval]))
    | assumption)
  all_goals first | (exfalso; omega) | skip
  simp only [run.eq_1]
  refine AW.drawA mixed #[true, true, true, true, true, true, true, true, true, false, false] [(5, .box (a0.enc.map .d)), (6, .box (a1.enc.map .d))] [] [0, 2, 8, 1, 3, 4, 5, 7, 6] [9, 10] (some (8, 15, 91, [.string ⟨#[]⟩, .slice none 0 0])) (by kernel_rfl) tz91 (by simp [holdsB]) ?_
  simp only [go_sem, seval]
  repeat' (first
    | ((first | (refine br_n (fun hq => ?_) (fun hq => ?_)) | (refine idx_intro (fun x hx => have hq := hx; ?_))) <;> (try simp only [go_sem, seval, hq]))
    | (simp (disch := omega) only [wrap_ok])
    | ((first
      | (refine (htoa0 hwp).calls rfl ?_)
      | (refine (htoa1 hwt).calls rfl ?_)
      | (refine ACalls.fresh (ds := [.agg a0.enc, .agg a1.enc]) (m := 1) hg [4] rfl rfl (by simp) (by simp) ?_ <;> (rintro c H' ⟨rfl, e9, B9, rfl⟩ _; refine ⟨rfl, rfl, ?_⟩))
      | (refine ⟨sd, ?_⟩)
      | (refine ⟨by assumption, ?_⟩)) <;> (try simp only [go_sem, seval]))
    | assumption)
  refine run_sound Tryz.func9 mixed 200 _ _ (by kernel_rfl) ?_
  simp only [go_sem, seval]
  repeat' (first
    | ((first | (refine br_n (fun hq => ?_) (fun hq => ?_)) | (refine idx_intro (fun x hx => have hq := hx; ?_))) <;> (try simp only [go_sem, seval, hq]))
    | (simp (disch := omega) only [wrap_ok])
    | ((first
      | (refine hei.lend rfl (by simp only [go_sem, seval]) ?_)
      | (refine hhd.lend rfl (by simp only [go_sem, seval]) ?_)
      | (refine ⟨sd, ?_⟩)
      | (refine ⟨by assumption, ?_⟩)) <;> (try simp only [go_sem, seval]))
    | assumption)
  all_goals first | (exfalso; omega) | skip
end Go.Proofs.YtmnbmpplndgfmaaGreat

