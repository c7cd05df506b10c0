import Derived.Test.YtbncaodnnbldmaaGreatW61
import Derived.Test.YtbncaodnnbldmaaGreatW62
import Derived.Test.YtbncaodnnbldmaaGreatW30
import Derived.Test.YtbncaodnnbldmaaGreatW10
import Derived.Test.YtbncaodnnbldmaaGreatFam
namespace Go.Proofs.YtbncaodnnbldmaaGreat
open Go.Abs
set_option maxRecDepth 100000
set_option maxHeartbeats 4000000
set_option linter.unusedSimpArgs false
set_option linter.unusedVariables false
theorem eqTm_fn : ∀ t : Tm, wtL t.enc ≤ 1048576 → Gives Tryz.prog 107 [.agg t.enc, .agg t.enc] (.d (.bool true)) := by
 intro t
 induction t using Tm.ind' with
 | h t ih =>
  intro hw
  have hmx : maxLen = 9223372036854775807 := rfl
  have hl : t.args.length ≤ 1048576 := by
   have h1 : wtR (t.args.map Tm.enc) ≤ 1048576 := by simp only [Tm.enc_eq t, wtL, D.wt] at hw; omega
   have := sumW_le (t.args.map Tm.enc) 0; simp [sumW] at this; omega
  rw [Tm.enc_eq t]
  refine eq107 _ _ _ _ (eq57 _ (by rw [List.length_map]; omega) (fun x hx => ?_))
  obtain ⟨y, hy, rfl⟩ := List.mem_map.1 hx
  exact ⟨Tm.enc_len y, ih y hy (by have := wt_args hy; omega)⟩
theorem eqGl_fn : ∀ t : Gl, wtL t.enc ≤ 1048576 → Gives Tryz.prog 18 [.agg t.enc, .agg t.enc] (.d (.bool true)) := by
 intro t
 induction t using Gl.ind' with
 | h t ih =>
  intro hw
  have hmx : maxLen = 9223372036854775807 := rfl
  have hl1 : t.terms.length ≤ 1048576 := by
   have h1 : wtR (t.terms.map Tm.enc) ≤ 1048576 := by simp only [Gl.enc_eq t, wtL, D.wt] at hw; omega
   have := sumW_le (t.terms.map Tm.enc) 0; simp [sumW] at this; omega
  have hl2 : t.goals.length ≤ 1048576 := by
   have h1 : wtR (t.goals.map Gl.enc) ≤ 1048576 := by simp only [Gl.enc_eq t, wtL, D.wt] at hw; omega
   have := sumW_le (t.goals.map Gl.enc) 0; simp [sumW] at this; omega
  rw [Gl.enc_eq t]
  refine eq18 _ _ _ _ (eq57 _ (by rw [List.length_map]; omega) (fun x hx => ?_)) (eq58 _ (by rw [List.length_map]; omega) (fun x hx => ?_))
  ·obtain ⟨y, hy, rfl⟩ := List.mem_map.1 hx
   exact ⟨Tm.enc_len y, eqTm_fn y (by have := Gl.wt_terms hy; omega)⟩
  ·obtain ⟨y, hy, rfl⟩ := List.mem_map.1 hx
   exact ⟨Gl.enc_len y, ih y hy (by have := Gl.wt_goals hy; omega)⟩
theorem ssG_wt {b : Bool} {g : Gl} (h : wtL g.enc ≤ 1048576) : wtL (ssG b g).enc ≤ 1048576 := by
 unfold ssG
 split
 ·exact h
 ·rw [Gl.enc_eq]
  simp only [Gl.kind, Gl.name, Gl.terms, Gl.goals, List.map_nil, wtL, D.wt, wtR, List.length_nil]
  omega
theorem lawFnExactStartStream (a0 : Pg) (a1 : Gl) (a2 : Int) (ha0 : Sh Tryz.prog 24 (a0.enc)) (ha1 : Sh Tryz.prog 38 (a1.enc)) : Gives Tryz.prog 4 [.agg a0.enc, .agg a1.enc, .int .i64 a2] (.d (.bool true)) := by
 have hsza0 := szc24 _ a0.enc (Nat.lt_succ_self _) ha0
 have htoa0 := fun hb => toc24 _ a0.enc (Nat.lt_succ_self _) hb ha0
 have heqa0 := eqc24 _ a0.enc (Nat.lt_succ_self _) ha0
 have hsza1 := szc38 _ a1.enc (Nat.lt_succ_self _) ha1
 have htoa1 := fun hb => toc38 _ a1.enc (Nat.lt_succ_self _) hb ha1
 have heqa1 := eqc38 _ a1.enc (Nat.lt_succ_self _) ha1
 refine ACalls.enter (fn := Tryz.f4) Tryz.func4 rfl (by show 3 ≤ _; decide) ?_
 refine AW.hole ?_
 refine AW.hole ?_
 refine AW.hole ?_
 refine AW.hole ?_
 refine AW.hole ?_
 refine AW.hole ?_
 refine AW.hole ?_
 refine run_sound Tryz.func4 mixed 19 _ _ (by kernel_rfl) ?_
 simp only [go_sem, seval, run.eq_1]
 refine (hsza0 _ (by omega) (by omega)).calls rfl ?_
 simp only [go_sem, seval]
 refine br_intro (fun hq => ?_) (fun hq => ?_)
 ·simp only [go_sem, seval]
 simp only [decide_eq_false_iff_not] at hq
 have hwa0 := szr_ge hq
 rw [szr_pos hwa0]
 clear hq
 simp only [go_sem, seval]
 refine (hsza1 _ (by omega) (by omega)).calls rfl ?_
 simp only [go_sem, seval]
 refine br_intro (fun hq => ?_) (fun hq => ?_)
 ·simp only [go_sem, seval]
  simp only [run.eq_1]
  refine run_sound Tryz.func4 mixed 200 _ _ (by kernel_rfl) ?_
  simp only [go_sem, seval]
 simp only [decide_eq_false_iff_not] at hq
 have hwa1 := szr_ge hq
 rw [szr_pos hwa1]
 clear hq
 simp only [go_sem, seval]
 have hmx : maxLen = 9223372036854775807 := rfl
 have hwp : wtL a0.enc ≤ 1048576 := by omega
 have hwt : wtL a1.enc ≤ 1048576 := by omega
 have hwr : wtR (a0.rels.map Rl.enc) ≤ 1048576 := by
  simpa only [Pg.enc_eq, wtL, D.wt, Nat.add_zero] using hwp
 have hx := toProgram_T a0 hwp
 have hy := toGoal_T a1 hwt
 unfold toGT at hy
 have hg := startStream_T a0 a1 a2 hwp hwt
 have hw0 := sStartStream_fn a0 a1 a2 hwp hwt
 have hmR := Rl.mcnts_wt a0.rels
 have hmP := Gl.mcnt_wt a1
 have hmc := Gl.mcnt_eq a1
 have hA := ssG_wt (b := ssB a0 a1 a2) hwt
 generalize ssG (ssB a0 a1 a2) a1 = G at hg hw0 hA
 generalize ssK (ssB a0 a1 a2) = K at hg hw0
 generalize ssN (ssB a0 a1 a2) a2 = M at hg hw0
 generalize ssB a0 a1 a2 = ok at hg hw0
 have hmA := Gl.mcnt_wt G
 have hmcA := Gl.mcnt_eq G
 have hei := eqStream_0 K M G (eqGl_fn G hA)
 have hmk := markProgram_T a0 1
 have hmk2 := fun q0 e0 B0 => markGoal_T1 a1 (1 + Rl.mcnts a0.rels) q0 7 e0 ((Rl.mrks 1 a0.rels).map Rl.enc) B0
 have hmi := fun q0 z0 e0 q1 z1 e1 q2 z2 e2 xs0 xs1 xs2 B0 B1 B2 q q' e e' B B' => markStream_T3 K M G 1 q0 z0 e0 q1 z1 e1 q2 z2 e2 xs0 xs1 xs2 B0 B1 B2 q q' e e' B B' (by omega) (by omega)
 have hhd := heldStream_0 K M G 1 (by omega) (by omega)
 unfold strmM at hhd
 unfold strmD at hw0 hei
 unfold strmC at hg
 simp only [run.eq_1]
 refine AW.drawA mixed #[true, true, true, true, true, true, true, true, true, true, false, false] [(7, .box (a0.enc.map .d)), (8, .box (a1.enc.map .d))] [] [0, 2, 4, 9, 1, 3, 5, 6, 8, 7] [10, 11] (some (9, 8, 55, [.int .i64 0, .int .i64 0, .slice none 0 0, .slice none 0 0, .slice none 0 0, .slice none 0 0, .slice none 0 0, .int .i64 0, .string ⟨#[]⟩, .slice none 0 0, .slice none 0 0, .slice none 0 0])) (by kernel_rfl) tz55 (by simp [holdsB]) ?_
 simp only [go_sem, seval]
 repeat' (first
  | ((first | (refine br_n (fun hq => ?_) (fun hq => ?_)) | (refine idx_intro (fun x hx => have hq := hx; ?_))) <;> (try simp only [go_sem, seval, hq]))
  | (simp (disch := omega) only [wrap_ok])
  | ((first
   | (refine (htoa0 hwp).calls rfl ?_)
   | (refine (htoa1 hwt).calls rfl ?_)
   | (refine hw0.calls rfl ?_)
   | (refine ⟨sd, ?_⟩)
   | (refine ⟨by assumption, ?_⟩)) <;> (try simp only [go_sem, seval]))
  | assumption)
 refine run_sound Tryz.func4 mixed 51 _ _ (by kernel_rfl) ?_
 simp only [go_sem, seval, run.eq_1]
 refine ACalls.fresh (ds := [.agg a0.enc]) (m := 1) hx [0] rfl rfl (by simp) (by simp) ?_
 rintro c H' ⟨rfl, e1, B1, rfl⟩ _
 refine ⟨rfl, rfl, ?_⟩
 simp only [go_sem, seval]
 refine ACalls.fresh (ds := [.agg a1.enc]) (m := 2) hy [1, 2] rfl rfl (by simp) (by simp) ?_
 rintro c H' ⟨rfl, e2, B2, e3, B3, rfl⟩ _
 refine ⟨rfl, rfl, ?_⟩
 simp only [go_sem, seval]
 have hbf : ∀ e1 B1 e2 B2 e3 B3 X, borAll (.tree 1 7 e1 (a0.rels.map Rl.enc) B1 none :: .tree 1 4 e2 (a1.terms.map Tm.enc) B2 none :: .tree 1 4 e3 (a1.goals.map Gl.enc) B3 none :: X) [.agg [.own 0 1], .agg [.d (.int .i64 a1.kind), .d (.str a1.name), .own 1 1, .own 2 1], .d (.int .i64 a2)] = some [.agg a0.enc, .agg a1.enc, .int .i64 a2] := fun e1 B1 e2 B2 e3 B3 X => by
  rw [Pg.enc_eq a0, Gl.enc_eq a1]; rfl
 have hbe0 : ∀ e1 B1 e2 B2 e3 B3 X, borAll (.tree 1 7 e1 (a0.rels.map Rl.enc) B1 none :: .tree 1 4 e2 (a1.terms.map Tm.enc) B2 none :: .tree 1 4 e3 (a1.goals.map Gl.enc) B3 none :: X) [.agg [.own 0 1], .d (.agg a0.enc)] = some [.agg a0.enc, .agg a0.enc] := fun e1 B1 e2 B2 e3 B3 X => by
  rw [Pg.enc_eq a0]; rfl
 have hbe1 : ∀ e1 B1 e2 B2 e3 B3 X, borAll (.tree 1 7 e1 (a0.rels.map Rl.enc) B1 none :: .tree 1 4 e2 (a1.terms.map Tm.enc) B2 none :: .tree 1 4 e3 (a1.goals.map Gl.enc) B3 none :: X) [.agg [.d (.int .i64 a1.kind), .d (.str a1.name), .own 1 1, .own 2 1], .d (.agg a1.enc)] = some [.agg a1.enc, .agg a1.enc] := fun e1 B1 e2 B2 e3 B3 X => by
  rw [Gl.enc_eq a1]; rfl
 refine ACalls.fresh (ds := [.agg a0.enc, .agg a1.enc, .int .i64 a2]) (m := 2) hg [3, 4] (hbf _ _ _ _ _ _ _) rfl (by simp) (by simp) ?_
 rintro c H' ⟨rfl, e4, B4, e5, B5, rfl⟩ _
 refine ⟨rfl, rfl, ?_⟩
 simp only [go_sem, seval]
 refine hei.lend rfl (by simp only [go_sem, seval]) ?_
 simp only [go_sem, seval]
 refine (htoa0 hwp).callQ rfl ?_
 simp only [go_sem, seval]
 refine heqa0.lendQ rfl (hbe0 _ _ _ _ _ _ _) ?_
 simp only [go_sem, seval]
 refine (htoa1 hwt).callQ rfl ?_
 simp only [go_sem, seval]
 refine heqa1.lendQ rfl (hbe1 _ _ _ _ _ _ _) ?_
 simp only [go_sem, seval]
 refine ((hmk 1 _ _ (by omega) (by omega)).frame (X := [_, _, _, _, _, _, _, _, _, _, _, _]) rfl rfl ?_)
 rintro c H' ⟨rfl, B6, rfl⟩ _
 simp only [go_sem, seval]
 refine ((hmk2 1 _ _ 1 1 _ _ _ _ (by omega) (by omega)).frame (X := [_, _, _, _, _, _, _, _, _, _]) rfl rfl ?_)
 rintro c H' ⟨rfl, B7, B8, rfl⟩ _
 simp only [go_sem, seval]
 repeat' (first
  | ((first | (refine br_n (fun hq => ?_) (fun hq => ?_)) | (refine idx_intro (fun x hx => have hq := hx; ?_))) <;> (try simp only [go_sem, seval, hq]))
  | (simp (disch := omega) only [wrap_ok])
  | ((first
   | (refine hei.lend rfl (by simp only [go_sem, seval]) ?_)
   | (refine hhd.lend rfl (by simp only [go_sem, seval]) ?_)
   | (refine ((hmi _ _ _ _ _ _ _ _ _ _ _ _ _ _ _ 1 1 _ _ _ _).frame (X := [_, _, _, _, _, _, _, _]) rfl rfl ?_) <;> (rintro c H' ⟨rfl, B9, B10, rfl⟩ _))
   | (refine ⟨sd, ?_⟩)
   | (refine ⟨by assumption, ?_⟩)) <;> (try simp only [go_sem, seval]))
  | assumption)
 all_goals first | (exfalso; omega) | skip
 simp only [run.eq_1]
 refine AW.drawA mixed #[true, true, true, true, true, true, true, true, true, true, false, false] [(7, .box (a0.enc.map .d)), (8, .box (a1.enc.map .d))] [] [0, 2, 4, 9, 1, 3, 5, 6, 8, 7] [10, 11] (some (9, 17, 55, [.int .i64 0, .int .i64 0, .slice none 0 0, .slice none 0 0, .slice none 0 0, .slice none 0 0, .slice none 0 0, .int .i64 0, .string ⟨#[]⟩, .slice none 0 0, .slice none 0 0, .slice none 0 0])) (by kernel_rfl) tz55 (by simp [holdsB]) ?_
 simp only [go_sem, seval]
 repeat' (first
  | ((first | (refine br_n (fun hq => ?_) (fun hq => ?_)) | (refine idx_intro (fun x hx => have hq := hx; ?_))) <;> (try simp only [go_sem, seval, hq]))
  | (simp (disch := omega) only [wrap_ok])
  | ((first
   | (refine (htoa0 hwp).calls rfl ?_)
   | (refine (htoa1 hwt).calls rfl ?_)
   | (refine ACalls.fresh (ds := [.agg a0.enc, .agg a1.enc, .int .i64 a2]) (m := 2) hg [5, 6] rfl rfl (by simp) (by simp) ?_ <;> (rintro c H' ⟨rfl, e11, B11, e12, B12, rfl⟩ _; refine ⟨rfl, rfl, ?_⟩))
   | (refine ⟨sd, ?_⟩)
   | (refine ⟨by assumption, ?_⟩)) <;> (try simp only [go_sem, seval]))
  | assumption)
 refine run_sound Tryz.func4 mixed 200 _ _ (by kernel_rfl) ?_
 simp only [go_sem, seval]
 repeat' (first
  | ((first | (refine br_n (fun hq => ?_) (fun hq => ?_)) | (refine idx_intro (fun x hx => have hq := hx; ?_))) <;> (try simp only [go_sem, seval, hq]))
  | (simp (disch := omega) only [wrap_ok])
  | ((first
   | (refine hei.lend rfl (by simp only [go_sem, seval]) ?_)
   | (refine hhd.lend rfl (by simp only [go_sem, seval]) ?_)
   | (refine ⟨sd, ?_⟩)
   | (refine ⟨by assumption, ?_⟩)) <;> (try simp only [go_sem, seval]))
  | assumption)
 all_goals first | (exfalso; omega) | skip
end Go.Proofs.YtbncaodnnbldmaaGreat
