import Derived.Test.YtbncaodnnbldmaaGreatW64
import Derived.Test.YtbncaodnnbldmaaGreatW65
import Derived.Test.YtbncaodnnbldmaaGreatW10
import Derived.Test.YtbncaodnnbldmaaGreatFam
namespace Go.Proofs.YtbncaodnnbldmaaGreat
open Go.Abs
set_option maxRecDepth 100000
set_option maxHeartbeats 4000000
set_option linter.unusedSimpArgs false
set_option linter.unusedVariables false
theorem nfL_le {p : Pg} (hw : wtL p.enc ≤ 1048576) : wtL (Pg.enc ⟨nfL p⟩) ≤ 9000000 := by
 unfold nfL
 split
 ·rename_i h
  unfold nfB at h
  simp only [Bool.and_eq_true] at h
  exact nf_wt h.1.1 hw
 ·simp [Pg.enc_eq, wtL, D.wt, wtR]
theorem lawFnExactNormalProgram (a0 : Pg) (ha0 : Sh Tryz.prog 24 (a0.enc)) : Gives Tryz.prog 3 [.agg a0.enc] (.d (.bool true)) := by
 have hsza0 := szc24 _ a0.enc (Nat.lt_succ_self _) ha0
 have htoa0 := fun hb => toc24 _ a0.enc (Nat.lt_succ_self _) hb ha0
 have heqa0 := eqc24 _ a0.enc (Nat.lt_succ_self _) ha0
 refine ACalls.enter (fn := Tryz.f3) Tryz.func3 rfl (by show 1 ≤ _; decide) ?_
 refine AW.hole ?_
 refine AW.hole ?_
 refine AW.hole ?_
 refine run_sound Tryz.func3 mixed 200 _ _ (by kernel_rfl) ?_
 simp only [go_sem, seval]
 refine (hsza0 _ (by omega) (by omega)).calls rfl ?_
 simp only [go_sem, seval]
 refine br_intro (fun hq => ?_) (fun hq => ?_)
 ·simp only [go_sem, seval]
 simp only [decide_eq_false_iff_not] at hq
 have hwa0 := szr_ge hq
 rw [szr_pos hwa0]
 clear hq
 simp only [go_sem, seval]
 have hmx : maxLen = 9223372036854775807 := rfl
 have hwp : wtL a0.enc ≤ 1048576 := by omega
 have hx := toProgram_T a0 hwp
 have hg := iNormalProgram_T a0 hwp
 have hw0 := sNormalProgram_fn a0 hwp
 have hmR := Rl.mcnts_wt a0.rels
 have hwr : wtR (a0.rels.map Rl.enc) ≤ 1048576 := by
  simpa only [Pg.enc_eq, wtL, D.wt, Nat.add_zero] using hwp
 have hA := nfL_le hwp
 generalize nfL a0 = L at hg hw0 hA
 generalize nfB a0 = ok at hg hw0
 have hei := eqPg_fn ⟨L⟩ hA
 rw [Pg.enc_eq] at hei
 have hmL := Rl.mcnts_wt L
 have hwL : wtR (L.map Rl.enc) ≤ 9000000 := by
  simpa only [Pg.enc_eq, wtL, D.wt, Nat.add_zero] using hA
 have hmk := markProgram_T a0 1
 have hmi := fun q0 z0 e0 xs0 B0 q e B => markProgram_T1 L 1 q0 z0 e0 xs0 B0 q e B (by omega) (by omega)
 have hhd := heldProgram_fn L 1 (by omega) (by omega)
 refine (htoa0 hwp).calls rfl ?_
 simp only [go_sem, seval]
 refine hw0.calls rfl ?_
 simp only [go_sem, seval]
 refine ACalls.fresh (ds := [.agg a0.enc]) (m := 1) hx [0] rfl rfl (by simp) (by simp) ?_
 rintro c H' ⟨rfl, e1, B1, rfl⟩ _
 refine ⟨rfl, rfl, ?_⟩
 simp only [go_sem, seval]
 have hbf : ∀ e1 B1 X, borAll (.tree 1 7 e1 (a0.rels.map Rl.enc) B1 none :: X) [.agg [.own 0 1]] = some [.agg a0.enc] := fun e1 B1 X => by
  rw [Pg.enc_eq a0]; rfl
 have hbe0 : ∀ e1 B1 X, borAll (.tree 1 7 e1 (a0.rels.map Rl.enc) B1 none :: X) [.agg [.own 0 1], .d (.agg a0.enc)] = some [.agg a0.enc, .agg a0.enc] := fun e1 B1 X => by
  rw [Pg.enc_eq a0]; rfl
 refine ACalls.fresh (ds := [.agg a0.enc]) (m := 1) hg [1] (hbf _ _ _) rfl (by simp) (by simp) ?_
 rintro c H' ⟨rfl, e4, B4, rfl⟩ _
 refine ⟨rfl, rfl, ?_⟩
 simp only [go_sem, seval]
 refine hei.lend rfl (by simp only [go_sem, seval]) ?_
 simp only [go_sem, seval]
 refine (htoa0 hwp).callQ rfl ?_
 simp only [go_sem, seval]
 refine heqa0.lendQ rfl (hbe0 _ _ _) ?_
 simp only [go_sem, seval]
 refine ((hmk 1 _ _ (by omega) (by omega)).frame (X := [_, _, _, _, _, _]) rfl rfl ?_)
 rintro c H' ⟨rfl, B6, rfl⟩ _
 simp only [go_sem, seval]
 repeat' (first
  | ((first | (refine br_n (fun hq => ?_) (fun hq => ?_)) | (refine idx_intro (fun x hx => have hq := hx; ?_))) <;> (try simp only [go_sem, seval, hq]))
  | (simp (disch := omega) only [wrap_ok])
  | ((first
   | (refine hei.lend rfl (by simp only [go_sem, seval]) ?_)
   | (refine hhd.lend rfl (by simp only [go_sem, seval]) ?_)
   | (refine ((hmi _ _ _ _ _ 1 _ _).frame (X := [_, _, _, _, _]) rfl rfl ?_) <;> (rintro c H' ⟨rfl, B9, rfl⟩ _))
   | (refine (htoa0 hwp).calls rfl ?_)
   | (refine ACalls.fresh (ds := [.agg a0.enc]) (m := 1) hg [2] rfl rfl (by simp) (by simp) ?_ <;> (rintro c H' ⟨rfl, e11, B11, rfl⟩ _; refine ⟨rfl, rfl, ?_⟩))
   | (refine ⟨sd, ?_⟩)
   | (refine ⟨by assumption, ?_⟩)) <;> (try simp only [go_sem, seval]))
  | assumption)
 all_goals first | (exfalso; omega) | skip
end Go.Proofs.YtbncaodnnbldmaaGreat
