import Derived.Test.YtbncaodnnbldmaaGreatW45
import Derived.Test.YtbncaodnnbldmaaGreatW30
import Derived.Test.YtbncaodnnbldmaaGreatW42
import Derived.Test.YtbncaodnnbldmaaGreatW10
import Derived.Test.YtbncaodnnbldmaaGreatFam
namespace Go.Proofs.YtbncaodnnbldmaaGreat
open Go.Abs
set_option maxRecDepth 100000
set_option maxHeartbeats 4000000
set_option linter.unusedSimpArgs false
set_option linter.unusedVariables false
theorem markProof_T2 (t : Pf) (k : Int) (q0 z0 e0 : Nat) (xs0 : List (List D)) (B0 : Nat → Prop) (q q' e e' : Nat) (B B' : Nat → Prop) (h0 : 0 ≤ k) (h1 : k + t.mcnt ≤ 1000000000) :
  ACalls Tryz.prog 28 [.agg [.d (.str t.rel), .d (.int .i64 t.clause), .own 1 q, .own 2 q'], .d (.int .i64 k)] [.tree q0 z0 e0 xs0 B0 none, .tree q 4 e (t.values.map Tm.enc) B none, .tree q' 4 e' (t.kids.map Pf.enc) B' none]
   (fun c H' => c = .d (.int .i64 (k + Tm.mcnts t.values + Pf.mcnts t.kids)) ∧ ∃ B1 B2, H' = [.tree q0 z0 e0 xs0 B0 none, .tree q 4 e ((Tm.mrks k t.values).map Tm.enc) B1 none, .tree q' 4 e' ((Pf.mrks (k + Tm.mcnts t.values) t.kids).map Pf.enc) B2 none]) := by
 have hmc := Pf.mcnt_eq t
 refine ACalls.enter (fn := Tryz.f28) Tryz.func28 rfl (by show 2 ≤ _; decide) ?_
 refine run_sound Tryz.func28 mixed 200 _ _ (by kernel_rfl) ?_
 simp only [go_sem, seval]
 repeat' (first
  | (exact ⟨_, _, rfl⟩)
  | ((first | (refine br_n (fun hq => ?_) (fun hq => ?_)) | (refine idx_intro (fun x hx => have hq := hx; ?_))) <;> (try simp only [go_sem, seval, C.at1, hq]))
  | (simp (disch := omega) only [wrap_ok])
  | ((first
   | (refine (mTT_all t.values k q e B (by omega) (by omega)).at1 rfl 1 rfl rfl ?_ <;> (rintro c o' ⟨rfl, B4, ho⟩; cases ho; refine ⟨rfl, rfl, ?_⟩))
   | (refine (mPT_all t.kids (k + Tm.mcnts t.values) q' e' B' (by omega) (by omega)).at1 rfl 2 rfl rfl ?_ <;> (rintro c o' ⟨rfl, B4, ho⟩; cases ho; refine ⟨rfl, rfl, ?_⟩))
   | (refine ⟨sd, ?_⟩)
   | (refine ⟨by assumption, ?_⟩)) <;> (try simp only [go_sem, seval, C.at1]))
  | assumption)
theorem lawFnExactProofChoices (a0 : Pg) (a1 : Pf) (ha0 : Sh Tryz.prog 24 (a0.enc)) (ha1 : Sh Tryz.prog 66 (a1.enc)) : Gives Tryz.prog 5 [.agg a0.enc, .agg a1.enc] (.d (.bool true)) := by
 have hsza0 := szc24 _ a0.enc (Nat.lt_succ_self _) ha0
 have htoa0 := fun hb => toc24 _ a0.enc (Nat.lt_succ_self _) hb ha0
 have heqa0 := eqc24 _ a0.enc (Nat.lt_succ_self _) ha0
 have hsza1 := szc66 _ a1.enc (Nat.lt_succ_self _) ha1
 have htoa1 := fun hb => toc66 _ a1.enc (Nat.lt_succ_self _) hb ha1
 have heqa1 := eqc66 _ a1.enc (Nat.lt_succ_self _) ha1
 refine ACalls.enter (fn := Tryz.f5) Tryz.func5 rfl (by show 2 ≤ _; decide) ?_
 refine AW.hole ?_
 refine AW.hole ?_
 refine AW.hole ?_
 refine AW.hole ?_
 refine AW.hole ?_
 refine run_sound Tryz.func5 mixed 71 _ _ (by kernel_rfl) ?_
 simp only [go_sem, seval, run.eq_1]
 refine (hsza0 _ (by omega) (by omega)).calls rfl ?_
 simp only [go_sem, seval]
 refine br_intro (fun hq => ?_) (fun hq => ?_)
 ·simp only [go_sem, seval]
 simp only [decide_eq_false_iff_not] at hq
 have hwa0 := szr_ge hq
 rw [szr_pos hwa0]
 clear hq
 simp only [go_sem, seval]
 refine (hsza1 _ (by omega) (by omega)).calls rfl ?_
 simp only [go_sem, seval]
 refine br_intro (fun hq => ?_) (fun hq => ?_)
 ·simp only [go_sem, seval]
 simp only [decide_eq_false_iff_not] at hq
 have hwa1 := szr_ge hq
 rw [szr_pos hwa1]
 clear hq
 simp only [go_sem, seval]
 have hmx : maxLen = 9223372036854775807 := rfl
 have hwp : wtL a0.enc ≤ 1048576 := by omega
 have hwt : wtL a1.enc ≤ 1048576 := by omega
 have hwr : wtR (a0.rels.map Rl.enc) ≤ 1048576 := by
  simpa only [Pg.enc_eq, wtL, D.wt, Nat.add_zero] using hwp
 have hx := toProgram_T a0 hwp
 have hy := toProof_T a1 hwt
 unfold toPT at hy
 have hg := iProofChoices_T a0 a1 hwp hwt
 have hw0 := sProofChoices_fn a0 a1 hwp hwt
 have hmR := Rl.mcnts_wt a0.rels
 have hmP := Pf.mcnt_wt a1
 have hmc := Pf.mcnt_eq a1
 have hV : (pcV a0 a1).length ≤ 12000 := by
  unfold pcV
  split
  ·rename_i h
   have h1 := Pg.chP_len (prfOk_inv1 h).1 a1 (prfOk_inv1 h).2
   unfold Pg.prfOk at h
   simp only [Bool.and_eq_true, decide_eq_true_eq] at h
   omega
  ·simp
 generalize pcV a0 a1 = V at hg hw0 hV
 generalize a0.prfOk a1 = ok at hg hw0
 have hei := eq26 (intsD V) (by rw [show (intsD V).length = V.length from by simp [intsD]]; omega) (fun x hx => by obtain ⟨n, _, rfl⟩ := List.mem_map.1 hx; exact ⟨n, rfl⟩)
 have hmk := markProgram_T a0 1
 have hmk2 := fun q0 e0 B0 => markProof_T2 a1 (1 + Rl.mcnts a0.rels) q0 7 e0 ((Rl.mrks 1 a0.rels).map Rl.enc) B0
 have hmi := fun q e B => markIntS_T V 1 q e B (by omega) (by omega) (by omega)
 have hhd := heldIntS_fn V 1 (by omega) (by omega) (by omega)
 refine (htoa0 hwp).callQ rfl ?_
 simp only [go_sem, seval]
 refine (htoa1 hwt).callQ rfl ?_
 simp only [go_sem, seval]
 refine hw0.callQ rfl ?_
 simp only [go_sem, seval]
 refine ACalls.fresh (ds := [.agg a0.enc]) (m := 1) hx [0] rfl rfl (by simp) (by simp) ?_
 rintro c H' ⟨rfl, e1, B1, rfl⟩ _
 refine ⟨rfl, rfl, ?_⟩
 simp only [go_sem, seval]
 refine ACalls.fresh (ds := [.agg a1.enc]) (m := 2) hy [1, 2] rfl rfl (by simp) (by simp) ?_
 rintro c H' ⟨rfl, e2, B2, e3, B3, rfl⟩ _
 refine ⟨rfl, rfl, ?_⟩
 simp only [go_sem, seval]
 have hbf : ∀ e1 B1 e2 B2 e3 B3 X, borAll (.tree 1 7 e1 (a0.rels.map Rl.enc) B1 none :: .tree 1 4 e2 (a1.values.map Tm.enc) B2 none :: .tree 1 4 e3 (a1.kids.map Pf.enc) B3 none :: X) [.agg [.own 0 1], .agg [.d (.str a1.rel), .d (.int .i64 a1.clause), .own 1 1, .own 2 1]] = some [.agg a0.enc, .agg a1.enc] := fun e1 B1 e2 B2 e3 B3 X => by
  rw [Pg.enc_eq a0, Pf.enc_eq a1]; rfl
 have hbe0 : ∀ e1 B1 e2 B2 e3 B3 X, borAll (.tree 1 7 e1 (a0.rels.map Rl.enc) B1 none :: .tree 1 4 e2 (a1.values.map Tm.enc) B2 none :: .tree 1 4 e3 (a1.kids.map Pf.enc) B3 none :: X) [.agg [.own 0 1], .d (.agg a0.enc)] = some [.agg a0.enc, .agg a0.enc] := fun e1 B1 e2 B2 e3 B3 X => by
  rw [Pg.enc_eq a0]; rfl
 have hbe1 : ∀ e1 B1 e2 B2 e3 B3 X, borAll (.tree 1 7 e1 (a0.rels.map Rl.enc) B1 none :: .tree 1 4 e2 (a1.values.map Tm.enc) B2 none :: .tree 1 4 e3 (a1.kids.map Pf.enc) B3 none :: X) [.agg [.d (.str a1.rel), .d (.int .i64 a1.clause), .own 1 1, .own 2 1], .d (.agg a1.enc)] = some [.agg a1.enc, .agg a1.enc] := fun e1 B1 e2 B2 e3 B3 X => by
  rw [Pf.enc_eq a1]; rfl
 refine ACalls.fresh (ds := [.agg a0.enc, .agg a1.enc]) (m := 1) hg [3] (hbf _ _ _ _ _ _ _) rfl (by simp) (by simp) ?_
 rintro c H' ⟨rfl, e4, B4, rfl⟩ _
 refine ⟨rfl, rfl, ?_⟩
 simp only [go_sem, seval]
 refine hei.lend rfl (by simp only [go_sem, seval]) ?_
 simp only [go_sem, seval]
 refine (htoa0 hwp).callQ rfl ?_
 simp only [go_sem, seval]
 refine heqa0.lendQ rfl (hbe0 _ _ _ _ _ _ _) ?_
 simp only [go_sem, seval]
 refine (htoa1 hwt).callQ rfl ?_
 simp only [go_sem, seval]
 refine heqa1.lendQ rfl (hbe1 _ _ _ _ _ _ _) ?_
 simp only [go_sem, seval]
 refine ((hmk 1 _ _ (by omega) (by omega)).frame (X := [_, _, _, _, _, _, _, _]) rfl rfl ?_)
 rintro c H' ⟨rfl, B5, rfl⟩ _
 simp only [go_sem, seval]
 refine ((hmk2 1 _ _ 1 1 _ _ _ _ (by omega) (by omega)).frame (X := [_, _, _, _, _, _]) rfl rfl ?_)
 rintro c H' ⟨rfl, B6, B7, rfl⟩ _
 simp only [go_sem, seval]
 repeat' (first
  | ((first | (refine br_n (fun hq => ?_) (fun hq => ?_)) | (refine idx_intro (fun x hx => have hq := hx; ?_))) <;> (try simp only [go_sem, seval, C.at1, hq]))
  | (simp (disch := omega) only [wrap_ok])
  | ((first
   | (refine hei.lend rfl (by simp only [go_sem, seval]) ?_)
   | (refine hhd.lend rfl (by simp only [go_sem, seval]) ?_)
   | (refine (hmi 1 _ _).at1 rfl 3 rfl rfl ?_ <;> (rintro c o' ⟨rfl, B8, ho⟩; cases ho; refine ⟨rfl, rfl, ?_⟩))
   | (refine ⟨sd, ?_⟩)
   | (refine ⟨by assumption, ?_⟩)) <;> (try simp only [go_sem, seval, C.at1]))
  | assumption)
 all_goals first | (exfalso; omega) | skip
 simp only [run.eq_1]
 refine AW.drawA mixed #[true, true, true, true, true, true, true, true, false, false] [(5, .box (a0.enc.map .d)), (6, .box (a1.enc.map .d))] [] [0, 2, 1, 3, 4, 5, 7, 6] [8, 9] none (by kernel_rfl) trivial (by simp [holdsB]) ?_
 simp only [go_sem, seval]
 repeat' (first
  | ((first | (refine br_n (fun hq => ?_) (fun hq => ?_)) | (refine idx_intro (fun x hx => have hq := hx; ?_))) <;> (try simp only [go_sem, seval, hq]))
  | (simp (disch := omega) only [wrap_ok])
  | ((first
   | (refine (htoa0 hwp).calls rfl ?_)
   | (refine (htoa1 hwt).calls rfl ?_)
   | (refine ACalls.fresh (ds := [.agg a0.enc, .agg a1.enc]) (m := 1) hg [4] rfl rfl (by simp) (by simp) ?_ <;> (rintro c H' ⟨rfl, e9, B9, rfl⟩ _; refine ⟨rfl, rfl, ?_⟩))
   | (refine ⟨sd, ?_⟩)
   | (refine ⟨by assumption, ?_⟩)) <;> (try simp only [go_sem, seval]))
  | assumption)
 refine run_sound Tryz.func5 mixed 200 _ _ (by kernel_rfl) ?_
 simp only [go_sem, seval]
 repeat' (first
  | ((first | (refine br_n (fun hq => ?_) (fun hq => ?_)) | (refine idx_intro (fun x hx => have hq := hx; ?_))) <;> (try simp only [go_sem, seval, hq]))
  | (simp (disch := omega) only [wrap_ok])
  | ((first
   | (refine hei.lend rfl (by simp only [go_sem, seval]) ?_)
   | (refine hhd.lend rfl (by simp only [go_sem, seval]) ?_)
   | (refine ⟨sd, ?_⟩)
   | (refine ⟨by assumption, ?_⟩)) <;> (try simp only [go_sem, seval]))
  | assumption)
 all_goals first | (exfalso; omega) | skip
end Go.Proofs.YtbncaodnnbldmaaGreat
